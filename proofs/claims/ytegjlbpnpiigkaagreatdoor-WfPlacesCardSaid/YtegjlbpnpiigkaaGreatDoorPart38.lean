/- Part 38 of a proof; no condition. -/
import Derived.Test.YtegjlbpnpiigkaaGreatDoorPart36
set_option linter.unusedSimpArgs false
set_option linter.unusedVariables false
section
namespace Go.Hs
section
variable {P:Program} {E:Ent} {s:AS} {a:Act} {w:World}
def AObj.toAny:AObj→AObj
 | .dead => .dead
 | .cells _ g fz cs => .cells .any g fz (Z2a Col.ent cs)
 | .mp .. => .dead
def AObj.backNew:AObj→AObj
 | .dead => .dead
 | .cells _ g fz cs => .cells .new g fz (Z2a Col.bk cs)
 | .mp .. => .dead
theorem Zj1 {G:Nat→V} (hGok:GOk G) {f:FuncId} {args:List V} {H:Heap} {K:V→Heap→Prop} (D:Nat→Bool) (hnew:∀ o c g fz cs,D o=true→H o = .cells c g fz cs→c = .new) (hen:Zha P f=true)
  (h:Spec P G f (args.map (V.recol Col.ent)) (fun o=>if D o then (H o).toAny else .dead)
   (fun v H'=>∃ H'',(∀ o,H'' o = .dead∨H'' o=(H' o).backNew∨(D o=false∧H'' o=H o))∧K (v.recol Col.bk) H'')):CallA P G f args H K:=by
 refine ⟨hen,fun X cargs hI hG hA=>?_⟩;have lt:∀ {b i:Nat} {x:Value},X.cell b i=some x→b<X.w.heap.size:=fun hc=>World.block_lt_of_cell? _ _ hc
 let Xe:Cx:={ X with base:=X.w.heap.size }
 have hent:∀ c b,b<X.w.heap.size→Col.ok c X.base b→(Col.ent c).ok Xe.base b:=by
  intro c b hb _;cases c
  ·exact hb
  ·exact hb
  ·trivial
 let H1:Heap:=fun o=>if D o then (H o).toAny else .dead
 have hH1:∀ o c g fz cs,H1 o = .cells c g fz cs→∃ c0 cs0,D o=true∧H o = .cells c0 g fz cs0∧c=Col.any∧cs=Z2a Col.ent cs0:=by
  intro o c g fz cs ho;simp only [H1] at ho
  split at ho
  ·rename_i hd
   cases hh:H o with
   | dead=>rw [hh] at ho;simp [AObj.toAny,AObj.backNew] at ho
   | mp=>rw [hh] at ho;simp [AObj.toAny,AObj.backNew] at ho
   | cells c0 g0 fz0 cs0 =>
    rw [hh] at ho;simp only [AObj.toAny,AObj.backNew,AObj.cells.injEq] at ho;obtain ⟨rfl,rfl,rfl,rfl⟩:=ho;exact ⟨c0,cs0,hd,rfl,rfl,rfl⟩
  ·cases ho
 have hIe:Inv Xe H1:=by
  refine ⟨?_,?_,?_,hI.fin,Nat.le_refl _,fun b i hs hb=>absurd (hI.safe b i hs).1 (Nat.not_lt.2 hb),.no fun o lo b ks vs ho=>by
   simp only [H1] at ho
   split at ho
   ·cases hh:H o<;>rw [hh] at ho<;>simp [AObj.toAny] at ho
   ·cases ho⟩
  ·intro o c g fz cs ho
   obtain ⟨c0,cs0,_,h1,rfl,rfl⟩:=hH1 _ _ _ _ _ ho;obtain ⟨b,bs,h2,h3,c',t,h4,h5,h6⟩:=hI.obj o c0 g fz cs0 h1;refine ⟨b,bs,h2,trivial,c',t,h4,by rw [Z3,List.length_map];exact h5,?_⟩;have:=h6.conv (X:=X) (Y:=Xe) Col.ent (fun _ _ h=>h) (fun _ _ _ _ h=>h) ⟨fun _ c _ h=>⟨c,h,rfl⟩,fun _ _ _ _ h=>h⟩ hent (fun _ _ _ h=>h);rw [Z3,List.length_map];rw [Z3] at this;exact this
  ·intro o1 c1 g1 f1 l1 o2 c2 g2 f2 l2 b s1 s2 h1 h2 b1 b2
   obtain ⟨_,_,_,h1,_,_⟩:=hH1 _ _ _ _ _ h1;obtain ⟨_,_,_,h2,_,_⟩:=hH1 _ _ _ _ _ h2;exact hI.inj _ _ _ _ _ _ _ _ _ _ _ _ _ h1 h2 b1 b2
  ·intro b i hs
   refine ⟨(hI.safe b i hs).1,fun o c g fz cs bs ho hb=>?_⟩;obtain ⟨_,_,_,h1,_,_⟩:=hH1 _ _ _ _ _ ho;exact (hI.safe b i hs).2 _ _ _ _ _ _ h1 hb
 have hGe:∀ g,RelG Xe g (G g):=by
  intro g;refine ⟨?_,(hG g).sz.reb rfl rfl (hGok g).1⟩;have:=(hG g).rel.conv (X:=X) (Y:=Xe) Col.ent (fun _ _ h=>h) (fun _ _ _ _ h=>h) ⟨fun _ c _ h=>⟨c,h,rfl⟩,fun _ _ _ _ h=>h⟩ hent (.inl fun _ _ _ h=>h);rwa [(hGok g).1] at this
 have hAe:RelA Xe cargs (args.map (V.recol Col.ent)):=by
  refine ⟨by simpa using hA.len,fun i h1 h2=>?_⟩;simp only [List.getElem_map];exact (hA.rel i h1 (by simpa using h2)).conv (X:=X) (Y:=Xe) Col.ent (fun _ _ h=>h) (fun _ _ _ _ h=>h) ⟨fun _ c _ h=>⟨c,h,rfl⟩,fun _ _ _ _ h=>h⟩ hent (.inl fun _ _ _ h=>h)
 refine (h Xe cargs rfl hIe hGe hAe).mono ?_;rintro e w' ⟨c,v,H',Y,rfl,rfl,hg,hr,H'',hH'',hk⟩
 let Z:Cx:={ Y with base:=X.base }
 have hbk:∀ c b,b<Y.w.heap.size→Col.ok c Y.base b→(Col.bk c).ok Z.base b:=by
  intro c b _ hok;have hbase:Y.base=X.w.heap.size:=hg.le.base;have:=hI.bw;cases c
  ·simp only [Col.ok,Col.bk] at hok ⊢
   show X.base≤b
   omega
  ·trivial
  ·trivial
 have hXZ:X.le Z:=⟨hg.le.β,hg.le.S,hg.le.cell,rfl,hg.le.blk,hg.le.map⟩
 have hLive:∀ b,LiveB Xe H1 b→LiveB X H b:=by
  rintro b ⟨o,c,g,fz,cs,bs,ho,hb⟩;obtain ⟨c0,cs0,_,h1,_,_⟩:=hH1 _ _ _ _ _ ho;exact ⟨o,c0,g,fz,cs0,bs,h1,hb⟩
 have hrest:∀ o,D o=false→∀ c g fz cs b bs,H o = .cells c g fz cs→X.β o g=some (b,bs)→¬ LiveB Xe H1 b:=by
  rintro o hd c g fz cs b bs ho hb ⟨o',c',g',fz',cs',bs',ho',hb'⟩;obtain ⟨c0,cs0,hd',h1,_,_⟩:=hH1 _ _ _ _ _ ho';have:=hI.inj _ _ _ _ _ _ _ _ _ _ _ _ _ ho h1 hb hb';subst this;rw [hd] at hd';cases hd'
 have hcase:∀ o c g fz cs,H'' o = .cells c g fz cs→(∃ c0 cs0,H' o = .cells c0 g fz cs0∧c=Col.new∧cs=Z2a Col.bk cs0)∨(D o=false∧H o = .cells c g fz cs):=by
  intro o c g fz cs ho
  rcases hH'' o with h1 | h1 | ⟨h2,h3⟩
  ·rw [h1] at ho;cases ho
  ·rw [h1] at ho
   cases hh:H' o with
   | dead=>rw [hh] at ho;simp [AObj.toAny,AObj.backNew] at ho
   | mp=>rw [hh] at ho;simp [AObj.toAny,AObj.backNew] at ho
   | cells c0 g0 fz0 cs0 =>
    rw [hh] at ho;simp only [AObj.toAny,AObj.backNew,AObj.cells.injEq] at ho;obtain ⟨rfl,rfl,rfl,rfl⟩:=ho;exact .inl ⟨c0,cs0,rfl,rfl,rfl⟩
  ·exact .inr ⟨h2,by rw [← h3];exact ho⟩
 have hkept:∀ o,D o=false→∀ c g fz cs,H o = .cells c g fz cs→∃ b bs,X.β o g=some (b,bs)∧Y.β o g=some (b,bs)∧b<X.w.heap.size∧Y.w.heap[b]? = X.w.heap[b]? := by
  intro o hd c g fz cs ho;obtain ⟨b,bs,h2,_⟩:=hI.obj o c g fz cs ho;have hlt:=hI.lt ho h2;exact ⟨b,bs,h2,hg.le.β _ _ _ h2,hlt,hg.kp.block b hlt (hrest o hd c g fz cs b bs ho h2)⟩
 have hlive':∀ o c g fz cs b bs,H' o = .cells c g fz cs→Y.β o g=some (b,bs)→X.w.heap.size≤b∨LiveB Xe H1 b:=fun o c g fz cs b bs ho hb=>hg.on b ⟨o,c,g,fz,cs,bs,ho,hb⟩
 have hlv:∀ o c g fz cs b bs,H' o = .cells c g fz cs→Y.β o g=some (b,bs)→X.base≤b:=by
  intro o c g fz cs b bs ho hb
  rcases hlive' o c g fz cs b bs ho hb with h1 | ⟨o',c',g',fz',cs',bs',ho',hb'⟩
  ·exact Nat.le_trans hI.bw h1
  ·obtain ⟨c0,cs0,hd',h1,_,_⟩:=hH1 _ _ _ _ _ ho'
   obtain rfl:=hnew _ _ _ _ _ hd' h1;obtain ⟨b2,bs2,h2,h3,_⟩:=hI.obj _ _ _ _ _ h1;rw [show X.β o' g'=some (b,bs') from hb'] at h2;cases h2;exact h3
 have hSnZ:∀ b i,Z.S b i→X.S b i∨X.w.heap.size≤b∨LiveB X H b:=by
  intro b i hs
  rcases hg.Sn b i hs with h1 | h1 | h1
  ·exact .inl h1
  ·exact .inr (.inl h1)
  ·exact .inr (.inr (hLive b h1))
 refine ⟨c,v.recol Col.bk,H'',Z,rfl,rfl,⟨⟨?_,?_,?_,hg.inv.fin,?_,fun b i hs hb=>(by
  rcases hg.Sn b i hs with h1 | h1 | h1
  ·rcases hI.thaw b i h1 hb with ⟨c1,t1,h2⟩ | ⟨rfl,es,n,h2⟩
   ·obtain ⟨c2,h3,_⟩:=hXZ.blk b c1 t1 h2
    exact .inl ⟨c2,t1,h3⟩
   ·exact .inr ⟨rfl,es,n,hXZ.map b es n h1 h2⟩
  ·exact hg.inv.thaw b i hs (by rw [hg.le.base];exact h1)
  ·obtain ⟨c1,t1,h2⟩:=hI.live_thaw (hLive b h1)
   obtain ⟨c2,h3,_⟩:=hXZ.blk b c1 t1 h2
   exact .inl ⟨c2,t1,h3⟩),hI.mps_tr hXZ (fun o lo b ks vs ho=>by
    rcases hH'' o with h1 | h1 | ⟨_,h1⟩
    ·rw [h1] at ho;cases ho
    ·rw [h1] at ho;cases hh:H' o<;>rw [hh] at ho<;>simp [AObj.backNew] at ho
    ·rw [← h1];exact ho) (hg.kp.mono fun b _ hl=>hLive b hl) hSnZ⟩,hXZ,?_,?_,?_⟩,?_,hk⟩
 ·intro o c g fz cs ho
  rcases hcase o c g fz cs ho with ⟨c0,cs0,h1,rfl,rfl⟩ | ⟨hd,h1⟩
  ·obtain ⟨b,bs,h2,h3,c',t,h4,h5,h6⟩:=hg.inv.obj o c0 g fz cs0 h1
   refine ⟨b,bs,h2,hlv _ _ _ _ _ _ _ h1 h2,c',t,h4,by rw [Z3,List.length_map];exact h5,?_⟩;have:=h6.conv (X:=Y) (Y:=Z) Col.bk (fun _ _ h=>h) (fun _ _ _ _ h=>h) ⟨fun _ c _ h=>⟨c,h,rfl⟩,fun _ _ _ _ h=>h⟩ hbk (fun _ _ _ h=>h);rw [Z3,List.length_map];rw [Z3] at this;exact this
  ·obtain ⟨b,bs,h2,h3,h4,h5⟩:=hkept o hd c g fz cs h1
   obtain ⟨b',bs',h2',h6,c',t,h7,h8,h9⟩:=hI.obj o c g fz cs h1;rw [h2] at h2';cases h2';exact ⟨b,bs,h3,h6,c',t,by show Y.w.heap[b]? = _;rw [h5];exact h7,h8,h9.mono hXZ⟩
 ·intro o1 c1 g1 f1 l1 o2 c2 g2 f2 l2 b s1 s2 h1 h2 b1 b2
  rcases hcase _ _ _ _ _ h1 with ⟨d1,m1,h1,_,_⟩ | ⟨hd1,h1⟩
  ·rcases hcase _ _ _ _ _ h2 with ⟨d2,m2,h2,_,_⟩ | ⟨hd2,h2⟩
   ·exact hg.inv.inj _ _ _ _ _ _ _ _ _ _ _ _ _ h1 h2 b1 b2
   ·obtain ⟨b',bs',q1,q2,q3,q4⟩:=hkept o2 hd2 _ _ _ _ h2
    rw [show Z.β o2 g2=Y.β o2 g2 from rfl,q2] at b2;cases b2
    rcases hlive' _ _ _ _ _ _ _ h1 b1 with q5 | q5
    ·omega
    ·exact absurd q5 (hrest o2 hd2 _ _ _ _ _ _ h2 q1)
  ·obtain ⟨b',bs',q1,q2,q3,q4⟩:=hkept o1 hd1 _ _ _ _ h1
   rw [show Z.β o1 g1=Y.β o1 g1 from rfl,q2] at b1;cases b1
   rcases hcase _ _ _ _ _ h2 with ⟨d2,m2,h2,_,_⟩ | ⟨hd2,h2⟩
   ·rcases hlive' _ _ _ _ _ _ _ h2 b2 with q5 | q5
    ·omega
    ·exact absurd q5 (hrest o1 hd1 _ _ _ _ _ _ h1 q1)
   ·obtain ⟨b'',bs'',p1,p2,p3,p4⟩:=hkept o2 hd2 _ _ _ _ h2
    rw [show Z.β o2 g2=Y.β o2 g2 from rfl,p2] at b2;cases b2;exact hI.inj _ _ _ _ _ _ _ _ _ _ _ _ _ h1 h2 q1 p1
 ·intro b i hs
  have hs':=hg.inv.safe b i hs;refine ⟨hs'.1,fun o c g fz cs bs ho hb=>?_⟩
  rcases hcase _ _ _ _ _ ho with ⟨d1,m1,h1,_,_⟩ | ⟨hd1,h1⟩
  ·exact hs'.2 _ _ _ _ _ _ h1 hb
  ·obtain ⟨b',bs',q1,q2,q3,q4⟩:=hkept o hd1 _ _ _ _ h1
   rw [show Z.β o g=Y.β o g from rfl,q2] at hb;cases hb
   rcases hg.Sn b i hs with q5 | q5 | q5
   ·exact (hI.safe b i q5).2 _ _ _ _ _ _ h1 q1
   ·have:X.w.heap.size≤b:=q5
    omega
   ·exact absurd q5 (hrest o hd1 _ _ _ _ _ _ h1 q1)
 ·have h1:=hI.bw
  have h2:X.w.heap.size≤Y.w.heap.size:=hg.kp.size
  show X.base≤Y.w.heap.size
  omega
 ·exact hg.kp.mono fun b _ hl=>hLive b hl
 ·intro b i hs
  rcases hg.Sn b i hs with h1 | h1 | h1
  ·exact .inl h1
  ·exact .inr (.inl h1)
  ·exact .inr (.inr (hLive b h1))
 ·rintro b ⟨o,c,g,fz,cs,bs,ho,hb⟩
  rcases hcase _ _ _ _ _ ho with ⟨d1,m1,h1,_,_⟩ | ⟨hd1,h1⟩
  ·rcases hlive' _ _ _ _ _ _ _ h1 hb with q | q
   ·exact .inl q
   ·exact .inr (hLive b q)
  ·obtain ⟨b',bs',q1,q2,q3,q4⟩:=hkept o hd1 _ _ _ _ h1
   rw [show Z.β o g=Y.β o g from rfl,q2] at hb;cases hb;exact .inr ⟨o,c,g,fz,cs,bs,h1,q1⟩
 ·exact hr.conv (X:=Y) (Y:=Z) Col.bk (fun _ _ h=>h) (fun _ _ _ _ h=>h) ⟨fun _ c _ h=>⟨c,h,rfl⟩,fun _ _ _ _ h=>h⟩ hbk (.inl fun _ _ _ h=>h)
theorem Zvx {G:Nat→V} (hGok:GOk G) {f:FuncId} {args:List V} {H:Heap} {K:V→Heap→Prop} (m:List (Nat × AObj)) (hen:Zha P f=true) (hm:∀ p∈m,(H p.1).toAny=p.2)
  (hnew:∀ p∈m,∀ c g fz cs,H p.1 = .cells c g fz cs→c = .new)
  (h:Spec P G f (args.map (V.recol Col.ent)) (Zob Zl m) (fun v H'=>K (v.recol Col.bk) (Zob H (m.map fun p=>(p.1,(H' p.1).backNew))))):CallA P G f args H K:=by
 refine Zj1 hGok (fun o=>m.any (·.1==o)) ?_ hen ?_
 ·intro o c g fz cs hd ho
  rw [List.any_eq_true] at hd;obtain ⟨p,hp,he⟩:=hd
  have he:p.1=o:=by simpa using he
  exact hnew p hp c g fz cs (he ▸ ho)
 have e:(fun o=>if m.any (·.1==o) then (H o).toAny else .dead)=Zob Zl m:=by
  funext o
  exact (Zwm AObj.toAny o m hm).symm
 rw [e];refine h.mono fun v H' hk=>⟨_,fun o=>?_,hk⟩;rw [Zvm AObj.backNew o m]
 by_cases ho:m.any (·.1==o)=true
 ·rw [if_pos ho];exact .inr (.inl rfl)
 ·rw [if_neg ho];exact .inr (.inr ⟨Bool.eq_false_iff.2 ho,rfl⟩)
end
end Go.Hs
end
