/- Part 46 of a proof; no condition. -/
import Derived.Test.YtegjlbpnpiigkaaGreatDoorPart26
set_option linter.unusedSimpArgs false
set_option linter.unusedVariables false
section
namespace Go.Hs
section
variable {P:Program} {E:Ent} {s:AS} {a:Act} {w:World}
def InSp (P:Program) (G:Nat→V) (f:FuncId) (args:List V) (H:Heap) (K:V→Heap→Prop):Prop :=
 ∀ (X:Cx) (cargs:Array Value),Inv X H→(∀ g,RelG X g (G g))→RelA X cargs args →
  Calls P f cargs X.w (fun e w'=>∃ c v H' Y,e = .returned c∧Y.w=w'∧Goes X H Y H'∧Rel Y c v∧K v H')
theorem InSp.mono {G:Nat→V} {f:FuncId} {args:List V} {H:Heap} {K K':V→Heap→Prop} (h:InSp P G f args H K) (hk:∀ v H',K v H'→K' v H'):InSp P G f args H K' :=
 fun X cargs h1 h2 h3=>(h X cargs h1 h2 h3).mono fun e w' ⟨c,v,H',Y,a1,a2,a3,a4,a5⟩=>⟨c,v,H',Y,a1,a2,a3,a4,hk _ _ a5⟩
theorem Zav {G:Nat→V} {f:FuncId} {fn:Func} {c:Code} {args:List V} {H:Heap} {K:V→Heap→Prop} (q:Nat) (hf:P.funcs[f]? = some fn) (hb:fn.body=some c) (hn0:Nat.ble args.length fn.ntmps=true)
  (h:∀ X,AW P ⟨X,H,fn.ntmps,q,G,none,[]⟩ c (Zuk P fn.results.toList K) ⟨Zds args,H⟩):InSp P G f args H K:=by
 intro X cargs hI hG hA;have hn:args.length≤fn.ntmps:=Nat.le_of_ble_eq_true hn0;refine calls_of_wp hf hb ?_;have hlen:=hA.len
 have hs0:Sat ⟨X,H,fn.ntmps,q,G,none,[]⟩ ⟨Zds args,H⟩ { tmps:=cargs++Array.replicate (fn.ntmps-cargs.size) undef,defers:=[] } X.w:=by
  refine ⟨X,rfl,Goes.refl hI,.none _,by simp;omega,?_,hG⟩;intro t;simp only [Zds]
  by_cases ht:t<args.length
  ·rw [if_pos ht]
   have h1:(cargs++Array.replicate (fn.ntmps-cargs.size) undef).getD t undef=cargs[t]'(by omega):=by
    simp [Array.getD,Array.getElem_append,hlen,ht];intro hh;omega
   rw [h1];have:=hA.rel t (by omega) ht;simpa [List.getD,List.getElem?_eq_getElem ht] using this
  ·rw [if_neg ht]
   have h1:(cargs++Array.replicate (fn.ntmps-cargs.size) undef).getD t undef=undef:=by
    rw [Array.getD_eq_getD_getElem?,Array.getElem?_append_right (by omega)]
    by_cases h2:t-cargs.size<fn.ntmps-cargs.size
    ·rw [Array.getElem?_replicate,if_pos h2];rfl
    ·rw [Array.getElem?_replicate,if_neg h2];rfl
   rw [h1];exact .tuple #[] [] rfl (fun i h1 h2=>by simp at h2)
 refine wp_mono (h X _ _ hs0) ?_;rintro e a' w' (⟨s',⟨Y,hY⟩,hQ⟩ | ⟨ch,rfl,hp⟩);rotate_left
 ·exact (hp.no rfl).elim
 have fin:∀ {e'},(∃ v,Zb8 P s' fn.results.toList=some v∧K v s'.H)→a'.defers=[]∧∃ v,(results fn a'.tmps).run P w' = .ok v w' ∧
   (fun e w'=>∃ c v H' Y,e=Ending.returned c∧Y.w=w'∧Goes X H Y H'∧Rel Y c v∧K v H') (.returned v) w'∨e'=true∧False:=by
  intro e' ⟨v,hv,hk⟩;obtain ⟨c,hc,hr⟩:=Zay hY hv;exact ⟨(show DefR Y a'.defers [] from hY.df).nil,c,.inl ⟨hc,c,v,s'.H,Y,rfl,hY.hw,hY.go,hr,hk⟩⟩
 cases e with
 | normal =>
  obtain ⟨h1,v,h2 | ⟨_,h2⟩⟩:=fin (e':=true) hQ
  ·exact ⟨h1,v,h2⟩
  ·exact h2.elim
 | ret =>
  obtain ⟨h1,v,h2 | ⟨_,h2⟩⟩:=fin (e':=true) hQ
  ·exact ⟨h1,v,h2⟩
  ·exact h2.elim
 | exit id=>exact hQ.elim
 | goto l=>exact hQ.elim
 | panic ch=>exact hQ.elim
 | outgrown=>exact hQ.elim
theorem Zls {G:Nat→V} {f:FuncId} {fn:Func} {c:Code} {args:List V} {H:Heap} {K:V→Heap→Prop} (q:Nat) (hf:P.funcs[f]? = some fn) (hb:fn.body=some c) (hn0:Nat.ble args.length fn.ntmps=true)
  (h:∀ X,AW P ⟨X,H,fn.ntmps,q,G,none,[]⟩ c (Zuk P fn.results.toList K) ⟨Zoi 0 args,H⟩):InSp P G f args H K:=by
 refine Zav q hf hb hn0 fun X=>?_;refine AW.weak ?_ (h X);rintro a w ⟨Y,hY⟩;refine ⟨Y,hY.hw,hY.go,hY.df,hY.sz,fun t=>?_,hY.gl⟩;have h0:=hY.tm t
 rcases Zlj args 0 t with h1 | ⟨_,h2,h3⟩
 ·show Rel Y _ (Zoi 0 args t)
  rw [h1];exact .top _
 ·show Rel Y _ (Zoi 0 args t)
  rw [h3];simp only [Nat.sub_zero] at h2 ⊢;simpa [Zds,h2] using h0
theorem Zqe {G:Nat→V} {f:FuncId} {fn:Func} {c:Code} {args:List V} {H:Heap} {K:V→Heap→Prop} (q:Nat) (n:Nat) (rs:List ResultVar) (hf:P.funcs[f]? = some fn) (hb:fn.body=some c) (hn:fn.ntmps=n) (hr:fn.results.toList=rs)
  (hn0:Nat.ble args.length n=true) (h:∀ X,AW P ⟨X,H,n,q,G,none,[]⟩ c (Zuk P rs K) ⟨Zoi 0 args,H⟩):InSp P G f args H K:=by
 subst hn;subst hr;exact Zls q hf hb hn0 h
def AObj.noMp:AObj→AObj
 | .mp .. => .dead
 | x=>x
@[go_sem] theorem noMp_dead:AObj.noMp .dead = .dead:=rfl
@[go_sem] theorem noMp_cells (c:Col) (g fz:Nat) (cs:List V):AObj.noMp (.cells c g fz cs) = .cells c g fz cs:=rfl
theorem Zz6 {x:AObj} {c:Col} {g fz:Nat} {cs:List V} (h:x.noMp = .cells c g fz cs):x = .cells c g fz cs:=by cases x<;>simp [AObj.noMp] at h ⊢;exact h
theorem noMp_mp {x:AObj} {lo b:Nat} {ks vs:List V} (h:x.noMp = .mp lo b ks vs):False:=by cases x<;>simp [AObj.noMp] at h
theorem InSp.frame {G:Nat→V} {f:FuncId} {args:List V} {H:Heap} {K:V→Heap→Prop} (D:Nat→Bool) (hen:Zha P f=true)
  (h:InSp P G f args (fun o=>if D o then H o else .dead)
   (fun v H'=>∃ H'',(∀ o,H'' o = .dead∨H'' o=(H' o).noMp∨(D o=false∧H'' o=H o))∧K v H'')):CallA P G f args H K:=by
 refine ⟨hen,fun X cargs hI hG hA=>?_⟩
 let H1:Heap:=fun o=>if D o then H o else .dead
 have hH1:∀ o c g fz cs,H1 o = .cells c g fz cs→D o=true∧H o = .cells c g fz cs:=by
  intro o c g fz cs ho;simp only [H1] at ho
  split at ho
  ·rename_i hd;exact ⟨hd,ho⟩
  ·cases ho
 have hIe:Inv X H1:=by
  refine ⟨?_,?_,?_,hI.fin,hI.bw,hI.thaw,hI.mps_tr (.refl X) (fun o lo b ks vs ho=>by
   simp only [H1] at ho
   split at ho
   ·exact ho
   ·cases ho) (Keep.refl _ _) fun _ _ hs => .inl hs⟩
  ·intro o c g fz cs ho
   exact hI.obj o c g fz cs (hH1 _ _ _ _ _ ho).2
  ·intro o1 c1 g1 f1 l1 o2 c2 g2 f2 l2 b s1 s2 h1 h2 b1 b2
   exact hI.inj _ _ _ _ _ _ _ _ _ _ _ _ _ (hH1 _ _ _ _ _ h1).2 (hH1 _ _ _ _ _ h2).2 b1 b2
  ·intro b i hs
   exact ⟨(hI.safe b i hs).1,fun o c g fz cs bs ho hb=>(hI.safe b i hs).2 _ _ _ _ _ _ (hH1 _ _ _ _ _ ho).2 hb⟩
 refine (h X cargs hIe hG hA).mono ?_;rintro e w' ⟨c,v,H',Y,rfl,rfl,hg,hr,H'',hH'',hk⟩
 have hLive:∀ b,LiveB X H1 b→LiveB X H b:=by
  rintro b ⟨o,c,g,fz,cs,bs,ho,hb⟩;exact ⟨o,c,g,fz,cs,bs,(hH1 _ _ _ _ _ ho).2,hb⟩
 have hrest:∀ o,D o=false→∀ c g fz cs b bs,H o = .cells c g fz cs→X.β o g=some (b,bs)→¬ LiveB X H1 b:=by
  rintro o hd c g fz cs b bs ho hb ⟨o',c',g',fz',cs',bs',ho',hb'⟩;obtain ⟨hd',h1⟩:=hH1 _ _ _ _ _ ho';have:=hI.inj _ _ _ _ _ _ _ _ _ _ _ _ _ ho h1 hb hb';subst this;rw [hd] at hd';cases hd'
 have hcase:∀ o c g fz cs,H'' o = .cells c g fz cs→H' o = .cells c g fz cs∨(D o=false∧H o = .cells c g fz cs):=by
  intro o c g fz cs ho
  rcases hH'' o with h1 | h1 | ⟨h2,h3⟩
  ·rw [h1] at ho;cases ho
  ·exact .inl (Zz6 (by rw [← h1];exact ho))
  ·exact .inr ⟨h2,by rw [← h3];exact ho⟩
 have hkept:∀ o,D o=false→∀ c g fz cs,H o = .cells c g fz cs→∃ b bs,X.β o g=some (b,bs)∧Y.β o g=some (b,bs)∧b<X.w.heap.size∧Y.w.heap[b]? = X.w.heap[b]? := by
  intro o hd c g fz cs ho;obtain ⟨b,bs,h2,_⟩:=hI.obj o c g fz cs ho;have hlt:=hI.lt ho h2;exact ⟨b,bs,h2,hg.le.β _ _ _ h2,hlt,hg.kp.block b hlt (hrest o hd c g fz cs b bs ho h2)⟩
 have hlive':∀ o c g fz cs b bs,H' o = .cells c g fz cs→Y.β o g=some (b,bs)→X.w.heap.size≤b∨LiveB X H1 b:=fun o c g fz cs b bs ho hb=>hg.on b ⟨o,c,g,fz,cs,bs,ho,hb⟩
 have hSnZ:∀ b i,Y.S b i→X.S b i∨X.w.heap.size≤b∨LiveB X H b:=by
  intro b i hs
  rcases hg.Sn b i hs with h1 | h1 | h1
  ·exact .inl h1
  ·exact .inr (.inl h1)
  ·exact .inr (.inr (hLive b h1))
 refine ⟨c,v,H'',Y,rfl,rfl,⟨⟨?_,?_,?_,hg.inv.fin,hg.inv.bw,hg.inv.thaw,hI.mps_tr hg.le (fun o lo b ks vs ho=>by
    rcases hH'' o with h1 | h1 | ⟨_,h1⟩
    ·rw [h1] at ho;cases ho
    ·rw [h1] at ho;exact (noMp_mp ho).elim
    ·rw [← h1];exact ho) (hg.kp.mono fun b _ hl=>hLive b hl) hSnZ⟩,hg.le,?_,?_,?_⟩,hr,hk⟩
 ·intro o c g fz cs ho
  rcases hcase o c g fz cs ho with h1 | ⟨hd,h1⟩
  ·exact hg.inv.obj o c g fz cs h1
  ·obtain ⟨b,bs,h2,h3,h4,h5⟩:=hkept o hd c g fz cs h1
   obtain ⟨b',bs',h2',h6,c',t,h7,h8,h9⟩:=hI.obj o c g fz cs h1;rw [h2] at h2';cases h2';exact ⟨b,bs,h3,by rw [hg.le.base];exact h6,c',t,by rw [h5];exact h7,h8,h9.mono hg.le⟩
 ·intro o1 c1 g1 f1 l1 o2 c2 g2 f2 l2 b s1 s2 h1 h2 b1 b2
  rcases hcase _ _ _ _ _ h1 with h1 | ⟨hd1,h1⟩
  ·rcases hcase _ _ _ _ _ h2 with h2 | ⟨hd2,h2⟩
   ·exact hg.inv.inj _ _ _ _ _ _ _ _ _ _ _ _ _ h1 h2 b1 b2
   ·obtain ⟨b',bs',q1,q2,q3,q4⟩:=hkept o2 hd2 _ _ _ _ h2
    rw [q2] at b2;cases b2
    rcases hlive' _ _ _ _ _ _ _ h1 b1 with q5 | q5
    ·omega
    ·exact absurd q5 (hrest o2 hd2 _ _ _ _ _ _ h2 q1)
  ·obtain ⟨b',bs',q1,q2,q3,q4⟩:=hkept o1 hd1 _ _ _ _ h1
   rw [q2] at b1;cases b1
   rcases hcase _ _ _ _ _ h2 with h2 | ⟨hd2,h2⟩
   ·rcases hlive' _ _ _ _ _ _ _ h2 b2 with q5 | q5
    ·omega
    ·exact absurd q5 (hrest o1 hd1 _ _ _ _ _ _ h1 q1)
   ·obtain ⟨b'',bs'',p1,p2,p3,p4⟩:=hkept o2 hd2 _ _ _ _ h2
    rw [p2] at b2;cases b2;exact hI.inj _ _ _ _ _ _ _ _ _ _ _ _ _ h1 h2 q1 p1
 ·intro b i hs
  have hs':=hg.inv.safe b i hs;refine ⟨hs'.1,fun o c g fz cs bs ho hb=>?_⟩
  rcases hcase _ _ _ _ _ ho with h1 | ⟨hd1,h1⟩
  ·exact hs'.2 _ _ _ _ _ _ h1 hb
  ·obtain ⟨b',bs',q1,q2,q3,q4⟩:=hkept o hd1 _ _ _ _ h1
   rw [q2] at hb;cases hb
   rcases hg.Sn b i hs with q5 | q5 | q5
   ·exact (hI.safe b i q5).2 _ _ _ _ _ _ h1 q1
   ·omega
   ·exact absurd q5 (hrest o hd1 _ _ _ _ _ _ h1 q1)
 ·exact hg.kp.mono fun b _ hl=>hLive b hl
 ·intro b i hs
  rcases hg.Sn b i hs with h1 | h1 | h1
  ·exact .inl h1
  ·exact .inr (.inl h1)
  ·exact .inr (.inr (hLive b h1))
 ·rintro b ⟨o,c,g,fz,cs,bs,ho,hb⟩
  rcases hcase _ _ _ _ _ ho with h1 | ⟨hd1,h1⟩
  ·rcases hlive' _ _ _ _ _ _ _ h1 hb with q | q
   ·exact .inl q
   ·exact .inr (hLive b q)
  ·obtain ⟨b',bs',q1,q2,q3,q4⟩:=hkept o hd1 _ _ _ _ h1
   rw [q2] at hb;cases hb;exact .inr ⟨o,c,g,fz,cs,bs,h1,q1⟩
theorem CallA.inl {G:Nat→V} {f:FuncId} {args:List V} {H:Heap} {K:V→Heap→Prop} (m:List (Nat × AObj)) (hen:Zha P f=true) (hm:∀ p∈m,H p.1=p.2)
  (h:InSp P G f args (Zob Zl m) (fun v H'=>K v (Zob H (m.map fun p=>(p.1,(H' p.1).noMp))))):CallA P G f args H K:=by
 refine InSp.frame (fun o=>m.any (·.1==o)) hen ?_
 have e:(fun o=>if m.any (·.1==o) then H o else .dead)=Zob Zl m:=by
  funext o
  exact (Zwm id o m hm).symm
 rw [e];refine h.mono fun v H' hk=>⟨_,fun o=>?_,hk⟩;rw [Zvm AObj.noMp o m]
 by_cases ho:m.any (·.1==o)=true
 ·rw [if_pos ho];exact .inr (.inl rfl)
 ·rw [if_neg ho];exact .inr (.inr ⟨Bool.eq_false_iff.2 ho,rfl⟩)
end
end Go.Hs
end
