/- Part 50 of the proof of a statement of seat YtohdjmgdaaipaaaGreatDoor: HsStill. -/
import Derived.Test.YtohdjmgdaaipaaaGreatDoorPart25
set_option linter.unusedSimpArgs false
set_option linter.unusedVariables false
section
namespace Go.Hs
variable {P:Program} {E:Ent}
def Still (X:Cx) (o g:Nat) (cs:List V):Prop :=
 ∃ (b bs:Nat) (f:Nat→Value),X.β o g=some (b,bs)∧Col.new.ok X.base b∧∀ i (h:i<cs.length),X.S b (bs+i)∧X.cell b (bs+i)=some (f i)∧(f i).oneCell'=true∧Rel X (f i) cs[i]
theorem Zcba {c:Code} {Q:Exit→AS→Prop} {s:AS} (o:Nat) {g:Nat} {cs:List V} (ho:s.H o = .cells .new g 0 cs)
  (h:∀ X1 H1,Still X1 o g cs→AW P ⟨X1,H1,E.n,E.q,E.G,E.kp,E.df⟩ c Q ⟨s.τ,upd s.H o (.cells .new g cs.length cs)⟩):AW P E c Q s:=by
 rintro a w ⟨X,hX⟩;have hI:=hX.go.inv;obtain ⟨b,bs,hβ,hok,c1,t,h1,h2,h3⟩:=hI.obj o .new g 0 cs ho;have hg:=Zy0 hI ho (Nat.zero_le cs.length) hβ
 let Y:Cx:={ X with S:=fun b' i=>X.S b' i∨b'=b∧bs≤i∧i<bs+cs.length }
 have hst:Still Y o g cs:=by
  refine ⟨b,bs,fun i=>c1.toList.getD (bs+i) undef,hβ,hok,fun i hi=>?_⟩
  have hlt:bs+i<c1.toList.length:=by rw [Array.length_toList];omega
  have hx:c1.toList.getD (bs+i) undef=c1.toList[bs+i]:=by rw [List.getD_eq_getElem?_getD,List.getElem?_eq_getElem hlt];rfl
  have hl:=h3.len
  have hi2:i<((c1.toList.drop bs).take cs.length).length:=by omega
  have he:((c1.toList.drop bs).take cs.length)[i]=c1.toList[bs+i]:=by simp
  refine ⟨.inr ⟨rfl,by omega,by omega⟩,?_,?_,?_⟩
  ·simp only [hx]
   show X.cell b (bs+i)=_
   unfold Cx.cell World.cell?;simp only [h1];rw [← Array.getElem?_toList,List.getElem?_eq_getElem hlt];rfl
  ·simp only [hx];rw [← he];exact h3.one _ (List.getElem_mem hi2)
  ·simp only [hx];rw [← he];exact (h3.rel i hi2 hi).mono hg.le
 have hs:Sat ⟨Y,upd s.H o (.cells .new g cs.length cs),E.n,E.q,E.G,E.kp,E.df⟩ ⟨s.τ,upd s.H o (.cells .new g cs.length cs)⟩ a w :=
  ⟨Y,hX.hw,Goes.refl hg.inv,hX.df.mono hg.le,hX.sz,fun t=>(hX.tm t).mono hg.le,fun k=>(hX.gl k).go hI hg⟩
 refine wp_mono (h Y (upd s.H o (.cells .new g cs.length cs)) hst a w hs) ?_;rintro e a' w' hpost;refine hpost.imp (fun s' ⟨Z,hZ⟩ hQ=>⟨s',⟨Z,hZ.hw,(hX.go.trans hg).trans hZ.go,hZ.df,hZ.sz,hZ.tm,hZ.gl⟩,hQ⟩) ?_;rintro ch ⟨k,c,v,Z,H',h1,h2,h3,h4,h5,h6⟩;exact ⟨k,c,v,Z,H',h1,h2,h3,h4,(hX.go.trans hg).trans h5,h6⟩
def Cnv (X:Cx) (v v':V):Prop:=∀ Y x,X.le Y→Rel Y x v→Rel Y x v'
theorem Cnv.refl (X:Cx) (v:V):Cnv X v v:=fun _ _ _ h=>h
theorem Still.sl {X:Cx} {α : Type} {o g m:Nat} {f : α → V} {l:List α} (h:Still X o g (flat (l.map f))) (hf:∀ x,(f x).cells.length=m):Cnv X (.msl o g 0 l.length m) (.slice .new false m (l.map f)):=by
 intro Y x hle hr;obtain ⟨b,bs,F,hβ,hok,hc⟩:=h
 cases hr with
 | msl _ _ _ _ _ b' bs' cap hβ' hcap hb =>
  have:=hle.β _ _ _ hβ;rw [hβ'] at this;simp only [Option.some.injEq,Prod.mk.injEq] at this;obtain ⟨rfl,rfl⟩:=this
  have hl:l.length=(l.map f).length:=by rw [List.length_map]
  rw [Nat.add_zero,hl];refine .slice .new false m (l.map f) b' bs' cap F (by rw [← hl];exact hcap) (fun h=>by cases h) ?_ ?_ ?_
  ·intro v hv
   obtain ⟨y,_,rfl⟩:=List.mem_map.1 hv;exact hf y
  ·intro i hi
   obtain ⟨q1,q2,q3,_⟩:=hc i hi;exact ⟨hle.S _ _ q1,by rw [hle.base];exact hok,hle.cell _ _ _ q1 q2,q3⟩
  ·intro i hi
   exact (hc i hi).2.2.2.mono hle
theorem Z5aa {s:AS} (o:Nat) {c:Col} {g fz:Nat} {v v':V} (ho:s.H o = .cells c g fz [v]) (h:Cnv E.X0 v v'):Weak E s ⟨s.τ,upd s.H o (.cells c g fz [v'])⟩:=by
 rintro a w ⟨X,hX⟩;have hle:=hX.go.le;have hI:=hX.go.inv
 have key:∀ o' c' g' f' cs',upd s.H o (.cells c g fz [v']) o' = .cells c' g' f' cs'→∃ cs,s.H o' = .cells c' g' f' cs∧(cs'=cs∨cs=[v]∧cs'=[v']):=by
  intro o' c' g' f' cs' hh
  by_cases e:o'=o
  ·subst e
   simp at hh;obtain ⟨rfl,rfl,rfl,rfl⟩:=hh;exact ⟨_,ho,.inr ⟨rfl,rfl⟩⟩
  ·rw [Z0a _ _ e] at hh
   exact ⟨_,hh,.inl rfl⟩
 have hI':Inv X (upd s.H o (.cells c g fz [v'])):=by
  refine ⟨?_,?_,?_,hI.fin,hI.bw,hI.thaw,hI.mps_tr (.refl X) (fun o' lo b ks vs hh=>by
   by_cases e:o'=o
   ·subst e;simp at hh
   ·rwa [Z0a _ _ e] at hh) (Keep.refl _ _) fun _ _ hs => .inl hs⟩
  ·intro o' c' g' f' cs' hh
   obtain ⟨cs,h1,h2⟩:=key _ _ _ _ _ hh;obtain ⟨b,bs,q1,q2,c1,t,q3,q4,q5⟩:=hI.obj _ _ _ _ _ h1;refine ⟨b,bs,q1,q2,c1,t,q3,?_,?_⟩
   ·rcases h2 with rfl | ⟨rfl,rfl⟩<;>exact q4
   ·rcases h2 with rfl | ⟨rfl,rfl⟩
    ·exact q5
    ·refine ⟨q5.len,q5.one,fun i h1 h2=>?_⟩
     have h0:i=0:=by simp only [List.length_cons,List.length_nil] at h2;omega
     subst h0;exact h X _ hle (q5.rel 0 h1 (by simp))
  ·intro o1 c1 g1 f1 l1 o2 c2 g2 f2 l2 b s1 s2 h1 h2
   obtain ⟨_,h1,_⟩:=key _ _ _ _ _ h1;obtain ⟨_,h2,_⟩:=key _ _ _ _ _ h2;exact hI.inj _ _ _ _ _ _ _ _ _ _ _ _ _ h1 h2
  ·intro b i hs
   refine ⟨(hI.safe b i hs).1,fun o' c' g' f' cs' bs hh hb=>?_⟩;obtain ⟨_,h1,_⟩:=key _ _ _ _ _ hh;exact (hI.safe b i hs).2 _ _ _ _ _ _ h1 hb
 have hgo:Goes X s.H X (upd s.H o (.cells c g fz [v'])):=by
  refine ⟨hI',Cx.le.refl X,Keep.refl _ _,fun _ _ hs => .inl hs,?_⟩;rintro b ⟨o',c',g',f',cs',bs,hh,hb⟩;obtain ⟨_,h1,_⟩:=key _ _ _ _ _ hh;exact .inr ⟨o',c',g',f',_,bs,h1,hb⟩
 exact ⟨X,hX.hw,hX.go.trans hgo,hX.df,hX.sz,hX.tm,hX.gl⟩
end Go.Hs
end
