/- A part. No condition. -/
import Derived.Test.YtoahejkahaimnaaGreatDoorP32
set_option linter.all false
namespace Go.Hs
section
variable{P:Program}{E:Ent}
def Z95(a:V):Option V:=match a with
 |.view c v=>some (.view c v)
 |.ptr o g off=>some (.ptr o g off)
 |.func (.func f) a b=>some (.func (.func f) a b)
 |_=>none
theorem Z1u(ρ : Operand->V)(d:Option Nat)(x:Operand)(ty:TypeId)(pos:String)(af:Array Edge)(gd:Option (Nat×Bool)):opV P ρ ⟨d,.nilCheck x,ty,pos,af,gd⟩=Z95 (ρ x):=by
 unfold opV Z95;rfl
theorem Ze9(o g off:Nat):Z95 (.ptr o g off)=some (.ptr o g off):=rfl
theorem Ze0(c:Col)(v:V):Z95 (.view c v)=some (.view c v):=rfl
attribute[go_sem]Z1u Ze9 Ze0
theorem Zhn{t:TypeId}{n m b off:Nat}{e:TypeId}{w:World}(hu:P.underlying t=some (.array n e))(hs:Z9a P e=some m):
  (Instr.sliceAt t (.pointer (some ⟨b,off,none⟩)) none none none).run P w=.ok (.slice (some ⟨b,off,none⟩) n n) w:=by
 have hb:=Zpc (P:=P) (w:=w) (X:=⟨λ_ _=>none,λ_ _=>False,0,w⟩) (isSlice:=false) (len:=n) (cap:=n) (lo:=none) (hi:=none) (mx:=none) (lo':=none) (hi':=none) (mx':=none) trivial trivial trivial rfl rfl rfl (.inl rfl) (Nat.zero_le _) (Nat.le_refl _) (Nat.le_refl _)
 have ha:(⟨b,off,none⟩:Addr).add (0*m)=⟨b,off,none⟩:=by rw[Nat.zero_mul,Addr.add_lit,Nat.add_zero]
 simp only[Instr.sliceAt,Sem.run_bind,Zd hu,Result.andThen_ok,Instr.sureAddr,Sem.run_pure,hb,Zda hs,Nat.sub_zero,ha,ite_self]
theorem Ziq{s:AS}{d:Option Nat}{t:TypeId}{x:Operand}{ty:TypeId}{pos:String}{af:Array Edge}{gd:Option (Nat×Bool)}{n:Nat}{e:TypeId}{m ob g fz:Nat}{c:Col}{cs:List V}
  (hu:P.underlying t=some (.array n e)) (hs:Z9a P e=some m) (hx:s.ev E x=.ptr ob g 0) (ho:s.H ob=.cells c g fz cs) (hl:Nat.ble (n*m) cs.length=true):
  Gives P E ⟨d,.slice t x none none none,ty,pos,af,gd⟩ s (.msl ob g 0 n m):=by
 intro X a w hX;have hl:=Nat.le_of_ble_eq_true hl;have hy:=hX.ev x;rw[hx]at hy;have hev:execOp a.eval ⟨d,.slice t x none none none,ty,pos,af,gd⟩=(do pure (Next.value (<- Instr.sliceAt t (a.eval x) none none none))):=rfl;rw[hev];generalize a.eval x=y at hy
 cases hy with
 |ptr _ _ _ b bs hβ=>
  obtain⟨c1,t1,h1,h2,h3⟩:=hX.go.inv.cells ho hβ;refine⟨.slice (some ⟨b,bs+0,none⟩) n n,by simp only[Sem.run_bind,Zhn hu hs,Result.andThen_ok,Sem.run_pure],?_⟩;exact .msl _ _ _ _ _ b bs n hβ (Nat.le_refl _) ⟨c1,t1,h1,zo⟩
theorem Zsp{s:AS}{d:Option Nat}{t:TypeId}{x:Operand}{ty:TypeId}{pos:String}{af:Array Edge}{gd:Option (Nat×Bool)}{n:Nat}{e:TypeId}{c:Col}{cs:List V}
  (hu:P.underlying t=some (.array n e)) (hs:Z9a P e=some 1) (hx:s.ev E x=.view c (.agg cs)) (hn:cs.length=n) (h1:∀ v∈cs,v.cells=[v]):
  Gives P E ⟨d,.slice t x none none none,ty,pos,af,gd⟩ s (.slice c true 1 cs):=by
 intro X a w hX;have hy:=hX.ev x;rw[hx]at hy;have hev:execOp a.eval ⟨d,.slice t x none none none,ty,pos,af,gd⟩=(do pure (Next.value (<- Instr.sliceAt t (a.eval x) none none none))):=rfl;rw[hev];generalize a.eval x=y at hy
 have hfl:flat cs=cs:=by
  have:∀ l:List V,(∀ v∈l,v.cells=[v])->flat l=l:=by
   intro l
   induction l with
   |nil=>intro _;rfl
   |cons v r ih=>
    intro h;have:=ih λu hu=>h u (by simp[hu]);unfold flat at this⊢;rw[List.flatMap_cons,h v zS,this];rfl
  exact this cs h1
 cases hy with
 |view _ _ b off f hc hr=>
  refine⟨.slice (some ⟨b,off,none⟩) n n,by simp only[Sem.run_bind,Zhn hu hs,Result.andThen_ok,Sem.run_pure],?_⟩;rw[<- hn];refine .slice c true 1 cs b off cs.length f (Nat.le_refl _) (λ_=>rfl) (λv hv=>by rw[h1 v hv];rfl) ?_ ?_;rw[hfl];exact hc;intro i hi
  have hi':i<cs.length:=by rw[hfl]at hi;exact hi
  have:=hr i hi'
  have e:(flat cs)[i]=cs[i]:=by simp[hfl]
  rw[e];exact this
theorem GivesE.copy{s:AS}{d:Option Nat}{t t2:TypeId}{x y:Operand}{ty:TypeId}{pos:String}{af:Array Edge}{gd:Option (Nat×Bool)}{e:TypeId}{m ob g fz off len n:Nat}{c:Col}{cs xc:List V}
  (hu:P.underlying t=some (.slice e)) (hs:Z9a P e=some m) (hx:s.ev E x=.msl ob g off len m) (ho:s.H ob=.cells c g fz cs) (hy:Zbd s.H m (s.ev E y)=some (n,xc)) (hn:n<=len) (hfz:fz<=off) (hl:off+n*m<=cs.length):
  GivesE P E ⟨d,.call ⟨.builtin .copy,#[x,y],#[t,t2]⟩,ty,pos,af,gd⟩ s (.int .i64 n) (upd s.H ob (.cells c g fz (setAt cs off xc))):=by
 intro X a w hX;have hxr:=hX.ev x;have hyr:=hX.ev y;rw[hx]at hxr;obtain⟨h1,h2,xs,h3,h4⟩:=Z1g (P:=P) hX.go.inv hyr hy
 have hcp:∀ {p:Value},Rel X p (.msl ob g off len m)->∃ Y,(Builtin.copy_ #[t,t2] ty #[p,a.eval y]).run P X.w=.ok (.int .i64 n) Y.w/\Goes X s.H Y (upd s.H ob (.cells c g fz (setAt cs off xc))):=by
  intro p hp
  cases hp with
  |msl _ _ _ _ _ b bs cap hβ hcap hb=>
   obtain⟨Y,hrun,hgo⟩:=Z6t (P:=P) hX.go.inv ho hβ h3 hfz zo;refine⟨Y,?_,hgo⟩;have hmin:Nat.min n len=n:=Nat.min_eq_left hn;simp only[Builtin.copy_,Sem.run_bind,Zd hu,Result.andThen_ok,Sem.run_pure,List.getElem?_toArray,List.getElem?_cons_zero,List.getElem?_cons_succ,h2,Zda hs,hmin,h4 _ (λ_ _ h=>h),hrun];rfl
 obtain⟨Y,hrun,hgo⟩:=hcp hxr;refine⟨.int .i64 n,Y,?_,hgo,.int _ _⟩;simp[execOp,resolve,invoke,builtin,hrun]
end
end Go.Hs
