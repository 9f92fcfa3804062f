/- A part. No condition. -/
import Derived.Test.YtjplgaebbfabnaaGreatDoorP26
import Derived.Laws.BytesArg
set_option linter.all false
namespace Go.Hs
section
variable{P:Program}{E:Ent}
def Zbs(a:V):Option V:=match a with
 |.view c v=>some (.view c v)
 |.ptr o g off=>some (.ptr o g off)
 |.func (.func f) a b=>some (.func (.func f) a b)
 |_=>none
theorem Zpc(ρ : Operand->V)(d:Option Nat)(x:Operand)(ty:TypeId)(pos:String)(af:Array Edge)(gd:Option (Nat×Bool)):I6 P ρ ⟨d,.nilCheck x,ty,pos,af,gd⟩=Zbs (ρ x):=by
 rfl
theorem Zas(o g off:Nat):Zbs (.ptr o g off)=some (.ptr o g off):=rfl
theorem Zjj(c:Col)(v:V):Zbs (.view c v)=some (.view c v):=rfl
attribute[go_sem]Zpc Zas Zjj
theorem Gy{t:TypeId}{n m b off:Nat}{e:TypeId}{w:World}(a:P.underlying t=some (.array n e))(c:Yw P e=some m):
  (Instr.sliceAt t (.pointer (some ⟨b,off,none⟩)) none none none).run P w=.ok (.slice (some ⟨b,off,none⟩) n n) w:=by
 have d:=Vv (P:=P) (w:=w) (X:=⟨λ_ _=>none,λ_ _=>False,0,w⟩) (isSlice:=false) (len:=n) (cap:=n) (lo:=none) (hi:=none) (mx:=none) (lo':=none) (hi':=none) (mx':=none) trivial trivial trivial rfl rfl rfl (.inl rfl) (Nat.zero_le _) (Nat.le_refl _) (Nat.le_refl _)
 have f:(⟨b,off,none⟩:Addr).add (0*m)=⟨b,off,none⟩:=by rw[Nat.zero_mul,Addr.add_lit,Nat.add_zero]
 simp only[Instr.sliceAt,Sem.run_bind,Zk a,Result.andThen_ok,Instr.sureAddr,Sem.run_pure,d,Y0 c,Nat.sub_zero,f,ite_self]
theorem B6{s:AS}{d:Option Nat}{t:TypeId}{x:Operand}{ty:TypeId}{pos:String}{af:Array Edge}{gd:Option (Nat×Bool)}{n:Nat}{e:TypeId}{m ob g fz:Nat}{c:Col}{cs:List V}
  (l:P.underlying t=some (.array n e)) (o:Yw P e=some m) (k:s.ev E x=.ptr ob g 0) (p:s.H ob=.cells c g fz cs) (i:Nat.ble (n*m) cs.length=true):
  Gives P E ⟨d,.slice t x none none none,ty,pos,af,gd⟩ s (.msl ob g 0 n m):=by
 intro X a w j;have i:=Nat.le_of_ble_eq_true i;have f:=j.ev x;rw[k]at f;have h:execOp a.eval ⟨d,.slice t x none none none,ty,pos,af,gd⟩=(do pure (Next.value (<- Instr.sliceAt t (a.eval x) none none none))):=rfl;rw[h];generalize a.eval x=y at f
 cases f with
 |ptr _ _ _ b bs hβ=>
  obtain⟨r,t1,q,v,u⟩:=j.go.inv.cells p hβ;refine⟨.slice (some ⟨b,bs+0,none⟩) n n,by simp only[Sem.run_bind,Gy l o,Result.andThen_ok,Sem.run_pure],?_⟩;exact .msl _ _ _ _ _ b bs n hβ (Nat.le_refl _) ⟨r,t1,q,zo⟩
theorem Ei{s:AS}{d:Option Nat}{t:TypeId}{x:Operand}{ty:TypeId}{pos:String}{af:Array Edge}{gd:Option (Nat×Bool)}{n:Nat}{e:TypeId}{c:Col}{cs:List V}
  (o:P.underlying t=some (.array n e)) (z:Yw P e=some 1) (q:s.ev E x=.view c (.agg cs)) (A:cs.length=n) (D:∀ v∈cs,v.cells=[v]):
  Gives P E ⟨d,.slice t x none none none,ty,pos,af,gd⟩ s (.slice c true 1 cs):=by
 intro X a w B;have j:=B.ev x;rw[q]at j;have m:execOp a.eval ⟨d,.slice t x none none none,ty,pos,af,gd⟩=(do pure (Next.value (<- Instr.sliceAt t (a.eval x) none none none))):=rfl;rw[m];generalize a.eval x=y at j
 have g:flat cs=cs:=by
  have:∀ l:List V,(∀ v∈l,v.cells=[v])->flat l=l:=by
   intro l
   induction l with
   |nil=>intro _;rfl
   |cons v r ih=>
    intro h;have:=ih λu o=>h u (by grind);unfold flat at this⊢
    grind
  grind
 cases j with
 |view _ _ b off f hc hr=>
  refine⟨.slice (some ⟨b,off,none⟩) n n,by simp only[Sem.run_bind,Gy o z,Result.andThen_ok,Sem.run_pure],?_⟩;rw[<- A];refine .slice c true 1 cs b off cs.length f (Nat.le_refl _) (λ_=>rfl) (λv C=>by grind) ?_ ?_;rw[g];exact hc;intro i p
  have k:i<cs.length:=by rw[g]at p;exact p
  have:=hr i k
  have e:(flat cs)[i]=cs[i]:=by simp[g]
  rw[e];exact this
theorem GivesE.copy{s:AS}{d:Option Nat}{t u:TypeId}{x y:Operand}{ty:TypeId}{pos:String}{af:Array Edge}{gd:Option (Nat×Bool)}{e:TypeId}{m ob g fz off len n:Nat}{c:Col}{cs xc:List V}
  (A:P.underlying t=some (.slice e)) (B:Yw P e=some m) (z:s.ev E x=.msl ob g off len m) (D:s.H ob=.cells c g fz cs) (v:U0 s.H m (s.ev E y)=some (n,xc)) (F:n<=len) (q:fz<=off) (K:off+n*m<=cs.length):
  GivesE P E ⟨d,.call ⟨.builtin .copy,#[x,y],#[t,u]⟩,ty,pos,af,gd⟩ s (.int .i64 n) (Ya s.H ob (.cells c g fz (setAt cs off xc))):=by
 intro X a w l;have j:=l.ev x;have o:=l.ev y;rw[z]at j;obtain⟨L,J,xs,I,G⟩:=Ng (P:=P) l.go.inv o v
 have r:∀ {p:Value},Rel X p (.msl ob g off len m)->∃ Y,(Builtin.copy_ #[t,u] ty #[p,a.eval y]).run P X.w=.ok (.int .i64 n) Y.w/\Goes X s.H Y (Ya s.H ob (.cells c g fz (setAt cs off xc))):=by
  intro p C
  cases C with
  |msl _ _ _ _ _ b bs cap hβ hcap hb=>
   obtain⟨Y,f,i⟩:=I9 (P:=P) l.go.inv D hβ I q zo;refine⟨Y,?_,i⟩;have k:Nat.min n len=n:=Nat.min_eq_left F;simp only[Builtin.copy_,Sem.run_bind,Zk A,Result.andThen_ok,List.getElem?_toArray,List.getElem?_cons_zero,List.getElem?_cons_succ,J,Y0 B,k,G _ (λ_ _ h=>h),f];rfl
 obtain⟨Y,f,i⟩:=r j;refine⟨.int .i64 n,Y,?_,i,.int _ _⟩;simp[execOp,resolve,invoke,builtin,f]
end
end Go.Hs
