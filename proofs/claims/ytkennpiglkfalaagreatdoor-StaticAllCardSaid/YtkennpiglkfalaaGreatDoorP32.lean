/- A part. No condition. -/
import Derived.Test.YtkennpiglkfalaaGreatDoorP27
import Derived.Laws.BytesArg
set_option linter.all false
open Option renaming some->ae,none->ah
open Go.Instr renaming sliceAt->aN
open Go.Result renaming andThen_ok->aB
open Go.Sem renaming run_bind->aC
namespace Go.Hs
section
variable{P:Program}{E:BX}
def YX(a:V):Option V:=match a with|.view c v=>ae (.view c v)|.ptr o g off=>ae (.ptr o g off)|.func (.func f) a b=>ae (.func (.func f) a b)|_=>ah
def pE(ρ)(d:Option Nat)(x ty pos af gd):E3 P ρ ⟨d,.nilCheck x,ty,pos,af,gd⟩=YX (ρ x):=by rfl
def xu(o g off):YX (.ptr o g off)=ae (.ptr o g off):=rfl
def nP(c v):YX (.view c v)=ae (.view c v):=rfl
attribute[go_sem]pE xu nP
def C1{t n m b off e w}(a:P.underlying t=ae (.array n e))(c:Y0 P e=ae m):(aN t (.pointer (ae ⟨b,off,ah⟩)) ah ah ah).run P w=.ok (.slice (ae ⟨b,off,ah⟩) n n) w:=by
 have d:=Ul (P:=P) (w:=w) (X:=⟨λ_ _=>ah,λ_ _=>False,0,w⟩) (isSlice:=false) (cap:=n) (lo:=ah) (hi:=ah) (mx:=ah) (lo':=ah) (hi':=ah) (mx':=ah) trivial trivial trivial rfl rfl rfl (.inl rfl) qz ql ql;have f:(⟨b,off,ah⟩:Addr).add (0*m)=⟨b,off,ah⟩:=by rw[NS,Addr.add_lit,GN]
 simp only[aN,aC,Zt a,aB,Instr.sureAddr,Sem.run_pure,d,Y8 c,IS,f,ite_self]
def wV{s}{d:Option Nat}{t x ty pos af gd n e m ob g fz c cs}(l:P.underlying t=ae (.array n e))(o:Y0 P e=ae m)(k:s.ev E x=.ptr ob g 0)(p:s.H ob=.cells c g fz cs)(i:Nat.ble (n*m) cs.length=true):Gives P E ⟨d,.slice t x ah ah ah,ty,pos,af,gd⟩ s (.A_ ob g 0 n m):=by intro X a w j;have i:=LK i;have f:=j.ev x;rw[k]at f;have h:execOp _ ⟨d,.slice t x ah ah ah,ty,pos,af,gd⟩=(do pure (Next.value (<- aN t (a.eval x) ah ah ah))):=rfl;rw[h];generalize a.eval x=y at f;cases f with|ptr _ _ _ b bs hβ=>have⟨r,t1,q,h2,u⟩:=j.go.BJ.cells p hβ;refine⟨.slice (ae ⟨b,bs+0,ah⟩) n n,by simp only[aC,C1 l o,aB,Sem.run_pure],?_⟩;exact .A_ _ _ _ _ _ b bs n hβ ql ⟨r,t1,q,zo⟩
def Ag{s}{d:Option Nat}{t x ty pos af gd n e c cs}(o:P.underlying t=ae (.array n e))(z:Y0 P e=ae 1)(q:s.ev E x=.view c (.agg cs))(A:cs.length=n)(D:∀ v∈cs,v.cells=[v]):Gives P E ⟨d,.slice t x ah ah ah,ty,pos,af,gd⟩ s (.slice c true 1 cs):=by
 intro X a w B;have j:=B.ev x;rw[q]at j;have m:execOp _ ⟨d,.slice t x ah ah ah,ty,pos,af,gd⟩=(do pure (Next.value (<- aN t (a.eval x) ah ah ah))):=rfl;rw[m];generalize a.eval x=y at j;have g:flat cs=cs:=by
  have:∀ l,(∀ v∈l,v.cells=[v])->flat l=l:=by
   intro l
   induction l with|nil=>intro _;rfl|cons v r ih=>intro h;have:=ih λu o=>h u zG;unfold flat at this⊢;grind
  grind
 cases j with
 |view _ _ b off f hc hr=>
  refine⟨.slice (ae ⟨b,off,ah⟩) n n,by simp only[aC,C1 o z,aB,Sem.run_pure],?_⟩;rw[<- A];refine .slice c _ 1 cs b _ _ f ql BE (λv C=>by grind) ?_ ?_;rw[g];exact hc;intro i p;have k:i<cs.length:=by rw[g]at p;exact p
  have:=hr i k;have e:(flat cs)[i]=cs[i]:=by simp[g]
  rw[e];exact this
def GivesE.copy{s}{d:Option Nat}{t t2 x y ty pos af gd e m ob g fz off len n c cs xc}(z:P.underlying t=ae (.slice e))(A:Y0 P e=ae m)(v:s.ev E x=.A_ ob g off len m)(C:s.H ob=.cells c g fz cs)(u:Tw s.H m (s.ev E y)=ae (n,xc))(D:n<=len)(q:fz<=off)(I:off+n*m<=cs.length):GivesE P E ⟨d,.call ⟨.builtin .copy,#[x,y],#[t,t2]⟩,ty,pos,af,gd⟩ s (.int .i64 n) (Ye s.H ob (.cells c g fz (setAt cs off xc))):=by
 intro X a w l;have j:=l.ev x;have o:=l.ev y;rw[v]at j;obtain⟨J,h2,xs,G,F⟩:=M5 (P:=P) l.go.BJ o u;have r:∀ {p},AI X p (.A_ ob g off len m)->∃ Y,(Builtin.copy_ #[t,t2] ty #[p,a.eval y]).run P X.w=.ok (.int .i64 n) Y.w/\BH X s.H Y (Ye s.H ob (.cells c g fz (setAt cs off xc))):=by intro p B;cases B with|A_ _ _ _ _ _ b bs cap hβ hcap hb=>obtain⟨Y,f,i⟩:=jz (P:=P) l.go.BJ C hβ G q zo;refine⟨Y,?_,i⟩;have k:=MJ D;simp only[Builtin.copy_,aC,Zt z,aB,LH,la,lZ,h2,Y8 A,k,F _ (λ_ _ h=>h),f];rfl
 obtain⟨Y,f,i⟩:=r j;refine⟨.int _ n,Y,?_,i,.int _ _⟩;simp[execOp,resolve,invoke,builtin,f]
