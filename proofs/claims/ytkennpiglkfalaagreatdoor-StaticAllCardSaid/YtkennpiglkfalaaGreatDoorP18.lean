/- A part. No condition. -/
import Derived.Test.YtkennpiglkfalaaGreatDoorP17
set_option linter.all false
open Option renaming some->ae
namespace Go.Hs
section
variable{P:Program}{E:BX}
def Zi{c x y Q s b}(a:s.ev E c=.bool b)(d:b=true->AW P E x Q s)(e:b=false->AW P E y Q s):AW P E (.cond c x y) Q s:=by refine AW.cond a ?_;grind
def Vy{α:Type}(f:Nat->α):List (Nat × α)->Prop
 |[]=>True|p::r=>f p.1=p.2/\Vy f r
@[go_sem] def ADT{α}(f:Nat->α):Vy f []=True:=rfl
@[go_sem] def ADS{α}(f p)(r:List (Nat × α)):Vy f (p::r)=(f p.1=p.2/\Vy f r):=rfl
def X5{α f}:∀ {l:List (Nat × α)},Vy f l->∀ p∈l,f p.1=p.2
 |[],_,p,hp=>by grind|q::r,h,p,hp=>by rcases hp with _|⟨_,hp⟩;exact h.1;exact X5 h.2 p hp
@[go_sem] def st(l:List (Nat×V))(m:List (Nat×BL)):AS:=⟨Yb Mv l,Yb Zm m⟩
def Weak.st{τ}{H:A'}{l m}(h:Vy τ l)(a:Vy H m):Weak E ⟨τ,H⟩ (Hs.st l m):=
 Weak.keep l m (X5 h) (X5 a)
abbrev AO:=@Weak.st
def fG{c Q}(I:Nat->AS->Prop){n s s0}(d:Weak E s s0)(f:I n s0)(round:∀ n s,I n s->AW P E c (O0 (λs'=>∃ m s'',m<n/\Weak E s' s''/\I m s'') Q) s):AW P E (.loop c) Q s:=by refine AW.loop (λn s=>∃ s0,Weak E s s0/\I n s0) ⟨s0,d,f⟩ ?_;rintro n s ⟨b,a,e⟩;refine BM a ((round n b e).mono ?_);grind
def Wy{α:Type}{c Q}(N)(S:Nat->α->AS)(R:Nat->α->Prop){s}(k0 x0)(b:k0<=N)(d:R k0 x0)(a:Weak E s (S k0 x0))(round:∀ k x,k<=N->R k x->∀ K,(∀ s',(k<N/\∃ x',R (k+1) x'/\Weak E s' (S (k+1) x'))->K s')->AW P E c (O0 K Q) (S k x)):AW P E (.loop c) Q s:=by refine fG (λn s=>∃ k x,k<=N/\n=N-k/\R k x/\s=S k x) a ⟨k0,x0,b,rfl,d,rfl⟩ ?_;grind
def J5{α:Type}{c Q}(S:α->AS)(R:α->Prop)(μ:α->Nat){s}(x0)(b:R x0)(a:Weak E s (S x0))(round:∀ x,R x->∀ K,(∀ s',(∃ x',μ x' < μ x/\R x'/\Weak E s' (S x'))->K s')->AW P E c (O0 K Q) (S x)):AW P E (.loop c) Q s:=by refine fG (λn s=>∃ x,n = μ x/\R x/\s=S x) a ⟨x0,rfl,b,rfl⟩ ?_;grind
def Yt{α:Type}{x y Q s}(S:α->AS)(R:α->Prop)(c:∀ K,(∀ s' a,R a->Weak E s' (S a)->K s')->AW P E x (O0 K Q) s)(b:∀ a,R a->AW P E y Q (S a)):AW P E (.seq x y) Q s:=
 Zk λK f=>c K λs' a e d=>f s' (BM d (b a e))
def sW(K Q s):O0 K Q .normal s=K s:=rfl
def y9(K Q i s):O0 K Q (.exit i) s=Q (.exit i) s:=rfl
def nW(K Q s):O0 K Q .ret s=Q .ret s:=rfl
def vQ(i Q s):RA i Q .normal s=Q .normal s:=rfl
def sO(i Q s):RA i Q .ret s=Q .ret s:=rfl
def xq(i j Q s):RA i Q (.exit j) s=if j=i then Q .normal s else Q (.exit j) s:=rfl
attribute[go_sem]sW y9 nW vQ sO xq
def ZV(v:Option V)(H:A')(K:V->A'->Prop):Prop:=∃ u,v=ae u/\K u H
@[go_sem] def ADY(rs K s):Rf P rs K .ret s=ZV (MU P s rs) s.H K:=rfl
@[go_sem] def ADD(rs K s):Rf P rs K .normal s=ZV (MU P s rs) s.H K:=rfl
def XV(a:Option V)(b:Option (List V)):Option (List V):=match a,b with|some v,ae m=>ae (v::m)|_,_=>none
def hZ(P:Program)(H:A')(t:TypeId)(v:V):Option V:=match v with|.ptr o g off=>W0 P H t (.ptr o g off)|_=>none
def VQ(l:Option (List V)):Option V:=match l with|some [v]=>ae v|some l=>ae (.tuple l)|none=>none
def oA(v m):XV (ae v) (ae m)=ae (v::m):=rfl
def r_(H t o g off):hZ P H t (.ptr o g off)=W0 P H t (.ptr o g off):=rfl
def AAX:VQ (ae [])=ae (.tuple []):=rfl
def AAF(v):VQ (ae [v])=ae v:=rfl
def ABL(a b r):VQ (ae (a::b::r))=ae (.tuple (a::b::r)):=rfl
def xU(s):Qe P s []=ae []:=rfl
def wo(τ H)(t:Nat)(l):Qe P ⟨τ,H⟩ (.tmp t::l)=XV (ae (τ t)) (Qe P ⟨τ,H⟩ l):=by rfl
def AAd(τ H)(p:Nat)(t l):Qe P ⟨τ,H⟩ (.cell p t::l)=XV (hZ P H t (τ p)) (Qe P ⟨τ,H⟩ l):=by rfl
def ACl(s l):MU P s l=VQ (Qe P s l):=by rfl
attribute[go_sem]oA r_ AAX AAF ABL xU wo AAd ACl
def Yk{u H K}(h:K u H):ZV (ae u) H K:=⟨u,rfl,h⟩
def Hg{G f fn c args H K}(q)(n:Nat)(rs)(e:P.funcs[f]?=ae fn)(g:fn.body=ae c)(d:fn.ntmps=n)(b:fn.results.toList=rs)(a:Nat.ble args.length n=true)(h:∀ X,AW P ⟨X,H,n,q,G,none,[],.plain⟩ c (Rf P rs K) ⟨Tq 0 args,H⟩):Spec P G f args H K:=by subst d;subst b;exact rI q e g a h
def Xi{n}(a : -9223372036854775808<=n)(h2:n<=9223372036854775807):IntKind.i64.wrap n=n:=by unfold IntKind.wrap;simp[IntKind.signed,IntKind.bits];omega
