/- A part. No condition. -/
import Derived.Test.YtjplgaebbfabnaaGreatDoorP19
set_option linter.all false
namespace Go.Hs
section
variable{P:Program}{E:Ent}
theorem Z2{c:Operand}{x y:Code}{Q:Exit->AS->Prop}{s:AS}{b:Bool}(a:s.ev E c=.bool b)(d:b=true->AW P E x Q s)(e:b=false->AW P E y Q s):AW P E (.cond c x y) Q s:=by
 refine AW.cond a ?_
 grind
def S8{α : Type}(f:Nat -> α):List (Nat × α)->Prop
 |[]=>True
 |p::r=>f p.1=p.2/\S8 f r
@[go_sem] theorem allEq_nil{α : Type}(f:Nat -> α):S8 f []=True:=rfl
@[go_sem] theorem allEq_cons{α : Type}(f:Nat -> α)(p:Nat × α)(r:List (Nat × α)):S8 f (p::r)=(f p.1=p.2/\S8 f r):=rfl
theorem W9{α : Type}{f:Nat -> α}:∀ {l:List (Nat × α)},S8 f l->∀ p∈l,f p.1=p.2
 |[],_,p,hp=>by grind
 |q::r,h,p,hp=>by
  cases hp with
  |head=>exact h.1
  |tail _ hp=>exact W9 h.2 p hp
@[go_sem] def st(l:List (Nat×V))(m:List (Nat×AObj)):AS:=⟨Z5 La l,Z5 Zj m⟩
theorem Weak.st{τ : Nat->V}{H:Heap}{l:List (Nat×V)}{m:List (Nat×AObj)}(h:S8 τ l)(a:S8 H m):Weak E ⟨τ,H⟩ (Hs.st l m):=
 Weak.keep l m (W9 h) (W9 a)
theorem Zdq{c:Code}{Q:Exit->AS->Prop}(I:Nat->AS->Prop){n:Nat}{s s0:AS}(d:Weak E s s0)(f:I n s0)
  (round:∀ n s,I n s->AW P E c (N7 (λs'=>∃ m s'',m<n/\Weak E s' s''/\I m s'') Q) s):AW P E (.loop c) Q s:=by
 refine AW.loop (λn s=>∃ s0,Weak E s s0/\I n s0) ⟨s0,d,f⟩ ?_;rintro n s ⟨b,a,e⟩;refine AW.weak a ((round n b e).mono ?_)
 grind
theorem Yc{α : Type}{c:Code}{Q:Exit->AS->Prop}(N:Nat)(S:Nat -> α -> AS)(R:Nat -> α -> Prop){s:AS}(a:Nat)(b : α)(e:a<=N)(f:R a b)(d:Weak E s (S a b))
  (round:∀ k x,k<=N->R k x->∀ K:AS->Prop,(∀ s',(k<N/\∃ x',R (k+1) x'/\Weak E s' (S (k+1) x'))->K s')->AW P E c (N7 K Q) (S k x)):AW P E (.loop c) Q s:=by
 refine Zdq (λn s=>∃ k x,k<=N/\n=N-k/\R k x/\s=S k x) d ⟨a,b,e,rfl,f,rfl⟩ ?_
 grind
theorem Vs{α : Type}{c:Code}{Q:Exit->AS->Prop}(S : α -> AS)(R : α -> Prop)(μ : α -> Nat){s:AS}(a : α)(d:R a)(b:Weak E s (S a))
  (round:∀ x,R x->∀ K:AS->Prop,(∀ s',(∃ x',μ x' < μ x/\R x'/\Weak E s' (S x'))->K s')->AW P E c (N7 K Q) (S x)):AW P E (.loop c) Q s:=by
 refine Zdq (λn s=>∃ x,n = μ x/\R x/\s=S x) b ⟨a,rfl,d,rfl⟩ ?_
 grind
theorem Wq{α : Type}{x y:Code}{Q:Exit->AS->Prop}{s:AS}(S : α -> AS)(R : α -> Prop)(c:∀ K:AS->Prop,(∀ s' a,R a->Weak E s' (S a)->K s')->AW P E x (N7 K Q) s)
  (b:∀ a,R a->AW P E y Q (S a)):AW P E (.seq x y) Q s:=
 Yz λK f=>c K λs' a e d=>f s' (AW.weak d (b a e))
theorem Z4b(K:AS->Prop)(Q:Exit->AS->Prop)(s:AS):N7 K Q .normal s=K s:=rfl
theorem Zmq(K:AS->Prop)(Q:Exit->AS->Prop)(i:Nat)(s:AS):N7 K Q (.exit i) s=Q (.exit i) s:=rfl
theorem Z2y(K:AS->Prop)(Q:Exit->AS->Prop)(s:AS):N7 K Q .ret s=Q .ret s:=rfl
theorem A2(i:Nat)(Q:Exit->AS->Prop)(s:AS):Bp i Q .normal s=Q .normal s:=rfl
theorem Z7t(i:Nat)(Q:Exit->AS->Prop)(s:AS):Bp i Q .ret s=Q .ret s:=rfl
theorem Zyk(i j:Nat)(Q:Exit->AS->Prop)(s:AS):Bp i Q (.exit j) s=if j=i then Q .normal s else Q (.exit j) s:=rfl
attribute[go_sem]Z4b Zmq Z2y A2 Z7t Zyk
def endK(v:Option V)(H:Heap)(K:V->Heap->Prop):Prop:=∃ u,v=some u/\K u H
@[go_sem] theorem bodyA_ret(a:List ResultVar)(K:V->Heap->Prop)(s:AS):T3 P a K .ret s=endK (Zni P s a) s.H K:=rfl
@[go_sem] theorem Z1ba(a:List ResultVar)(K:V->Heap->Prop)(s:AS):T3 P a K .normal s=endK (Zni P s a) s.H K:=rfl
def Zg8(a:Option V)(b:Option (List V)):Option (List V):=match a,b with|some v,some m=>some (v::m)|_,_=>none
def Zqca(P:Program)(H:Heap)(t:TypeId)(v:V):Option V:=match v with|.ptr o g off=>Wc P H t (.ptr o g off)|_=>none
def Z09(l:Option (List V)):Option V:=match l with|some [v]=>some v|some l=>some (.tuple l)|none=>none
theorem Zut(v:V)(m:List V):Zg8 (some v) (some m)=some (v::m):=rfl
theorem Zc2(H:Heap)(t:TypeId)(o g off:Nat):Zqca P H t (.ptr o g off)=Wc P H t (.ptr o g off):=rfl
theorem Z24:Z09 (some [])=some (.tuple []):=rfl
theorem Z14(v:V):Z09 (some [v])=some v:=rfl
theorem Zwy(a b:V)(r:List V):Z09 (some (a::b::r))=some (.tuple (a::b::r)):=rfl
theorem Zfr(s:AS):Re P s []=some []:=rfl
theorem Zer(τ : Nat->V)(H:Heap)(t:Nat)(l:List ResultVar):Re P ⟨τ,H⟩ (.tmp t::l)=Zg8 (some (τ t)) (Re P ⟨τ,H⟩ l):=by
 rfl
theorem Zli(τ : Nat->V)(H:Heap)(p:Nat)(t:TypeId)(l:List ResultVar):Re P ⟨τ,H⟩ (.cell p t::l)=Zg8 (Zqca P H t (τ p)) (Re P ⟨τ,H⟩ l):=by
 rfl
theorem resA_K(s:AS)(l:List ResultVar):Zni P s l=Z09 (Re P s l):=by
 rfl
attribute[go_sem]Zut Zc2 Z24 Z14 Zwy Zfr Zer Zli resA_K
theorem Vn{u:V}{H:Heap}{K:V->Heap->Prop}(h:K u H):endK (some u) H K:=⟨u,rfl,h⟩
theorem A6{G:Nat->V}{f:FuncId}{a:Func}{c:Code}{args:List V}{H:Heap}{K:V->Heap->Prop}(q:Nat)(n:Nat)(d:List ResultVar)(i:P.funcs[f]?=some a)(j:a.body=some c)(g:a.ntmps=n)(e:a.results.toList=d)
  (b:Nat.ble args.length n=true) (h:∀ X,AW P ⟨X,H,n,q,G,none,[],.plain⟩ c (T3 P d K) ⟨Uy 0 args,H⟩):Spec P G f args H K:=by
 subst g;subst e;exact Zeh q i j b h
theorem Wy{n:Int}(b : -9223372036854775808<=n)(a:n<=9223372036854775807):IntKind.i64.wrap n=n:=by
 unfold IntKind.wrap;simp[IntKind.signed,IntKind.bits];omega
end
end Go.Hs
