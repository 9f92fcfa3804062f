/- A part. No condition. -/
import Derived.Test.YtoahejkahaimnaaGreatDoorP19
set_option linter.all false
namespace Go.Hs
section
variable{P:Program}{E:Ent}
theorem Zm{c:Operand}{x y:Code}{Q:Exit->AS->Prop}{s:AS}{b:Bool}(a:s.ev E c=.bool b)(d:b=true->AW P E x Q s)(e:b=false->AW P E y Q s):AW P E (.cond c x y) Q s:=by
 refine AW.cond a ?_
 grind
theorem Weak.refl(s:AS):Weak E s s:=λ_ _ h=>h
theorem Weak.trans{s s' b:AS}(h:Weak E s s')(k:Weak E s' b):Weak E s b:=λa w c=>k a w (h a w c)
def T8{α : Type}(f:Nat -> α):List (Nat × α)->Prop
 |[]=>True
 |p::r=>f p.1=p.2/\T8 f r
@[go_sem] theorem allEq_nil{α : Type}(f:Nat -> α):T8 f []=True:=rfl
@[go_sem] theorem allEq_cons{α : Type}(f:Nat -> α)(p:Nat × α)(r:List (Nat × α)):T8 f (p::r)=(f p.1=p.2/\T8 f r):=rfl
theorem Wq{α : Type}{f:Nat -> α}:∀ {l:List (Nat × α)},T8 f l->∀ p∈l,f p.1=p.2
 |[],_,p,hp=>by grind
 |q::r,h,p,hp=>by
  cases hp with
  |head=>exact h.1
  |tail _ hp=>exact Wq h.2 p hp
@[go_sem] def st(l:List (Nat×V))(m:List (Nat×AObj)):AS:=⟨Z6 emp l,Z6 Zi m⟩
theorem Weak.st{τ : Nat->V}{H:Heap}{l:List (Nat×V)}{m:List (Nat×AObj)}(h:T8 τ l)(a:T8 H m):Weak E ⟨τ,H⟩ (Hs.st l m):=
 Weak.keep l m (Wq h) (Wq a)
theorem Zdm{c:Code}{Q:Exit->AS->Prop}(I:Nat->AS->Prop){n:Nat}{s a:AS}(e:Weak E s a)(g:I n a)
  (round:∀ n s,I n s->AW P E c (Oq (λs'=>∃ m s'',m<n/\Weak E s' s''/\I m s'') Q) s):AW P E (.loop c) Q s:=by
 refine AW.loop (λn s=>∃ a,Weak E s a/\I n a) ⟨a,e,g⟩ ?_;rintro n s ⟨d,b,f⟩;refine AW.weak b ((round n d f).mono ?_)
 grind
theorem Yf{α : Type}{c:Code}{Q:Exit->AS->Prop}(N:Nat)(S:Nat -> α -> AS)(R:Nat -> α -> Prop){s:AS}(a:Nat)(b : α)(e:a<=N)(f:R a b)(d:Weak E s (S a b))
  (round:∀ k x,k<=N->R k x->∀ K:AS->Prop,(∀ s',(k<N/\∃ x',R (k+1) x'/\Weak E s' (S (k+1) x'))->K s')->AW P E c (Oq K Q) (S k x)):AW P E (.loop c) Q s:=by
 refine Zdm (λn s=>∃ k x,k<=N/\n=N-k/\R k x/\s=S k x) d ⟨a,b,e,rfl,f,rfl⟩ ?_
 grind
theorem Vz{α : Type}{c:Code}{Q:Exit->AS->Prop}(S : α -> AS)(R : α -> Prop)(μ : α -> Nat){s:AS}(a : α)(d:R a)(b:Weak E s (S a))
  (round:∀ x,R x->∀ K:AS->Prop,(∀ s',(∃ x',μ x' < μ x/\R x'/\Weak E s' (S x'))->K s')->AW P E c (Oq K Q) (S x)):AW P E (.loop c) Q s:=by
 refine Zdm (λn s=>∃ x,n = μ x/\R x/\s=S x) b ⟨a,rfl,d,rfl⟩ ?_
 grind
theorem Wr{α : Type}{x y:Code}{Q:Exit->AS->Prop}{s:AS}(S : α -> AS)(R : α -> Prop)(c:∀ K:AS->Prop,(∀ s' a,R a->Weak E s' (S a)->K s')->AW P E x (Oq K Q) s)
  (b:∀ a,R a->AW P E y Q (S a)):AW P E (.seq x y) Q s:=
 Yo λK f=>c K λs' a e d=>f s' (AW.weak d (b a e))
theorem A8(K:AS->Prop)(Q:Exit->AS->Prop)(s:AS):Oq K Q .normal s=K s:=rfl
theorem Zqm(K:AS->Prop)(Q:Exit->AS->Prop)(i:Nat)(s:AS):Oq K Q (.exit i) s=Q (.exit i) s:=rfl
theorem Zmu(K:AS->Prop)(Q:Exit->AS->Prop)(s:AS):Oq K Q .ret s=Q .ret s:=rfl
theorem C8(i:Nat)(Q:Exit->AS->Prop)(s:AS):D1 i Q .normal s=Q .normal s:=rfl
theorem Zzp(i:Nat)(Q:Exit->AS->Prop)(s:AS):D1 i Q .ret s=Q .ret s:=rfl
theorem Zyh(i j:Nat)(Q:Exit->AS->Prop)(s:AS):D1 i Q (.exit j) s=if j=i then Q .normal s else Q (.exit j) s:=rfl
attribute[go_sem]A8 Zqm Zmu C8 Zzp Zyh
def endK(v:Option V)(H:Heap)(K:V->Heap->Prop):Prop:=∃ u,v=some u/\K u H
@[go_sem] theorem bodyA_ret(a:List ResultVar)(K:V->Heap->Prop)(s:AS):Tr P a K .ret s=endK (Zvf P s a) s.H K:=rfl
@[go_sem] theorem Z95(a:List ResultVar)(K:V->Heap->Prop)(s:AS):Tr P a K .normal s=endK (Zvf P s a) s.H K:=rfl
def Zo2(a:Option V)(b:Option (List V)):Option (List V):=match a,b with|some v,some m=>some (v::m)|_,_=>none
def Z36(P:Program)(H:Heap)(t:TypeId)(v:V):Option V:=match v with|.ptr o g off=>Xt P H t (.ptr o g off)|_=>none
def Z73(l:Option (List V)):Option V:=match l with|some [v]=>some v|some l=>some (.tuple l)|none=>none
theorem Zqp(v:V)(m:List V):Zo2 (some v) (some m)=some (v::m):=rfl
theorem Zjx(H:Heap)(t:TypeId)(o g off:Nat):Z36 P H t (.ptr o g off)=Xt P H t (.ptr o g off):=rfl
theorem Zkz:Z73 (some [])=some (.tuple []):=rfl
theorem Zjz(v:V):Z73 (some [v])=some v:=rfl
theorem Zfu(a b:V)(r:List V):Z73 (some (a::b::r))=some (.tuple (a::b::r)):=rfl
theorem Zkn(s:AS):Sf P s []=some []:=rfl
theorem Zjn(τ : Nat->V)(H:Heap)(t:Nat)(l:List ResultVar):Sf P ⟨τ,H⟩ (.tmp t::l)=Zo2 (some (τ t)) (Sf P ⟨τ,H⟩ l):=by
 rfl
theorem Ztf(τ : Nat->V)(H:Heap)(p:Nat)(t:TypeId)(l:List ResultVar):Sf P ⟨τ,H⟩ (.cell p t::l)=Zo2 (Z36 P H t (τ p)) (Sf P ⟨τ,H⟩ l):=by
 rfl
theorem resA_K(s:AS)(l:List ResultVar):Zvf P s l=Z73 (Sf P s l):=by
 rfl
attribute[go_sem]Zqp Zjx Zkz Zjz Zfu Zkn Zjn Ztf resA_K
theorem Va{u:V}{H:Heap}{K:V->Heap->Prop}(h:K u H):endK (some u) H K:=⟨u,rfl,h⟩
theorem Bb{G:Nat->V}{f:FuncId}{a:Func}{c:Code}{args:List V}{H:Heap}{K:V->Heap->Prop}(q:Nat)(n:Nat)(d:List ResultVar)(i:P.funcs[f]?=some a)(j:a.body=some c)(g:a.ntmps=n)(e:a.results.toList=d)
  (b:Nat.ble args.length n=true) (h:∀ X,AW P ⟨X,H,n,q,G,none,[],.plain⟩ c (Tr P d K) ⟨Ud 0 args,H⟩):Spec P G f args H K:=by
 subst g;subst e;exact Zie q i j b h
theorem W0{n:Int}(b : -9223372036854775808<=n)(a:n<=9223372036854775807):IntKind.i64.wrap n=n:=by
 unfold IntKind.wrap;simp[IntKind.signed,IntKind.bits];omega
end
end Go.Hs
