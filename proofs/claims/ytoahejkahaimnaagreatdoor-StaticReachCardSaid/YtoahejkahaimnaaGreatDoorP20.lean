/- A part. No condition. -/
import Derived.Test.YtoahejkahaimnaaGreatDoorP19
set_option linter.all false
namespace Go.Hs
section
variable{P:Program}{E:Ent}
theorem Zm{c:Operand}{x y:Code}{Q:Exit->AS->Prop}{s:AS}{b:Bool}(hc:s.ev E c=.bool b)(ht:b=true->AW P E x Q s)(hf:b=false->AW P E y Q s):AW P E (.cond c x y) Q s:=by
 refine AW.cond hc ?_
 cases b with
 |true=>exact ht rfl
 |false=>exact hf rfl
theorem Weak.refl(s:AS):Weak E s s:=λ_ _ h=>h
theorem Weak.trans{s s' s'':AS}(h:Weak E s s')(k:Weak E s' s''):Weak E s s'':=λa w hs=>k a w (h a w hs)
def Ztg{α : Type}(f:Nat -> α):List (Nat × α)->Prop
 |[]=>True
 |p::r=>f p.1=p.2/\Ztg f r
@[go_sem] theorem allEq_nil{α : Type}(f:Nat -> α):Ztg f []=True:=rfl
@[go_sem] theorem allEq_cons{α : Type}(f:Nat -> α)(p:Nat × α)(r:List (Nat × α)):Ztg f (p::r)=(f p.1=p.2/\Ztg f r):=rfl
theorem Z1b{α : Type}{f:Nat -> α}:∀ {l:List (Nat × α)},Ztg f l->∀ p∈l,f p.1=p.2
 |[],_,p,hp=>by cases hp
 |q::r,h,p,hp=>by
  cases hp with
  |head=>exact h.1
  |tail _ hp=>exact Z1b h.2 p hp
@[go_sem] def st(l:List (Nat×V))(m:List (Nat×AObj)):AS:=⟨Zfa emp l,Zfa Zk m⟩
theorem Weak.st{τ : Nat->V}{H:Heap}{l:List (Nat×V)}{m:List (Nat×AObj)}(h:Ztg τ l)(hm:Ztg H m):Weak E ⟨τ,H⟩ (Hs.st l m):=
 Weak.keep l m (Z1b h) (Z1b hm)
theorem Zm7{c:Code}{Q:Exit->AS->Prop}(I:Nat->AS->Prop){n:Nat}{s s0:AS}(hw:Weak E s s0)(h0:I n s0)
  (round:∀ n s,I n s->AW P E c (Z7l (λs'=>∃ m s'',m<n/\Weak E s' s''/\I m s'') Q) s):AW P E (.loop c) Q s:=by
 refine AW.loop (λn s=>∃ s0,Weak E s s0/\I n s0) ⟨s0,hw,h0⟩ ?_;rintro n s ⟨s1,hw1,h1⟩;refine AW.weak hw1 ((round n s1 h1).mono ?_);intro e s' hq
 cases e with
 |normal=>
  obtain⟨m,s'',h2,h3,h4⟩:=hq;exact⟨m,h2,s'',h3,h4⟩
 |_=>exact hq
theorem Zaa{α : Type}{c:Code}{Q:Exit->AS->Prop}(N:Nat)(S:Nat -> α -> AS)(R:Nat -> α -> Prop){s:AS}(k0:Nat)(x0 : α)(hk:k0<=N)(h0:R k0 x0)(hw:Weak E s (S k0 x0))
  (round:∀ k x,k<=N->R k x->∀ K:AS->Prop,(∀ s',(k<N/\∃ x',R (k+1) x'/\Weak E s' (S (k+1) x'))->K s')->AW P E c (Z7l K Q) (S k x)):AW P E (.loop c) Q s:=by
 refine Zm7 (λn s=>∃ k x,k<=N/\n=N-k/\R k x/\s=S k x) hw ⟨k0,x0,hk,rfl,h0,rfl⟩ ?_;rintro n s ⟨k,x,hk,rfl,hR,rfl⟩;refine(round k x hk hR _ λ_ h=>h).mono ?_;intro e s' hq
 cases e with
 |normal=>
  obtain⟨hlt,x',hR',hw'⟩:=hq;exact⟨N-(k+1),S (k+1) x',zo,hw',k+1,x',hlt,rfl,hR',rfl⟩
 |_=>exact hq
theorem Zcd{α : Type}{c:Code}{Q:Exit->AS->Prop}(S : α -> AS)(R : α -> Prop)(μ : α -> Nat){s:AS}(x0 : α)(h0:R x0)(hw:Weak E s (S x0))
  (round:∀ x,R x->∀ K:AS->Prop,(∀ s',(∃ x',μ x' < μ x/\R x'/\Weak E s' (S x'))->K s')->AW P E c (Z7l K Q) (S x)):AW P E (.loop c) Q s:=by
 refine Zm7 (λn s=>∃ x,n = μ x/\R x/\s=S x) hw ⟨x0,rfl,h0,rfl⟩ ?_;rintro n s ⟨x,rfl,hR,rfl⟩;refine(round x hR _ λ_ h=>h).mono ?_;intro e s' hq
 cases e with
 |normal=>
  obtain⟨x',hlt,hR',hw'⟩:=hq;exact⟨μ x',S x',hlt,hw',x',rfl,hR',rfl⟩
 |_=>exact hq
theorem Zlc{α : Type}{x y:Code}{Q:Exit->AS->Prop}{s:AS}(S : α -> AS)(R : α -> Prop)(hx:∀ K:AS->Prop,(∀ s' a,R a->Weak E s' (S a)->K s')->AW P E x (Z7l K Q) s)
  (hy:∀ a,R a->AW P E y Q (S a)):AW P E (.seq x y) Q s:=
 Zha λK hK=>hx K λs' a hR hw=>hK s' (AW.weak hw (hy a hR))
theorem Zgu(K:AS->Prop)(Q:Exit->AS->Prop)(s:AS):Z7l K Q .normal s=K s:=rfl
theorem Zx7(K:AS->Prop)(Q:Exit->AS->Prop)(i:Nat)(s:AS):Z7l K Q (.exit i) s=Q (.exit i) s:=rfl
theorem Z3da(K:AS->Prop)(Q:Exit->AS->Prop)(s:AS):Z7l K Q .ret s=Q .ret s:=rfl
theorem Zlt(i:Nat)(Q:Exit->AS->Prop)(s:AS):Z2v i Q .normal s=Q .normal s:=rfl
theorem Zyaa(i:Nat)(Q:Exit->AS->Prop)(s:AS):Z2v i Q .ret s=Q .ret s:=rfl
theorem Zz0(i j:Nat)(Q:Exit->AS->Prop)(s:AS):Z2v i Q (.exit j) s=if j=i then Q .normal s else Q (.exit j) s:=rfl
attribute[go_sem]Zgu Zx7 Z3da Zlt Zyaa Zz0
def endK(v:Option V)(H:Heap)(K:V->Heap->Prop):Prop:=∃ u,v=some u/\K u H
@[go_sem] theorem bodyA_ret(rs:List ResultVar)(K:V->Heap->Prop)(s:AS):Zeg P rs K .ret s=endK (resA P s rs) s.H K:=rfl
@[go_sem] theorem Zwoa(rs:List ResultVar)(K:V->Heap->Prop)(s:AS):Zeg P rs K .normal s=endK (resA P s rs) s.H K:=rfl
def Zena(a:Option V)(b:Option (List V)):Option (List V):=match a,b with|some v,some m=>some (v::m)|_,_=>none
def cellO(P:Program)(H:Heap)(t:TypeId)(v:V):Option V:=match v with|.ptr o g off=>Zvb P H t (.ptr o g off)|_=>none
def tupO(l:Option (List V)):Option V:=match l with|some [v]=>some v|some l=>some (.tuple l)|none=>none
theorem Zpaa(v:V)(m:List V):Zena (some v) (some m)=some (v::m):=rfl
theorem Zbia(H:Heap)(t:TypeId)(o g off:Nat):cellO P H t (.ptr o g off)=Zvb P H t (.ptr o g off):=rfl
theorem Zgka:tupO (some [])=some (.tuple []):=rfl
theorem Zfka(v:V):tupO (some [v])=some v:=rfl
theorem Zvda(a b:V)(r:List V):tupO (some (a::b::r))=some (.tuple (a::b::r)):=rfl
theorem Zn8(s:AS):Zie P s []=some []:=rfl
theorem Zm8(τ : Nat->V)(H:Heap)(t:Nat)(l:List ResultVar):Zie P ⟨τ,H⟩ (.tmp t::l)=Zena (some (τ t)) (Zie P ⟨τ,H⟩ l):=by
 simp only[Zie,Zpn]
 cases Zie P ⟨τ,H⟩ l<;>rfl
theorem Z0z(τ : Nat->V)(H:Heap)(p:Nat)(t:TypeId)(l:List ResultVar):Zie P ⟨τ,H⟩ (.cell p t::l)=Zena (cellO P H t (τ p)) (Zie P ⟨τ,H⟩ l):=by
 simp only[Zie,Zpn,cellO];generalize τ p=v
 cases v<;>simp only[Zena]
 rename_i o g off
 cases Zvb P H t (.ptr o g off)<;>cases Zie P ⟨τ,H⟩ l<;>rfl
theorem resA_K(s:AS)(l:List ResultVar):resA P s l=tupO (Zie P s l):=by
 unfold resA tupO;rfl
attribute[go_sem]Zpaa Zbia Zgka Zfka Zvda Zn8 Zm8 Z0z resA_K
theorem Z6b{u:V}{H:Heap}{K:V->Heap->Prop}(h:K u H):endK (some u) H K:=⟨u,rfl,h⟩
theorem Zst{G:Nat->V}{f:FuncId}{fn:Func}{c:Code}{args:List V}{H:Heap}{K:V->Heap->Prop}(q:Nat)(n:Nat)(rs:List ResultVar)(hf:P.funcs[f]?=some fn)(hb:fn.body=some c)(hn:fn.ntmps=n)(hr:fn.results.toList=rs)
  (hn0:Nat.ble args.length n=true) (h:∀ X,AW P ⟨X,H,n,q,G,none,[],.plain⟩ c (Zeg P rs K) ⟨Zve 0 args,H⟩):Spec P G f args H K:=by
 subst hn;subst hr;exact Z3y q hf hb hn0 h
theorem w64{n:Int}(h1 : -9223372036854775808<=n)(h2:n<=9223372036854775807):IntKind.i64.wrap n=n:=by
 unfold IntKind.wrap;simp[IntKind.signed,IntKind.bits];omega
end
end Go.Hs
