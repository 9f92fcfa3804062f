/- Part 22 of a proof; no condition. -/
import Derived.Test.YtegjlbpnpiigkaaGreatDoorPart21
set_option linter.unusedSimpArgs false
set_option linter.unusedVariables false
section
namespace Go.Hs
section
variable {P:Program} {E:Ent}
theorem Zi {c:Operand} {x y:Code} {Q:Exit→AS→Prop} {s:AS} {b:Bool} (hc:s.ev E c = .bool b) (ht:b=true→AW P E x Q s) (hf:b=false→AW P E y Q s):AW P E (.cond c x y) Q s:=by
 refine AW.cond hc ?_
 cases b with
 | true=>exact ht rfl
 | false=>exact hf rfl
theorem Weak.refl (s:AS):Weak E s s:=fun _ _ h=>h
theorem Weak.trans {s s' s'':AS} (h:Weak E s s') (k:Weak E s' s''):Weak E s s'':=fun a w hs=>k a w (h a w hs)
def Z5o {α : Type} (f:Nat → α):List (Nat × α)→Prop
 | []=>True
 | p::r=>f p.1=p.2∧Z5o f r
@[go_sem] theorem allEq_nil {α : Type} (f:Nat → α):Z5o f []=True:=rfl
@[go_sem] theorem allEq_cons {α : Type} (f:Nat → α) (p:Nat × α) (r:List (Nat × α)):Z5o f (p::r)=(f p.1=p.2∧Z5o f r):=rfl
theorem Zsd {α : Type} {f:Nat → α}:∀ {l:List (Nat × α)},Z5o f l→∀ p∈l,f p.1=p.2
 | [],_,p,hp=>by cases hp
 | q::r,h,p,hp=>by
  cases hp with
  | head=>exact h.1
  | tail _ hp=>exact Zsd h.2 p hp
@[go_sem] def st (l:List (Nat × V)) (m:List (Nat × AObj)):AS:=⟨Zob emp l,Zob Zl m⟩
theorem Za {τ : Nat→V} {H:Heap} {l:List (Nat × V)} {m:List (Nat × AObj)} (h:Z5o τ l) (hm:Z5o H m):Weak E ⟨τ,H⟩ (Hs.st l m) :=
 Weak.keep l m (Zsd h) (Zsd hm)
theorem Zhz {c:Code} {Q:Exit→AS→Prop} (I:Nat→AS→Prop) {n:Nat} {s s0:AS} (hw:Weak E s s0) (h0:I n s0)
  (round:∀ n s,I n s→AW P E c (Zmm (fun s'=>∃ m s'',m<n∧Weak E s' s''∧I m s'') Q) s):AW P E (.loop c) Q s:=by
 refine AW.loop (fun n s=>∃ s0,Weak E s s0∧I n s0) ⟨s0,hw,h0⟩ ?_;rintro n s ⟨s1,hw1,h1⟩;refine AW.weak hw1 ((round n s1 h1).mono ?_);intro e s' hq
 cases e with
 | normal =>
  obtain ⟨m,s'',h2,h3,h4⟩:=hq;exact ⟨m,h2,s'',h3,h4⟩
 | _=>exact hq
theorem Zda {α : Type} {c:Code} {Q:Exit→AS→Prop} (N:Nat) (S:Nat → α → AS) (R:Nat → α → Prop) {s:AS} (k0:Nat) (x0 : α) (hk:k0≤N) (h0:R k0 x0) (hw:Weak E s (S k0 x0))
  (round:∀ k x,k≤N→R k x→∀ K:AS→Prop,(∀ s',(k<N∧∃ x',R (k+1) x'∧Weak E s' (S (k+1) x'))→K s')→AW P E c (Zmm K Q) (S k x)):AW P E (.loop c) Q s:=by
 refine Zhz (fun n s=>∃ k x,k≤N∧n=N-k∧R k x∧s=S k x) hw ⟨k0,x0,hk,rfl,h0,rfl⟩ ?_;rintro n s ⟨k,x,hk,rfl,hR,rfl⟩;refine (round k x hk hR _ fun _ h=>h).mono ?_;intro e s' hq
 cases e with
 | normal =>
  obtain ⟨hlt,x',hR',hw'⟩:=hq;exact ⟨N-(k+1),S (k+1) x',by omega,hw',k+1,x',hlt,rfl,hR',rfl⟩
 | _=>exact hq
theorem Zlb {α : Type} {c:Code} {Q:Exit→AS→Prop} (S : α → AS) (R : α → Prop) (μ : α → Nat) {s:AS} (x0 : α) (h0:R x0) (hw:Weak E s (S x0))
  (round:∀ x,R x→∀ K:AS→Prop,(∀ s',(∃ x',μ x' < μ x∧R x'∧Weak E s' (S x'))→K s')→AW P E c (Zmm K Q) (S x)):AW P E (.loop c) Q s:=by
 refine Zhz (fun n s=>∃ x,n = μ x∧R x∧s=S x) hw ⟨x0,rfl,h0,rfl⟩ ?_;rintro n s ⟨x,rfl,hR,rfl⟩;refine (round x hR _ fun _ h=>h).mono ?_;intro e s' hq
 cases e with
 | normal =>
  obtain ⟨x',hlt,hR',hw'⟩:=hq;exact ⟨μ x',S x',hlt,hw',x',rfl,hR',rfl⟩
 | _=>exact hq
theorem Zia {α : Type} {x y:Code} {Q:Exit→AS→Prop} {s:AS} (S : α → AS) (R : α → Prop) (hx:∀ K:AS→Prop,(∀ s' a,R a→Weak E s' (S a)→K s')→AW P E x (Zmm K Q) s)
  (hy:∀ a,R a→AW P E y Q (S a)):AW P E (.seq x y) Q s :=
 Z7 fun K hK=>hx K fun s' a hR hw=>hK s' (AW.weak hw (hy a hR))
@[go_sem] theorem Z67 (K:AS→Prop) (Q:Exit→AS→Prop) (s:AS):Zmm K Q .normal s=K s:=rfl
@[go_sem] theorem thenA_exit (K:AS→Prop) (Q:Exit→AS→Prop) (i:Nat) (s:AS):Zmm K Q (.exit i) s=Q (.exit i) s:=rfl
@[go_sem] theorem thenA_ret (K:AS→Prop) (Q:Exit→AS→Prop) (s:AS):Zmm K Q .ret s=Q .ret s:=rfl
@[go_sem] theorem Zt7 (i:Nat) (Q:Exit→AS→Prop) (s:AS):Zvu i Q .normal s=Q .normal s:=rfl
@[go_sem] theorem blockA_ret (i:Nat) (Q:Exit→AS→Prop) (s:AS):Zvu i Q .ret s=Q .ret s:=rfl
@[go_sem] theorem blockA_exit (i j:Nat) (Q:Exit→AS→Prop) (s:AS):Zvu i Q (.exit j) s=if j=i then Q .normal s else Q (.exit j) s:=rfl
def endK (v:Option V) (H:Heap) (K:V→Heap→Prop):Prop:=∃ u,v=some u∧K u H
@[go_sem] theorem bodyA_ret (rs:List ResultVar) (K:V→Heap→Prop) (s:AS):Zuk P rs K .ret s=endK (Zb8 P s rs) s.H K:=rfl
def Zq7 (a:Option V) (b:Option (List V)):Option (List V):=match a,b with | some v,some m=>some (v::m) | _,_=>none
def cellO (P:Program) (H:Heap) (t:TypeId) (v:V):Option V:=match v with | .ptr o g off=>Z8b P H t (.ptr o g off) | _=>none
def tupO (l:Option (List V)):Option V:=match l with | some [v]=>some v | some l=>some (.tuple l) | none=>none
@[go_sem] theorem consO_some (v:V) (m:List V):Zq7 (some v) (some m)=some (v::m):=rfl
@[go_sem] theorem cellO_ptr (H:Heap) (t:TypeId) (o g off:Nat):cellO P H t (.ptr o g off)=Z8b P H t (.ptr o g off):=rfl
@[go_sem] theorem tupO_one (v:V):tupO (some [v])=some v:=rfl
@[go_sem] theorem tupO_more (a b:V) (r:List V):tupO (some (a::b::r))=some (.tuple (a::b::r)):=rfl
@[go_sem] theorem resAll_nil (s:AS):Zde P s []=some []:=rfl
@[go_sem] theorem resAll_tmp (τ : Nat→V) (H:Heap) (t:Nat) (l:List ResultVar):Zde P ⟨τ,H⟩ (.tmp t::l)=Zq7 (some (τ t)) (Zde P ⟨τ,H⟩ l):=by
 simp only [Zde,Zwn]
 cases Zde P ⟨τ,H⟩ l<;>rfl
@[go_sem] theorem resAll_cell (τ : Nat→V) (H:Heap) (p:Nat) (t:TypeId) (l:List ResultVar):Zde P ⟨τ,H⟩ (.cell p t::l)=Zq7 (cellO P H t (τ p)) (Zde P ⟨τ,H⟩ l):=by
 simp only [Zde,Zwn,cellO];generalize τ p=v
 cases v<;>simp only [Zq7]
 rename_i o g off
 cases Z8b P H t (.ptr o g off)<;>cases Zde P ⟨τ,H⟩ l<;>rfl
@[go_sem] theorem resA_K (s:AS) (l:List ResultVar):Zb8 P s l=tupO (Zde P s l):=by
 unfold Zb8 tupO;rfl
theorem Z6a {u:V} {H:Heap} {K:V→Heap→Prop} (h:K u H):endK (some u) H K:=⟨u,rfl,h⟩
theorem Zhs {G:Nat→V} {f:FuncId} {fn:Func} {c:Code} {args:List V} {H:Heap} {K:V→Heap→Prop} (q:Nat) (n:Nat) (rs:List ResultVar) (hf:P.funcs[f]? = some fn) (hb:fn.body=some c) (hn:fn.ntmps=n) (hr:fn.results.toList=rs)
  (hn0:Nat.ble args.length n=true) (h:∀ X,AW P ⟨X,H,n,q,G,none,[]⟩ c (Zuk P rs K) ⟨Zoi 0 args,H⟩):Spec P G f args H K:=by
 subst hn;subst hr;exact Z8u q hf hb hn0 h
theorem w64 {n:Int} (h1 : -9223372036854775808≤n) (h2:n≤9223372036854775807):IntKind.i64.wrap n=n:=by
 unfold IntKind.wrap;simp [IntKind.signed,IntKind.bits];omega
end
end Go.Hs
end
