/- Part 20 of the proof of a statement of seat YtnjcehngoajnnaaGreatDoor: HsSimp3. -/
import Derived.Test.YtnjcehngoajnnaaGreatDoorPart19
set_option linter.unusedSimpArgs false
set_option linter.unusedVariables false
section
namespace Go.Hs
variable {P:Program}
def idxA (N m:Nat) (b:Bool) (a:V) (k:IntKind) (n:Int):Option V :=
 match a with
 | .ptr o g off=>if 0≤n∧n<N then some (.ptr o g (off+n.toNat * m)) else none
 | .view c (.agg l)=>if 0≤n∧n<N then (Zxh b m l (n.toNat * m)).map (.view c) else none
 | _=>none
@[go_sem] theorem idxA_ptr (N m:Nat) (b:Bool) (k:IntKind) (o g off:Nat) (n:Int):idxA N m b (.ptr o g off) k n=if 0≤n∧n<N then some (.ptr o g (off+n.toNat * m)) else none:=rfl
@[go_sem] theorem idxA_view (N m:Nat) (b:Bool) (k:IntKind) (c:Col) (l:List V) (n:Int):idxA N m b (.view c (.agg l)) k n=if 0≤n∧n<N then (Zxh b m l (n.toNat * m)).map (.view c) else none:=rfl
theorem Zng {t e:TypeId} {N m:Nat} {b:Bool} (hu:P.underlying t=some (.array N e)) (hs:Zqb P e=some m) (hb:Zye P e=some b) (h3:b=true∨m=1) (a:V) (k:IntKind) (n:Int) :
  Zda P t a (.int k n)=idxA N m b a k n:=by
 unfold Zda idxA;rw [hu];simp only [hs]
 cases a<;>try rfl
 rename_i c v
 cases v<;>try rfl
 simp only [Zfe hb hs h3]
theorem Zu6 {t e:TypeId} {N m:Nat} {b:Bool} (hu:P.underlying t=some (.array N e)) (hs:Zqb P e=some m) (hb:Zye P e=some b) (h3:b=true∨m=1) (l:List V) (k:IntKind) (n:Int) :
  Zrh P t (.agg l) (.int k n)=if 0≤n∧n<N then Zxh b m l (n.toNat * m) else none:=by
 unfold Zrh;rw [hu];simp only [hs,Zfe hb hs h3]
theorem Z7p {t e:TypeId} {N m:Nat} {z:List V} (hu:P.underlying t=some (.array N e)) (hs:Zqb P e=some m) (hz:Z1e P t=some (.agg z)) (parts:List (Nat × V)) :
  Z9a P t parts=(Zdb (mulP m) z parts).map .agg:=by
 unfold Z9a;rw [hu,hz];simp only [hs];rfl
theorem Zfy:Zvr [] []=some true:=rfl
theorem Zzp {r s:List V} {q:Bool} (h:Zvr r s=some q) (k:IntKind) (a b:Int):Zvr (.int k a::r) (.int k b::s)=some (a==b && q):=by
 have:eqC (.int k a) (.int k b)=some (a==b):=by simp [eqC]
 simp only [Zvr,this]
 cases hab:(a==b)<;>simp [h]
theorem Z36 {r s:List V} {q:Bool} (h:Zvr r s=some q) (a b:List UInt8):Zvr (.str a::r) (.str b::s)=some (a==b && q):=by
 have:eqC (.str a) (.str b)=some (a==b):=rfl;simp only [Zvr,this]
 cases hab:(a==b)<;>simp [h]
theorem Zk3 {r s:List V} {q:Bool} (h:Zvr r s=some q) (a b:Bool):Zvr (.bool a::r) (.bool b::s)=some (a==b && q):=by
 have:eqC (.bool a) (.bool b)=some (a==b):=rfl;simp only [Zvr,this]
 cases hab:(a==b)<;>simp [h]
def Zb8 (P:Program) (t:TypeId) (ls:List V):Bool:=match P.underlying t with
 | some (.struct fs) => !P.stoodInHeld t && !P.eqGuardType P.depth t && Zb0 P 0 fs.toList ls
 | _=>false
theorem Zkt {t:TypeId} {ls ms:List V} {q:Bool} (hf:Zb8 P t ls=true) (he:Zvr ls ms=some q):Zyf P .eql t (.agg ls) (.agg ms)=some (.bool q)∧Zyf P .neq t (.agg ls) (.agg ms)=some (.bool (!q)):=by
 have:eqA P t ls ms=some q:=by
  unfold Zb8 at hf;unfold eqA
  cases hu:P.underlying t with
  | none=>rw [hu] at hf;cases hf
  | some d =>
   cases d<;>rw [hu] at hf<;>simp only [Bool.and_eq_true,Bool.not_eq_true',Bool.false_eq_true] at hf
   simp only;rw [if_pos ⟨hf.1.1,hf.1.2,hf.2⟩,he]
 exact ⟨by show (eqA P t ls ms).map _=_;rw [this];rfl,by show (eqA P t ls ms).map _=_;rw [this];rfl⟩
end Go.Hs
end
