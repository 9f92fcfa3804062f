/- Part 42 of a proof; no condition. -/
import Derived.Test.YtnjcehngoajnnaaGreatDoorPart35
set_option linter.unusedSimpArgs false
set_option linter.unusedVariables false
section
namespace Go.Hs
section
variable {P:Program} {E:Ent} {ops:Array Oper} {Q:AS→Prop} {rest:List Oper} {d:Option Nat} {ty:TypeId} {pos:String} {af:Array Edge} {τ : Nat→V} {H:Heap} {kp:Kps} {T:Told} {i:Nat}
def mkIfV (P:Program) (t:TypeId) (v:V):Option V:=match P.underlying t with
 | some (.interface _)=>none
 | some _=>some (.iface t v)
 | none=>none
@[go_sem] theorem opsA_lookup (t:TypeId) (m x:Operand) (ok:Bool):Zdb P E ops Q (⟨d,.lookup t m x ok,ty,pos,af,none⟩::rest) ⟨τ,H⟩ =
  Zng P E ops Q rest d τ H (Z4l P t (AS.ev E ⟨τ,H⟩ m) (AS.ev E ⟨τ,H⟩ x) ok):=Zwb ops _ fun _=>rfl
@[go_sem] theorem opsA_assert (x:Operand) (t u:TypeId) (ok:Bool):Zdb P E ops Q (⟨d,.typeAssert x t u ok,ty,pos,af,none⟩::rest) ⟨τ,H⟩ =
  Zng P E ops Q rest d τ H (Zig P (AS.ev E ⟨τ,H⟩ x) u ok):=Zwb ops _ fun _=>rfl
@[go_sem] theorem Zjba (t:TypeId) (x:Operand):Zdb P E ops Q (⟨d,.makeInterface t x,ty,pos,af,none⟩::rest) ⟨τ,H⟩ =
  Zng P E ops Q rest d τ H (mkIfV P t (AS.ev E ⟨τ,H⟩ x)):=Zwb ops _ fun _=>rfl
def panK (kp:Option (V→Heap→Prop)) (H:Heap) (v:V):Prop:=match v with
 | .iface t v=>∃ k,kp=some k∧k (.iface t v) H
 | _=>False
@[go_sem] theorem panK_iface (k:V→Heap→Prop) (H:Heap) (t:TypeId) (v:V):panK (some k) H (.iface t v)=k (.iface t v) H:=by
 simp only [panK,Option.some.injEq,exists_eq_left']
@[go_sem] theorem opsA_panic (x:Operand):Zdb P E ops Q (⟨d,.panic x,ty,pos,af,none⟩::rest) ⟨τ,H⟩=panK E.kp H (AS.ev E ⟨τ,H⟩ x):=by
 rw [Zsb];simp only [Z2a,panK];rfl
@[go_sem] theorem opsT_lookup (t:TypeId) (m x:Operand) (ok:Bool):Zbd P E kp ops Q T i (⟨d,.lookup t m x ok,ty,pos,af,none⟩::rest) ⟨τ,H⟩=Zdb P E ops (Zbd P E kp ops Q T (i+1) rest) [⟨d,.lookup t m x ok,ty,pos,af,none⟩] ⟨τ,H⟩:=Zob _ rfl rfl rfl
@[go_sem] theorem Zsea (t:TypeId) (e:Nat):Zdb P E ops Q (⟨some e,.makeMap t none,ty,pos,af,none⟩::rest) ⟨τ,H⟩ =
  ∀ b,Zdb P E ops Q rest ⟨upd τ e (.mref (E.q+e) b),upd H (E.q+e) (.mp E.X0.w.heap.size b [] [])⟩:=by
 rw [Zsb];rfl
@[go_sem] theorem Zhba (t:TypeId) (m k x:Operand):Zdb P E ops Q (⟨d,.mapUpdate t m k x,ty,pos,af,none⟩::rest) ⟨τ,H⟩ =
  Z9f P E.X0.w.heap.size H t (AS.ev E ⟨τ,H⟩ m) (AS.ev E ⟨τ,H⟩ k) (AS.ev E ⟨τ,H⟩ x) fun v H'=>Zdb P E ops Q rest (AS.put ⟨τ,H'⟩ d v):=by
 rw [Zsb];rfl
@[go_sem] theorem opsA_insert (t:TypeId) (m k x:Operand):Zdb P E ops Q (⟨d,.insert t m k x,ty,pos,af,none⟩::rest) ⟨τ,H⟩ =
  Z9f P E.X0.w.heap.size H t (AS.ev E ⟨τ,H⟩ m) (AS.ev E ⟨τ,H⟩ k) (AS.ev E ⟨τ,H⟩ x) fun v H'=>Zdb P E ops Q rest (AS.put ⟨τ,H'⟩ d v):=by
 rw [Zsb];rfl
@[go_sem] theorem Zdba (t:TypeId) (m k x:Operand):Zbd P E kp ops Q T i (⟨d,.mapUpdate t m k x,ty,pos,af,none⟩::rest) ⟨τ,H⟩=Zdb P E ops (kpQ P kp (Zbd P E kp ops Q T (i+1) rest)) [⟨d,.mapUpdate t m k x,ty,pos,af,none⟩] ⟨τ,H⟩:=Zyp _ rfl rfl rfl
def Z01 (lo0 b:Nat) (kd:TypeDesc) (ob:AObj) (k x:V) (K:Nat→List V × List V→Prop):Prop:=match ob with
 | .mp lo b' ks vs=>b'=b∧lo0≤lo∧Zxp (putV kd k x ks vs) (K lo)
 | _=>False
theorem Zpi {lo0 o b:Nat} {t kt et:TypeId} {kd:TypeDesc} {k x:V} {K:V→Heap→Prop} (hu:P.underlying t=some (.map kt et)) (hk:P.underlying kt=some kd) :
  Z9f P lo0 H t (.mref o b) k x K=Z01 lo0 b kd (H o) k x fun lo p=>K (.tuple []) (upd H o (.mp lo b p.1 p.2)):=by
 unfold Z9f Z01;simp only [hu]
 cases H o with
 | mp lo b' ks vs =>
  simp only [hk]
  congr 2
  cases putV kd k x ks vs<;>rfl
 | _=>rfl
theorem Zwp {α : Type} (v : α) (K : α → Prop):Zxp (some v) K=K v:=rfl
@[go_sem] theorem mapSetK_mp (lo0 lo b b':Nat) (kd:TypeDesc) (ks vs:List V) (k x:V) (K:Nat→List V × List V→Prop):Z01 lo0 b kd (.mp lo b' ks vs) k x K=(b'=b∧lo0≤lo∧Zxp (putV kd k x ks vs) (K lo)):=rfl
def MZ (o b:Nat) (ks vs:List V) (v v':V):Prop:=v'=v∨(v = .mref o b∧v' = .mapv ks vs)
def mzL (o b:Nat) (ks vs:List V):List V→List V→Prop
 | [],[]=>True
 | v::l,v'::l'=>MZ o b ks vs v v'∧mzL o b ks vs l l'
 | _,_=>False
def MZO (o b:Nat) (ks vs:List V) (ob ob':AObj):Prop:=match ob' with
 | .dead=>True
 | .cells c g fz cs'=>∃ cs,ob = .cells c g fz cs∧mzL o b ks vs cs cs'
 | .mp .. => False
theorem mzL.get {o b:Nat} {ks vs:List V}:∀ {l l':List V},mzL o b ks vs l l'→l'.length=l.length∧∀ i (h1:i<l.length) (h2:i<l'.length),MZ o b ks vs l[i] l'[i]
 | [],[],_=>⟨rfl,fun i h1=>by simp at h1⟩
 | v::l,v'::l',h=>by
  obtain ⟨h1,h2⟩:=mzL.get h.2;refine ⟨by simp [h1],fun i q1 q2=>?_⟩
  cases i with
  | zero=>exact h.1
  | succ i=>exact h2 i (by simpa using q1) (by simpa using q2)
theorem Zr2 {s s':AS} (o:Nat) {lo b:Nat} {ks vs:List V} (ho:s.H o = .mp lo b ks vs) (hlo:E.X0.w.heap.size≤lo) (hτ : ∀ t,s'.τ t = .top∨MZ o b ks vs (s.τ t) (s'.τ t)) (hH:∀ o',MZO o b ks vs (s.H o') (s'.H o')):Weak E s s':=by
 rintro a w ⟨X,hX⟩;have hI:=hX.go.inv;obtain ⟨hl1,hfree,hone,es,n,hb,e1,e2,e3,e4⟩:=hI.mps o lo b ks vs ho
 have hblt:b<X.w.heap.size:=by rw [Array.getElem?_eq_some_iff] at hb;exact hb.1
 let Y:Cx:={ X with S:=fun b' i=>X.S b' i∨b'=b∧i=0 }
 have hle:X.le Y:=⟨fun _ _ _ h=>h,fun _ _ h => .inl h,fun _ _ _ _ h=>h,rfl,fun _ c _ h=>⟨c,h,rfl⟩,fun _ _ _ _ h=>h⟩
 have hrel:∀ {x v v'},MZ o b ks vs v v'→Rel X x v→Rel Y x v':=by
  intro x v v' hz hr
  rcases hz with rfl | ⟨rfl,rfl⟩
  ·exact hr.mono hle
  ·cases hr with
   | mref=>exact .mapv b n es ks vs (.inr ⟨rfl,rfl⟩) hb e1 e2 (fun i q1 q2=>(e3 i q1 q2).mono hle) (fun i q1 q2=>(e4 i q1 q2).mono hle)
 have key:∀ o' c g fz cs',s'.H o' = .cells c g fz cs'→∃ cs,s.H o' = .cells c g fz cs∧cs'.length=cs.length∧∀ i (h1:i<cs.length) (h2:i<cs'.length),MZ o b ks vs cs[i] cs'[i]:=by
  intro o' c g fz cs' h;have:=hH o';rw [h] at this;obtain ⟨cs,h1,h2⟩:=this;exact ⟨cs,h1,h2.get⟩
 have hinv:Inv Y s'.H:=by
  refine ⟨?_,?_,?_,hI.fin,hI.bw,?_,.no fun o' lo' b' ks' vs' h=>?_⟩
  ·intro o' c g fz cs' h
   obtain ⟨cs,h1,h2,h3⟩:=key _ _ _ _ _ h;obtain ⟨b',bs,q1,q2,c',t,q3,q4,q5⟩:=hI.obj _ _ _ _ _ h1;refine ⟨b',bs,q1,q2,c',t,q3,by omega,?_⟩;rw [h2];exact ⟨by rw [q5.len,h2],q5.one,fun i k1 k2=>hrel (h3 i (by omega) k2) (q5.rel i k1 (by omega))⟩
  ·intro o1 c1 g1 f1 l1 o2 c2 g2 f2 l2 b' s1 s2 h1 h2
   obtain ⟨_,h1,_⟩:=key _ _ _ _ _ h1;obtain ⟨_,h2,_⟩:=key _ _ _ _ _ h2;exact hI.inj _ _ _ _ _ _ _ _ _ _ _ _ _ h1 h2
  ·rintro b' i (hs | ⟨rfl,rfl⟩)
   ·refine ⟨(hI.safe b' i hs).1,fun o' c g fz cs' bs h hβ => ?_⟩
    obtain ⟨_,h1,_⟩:=key _ _ _ _ _ h;exact (hI.safe b' i hs).2 _ _ _ _ _ _ h1 hβ
   ·refine ⟨hblt,fun o' c g fz cs' bs h hβ => ?_⟩
    obtain ⟨_,h1,_⟩:=key _ _ _ _ _ h;exact absurd ⟨o',c,g,fz,_,bs,h1,hβ⟩ (hI.not_live hb)
  ·rintro b' i (hs | ⟨rfl,rfl⟩) hb'
   ·exact hI.thaw b' i hs hb'
   ·exact .inr ⟨rfl,es,n,hb⟩
  ·have:=hH o'
   rw [h] at this;exact this
 refine ⟨Y,hX.hw,⟨hinv,hX.go.le.trans hle,hX.go.kp,?_,?_⟩,hX.df.mono hle,hX.sz,fun t=>?_,fun g=>⟨(hX.gl g).rel.mono hle,(hX.gl g).sz⟩⟩
 ·rintro b' i (hs | ⟨rfl,rfl⟩)
  ·exact hX.go.Sn b' i hs
  ·exact .inr (.inl (by omega))
 ·rintro b' ⟨o',c,g,fz,cs',bs,h,hβ⟩
  obtain ⟨cs,h1,_⟩:=key _ _ _ _ _ h;exact hX.go.on b' ⟨o',c,g,fz,cs,bs,h1,hβ⟩
 ·rcases hτ t with h | h
  ·rw [h];exact .top _
  ·exact hrel h (hX.tm t)
def Zu6 (o b:Nat) (ks vs:List V) (f:Nat→V):List (Nat × V)→Prop
 | []=>True
 | p::r=>MZ o b ks vs (f p.1) p.2∧Zu6 o b ks vs f r
def Zbt (o b:Nat) (ks vs:List V) (f:Nat→AObj):List (Nat × AObj)→Prop
 | []=>True
 | p::r=>MZO o b ks vs (f p.1) p.2∧Zbt o b ks vs f r
@[go_sem] theorem allMZ_nil (o b:Nat) (ks vs:List V) (f:Nat→V):Zu6 o b ks vs f []=True:=rfl
@[go_sem] theorem allMZ_cons (o b:Nat) (ks vs:List V) (f:Nat→V) (p:Nat × V) (r:List (Nat × V)):Zu6 o b ks vs f (p::r)=(MZ o b ks vs (f p.1) p.2∧Zu6 o b ks vs f r):=rfl
@[go_sem] theorem allMZO_nil (o b:Nat) (ks vs:List V) (f:Nat→AObj):Zbt o b ks vs f []=True:=rfl
@[go_sem] theorem allMZO_cons (o b:Nat) (ks vs:List V) (f:Nat→AObj) (p:Nat × AObj) (r:List (Nat × AObj)):Zbt o b ks vs f (p::r)=(MZO o b ks vs (f p.1) p.2∧Zbt o b ks vs f r):=rfl
theorem Zmn {s:AS} (o:Nat) {lo b:Nat} {ks vs:List V} (l:List (Nat × V)) (m:List (Nat × AObj)) (ho:s.H o = .mp lo b ks vs) (hlo:E.X0.w.heap.size≤lo) (hl:Zu6 o b ks vs s.τ l) (hm:Zbt o b ks vs s.H m):Weak E s (Hs.st l m):=by
 refine Zr2 o ho hlo (fun t=>?_) (fun o'=>?_)
 ·have:∀ (l:List (Nat × V)),Zu6 o b ks vs s.τ l→Zcb emp l t = .top∨MZ o b ks vs (s.τ t) (Zcb emp l t):=by
   intro l
   induction l with
   | nil=>intro _;exact .inl rfl
   | cons p r ih =>
    intro h;simp only [Zcb,upd]
    split
    ·rename_i e;subst e;exact .inr h.1
    ·exact ih h.2
  exact this l hl
 ·have:∀ (m:List (Nat × AObj)),Zbt o b ks vs s.H m→MZO o b ks vs (s.H o') (Zcb Zm m o'):=by
   intro m
   induction m with
   | nil=>intro _;trivial
   | cons p r ih =>
    intro h;simp only [Zcb,upd]
    split
    ·rename_i e;subst e;exact h.1
    ·exact ih h.2
  exact this m hm
theorem Zrb {G:Nat→V} {kq:Option (V→Heap→Prop)} {f:FuncId} {fn:Func} {c:Code} {args:List V} {H:Heap} {K:V→Heap→Prop} (q:Nat) (n:Nat) (rs:List ResultVar) (hf:P.funcs[f]? = some fn) (hb:fn.body=some c) (hn:fn.ntmps=n) (hr:fn.results.toList=rs)
  (hn0:Nat.ble args.length n=true) (h:∀ X,AW P ⟨X,H,n,q,G,kq,[]⟩ c (Zao P rs K) ⟨Z9e 0 args,H⟩):SpecP P G kq f args H K:=by
 subst hn;subst hr;exact Zmm q hf hb hn0 h
theorem Zba {G:Nat→V} (hGok:GOk G) {k k':V→Heap→Prop} {f:FuncId} {args args':List V} {H:Heap} {K K':V→Heap→Prop} (hen:Zfa P f=true)
  (hs:SpecP P G (some k') f args' Zm K') (he:args.map (V.recol Col.ent)=args') (hk:∀ v H',k' v H'→k (v.recol Col.bk) H) (hK:∀ v H',K' v H'→K (v.recol Col.bk) H):CallP P G (some k) f args H K :=
 CallP.pure (kp':=some k') hGok hen (fun q hq=>by cases hq;exact ⟨k,rfl,hk⟩) (he ▸ hs.mono hK)
@[go_sem] theorem loadK_mapv (n:Nat) (ob:AObj) (c:Col) (ks vs:List V):Ztb (some (false,n)) ob (.view c (.mapv ks vs))=some (.mapv ks vs):=rfl
@[go_sem] theorem cells_mref (o b:Nat):(V.mref o b).cells=[.mref o b]:=rfl
@[go_sem] theorem solid_mref (o b:Nat):(V.mref o b).solid=true:=rfl
end
end Go.Hs
end
