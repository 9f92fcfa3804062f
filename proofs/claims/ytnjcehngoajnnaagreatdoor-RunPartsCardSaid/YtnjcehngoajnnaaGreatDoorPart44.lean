/- Part 44 of the proof of a statement of seat YtnjcehngoajnnaaGreatDoor: HsTypLaw2 HsTypLaw3 HsEvLaw HsGEvB HsGEvW HsGEvX HsGEvY HsGEvZ HsGEvK HsGNumRef5 HsGNumRef6 HsGNumRef7 HsGNumRef8 HsGEvR HsGEvS HsGEvT HsLexLaw3 HsLexLaw4 HsExprPrn HsExprBkLaw HsGEvU. -/
import Derived.Test.YtnjcehngoajnnaaGreatDoorPart41
import Derived.Test.YtnjcehngoajnnaaGreatDoorPart34
import Derived.Test.YtnjcehngoajnnaaGreatDoorPart40
import Derived.Test.YtnjcehngoajnnaaGreatDoorPart43
set_option linter.unusedSimpArgs false
set_option linter.unusedVariables false
section
namespace Go.Hs
theorem Zwt {x y:X} (h:y∈Zge x):∃ b,Sub x y b:=by
 obtain ⟨i,hi,e⟩:=List.mem_iff_getElem.1 h;obtain ⟨z,b,h1,h2,h3,h4⟩:=sub_at x i (by rw [← Z9b];exact hi);rw [List.getElem?_eq_getElem hi,e] at h3;cases h3;exact ⟨b,h1⟩
theorem Sub.mem {x y:X} {b:Nat} (h:Sub x y b):y∈Zge x:=List.mem_of_getElem? h.get
def Z3r (b:Int) (n:XN):XN:={ n with a:=max (-1) (n.a-b),b:=max (-1) (n.b-b),c:=max (-1) (n.c-b) }
theorem Zuf:∀ (y:X) (b c:Int),0≤b→0≤c→(y.row (b+c)).map (Z3r b)=y.row c
 | .leaf op num name,b,c,hb,hc=>by
  have:max (-1) (-1-b)=(-1:Int):=by omega
  simp only [X.row,List.map_cons,List.map_nil,Z3r,this]
 | .un op a,b,c,hb,hc=>by
  have e1:max (-1) (-1-b)=(-1:Int):=by omega
  have hp:=a.size_pos
  have e2:max (-1) (b+c+a.size-1-b)=c+a.size-1:=by omega
  simp only [X.row,List.map_append,List.map_cons,List.map_nil,Z3r,e1,e2,Zuf a b c hb hc]
 | .bin op x y,b,c,hb,hc=>by
  have e1:max (-1) (-1-b)=(-1:Int):=by omega
  have hp:=x.size_pos;have hp2:=y.size_pos
  have e2:max (-1) (b+c+x.size-1-b)=c+x.size-1:=by omega
  have e3:max (-1) (b+c+x.size+y.size-1-b)=c+x.size+y.size-1:=by omega
  have i2:=Zuf y b (c+x.size) hb (by omega);rw [← Int.add_assoc] at i2;simp only [X.row,List.map_append,List.map_cons,List.map_nil,Z3r,e1,e2,e3,Zuf x b c hb hc,i2]
 | .ite x y z,b,c,hb,hc=>by
  have hp:=x.size_pos;have hp2:=y.size_pos;have hp3:=z.size_pos
  have e2:max (-1) (b+c+x.size-1-b)=c+x.size-1:=by omega
  have e3:max (-1) (b+c+x.size+y.size-1-b)=c+x.size+y.size-1:=by omega
  have e4:max (-1) (b+c+x.size+y.size+z.size-1-b)=c+x.size+y.size+z.size-1:=by omega
  have i2:=Zuf y b (c+x.size) hb (by omega);rw [← Int.add_assoc] at i2;have i3:=Zuf z b (c+x.size+y.size) hb (by omega);rw [← Int.add_assoc,← Int.add_assoc] at i3;simp only [X.row,List.map_append,List.map_cons,List.map_nil,Z3r,e2,e3,e4,Zuf x b c hb hc,i2,i3]
theorem Sub.shift {x y:X} {b:Nat} (h:Sub x y b):(((x.row 0).drop b).take y.size).map (Z3r b)=y.row 0:=by
 obtain ⟨pre,post,e,hb⟩:=h.at (Z2h x);rw [Nat.zero_add] at hb e;have hl:(y.row ((b:Nat):Int)).length=y.size:=y.row_len _
 have ht:((x.row 0).drop b).take y.size=y.row (b:Nat):=by
  rw [e,List.append_assoc,← hb,List.drop_left,← hl,hb,List.take_left]
 rw [ht];have:=Zuf y b 0 (by omega) (by omega);rw [Int.add_zero] at this;exact this
end Go.Hs
end

section
namespace Go.Hs
def NmIn (x:X) (t:List UInt8):Prop:=∃ num,X.leaf 2 num t∈Zge x
theorem NmIn.sub {x y:X} {b:Nat} (h:Sub x y b) {t:List UInt8} (ht:NmIn y t):NmIn x t:=by
 obtain ⟨n,q⟩:=ht;obtain ⟨c,hc⟩:=Zwt q;exact ⟨n,(h.trans hc).mem⟩
end Go.Hs
end

section
namespace Go.Hs
inductive EV where
 | err (e:Int)
 | num (n:Int)
 | tru (b:Bool)
 deriving DecidableEq,Inhabited
namespace EV
def kind:EV→Int
 | err _=>0
 | num _=>1
 | tru _=>2
def nm:EV→Int
 | num n=>n
 | _=>0
def tr:EV→Bool
 | tru b=>b
 | _=>false
def er:EV→Int
 | err e=>e
 | _=>0
def need (k:Int):EV→EV
 | err e=>err e
 | v=>if k≠0∧v.kind≠k then err 90 else v
def onN (f:Int→EV):EV→EV
 | err e=>err e
 | num n=>f n
 | tru _=>err 90
def onB (f:Bool→EV):EV→EV
 | err e=>err e
 | num _=>err 90
 | tru b=>f b
def ofR (r:Int × Int):EV:=if r.2=0 then num r.1 else err r.2
def fine:EV→Prop
 | err e=>e=60∨e=61∨e=90
 | num n=>Zec n=true
 | tru _=>True
end EV
def Z9d (env:List (List UInt8 × Int)) (s:List UInt8):Option Int:=(env.find? fun p=>p.1==s).map (·.2)
def Zkq (op a b:Int):Int × Int :=
 if op=7 then Go.Hs.told (a * b) else if op=8 then divR a b else if op=9 then modR a b else if op=10 then Go.Hs.told (a+b) else Go.Hs.told (a-b)
def cmpV (op a b:Int):Bool:=if op=12 then decide (a<b) else if op=13 then decide (a≤b) else if op=14 then decide (a > b) else decide (a≥b)
def Zqn (op:Int):EV→EV→EV
 | .err e,_ => .err e
 | _,.err e => .err e
 | x,y=>if x.kind=y.kind then .tru ((x==y)==(op==16)) else .err 90
def Zjx (op:Int) (x y:EV):EV:=x.onB fun a =>
 if op=18∧a=false then .tru false else if op=19∧a=true∨op=21∧a=false then .tru true
 else y.onB fun b => .tru (if op=20 then a != b else b)
def Zeg (op:Int) (x y:EV):EV :=
 if op≤11 then x.onN fun a=>y.onN fun b => .ofR (Zkq op a b)
 else if op≤15 then x.onN fun a=>y.onN fun b => .tru (cmpV op a b)
 else if op≤17 then Zqn op x y else Zjx op x y
def Za2 (op:Int) (x:EV):EV:=if op=5 then x.onN fun a => .ofR (Go.Hs.told (-a)) else x.onB fun b => .tru (!b)
def Zie (env:List (List UInt8 × Int)) (op num:Int) (name:List UInt8):EV :=
 if op=1 then .num num else if op=2 then (match Z9d env name with | some v => .num v | none => .err 90) else .tru (op==3)
def evX (env:List (List UInt8 × Int)):X→EV
 | .leaf op num name=>Zie env op num name
 | .un op a=>Za2 op (evX env a)
 | .bin op a b=>Zeg op (evX env a) (evX env b)
 | .ite a b c=>(evX env a).onB fun t=>if t=true then evX env b else evX env c
theorem Zfi (x:Int):(EV.ofR (Go.Hs.told x)).fine:=by
 unfold Go.Hs.told EV.ofR
 by_cases h:Zec x=true
 ·rw [if_pos h];exact h
 ·rw [if_neg h];exact .inl rfl
theorem Z3ba (a b:Int):(EV.ofR (divR a b)).fine:=by
 unfold divR
 split
 ·exact .inr (.inl rfl)
 ·exact Zfi _
theorem Zdba (a b:Int):(EV.ofR (modR a b)).fine:=by
 unfold modR
 split
 ·exact .inr (.inl rfl)
 ·exact Zfi _
theorem Zm5 (op a b:Int):(EV.ofR (Zkq op a b)).fine:=by
 unfold Zkq
 repeat' split
 all_goals first | exact Zfi _ | exact Z3ba _ _ | exact Zdba _ _
theorem Zlj {x:EV} {f:Int→EV} (h:x.fine) (hf:∀ n,Zec n=true→(f n).fine):(x.onN f).fine:=by
 cases x with
 | err e=>exact h
 | num n=>exact hf n h
 | tru b=>exact .inr (.inr rfl)
theorem Zmj {x:EV} {f:Bool→EV} (h:x.fine) (hf:∀ n,(f n).fine):(x.onB f).fine:=by
 cases x with
 | err e=>exact h
 | num n=>exact .inr (.inr rfl)
 | tru b=>exact hf b
theorem Zr5 {op:Int} {x y:EV} (hx:x.fine) (hy:y.fine):(Zqn op x y).fine:=by
 cases x<;>cases y<;>simp only [Zqn]<;>first | exact hx | exact hy | (split<;>first | trivial | exact .inr (.inr rfl))
theorem Zn3 {op:Int} {x y:EV} (hx:x.fine) (hy:y.fine):(Zeg op x y).fine:=by
 unfold Zeg
 split
 ·exact Zlj hx fun a _=>Zlj hy fun b _=>Zm5 _ _ _
 split
 ·exact Zlj hx fun a _=>Zlj hy fun b _=>trivial
 split
 ·exact Zr5 hx hy
 ·refine Zmj hx fun a=>?_
  split
  ·trivial
  split
  ·trivial
  ·exact Zmj hy fun b=>trivial
theorem Zix {env:List (List UInt8 × Int)} {s:List UInt8} {v:Int} (h:Z9d env s=some v):∃ p∈env,p.1=s∧p.2=v:=by
 unfold Z9d at h
 cases hf:env.find? (fun p=>p.1==s) with
 | none=>rw [hf] at h;cases h
 | some p =>
  rw [hf] at h;have:=List.find?_some hf;exact ⟨p,List.mem_of_find?_eq_some hf,by simpa using this,by simpa using h⟩
theorem Zf6 {n:XN} (h:Zwd n=true):0≤n.num:=by
 unfold Zwd at h
 split at h
 ·cases h
 ·rename_i h0;simp only [not_or,Int.not_lt] at h0;exact h0.2.2
theorem Zzba {env:List (List UInt8 × Int)} (he:∀ p∈env,Zec p.2=true):∀ {x:X},x.ok=true→(∀ n∈x.row 0,Zec n.num=true)→(evX env x).fine:=by
 have key:∀ (x:X),x.ok=true→(∀ op num name,X.leaf op num name∈Zge x→Zec num=true)→(evX env x).fine:=by
  intro x
  induction x with
  | leaf op num name =>
   intro h hn
   show (Zie env op num name).fine
   unfold Zie
   split
   ·exact hn op num name (by simp [Zge])
   split
   ·cases hl:Z9d env name with
    | none=>exact .inr (.inr rfl)
    | some v =>
     obtain ⟨p,h1,_,h2⟩:=Zix hl;exact h2 ▸ he p h1
   ·trivial
  | un op a ih =>
   intro h hn;simp only [X.ok,Bool.and_eq_true] at h;have ha:=ih h.2 fun o n nm hm=>hn o n nm (by simp [Zge,hm])
   show (Za2 op (evX env a)).fine
   unfold Za2
   split
   ·exact Zlj ha fun n _=>Zfi _
   ·exact Zmj ha fun n=>trivial
  | bin op a b iha ihb =>
   intro h hn;simp only [X.ok,Bool.and_eq_true] at h;exact Zn3 (iha h.1.2 fun o n nm hm=>hn o n nm (by simp [Zge,hm])) (ihb h.2 fun o n nm hm=>hn o n nm (by simp [Zge,hm]))
  | ite a b c iha ihb ihc =>
   intro h hn;simp only [X.ok,Bool.and_eq_true] at h;refine Zmj (iha h.1.1 fun o n nm hm=>hn o n nm (by simp [Zge,hm])) fun t=>?_
   split
   ·exact ihb h.1.2 fun o n nm hm=>hn o n nm (by simp [Zge,hm])
   ·exact ihc h.2 fun o n nm hm=>hn o n nm (by simp [Zge,hm])
 intro x hx hn;refine key x hx fun op num name hm=>?_;obtain ⟨b,hb⟩:=Zwt hm;have ht:=hb.top;have:=hn _ (List.mem_of_getElem? ht);exact this
theorem Zyba {env env':List (List UInt8 × Int)}:∀ {x:X},(∀ t,NmIn x t→Z9d env t=Z9d env' t)→evX env x=evX env' x:=by
 intro x
 induction x with
 | leaf op num name =>
  intro h
  show Zie env op num name=Zie env' op num name
  unfold Zie
  by_cases h2:op=2
  ·subst h2;rw [h name ⟨num,by simp [Zge]⟩]
  ·rw [if_neg h2,if_neg h2]
 | un op a ih =>
  intro h
  show Za2 op _=Za2 op _
  rw [ih fun t ⟨n,ht⟩=>h t ⟨n,by simp [Zge,ht]⟩]
 | bin op a b iha ihb =>
  intro h
  show Zeg op _ _=Zeg op _ _
  rw [iha fun t ⟨n,ht⟩=>h t ⟨n,by simp [Zge,ht]⟩,ihb fun t ⟨n,ht⟩=>h t ⟨n,by simp [Zge,ht]⟩]
 | ite a b c iha ihb ihc =>
  intro h
  show (evX env a).onB _=(evX env' a).onB _
  rw [iha fun t ⟨n,ht⟩=>h t ⟨n,by simp [Zge,ht]⟩,ihb fun t ⟨n,ht⟩=>h t ⟨n,by simp [Zge,ht]⟩,ihc fun t ⟨n,ht⟩=>h t ⟨n,by simp [Zge,ht]⟩]
end Go.Hs
end

section
namespace Go.Hs
open Go.Proofs
set_option maxRecDepth 10000
def Z7a (v:EV):V := .agg [.int .u8 v.kind,.int .i64 v.nm,.bool v.tr]
def Z20 (e:Int):V := .iface 152 (.agg [.int .i64 e])
def kpEV (x:EV):V→Heap→Prop:=fun v _=>∃ e,x = .err e∧v=Z20 e
def Z59 (x:EV):V→Heap→Prop:=fun v _=>(∀ e,x ≠ .err e)∧v=Z7a x
theorem Zb8 (v:V):mkIfV Tryz.prog 152 v=some (.iface 152 v):=by
 unfold mkIfV;rw [Tryz.underlying152]
theorem Z0e (G:Nat→V) (e:Int):SpecP Tryz.prog G (some fun v _=>e≠0∧v=Z20 e) 93 [.int .i64 e] Zp (fun v _=>e=0∧v = .tuple []):=by
 refine Zqb 0 7 [] Tryz.func93 rfl rfl rfl rfl fun X=>?_
 by_cases h0:e=0
 ·have h1:(e != 0)=false:=by simpa using h0
  refine Z1f h1 ?_;refine Zd (b:=false) zp (fun h=>by cases h) (fun _=>?_);refine Z0 ?_;refine Z9 ⟨h0,rfl⟩
 ·have h1:(e != 0)=true:=by simpa using h0
  refine Z1f h1 ?_;refine Zd (b:=true) zp (fun _=>?_) (fun h=>by cases h);refine Z1f @Zb8 ?_;exact ⟨h0,rfl⟩
theorem Z0d (G:Nat→V) (b:Bool):Spec Tryz.prog G 131 [.bool b] Zp (fun v _=>v=Z7a (.tru b)):=by
 refine Zo 0 5 [.cell 2 34] Tryz.func131 fun X=>?_;refine Z1 ?_;intro g2;exact Zr
def Zyaa (op:Int):Nat:=if op=7 then 154 else if op=8 then 155 else if op=9 then 156 else if op=10 then 157 else 158
def Z8ba (op:Int):Nat:=if op=12 then 159 else if op=13 then 160 else if op=14 then 161 else 162
def fnV (f:Nat):V := .func (.func f) [] []
def Z4g:V := .mapv [.int .u8 7,.int .u8 8,.int .u8 9,.int .u8 10,.int .u8 11] [fnV 154,fnV 155,fnV 156,fnV 157,fnV 158]
def Z4h:V := .mapv [.int .u8 12,.int .u8 13,.int .u8 14,.int .u8 15] [fnV 159,fnV 160,fnV 161,fnV 162]
theorem Zxw (G:Nat→V):Spec Tryz.prog G 129 [] Zp (fun v _=>v=Z4g):=by
 refine Zo 0 3 [.tmp 0] Tryz.func129 fun X=>?_;refine Z1 ?_;refine Zwa (by kernel_rfl) ?_;simp -implicitDefEqProofs only[go_sem,seval,↓reduceIte,Zli Tryz.underlying232 Tryz.underlying5,Zv9,Z4d,Zjp,Nat.le_refl,List.cons_append,List.nil_append];intro b;refine AW.weak (Z8m 1 [(0,Z4g)] [] zp (Nat.le_refl _) (by simp -implicitDefEqProofs only[go_sem,seval,↓reduceIte];exact .inr ⟨rfl,rfl⟩) trivial) ?_;exact Zr
theorem Z9t (G:Nat→V):Spec Tryz.prog G 130 [] Zp (fun v _=>v=Z4h):=by
 refine Zo 0 3 [.tmp 0] Tryz.func130 fun X=>?_;refine Z1 ?_;refine Zwa (by kernel_rfl) ?_;simp -implicitDefEqProofs only[go_sem,seval,↓reduceIte,Zli Tryz.underlying236 Tryz.underlying5,Zv9,Z4d,Zjp,Nat.le_refl,List.cons_append,List.nil_append];intro b;refine AW.weak (Z8m 1 [(0,Z4h)] [] zp (Nat.le_refl _) (by simp -implicitDefEqProofs only[go_sem,seval,↓reduceIte];exact .inr ⟨rfl,rfl⟩) trivial) ?_;exact Zr
def Zvc (m:List (List UInt8 × Int)):List V:=m.map fun p=>V.str p.1
def Z9c (m:List (List UInt8 × Int)):List V:=m.map fun p=>V.int .i64 p.2
def lkV (c1 c2:Col) (sl:Sl XN) (m:List (List UInt8 × Int)):V := .view c1 (.agg [Za c2 6 Z6 sl,.mapv (Zvc m) (Z9c m)])
@[go_sem] theorem recol_env (f:Col→Col) (m:List (List UInt8 × Int)):V.recol f (.mapv (Zvc m) (Z9c m)) = .mapv (Zvc m) (Z9c m):=by
 have h1:Z3a f (Zvc m)=Zvc m:=by rw [Zy];unfold Zvc;rw [List.map_map];exact List.map_congr_left fun p _=>rfl
 have h2:Z3a f (Z9c m)=Z9c m:=by rw [Zy];unfold Z9c;rw [List.map_map];exact List.map_congr_left fun p _=>rfl
 simp only [V.recol,h1,h2]
theorem Zc3 (s:List UInt8):∀ m:List (List UInt8 × Int),Z8h .string (.str s) (Zvc m) (Z9c m)=some ((Z9d m s).map (V.int .i64))
 | []=>rfl
 | p::r=>by
  have ih:=Zc3 s r
  show (if s=p.1 then some (some (V.int .i64 p.2)) else Z8h .string (.str s) (Zvc r) (Z9c r))=_
  by_cases h:s=p.1
  ·rw [if_pos h]
   unfold Z9d;rw [List.find?_cons_of_pos (by simpa using h.symm)]
   try rfl
  ·rw [if_neg h,ih]
   unfold Z9d;rw [List.find?_cons_of_neg (by simpa using fun hh=>h hh.symm)]
theorem Zgba (s:List UInt8) (m:List (List UInt8 × Int)):Zql Tryz.prog 155 (.mapv (Zvc m) (Z9c m)) (.str s) true=some (match Z9d m s with | some n => .tuple [.int .i64 n,.bool true] | none => .tuple [.int .i64 0,.bool false]):=by
 unfold Zql;rw [Tryz.underlying155];simp only [Zy0,Tryz.underlying9,Zc3]
 cases Z9d m s with
 | some n=>rfl
 | none=>rfl
theorem Z47 (G:Nat→V) (hG:GOk G) (c1 c2:Col) (sl:Sl XN) (m:List (List UInt8 × Int)) (s:List UInt8) :
  SpecP Tryz.prog G (some fun v _=>Z9d m s=none∧v=Z20 90) 132 [lkV c1 c2 sl m,.str s] Zp (fun v _=>∃ n,Z9d m s=some n∧v = .int .i64 n):=by
 refine Zqb 0 20 [.tmp 4] Tryz.func132 rfl rfl rfl rfl fun X=>?_;refine Z1 ?_;have hl:=Zgba s m
 cases hm:Z9d m s with
 | some n =>
  rw [hm] at hl;refine Zwa (by kernel_rfl) ?_;simp -implicitDefEqProofs only[go_sem,seval,↓reduceIte,lkV,hl];refine Z ?_;exact ⟨n,rfl,rfl⟩
 | none =>
  rw [hm] at hl;refine Zwa (by kernel_rfl) ?_;simp -implicitDefEqProofs only[go_sem,seval,↓reduceIte,lkV,hl];refine Z1 ?_;refine Zd rfl (fun h2=>?_) (fun h2=>?_)
  ·refine Z1 ?_
   refine Z8 hG (by kernel_rfl) (Z0e G 90) rfl (fun v H' h=>by rw [h.2]<;>rfl) fun v H' h=>absurd h.1 (by decide)
  ·cases h2
end Go.Hs
end

section
namespace Go.Hs
open Go.Proofs
set_option maxRecDepth 10000
theorem Znd {x:EV} {e:Int} (f:Int→EV) (h:x.need 1 = .err e):x.onN f = .err e:=by
 cases x with
 | err e'=>exact h
 | num n=>simp [EV.need,EV.kind] at h
 | tru b=>simp [EV.need,EV.kind] at h;subst h;rfl
theorem Zlg {x:EV} (h:∀ e,x.need 1 ≠ .err e):∃ n,x = .num n:=by
 cases x with
 | err e'=>exact absurd rfl (h e')
 | num n=>exact ⟨n,rfl⟩
 | tru b=>exact absurd rfl (h 90)
theorem Zmc {x:EV} {e:Int} (f:Bool→EV) (h:x.need 2 = .err e):x.onB f = .err e:=by
 cases x with
 | err e'=>exact h
 | tru n=>simp [EV.need,EV.kind] at h
 | num b=>simp [EV.need,EV.kind] at h;subst h;rfl
theorem Zhd {x:EV} (h:∀ e,x.need 2 ≠ .err e):∃ n,x = .tru n:=by
 cases x with
 | err e'=>exact absurd rfl (h e')
 | tru n=>exact ⟨n,rfl⟩
 | num b=>exact absurd rfl (h 90)
theorem Zvn (x:EV):x.need 0=x:=by cases x<;>rfl
theorem Z2p (n:Int):Z7a (.num n) = .agg [.int .u8 1,.int .i64 n,.bool false]:=rfl
theorem Zdd (b:Bool):Z7a (.tru b) = .agg [.int .u8 2,.int .i64 0,.bool b]:=rfl
theorem Zze (n:Int):(EV.num n).need 1 = .num n:=rfl
theorem Zlc (b:Bool):(EV.tru b).need 2 = .tru b:=rfl
def Zgd (m:List (List UInt8 × Int)) (n:XN) (A B C:EV):EV :=
 if n.op≤4 then Zie m n.op n.num n.name else if n.op≤6 then Za2 n.op A else if n.op≤21 then Zeg n.op A B else A.onB fun t=>if t=true then B else C
def OfC (G:Nat→V) (sl:Sl XN) (m:List (List UInt8 × Int)) (a:Int) (x:EV):Prop:=∀ c1 c2 (k:Int),0≤k∧k≤2→SpecP Tryz.prog G (some (kpEV (x.need k))) 67 [lkV c1 c2 sl m,.int .i64 a,.int .u8 k] Zp (Z59 (x.need k))
theorem Zfba {op:Int} (h:7≤op∧op≤11):Zql Tryz.prog 232 Z4g (.int .u8 op) true=some (.tuple [fnV (Zyaa op),.bool true]):=by
 obtain rfl | rfl | rfl | rfl | rfl:op=7∨op=8∨op=9∨op=10∨op=11:=by omega
 all_goals
  unfold Zql;rw [Tryz.underlying232];simp only [Zy0,Z4g,Tryz.underlying5];rfl
theorem Zmi {op:Int} (h:¬ (7≤op∧op≤11)):Zql Tryz.prog 232 Z4g (.int .u8 op) true=some (.tuple [.nilf,.bool false]):=by
 unfold Zql;rw [Tryz.underlying232];simp only [Zy0,Z4g,Tryz.underlying5]
 have:Z8h (.int .u8) (.int .u8 op) [.int .u8 7,.int .u8 8,.int .u8 9,.int .u8 10,.int .u8 11] [fnV 154,fnV 155,fnV 156,fnV 157,fnV 158]=some none:=by
  simp only [Z8h,if_true]
  repeat rw [if_neg (by omega)]
 rw [this]
 try rfl
theorem Zhba {op:Int} (h:12≤op∧op≤15):Zql Tryz.prog 236 Z4h (.int .u8 op) true=some (.tuple [fnV (Z8ba op),.bool true]):=by
 obtain rfl | rfl | rfl | rfl:op=12∨op=13∨op=14∨op=15:=by omega
 all_goals
  unfold Zql;rw [Tryz.underlying236];simp only [Zy0,Z4h,Tryz.underlying5];rfl
theorem Zpl {op:Int} (h:¬ (12≤op∧op≤15)):Zql Tryz.prog 236 Z4h (.int .u8 op) true=some (.tuple [.nilf,.bool false]):=by
 unfold Zql;rw [Tryz.underlying236];simp only [Zy0,Z4h,Tryz.underlying5]
 have:Z8h (.int .u8) (.int .u8 op) [.int .u8 12,.int .u8 13,.int .u8 14,.int .u8 15] [fnV 159,fnV 160,fnV 161,fnV 162]=some none:=by
  simp only [Z8h,if_true]
  repeat rw [if_neg (by omega)]
 rw [this]
 try rfl
theorem Zfb {n:Int} (h:Zec n=true):InK .i64 n:=by
 unfold Zec at h;have h:=of_decide_eq_true h;exact h
theorem Zxaa (G:Nat→V) (hG:GOk G) {op a b:Int} (h:7≤op∧op≤11) (ha:Zec a=true) (hb:Zec b=true):Zbh Tryz.prog G (Zyaa op) [.int .i64 a,.int .i64 b] (Zwh (Zkq op a b)):=by
 have ha:=Zfb ha;have hb:=Zfb hb
 obtain rfl | rfl | rfl | rfl | rfl:op=7∨op=8∨op=9∨op=10∨op=11:=by omega
 ·exact ⟨by kernel_rfl,(Z67 G hG a b ha hb).mono fun v _ hv=>by subst hv;rfl⟩
 ·exact ⟨by kernel_rfl,(Z87 G hG a b ha hb).mono fun v _ hv=>by subst hv;rfl⟩
 ·exact ⟨by kernel_rfl,(Z77 G hG a b ha hb).mono fun v _ hv=>by subst hv;rfl⟩
 ·exact ⟨by kernel_rfl,(Z97 G hG a b ha hb).mono fun v _ hv=>by subst hv;rfl⟩
 ·exact ⟨by kernel_rfl,(Zcx G hG a b ha hb).mono fun v _ hv=>by subst hv;rfl⟩
theorem lt_spec (G:Nat→V) (a b:Int):Spec Tryz.prog G 159 [.int .i64 a,.int .i64 b] Zp (fun v _=>v = .bool (decide (a<b))):=by
 refine Zo 0 8 [.tmp 4] Tryz.func159 fun X=>?_;exact Zr
theorem le_spec (G:Nat→V) (a b:Int):Spec Tryz.prog G 160 [.int .i64 a,.int .i64 b] Zp (fun v _=>v = .bool (decide (a≤b))):=by
 refine Zo 0 8 [.tmp 4] Tryz.func160 fun X=>?_;exact Zr
theorem gt_spec (G:Nat→V) (a b:Int):Spec Tryz.prog G 161 [.int .i64 a,.int .i64 b] Zp (fun v _=>v = .bool (decide (a > b))):=by
 refine Zo 0 8 [.tmp 4] Tryz.func161 fun X=>?_;exact Zr
theorem ge_spec (G:Nat→V) (a b:Int):Spec Tryz.prog G 162 [.int .i64 a,.int .i64 b] Zp (fun v _=>v = .bool (decide (a≥b))):=by
 refine Zo 0 8 [.tmp 4] Tryz.func162 fun X=>?_;exact Zr
theorem Z7ba (G:Nat→V) {op a b:Int} (h:12≤op∧op≤15):Zbh Tryz.prog G (Z8ba op) [.int .i64 a,.int .i64 b] (.bool (cmpV op a b)):=by
 obtain rfl | rfl | rfl | rfl:op=12∨op=13∨op=14∨op=15:=by omega
 ·exact ⟨by kernel_rfl,(lt_spec G a b).mono fun v _ hv=>by subst hv;rfl⟩
 ·exact ⟨by kernel_rfl,(le_spec G a b).mono fun v _ hv=>by subst hv;rfl⟩
 ·exact ⟨by kernel_rfl,(gt_spec G a b).mono fun v _ hv=>by subst hv;rfl⟩
 ·exact ⟨by kernel_rfl,(ge_spec G a b).mono fun v _ hv=>by subst hv;rfl⟩
theorem Zxg (G:Nat→V) (b:Bool):Zbh Tryz.prog G 131 [.bool b] (Z7a (.tru b)):=⟨by kernel_rfl,(Z0d G b).mono fun v _ hv=>by subst hv;rfl⟩
theorem Zmm (G:Nat→V):Zbh Tryz.prog G 129 [] Z4g:=⟨by kernel_rfl,(Zxw G).mono fun v _ hv=>by subst hv;rfl⟩
theorem Z9p (G:Nat→V):Zbh Tryz.prog G 130 [] Z4h:=⟨by kernel_rfl,(Z9t G).mono fun v _ hv=>by subst hv;rfl⟩
end Go.Hs
end

section
namespace Go.Hs
open Go.Proofs
set_option maxRecDepth 10000
set_option maxHeartbeats 1000000
theorem Zb6 (G:Nat→V) (hG:GOk G) (c1 c2:Col) (sl:Sl XN) (m:List (List UInt8 × Int)) (n:XN) (A B C:EV) (ho:7≤n.op∧n.op≤11) (hA:OfC G sl m n.a A) (hB:OfC G sl m n.b B) (fA:A.fine) (fB:B.fine) :
  SpecP Tryz.prog G (some (kpEV (Zgd m n A B C))) 92 [lkV c1 c2 sl m,Z6 n] Zp (Z59 (Zgd m n A B C)):=by
 have hN:Zgd m n A B C=A.onN fun a=>B.onN fun b => .ofR (Zkq n.op a b):=by
  unfold Zgd Zeg;rw [if_neg (by omega),if_neg (by omega),if_pos (by omega),if_pos (by omega)]
 rw [hN];refine Zqb 0 200 [.cell 4 34] Tryz.func92 rfl rfl rfl rfl fun X=>?_;refine Zwa (by kernel_rfl) ?_;simp -implicitDefEqProofs only[go_sem,seval,↓reduceIte,Zg,lkV];intro g3 g4;refine AW.weak (Zz (fun o=>o==3) (l:=[(0,.view c1 (.agg [Za c2 6 Z6 sl,.mapv (Zvc m) (Z9c m)])),(3,.view .new (.agg [.int .u8 n.op,.int .i64 n.num,.str n.name,.int .i64 n.a,.int .i64 n.b,.int .i64 n.c])),(4,.ptr 4 g4 0)]) (m:=[(4,.cells .new g4 0 [.int .u8 0,.int .i64 0,.bool false])]) ?_ ?_) ?_
 ·simp -implicitDefEqProofs only[go_sem,seval,↓reduceIte,Zg,lkV]
  exact ⟨Zb _,Fz.ptr (v := .agg [.int .u8 n.op,.int .i64 n.num,.str n.name,.int .i64 n.a,.int .i64 n.b,.int .i64 n.c]) (c := .new) (fz:=0) rfl zp,Zb _⟩
 ·simp only [Zm,Zt,and_true]
  exact FzO.keep rfl zp
 refine Z2 ?_
 refine Z2 <| Zv ⟨fun i=>if i=0 then Z4g else .top,fun i=>if i=2 then .lend else .pure⟩ (by kernel_rfl) hG (by kernel_rfl) (by kernel_rfl) ?_
 simp -implicitDefEqProofs only[go_sem,seval,↓reduceIte,Zfba ho,Zmm];refine Z1 ?_;refine Zrc rfl ?_;refine AW.weak (Ze (l:=[(0,.view c1 (.agg [Za c2 6 Z6 sl,.mapv (Zvc m) (Z9c m)])),(3,.view .new (.agg [.int .u8 n.op,.int .i64 n.num,.str n.name,.int .i64 n.a,.int .i64 n.b,.int .i64 n.c])),(4,.ptr 4 g4 0),(5,fnV (Zyaa n.op))]) (m:=[(4,.cells .new g4 0 [.int .u8 0,.int .i64 0,.bool false])]) zp zp) ?_;refine Z1 ?_;refine Z8 hG (by kernel_rfl) (hA c1.ent c2.ent 1 (by decide)) (by simp -implicitDefEqProofs only[go_sem,seval,↓reduceIte,lkV]) ?_ ?_
 ·rintro v H' ⟨e,he,rfl⟩
  exact ⟨e,Znd _ he,rfl⟩
 rintro v H' ⟨hne,rfl⟩;obtain ⟨a,rfl⟩:=Zlg hne;rw [Zze,Z2p];refine Zs ?_;intro g7;refine AW.weak (Zz (fun o=>o==7) (l:=[(0,.view c1 (.agg [Za c2 6 Z6 sl,.mapv (Zvc m) (Z9c m)])),(3,.view .new (.agg [.int .u8 n.op,.int .i64 n.num,.str n.name,.int .i64 n.a,.int .i64 n.b,.int .i64 n.c])),(4,.ptr 4 g4 0),(5,fnV (Zyaa n.op)),(7,.view .new (.agg [.int .u8 1,.int .i64 a,.bool false]))]) (m:=[(4,.cells .new g4 0 [.int .u8 0,.int .i64 0,.bool false])]) ?_ ?_) ?_
 ·refine Zs ?_
  refine ⟨Zb _,Zb _,Zb _,Zb _,?_⟩;exact Fz.ptr (v := .agg [.int .u8 1,.int .i64 a,.bool false]) (c := .new) (fz:=0) rfl zp
 ·simp only [Zm,Zt,and_true]
  exact FzO.keep rfl zp
 by_cases hBe:∃ e,B.need 1 = .err e
 ·obtain ⟨e,he⟩:=hBe
  refine Z2 <| Zv ⟨fun _ => .top,fun i=>if i=2 then .lend else if i=5 then .lend else if i=6 then .any else .pure⟩ (by kernel_rfl) hG (by kernel_rfl) (by kernel_rfl) ?_
  refine Zs ?_;refine Z8 hG (by kernel_rfl) (hB c1.ent c2.ent 1 (by decide)) (by simp -implicitDefEqProofs only[go_sem,seval,↓reduceIte,lkV]) ?_ fun v H' h=>absurd he (h.1 e);rintro v H' ⟨e,he,rfl⟩;exact ⟨e,(show B.onN _ = .err e from Znd _ he),rfl⟩
 have hBe:=fun e he=>hBe ⟨e,he⟩;obtain ⟨b,rfl⟩:=Zlg hBe
 refine Z2 <| Zv ⟨fun i=>if i=8 then Zwh (Zkq n.op a b) else .top,fun i=>if i=2 then .lend else if i=5 then .lend else if i=6 then .any else .pure⟩ (by kernel_rfl) hG (by kernel_rfl) (by kernel_rfl) ?_
 refine Zs ?_;refine Z8 hG (by kernel_rfl) (hB c1.ent c2.ent 1 (by decide)) (by simp -implicitDefEqProofs only[go_sem,seval,↓reduceIte,lkV]) (fun v H' ⟨e,he,_⟩=>absurd he (hBe e)) ?_;rintro v H' ⟨_,rfl⟩;rw [Zze,Z2p];simp -implicitDefEqProofs only[go_sem,seval,↓reduceIte,fnV,Zwh];refine ⟨Zxaa G hG ho fA fB,?_⟩;refine AW.weak (Ze (l:=[(4,.ptr 4 g4 0),(8,.int .i64 (Zkq n.op a b).1),(9,.int .i64 (Zkq n.op a b).2)]) (m:=[(4,.cells .new g4 0 [.int .u8 0,.int .i64 0,.bool false])]) zp zp) ?_;generalize hr:Zkq n.op a b=r
 have hR:(EV.num a).onN (fun a=>(EV.num b).onN fun b => .ofR (Zkq n.op a b))=if r.2=0 then .num r.1 else .err r.2:=by simp only [EV.onN,EV.ofR,hr]
 rw [hR];generalize hv:(if r.2=0 then EV.num r.1 else .err r.2)=v0;refine Z1 ?_;refine Z8 hG (by kernel_rfl) (Z0e G r.2) rfl ?_ ?_
 ·rintro v H' ⟨h0,rfl⟩
  exact ⟨r.2,by rw [← hv,if_neg h0],rfl⟩
 rintro v H' ⟨h0,rfl⟩;rw [if_pos h0] at hv;refine Zs ?_;refine Z ?_;subst hv;exact ⟨(fun e h=>by cases h),rfl⟩
theorem Zd6 (G:Nat→V) (hG:GOk G) (c1 c2:Col) (sl:Sl XN) (m:List (List UInt8 × Int)) (n:XN) (A B C:EV) (ho:12≤n.op∧n.op≤15) (hA:OfC G sl m n.a A) (hB:OfC G sl m n.b B) :
  SpecP Tryz.prog G (some (kpEV (Zgd m n A B C))) 92 [lkV c1 c2 sl m,Z6 n] Zp (Z59 (Zgd m n A B C)):=by
 have hN:Zgd m n A B C=A.onN fun a=>B.onN fun b => .tru (cmpV n.op a b):=by
  unfold Zgd Zeg;rw [if_neg (by omega),if_neg (by omega),if_pos (by omega),if_neg (by omega),if_pos (by omega)]
 rw [hN];refine Zqb 0 200 [.cell 4 34] Tryz.func92 rfl rfl rfl rfl fun X=>?_;refine Zwa (by kernel_rfl) ?_;simp -implicitDefEqProofs only[go_sem,seval,↓reduceIte,Zg,lkV];intro g3 g4;refine AW.weak (Zz (fun o=>o==3) (l:=[(0,.view c1 (.agg [Za c2 6 Z6 sl,.mapv (Zvc m) (Z9c m)])),(3,.view .new (.agg [.int .u8 n.op,.int .i64 n.num,.str n.name,.int .i64 n.a,.int .i64 n.b,.int .i64 n.c])),(4,.ptr 4 g4 0)]) (m:=[(4,.cells .new g4 0 [.int .u8 0,.int .i64 0,.bool false])]) ?_ ?_) ?_
 ·simp -implicitDefEqProofs only[go_sem,seval,↓reduceIte,Zg,lkV]
  exact ⟨Zb _,Fz.ptr (v := .agg [.int .u8 n.op,.int .i64 n.num,.str n.name,.int .i64 n.a,.int .i64 n.b,.int .i64 n.c]) (c := .new) (fz:=0) rfl zp,Zb _⟩
 ·simp only [Zm,Zt,and_true]
  exact FzO.keep rfl zp
 refine Z2 ?_
 refine Z2 <| Zv ⟨fun i=>if i=0 then Z4g else .top,fun i=>if i=2 then .lend else .pure⟩ (by kernel_rfl) hG (by kernel_rfl) (by kernel_rfl) ?_
 simp -implicitDefEqProofs only[go_sem,seval,↓reduceIte,Zmi (op:=n.op) (by omega),Zmm];refine Z1 ?_;refine Z0 ?_;refine Z2 ?_
 refine Z2 <| Zv ⟨fun i=>if i=0 then Z4h else .top,fun i=>if i=2 then .lend else .pure⟩ (by kernel_rfl) hG (by kernel_rfl) (by kernel_rfl) ?_
 simp -implicitDefEqProofs only[go_sem,seval,↓reduceIte,Zhba ho,Z9p];refine Z1 ?_;refine Zrc rfl ?_;refine AW.weak (Ze (l:=[(0,.view c1 (.agg [Za c2 6 Z6 sl,.mapv (Zvc m) (Z9c m)])),(3,.view .new (.agg [.int .u8 n.op,.int .i64 n.num,.str n.name,.int .i64 n.a,.int .i64 n.b,.int .i64 n.c])),(4,.ptr 4 g4 0),(10,fnV (Z8ba n.op))]) (m:=[(4,.cells .new g4 0 [.int .u8 0,.int .i64 0,.bool false])]) zp zp) ?_;refine Z1 ?_;refine Z8 hG (by kernel_rfl) (hA c1.ent c2.ent 1 (by decide)) (by simp -implicitDefEqProofs only[go_sem,seval,↓reduceIte,lkV]) ?_ ?_
 ·rintro v H' ⟨e,he,rfl⟩
  exact ⟨e,Znd _ he,rfl⟩
 rintro v H' ⟨hne,rfl⟩;obtain ⟨a,rfl⟩:=Zlg hne;rw [Zze,Z2p];refine Zs ?_;intro g12;refine AW.weak (Zz (fun o=>o==12) (l:=[(0,.view c1 (.agg [Za c2 6 Z6 sl,.mapv (Zvc m) (Z9c m)])),(3,.view .new (.agg [.int .u8 n.op,.int .i64 n.num,.str n.name,.int .i64 n.a,.int .i64 n.b,.int .i64 n.c])),(4,.ptr 4 g4 0),(10,fnV (Z8ba n.op)),(12,.view .new (.agg [.int .u8 1,.int .i64 a,.bool false]))]) (m:=[(4,.cells .new g4 0 [.int .u8 0,.int .i64 0,.bool false])]) ?_ ?_) ?_
 ·refine Zs ?_
  refine ⟨Zb _,Zb _,Zb _,Zb _,?_⟩;exact Fz.ptr (v := .agg [.int .u8 1,.int .i64 a,.bool false]) (c := .new) (fz:=0) rfl zp
 ·simp only [Zm,Zt,and_true]
  exact FzO.keep rfl zp
 by_cases hBe:∃ e,B.need 1 = .err e
 ·obtain ⟨e,he⟩:=hBe
  refine Z2 <| Zv ⟨fun _ => .top,fun i=>if i=2 then .lend else if i=5 then .lend else if i=6 then .any else .pure⟩ (by kernel_rfl) hG (by kernel_rfl) (by kernel_rfl) ?_
  refine Zs ?_;refine Z8 hG (by kernel_rfl) (hB c1.ent c2.ent 1 (by decide)) (by simp -implicitDefEqProofs only[go_sem,seval,↓reduceIte,lkV]) ?_ fun v H' h=>absurd he (h.1 e);rintro v H' ⟨e,he,rfl⟩;exact ⟨e,(show B.onN _ = .err e from Znd _ he),rfl⟩
 have hBe:=fun e he=>hBe ⟨e,he⟩;obtain ⟨b,rfl⟩:=Zlg hBe
 refine Z2 <| Zv ⟨fun i=>if i=8 then .bool (cmpV n.op a b) else if i=9 then Z7a (.tru (cmpV n.op a b)) else .top,fun i=>if i=2 then .lend else if i=5 then .lend else if i=6 then .any else .pure⟩ (by kernel_rfl) hG (by kernel_rfl) (by kernel_rfl) ?_
 refine Zs ?_;refine Z8 hG (by kernel_rfl) (hB c1.ent c2.ent 1 (by decide)) (by simp -implicitDefEqProofs only[go_sem,seval,↓reduceIte,lkV]) (fun v H' ⟨e,he,_⟩=>absurd he (hBe e)) ?_;rintro v H' ⟨_,rfl⟩;rw [Zze,Z2p,Zdd];simp -implicitDefEqProofs only[go_sem,seval,↓reduceIte,fnV];refine ⟨Z7ba G ho,Zxg G _,?_⟩;refine Z ?_;exact ⟨(fun e h=>by cases h),rfl⟩
theorem Zw3 (G:Nat→V) (hG:GOk G) (c1 c2:Col) (sl:Sl XN) (m:List (List UInt8 × Int)) (n:XN) (A B C:EV) (ho:1≤n.op∧n.op≤4) :
  SpecP Tryz.prog G (some (kpEV (Zgd m n A B C))) 92 [lkV c1 c2 sl m,Z6 n] Zp (Z59 (Zgd m n A B C)):=by
 have hN:Zgd m n A B C=Zie m n.op n.num n.name:=by unfold Zgd;rw [if_pos (by omega)]
 rw [hN];refine Zqb 0 200 [.cell 4 34] Tryz.func92 rfl rfl rfl rfl fun X=>?_;refine Zwa (by kernel_rfl) ?_;simp -implicitDefEqProofs only[go_sem,seval,↓reduceIte,Zg,lkV];intro g3 g4;refine AW.weak (Zz (fun o=>o==3) (l:=[(0,.view c1 (.agg [Za c2 6 Z6 sl,.mapv (Zvc m) (Z9c m)])),(3,.view .new (.agg [.int .u8 n.op,.int .i64 n.num,.str n.name,.int .i64 n.a,.int .i64 n.b,.int .i64 n.c])),(4,.ptr 4 g4 0)]) (m:=[(4,.cells .new g4 0 [.int .u8 0,.int .i64 0,.bool false])]) ?_ ?_) ?_
 ·simp -implicitDefEqProofs only[go_sem,seval,↓reduceIte,Zg,lkV]
  exact ⟨Zb _,Fz.ptr (v := .agg [.int .u8 n.op,.int .i64 n.num,.str n.name,.int .i64 n.a,.int .i64 n.b,.int .i64 n.c]) (c := .new) (fz:=0) rfl zp,Zb _⟩
 ·simp only [Zm,Zt,and_true]
  exact FzO.keep rfl zp
 refine Z5 fun K1 hK1=>?_
 refine Z2 <| Zv ⟨fun i=>if i=0 then Z4g else .top,fun i=>if i=2 then .lend else .pure⟩ (by kernel_rfl) hG (by kernel_rfl) (by kernel_rfl) ?_
 simp -implicitDefEqProofs only[go_sem,seval,↓reduceIte,Zmi (op:=n.op) (by omega),Zmm];refine Z1 ?_;refine Z0 ?_;refine hK1 _ ?_
 try clear hK1 K1
 refine Z5 fun K1 hK1=>?_
 refine Z2 <| Zv ⟨fun i=>if i=0 then Z4h else .top,fun i=>if i=2 then .lend else .pure⟩ (by kernel_rfl) hG (by kernel_rfl) (by kernel_rfl) ?_
 simp -implicitDefEqProofs only[go_sem,seval,↓reduceIte,Zpl (op:=n.op) (by omega),Z9p];refine Z1 ?_;refine Z0 ?_;refine hK1 _ ?_
 try clear hK1 K1
 refine AW.weak (Ze (l:=[(0,.view c1 (.agg [Za c2 6 Z6 sl,.mapv (Zvc m) (Z9c m)])),(3,.view .new (.agg [.int .u8 n.op,.int .i64 n.num,.str n.name,.int .i64 n.a,.int .i64 n.b,.int .i64 n.c])),(4,.ptr 4 g4 0)]) (m:=[(4,.cells .new g4 0 [.int .u8 0,.int .i64 0,.bool false])]) zp zp) ?_;obtain ⟨op,num,name,na,nb,nc⟩:=n;simp only at ho ⊢
 obtain rfl | rfl | rfl | rfl:op=1∨op=2∨op=3∨op=4:=by omega
 ·refine Z ?_
  exact ⟨(fun e h=>by cases h),rfl⟩
 ·refine Z ?_
  refine Z8 hG (by kernel_rfl) (Z47 G hG c1.ent c2.ent sl m name) (by simp -implicitDefEqProofs only[go_sem,seval,↓reduceIte,lkV]) ?_ ?_
  ·rintro v H' ⟨h0,rfl⟩
   exact ⟨90,by unfold Zie;rw [h0]<;>rfl,rfl⟩
  rintro v H' ⟨k,h0,rfl⟩;refine Zs ?_;refine Z ?_
  have hv:Zie m 2 num name = .num k:=by unfold Zie;rw [h0]<;>rfl
  rw [hv];exact ⟨(fun e h=>by cases h),rfl⟩
 ·refine Z ?_
  refine Zfe (CallA.pure hG (by kernel_rfl) ?_);refine Zs ?_;refine (Z0d G _).mono ?_;rintro _ _ rfl;rw [Zdd];refine Zs ?_;refine Z ?_;exact ⟨(fun e h=>by cases h),rfl⟩
 ·refine Z ?_
  refine Zfe (CallA.pure hG (by kernel_rfl) ?_);refine Zs ?_;refine (Z0d G _).mono ?_;rintro _ _ rfl;rw [Zdd];refine Zs ?_;refine Z ?_;exact ⟨(fun e h=>by cases h),rfl⟩
theorem Zc6 (G:Nat→V) (hG:GOk G) (c1 c2:Col) (sl:Sl XN) (m:List (List UInt8 × Int)) (n:XN) (A B C:EV) (ho:n.op=5) (hA:OfC G sl m n.a A) (fA:A.fine) :
  SpecP Tryz.prog G (some (kpEV (Zgd m n A B C))) 92 [lkV c1 c2 sl m,Z6 n] Zp (Z59 (Zgd m n A B C)):=by
 have hN:Zgd m n A B C=A.onN fun a => .ofR (Go.Hs.told (-a)):=by unfold Zgd Za2;rw [if_neg (by omega),if_pos (by omega),if_pos ho]
 rw [hN];refine Zqb 0 200 [.cell 4 34] Tryz.func92 rfl rfl rfl rfl fun X=>?_;refine Zwa (by kernel_rfl) ?_;simp -implicitDefEqProofs only[go_sem,seval,↓reduceIte,Zg,lkV];intro g3 g4;refine AW.weak (Zz (fun o=>o==3) (l:=[(0,.view c1 (.agg [Za c2 6 Z6 sl,.mapv (Zvc m) (Z9c m)])),(3,.view .new (.agg [.int .u8 n.op,.int .i64 n.num,.str n.name,.int .i64 n.a,.int .i64 n.b,.int .i64 n.c])),(4,.ptr 4 g4 0)]) (m:=[(4,.cells .new g4 0 [.int .u8 0,.int .i64 0,.bool false])]) ?_ ?_) ?_
 ·simp -implicitDefEqProofs only[go_sem,seval,↓reduceIte,Zg,lkV]
  exact ⟨Zb _,Fz.ptr (v := .agg [.int .u8 n.op,.int .i64 n.num,.str n.name,.int .i64 n.a,.int .i64 n.b,.int .i64 n.c]) (c := .new) (fz:=0) rfl zp,Zb _⟩
 ·simp only [Zm,Zt,and_true]
  exact FzO.keep rfl zp
 refine Z5 fun K1 hK1=>?_
 refine Z2 <| Zv ⟨fun i=>if i=0 then Z4g else .top,fun i=>if i=2 then .lend else .pure⟩ (by kernel_rfl) hG (by kernel_rfl) (by kernel_rfl) ?_
 simp -implicitDefEqProofs only[go_sem,seval,↓reduceIte,Zmi (op:=n.op) (by omega),Zmm];refine Z1 ?_;refine Z0 ?_;refine hK1 _ ?_
 try clear hK1 K1
 refine Z5 fun K1 hK1=>?_
 refine Z2 <| Zv ⟨fun i=>if i=0 then Z4h else .top,fun i=>if i=2 then .lend else .pure⟩ (by kernel_rfl) hG (by kernel_rfl) (by kernel_rfl) ?_
 simp -implicitDefEqProofs only[go_sem,seval,↓reduceIte,Zpl (op:=n.op) (by omega),Z9p];refine Z1 ?_;refine Z0 ?_;refine hK1 _ ?_
 try clear hK1 K1
 refine AW.weak (Ze (l:=[(0,.view c1 (.agg [Za c2 6 Z6 sl,.mapv (Zvc m) (Z9c m)])),(3,.view .new (.agg [.int .u8 n.op,.int .i64 n.num,.str n.name,.int .i64 n.a,.int .i64 n.b,.int .i64 n.c])),(4,.ptr 4 g4 0)]) (m:=[(4,.cells .new g4 0 [.int .u8 0,.int .i64 0,.bool false])]) zp zp) ?_;obtain ⟨op,num,name,na,nb,nc⟩:=n;simp only at ho hA ⊢;subst ho;refine Z ?_;refine Z8 hG (by kernel_rfl) (hA c1.ent c2.ent 1 (by decide)) (by simp -implicitDefEqProofs only[go_sem,seval,↓reduceIte,lkV]) ?_ ?_
 ·rintro v H' ⟨e,he,rfl⟩
  exact ⟨e,Znd _ he,rfl⟩
 rintro v H' ⟨hne,rfl⟩;obtain ⟨a,rfl⟩:=Zlg hne;rw [Zze,Z2p];refine Zs ?_;refine Zfe (CallA.pure hG (by kernel_rfl) ?_);refine Zs ?_;refine (Z57 G hG a (Zfb fA)).mono ?_;rintro _ _ rfl;simp -implicitDefEqProofs only[go_sem,seval,↓reduceIte,Zwh];generalize hr:Go.Hs.told (-a)=r
 have hR:(EV.num a).onN (fun a=>EV.ofR (Go.Hs.told (-a)))=if r.2=0 then .num r.1 else .err r.2:=by simp only [EV.onN,EV.ofR,hr]
 rw [hR];generalize hv:(if r.2=0 then EV.num r.1 else .err r.2)=v0;refine Z ?_;refine Z8 hG (by kernel_rfl) (Z0e G r.2) rfl ?_ ?_
 ·rintro v H' ⟨h0,rfl⟩
  exact ⟨r.2,by rw [← hv,if_neg h0],rfl⟩
 rintro v H' ⟨h0,rfl⟩;rw [if_pos h0] at hv;refine Zs ?_;refine Z ?_;subst hv;exact ⟨(fun e h=>by cases h),rfl⟩
theorem Zgm (G:Nat→V) (hG:GOk G) (c1 c2:Col) (sl:Sl XN) (m:List (List UInt8 × Int)) (n:XN) (A B C:EV) (ho:n.op=6∨18≤n.op∧n.op≤22) (hA:OfC G sl m n.a A) (hB:n.op≠6→OfC G sl m n.b B) (hC:n.op=22→OfC G sl m n.c C) :
  SpecP Tryz.prog G (some (kpEV (Zgd m n A B C))) 92 [lkV c1 c2 sl m,Z6 n] Zp (Z59 (Zgd m n A B C)):=by
 have hN:Zgd m n A B C=A.onB fun a=>Zgd m n (.tru a) B C:=by
  unfold Zgd
  rcases ho with ho | ho
  ·rw [if_neg (by omega),if_pos (by omega)]
   cases A<;>simp only [Za2,if_neg (show ¬ n.op=5 by omega),EV.onB,if_neg (show ¬ n.op≤4 by omega),if_pos (show n.op≤6 by omega)]
  ·rw [if_neg (by omega),if_neg (by omega)]
   by_cases h22:n.op≤21
   ·rw [if_pos h22]
    unfold Zeg;rw [if_neg (by omega),if_neg (by omega),if_neg (by omega)]
    cases A<;>simp only [Zjx,EV.onB,if_neg (show ¬ n.op≤4 by omega),if_neg (show ¬ n.op≤6 by omega),if_pos h22,if_neg (show ¬ n.op≤11 by omega),if_neg (show ¬ n.op≤15 by omega),if_neg (show ¬ n.op≤17 by omega)]
   ·rw [if_neg h22]
    cases A<;>simp only [EV.onB,if_neg (show ¬ n.op≤4 by omega),if_neg (show ¬ n.op≤6 by omega),if_neg h22]
 rw [hN]
 try clear hN
 refine Zqb 0 200 [.cell 4 34] Tryz.func92 rfl rfl rfl rfl fun X=>?_;refine Zwa (by kernel_rfl) ?_;simp -implicitDefEqProofs only[go_sem,seval,↓reduceIte,Zg,lkV];intro g3 g4;refine AW.weak (Zz (fun o=>o==3) (l:=[(0,.view c1 (.agg [Za c2 6 Z6 sl,.mapv (Zvc m) (Z9c m)])),(3,.view .new (.agg [.int .u8 n.op,.int .i64 n.num,.str n.name,.int .i64 n.a,.int .i64 n.b,.int .i64 n.c])),(4,.ptr 4 g4 0)]) (m:=[(4,.cells .new g4 0 [.int .u8 0,.int .i64 0,.bool false])]) ?_ ?_) ?_
 ·simp -implicitDefEqProofs only[go_sem,seval,↓reduceIte,Zg,lkV]
  exact ⟨Zb _,Fz.ptr (v := .agg [.int .u8 n.op,.int .i64 n.num,.str n.name,.int .i64 n.a,.int .i64 n.b,.int .i64 n.c]) (c := .new) (fz:=0) rfl zp,Zb _⟩
 ·simp only [Zm,Zt,and_true]
  exact FzO.keep rfl zp
 refine Z5 fun K1 hK1=>?_
 refine Z2 <| Zv ⟨fun i=>if i=0 then Z4g else .top,fun i=>if i=2 then .lend else .pure⟩ (by kernel_rfl) hG (by kernel_rfl) (by kernel_rfl) ?_
 simp -implicitDefEqProofs only[go_sem,seval,↓reduceIte,Zmi (op:=n.op) (by omega),Zmm];refine Z1 ?_;refine Z0 ?_;refine hK1 _ ?_
 try clear hK1 K1
 refine Z5 fun K1 hK1=>?_
 refine Z2 <| Zv ⟨fun i=>if i=0 then Z4h else .top,fun i=>if i=2 then .lend else .pure⟩ (by kernel_rfl) hG (by kernel_rfl) (by kernel_rfl) ?_
 simp -implicitDefEqProofs only[go_sem,seval,↓reduceIte,Zpl (op:=n.op) (by omega),Z9p];refine Z1 ?_;refine Z0 ?_;refine hK1 _ ?_
 try clear hK1 K1
 refine AW.weak (Ze (l:=[(0,.view c1 (.agg [Za c2 6 Z6 sl,.mapv (Zvc m) (Z9c m)])),(3,.view .new (.agg [.int .u8 n.op,.int .i64 n.num,.str n.name,.int .i64 n.a,.int .i64 n.b,.int .i64 n.c])),(4,.ptr 4 g4 0)]) (m:=[(4,.cells .new g4 0 [.int .u8 0,.int .i64 0,.bool false])]) zp zp) ?_;obtain ⟨op,num,name,na,nb,nc⟩:=n;simp only at ho hA hB hC ⊢
 obtain rfl | rfl | rfl | rfl | rfl | rfl:op=6∨op=18∨op=19∨op=20∨op=21∨op=22:=by omega
 all_goals
  refine Z ?_;refine Z8 hG (by kernel_rfl) (hA c1.ent c2.ent 2 (by decide)) (by simp -implicitDefEqProofs only[go_sem,seval,↓reduceIte,lkV]) ?_ ?_
  ·rintro v H' ⟨e,he,rfl⟩
   exact ⟨e,Zmc _ he,rfl⟩
  rintro v H' ⟨hne,rfl⟩;obtain ⟨a,rfl⟩:=Zhd hne;rw [Zlc,Zdd];refine Zs ?_;refine AW.weak (Ze (l:=[(0,.view c1 (.agg [Za c2 6 Z6 sl,.mapv (Zvc m) (Z9c m)])),(3,.view .new (.agg [.int .u8 _,.int .i64 num,.str name,.int .i64 na,.int .i64 nb,.int .i64 nc])),(4,.ptr 4 g4 0),(17,.bool a)]) (m:=[(4,.cells .new g4 0 [.int .u8 0,.int .i64 0,.bool false])]) zp zp) ?_
  try clear hA hne
 ·refine Z ?_
  refine Zfe (CallA.pure hG (by kernel_rfl) ?_);refine Zs ?_;refine (Z0d G _).mono ?_;rintro _ _ rfl;rw [Zdd];refine Zs ?_;refine Z ?_;exact ⟨(fun e h=>by cases h),rfl⟩
 ·cases a
  ·refine Z ?_
   refine Zfe (CallA.pure hG (by kernel_rfl) ?_);refine Zs ?_;refine (Z0d G _).mono ?_;rintro _ _ rfl;rw [Zdd];refine Zs ?_;refine Z ?_;exact ⟨(fun e h=>by cases h),rfl⟩
  ·have hR:(EV.tru true).onB (fun a=>Zgd m ⟨18,num,name,na,nb,nc⟩ (.tru a) B C)=B.onB fun b => .tru b:=rfl
   rw [hR];refine Z ?_;refine Z8 hG (by kernel_rfl) ((hB (by decide)) c1.ent c2.ent 2 (by decide)) (by simp -implicitDefEqProofs only[go_sem,seval,↓reduceIte,lkV]) ?_ ?_
   ·rintro v H' ⟨e,he,rfl⟩
    exact ⟨e,Zmc _ he,rfl⟩
   rintro v H' ⟨hne,rfl⟩;obtain ⟨b,rfl⟩:=Zhd hne;rw [Zlc,Zdd];refine Zs ?_;refine Z ?_;exact ⟨(fun e h=>by cases h),rfl⟩
 ·cases a
  ·have hR:(EV.tru false).onB (fun a=>Zgd m ⟨19,num,name,na,nb,nc⟩ (.tru a) B C)=B.onB fun b => .tru b:=rfl
   rw [hR];refine Z ?_;refine Z8 hG (by kernel_rfl) ((hB (by decide)) c1.ent c2.ent 2 (by decide)) (by simp -implicitDefEqProofs only[go_sem,seval,↓reduceIte,lkV]) ?_ ?_
   ·rintro v H' ⟨e,he,rfl⟩
    exact ⟨e,Zmc _ he,rfl⟩
   rintro v H' ⟨hne,rfl⟩;obtain ⟨b,rfl⟩:=Zhd hne;rw [Zlc,Zdd];refine Zs ?_;refine Z ?_;exact ⟨(fun e h=>by cases h),rfl⟩
  ·refine Z ?_
   refine Zfe (CallA.pure hG (by kernel_rfl) ?_);refine Zs ?_;refine (Z0d G _).mono ?_;rintro _ _ rfl;rw [Zdd];refine Zs ?_;refine Z ?_;exact ⟨(fun e h=>by cases h),rfl⟩
 ·have hR:(EV.tru a).onB (fun a=>Zgd m ⟨20,num,name,na,nb,nc⟩ (.tru a) B C)=B.onB fun b => .tru (a != b):=by cases a<;>rfl
  rw [hR];refine Z ?_;refine Z8 hG (by kernel_rfl) ((hB (by decide)) c1.ent c2.ent 2 (by decide)) (by simp -implicitDefEqProofs only[go_sem,seval,↓reduceIte,lkV]) ?_ ?_
  ·rintro v H' ⟨e,he,rfl⟩
   exact ⟨e,Zmc _ he,rfl⟩
  rintro v H' ⟨hne,rfl⟩;obtain ⟨b,rfl⟩:=Zhd hne;rw [Zlc,Zdd];refine Zs ?_;refine Zfe (CallA.pure hG (by kernel_rfl) ?_);refine Zs ?_;refine (Z0d G _).mono ?_;rintro _ _ rfl;rw [Zdd];refine Zs ?_;refine Z ?_;exact ⟨(fun e h=>by cases h),rfl⟩
 ·cases a
  ·refine Z ?_
   refine Zfe (CallA.pure hG (by kernel_rfl) ?_);refine Zs ?_;refine (Z0d G _).mono ?_;rintro _ _ rfl;rw [Zdd];refine Zs ?_;refine Z ?_;exact ⟨(fun e h=>by cases h),rfl⟩
  ·have hR:(EV.tru true).onB (fun a=>Zgd m ⟨21,num,name,na,nb,nc⟩ (.tru a) B C)=B.onB fun b => .tru b:=rfl
   rw [hR];refine Z ?_;refine Z8 hG (by kernel_rfl) ((hB (by decide)) c1.ent c2.ent 2 (by decide)) (by simp -implicitDefEqProofs only[go_sem,seval,↓reduceIte,lkV]) ?_ ?_
   ·rintro v H' ⟨e,he,rfl⟩
    exact ⟨e,Zmc _ he,rfl⟩
   rintro v H' ⟨hne,rfl⟩;obtain ⟨b,rfl⟩:=Zhd hne;rw [Zlc,Zdd];refine Zs ?_;refine Z ?_;exact ⟨(fun e h=>by cases h),rfl⟩
 ·cases a
  ·have hR:(EV.tru false).onB (fun a=>Zgd m ⟨22,num,name,na,nb,nc⟩ (.tru a) B C)=C:=rfl
   rw [hR];refine Z ?_;refine Z8 hG (by kernel_rfl) ((hC rfl) c1.ent c2.ent 0 (by decide)) (by simp -implicitDefEqProofs only[go_sem,seval,↓reduceIte,lkV]) ?_ ?_
   ·rintro v H' ⟨e,he,rfl⟩
    rw [Zvn] at he;exact ⟨e,he,rfl⟩
   rintro v H' ⟨hne,rfl⟩;rw [Zvn] at hne ⊢;simp -implicitDefEqProofs only[go_sem,seval,↓reduceIte,Z7a];refine Z ?_;exact ⟨hne,rfl⟩
  ·have hR:(EV.tru true).onB (fun a=>Zgd m ⟨22,num,name,na,nb,nc⟩ (.tru a) B C)=B:=rfl
   rw [hR];refine Z ?_;refine Z8 hG (by kernel_rfl) ((hB (by decide)) c1.ent c2.ent 0 (by decide)) (by simp -implicitDefEqProofs only[go_sem,seval,↓reduceIte,lkV]) ?_ ?_
   ·rintro v H' ⟨e,he,rfl⟩
    rw [Zvn] at he;exact ⟨e,he,rfl⟩
   rintro v H' ⟨hne,rfl⟩;rw [Zvn] at hne ⊢;simp -implicitDefEqProofs only[go_sem,seval,↓reduceIte,Z7a];refine Z ?_;exact ⟨hne,rfl⟩
theorem Zrq (op a b:Int):Zqn op (.num a) (.num b) = .tru ((a==b)==(op==16)):=by
 have:(EV.num a==EV.num b)=(a==b):=by rw [Bool.eq_iff_iff];simp
 show (if (1:Int)=1 then EV.tru ((EV.num a==EV.num b)==(op==16)) else EV.err 90)=_
 rw [if_pos rfl,this]
theorem Zqq (op:Int) (a b:Bool):Zqn op (.tru a) (.tru b) = .tru ((a==b)==(op==16)):=by
 have:(EV.tru a==EV.tru b)=(a==b):=by rw [Bool.eq_iff_iff];simp
 show (if (2:Int)=2 then EV.tru ((EV.tru a==EV.tru b)==(op==16)) else EV.err 90)=_
 rw [if_pos rfl,this]
theorem Zcaa (G:Nat→V) (hG:GOk G) (c1 c2:Col) (sl:Sl XN) (m:List (List UInt8 × Int)) (n:XN) (A B C:EV) (ho:16≤n.op∧n.op≤17) (hA:OfC G sl m n.a A) (hB:OfC G sl m n.b B) :
  SpecP Tryz.prog G (some (kpEV (Zgd m n A B C))) 92 [lkV c1 c2 sl m,Z6 n] Zp (Z59 (Zgd m n A B C)):=by
 have hN:Zgd m n A B C=Zqn n.op A B:=by
  unfold Zgd Zeg;rw [if_neg (by omega),if_neg (by omega),if_pos (by omega),if_neg (by omega),if_neg (by omega),if_pos (by omega)]
 rw [hN];refine Zqb 0 200 [.cell 4 34] Tryz.func92 rfl rfl rfl rfl fun X=>?_;refine Zwa (by kernel_rfl) ?_;simp -implicitDefEqProofs only[go_sem,seval,↓reduceIte,Zg,lkV];intro g3 g4;refine AW.weak (Zz (fun o=>o==3) (l:=[(0,.view c1 (.agg [Za c2 6 Z6 sl,.mapv (Zvc m) (Z9c m)])),(3,.view .new (.agg [.int .u8 n.op,.int .i64 n.num,.str n.name,.int .i64 n.a,.int .i64 n.b,.int .i64 n.c])),(4,.ptr 4 g4 0)]) (m:=[(4,.cells .new g4 0 [.int .u8 0,.int .i64 0,.bool false])]) ?_ ?_) ?_
 ·simp -implicitDefEqProofs only[go_sem,seval,↓reduceIte,Zg,lkV]
  exact ⟨Zb _,Fz.ptr (v := .agg [.int .u8 n.op,.int .i64 n.num,.str n.name,.int .i64 n.a,.int .i64 n.b,.int .i64 n.c]) (c := .new) (fz:=0) rfl zp,Zb _⟩
 ·simp only [Zm,Zt,and_true]
  exact FzO.keep rfl zp
 refine Z5 fun K1 hK1=>?_
 refine Z2 <| Zv ⟨fun i=>if i=0 then Z4g else .top,fun i=>if i=2 then .lend else .pure⟩ (by kernel_rfl) hG (by kernel_rfl) (by kernel_rfl) ?_
 simp -implicitDefEqProofs only[go_sem,seval,↓reduceIte,Zmi (op:=n.op) (by omega),Zmm];refine Z1 ?_;refine Z0 ?_;refine hK1 _ ?_
 try clear hK1 K1
 refine Z5 fun K1 hK1=>?_
 refine Z2 <| Zv ⟨fun i=>if i=0 then Z4h else .top,fun i=>if i=2 then .lend else .pure⟩ (by kernel_rfl) hG (by kernel_rfl) (by kernel_rfl) ?_
 simp -implicitDefEqProofs only[go_sem,seval,↓reduceIte,Zpl (op:=n.op) (by omega),Z9p];refine Z1 ?_;refine Z0 ?_;refine hK1 _ ?_
 try clear hK1 K1
 refine AW.weak (Ze (l:=[(0,.view c1 (.agg [Za c2 6 Z6 sl,.mapv (Zvc m) (Z9c m)])),(3,.view .new (.agg [.int .u8 n.op,.int .i64 n.num,.str n.name,.int .i64 n.a,.int .i64 n.b,.int .i64 n.c])),(4,.ptr 4 g4 0)]) (m:=[(4,.cells .new g4 0 [.int .u8 0,.int .i64 0,.bool false])]) zp zp) ?_;obtain ⟨op,num,name,na,nb,nc⟩:=n;simp only at ho hA hB ⊢
 obtain rfl | rfl:op=16∨op=17:=by omega
 ·refine Z ?_
  refine Z8 hG (by kernel_rfl) (hA c1.ent c2.ent 0 (by decide)) (by simp -implicitDefEqProofs only[go_sem,seval,↓reduceIte,lkV]) ?_ ?_
  ·rintro v H' ⟨e,he,rfl⟩
   rw [Zvn] at he;exact ⟨e,by rw [he]<;>rfl,rfl⟩
  rintro v H' ⟨hne,rfl⟩;rw [Zvn] at hne ⊢;simp -implicitDefEqProofs only[go_sem,seval,↓reduceIte,Z7a];intro g15;refine Z ?_;refine Z8 hG (by kernel_rfl) (hB c1.ent c2.ent 0 (by decide)) (by simp -implicitDefEqProofs only[go_sem,seval,↓reduceIte,lkV]) ?_ ?_
  ·rintro v H' ⟨e,he,rfl⟩
   rw [Zvn] at he;refine ⟨e,?_,rfl⟩;rw [he]
   cases A with
   | err e'=>exact absurd rfl (hne e')
   | num=>rfl
   | tru=>rfl
  rintro v H' ⟨hne2,rfl⟩;rw [Zvn] at hne2 ⊢;simp -implicitDefEqProofs only[go_sem,seval,↓reduceIte,Z7a];intro g16;refine AW.weak (Zz (fun o=>o==15 || o==16) (l:=[(3,.view .new (.agg [.int .u8 16,.int .i64 num,.str name,.int .i64 na,.int .i64 nb,.int .i64 nc])),(4,.ptr 4 g4 0),(15,.view .new (.agg [.int .u8 A.kind,.int .i64 A.nm,.bool A.tr])),(16,.view .new (.agg [.int .u8 B.kind,.int .i64 B.nm,.bool B.tr]))]) (m:=[(4,.cells .new g4 0 [.int .u8 0,.int .i64 0,.bool false])]) ?_ ?_) ?_
  ·refine Zs ?_
   refine ⟨Zb _,Zb _,?_,?_⟩
   ·exact Fz.ptr (v := .agg [.int .u8 A.kind,.int .i64 A.nm,.bool A.tr]) (c := .new) (fz:=0) rfl zp
   ·exact Fz.ptr (v := .agg [.int .u8 B.kind,.int .i64 B.nm,.bool B.tr]) (c := .new) (fz:=0) rfl zp
  ·simp only [Zm,Zt,and_true]
   exact FzO.keep rfl zp
  cases A with
  | err e'=>exact absurd rfl (hne e')
  | num a =>
   cases B with
   | err e'=>exact absurd rfl (hne2 e')
   | num b =>
    simp only [EV.kind,EV.nm,EV.tr];refine Z ?_;refine Zv ⟨fun i=>if i=7 then Z7a (.tru ((a==b)==true)) else .top,fun i=>if i=0 then .lend else if i=1 then .lend else if i=4 then .lend else .pure⟩ (by kernel_rfl) hG (by kernel_rfl) (by kernel_rfl) ?_;refine Zsf @Zdd ?_;refine ⟨by simp only [Bool.true_and,Bool.and_true];exact Zxg G _,?_⟩;refine Z ?_;rw [Zrq];exact ⟨(fun e h=>by cases h),rfl⟩
   | tru b =>
    simp only [EV.kind,EV.nm,EV.tr];refine Z ?_;exact Z8 hG (by kernel_rfl) (Z0e G 90) rfl (fun v H' h=>⟨90,rfl,by rw [h.2]<;>rfl⟩) fun v H' h=>absurd h.1 (by decide)
  | tru a =>
   cases B with
   | err e'=>exact absurd rfl (hne2 e')
   | num b =>
    simp only [EV.kind,EV.nm,EV.tr];refine Z ?_;exact Z8 hG (by kernel_rfl) (Z0e G 90) rfl (fun v H' h=>⟨90,rfl,by rw [h.2]<;>rfl⟩) fun v H' h=>absurd h.1 (by decide)
   | tru b =>
    simp only [EV.kind,EV.nm,EV.tr];refine Z ?_;refine Zv ⟨fun i=>if i=7 then Z7a (.tru ((a==b)==true)) else .top,fun i=>if i=0 then .lend else if i=1 then .lend else if i=4 then .lend else .pure⟩ (by kernel_rfl) hG (by kernel_rfl) (by kernel_rfl) ?_;refine Zsf @Zdd ?_;refine ⟨by simp only [Bool.true_and,Bool.and_true];exact Zxg G _,?_⟩;refine Z ?_;rw [Zqq];exact ⟨(fun e h=>by cases h),rfl⟩
 ·refine Z ?_
  refine Z8 hG (by kernel_rfl) (hA c1.ent c2.ent 0 (by decide)) (by simp -implicitDefEqProofs only[go_sem,seval,↓reduceIte,lkV]) ?_ ?_
  ·rintro v H' ⟨e,he,rfl⟩
   rw [Zvn] at he;exact ⟨e,by rw [he]<;>rfl,rfl⟩
  rintro v H' ⟨hne,rfl⟩;rw [Zvn] at hne ⊢;simp -implicitDefEqProofs only[go_sem,seval,↓reduceIte,Z7a];intro g15;refine Z ?_;refine Z8 hG (by kernel_rfl) (hB c1.ent c2.ent 0 (by decide)) (by simp -implicitDefEqProofs only[go_sem,seval,↓reduceIte,lkV]) ?_ ?_
  ·rintro v H' ⟨e,he,rfl⟩
   rw [Zvn] at he;refine ⟨e,?_,rfl⟩;rw [he]
   cases A with
   | err e'=>exact absurd rfl (hne e')
   | num=>rfl
   | tru=>rfl
  rintro v H' ⟨hne2,rfl⟩;rw [Zvn] at hne2 ⊢;simp -implicitDefEqProofs only[go_sem,seval,↓reduceIte,Z7a];intro g16;refine AW.weak (Zz (fun o=>o==15 || o==16) (l:=[(3,.view .new (.agg [.int .u8 17,.int .i64 num,.str name,.int .i64 na,.int .i64 nb,.int .i64 nc])),(4,.ptr 4 g4 0),(15,.view .new (.agg [.int .u8 A.kind,.int .i64 A.nm,.bool A.tr])),(16,.view .new (.agg [.int .u8 B.kind,.int .i64 B.nm,.bool B.tr]))]) (m:=[(4,.cells .new g4 0 [.int .u8 0,.int .i64 0,.bool false])]) ?_ ?_) ?_
  ·refine Zs ?_
   refine ⟨Zb _,Zb _,?_,?_⟩
   ·exact Fz.ptr (v := .agg [.int .u8 A.kind,.int .i64 A.nm,.bool A.tr]) (c := .new) (fz:=0) rfl zp
   ·exact Fz.ptr (v := .agg [.int .u8 B.kind,.int .i64 B.nm,.bool B.tr]) (c := .new) (fz:=0) rfl zp
  ·simp only [Zm,Zt,and_true]
   exact FzO.keep rfl zp
  cases A with
  | err e'=>exact absurd rfl (hne e')
  | num a =>
   cases B with
   | err e'=>exact absurd rfl (hne2 e')
   | num b =>
    simp only [EV.kind,EV.nm,EV.tr];refine Z ?_;refine Zv ⟨fun i=>if i=7 then Z7a (.tru ((a==b)==false)) else .top,fun i=>if i=0 then .lend else if i=1 then .lend else if i=4 then .lend else .pure⟩ (by kernel_rfl) hG (by kernel_rfl) (by kernel_rfl) ?_;refine Zsf @Zdd ?_;refine ⟨by simp only [Bool.true_and,Bool.and_true];exact Zxg G _,?_⟩;refine Z ?_;rw [Zrq];exact ⟨(fun e h=>by cases h),rfl⟩
   | tru b =>
    simp only [EV.kind,EV.nm,EV.tr];refine Z ?_;exact Z8 hG (by kernel_rfl) (Z0e G 90) rfl (fun v H' h=>⟨90,rfl,by rw [h.2]<;>rfl⟩) fun v H' h=>absurd h.1 (by decide)
  | tru a =>
   cases B with
   | err e'=>exact absurd rfl (hne2 e')
   | num b =>
    simp only [EV.kind,EV.nm,EV.tr];refine Z ?_;exact Z8 hG (by kernel_rfl) (Z0e G 90) rfl (fun v H' h=>⟨90,rfl,by rw [h.2]<;>rfl⟩) fun v H' h=>absurd h.1 (by decide)
   | tru b =>
    simp only [EV.kind,EV.nm,EV.tr];refine Z ?_;refine Zv ⟨fun i=>if i=7 then Z7a (.tru ((a==b)==false)) else .top,fun i=>if i=0 then .lend else if i=1 then .lend else if i=4 then .lend else .pure⟩ (by kernel_rfl) hG (by kernel_rfl) (by kernel_rfl) ?_;refine Zsf @Zdd ?_;refine ⟨by simp only [Bool.true_and,Bool.and_true];exact Zxg G _,?_⟩;refine Z ?_;rw [Zqq];exact ⟨(fun e h=>by cases h),rfl⟩
end Go.Hs
end

section
namespace Go.Hs
open Go.Proofs
set_option maxRecDepth 10000
theorem Zoh (G:Nat→V) (hG:GOk G) (sl:Sl XN) (hs:sl.l.length<1000000) (m:List (List UInt8 × Int)) (i:Nat) (n:XN) (x:EV) (hn:sl.l[i]? = some n)
  (hw:∀ c1 c2,SpecP Tryz.prog G (some (kpEV x)) 92 [lkV c1 c2 sl m,Z6 n] Zp (Z59 x)):OfC G sl m i x:=by
 intro c1 c2 k hk;refine Zqb 0 27 [.cell 6 34] Tryz.func67 rfl rfl rfl rfl fun X=>?_;have hil:i<sl.l.length:=(List.getElem?_eq_some_iff.1 hn).1;refine Z1 ?_;intro g6;refine Zwa (by kernel_rfl) ?_;simp -implicitDefEqProofs only[go_sem,seval,↓reduceIte,lkV,hn,Int.natCast_nonneg,Int.ofNat_lt,hil,Zg];refine Z8 hG (by kernel_rfl) (hw c1.ent c2.ent) (by simp -implicitDefEqProofs only[go_sem,seval,↓reduceIte,lkV,Zg]) ?_ ?_
 ·rintro v H' ⟨e,he,rfl⟩
  exact ⟨e,by rw [he]<;>rfl,rfl⟩
 rintro v H' ⟨hne,rfl⟩;simp -implicitDefEqProofs only[go_sem,seval,↓reduceIte,Z7a];intro g7
 have fin:x.need k=x→Z59 (x.need k) (.agg [.int .u8 x.kind,.int .i64 x.nm,.bool x.tr])=Z59 x (Z7a x):=fun h=>by rw [h]<;>rfl
 have hx:∀ e,x.need k = .err e→k≠0∧x.kind≠k∧e=90:=by
  intro e he
  cases x with
  | err e'=>exact absurd rfl (hne e')
  | num n =>
   simp only [EV.need] at he
   split at he
   ·rename_i h;cases he;exact ⟨h.1,h.2,rfl⟩
   ·cases he
  | tru n =>
   simp only [EV.need] at he
   split at he
   ·rename_i h;cases he;exact ⟨h.1,h.2,rfl⟩
   ·cases he
 have hx2:k≠0∧x.kind≠k→x.need k = .err 90:=by
  intro h
  cases x with
  | err e'=>exact absurd rfl (hne e')
  | num n=>exact if_pos h
  | tru n=>exact if_pos h
 have hx3:¬ (k≠0∧x.kind≠k)→x.need k=x:=by
  intro h
  cases x with
  | err e'=>exact absurd rfl (hne e')
  | num n=>exact if_neg h
  | tru n=>exact if_neg h
 refine Z2 ?_
 by_cases h0:k=0
 ·subst h0
  refine Z ?_;rw [hx3 (fun h=>h.1 rfl)];exact ⟨hne,rfl⟩
 have h0b:(k != 0)=true:=by simpa using h0
 by_cases h2:x.kind=k
 ·have h2b:(x.kind != k)=false:=by simpa using h2
  refine Zf (zi h0b h2b) ?_;rw [hx3 (fun h=>h.2 h2)];exact ⟨hne,rfl⟩
 ·have h2b:(x.kind != k)=true:=by simpa using h2
  refine Z1f (zi h0b h2b) ?_;refine Z1 ?_;exact Z8 hG (by kernel_rfl) (Z0e G 90) rfl (fun v H' h=>⟨90,hx2 ⟨h0,h2⟩,by rw [h.2]<;>rfl⟩) fun v H' h=>absurd h.1 (by decide)
def Zje (x:X):Prop:=∀ op num name,X.leaf op num name∈Zge x→Zec num=true
theorem Zod {env:List (List UInt8 × Int)} (he:∀ p∈env,Zec p.2=true) (x:X) (h:x.ok=true) (hn:Zje x):(evX env x).fine:=by
 induction x with
 | leaf op num name =>
  show (Zie env op num name).fine
  unfold Zie
  split
  ·exact hn op num name (by simp [Zge])
  split
  ·cases hl:Z9d env name with
   | none=>exact .inr (.inr rfl)
   | some v =>
    obtain ⟨p,h1,_,h2⟩:=Zix hl;exact h2 ▸ he p h1
  ·trivial
 | un op a ih =>
  simp only [X.ok,Bool.and_eq_true] at h;have ha:=ih h.2 fun o n nm hm=>hn o n nm (by simp [Zge,hm])
  show (Za2 op (evX env a)).fine
  unfold Za2
  split
  ·exact Zlj ha fun n _=>Zfi _
  ·exact Zmj ha fun n=>trivial
 | bin op a b iha ihb =>
  simp only [X.ok,Bool.and_eq_true] at h;exact Zn3 (iha h.1.2 fun o n nm hm=>hn o n nm (by simp [Zge,hm])) (ihb h.2 fun o n nm hm=>hn o n nm (by simp [Zge,hm]))
 | ite a b c iha ihb ihc =>
  simp only [X.ok,Bool.and_eq_true] at h;refine Zmj (iha h.1.1 fun o n nm hm=>hn o n nm (by simp [Zge,hm])) fun t=>?_
  split
  ·exact ihb h.1.2 fun o n nm hm=>hn o n nm (by simp [Zge,hm])
  ·exact ihc h.2 fun o n nm hm=>hn o n nm (by simp [Zge,hm])
theorem of_spec (G:Nat→V) (hG:GOk G) (sl:Sl XN) (hs:sl.l.length<1000000) (m:List (List UInt8 × Int)) (hm:∀ p∈m,Zec p.2=true) (x:X) :
  ∀ b:Nat,x.ok=true→Zje x→At sl.l x b→OfC G sl m ((b+x.size-1:Nat):Int) (evX m x):=by
 induction x with
 | leaf op num name =>
  intro b h hn hat;refine Zoh G hG sl hs m _ _ _ hat.get fun c1 c2=>?_;simp only [X.ok,Bool.and_eq_true,decide_eq_true_eq] at h;have hr:=(Zvg h.1).1
  have hv:evX m (.leaf op num name)=Zgd m ((X.leaf op num name).top b) (.num 0) (.num 0) (.num 0):=by
   show _=if op≤4 then _ else _
   rw [if_pos h.2]<;>rfl
  rw [hv];exact Zw3 G hG c1 c2 sl m _ _ _ _ ⟨hr,h.2⟩
 | un op a ih =>
  intro b h hn hat;have hsz:=a.size_pos;simp only [X.ok,Bool.and_eq_true,decide_eq_true_eq] at h;have na:Zje a:=fun o n nm hm=>hn o n nm (by simp [Zge,hm]);have hA:=ih b h.2 na hat.un;rw [show ((b+a.size-1:Nat):Int)=(b:Int)+a.size-1 by omega] at hA;refine Zoh G hG sl hs m _ _ _ hat.get fun c1 c2=>?_
  have hv:evX m (.un op a)=Zgd m ((X.un op a).top b) (evX m a) (.num 0) (.num 0):=by
   show _=if op≤4 then _ else if op≤6 then _ else _
   rw [if_neg (by omega),if_pos (by omega)]<;>rfl
  rw [hv]
  obtain h5 | h6:op=5∨op=6:=by omega
  ·exact Zc6 G hG c1 c2 sl m _ _ _ _ h5 hA (Zod hm a h.2 na)
  ·exact Zgm G hG c1 c2 sl m _ _ _ _ (.inl h6) hA (fun hh=>absurd h6 hh) (fun hh=>absurd (h6.symm.trans hh) (by decide))
 | bin op a c iha ihc =>
  intro b h hn hat;have hsz:=a.size_pos;have hsc:=c.size_pos;simp only [X.ok,Bool.and_eq_true,decide_eq_true_eq] at h;have na:Zje a:=fun o n nm hm=>hn o n nm (by simp [Zge,hm]);have nc:Zje c:=fun o n nm hm=>hn o n nm (by simp [Zge,hm]);have hA:=iha b h.1.2 na hat.bin.1;have hC:=ihc (b+a.size) h.2 nc hat.bin.2;rw [show ((b+a.size-1:Nat):Int)=(b:Int)+a.size-1 by omega] at hA;rw [show ((b+a.size+c.size-1:Nat):Int)=(b:Int)+a.size+c.size-1 by omega] at hC;refine Zoh G hG sl hs m _ _ _ hat.get fun c1 c2=>?_
  have hv:evX m (.bin op a c)=Zgd m ((X.bin op a c).top b) (evX m a) (evX m c) (.num 0):=by
   show _=if op≤4 then _ else if op≤6 then _ else if op≤21 then _ else _
   rw [if_neg (by omega),if_neg (by omega),if_pos (by omega)]<;>rfl
  rw [hv]
  by_cases h11:op≤11
  ·exact Zb6 G hG c1 c2 sl m _ _ _ _ ⟨h.1.1.1,h11⟩ hA hC (Zod hm a h.1.2 na) (Zod hm c h.2 nc)
  by_cases h15:op≤15
  ·exact Zd6 G hG c1 c2 sl m _ _ _ _ ⟨show 12≤op by omega,h15⟩ hA hC
  by_cases h17:op≤17
  ·exact Zcaa G hG c1 c2 sl m _ _ _ _ ⟨show 16≤op by omega,h17⟩ hA hC
  ·exact Zgm G hG c1 c2 sl m _ _ _ _ (.inr ⟨show 18≤op by omega,show op≤22 by omega⟩) hA (fun _=>hC) (fun hh=>absurd (show op=22 from hh) (by omega))
 | ite a c d iha ihc ihd =>
  intro b h hn hat;have hsz:=a.size_pos;have hsc:=c.size_pos;have hsd:=d.size_pos;simp only [X.ok,Bool.and_eq_true] at h;have na:Zje a:=fun o n nm hm=>hn o n nm (by simp [Zge,hm]);have nc:Zje c:=fun o n nm hm=>hn o n nm (by simp [Zge,hm]);have nd:Zje d:=fun o n nm hm=>hn o n nm (by simp [Zge,hm]);have hA:=iha b h.1.1 na hat.ite.1;have hC:=ihc (b+a.size) h.1.2 nc hat.ite.2.1;have hD:=ihd (b+a.size+c.size) h.2 nd hat.ite.2.2;rw [show ((b+a.size-1:Nat):Int)=(b:Int)+a.size-1 by omega] at hA;rw [show ((b+a.size+c.size-1:Nat):Int)=(b:Int)+a.size+c.size-1 by omega] at hC;rw [show ((b+a.size+c.size+d.size-1:Nat):Int)=(b:Int)+a.size+c.size+d.size-1 by omega] at hD;refine Zoh G hG sl hs m _ _ _ hat.get fun c1 c2=>?_;exact Zgm G hG c1 c2 sl m _ (evX m a) (evX m c) (evX m d) (.inr ⟨show (18:Int)≤22 by decide,show (22:Int)≤22 by decide⟩) hA (fun _=>hC) (fun _=>hD)
end Go.Hs
end

section
namespace Go.Hs
open Go.Proofs
set_option maxRecDepth 10000
theorem Zb1 (e:Int):Z9f Tryz.prog (.iface 152 (.agg [.int .i64 e])) 152 true=some (.tuple [.agg [.int .i64 e],.bool true]):=by
 unfold Z9f;rw [Tryz.underlying152]<;>rfl
theorem Zl5:Z9f Tryz.prog .nili 152 true=some (.tuple [.agg [.int .i64 0],.bool false]):=by
 unfold Z9f;rw [Tryz.underlying152]<;>rfl
theorem Z58 (G:Nat→V) (g6 g7:Nat) (v6 v7:List V):SpecF Tryz.prog G 66 [.ptr 6 g6 0,.ptr 7 g7 0] (Zba Zp [(6,.cells .new g6 0 v6),(7,.cells .new g7 0 v7)]) none (fun H'=>H' 6 = .cells .new g6 0 v6∧H' 7 = .cells .new g7 0 v7):=by
 refine Z9l 1000 13 5 Tryz.func66 rfl rfl rfl rfl rfl (by kernel_rfl) rfl fun X=>?_;simp -implicitDefEqProofs only[go_sem,seval,↓reduceIte,recV,Zl5,Zba];intro g2;refine Z1 ?_;refine Z9a rfl ?_;refine AW.skip ?_;exact ⟨rfl,rfl⟩
theorem Zh5 (G:Nat→V) (hG:GOk G) (g6 g7:Nat) (v7:V) (e:Int):SpecF Tryz.prog G 66 [.ptr 6 g6 0,.ptr 7 g7 0] (Zba Zp [(6,.cells .new g6 0 [.int .u8 0,.int .i64 0,.bool false]),(7,.cells .new g7 0 [v7])]) (some (Z20 e)) (fun H'=>H' 6 = .cells .new g6 0 [.int .u8 0,.int .i64 0,.bool false]∧H' 7 = .cells .new g7 0 [.int .i64 e]):=by
 refine Z9l 1000 13 5 Tryz.func66 rfl rfl rfl rfl rfl (by kernel_rfl) rfl fun X=>?_;simp -implicitDefEqProofs only[go_sem,seval,↓reduceIte,recV,Z20,Zb1,Zba];intro g2;refine Z1 ?_;refine Zrc rfl ?_;refine AW.weak (Zz (fun o=>o==1002) (l:=[(0,.ptr 6 g6 0),(1,.ptr 7 g7 0),(2,.view .new (.agg [.int .i64 e]))]) (m:=[(6,.cells .new g6 0 [.int .u8 0,.int .i64 0,.bool false]),(7,.cells .new g7 0 [v7])]) ?_ ?_) ?_
 ·refine Zs ?_
  refine ⟨Zb _,Zb _,?_⟩;exact Fz.ptr (v := .agg [.int .i64 e]) (c := .new) (fz:=0) rfl zp
 ·simp only [Zm,Zt,and_true]
  exact ⟨FzO.keep rfl zp,FzO.keep rfl zp⟩
 refine Zv ⟨fun _ => .top,fun i=>if i=2 then .lend else .pure⟩ (by kernel_rfl) hG (by kernel_rfl) (by kernel_rfl) ?_;refine Zs ?_;exact ⟨rfl,rfl⟩
def Zj (p:List UInt8 × Int):V := .agg [.str p.1,.int .i64 p.2]
theorem Zwc (p:List UInt8 × Int):Zj p = .agg [.str p.1,.int .i64 p.2]:=rfl
@[go_sem] theorem Zwaa (f:Col→Col) (p:List UInt8 × Int):(Zj p).recol f=Zj p:=rfl
@[go_sem] theorem Zx (g:Col→Col) (c:Col) (s:Sl (List UInt8 × Int)):(Za c 2 Zj s).recol g=Za (g c) 2 Zj s:=Z3g g c 2 (Zwaa g) s
def Z6v:List (List UInt8 × Int)→List UInt8 × Int→List (List UInt8 × Int)
 | [],p=>[p]
 | q::r,p=>if p.1=q.1 then (q.1,p.2)::r else q::Z6v r p
theorem Zhx (p:List UInt8 × Int) (s:List UInt8):∀ m:List (List UInt8 × Int),Z9d (Z6v m p) s=if s=p.1 then some p.2 else Z9d m s
 | []=>by
  unfold Z6v Z9d
  by_cases h:s=p.1
  ·rw [if_pos h,List.find?_cons_of_pos (by simpa using h.symm)]<;>rfl
  ·rw [if_neg h,List.find?_cons_of_neg (by simpa using fun hh=>h hh.symm)]
 | q::r=>by
  have ih:=Zhx p s r;unfold Z6v
  by_cases hq:p.1=q.1
  ·rw [if_pos hq]
   unfold Z9d
   by_cases h:s=p.1
   ·rw [if_pos h,List.find?_cons_of_pos (by simpa using (h.trans hq).symm)]<;>rfl
   ·rw [if_neg h,List.find?_cons_of_neg (by simpa using fun hh=>h (hh.symm.trans hq.symm)),List.find?_cons_of_neg (by simpa using fun hh=>h (hh.symm.trans hq.symm))]
  ·rw [if_neg hq]
   unfold Z9d at ih ⊢
   by_cases h2:q.1=s
   ·have hsp:¬ s=p.1:=fun h=>hq (h.symm.trans h2.symm)
    rw [if_neg hsp,List.find?_cons_of_pos (by simpa using h2),List.find?_cons_of_pos (by simpa using h2)]
   ·rw [List.find?_cons_of_neg (by simpa using h2),List.find?_cons_of_neg (by simpa using h2),ih]
theorem Z1aa (p:List UInt8 × Int) (m:List (List UInt8 × Int)):Zv9 .string (.str p.1) (.int .i64 p.2) (Zvc m) (Z9c m)=some (Zvc (Z6v m p),Z9c (Z6v m p)):=by
 have key:∀ m:List (List UInt8 × Int),∃ r,Z4d .string (.str p.1) (Zvc m)=some r∧(match r with
   | none=>Z6v m p=m++[p]
   | some j=>Zvc (Z6v m p)=Zvc m∧Z9c (Z6v m p)=(Z9c m).set j (.int .i64 p.2)):=by
  intro m
  induction m with
  | nil=>exact ⟨none,rfl,rfl⟩
  | cons q r ih =>
   have hstep:Z4d .string (.str p.1) (Zvc (q::r))=if p.1=q.1 then some (some 0) else (Z4d .string (.str p.1) (Zvc r)).map (·.map (· + 1)):=rfl
   by_cases h:p.1=q.1
   ·refine ⟨some 0,by rw [hstep,if_pos h],?_⟩
    show Zvc (if p.1=q.1 then _ else _)=_∧Z9c (if p.1=q.1 then _ else _)=_
    rw [if_pos h];exact ⟨rfl,rfl⟩
   ·obtain ⟨o,h1,h2⟩:=ih
    refine ⟨o.map (· + 1),by rw [hstep,if_neg h,h1]<;>rfl,?_⟩
    have hs:Z6v (q::r) p=q::Z6v r p:=by show (if p.1=q.1 then _ else _)=_;rw [if_neg h]
    rw [hs]
    cases o with
    | none=>simp only at h2;simp only [Option.map_none];rw [h2]<;>rfl
    | some j =>
     simp only at h2;simp only [Option.map_some];exact ⟨by show _::Zvc (Z6v r p)=_::Zvc r;rw [h2.1],by show _::Z9c (Z6v r p)=_::(Z9c r).set j _;rw [h2.2]⟩
 obtain ⟨o,h1,h2⟩:=key m;unfold Zv9;rw [h1]
 cases o with
 | none=>simp only at h2;simp only [h2,Zvc,Z9c,List.map_append,List.map_cons,List.map_nil]
 | some j=>simp only at h2;simp only [h2.1,h2.2]
def Z5e (env:List (List UInt8 × Int)):Nat→List (List UInt8 × Int)
 | 0=>[]
 | n+1=>match env[env.length-(n+1)]? with
  | some p=>Z6v (Z5e env n) p
  | none=>Z5e env n
theorem Zgx (env:List (List UInt8 × Int)) (s:List UInt8):∀ n,n≤env.length→Z9d (Z5e env n) s=Z9d (env.drop (env.length-n)) s
 | 0,_=>by rw [Nat.sub_zero,List.drop_length]<;>rfl
 | n+1,h=>by
  have hlt:env.length-(n+1)<env.length:=by omega
  have hd:env.drop (env.length-(n+1))=env[env.length-(n+1)]::env.drop (env.length-n):=by
   rw [List.drop_eq_getElem_cons hlt,show env.length-(n+1)+1=env.length-n by omega]
  rw [Z5e,List.getElem?_eq_getElem hlt,hd];simp only;rw [Zhx,Zgx env s n (by omega)];unfold Z9d
  by_cases hs:s=env[env.length-(n+1)].1
  ·rw [if_pos hs,List.find?_cons_of_pos (by simpa using hs.symm)]<;>rfl
  ·rw [if_neg hs,List.find?_cons_of_neg (by simpa using fun hh=>hs hh.symm)]
def Zz8 (env:List (List UInt8 × Int)):=Z5e env env.length
theorem Zf8 (env:List (List UInt8 × Int)) (s:List UInt8):Z9d (Zz8 env) s=Z9d env s:=by
 unfold Zz8;rw [Zgx env s _ (Nat.le_refl _),Nat.sub_self,List.drop_zero]
theorem Za7 {m:List (List UInt8 × Int)} {p:List UInt8 × Int} (hm:∀ q∈m,Zec q.2=true) (hp:Zec p.2=true):∀ q∈Z6v m p,Zec q.2=true:=by
 induction m with
 | nil=>intro q hq;simp [Z6v] at hq;subst hq;exact hp
 | cons r t ih =>
  intro q hq;unfold Z6v at hq
  split at hq
  ·rcases List.mem_cons.1 hq with rfl | h
   ·exact hp
   ·exact hm q (by simp [h])
  ·rcases List.mem_cons.1 hq with rfl | h
   ·exact hm q (by simp)
   ·exact ih (fun q hq=>hm q (by simp [hq])) q h
theorem Zsi {env:List (List UInt8 × Int)} (h:∀ q∈env,Zec q.2=true):∀ n,∀ q∈Z5e env n,Zec q.2=true
 | 0=>fun q hq=>by cases hq
 | n+1=>by
  rw [Z5e]
  cases hg:env[env.length-(n+1)]? with
  | none=>exact Zsi h n
  | some p=>exact Za7 (Zsi h n) (h p (List.mem_of_getElem? hg))
theorem Z0ba (env:List (List UInt8 × Int)) (x:X):evX (Zz8 env) x=evX env x:=Zyba fun t _=>Zf8 env t
end Go.Hs
end

section
namespace Go.Hs
open Go.Proofs
set_option maxRecDepth 10000
set_option maxHeartbeats 1000000
def Zpb (r:EV):V := .tuple [Z7a r,.int .i64 r.er]
def Zn9 (env:List (List UInt8 × Int)) (l:List XN) (k:Int) (r:EV):Prop:=Zbb l≠0∧r = .err (Zbb l)∨Zbb l=0∧∃ x:X,x.ok=true∧Zje x∧l=x.row 0∧r=(evX env x).need k
theorem Zpw {H:Heap} {a b:AObj} (h6:H 6=a) (h7:H 7=b) (o:Nat):Zba Zp [(6,a),(7,b)] o = .dead∨Zba Zp [(6,a),(7,b)] o=H o:=by
 simp only [Zba,upd]
 split
 ·rename_i h;subst h;exact .inr h6.symm
 split
 ·rename_i h;subst h;exact .inr h7.symm
 ·exact .inl rfl
theorem Z64 (G:Nat→V) (hE:GExp G) (c c2:Col) (s:Sl XN) (hs:s.l.length<1000000) (hnm:∀ n∈s.l,n.name.length<100000) (env:Sl (List UInt8 × Int)) (hv:env.l.length<1000000) (hf:∀ p∈env.l,Zec p.2=true) (k:Int) (hk:0≤k∧k≤2) (r:EV) (hr:Zn9 env.l s.l k r) :
  Spec Tryz.prog G 44 [.agg [Za c 6 Z6 s],Za c2 2 Zj env,.int .u8 k] Zp (fun v _=>v=Zpb r):=by
 have hG:=hE.ok;refine Zur 0 51 [.cell 6 34,.cell 7 30] Tryz.func44 rfl rfl rfl rfl fun X0=>?_;refine Zbm rfl fun K hK=>AW.region (by kernel_rfl) ?_;simp -implicitDefEqProofs only[go_sem,seval,↓reduceIte];intro g3 g6 g7;refine hK _ ?_;clear hK K;refine Zbm rfl fun K1 hK1=>?_;refine Z5 fun K hK=>AW.region (by kernel_rfl) ?_;simp -implicitDefEqProofs only[go_sem,seval,↓reduceIte];refine CallA.pure hG (by kernel_rfl) ?_;simp -implicitDefEqProofs only[go_sem,seval,↓reduceIte,Zl];refine (Z9j G hE c.ent s hs hnm).mono ?_;rintro _ _ rfl;simp -implicitDefEqProofs only[go_sem,seval,↓reduceIte];refine hK _ ?_;clear hK K
 by_cases hc:Zbb s.l=0
 rotate_left
 ·obtain rfl:r = .err (Zbb s.l):=by
   rcases hr with ⟨_,h⟩ | ⟨h,_⟩
   ·exact h
   ·exact absurd h hc
  have hcb:(Zbb s.l != 0)=true:=by simpa using hc
  refine Z5 fun K hK=>AW.region (by kernel_rfl) ?_;simp -implicitDefEqProofs only[go_sem,seval,↓reduceIte,hcb];refine hK _ ?_;clear hK K;refine Zrc rfl ?_;refine Z5 fun K hK=>AW.region (by kernel_rfl) ?_;simp -implicitDefEqProofs only[go_sem,seval,↓reduceIte];refine hK _ ?_;clear hK K;refine AW.ret ?_;intro a w hsat;refine Zr4 rfl hsat (v:=Zpb (.err (Zbb s.l))) (rs:=[.cell 6 34,.cell 7 30]) ?_ ?_
  ·simp -implicitDefEqProofs only[go_sem,seval,↓reduceIte]
   rfl
  ·rfl
 obtain ⟨x,hx,hxn,hl,rfl⟩:∃ x:X,x.ok=true∧Zje x∧s.l=x.row 0∧r=(evX env.l x).need k:=by
  rcases hr with ⟨h,_⟩ | ⟨_,h⟩
  ·exact absurd hc h
  ·exact h
 have hcb:(Zbb s.l != 0)=false:=by simpa using hc
 refine Z5 fun K hK=>AW.region (by kernel_rfl) ?_;simp -implicitDefEqProofs only[go_sem,seval,↓reduceIte,hcb];refine hK _ ?_;clear hK K;refine Z9a rfl ?_;refine AW.skip ?_;simp -implicitDefEqProofs only[go_sem,seval,↓reduceIte];refine hK1 _ ?_;clear hK1 K1;refine Zt9 1 (fun _=>(⟨X0,Zp,51,0,G,none,[.func (.func 66) [] [.ptr 6 g6 0,.ptr 7 g7 0]]⟩:Ent)) (fun _=>rfl) (by kernel_rfl) rfl rfl rfl (fun _=>rfl) ?_;simp -implicitDefEqProofs only[go_sem,seval,↓reduceIte];intro X1 a1 hX1;refine Z5ba hX1 (fun d hd=>by cases hd) (fid:=66) (first:=[]) (cap:=[.ptr 6 g6 0,.ptr 7 g7 0]) (by simp -implicitDefEqProofs only[go_sem,seval,↓reduceIte]) ?_;rw [Z0aa];refine AWR.weak (Ze (l:=[(1,Za c2 2 Zj env),(2,.int .u8 k),(3,.ptr 3 g3 0),(6,.ptr 6 g6 0),(7,.ptr 7 g7 0)]) (m:=[(3,.cells .new g3 0 [Za c 6 Z6 s]),(6,.cells .new g6 0 [.int .u8 0,.int .i64 0,.bool false]),(7,.cells .new g7 0 [.int .i64 0])]) (by simp -implicitDefEqProofs only[go_sem,seval,↓reduceIte];try rfl) (by simp -implicitDefEqProofs only[go_sem,seval,↓reduceIte];try rfl)) ?_;refine Zbm rfl fun K hK=>AW.region (by kernel_rfl) ?_;simp -implicitDefEqProofs only[go_sem,seval,↓reduceIte];intro b g22;refine hK _ ?_;clear hK K;refine AWR.weak (Ze (l:=[(1,Za c2 2 Zj env),(2,.int .u8 k),(3,.ptr 3 g3 0),(6,.ptr 6 g6 0),(7,.ptr 7 g7 0),(9,.ptr 22 g22 0)]) (m:=[(3,.cells .new g3 0 [Za c 6 Z6 s]),(6,.cells .new g6 0 [.int .u8 0,.int .i64 0,.bool false]),(7,.cells .new g7 0 [.int .i64 0]),(20,.mp X0.w.heap.size b [] []),(22,.cells .new g22 0 [Za c 6 Z6 s,.mref 20 b])]) (by simp -implicitDefEqProofs only[go_sem,seval,↓reduceIte];try rfl) (by simp -implicitDefEqProofs only[go_sem,seval,↓reduceIte];try rfl)) ?_
 refine Zbm rfl fun K1 hK1=>?_;have hw:IntKind.i64.wrap ((env.l.length:Int)-1)=(env.l.length:Int)-1:=w64 (by omega) (by omega);refine Z5 fun K hK=>AW.region (by kernel_rfl) ?_;simp -implicitDefEqProofs only[go_sem,seval,↓reduceIte,hw];refine hK _ ?_;clear hK K;refine AW.block ?_
 refine Z6a env.l.length (fun j (_:Unit)=>st [(1,Za c2 2 Zj env),(2,.int .u8 k),(3,.ptr 3 g3 0),(6,.ptr 6 g6 0),(7,.ptr 7 g7 0),(9,.ptr 22 g22 0),(10,.int .i64 ((env.l.length:Int)-1-j))] [(3,.cells .new g3 0 [Za c 6 Z6 s]),(6,.cells .new g6 0 [.int .u8 0,.int .i64 0,.bool false]),(7,.cells .new g7 0 [.int .i64 0]),(20,.mp X0.w.heap.size b (Zvc (Z5e env.l j)) (Z9c (Z5e env.l j))),(22,.cells .new g22 0 [Za c 6 Z6 s,.mref 20 b])]) (fun _ _=>True) 0 () (Nat.zero_le _) trivial
  (Ze (by simp -implicitDefEqProofs only[go_sem,seval,↓reduceIte];simp) (by simp -implicitDefEqProofs only[go_sem,seval,↓reduceIte];try rfl)) ?_
 rintro j _ hj-L hL;refine Z5 fun K3 hK3=>?_
 by_cases hjl:j<env.l.length
 ·obtain ⟨i,hi⟩:∃ i:Nat,i=env.l.length-(j+1):=⟨_,rfl⟩
  have hil:i<env.l.length:=by omega
  have hq:(env.l.length:Int)-1-j=(i:Int):=by omega
  have hg:env.l[i]? = some env.l[i]:=List.getElem?_eq_getElem hil
  have hnx:Z5e env.l (j+1)=Z6v (Z5e env.l j) env.l[i]:=by
   rw [Z5e,← hi,hg]
  generalize env.l[i]=p at hg hnx;rw [hq];refine Z5 fun K hK=>AW.region (by kernel_rfl) ?_;simp -implicitDefEqProofs only[go_sem,seval,↓reduceIte];refine hK _ ?_;clear hK K;refine Zd (by simp -implicitDefEqProofs only[go_sem,seval,↓reduceIte];rfl) (fun h1=>?_) (fun h1=>?_);rotate_left
  ·have h1:decide ((i:Int)≥0)=false:=h1
   simp at h1
  refine AW.skip ?_;simp -implicitDefEqProofs only[go_sem,seval,↓reduceIte];refine hK3 _ ?_;clear hK3 K3;refine Z5 fun K4 hK4=>?_;refine AW.block ?_;refine Zv ⟨fun _ => .top,fun _ => .pure⟩ (by kernel_rfl) hG (by kernel_rfl) (by kernel_rfl) ?_;simp -implicitDefEqProofs only[go_sem,seval,↓reduceIte,hg,Zwc,hil,Int.natCast_nonneg,Int.ofNat_lt,Zli Tryz.underlying155 Tryz.underlying9,Z1aa,Zjp,Nat.le_refl];refine hK4 _ ?_;clear hK4 K4;have hw2:IntKind.i64.wrap ((i:Int)-1)=(i:Int)-1:=w64 (by omega) (by omega);refine AW.region (by kernel_rfl) ?_;simp -implicitDefEqProofs only[go_sem,seval,↓reduceIte,hw2];refine hL _ ⟨hjl,(),trivial,Ze (by simp -implicitDefEqProofs only[go_sem,seval,↓reduceIte];exact congrArg (V.int .i64) (by omega)) (by simp -implicitDefEqProofs only[go_sem,seval,↓reduceIte];rw [hnx];try rfl)⟩
 ·have hje:j=env.l.length:=by omega
  subst hje
  have hq:(env.l.length:Int)-1-env.l.length = -1:=by omega
  rw [hq];refine Zwa (by kernel_rfl) ?_;simp -implicitDefEqProofs only[go_sem,seval,↓reduceIte];refine Z9a rfl ?_;refine AW.exit ?_;simp -implicitDefEqProofs only[go_sem,seval,↓reduceIte];refine hK1 _ ?_;clear hK1 hL hK3 K1 K3;refine AWR.weak (Z8m 20 (lo:=X0.w.heap.size) (b:=b) (ks:=Zvc (Zz8 env.l)) (vs:=Z9c (Zz8 env.l)) [(1,Za c2 2 Zj env),(2,.int .u8 k),(3,.ptr 3 g3 0),(6,.ptr 6 g6 0),(7,.ptr 7 g7 0),(9,.ptr 22 g22 0)] [(3,.cells .new g3 0 [Za c 6 Z6 s]),(6,.cells .new g6 0 [.int .u8 0,.int .i64 0,.bool false]),(7,.cells .new g7 0 [.int .i64 0]),(22,.cells .new g22 0 [Za c 6 Z6 s,.mapv (Zvc (Zz8 env.l)) (Z9c (Zz8 env.l))])] (by simp -implicitDefEqProofs only[go_sem,seval,↓reduceIte];try rfl) (Nat.le_refl _) ?_ ?_) ?_
  ·simp -implicitDefEqProofs only[go_sem,seval,↓reduceIte]
   exact ⟨.inl rfl,.inl rfl,.inl rfl,.inl rfl,.inl rfl,.inl rfl⟩
  ·simp -implicitDefEqProofs only[go_sem,seval,↓reduceIte]
   exact ⟨⟨_,rfl,.inl rfl,trivial⟩,⟨_,rfl,.inl rfl,.inl rfl,.inl rfl,trivial⟩,⟨_,rfl,.inl rfl,trivial⟩,⟨_,rfl,.inl rfl,.inr ⟨rfl,rfl⟩,trivial⟩⟩
  refine AWR.weak (Zz (fun o=>o==22) (l:=[(1,Za c2 2 Zj env),(2,.int .u8 k),(3,.ptr 3 g3 0),(6,.ptr 6 g6 0),(7,.ptr 7 g7 0),(9,lkV .new c s (Zz8 env.l))]) (m:=[(3,.cells .new g3 0 [Za c 6 Z6 s]),(6,.cells .new g6 0 [.int .u8 0,.int .i64 0,.bool false]),(7,.cells .new g7 0 [.int .i64 0])]) ?_ ?_) ?_
  ·simp -implicitDefEqProofs only[go_sem,seval,↓reduceIte]
   refine ⟨Zb _,Zb _,Zb _,Zb _,Zb _,?_⟩;exact Fz.ptr (v := .agg [Za c 6 Z6 s,.mapv (Zvc (Zz8 env.l)) (Z9c (Zz8 env.l))]) (c := .new) (fz:=0) rfl (by simp -implicitDefEqProofs only[go_sem,seval,↓reduceIte];try rfl)
  ·simp only [Zm,Zt,and_true]
   exact ⟨FzO.keep rfl (by simp -implicitDefEqProofs only[go_sem,seval,↓reduceIte];try rfl),FzO.keep rfl (by simp -implicitDefEqProofs only[go_sem,seval,↓reduceIte];try rfl),FzO.keep rfl (by simp -implicitDefEqProofs only[go_sem,seval,↓reduceIte];try rfl)⟩
  have hw3:IntKind.i64.wrap ((s.l.length:Int)-1)=(s.l.length:Int)-1:=w64 (by omega) (by omega);refine Zt9 6 (fun _=>(⟨X0,Zp,51,0,G,none,[.func (.func 66) [] [.ptr 6 g6 0,.ptr 7 g7 0]]⟩:Ent)) (fun _=>rfl) (by kernel_rfl) rfl rfl rfl (fun _=>rfl) ?_;simp -implicitDefEqProofs only[go_sem,seval,↓reduceIte,hw3];intro X2 a2 hX2;refine call_wp hX2 (fun d hd=>by cases hd;exact Nat.le_refl 51) (fid:=67) (first:=[]) (cap:=[]) (KP:=fun v H'=>(∃ e,(evX env.l x).need k = .err e∧v=Z20 e)∧H' 6 = .cells .new g6 0 [.int .u8 0,.int .i64 0,.bool false]∧H' 7 = .cells .new g7 0 [.int .i64 0]) (by simp -implicitDefEqProofs only[go_sem,seval,↓reduceIte]) ?_ ?_
  ·simp -implicitDefEqProofs only[go_sem,seval,↓reduceIte]
   have hsz:((0+x.size-1:Nat):Int)=(s.l.length:Int)-1:=by
    have:=x.size_pos;rw [hl,Go.Hs.X.row_len];omega
   have hO:=of_spec G hG s hs (Zz8 env.l) (Zsi hf _) x 0 hx hxn (hl ▸ Z2h x);rw [hsz,Z0ba] at hO;refine Z8 hG (by kernel_rfl) (hO .old c.ent k hk) (by simp -implicitDefEqProofs only[go_sem,seval,↓reduceIte,lkV]) ?_ ?_
   ·rintro v H' ⟨e,he,rfl⟩
    exact ⟨⟨e,he,rfl⟩,rfl,rfl⟩
   rintro v H' ⟨hne,rfl⟩;simp -implicitDefEqProofs only[go_sem,seval,↓reduceIte,Z7a];refine AWR.ret ?_;rintro a w ⟨Y,hY⟩;obtain rfl:Y.w=w:=hY.hw;refine Zls (rs:=[.cell 6 34,.cell 7 30]) (pv:=none) rfl hY (by kernel_rfl) rfl (Z58 G g6 g7 [.int .u8 ((evX env.l x).need k).kind,.int .i64 ((evX env.l x).need k).nm,.bool ((evX env.l x).need k).tr] [.int .i64 0]) ?_ ?_
   ·intro o
    refine Zpw ?_ ?_ o
    ·simp -implicitDefEqProofs only[go_sem,seval,↓reduceIte]
     try rfl
    ·simp -implicitDefEqProofs only[go_sem,seval,↓reduceIte]
     try rfl
   rintro H'' ⟨q6,q7⟩;simp -implicitDefEqProofs only[go_sem,seval,↓reduceIte];rw [q6,q7];simp -implicitDefEqProofs only[go_sem,seval,↓reduceIte];generalize (evX env.l x).need k=r at hne ⊢
   cases r with
   | err e=>exact absurd rfl (hne e)
   | num n=>exact ⟨_,rfl,rfl⟩
   | tru b=>exact ⟨_,rfl,rfl⟩
  ·rintro cv v Y H' hY hrel ⟨⟨e,he,rfl⟩,h6,h7⟩
   refine Zls (rs:=[.cell 6 34,.cell 7 30]) (pv:=some (Z20 e)) rfl hY (by kernel_rfl) ⟨cv,rfl,hrel⟩ (Zh5 G hG g6 g7 (.int .i64 0) e) ?_ ?_
   ·exact fun o=>Zpw h6 h7 o
   ·rintro H'' ⟨q6,q7⟩
    simp -implicitDefEqProofs only[go_sem,seval,↓reduceIte];rw [q6,q7,he];simp -implicitDefEqProofs only[go_sem,seval,↓reduceIte];exact ⟨_,rfl,rfl⟩
end Go.Hs
end

section
namespace Go.Hs
open Go.Proofs
set_option maxRecDepth 10000
theorem Zjca (G:Nat→V) (hG:GOk G) (c1 c2:Col) (n1 n2:Bool) (a b:Nat) (h1:n1=true→dg a=[]) (h2:n2=true→dg b=[]) (hla:(dg a).length<1000000) (hlb:(dg b).length<1000000) :
  Zbh Tryz.prog G 163 [Za c1 1 (V.int .i64) (slD n1 (dg a)),Za c2 1 (V.int .i64) (slD n2 (dg b))] (Za .any 1 (V.int .i64) (slD (decide (dg a=[]∧dg b=[])) (dg (a+b)))):=⟨by kernel_rfl,by
 refine Zs ?_;refine (Z2w G hG _ _ _ _ (dg a) (dg b) (Zal h1) (Zal h2) (Zpd a) (Zpd b) hla hlb).mono ?_;rintro _ _ rfl;rw [Z4c,Z4c]
 simp -implicitDefEqProofs only[go_sem,seval,↓reduceIte]⟩
theorem Zuo (G:Nat→V) (hG:GOk G) (c1 c2:Col) (n1 n2:Bool) (a b:Nat) (h1:n1=true→dg a=[]) (h2:n2=true→dg b=[]) (hla:(dg a).length<1000000) (hab:b≤a) :
  Zbh Tryz.prog G 166 [Za c1 1 (V.int .i64) (slD n1 (dg a)),Za c2 1 (V.int .i64) (slD n2 (dg b))] (Za .any 1 (V.int .i64) (slD (decide (dg a=[])) (dg (a-b)))):=⟨by kernel_rfl,by
 have hlen:(dg b).length≤(dg a).length:=by
  rcases Nat.lt_or_ge (dg a).length (dg b).length with h | h
  ·have:=Z8p h;omega
  ·exact h
 refine Zs ?_;refine (Zh4 G hG _ _ _ _ (dg a) (dg b) (Zal h1) (Zal h2) (Zpd a) (Zpd b) hla hlen (by rw [Z4c,Z4c];exact hab)).mono ?_;rintro _ _ rfl;rw [Z4c,Z4c]
 simp -implicitDefEqProofs only[go_sem,seval,↓reduceIte]⟩
theorem Zbs (G:Nat→V) (hG:GOk G) (c1 c2:Col) (n1 n2 b1 b2:Bool) (a b:Nat) (h1:n1=true→dg a=[]) (h2:n2=true→dg b=[]) (hla:(dg a).length<1000000) (hlb:(dg b).length<1000000) :
  Spec Tryz.prog G 139 [Zfa c1 n1 (dg a) b1,Zfa c2 n2 (dg b) b2] Zp (fun v _=>∃ nl m below,v=Zfa .any nl (dg m) below∧(nl=true→dg m=[])∧sgn below m=sgn b1 a+sgn b2 b∧m≤a+b):=by
 refine Zo 0 39 [.cell 4 204] Tryz.func139 fun X=>?_;simp only [Zfa];refine Z1 ?_;intro g2 g3 g4;refine Z1 ?_;refine Zd zp (fun h2'=>?_) (fun h2'=>?_)
 ·have hb:b1=b2:=by simpa using h2'
  have p1:=Zjca G hG c1 c2 n1 n2 a b h1 h2 hla hlb
  refine Z2 <| Zv ⟨fun i=>if i=4 then Za .any 1 (V.int .i64) (slD (decide (dg a=[]∧dg b=[])) (dg (a+b))) else .top,fun _ => .pure⟩ (by kernel_rfl) hG (by kernel_rfl) (by kernel_rfl) ?_
  refine Zs ?_;refine ⟨p1,?_⟩;refine Z ?_;refine ⟨_,a+b,b1,rfl,?_,?_,Nat.le_refl _⟩
  ·intro h
   have h:=of_decide_eq_true h;rw [Zb5] at h ⊢;rw [Zb5] at h;omega
  ·subst hb
   unfold sgn
   split<;>omega
 ·have hb:b1≠b2:=by simpa using h2'
  refine Z1 ?_;refine Zc hG ?_ (s:=(Zcs G hG _ _ _ _ a b (Zal h1) (Zal h2) hla hlb));refine Zd rfl (fun h4=>?_) (fun h4=>?_)
  ·have h4':=of_decide_eq_true h4
   have p1:=Zuo G hG c2 c1 n2 n1 b a h2 h1 hlb (by omega)
   refine Z2 <| Zv ⟨fun i=>if i=4 then Za .any 1 (V.int .i64) (slD (decide (dg b=[])) (dg (b-a))) else .top,fun _ => .pure⟩ (by kernel_rfl) hG (by kernel_rfl) (by kernel_rfl) ?_
   refine Zs ?_;refine ⟨p1,?_⟩;refine Z ?_;refine ⟨_,b-a,b2,rfl,?_,?_,by omega⟩
   ·intro h
    have h:=of_decide_eq_true h;rw [Zb5] at h ⊢;omega
   ·unfold sgn
    cases b1<;>cases b2<;>simp at hb ⊢ <;> omega
  ·have h4':=of_decide_eq_false h4
   have p1:=Zuo G hG c1 c2 n1 n2 a b h1 h2 hla (by omega);refine Z0 ?_
   refine Z2 <| Zv ⟨fun i=>if i=4 then Za .any 1 (V.int .i64) (slD (decide (dg a=[])) (dg (a-b))) else .top,fun _ => .pure⟩ (by kernel_rfl) hG (by kernel_rfl) (by kernel_rfl) ?_
   refine Zs ?_;refine ⟨p1,?_⟩;refine Z ?_;refine ⟨_,a-b,b1,rfl,?_,?_,by omega⟩
   ·intro h
    have h:=of_decide_eq_true h;rw [Zb5] at h ⊢;omega
   ·unfold sgn
    cases b1<;>cases b2<;>simp at hb ⊢ <;> omega
theorem Z26 {n:Int}:sgn (decide (n<0)) n.natAbs=n:=by
 unfold sgn
 split
 ·rename_i h;have:=of_decide_eq_true h;omega
 ·rename_i h;have:¬ n<0:=by simpa using h
  omega
theorem Zki {n:Int} (h:decide (n=0)=true):dg n.natAbs=[]:=by
 have:=of_decide_eq_true h;subst this;rfl
theorem Zkx {n:Int} (hn:InK .i64 n):(dg n.natAbs).length<1000000:=by
 have:=(Zyb n).1 hn;have:=Z6j (n:=n.natAbs) (k:=20) (by omega);omega
theorem Ztp {m:Nat} (h:m≤100000000000000000000000000000000000000000):(dg m).length<1000000:=by
 have:=Z6j (n:=m) (k:=42) (by omega);omega
theorem Zp4 (G:Nat→V) (hG:GOk G) (a b:Int) (ha:InK .i64 a) (hb:InK .i64 b):Spec Tryz.prog G 102 [.int .i64 a,.int .i64 b] Zp (fun v _=>v=Zwh (told (a+b))):=by
 have ha':=(Zyb a).1 ha;have hb':=(Zyb b).1 hb;refine Zo 0 14 [.tmp 4,.tmp 5] Tryz.func102 fun X=>?_;refine Z1 ?_;refine Z1 ?_;refine Zn hG ?_ (s:=(Z8d G hG a ha));simp -implicitDefEqProofs only[go_sem,seval,↓reduceIte,Zfa];refine Zn hG ?_ (s:=(Z8d G hG b hb));simp -implicitDefEqProofs only[go_sem,seval,↓reduceIte,Zfa];refine CallA.pure hG (by kernel_rfl) ?_;refine Zs ?_;rw [← Zfa,← Zfa];refine (Zbs G hG _ _ _ _ _ _ _ _ Zki Zki (Zkx ha) (Zkx hb)).mono ?_;rintro _ _ ⟨nl,m,below,rfl,hnl,hm,hml⟩;rw [Z26,Z26] at hm;simp -implicitDefEqProofs only[go_sem,seval,↓reduceIte,Zfa];refine CallA.pure hG (by kernel_rfl) ?_;refine Zs ?_;rw [← Zfa];refine (Zoe G hG _ _ _ _ hnl (Zpd _) (Ztp (by omega))).mono ?_;rintro _ _ rfl;rw [Z4c,hm];simp -implicitDefEqProofs only[go_sem,seval,↓reduceIte,Zwh];exact Zr
theorem Zi4 (G:Nat→V) (hG:GOk G) (a b:Int) (ha:InK .i64 a) (hb:InK .i64 b):Spec Tryz.prog G 103 [.int .i64 a,.int .i64 b] Zp (fun v _=>v=Zwh (told (a-b))):=by
 have ha':=(Zyb a).1 ha;have hb':=(Zyb b).1 hb;refine Zo 0 15 [.tmp 4,.tmp 5] Tryz.func103 fun X=>?_;refine Z1 ?_;refine Z1 ?_;refine Zn hG ?_ (s:=(Z8d G hG a ha));simp -implicitDefEqProofs only[go_sem,seval,↓reduceIte,Zfa];refine Zn hG ?_ (s:=(Z8d G hG b hb));simp -implicitDefEqProofs only[go_sem,seval,↓reduceIte,Zfa];refine CallA.pure hG (by kernel_rfl) ?_;refine Zs ?_;rw [← Zfa];refine (Zep G hG _ _ _ _).mono ?_;rintro _ _ rfl;simp -implicitDefEqProofs only[go_sem,seval,↓reduceIte,Zfa];refine CallA.pure hG (by kernel_rfl) ?_;refine Zs ?_;rw [← Zfa,← Zfa];refine (Zbs G hG _ _ _ _ _ _ _ _ Zki Zki (Zkx ha) (Zkx hb)).mono ?_;rintro _ _ ⟨nl,m,below,rfl,hnl,hm,hml⟩
 have hneg:sgn (!decide (b<0)) b.natAbs = -b:=by unfold sgn;by_cases h:b<0<;>simp [h]<;>omega
 rw [Z26,hneg] at hm;simp -implicitDefEqProofs only[go_sem,seval,↓reduceIte,Zfa];refine CallA.pure hG (by kernel_rfl) ?_;refine Zs ?_;rw [← Zfa];refine (Zoe G hG _ _ _ _ hnl (Zpd _) (Ztp (by omega))).mono ?_;rintro _ _ rfl;rw [Z4c,hm,show a + -b=a-b by omega];simp -implicitDefEqProofs only[go_sem,seval,↓reduceIte,Zwh];exact Zr
theorem Zj4 (G:Nat→V) (hG:GOk G) (a:Int) (ha:InK .i64 a):Spec Tryz.prog G 72 [.int .i64 a] Zp (fun v _=>v=Zwh (told (-a))):=by
 have ha':=(Zyb a).1 ha;refine Zo 0 10 [.tmp 2,.tmp 3] Tryz.func72 fun X=>?_;refine Z1 ?_;refine Z1 ?_;refine Zn hG ?_ (s:=(Z8d G hG a ha));simp -implicitDefEqProofs only[go_sem,seval,↓reduceIte,Zfa];refine CallA.pure hG (by kernel_rfl) ?_;refine Zs ?_;rw [← Zfa];refine (Zep G hG _ _ _ _).mono ?_;rintro _ _ rfl
 have hneg:sgn (!decide (a<0)) a.natAbs = -a:=by unfold sgn;by_cases h:a<0<;>simp [h]<;>omega
 simp -implicitDefEqProofs only[go_sem,seval,↓reduceIte,Zfa];refine CallA.pure hG (by kernel_rfl) ?_;refine Zs ?_;rw [← Zfa];refine (Zoe G hG _ _ _ _ Zki (Zpd _) (Zkx ha)).mono ?_;rintro _ _ rfl;rw [Z4c,hneg];simp -implicitDefEqProofs only[go_sem,seval,↓reduceIte,Zwh];exact Zr
end Go.Hs
end

section
namespace Go.Hs
open Go.Proofs
set_option maxRecDepth 10000
theorem Z6o (k:Nat):Z8n k [V.int .i64 0]=(Z6d (List.replicate k 0)).map (V.int .i64):=by
 induction k with
 | zero=>rfl
 | succ k ih=>rw [Z8n,ih]<;>rfl
theorem Zzp (k:IntKind) (l:List Int):flat (l.map (V.int k))=l.map (V.int k):=by
 induction l with
 | nil=>rfl
 | cons x r ih =>
  rw [List.map_cons]
  show [V.int k x]++flat (r.map (V.int k))=_
  rw [ih]<;>rfl
theorem Ze7 (k:Nat) (la:List Nat):(Z8n k [V.int .i64 0]).take (k * 1)++flat ((Z6d la).map (V.int .i64))=flat ((Z6d (List.replicate k 0++la)).map (V.int .i64)):=by
 rw [Z6o,Zzp,Zzp,Zaf,List.map_append,Nat.mul_one,List.take_of_length_le (by simp)]
theorem Zh6:∀ (k:Nat) (l:List Nat),val (List.replicate k 0++l)=10 ^ k * val l
 | 0,l=>by simp
 | k+1,l=>by
  rw [List.replicate_succ,List.cons_append,val,Zh6 k l,Nat.pow_succ,Nat.zero_add,Nat.mul_comm (10 ^ k) 10,Nat.mul_assoc]
theorem dig_rep {k:Nat} {l:List Nat} (h:Dig l):Dig (List.replicate k 0++l):=Dig.app.2 ⟨fun d hd=>by have:=List.eq_of_mem_replicate hd;omega,h⟩
theorem Z9s {l:List Nat} {k:Nat} (h:k<l.length):val (l.take (k+1))=val (l.take k)+10 ^ k * l.getD k 0:=by
 rw [List.take_succ_eq_append_getElem h,Zgh,List.length_take,Nat.min_eq_left (by omega),List.getD_eq_getElem?_getD,List.getElem?_eq_getElem h];simp [val]
theorem Z1z (l:List Nat) (k:Nat):val (l.take k)≤val l:=by
 have:val l=val (l.take k)+10 ^ (l.take k).length * val (l.drop k):=by rw [← Zgh,List.take_append_drop]
 omega
theorem Zi0 (G:Nat→V) (hG:GOk G) (c1 c2:Col) (n1 n2 b1 b2:Bool) (a b:Nat) (h1:n1=true→dg a=[]) (h2:n2=true→dg b=[]) (ha:a≤10000000000000000000) (hb:b≤10000000000000000000) :
  Spec Tryz.prog G 137 [Zfa c1 n1 (dg a) b1,Zfa c2 n2 (dg b) b2] Zp (fun v _=>∃ nl,v=Zfa .any nl (dg (a * b)) (b1 != b2)∧(nl=true→dg (a * b)=[])):=by
 have hla:=Z6j (n:=a) (k:=20) (by omega);have hlb:=Z6j (n:=b) (k:=20) (by omega);have hab:a * b≤100000000000000000000000000000000000000:=Nat.mul_le_mul ha hb;have s1:=Zal h1;have s2:=Zal h2;refine Zo 0 41 [.cell 4 204] Tryz.func137 fun X=>?_;simp only [Zfa];refine Z1 ?_;intro g2 g3 g4;refine Z1 ?_;refine Z1 ?_;refine AW.block ?_
 refine Z6a (dg b).length (fun k (nl:Bool)=>st [(2,.ptr 2 g2 0),(3,.ptr 3 g3 0),(4,.ptr 4 g4 0),(5,Za .any 1 (V.int .i64) (slD nl (dg (a * val ((dg b).take k))))),(6,.int .i64 k)] [(2,.cells .new g2 0 [Za c1 1 (V.int .i64) (slD n1 (dg a)),.bool b1]),(3,.cells .new g3 0 [Za c2 1 (V.int .i64) (slD n2 (dg b)),.bool b2]),(4,.cells .new g4 0 [.nils,.bool false])]) (fun k nl=>nl=true→dg (a * val ((dg b).take k))=[]) 0 true (Nat.zero_le _) (fun _=>by simp [val,Z5f])
  (Ze (by simp -implicitDefEqProofs only[go_sem,seval,↓reduceIte];first | rfl | exact ⟨rfl,rfl⟩) zp) ?_
 intro k nl hk hR L2 hL2;refine Z1f (zi s2 @Zqd) ?_;refine Zd rfl (fun h4=>?_) (fun h4=>?_)
 ·have hk1:k<(dg b).length:=by have:=of_decide_eq_true h4;omega
  have gk:=Zid hk1;have h5:=Zqg (Zpd b) k;have hts:=Z9s hk1;have htl:=Z1z (dg b) (k+1);rw [Z4c] at htl;generalize hd:(dg b).getD k 0=d at gk h5 hts;obtain ⟨W,hW⟩:∃ W,W=a * val ((dg b).take k):=⟨_,rfl⟩;rw [← hW] at hR ⊢
  have hWd:W+d * (10 ^ k * a)=a * val ((dg b).take (k+1)):=by rw [hts,hW,Nat.mul_add,Nat.mul_comm (10 ^ k) d,Nat.mul_left_comm a d,Nat.mul_comm a (10 ^ k)]
  have hWl:W+d * (10 ^ k * a)≤a * b:=by rw [hWd];exact Nat.mul_le_mul_left a htl
  refine Z1 ?_;refine AW.block ?_
  refine Z6a d (fun t (nl:Bool)=>st [(2,.ptr 2 g2 0),(3,.ptr 3 g3 0),(4,.ptr 4 g4 0),(5,Za .any 1 (V.int .i64) (slD nl (dg (W+t * (10 ^ k * a))))),(6,.int .i64 k),(7,.int .i64 t)] [(2,.cells .new g2 0 [Za c1 1 (V.int .i64) (slD n1 (dg a)),.bool b1]),(3,.cells .new g3 0 [Za c2 1 (V.int .i64) (slD n2 (dg b)),.bool b2]),(4,.cells .new g4 0 [.nils,.bool false])]) (fun t nl=>nl=true→dg (W+t * (10 ^ k * a))=[]) 0 nl (Nat.zero_le _) (by rw [Nat.zero_mul,Nat.add_zero];exact hR)
   (Ze (zpf @Nat.zero_mul) zp) ?_
  intro t nl2 ht hR2 L6 hL6;refine Z1f (zi s2 gk) ?_;refine Zd rfl (fun h8=>?_) (fun h8=>?_)
  ·have ht1:t<d:=by have:=of_decide_eq_true h8;omega
   refine Z1 ?_;refine ⟨⟨by omega,by omega,by omega⟩,fun g26=>?_⟩;refine Z1f (zi s1 @Zqd) ?_;refine ⟨Zca (by omega) (by omega),by rw [Z6o];simp,by omega,fun g31=>?_⟩;rw [Ze7];have hmono:t * (10 ^ k * a)≤d * (10 ^ k * a):=Nat.mul_le_mul_right _ (by omega);have hlen:(dg (W+t * (10 ^ k * a))).length<1000000:=Ztp (by omega);have hrow:=dig_rep (k:=k) (Zpd a)
   have hrl:(List.replicate k 0++dg a).length<1000000:=by simp;omega
   have hrv:=Zh6 k (dg a);rw [Z4c] at hrv
   have hll:k+(dg a).length=(Z6d (List.replicate k 0++dg a)).length:=by simp
   rw [hll];generalize hrw:List.replicate k 0++dg a=row at hrow hrl hrv;refine Zfc (fun o=>o==26) [Za .any 1 (V.int .i64) (slD nl2 (dg (W+t * (10 ^ k * a)))),Za .new 1 (V.int .i64) (.mk false (Z6d row))] [(2,.cells .new g2 0 [Za c1 1 (V.int .i64) (slD n1 (dg a)),.bool b1]),(3,.cells .new g3 0 [Za c2 1 (V.int .i64) (slD n2 (dg b)),.bool b2]),(4,.cells .new g4 0 [.nils,.bool false])] ⟨Zb _,Ztg rfl rfl (fun _=>rfl),trivial⟩ ⟨FzO.keep rfl zp,FzO.keep rfl zp,FzO.keep rfl zp,trivial⟩ ?_;refine Zn hG ?_ (s:=(Z2w G hG _ _ _ _ (dg (W+t * (10 ^ k * a))) row (Zal hR2) rfl (Zpd _) hrow hlen hrl));rw [Z4c,hrv];refine Zs ?_;refine Z1 ?_
   have hnx:W+t * (10 ^ k * a)+10 ^ k * a=W+(t+1) * (10 ^ k * a):=by rw [Nat.succ_mul];omega
   refine hL6 _ ⟨ht1,decide (dg (W+t * (10 ^ k * a))=[]∧row=[]),fun h=>?_,Ze (by simp -implicitDefEqProofs only[go_sem,seval,↓reduceIte,hnx];exact congrArg _ (w64 (by omega) (by omega))) zp⟩;have h:=of_decide_eq_true h
   have hr0:10 ^ k * a=0:=by rw [← hrv,h.2]<;>rfl
   rw [← hnx,show W+t * (10 ^ k * a)+10 ^ k * a=W+t * (10 ^ k * a) by omega];exact h.1
  ·have ht1:t=d:=by have:=of_decide_eq_false h8;omega
   subst ht1;refine Z1 ?_;rw [hWd] at hR2 ⊢;refine hL2 _ ⟨hk1,nl2,hR2,Ze zw zp⟩
 ·have hk1:k=(dg b).length:=by have:=of_decide_eq_false h4;omega
  rw [hk1,List.take_length,Z4c] at hR ⊢;refine Z0 ?_
  have p1:Zbh Tryz.prog G 164 [Za .any 1 (V.int .i64) (slD nl (dg (a * b)))] (Za .any 1 (V.int .i64) (slD nl (dg (a * b)))):=⟨by kernel_rfl,by
   refine Zs ?_;refine (Zyg G hG _ nl (dg (a * b)) hR (by have:=Ztp (m:=a * b) (by omega);omega)).mono ?_;rintro _ _ rfl;rw [Zhh _ _ (Nat.le_refl _) (Zpd _),Z4c]
   simp -implicitDefEqProofs only[go_sem,seval,↓reduceIte]⟩
  refine Z2 <| Zv ⟨fun i=>if i=1 then Za .any 1 (V.int .i64) (slD nl (dg (a * b))) else .top,fun _ => .pure⟩ (by kernel_rfl) hG (by kernel_rfl) (by kernel_rfl) ?_
  refine Zs ?_;refine ⟨p1,?_⟩;refine Z ?_;exact ⟨nl,rfl,hR⟩
theorem Zk4 (G:Nat→V) (hG:GOk G) (a b:Int) (ha:InK .i64 a) (hb:InK .i64 b):Spec Tryz.prog G 99 [.int .i64 a,.int .i64 b] Zp (fun v _=>v=Zwh (told (a * b))):=by
 have ha':=(Zyb a).1 ha;have hb':=(Zyb b).1 hb;refine Zo 0 14 [.tmp 4,.tmp 5] Tryz.func99 fun X=>?_;refine Z1 ?_;refine Z1 ?_;refine Zn hG ?_ (s:=(Z8d G hG a ha));simp -implicitDefEqProofs only[go_sem,seval,↓reduceIte,Zfa];refine Zn hG ?_ (s:=(Z8d G hG b hb));simp -implicitDefEqProofs only[go_sem,seval,↓reduceIte,Zfa];refine CallA.pure hG (by kernel_rfl) ?_;refine Zs ?_;rw [← Zfa,← Zfa];refine (Zi0 G hG _ _ _ _ _ _ a.natAbs b.natAbs Zki Zki (by omega) (by omega)).mono ?_;rintro _ _ ⟨nl,rfl,hnl⟩
 have hm:sgn (decide (a<0) != decide (b<0)) (a.natAbs * b.natAbs)=a * b:=by
  rw [← Int.natAbs_mul];unfold sgn
  by_cases h4:a<0<;>by_cases h5:b<0<;>simp only [h4,h5,decide_true,decide_false,bne_self_eq_false,Zgq,Zhq,if_true,Bool.false_eq_true,if_false]
  ·have:=Int.mul_pos_of_neg_of_neg h4 h5;omega
  ·have:=Int.mul_nonpos_of_nonpos_of_nonneg (Int.le_of_lt h4) (Int.not_lt.1 h5);omega
  ·have:=Int.mul_nonpos_of_nonneg_of_nonpos (Int.not_lt.1 h4) (Int.le_of_lt h5);omega
  ·have:=Int.mul_nonneg (Int.not_lt.1 h4) (Int.not_lt.1 h5);omega
 have hlen:(dg (a.natAbs * b.natAbs)).length<1000000:=Ztp (by have:a.natAbs * b.natAbs≤10000000000000000000 * 10000000000000000000:=Nat.mul_le_mul (by omega) (by omega);omega);simp -implicitDefEqProofs only[go_sem,seval,↓reduceIte,Zfa];refine CallA.pure hG (by kernel_rfl) ?_;refine Zs ?_;rw [← Zfa];refine (Zoe G hG _ _ _ _ hnl (Zpd _) hlen).mono ?_;rintro _ _ rfl;rw [Z4c,hm];simp -implicitDefEqProofs only[go_sem,seval,↓reduceIte,Zwh];exact Zr
end Go.Hs
end

section
namespace Go.Hs
open Go.Proofs
set_option maxRecDepth 10000
structure PartI (a b:Nat) (l:List Nat) (k:Nat) (q:List Nat) (rest:Nat):Prop where
 len:q.length=l.length
 dig:Dig q
 zero:∀ j,j<l.length-k→q.getD j 0=0
 v:val (q.drop (l.length-k)) * b+rest=val (l.drop (l.length-k))
 lt:rest<b
theorem Z35 {a b:Nat} {l:List Nat} (hb:0<b):PartI a b l 0 (List.replicate l.length 0) 0:=by
 refine ⟨by simp,fun d hd=>by have:=List.eq_of_mem_replicate hd;omega,fun j hj=>by rw [List.getD_eq_getElem?_getD,List.getElem?_replicate];split<;>rfl,?_,hb⟩;rw [List.drop_eq_nil_of_le (by simp),List.drop_eq_nil_of_le (by omega)];simp [val]
theorem PartI.step {a b:Nat} {l:List Nat} {k:Nat} {q:List Nat} {rest:Nat} (h:PartI a b l k q rest) (hk:k<l.length) {t r:Nat} (ht:r+t * b=l.getD (l.length-1-k) 0+10 * rest) (hr:r<b) (hd:Dig l) :
  PartI a b l (k+1) (q.set (l.length-1-k) t) r:=by
 have hi:l.length-(k+1)=l.length-1-k:=by omega
 have hi2:l.length-k=l.length-1-k+1:=by omega
 have h9:=Zqg hd (l.length-1-k)
 have ht10:t<10:=by
  have h1:=h.lt
  rcases Nat.lt_or_ge t 10 with h2 | h2
  ·exact h2
  ·have:10 * b≤t * b:=Nat.mul_le_mul_right b h2
   omega
 refine ⟨by simp [h.len],?_,?_,?_,hr⟩
 ·intro d hd'
  rcases List.mem_or_eq_of_mem_set hd' with h1 | h1
  ·exact h.dig d h1
  ·omega
 ·intro j hj
  have:=h.zero j (by omega);rw [List.getD_eq_getElem?_getD,List.getElem?_set_ne (by omega),← List.getD_eq_getElem?_getD];exact this
 ·have hv:=h.v
  rw [hi2] at hv;rw [hi,Zfg (q.set _ t),Zfg l (l.length-1-k)]
  have e1:(q.set (l.length-1-k) t).getD (l.length-1-k) 0=t:=by
   rw [List.getD_eq_getElem?_getD,List.getElem?_set_self (by rw [h.len];omega)]
   try rfl
  have e2:(q.set (l.length-1-k) t).drop (l.length-1-k+1)=q.drop (l.length-1-k+1):=by
   rw [List.drop_set_of_lt (by omega)]
  rw [e1,e2,← hv,Nat.add_mul,Nat.mul_assoc];generalize val (q.drop (l.length-1-k+1)) * b=z at *;omega
theorem PartI.done {a b:Nat} {q:List Nat} {rest:Nat} (h:PartI a b (dg a) (dg a).length q rest):val q=a / b∧rest=a % b:=by
 have hv:=h.v;rw [Nat.sub_self,List.drop_zero,List.drop_zero,Z4c] at hv;have hlt:=h.lt
 have hdm:(val q * b+rest) / b=val q:=by
  rw [Nat.add_comm,Nat.add_mul_div_right _ _ (by omega),Nat.div_eq_of_lt hlt,Nat.zero_add]
 have hmm:(val q * b+rest) % b=rest:=by
  rw [Nat.add_comm,Nat.add_mul_mod_self_right,Nat.mod_eq_of_lt hlt]
 rw [hv] at hdm hmm;exact ⟨hdm.symm,hmm.symm⟩
theorem Zdp (G:Nat→V) (hG:GOk G) (c1 c2:Col) (n1 n2:Bool) (a b:Nat) (h1:n1=true→dg a=[]) (h2:n2=true→dg b=[]) (ha:a≤10000000000000000000) (hb:b≤10000000000000000000) (hb0:0<b) :
  Spec Tryz.prog G 138 [Za c1 1 (V.int .i64) (slD n1 (dg a)),Za c2 1 (V.int .i64) (slD n2 (dg b))] Zp (fun v _=>∃ nr,v = .tuple [Za .any 1 (V.int .i64) (slD false (dg (a / b))),Za .any 1 (V.int .i64) (slD nr (dg (a % b)))]∧(nr=true→dg (a % b)=[])):=by
 have hla:=Z6j (n:=a) (k:=20) (by omega);have hlb:=Z6j (n:=b) (k:=20) (by omega);have s1:=Zal h1;have s2:=Zal h2;refine Zo 0 45 [.tmp 4,.tmp 5] Tryz.func138 fun X=>?_;refine Z1 ?_;refine Z1f (zi s1 @Zqd) ?_;refine ⟨⟨by omega,by omega,by omega⟩,fun g12=>?_⟩;rw [Z6o];refine Z1 ?_;refine Z1f (zi s1 @Zqd) ?_;refine AW.block ?_
 refine Z6a (dg a).length (fun k (x:(Nat × Bool) × List Nat × Nat)=>st [(0,Za c1 1 (V.int .i64) (slD n1 (dg a))),(1,Za c2 1 (V.int .i64) (slD n2 (dg b))),(6,.msl 12 x.1.1 0 (dg a).length 1),(7,Za .any 1 (V.int .i64) (slD x.1.2 (dg x.2.2))),(8,.int .i64 (((dg a).length:Int)-1-k))] [(12,.cells .new x.1.1 0 ((Z6d x.2.1).map (V.int .i64)))])
  (fun k x=>PartI a b (dg a) k x.2.1 x.2.2∧(x.1.2=true→dg x.2.2=[])) 0 ((g12,true),List.replicate (dg a).length 0,0) (Nat.zero_le _) ⟨Z35 hb0,fun _=>rfl⟩
  (Ze (by simp -implicitDefEqProofs only[go_sem,seval,↓reduceIte];exact ⟨rfl,congrArg _ (by rw [w64 (by omega) (by omega)];omega)⟩) zp) ?_
 rintro k ⟨⟨gq,nr⟩,q,rest⟩ hk ⟨hI,hnr⟩ L2 hL2;have hI:PartI a b (dg a) k q rest:=hI;have hnr:nr=true→dg rest=[]:=hnr;have hql:=hI.len;have hrl:=hI.lt;refine Z1 ?_;refine Zd rfl (fun h4=>?_) (fun h4=>?_)
 ·have hk1:k<(dg a).length:=by have:=of_decide_eq_true h4;omega
  refine Z0 ?_;obtain ⟨i,hi⟩:∃ i,i=(dg a).length-1-k:=⟨_,rfl⟩
  have e0:(((dg a).length:Int)-1-k)=(i:Int):=by omega
  have gi:=Zid (l:=dg a) (k:=i) (by omega);have h5:=Zqg (Zpd a) i;have hstep:=fun t r=>hI.step hk1 (t:=t) (r:=r);rw [← hi] at hstep;rw [e0];generalize hd:(dg a).getD i 0=d at gi h5 hstep;refine Z1f (zi s1 gi) ?_;intro g24;have s3:=Zal hnr;have hrd:=Z6j (n:=rest) (k:=20) (by omega);refine Z1f (zi s3 @Zqd) ?_;refine ⟨Zca (by omega) (by omega),fun g27=>?_⟩;rw [show V.int .i64 (d:Int)::flat ((Z6d (dg rest)).map (V.int .i64))=flat ((Z6d (d::dg rest)).map (V.int .i64)) from rfl,show 1+(dg rest).length=(Z6d (d::dg rest)).length by simp;omega];refine Zfc (fun o=>o==24) [Za .new 1 (V.int .i64) (.mk false (Z6d (d::dg rest)))] [(12,.cells .new gq 0 ((Z6d q).map (V.int .i64)))] ⟨Ztg rfl rfl (fun _=>rfl),trivial⟩ ⟨FzO.keep rfl zp,trivial⟩ ?_;refine Zn hG ?_ (s:=(Zyg G hG _ false (d::dg rest) (by simp) (by simp;omega)));rw [Zhh _ _ (Nat.le_refl _) (by intro x hx;rcases List.mem_cons.1 hx with rfl | hx;exact h5;exact Zpd _ x hx),val,Z4c];refine Zs ?_
  have hqi:i<q.length:=by omega
  have hq0:q.set i 0=q:=by
   have h0:=hI.zero i (by omega);rw [List.getD_eq_getElem?_getD,List.getElem?_eq_getElem hqi] at h0;have h0:q[i]=0:=h0
   conv=>rhs;rw [← List.set_getElem_self hqi,h0]
  refine AW.block ?_
  refine Zhc (fun (x:(Nat × Bool) × Nat × Nat)=>st [(0,Za c1 1 (V.int .i64) (slD n1 (dg a))),(1,Za c2 1 (V.int .i64) (slD n2 (dg b))),(6,.msl 12 x.1.1 0 (dg a).length 1),(7,Za .any 1 (V.int .i64) (slD x.1.2 (dg x.2.2))),(8,.int .i64 i)] [(12,.cells .new x.1.1 0 ((Z6d (q.set i x.2.1)).map (V.int .i64)))])
   (fun x=>x.2.2+x.2.1 * b=d+10 * rest∧(x.1.2=true→dg x.2.2=[])) (fun x=>x.2.2) ((gq,false),0,d+10 * rest) ⟨by show d+10 * rest+0 * b=_;omega,by simp⟩
   (Ze zp (zpf hq0)) ?_
  rintro ⟨⟨gq2,nr2⟩,t,r⟩ ⟨ht,hnr2⟩ L6 hL6;have ht:r+t * b=d+10 * rest:=ht;have hnr2:nr2=true→dg r=[]:=hnr2;have hrr:=Z6j (n:=r) (k:=21) (by omega);refine Z1 ?_;refine Zc hG ?_ (s:=(Zcs G hG _ _ _ _ r b (Zal hnr2) s2 (by omega) (by omega)));refine Zd rfl (fun h7=>?_) (fun h7=>?_)
  ·have h7':b≤r:=by simpa using h7
   refine Z1 ?_;refine CallA.pure hG (by kernel_rfl) ((Zuo G hG _ _ _ _ r b hnr2 h2 (by omega) h7').2.mono ?_);rintro v _ hv;rw [hv];refine Zs ?_
   have gc:((Z6d (q.set i t)).map (V.int .i64))[i]? = some (V.int .i64 (t:Int)):=by
    rw [List.getElem?_map,Zdo,List.getElem?_set_self hqi]
    try rfl
   have hil:(i:Int)<((dg a).length:Int):=by omega
   have hcl:i+1≤((Z6d (q.set i t)).map (V.int .i64)).length:=by simp;omega
   have ht9:t<10:=by
    rcases Nat.lt_or_ge t 10 with h | h
    ·exact h
    ·have:10 * b≤t * b:=Nat.mul_le_mul_right b h
     omega
   have hw:IntKind.i64.wrap ((t:Int)+1)=((t+1:Nat):Int):=by rw [w64 (by omega) (by omega)];omega
   have hset:((Z6d (q.set i t)).map (V.int .i64)).set i (V.int .i64 ((t+1:Nat):Int))=(Z6d (q.set i (t+1))).map (V.int .i64):=by
    rw [Z6d,Z6d,List.map_map,List.map_map,List.map_set,List.map_set,List.set_set]
    try rfl
   refine Z1f (zi gc (zi hil (zi @Nat.mul_one (zi hcl (zi hw hset))))) ?_;refine hL6 _ ⟨((gq2,decide (dg r=[])),t+1,r-b),by show r-b<r;omega,⟨?_,?_⟩,Ze zp zp⟩
   ·show r-b+(t+1) * b=d+10 * rest
    rw [Nat.succ_mul];omega
   ·intro h
    have h:=of_decide_eq_true h;rw [Zb5] at h;omega
  ·have h7':r<b:=by simpa using h7
   refine Z1 ?_;refine hL2 _ ⟨hk1,((gq2,nr2),q.set i t,r),⟨hstep t r ht h7' (Zpd a),hnr2⟩,Ze (by simp -implicitDefEqProofs only[go_sem,seval,↓reduceIte];exact congrArg _ (by rw [w64 (by omega) (by omega)];omega)) zp⟩
 ·have hk1:k=(dg a).length:=by have:=of_decide_eq_false h4;omega
  subst hk1;obtain ⟨hq1,hr1⟩:=hI.done;have hqd:=hI.dig;subst hr1;refine Z1 ?_;rw [show (dg a).length=(Z6d q).length by simp [hql]];refine Zfc (fun o=>o==12) [Za .new 1 (V.int .i64) (.mk false (Z6d q))] [] ⟨Ztg (fz:=0) (c := .new) (f:=V.int .i64) rfl (zpf @Zzp) (fun _=>rfl),trivial⟩ trivial ?_;refine Zn hG ?_ (s:=(Zyg G hG _ false q (by simp) (by omega)));rw [Zhh _ _ (Nat.le_refl _) hqd,hq1];refine Zs ?_;refine Z ?_;exact ⟨nr,rfl,hnr⟩
end Go.Hs
end

section
namespace Go.Hs
open Go.Proofs
set_option maxRecDepth 10000
theorem Zo4 (G:Nat→V) (hG:GOk G) (a b:Int) (ha:InK .i64 a) (hb:InK .i64 b):Spec Tryz.prog G 100 [.int .i64 a,.int .i64 b] Zp (fun v _=>v=Zwh (divR a b)):=by
 have ha':=(Zyb a).1 ha;have hb':=(Zyb b).1 hb;refine Zo 0 30 [.tmp 4,.tmp 5] Tryz.func100 fun X=>?_;refine Z1 ?_;refine Z1 ?_;refine Zd rfl (fun h2=>?_) (fun h2=>?_)
 ·have h3:b=0:=by simpa using h2
  refine Z ?_;rw [divR,if_pos h3]
  try rfl
 ·have h3:¬ b=0:=by simpa using h2
  refine Z1 ?_;refine Zn hG ?_ (s:=(Z8d G hG a ha));simp -implicitDefEqProofs only[go_sem,seval,↓reduceIte,Zfa];refine Zn hG ?_ (s:=(Z8d G hG b hb));simp -implicitDefEqProofs only[go_sem,seval,↓reduceIte,Zfa];refine CallA.pure hG (by kernel_rfl) ?_;refine Zs ?_;refine (Zdp G hG _ _ _ _ a.natAbs b.natAbs Zki Zki (by omega) (by omega) (by omega)).mono ?_;rintro _ _ ⟨nr,rfl,hnr⟩;refine Zs ?_;refine Z1 ?_;have hq:a.natAbs / b.natAbs≤a.natAbs:=Nat.div_le_self _ _;refine CallA.pure hG (by kernel_rfl) ?_;refine Zs ?_;rw [← Zfa];refine (Zoe G hG _ _ _ _ (show false=true→dg (a.natAbs / b.natAbs)=[] from fun h=>by cases h) (Zpd _) (Ztp (m:=a.natAbs / b.natAbs) (by omega))).mono ?_;rintro _ _ rfl
  have hm:sgn (decide (a<0) != decide (b<0)) (a.natAbs / b.natAbs)=a.tdiv b:=by rw [Z1n]<;>rfl
  rw [Z4c,hm];simp -implicitDefEqProofs only[go_sem,seval,↓reduceIte,Zwh];refine Z ?_;rw [divR,if_neg h3]
  try rfl
theorem Zl4 (G:Nat→V) (hG:GOk G) (a b:Int) (ha:InK .i64 a) (hb:InK .i64 b):Spec Tryz.prog G 101 [.int .i64 a,.int .i64 b] Zp (fun v _=>v=Zwh (modR a b)):=by
 have ha':=(Zyb a).1 ha;have hb':=(Zyb b).1 hb;refine Zo 0 27 [.tmp 4,.tmp 5] Tryz.func101 fun X=>?_;refine Z1 ?_;refine Z1 ?_;refine Zd rfl (fun h2=>?_) (fun h2=>?_)
 ·have h3:b=0:=by simpa using h2
  refine Z ?_;rw [modR,if_pos h3]
  try rfl
 ·have h3:¬ b=0:=by simpa using h2
  refine Z1 ?_;refine Zn hG ?_ (s:=(Z8d G hG a ha));simp -implicitDefEqProofs only[go_sem,seval,↓reduceIte,Zfa];refine Zn hG ?_ (s:=(Z8d G hG b hb));simp -implicitDefEqProofs only[go_sem,seval,↓reduceIte,Zfa];refine CallA.pure hG (by kernel_rfl) ?_;refine Zs ?_;refine (Zdp G hG _ _ _ _ a.natAbs b.natAbs Zki Zki (by omega) (by omega) (by omega)).mono ?_;rintro _ _ ⟨nr,rfl,hnr⟩;refine Zs ?_;refine Z1 ?_;have hq:a.natAbs % b.natAbs≤a.natAbs:=Nat.mod_le _ _;refine CallA.pure hG (by kernel_rfl) ?_;refine Zs ?_;rw [← Zfa];refine (Zoe G hG _ _ _ _ hnr (Zpd _) (Ztp (m:=a.natAbs % b.natAbs) (by omega))).mono ?_;rintro _ _ rfl
  have hm:sgn (decide (a<0)) (a.natAbs % b.natAbs)=a.tmod b:=by rw [Zbt]<;>rfl
  rw [Z4c,hm];simp -implicitDefEqProofs only[go_sem,seval,↓reduceIte,Zwh];refine Z ?_;rw [modR,if_neg h3]
  try rfl
end Go.Hs
end

section
namespace Go.Hs
open Go.Proofs
set_option maxRecDepth 10000
set_option maxHeartbeats 1000000
def Z3p (r:EV):V := .tuple [.int .i64 r.nm,.int .i64 r.er]
def Z5t (r:EV):V := .tuple [.bool r.tr,.int .i64 r.er]
theorem Zsc (G:Nat→V) (n e:Int):Spec Tryz.prog G 70 [.int .i64 n,.int .i64 e] Zp (fun v _=>v=Zpb (.ofR (n,e))):=by
 refine Zo 0 12 [.cell 4 43,.tmp 5] Tryz.func70 fun X=>?_
 by_cases h:e=0
 ·subst h
  refine Z1 ?_;intro g4;exact Zr
 ·have h1:(e != 0)=true:=by simpa using h
  have h2:EV.ofR (n,e) = .err e:=if_neg h;refine Z1 ?_;intro g4;refine Zf h1 ?_;rw [h2]
  try rfl
theorem Zqa (G:Nat→V) (b:Bool) (e:Int):Spec Tryz.prog G 71 [.bool b,.int .i64 e] Zp (fun v _=>v=Zpb (if e=0 then .tru b else .err e)):=by
 refine Zo 0 12 [.cell 4 43,.tmp 5] Tryz.func71 fun X=>?_
 by_cases h:e=0
 ·subst h
  refine Z1 ?_;intro g4;exact Zr
 ·have h1:(e != 0)=true:=by simpa using h
  rw [if_neg h];refine Z1 ?_;intro g4;exact Zq h1
def Z8c (c1 c2:Col) (sl:Sl XN) (env:Sl (List UInt8 × Int)):V := .agg [Za c1 6 Z6 sl,Za c2 2 Zj env]
def RC (G:Nat→V) (sl:Sl XN) (env:Sl (List UInt8 × Int)) (a:Int) (x:EV):Prop:=∀ c1 c2,Spec Tryz.prog G 46 [Z8c c1 c2 sl env,.int .i64 a] Zp (fun v _=>v=Zpb x)
theorem Zrd {x:EV} (h:x.fine) {e:Int} (hx:x = .err e):e≠0:=by
 subst hx
 rcases h with h | h | h<;>omega
theorem Zao (G:Nat→V) (hG:GOk G) (c1 c2:Col) (sl:Sl XN) (env:Sl (List UInt8 × Int)) (a:Int) (x:EV) (h:RC G sl env a x) (hf:x.fine):Spec Tryz.prog G 47 [Z8c c1 c2 sl env,.int .i64 a] Zp (fun v _=>v=Z3p (x.need 1)):=by
 refine Zo 0 24 [.tmp 4,.tmp 5] Tryz.func47 fun X=>?_;refine Zwa (by kernel_rfl) ?_;simp -implicitDefEqProofs only[go_sem,seval,↓reduceIte,Z8c];intro g2;refine Zwa (by kernel_rfl) ?_;simp -implicitDefEqProofs only[go_sem,seval,↓reduceIte,Z8c];refine CallA.pure hG (by kernel_rfl) ?_;simp -implicitDefEqProofs only[go_sem,seval,↓reduceIte,Zl,Z8c];refine (h c1.ent c2.ent).mono ?_;rintro _ _ rfl;simp -implicitDefEqProofs only[go_sem,seval,↓reduceIte,Zpb,Z7a];intro g6
 cases x with
 | err e =>
  have he:(e==0)=false:=by simpa using Zrd hf rfl
  repeat first
   | (refine Zwa (by kernel_rfl) ?_;simp -implicitDefEqProofs only[go_sem,seval,↓reduceIte,he,EV.er,EV.nm,EV.kind])
   | (refine AW.region (by kernel_rfl) ?_;simp -implicitDefEqProofs only[go_sem,seval,↓reduceIte,he,EV.er,EV.nm,EV.kind])
   | refine Z2 ?_
   | refine AW.block ?_
   | refine Zrc rfl ?_
   | refine Z9a rfl ?_
   | (refine AW.skip ?_;simp -implicitDefEqProofs only[go_sem,seval,↓reduceIte,he,EV.er,EV.nm,EV.kind])
   | (refine AW.exit ?_;simp -implicitDefEqProofs only[go_sem,seval,↓reduceIte,he,EV.er,EV.nm,EV.kind])
   | (refine AW.ret ?_;simp -implicitDefEqProofs only[go_sem,seval,↓reduceIte,he,EV.er,EV.nm,EV.kind];refine Z9 ?_)
  rfl
 | num n =>
  repeat first
   | (refine Zwa (by kernel_rfl) ?_;simp -implicitDefEqProofs only[go_sem,seval,↓reduceIte,EV.er,EV.nm,EV.kind])
   | (refine AW.region (by kernel_rfl) ?_;simp -implicitDefEqProofs only[go_sem,seval,↓reduceIte,EV.er,EV.nm,EV.kind])
   | refine Z2 ?_
   | refine AW.block ?_
   | refine Zrc rfl ?_
   | refine Z9a rfl ?_
   | (refine AW.skip ?_;simp -implicitDefEqProofs only[go_sem,seval,↓reduceIte,EV.er,EV.nm,EV.kind])
   | (refine AW.exit ?_;simp -implicitDefEqProofs only[go_sem,seval,↓reduceIte,EV.er,EV.nm,EV.kind])
   | (refine AW.ret ?_;simp -implicitDefEqProofs only[go_sem,seval,↓reduceIte,EV.er,EV.nm,EV.kind];refine Z9 ?_)
  rfl
 | tru b =>
  repeat first
   | (refine Zwa (by kernel_rfl) ?_;simp -implicitDefEqProofs only[go_sem,seval,↓reduceIte,EV.er,EV.nm,EV.kind])
   | (refine AW.region (by kernel_rfl) ?_;simp -implicitDefEqProofs only[go_sem,seval,↓reduceIte,EV.er,EV.nm,EV.kind])
   | refine Z2 ?_
   | refine AW.block ?_
   | refine Zrc rfl ?_
   | refine Z9a rfl ?_
   | (refine AW.skip ?_;simp -implicitDefEqProofs only[go_sem,seval,↓reduceIte,EV.er,EV.nm,EV.kind])
   | (refine AW.exit ?_;simp -implicitDefEqProofs only[go_sem,seval,↓reduceIte,EV.er,EV.nm,EV.kind])
   | (refine AW.ret ?_;simp -implicitDefEqProofs only[go_sem,seval,↓reduceIte,EV.er,EV.nm,EV.kind];refine Z9 ?_)
  rfl
theorem Zci (G:Nat→V) (hG:GOk G) (c1 c2:Col) (sl:Sl XN) (env:Sl (List UInt8 × Int)) (a:Int) (x:EV) (h:RC G sl env a x) (hf:x.fine):Spec Tryz.prog G 48 [Z8c c1 c2 sl env,.int .i64 a] Zp (fun v _=>v=Z5t (x.need 2)):=by
 refine Zo 0 24 [.tmp 4,.tmp 5] Tryz.func48 fun X=>?_;refine Zwa (by kernel_rfl) ?_;simp -implicitDefEqProofs only[go_sem,seval,↓reduceIte,Z8c];intro g2;refine Zwa (by kernel_rfl) ?_;simp -implicitDefEqProofs only[go_sem,seval,↓reduceIte,Z8c];refine CallA.pure hG (by kernel_rfl) ?_;simp -implicitDefEqProofs only[go_sem,seval,↓reduceIte,Zl,Z8c];refine (h c1.ent c2.ent).mono ?_;rintro _ _ rfl;simp -implicitDefEqProofs only[go_sem,seval,↓reduceIte,Zpb,Z7a];intro g6
 cases x with
 | err e =>
  have he:(e==0)=false:=by simpa using Zrd hf rfl
  repeat first
   | (refine Zwa (by kernel_rfl) ?_;simp -implicitDefEqProofs only[go_sem,seval,↓reduceIte,he,EV.er,EV.nm,EV.kind])
   | (refine AW.region (by kernel_rfl) ?_;simp -implicitDefEqProofs only[go_sem,seval,↓reduceIte,he,EV.er,EV.nm,EV.kind])
   | refine Z2 ?_
   | refine AW.block ?_
   | refine Zrc rfl ?_
   | refine Z9a rfl ?_
   | (refine AW.skip ?_;simp -implicitDefEqProofs only[go_sem,seval,↓reduceIte,he,EV.er,EV.nm,EV.kind])
   | (refine AW.exit ?_;simp -implicitDefEqProofs only[go_sem,seval,↓reduceIte,he,EV.er,EV.nm,EV.kind])
   | (refine AW.ret ?_;simp -implicitDefEqProofs only[go_sem,seval,↓reduceIte,he,EV.er,EV.nm,EV.kind];refine Z9 ?_)
  rfl
 | num n =>
  repeat first
   | (refine Zwa (by kernel_rfl) ?_;simp -implicitDefEqProofs only[go_sem,seval,↓reduceIte,EV.er,EV.nm,EV.kind])
   | (refine AW.region (by kernel_rfl) ?_;simp -implicitDefEqProofs only[go_sem,seval,↓reduceIte,EV.er,EV.nm,EV.kind])
   | refine Z2 ?_
   | refine AW.block ?_
   | refine Zrc rfl ?_
   | refine Z9a rfl ?_
   | (refine AW.skip ?_;simp -implicitDefEqProofs only[go_sem,seval,↓reduceIte,EV.er,EV.nm,EV.kind])
   | (refine AW.exit ?_;simp -implicitDefEqProofs only[go_sem,seval,↓reduceIte,EV.er,EV.nm,EV.kind])
   | (refine AW.ret ?_;simp -implicitDefEqProofs only[go_sem,seval,↓reduceIte,EV.er,EV.nm,EV.kind];refine Z9 ?_)
  rfl
 | tru b =>
  repeat first
   | (refine Zwa (by kernel_rfl) ?_;simp -implicitDefEqProofs only[go_sem,seval,↓reduceIte,EV.er,EV.nm,EV.kind])
   | (refine AW.region (by kernel_rfl) ?_;simp -implicitDefEqProofs only[go_sem,seval,↓reduceIte,EV.er,EV.nm,EV.kind])
   | refine Z2 ?_
   | refine AW.block ?_
   | refine Zrc rfl ?_
   | refine Z9a rfl ?_
   | (refine AW.skip ?_;simp -implicitDefEqProofs only[go_sem,seval,↓reduceIte,EV.er,EV.nm,EV.kind])
   | (refine AW.exit ?_;simp -implicitDefEqProofs only[go_sem,seval,↓reduceIte,EV.er,EV.nm,EV.kind])
   | (refine AW.ret ?_;simp -implicitDefEqProofs only[go_sem,seval,↓reduceIte,EV.er,EV.nm,EV.kind];refine Z9 ?_)
  rfl
end Go.Hs
end

section
namespace Go.Hs
open Go.Proofs
set_option maxRecDepth 10000
set_option maxHeartbeats 1000000
theorem two10 (G:Nat→V) (hG:GOk G) (c1 c2:Col) (sl:Sl XN) (env:Sl (List UInt8 × Int)) (n:XN) (A B:EV) (ho:7≤n.op∧n.op≤15) (hA:RC G sl env n.a A) (hB:RC G sl env n.b B) (fA:A.fine) (fB:B.fine) :
  Spec Tryz.prog G 73 [Z8c c1 c2 sl env,Z6 n] Zp (fun v _=>v=Zpb (Zeg n.op A B)):=by
 obtain ⟨op,num,name,na,nb,nc⟩:=n;simp only at ho hA hB ⊢;refine Zo 0 113 [.cell 4 43,.tmp 5] Tryz.func73 fun X=>?_;refine Zwa (by kernel_rfl) ?_;simp -implicitDefEqProofs only[go_sem,seval,↓reduceIte,Z8c,Zg];intro g2 g3 g4;refine Z ?_;refine CallA.pure hG (by kernel_rfl) ?_;simp -implicitDefEqProofs only[go_sem,seval,↓reduceIte,Zl,Zx,Z8c,Zg];refine (Zao G hG c1.ent c2.ent sl env na A hA fA).mono ?_;rintro _ _ rfl;simp -implicitDefEqProofs only[go_sem,seval,↓reduceIte,Z3p]
 have hE:∀ e,A.need 1 = .err e→Zeg op A B = .err e:=by
  intro e he;unfold Zeg
  by_cases h11:op≤11
  ·rw [if_pos h11];exact Znd _ he
  ·rw [if_neg h11,if_pos ho.2];exact Znd _ he
 by_cases hAe:∃ e,A.need 1 = .err e
 ·obtain ⟨e,he⟩:=hAe
  have h0:(e != 0)=true:=by
   cases A with
   | err e'=>cases he;simpa using Zrd fA rfl
   | num a=>cases he
   | tru a=>cases he;rfl
  rw [hE e he,he]
  repeat first
   | (refine Zwa (by kernel_rfl) ?_;simp -implicitDefEqProofs only[go_sem,seval,↓reduceIte,h0,EV.er,EV.nm])
   | (refine AW.region (by kernel_rfl) ?_;simp -implicitDefEqProofs only[go_sem,seval,↓reduceIte,h0,EV.er,EV.nm])
   | refine Z2 ?_
   | refine AW.block ?_
   | refine Zrc rfl ?_
   | refine Z9a rfl ?_
   | (refine AW.skip ?_;simp -implicitDefEqProofs only[go_sem,seval,↓reduceIte,h0,EV.er,EV.nm])
   | (refine AW.exit ?_;simp -implicitDefEqProofs only[go_sem,seval,↓reduceIte,h0,EV.er,EV.nm])
   | (refine AW.ret ?_;simp -implicitDefEqProofs only[go_sem,seval,↓reduceIte,h0,EV.er,EV.nm];refine Z9 ?_)
  rfl
 obtain ⟨a,rfl⟩:=Zlg fun e he=>hAe ⟨e,he⟩
 try clear hE hAe
 rw [Zze];simp -implicitDefEqProofs only[go_sem,seval,↓reduceIte,EV.er,EV.nm];refine Z ?_;refine CallA.pure hG (by kernel_rfl) ?_;simp -implicitDefEqProofs only[go_sem,seval,↓reduceIte,Zl,Zx,Z8c,Zg];refine (Zao G hG c1.ent c2.ent sl env nb B hB fB).mono ?_;rintro _ _ rfl;simp -implicitDefEqProofs only[go_sem,seval,↓reduceIte,Z3p]
 have hE:∀ e,B.need 1 = .err e→Zeg op (.num a) B = .err e:=by
  intro e he;unfold Zeg
  by_cases h11:op≤11
  ·rw [if_pos h11];exact Znd (x:=B) (fun b => .ofR (Zkq op a b)) he
  ·rw [if_neg h11,if_pos ho.2];exact Znd (x:=B) (fun b => .tru (cmpV op a b)) he
 by_cases hBe:∃ e,B.need 1 = .err e
 ·obtain ⟨e,he⟩:=hBe
  have h0:(e != 0)=true:=by
   cases B with
   | err e'=>cases he;simpa using Zrd fB rfl
   | num a=>cases he
   | tru a=>cases he;rfl
  rw [hE e he,he]
  repeat first
   | (refine Zwa (by kernel_rfl) ?_;simp -implicitDefEqProofs only[go_sem,seval,↓reduceIte,h0,EV.er,EV.nm])
   | (refine AW.region (by kernel_rfl) ?_;simp -implicitDefEqProofs only[go_sem,seval,↓reduceIte,h0,EV.er,EV.nm])
   | refine Z2 ?_
   | refine AW.block ?_
   | refine Zrc rfl ?_
   | refine Z9a rfl ?_
   | (refine AW.skip ?_;simp -implicitDefEqProofs only[go_sem,seval,↓reduceIte,h0,EV.er,EV.nm])
   | (refine AW.exit ?_;simp -implicitDefEqProofs only[go_sem,seval,↓reduceIte,h0,EV.er,EV.nm])
   | (refine AW.ret ?_;simp -implicitDefEqProofs only[go_sem,seval,↓reduceIte,h0,EV.er,EV.nm];refine Z9 ?_)
  rfl
 obtain ⟨b,rfl⟩:=Zlg fun e he=>hBe ⟨e,he⟩
 try clear hE hBe hA hB
 rw [Zze];simp -implicitDefEqProofs only[go_sem,seval,↓reduceIte,EV.er,EV.nm];refine AW.weak (Ze (l:=[(3,.ptr 3 g3 0),(4,.ptr 4 g4 0),(6,.int .i64 a),(8,.int .i64 b),(7,.int .i64 0)]) (m:=[(3,.cells .new g3 0 [.int .u8 op,.int .i64 num,.str name,.int .i64 na,.int .i64 nb,.int .i64 nc]),(4,.cells .new g4 0 [.int .u8 0,.int .i64 0,.bool false])]) zp zp) ?_
 obtain rfl | rfl | rfl | rfl | rfl | rfl | rfl | rfl | rfl:op=7∨op=8∨op=9∨op=10∨op=11∨op=12∨op=13∨op=14∨op=15:=by omega
 ·refine Z ?_
  refine CallA.pure hG (by kernel_rfl) ?_;simp -implicitDefEqProofs only[go_sem,seval,↓reduceIte,Zl,Zx,Z8c,Zg];refine (Zk4 G hG a b (Zfb fA) (Zfb fB)).mono ?_;rintro _ _ rfl;simp -implicitDefEqProofs only[go_sem,seval,↓reduceIte,Zwh];refine CallA.pure hG (by kernel_rfl) ?_;simp -implicitDefEqProofs only[go_sem,seval,↓reduceIte,Zl,Zx,Z8c,Zg];refine (Zsc G _ _).mono ?_;rintro _ _ rfl;simp -implicitDefEqProofs only[go_sem,seval,↓reduceIte,Zpb,Z7a];exact Zr
 ·refine Z ?_
  refine CallA.pure hG (by kernel_rfl) ?_;simp -implicitDefEqProofs only[go_sem,seval,↓reduceIte,Zl,Zx,Z8c,Zg];refine (Zo4 G hG a b (Zfb fA) (Zfb fB)).mono ?_;rintro _ _ rfl;simp -implicitDefEqProofs only[go_sem,seval,↓reduceIte,Zwh];refine CallA.pure hG (by kernel_rfl) ?_;simp -implicitDefEqProofs only[go_sem,seval,↓reduceIte,Zl,Zx,Z8c,Zg];refine (Zsc G _ _).mono ?_;rintro _ _ rfl;simp -implicitDefEqProofs only[go_sem,seval,↓reduceIte,Zpb,Z7a];exact Zr
 ·refine Z ?_
  refine CallA.pure hG (by kernel_rfl) ?_;simp -implicitDefEqProofs only[go_sem,seval,↓reduceIte,Zl,Zx,Z8c,Zg];refine (Zl4 G hG a b (Zfb fA) (Zfb fB)).mono ?_;rintro _ _ rfl;simp -implicitDefEqProofs only[go_sem,seval,↓reduceIte,Zwh];refine CallA.pure hG (by kernel_rfl) ?_;simp -implicitDefEqProofs only[go_sem,seval,↓reduceIte,Zl,Zx,Z8c,Zg];refine (Zsc G _ _).mono ?_;rintro _ _ rfl;simp -implicitDefEqProofs only[go_sem,seval,↓reduceIte,Zpb,Z7a];exact Zr
 ·refine Z ?_
  refine CallA.pure hG (by kernel_rfl) ?_;simp -implicitDefEqProofs only[go_sem,seval,↓reduceIte,Zl,Zx,Z8c,Zg];refine (Zp4 G hG a b (Zfb fA) (Zfb fB)).mono ?_;rintro _ _ rfl;simp -implicitDefEqProofs only[go_sem,seval,↓reduceIte,Zwh];refine CallA.pure hG (by kernel_rfl) ?_;simp -implicitDefEqProofs only[go_sem,seval,↓reduceIte,Zl,Zx,Z8c,Zg];refine (Zsc G _ _).mono ?_;rintro _ _ rfl;simp -implicitDefEqProofs only[go_sem,seval,↓reduceIte,Zpb,Z7a];exact Zr
 ·refine Z ?_
  refine CallA.pure hG (by kernel_rfl) ?_;simp -implicitDefEqProofs only[go_sem,seval,↓reduceIte,Zl,Zx,Z8c,Zg];refine (Zi4 G hG a b (Zfb fA) (Zfb fB)).mono ?_;rintro _ _ rfl;simp -implicitDefEqProofs only[go_sem,seval,↓reduceIte,Zwh];refine CallA.pure hG (by kernel_rfl) ?_;simp -implicitDefEqProofs only[go_sem,seval,↓reduceIte,Zl,Zx,Z8c,Zg];refine (Zsc G _ _).mono ?_;rintro _ _ rfl;simp -implicitDefEqProofs only[go_sem,seval,↓reduceIte,Zpb,Z7a];exact Zr
 ·refine Z ?_
  refine CallA.pure hG (by kernel_rfl) ?_;simp -implicitDefEqProofs only[go_sem,seval,↓reduceIte,Zl,Zx,Z8c,Zg];refine (Zqa G _ 0).mono ?_;rintro _ _ rfl;simp -implicitDefEqProofs only[go_sem,seval,↓reduceIte,Zpb,Z7a];exact Zr
 ·refine Z ?_
  refine CallA.pure hG (by kernel_rfl) ?_;simp -implicitDefEqProofs only[go_sem,seval,↓reduceIte,Zl,Zx,Z8c,Zg];refine (Zqa G _ 0).mono ?_;rintro _ _ rfl;simp -implicitDefEqProofs only[go_sem,seval,↓reduceIte,Zpb,Z7a];exact Zr
 ·refine Z ?_
  refine CallA.pure hG (by kernel_rfl) ?_;simp -implicitDefEqProofs only[go_sem,seval,↓reduceIte,Zl,Zx,Z8c,Zg];refine (Zqa G _ 0).mono ?_;rintro _ _ rfl;simp -implicitDefEqProofs only[go_sem,seval,↓reduceIte,Zpb,Z7a];exact Zr
 ·refine Z ?_
  refine CallA.pure hG (by kernel_rfl) ?_;simp -implicitDefEqProofs only[go_sem,seval,↓reduceIte,Zl,Zx,Z8c,Zg];refine (Zqa G _ 0).mono ?_;rintro _ _ rfl;simp -implicitDefEqProofs only[go_sem,seval,↓reduceIte,Zpb,Z7a];exact Zr
theorem Zyr (G:Nat→V) (b:Bool):Zbh Tryz.prog G 71 [.bool b,.int .i64 0] (Zpb (.tru b)):=⟨by kernel_rfl,(Zqa G b 0).mono fun v _ hv=>by subst hv;rfl⟩
theorem alike10 (G:Nat→V) (hG:GOk G) (c1 c2:Col) (sl:Sl XN) (env:Sl (List UInt8 × Int)) (n:XN) (A B:EV) (ho:16≤n.op∧n.op≤17) (hA:RC G sl env n.a A) (hB:RC G sl env n.b B) (fA:A.fine) (fB:B.fine) :
  Spec Tryz.prog G 74 [Z8c c1 c2 sl env,Z6 n] Zp (fun v _=>v=Zpb (Zeg n.op A B)):=by
 have hN:Zeg n.op A B=Zqn n.op A B:=by
  unfold Zeg;rw [if_neg (by omega),if_neg (by omega),if_pos ho.2]
 rw [hN]
 try clear hN
 obtain ⟨op,num,name,na,nb,nc⟩:=n;simp only at ho hA hB ⊢;refine Zo 0 47 [.cell 4 43,.tmp 5] Tryz.func74 fun X=>?_;refine Zwa (by kernel_rfl) ?_;simp -implicitDefEqProofs only[go_sem,seval,↓reduceIte,Z8c,Zg];intro g2 g3 g4;refine Z ?_;refine CallA.pure hG (by kernel_rfl) ?_;simp -implicitDefEqProofs only[go_sem,seval,↓reduceIte,Zl,Zx,Z8c,Zg];refine (hA c1.ent c2.ent).mono ?_;rintro _ _ rfl;simp -implicitDefEqProofs only[go_sem,seval,↓reduceIte,Zpb,Z7a];intro g6
 by_cases hAe:∃ e,A = .err e
 ·obtain ⟨e,rfl⟩:=hAe
  have h0:(e != 0)=true:=by simpa using Zrd fA rfl
  repeat first
   | (refine Zwa (by kernel_rfl) ?_;simp -implicitDefEqProofs only[go_sem,seval,↓reduceIte,h0,EV.er,EV.nm])
   | (refine AW.region (by kernel_rfl) ?_;simp -implicitDefEqProofs only[go_sem,seval,↓reduceIte,h0,EV.er,EV.nm])
   | refine Z2 ?_
   | refine AW.block ?_
   | refine Zrc rfl ?_
   | refine Z9a rfl ?_
   | (refine AW.skip ?_;simp -implicitDefEqProofs only[go_sem,seval,↓reduceIte,h0,EV.er,EV.nm])
   | (refine AW.exit ?_;simp -implicitDefEqProofs only[go_sem,seval,↓reduceIte,h0,EV.er,EV.nm])
   | (refine AW.ret ?_;simp -implicitDefEqProofs only[go_sem,seval,↓reduceIte,h0,EV.er,EV.nm];refine Z9 ?_)
  rfl
 have hA0:A.er=0:=by cases A<;>first | rfl | exact absurd ⟨_,rfl⟩ hAe
 rw [hA0];refine Z ?_;refine CallA.pure hG (by kernel_rfl) ?_;simp -implicitDefEqProofs only[go_sem,seval,↓reduceIte,Zl,Zx,Z8c,Zg];refine (hB c1.ent c2.ent).mono ?_;rintro _ _ rfl;simp -implicitDefEqProofs only[go_sem,seval,↓reduceIte,Zpb,Z7a];intro g8
 by_cases hBe:∃ e,B = .err e
 ·obtain ⟨e,rfl⟩:=hBe
  have h0:(e != 0)=true:=by simpa using Zrd fB rfl
  have hR:Zqn op A (.err e) = .err e:=by cases A<;>first | rfl | exact absurd ⟨_,rfl⟩ hAe
  rw [hR]
  repeat first
   | (refine Zwa (by kernel_rfl) ?_;simp -implicitDefEqProofs only[go_sem,seval,↓reduceIte,h0,EV.er,EV.nm])
   | (refine AW.region (by kernel_rfl) ?_;simp -implicitDefEqProofs only[go_sem,seval,↓reduceIte,h0,EV.er,EV.nm])
   | refine Z2 ?_
   | refine AW.block ?_
   | refine Zrc rfl ?_
   | refine Z9a rfl ?_
   | (refine AW.skip ?_;simp -implicitDefEqProofs only[go_sem,seval,↓reduceIte,h0,EV.er,EV.nm])
   | (refine AW.exit ?_;simp -implicitDefEqProofs only[go_sem,seval,↓reduceIte,h0,EV.er,EV.nm])
   | (refine AW.ret ?_;simp -implicitDefEqProofs only[go_sem,seval,↓reduceIte,h0,EV.er,EV.nm];refine Z9 ?_)
  rfl
 have hB0:B.er=0:=by cases B<;>first | rfl | exact absurd ⟨_,rfl⟩ hBe
 rw [hB0];refine AW.weak (Ze (l:=[(3,.ptr 3 g3 0),(4,.ptr 4 g4 0),(6,.ptr 6 g6 0),(8,.ptr 8 g8 0),(7,.int .i64 0)]) (m:=[(3,.cells .new g3 0 [.int .u8 op,.int .i64 num,.str name,.int .i64 na,.int .i64 nb,.int .i64 nc]),(4,.cells .new g4 0 [.int .u8 0,.int .i64 0,.bool false]),(6,.cells .new g6 0 [.int .u8 A.kind,.int .i64 A.nm,.bool A.tr]),(8,.cells .new g8 0 [.int .u8 B.kind,.int .i64 B.nm,.bool B.tr])]) zp zp) ?_;refine AW.weak (Zz (fun o=>o==3 || o==6 || o==8) (l:=[(3,.view .new (.agg [.int .u8 op,.int .i64 num,.str name,.int .i64 na,.int .i64 nb,.int .i64 nc])),(4,.ptr 4 g4 0),(6,.view .new (.agg [.int .u8 A.kind,.int .i64 A.nm,.bool A.tr])),(8,.view .new (.agg [.int .u8 B.kind,.int .i64 B.nm,.bool B.tr])),(7,.int .i64 0)]) (m:=[(4,.cells .new g4 0 [.int .u8 0,.int .i64 0,.bool false])]) ?_ ?_) ?_
 ·refine Zs ?_
  refine ⟨?_,Zb _,?_,?_,Zb _⟩
  ·exact Fz.ptr (v := .agg [.int .u8 op,.int .i64 num,.str name,.int .i64 na,.int .i64 nb,.int .i64 nc]) (c := .new) (fz:=0) rfl zp
  ·exact Fz.ptr (v := .agg [.int .u8 A.kind,.int .i64 A.nm,.bool A.tr]) (c := .new) (fz:=0) rfl zp
  ·exact Fz.ptr (v := .agg [.int .u8 B.kind,.int .i64 B.nm,.bool B.tr]) (c := .new) (fz:=0) rfl zp
 ·simp only [Zm,Zt,and_true]
  exact FzO.keep rfl zp
 try clear hA hB
 cases A with
 | err e'=>exact absurd ⟨_,rfl⟩ hAe
 | num a =>
  cases B with
  | err e'=>exact absurd ⟨_,rfl⟩ hBe
  | num b =>
   rw [Zrq];simp only [EV.kind,EV.nm,EV.tr];refine Z ?_;refine Zv ⟨fun i=>if i=7 then Zpb (.tru ((a==b)==(op==16))) else .top,fun i=>if i=0 then .lend else if i=1 then .lend else if i=4 then .lend else .pure⟩ (by kernel_rfl) hG (by kernel_rfl) (by kernel_rfl) ?_;simp -implicitDefEqProofs only[go_sem,seval,↓reduceIte,Zpb,Z7a,EV.kind,EV.nm,EV.tr,EV.er];refine ⟨by simp only [Bool.true_and,Bool.and_true];exact Zyr G _,?_⟩;exact Zr
  | tru b =>
   simp only [EV.kind,EV.nm,EV.tr];exact Zr
 | tru a =>
  cases B with
  | err e'=>exact absurd ⟨_,rfl⟩ hBe
  | num b =>
   simp only [EV.kind,EV.nm,EV.tr];exact Zr
  | tru b =>
   rw [Zqq];simp only [EV.kind,EV.nm,EV.tr];refine Z ?_;refine Zv ⟨fun i=>if i=7 then Zpb (.tru ((a==b)==(op==16))) else .top,fun i=>if i=0 then .lend else if i=1 then .lend else if i=4 then .lend else .pure⟩ (by kernel_rfl) hG (by kernel_rfl) (by kernel_rfl) ?_;simp -implicitDefEqProofs only[go_sem,seval,↓reduceIte,Zpb,Z7a,EV.kind,EV.nm,EV.tr,EV.er];refine ⟨by simp only [Bool.true_and,Bool.and_true];exact Zyr G _,?_⟩;exact Zr
theorem logic10 (G:Nat→V) (hG:GOk G) (c1 c2:Col) (sl:Sl XN) (env:Sl (List UInt8 × Int)) (n:XN) (A B:EV) (ho:18≤n.op∧n.op≤21) (hA:RC G sl env n.a A) (hB:RC G sl env n.b B) (fA:A.fine) (fB:B.fine) :
  Spec Tryz.prog G 75 [Z8c c1 c2 sl env,Z6 n] Zp (fun v _=>v=Zpb (Zeg n.op A B)):=by
 have hN:Zeg n.op A B=Zjx n.op A B:=by
  unfold Zeg;rw [if_neg (by omega),if_neg (by omega),if_neg (by omega)]
 rw [hN]
 try clear hN
 obtain ⟨op,num,name,na,nb,nc⟩:=n;simp only at ho hA hB ⊢;refine Zo 0 70 [.cell 4 43,.tmp 5] Tryz.func75 fun X=>?_;refine Zwa (by kernel_rfl) ?_;simp -implicitDefEqProofs only[go_sem,seval,↓reduceIte,Z8c,Zg];intro g2 g3 g4;refine Z ?_;refine CallA.pure hG (by kernel_rfl) ?_;simp -implicitDefEqProofs only[go_sem,seval,↓reduceIte,Zl,Zx,Z8c,Zg];refine (Zci G hG c1.ent c2.ent sl env na A hA fA).mono ?_;rintro _ _ rfl;simp -implicitDefEqProofs only[go_sem,seval,↓reduceIte,Z5t]
 by_cases hAe:∃ e,A.need 2 = .err e
 ·obtain ⟨e,he⟩:=hAe
  have h0:(e != 0)=true:=by
   cases A with
   | err e'=>cases he;simpa using Zrd fA rfl
   | tru a=>cases he
   | num a=>cases he;rfl
  have hE:Zjx op A B = .err e:=Zmc _ he;rw [hE,he]
  repeat first
   | (refine Zwa (by kernel_rfl) ?_;simp -implicitDefEqProofs only[go_sem,seval,↓reduceIte,h0,EV.er,EV.nm])
   | (refine AW.region (by kernel_rfl) ?_;simp -implicitDefEqProofs only[go_sem,seval,↓reduceIte,h0,EV.er,EV.nm])
   | refine Z2 ?_
   | refine AW.block ?_
   | refine Zrc rfl ?_
   | refine Z9a rfl ?_
   | (refine AW.skip ?_;simp -implicitDefEqProofs only[go_sem,seval,↓reduceIte,h0,EV.er,EV.nm])
   | (refine AW.exit ?_;simp -implicitDefEqProofs only[go_sem,seval,↓reduceIte,h0,EV.er,EV.nm])
   | (refine AW.ret ?_;simp -implicitDefEqProofs only[go_sem,seval,↓reduceIte,h0,EV.er,EV.nm];refine Z9 ?_)
  rfl
 obtain ⟨a,rfl⟩:=Zhd fun e he=>hAe ⟨e,he⟩
 try clear hAe
 rw [Zlc];simp -implicitDefEqProofs only[go_sem,seval,↓reduceIte,EV.er,EV.tr]
 have hEr:∀ e,B.need 2 = .err e→(e != 0)=true∧(e==0)=false:=by
  intro e he
  cases B with
  | err e'=>cases he;exact ⟨by simpa using Zrd fB rfl,by simpa using Zrd fB rfl⟩
  | tru a=>cases he
  | num a=>cases he;exact ⟨rfl,rfl⟩
 have hX:∀ op a,Zjx op (.tru a) B=if op=18∧a=false then .tru false else if op=19∧a=true∨op=21∧a=false then .tru true else B.onB fun b => .tru (if op=20 then a != b else b):=fun _ _=>rfl
 obtain rfl | rfl | rfl | rfl:op=18∨op=19∨op=20∨op=21:=by omega
 ·cases a
  ·refine Z ?_
   refine CallA.pure hG (by kernel_rfl) ?_;simp -implicitDefEqProofs only[go_sem,seval,↓reduceIte,Zl,Zx,Z8c,Zg];refine (Zqa G _ 0).mono ?_;rintro _ _ rfl;simp -implicitDefEqProofs only[go_sem,seval,↓reduceIte,Zpb,Z7a];exact Zr
  ·refine Z ?_
   refine CallA.pure hG (by kernel_rfl) ?_;simp -implicitDefEqProofs only[go_sem,seval,↓reduceIte,Zl,Zx,Z8c,Zg];refine (Zci G hG c1.ent c2.ent sl env nb B hB fB).mono ?_;rintro _ _ rfl;simp -implicitDefEqProofs only[go_sem,seval,↓reduceIte,Z5t]
   by_cases hBe:∃ e,B.need 2 = .err e
   ·obtain ⟨e,he⟩:=hBe
    have h00:¬ e=0:=by simpa using (hEr e he).1
    rw [hX,if_neg (by decide),if_neg (by decide),Zmc _ he,he]
    repeat first
     | (refine Zwa (by kernel_rfl) ?_;simp -implicitDefEqProofs only[go_sem,seval,↓reduceIte,EV.er,EV.tr])
     | (refine AW.region (by kernel_rfl) ?_;simp -implicitDefEqProofs only[go_sem,seval,↓reduceIte,EV.er,EV.tr])
     | refine Z2 ?_
     | refine AW.block ?_
     | refine Zrc rfl ?_
     | refine Z9a rfl ?_
     | (refine AW.skip ?_;simp -implicitDefEqProofs only[go_sem,seval,↓reduceIte,EV.er,EV.tr])
     | (refine AW.exit ?_;simp -implicitDefEqProofs only[go_sem,seval,↓reduceIte,EV.er,EV.tr])
     | (refine AW.ret ?_;simp -implicitDefEqProofs only[go_sem,seval,↓reduceIte,EV.er,EV.tr];refine Z9 ?_)
    refine CallA.pure hG (by kernel_rfl) ?_;simp -implicitDefEqProofs only[go_sem,seval,↓reduceIte,Zl,Zx,Z8c,Zg];refine (Zqa G _ _).mono ?_;rintro _ _ rfl;simp -implicitDefEqProofs only[go_sem,seval,↓reduceIte,if_neg h00,Zpb,Z7a];exact Zr
   obtain ⟨b,rfl⟩:=Zhd fun e he=>hBe ⟨e,he⟩;rw [Zlc];simp -implicitDefEqProofs only[go_sem,seval,↓reduceIte,EV.er,EV.tr];refine Z ?_;refine CallA.pure hG (by kernel_rfl) ?_;simp -implicitDefEqProofs only[go_sem,seval,↓reduceIte,Zl,Zx,Z8c,Zg];refine (Zqa G _ 0).mono ?_;rintro _ _ rfl;simp -implicitDefEqProofs only[go_sem,seval,↓reduceIte,Zpb,Z7a];exact Zr
 ·cases a
  ·refine Z ?_
   refine CallA.pure hG (by kernel_rfl) ?_;simp -implicitDefEqProofs only[go_sem,seval,↓reduceIte,Zl,Zx,Z8c,Zg];refine (Zci G hG c1.ent c2.ent sl env nb B hB fB).mono ?_;rintro _ _ rfl;simp -implicitDefEqProofs only[go_sem,seval,↓reduceIte,Z5t]
   by_cases hBe:∃ e,B.need 2 = .err e
   ·obtain ⟨e,he⟩:=hBe
    have h00:¬ e=0:=by simpa using (hEr e he).1
    rw [hX,if_neg (by decide),if_neg (by decide),Zmc _ he,he]
    repeat first
     | (refine Zwa (by kernel_rfl) ?_;simp -implicitDefEqProofs only[go_sem,seval,↓reduceIte,EV.er,EV.tr])
     | (refine AW.region (by kernel_rfl) ?_;simp -implicitDefEqProofs only[go_sem,seval,↓reduceIte,EV.er,EV.tr])
     | refine Z2 ?_
     | refine AW.block ?_
     | refine Zrc rfl ?_
     | refine Z9a rfl ?_
     | (refine AW.skip ?_;simp -implicitDefEqProofs only[go_sem,seval,↓reduceIte,EV.er,EV.tr])
     | (refine AW.exit ?_;simp -implicitDefEqProofs only[go_sem,seval,↓reduceIte,EV.er,EV.tr])
     | (refine AW.ret ?_;simp -implicitDefEqProofs only[go_sem,seval,↓reduceIte,EV.er,EV.tr];refine Z9 ?_)
    refine CallA.pure hG (by kernel_rfl) ?_;simp -implicitDefEqProofs only[go_sem,seval,↓reduceIte,Zl,Zx,Z8c,Zg];refine (Zqa G _ _).mono ?_;rintro _ _ rfl;simp -implicitDefEqProofs only[go_sem,seval,↓reduceIte,if_neg h00,Zpb,Z7a];exact Zr
   obtain ⟨b,rfl⟩:=Zhd fun e he=>hBe ⟨e,he⟩;rw [Zlc];simp -implicitDefEqProofs only[go_sem,seval,↓reduceIte,EV.er,EV.tr];refine Z ?_;refine CallA.pure hG (by kernel_rfl) ?_;simp -implicitDefEqProofs only[go_sem,seval,↓reduceIte,Zl,Zx,Z8c,Zg];refine (Zqa G _ 0).mono ?_;rintro _ _ rfl;simp -implicitDefEqProofs only[go_sem,seval,↓reduceIte,Zpb,Z7a];exact Zr
  ·refine Z ?_
   refine CallA.pure hG (by kernel_rfl) ?_;simp -implicitDefEqProofs only[go_sem,seval,↓reduceIte,Zl,Zx,Z8c,Zg];refine (Zqa G _ 0).mono ?_;rintro _ _ rfl;simp -implicitDefEqProofs only[go_sem,seval,↓reduceIte,Zpb,Z7a];exact Zr
 ·cases a
  ·refine Z ?_
   refine CallA.pure hG (by kernel_rfl) ?_;simp -implicitDefEqProofs only[go_sem,seval,↓reduceIte,Zl,Zx,Z8c,Zg];refine (Zci G hG c1.ent c2.ent sl env nb B hB fB).mono ?_;rintro _ _ rfl;simp -implicitDefEqProofs only[go_sem,seval,↓reduceIte,Z5t]
   by_cases hBe:∃ e,B.need 2 = .err e
   ·obtain ⟨e,he⟩:=hBe
    have h00:¬ e=0:=by simpa using (hEr e he).1
    rw [hX,if_neg (by decide),if_neg (by decide),Zmc _ he,he]
    repeat first
     | (refine Zwa (by kernel_rfl) ?_;simp -implicitDefEqProofs only[go_sem,seval,↓reduceIte,EV.er,EV.tr])
     | (refine AW.region (by kernel_rfl) ?_;simp -implicitDefEqProofs only[go_sem,seval,↓reduceIte,EV.er,EV.tr])
     | refine Z2 ?_
     | refine AW.block ?_
     | refine Zrc rfl ?_
     | refine Z9a rfl ?_
     | (refine AW.skip ?_;simp -implicitDefEqProofs only[go_sem,seval,↓reduceIte,EV.er,EV.tr])
     | (refine AW.exit ?_;simp -implicitDefEqProofs only[go_sem,seval,↓reduceIte,EV.er,EV.tr])
     | (refine AW.ret ?_;simp -implicitDefEqProofs only[go_sem,seval,↓reduceIte,EV.er,EV.tr];refine Z9 ?_)
    refine CallA.pure hG (by kernel_rfl) ?_;simp -implicitDefEqProofs only[go_sem,seval,↓reduceIte,Zl,Zx,Z8c,Zg];refine (Zqa G _ _).mono ?_;rintro _ _ rfl;simp -implicitDefEqProofs only[go_sem,seval,↓reduceIte,if_neg h00,Zpb,Z7a];exact Zr
   obtain ⟨b,rfl⟩:=Zhd fun e he=>hBe ⟨e,he⟩;rw [Zlc];simp -implicitDefEqProofs only[go_sem,seval,↓reduceIte,EV.er,EV.tr];refine Z ?_;refine CallA.pure hG (by kernel_rfl) ?_;simp -implicitDefEqProofs only[go_sem,seval,↓reduceIte,Zl,Zx,Z8c,Zg];refine (Zqa G _ 0).mono ?_;rintro _ _ rfl;simp -implicitDefEqProofs only[go_sem,seval,↓reduceIte,Zpb,Z7a];exact Zr
  ·refine Z ?_
   refine CallA.pure hG (by kernel_rfl) ?_;simp -implicitDefEqProofs only[go_sem,seval,↓reduceIte,Zl,Zx,Z8c,Zg];refine (Zci G hG c1.ent c2.ent sl env nb B hB fB).mono ?_;rintro _ _ rfl;simp -implicitDefEqProofs only[go_sem,seval,↓reduceIte,Z5t]
   by_cases hBe:∃ e,B.need 2 = .err e
   ·obtain ⟨e,he⟩:=hBe
    have h00:¬ e=0:=by simpa using (hEr e he).1
    rw [hX,if_neg (by decide),if_neg (by decide),Zmc _ he,he]
    repeat first
     | (refine Zwa (by kernel_rfl) ?_;simp -implicitDefEqProofs only[go_sem,seval,↓reduceIte,EV.er,EV.tr])
     | (refine AW.region (by kernel_rfl) ?_;simp -implicitDefEqProofs only[go_sem,seval,↓reduceIte,EV.er,EV.tr])
     | refine Z2 ?_
     | refine AW.block ?_
     | refine Zrc rfl ?_
     | refine Z9a rfl ?_
     | (refine AW.skip ?_;simp -implicitDefEqProofs only[go_sem,seval,↓reduceIte,EV.er,EV.tr])
     | (refine AW.exit ?_;simp -implicitDefEqProofs only[go_sem,seval,↓reduceIte,EV.er,EV.tr])
     | (refine AW.ret ?_;simp -implicitDefEqProofs only[go_sem,seval,↓reduceIte,EV.er,EV.tr];refine Z9 ?_)
    refine CallA.pure hG (by kernel_rfl) ?_;simp -implicitDefEqProofs only[go_sem,seval,↓reduceIte,Zl,Zx,Z8c,Zg];refine (Zqa G _ _).mono ?_;rintro _ _ rfl;simp -implicitDefEqProofs only[go_sem,seval,↓reduceIte,if_neg h00,Zpb,Z7a];exact Zr
   obtain ⟨b,rfl⟩:=Zhd fun e he=>hBe ⟨e,he⟩;rw [Zlc];simp -implicitDefEqProofs only[go_sem,seval,↓reduceIte,EV.er,EV.tr];refine Z ?_;refine CallA.pure hG (by kernel_rfl) ?_;simp -implicitDefEqProofs only[go_sem,seval,↓reduceIte,Zl,Zx,Z8c,Zg];refine (Zqa G _ 0).mono ?_;rintro _ _ rfl;simp -implicitDefEqProofs only[go_sem,seval,↓reduceIte,Zpb,Z7a];exact Zr
 ·cases a
  ·refine Z ?_
   refine CallA.pure hG (by kernel_rfl) ?_;simp -implicitDefEqProofs only[go_sem,seval,↓reduceIte,Zl,Zx,Z8c,Zg];refine (Zqa G _ 0).mono ?_;rintro _ _ rfl;simp -implicitDefEqProofs only[go_sem,seval,↓reduceIte,Zpb,Z7a];exact Zr
  ·refine Z ?_
   refine CallA.pure hG (by kernel_rfl) ?_;simp -implicitDefEqProofs only[go_sem,seval,↓reduceIte,Zl,Zx,Z8c,Zg];refine (Zci G hG c1.ent c2.ent sl env nb B hB fB).mono ?_;rintro _ _ rfl;simp -implicitDefEqProofs only[go_sem,seval,↓reduceIte,Z5t]
   by_cases hBe:∃ e,B.need 2 = .err e
   ·obtain ⟨e,he⟩:=hBe
    have h00:¬ e=0:=by simpa using (hEr e he).1
    rw [hX,if_neg (by decide),if_neg (by decide),Zmc _ he,he]
    repeat first
     | (refine Zwa (by kernel_rfl) ?_;simp -implicitDefEqProofs only[go_sem,seval,↓reduceIte,EV.er,EV.tr])
     | (refine AW.region (by kernel_rfl) ?_;simp -implicitDefEqProofs only[go_sem,seval,↓reduceIte,EV.er,EV.tr])
     | refine Z2 ?_
     | refine AW.block ?_
     | refine Zrc rfl ?_
     | refine Z9a rfl ?_
     | (refine AW.skip ?_;simp -implicitDefEqProofs only[go_sem,seval,↓reduceIte,EV.er,EV.tr])
     | (refine AW.exit ?_;simp -implicitDefEqProofs only[go_sem,seval,↓reduceIte,EV.er,EV.tr])
     | (refine AW.ret ?_;simp -implicitDefEqProofs only[go_sem,seval,↓reduceIte,EV.er,EV.tr];refine Z9 ?_)
    refine CallA.pure hG (by kernel_rfl) ?_;simp -implicitDefEqProofs only[go_sem,seval,↓reduceIte,Zl,Zx,Z8c,Zg];refine (Zqa G _ _).mono ?_;rintro _ _ rfl;simp -implicitDefEqProofs only[go_sem,seval,↓reduceIte,if_neg h00,Zpb,Z7a];exact Zr
   obtain ⟨b,rfl⟩:=Zhd fun e he=>hBe ⟨e,he⟩;rw [Zlc];simp -implicitDefEqProofs only[go_sem,seval,↓reduceIte,EV.er,EV.tr];refine Z ?_;refine CallA.pure hG (by kernel_rfl) ?_;simp -implicitDefEqProofs only[go_sem,seval,↓reduceIte,Zl,Zx,Z8c,Zg];refine (Zqa G _ 0).mono ?_;rintro _ _ rfl;simp -implicitDefEqProofs only[go_sem,seval,↓reduceIte,Zpb,Z7a];exact Zr
end Go.Hs
end

section
namespace Go.Hs
open Go.Proofs
set_option maxRecDepth 10000
set_option maxHeartbeats 1000000
theorem leaf10 (G:Nat→V) (hG:GOk G) (sl:Sl XN) (hs:sl.l.length<1000000) (env:Sl (List UInt8 × Int)) (hv:env.l.length<1000000) (i:Nat) (n:XN) (hn:sl.l[i]? = some n) (ho:1≤n.op∧n.op≤4):RC G sl env i (Zie env.l n.op n.num n.name):=by
 intro c1 c2;have hil:i<sl.l.length:=(List.getElem?_eq_some_iff.1 hn).1;obtain ⟨op,num,name,na,nb,nc⟩:=n;refine Zo 0 163 [.cell 4 43,.tmp 5] Tryz.func46 fun X=>?_;refine Zwa (by kernel_rfl) ?_;simp -implicitDefEqProofs only[go_sem,seval,↓reduceIte,Z8c];intro g2 g4;refine Z1f (zi hn (zi @Int.natCast_nonneg (zi @Int.ofNat_lt (zi hil @Zg)))) ?_;intro g6;refine AW.weak (Zz (fun o=>o==2 || o==6) (l:=[(2,.view .new (.agg [Za c1 6 Z6 sl,Za c2 2 Zj env])),(4,.ptr 4 g4 0),(5,.int .i64 0),(6,.view .new (.agg [.int .u8 op,.int .i64 num,.str name,.int .i64 na,.int .i64 nb,.int .i64 nc]))]) (m:=[(4,.cells .new g4 0 [.int .u8 0,.int .i64 0,.bool false])]) ?_ ?_) ?_
 ·refine Zs ?_
  refine ⟨?_,Zb _,Zb _,?_⟩
  ·exact Fz.ptr (v := .agg [Za c1 6 Z6 sl,Za c2 2 Zj env]) (c := .new) (fz:=0) rfl zp
  ·exact Fz.ptr (v := .agg [.int .u8 op,.int .i64 num,.str name,.int .i64 na,.int .i64 nb,.int .i64 nc]) (c := .new) (fz:=0) rfl zp
 ·simp only [Zm,Zt,and_true]
  exact FzO.keep rfl zp
 simp only at ho ⊢
 obtain rfl | rfl | rfl | rfl:op=1∨op=2∨op=3∨op=4:=by omega
 ·refine Z ?_
  refine CallA.pure hG (by kernel_rfl) ?_;simp -implicitDefEqProofs only[go_sem,seval,↓reduceIte,Zl,Zx,Z8c,Zg];refine (Zsc G _ 0).mono ?_;rintro _ _ rfl;simp -implicitDefEqProofs only[go_sem,seval,↓reduceIte,Zpb,Z7a];exact Zr
 rotate_left
 ·refine Z ?_
  refine CallA.pure hG (by kernel_rfl) ?_;simp -implicitDefEqProofs only[go_sem,seval,↓reduceIte,Zl,Zx,Z8c,Zg];refine (Zqa G _ 0).mono ?_;rintro _ _ rfl;simp -implicitDefEqProofs only[go_sem,seval,↓reduceIte,Zpb,Z7a];exact Zr
 ·refine Z ?_
  refine CallA.pure hG (by kernel_rfl) ?_;simp -implicitDefEqProofs only[go_sem,seval,↓reduceIte,Zl,Zx,Z8c,Zg];refine (Zqa G _ 0).mono ?_;rintro _ _ rfl;simp -implicitDefEqProofs only[go_sem,seval,↓reduceIte,Zpb,Z7a];exact Zr
 ·refine Z5 fun K1 hK1=>?_
  try clear hK1
  refine Z1 ?_;refine Z1 ?_;refine Zrc rfl ?_;refine Z5 fun K2 hK2=>?_;refine Z ?_
  refine Z6a env.l.length (fun j (_:Unit)=>st [(2,.view .new (.agg [Za c1 6 Z6 sl,Za c2 2 Zj env])),(4,.ptr 4 g4 0),(5,.int .i64 0),(6,.view .new (.agg [.int .u8 2,.int .i64 num,.str name,.int .i64 na,.int .i64 nb,.int .i64 nc])),(7,.int .i64 j)] [(4,.cells .new g4 0 [.int .u8 0,.int .i64 0,.bool false])]) (fun j _=>Z9d env.l name=Z9d (env.l.drop j) name) 0 () (Nat.zero_le _) rfl
   (Ze zp zp) ?_
  rintro j _ hj hR L hL
  by_cases hjl:j<env.l.length
  ·have hlt:decide ((j:Int)<(env.l.length:Int))=true:=by simpa using hjl
   have hg:env.l[j]? = some env.l[j]:=List.getElem?_eq_getElem hjl;have hd:env.l.drop j=env.l[j]::env.l.drop (j+1):=List.drop_eq_getElem_cons hjl;generalize env.l[j]=p at hg hd;rw [hd] at hR;refine Zf hlt ?_
   by_cases hnm:p.1=name
   ·have hq:(p.1==name)=true:=by simpa using hnm
    refine Zv ⟨fun _ => .top,fun i=>if i=1 then .lend else if i=7 then .lend else .pure⟩ (by kernel_rfl) hG (by kernel_rfl) (by kernel_rfl) ?_;refine Zsf (zi hg (zi @Zwc (zi hjl (zi @Int.natCast_nonneg (zi @Int.ofNat_lt hq))))) ?_;refine Zf (zi hg (zi @Zwc (zi hjl (zi @Int.natCast_nonneg @Int.ofNat_lt)))) ?_;refine CallA.pure hG (by kernel_rfl) ?_;simp -implicitDefEqProofs only[go_sem,seval,↓reduceIte,Zl,Zx,Z8c,Zg];refine (Zsc G _ 0).mono ?_;rintro _ _ rfl;simp -implicitDefEqProofs only[go_sem,seval,↓reduceIte,Zpb,Z7a]
    have hV:Zie env.l 2 num name = .num p.2:=by
     unfold Zie;rw [if_neg (by decide),if_pos rfl,hR];unfold Z9d;rw [List.find?_cons_of_pos (by simpa using hnm)]
     try rfl
    rw [hV];exact Zr
   ·have hq:(p.1==name)=false:=by simpa using hnm
    have w1:IntKind.i64.wrap ((j:Int)+1)=(j:Int)+1:=w64 (by omega) (by omega);refine Zv ⟨fun _ => .top,fun i=>if i=1 then .lend else if i=7 then .lend else .pure⟩ (by kernel_rfl) hG (by kernel_rfl) (by kernel_rfl) ?_;refine Zsf (zi hg (zi @Zwc (zi hjl (zi @Int.natCast_nonneg (zi @Int.ofNat_lt hq))))) ?_;refine Zf w1 ?_;refine hL _ ⟨hjl,(),?_,Ze zp zp⟩;rw [hR];unfold Z9d;rw [List.find?_cons_of_neg (by simpa using hnm)]
  ·have hje:j=env.l.length:=by omega
   have hlt:decide ((env.l.length:Int)<(env.l.length:Int))=false:=by simp
   subst hje;rw [List.drop_length] at hR
   have hV:Zie env.l 2 num name = .err 90:=by
    unfold Zie;rw [if_neg (by decide),if_pos rfl,hR]
    try rfl
   refine Zf hlt ?_;refine hK2 _ ?_;rw [hV];exact Zr
theorem neg10 (G:Nat→V) (hG:GOk G) (sl:Sl XN) (hs:sl.l.length<1000000) (env:Sl (List UInt8 × Int)) (i:Nat) (n:XN) (hn:sl.l[i]? = some n) (A:EV) (ho:n.op=5) (hA:RC G sl env n.a A) (fA:A.fine):RC G sl env i (Za2 n.op A):=by
 intro c1 c2;have hil:i<sl.l.length:=(List.getElem?_eq_some_iff.1 hn).1;obtain ⟨op,num,name,na,nb,nc⟩:=n;refine Zo 0 163 [.cell 4 43,.tmp 5] Tryz.func46 fun X=>?_;refine Zwa (by kernel_rfl) ?_;simp -implicitDefEqProofs only[go_sem,seval,↓reduceIte,Z8c];intro g2 g4;refine Z1f (zi hn (zi @Int.natCast_nonneg (zi @Int.ofNat_lt (zi hil @Zg)))) ?_;intro g6;refine AW.weak (Zz (fun o=>o==2 || o==6) (l:=[(2,.view .new (.agg [Za c1 6 Z6 sl,Za c2 2 Zj env])),(4,.ptr 4 g4 0),(5,.int .i64 0),(6,.view .new (.agg [.int .u8 op,.int .i64 num,.str name,.int .i64 na,.int .i64 nb,.int .i64 nc]))]) (m:=[(4,.cells .new g4 0 [.int .u8 0,.int .i64 0,.bool false])]) ?_ ?_) ?_
 ·refine Zs ?_
  refine ⟨?_,Zb _,Zb _,?_⟩
  ·exact Fz.ptr (v := .agg [Za c1 6 Z6 sl,Za c2 2 Zj env]) (c := .new) (fz:=0) rfl zp
  ·exact Fz.ptr (v := .agg [.int .u8 op,.int .i64 num,.str name,.int .i64 na,.int .i64 nb,.int .i64 nc]) (c := .new) (fz:=0) rfl zp
 ·simp only [Zm,Zt,and_true]
  exact FzO.keep rfl zp
 simp only at ho hA ⊢;subst ho;have hU:Za2 5 A=A.onN fun a => .ofR (Go.Hs.told (-a)):=rfl;rw [hU];refine Z ?_;refine CallA.pure hG (by kernel_rfl) ?_;simp -implicitDefEqProofs only[go_sem,seval,↓reduceIte,Zl,Zx,Z8c,Zg];refine (Zao G hG c1.ent c2.ent sl env na A hA fA).mono ?_;rintro _ _ rfl;simp -implicitDefEqProofs only[go_sem,seval,↓reduceIte,Z3p]
 by_cases hAe:∃ e,A.need 1 = .err e
 ·obtain ⟨e,he⟩:=hAe
  have h0:(e != 0)=true:=by
   cases A with
   | err e'=>cases he;simpa using Zrd fA rfl
   | num a=>cases he
   | tru a=>cases he;rfl
  rw [Znd _ he,he]
  repeat first
   | (refine Zwa (by kernel_rfl) ?_;simp -implicitDefEqProofs only[go_sem,seval,↓reduceIte,h0,EV.er,EV.nm])
   | (refine AW.region (by kernel_rfl) ?_;simp -implicitDefEqProofs only[go_sem,seval,↓reduceIte,h0,EV.er,EV.nm])
   | refine Z2 ?_
   | refine AW.block ?_
   | refine Zrc rfl ?_
   | refine Z9a rfl ?_
   | (refine AW.skip ?_;simp -implicitDefEqProofs only[go_sem,seval,↓reduceIte,h0,EV.er,EV.nm])
   | (refine AW.exit ?_;simp -implicitDefEqProofs only[go_sem,seval,↓reduceIte,h0,EV.er,EV.nm])
   | (refine AW.ret ?_;simp -implicitDefEqProofs only[go_sem,seval,↓reduceIte,h0,EV.er,EV.nm];refine Z9 ?_)
  rfl
 obtain ⟨a,rfl⟩:=Zlg fun e he=>hAe ⟨e,he⟩;rw [Zze];simp -implicitDefEqProofs only[go_sem,seval,↓reduceIte,EV.er,EV.nm];refine Z ?_;refine CallA.pure hG (by kernel_rfl) ?_;simp -implicitDefEqProofs only[go_sem,seval,↓reduceIte,Zl,Zx,Z8c,Zg];refine (Zj4 G hG a (Zfb fA)).mono ?_;rintro _ _ rfl;simp -implicitDefEqProofs only[go_sem,seval,↓reduceIte,Zwh];refine CallA.pure hG (by kernel_rfl) ?_;simp -implicitDefEqProofs only[go_sem,seval,↓reduceIte,Zl,Zx,Z8c,Zg];refine (Zsc G _ _).mono ?_;rintro _ _ rfl;simp -implicitDefEqProofs only[go_sem,seval,↓reduceIte,Zpb,Z7a];exact Zr
theorem not10 (G:Nat→V) (hG:GOk G) (sl:Sl XN) (hs:sl.l.length<1000000) (env:Sl (List UInt8 × Int)) (i:Nat) (n:XN) (hn:sl.l[i]? = some n) (A:EV) (ho:n.op=6) (hA:RC G sl env n.a A) (fA:A.fine):RC G sl env i (Za2 n.op A):=by
 intro c1 c2;have hil:i<sl.l.length:=(List.getElem?_eq_some_iff.1 hn).1;obtain ⟨op,num,name,na,nb,nc⟩:=n;refine Zo 0 163 [.cell 4 43,.tmp 5] Tryz.func46 fun X=>?_;refine Zwa (by kernel_rfl) ?_;simp -implicitDefEqProofs only[go_sem,seval,↓reduceIte,Z8c];intro g2 g4;refine Z1f (zi hn (zi @Int.natCast_nonneg (zi @Int.ofNat_lt (zi hil @Zg)))) ?_;intro g6;refine AW.weak (Zz (fun o=>o==2 || o==6) (l:=[(2,.view .new (.agg [Za c1 6 Z6 sl,Za c2 2 Zj env])),(4,.ptr 4 g4 0),(5,.int .i64 0),(6,.view .new (.agg [.int .u8 op,.int .i64 num,.str name,.int .i64 na,.int .i64 nb,.int .i64 nc]))]) (m:=[(4,.cells .new g4 0 [.int .u8 0,.int .i64 0,.bool false])]) ?_ ?_) ?_
 ·refine Zs ?_
  refine ⟨?_,Zb _,Zb _,?_⟩
  ·exact Fz.ptr (v := .agg [Za c1 6 Z6 sl,Za c2 2 Zj env]) (c := .new) (fz:=0) rfl zp
  ·exact Fz.ptr (v := .agg [.int .u8 op,.int .i64 num,.str name,.int .i64 na,.int .i64 nb,.int .i64 nc]) (c := .new) (fz:=0) rfl zp
 ·simp only [Zm,Zt,and_true]
  exact FzO.keep rfl zp
 simp only at ho hA ⊢;subst ho;have hU:Za2 6 A=A.onB fun b => .tru (!b):=rfl;rw [hU];refine Z ?_;refine CallA.pure hG (by kernel_rfl) ?_;simp -implicitDefEqProofs only[go_sem,seval,↓reduceIte,Zl,Zx,Z8c,Zg];refine (Zci G hG c1.ent c2.ent sl env na A hA fA).mono ?_;rintro _ _ rfl;simp -implicitDefEqProofs only[go_sem,seval,↓reduceIte,Z5t]
 by_cases hAe:∃ e,A.need 2 = .err e
 ·obtain ⟨e,he⟩:=hAe
  have h00:¬ e=0:=by
   cases A with
   | err e'=>cases he;exact Zrd fA rfl
   | tru a=>cases he
   | num a=>cases he;decide
  rw [Zmc _ he,he]
  repeat first
   | (refine Zwa (by kernel_rfl) ?_;simp -implicitDefEqProofs only[go_sem,seval,↓reduceIte,EV.er,EV.tr])
   | (refine AW.region (by kernel_rfl) ?_;simp -implicitDefEqProofs only[go_sem,seval,↓reduceIte,EV.er,EV.tr])
   | refine Z2 ?_
   | refine AW.block ?_
   | refine Zrc rfl ?_
   | refine Z9a rfl ?_
   | (refine AW.skip ?_;simp -implicitDefEqProofs only[go_sem,seval,↓reduceIte,EV.er,EV.tr])
   | (refine AW.exit ?_;simp -implicitDefEqProofs only[go_sem,seval,↓reduceIte,EV.er,EV.tr])
   | (refine AW.ret ?_;simp -implicitDefEqProofs only[go_sem,seval,↓reduceIte,EV.er,EV.tr];refine Z9 ?_)
  refine CallA.pure hG (by kernel_rfl) ?_;simp -implicitDefEqProofs only[go_sem,seval,↓reduceIte,Zl,Zx,Z8c,Zg];refine (Zqa G _ _).mono ?_;rintro _ _ rfl;simp -implicitDefEqProofs only[go_sem,seval,↓reduceIte,if_neg h00,Zpb,Z7a];exact Zr
 obtain ⟨b,rfl⟩:=Zhd fun e he=>hAe ⟨e,he⟩;rw [Zlc];simp -implicitDefEqProofs only[go_sem,seval,↓reduceIte,EV.er,EV.tr];refine Z ?_;refine CallA.pure hG (by kernel_rfl) ?_;simp -implicitDefEqProofs only[go_sem,seval,↓reduceIte,Zl,Zx,Z8c,Zg];refine (Zqa G _ 0).mono ?_;rintro _ _ rfl;simp -implicitDefEqProofs only[go_sem,seval,↓reduceIte,Zpb,Z7a];exact Zr
theorem ite10 (G:Nat→V) (hG:GOk G) (sl:Sl XN) (hs:sl.l.length<1000000) (env:Sl (List UInt8 × Int)) (i:Nat) (n:XN) (hn:sl.l[i]? = some n) (A B C:EV) (ho:n.op=22) (hA:RC G sl env n.a A) (hB:RC G sl env n.b B) (hC:RC G sl env n.c C) (fA:A.fine):RC G sl env i (A.onB fun t=>if t=true then B else C):=by
 intro c1 c2;have hil:i<sl.l.length:=(List.getElem?_eq_some_iff.1 hn).1;obtain ⟨op,num,name,na,nb,nc⟩:=n;refine Zo 0 163 [.cell 4 43,.tmp 5] Tryz.func46 fun X=>?_;refine Zwa (by kernel_rfl) ?_;simp -implicitDefEqProofs only[go_sem,seval,↓reduceIte,Z8c];intro g2 g4;refine Z1f (zi hn (zi @Int.natCast_nonneg (zi @Int.ofNat_lt (zi hil @Zg)))) ?_;intro g6;refine AW.weak (Zz (fun o=>o==2 || o==6) (l:=[(2,.view .new (.agg [Za c1 6 Z6 sl,Za c2 2 Zj env])),(4,.ptr 4 g4 0),(5,.int .i64 0),(6,.view .new (.agg [.int .u8 op,.int .i64 num,.str name,.int .i64 na,.int .i64 nb,.int .i64 nc]))]) (m:=[(4,.cells .new g4 0 [.int .u8 0,.int .i64 0,.bool false])]) ?_ ?_) ?_
 ·refine Zs ?_
  refine ⟨?_,Zb _,Zb _,?_⟩
  ·exact Fz.ptr (v := .agg [Za c1 6 Z6 sl,Za c2 2 Zj env]) (c := .new) (fz:=0) rfl zp
  ·exact Fz.ptr (v := .agg [.int .u8 op,.int .i64 num,.str name,.int .i64 na,.int .i64 nb,.int .i64 nc]) (c := .new) (fz:=0) rfl zp
 ·simp only [Zm,Zt,and_true]
  exact FzO.keep rfl zp
 simp only at ho hA hB hC ⊢;subst ho;refine Z ?_;refine CallA.pure hG (by kernel_rfl) ?_;simp -implicitDefEqProofs only[go_sem,seval,↓reduceIte,Zl,Zx,Z8c,Zg];refine (Zci G hG c1.ent c2.ent sl env na A hA fA).mono ?_;rintro _ _ rfl;simp -implicitDefEqProofs only[go_sem,seval,↓reduceIte,Z5t]
 by_cases hAe:∃ e,A.need 2 = .err e
 ·obtain ⟨e,he⟩:=hAe
  have h0:(e != 0)=true:=by
   cases A with
   | err e'=>cases he;simpa using Zrd fA rfl
   | tru a=>cases he
   | num a=>cases he;rfl
  rw [Zmc _ he,he]
  repeat first
   | (refine Zwa (by kernel_rfl) ?_;simp -implicitDefEqProofs only[go_sem,seval,↓reduceIte,h0,EV.er,EV.tr])
   | (refine AW.region (by kernel_rfl) ?_;simp -implicitDefEqProofs only[go_sem,seval,↓reduceIte,h0,EV.er,EV.tr])
   | refine Z2 ?_
   | refine AW.block ?_
   | refine Zrc rfl ?_
   | refine Z9a rfl ?_
   | (refine AW.skip ?_;simp -implicitDefEqProofs only[go_sem,seval,↓reduceIte,h0,EV.er,EV.tr])
   | (refine AW.exit ?_;simp -implicitDefEqProofs only[go_sem,seval,↓reduceIte,h0,EV.er,EV.tr])
   | (refine AW.ret ?_;simp -implicitDefEqProofs only[go_sem,seval,↓reduceIte,h0,EV.er,EV.tr];refine Z9 ?_)
  rfl
 obtain ⟨b,rfl⟩:=Zhd fun e he=>hAe ⟨e,he⟩;rw [Zlc];simp -implicitDefEqProofs only[go_sem,seval,↓reduceIte,EV.er,EV.tr];cases b
 ·have hR:(EV.tru false).onB (fun t=>if t=true then B else C)=C:=rfl
  rw [hR];refine Z ?_;refine CallA.pure hG (by kernel_rfl) ?_;simp -implicitDefEqProofs only[go_sem,seval,↓reduceIte,Zl,Zx,Z8c,Zg];refine (hC c1.ent c2.ent).mono ?_;rintro _ _ rfl;simp -implicitDefEqProofs only[go_sem,seval,↓reduceIte,Zpb,Z7a];exact Zr
 ·have hR:(EV.tru true).onB (fun t=>if t=true then B else C)=B:=rfl
  rw [hR];refine Z ?_;refine CallA.pure hG (by kernel_rfl) ?_;simp -implicitDefEqProofs only[go_sem,seval,↓reduceIte,Zl,Zx,Z8c,Zg];refine (hB c1.ent c2.ent).mono ?_;rintro _ _ rfl;simp -implicitDefEqProofs only[go_sem,seval,↓reduceIte,Zpb,Z7a];exact Zr
theorem bin10 (G:Nat→V) (hG:GOk G) (sl:Sl XN) (hs:sl.l.length<1000000) (env:Sl (List UInt8 × Int)) (i:Nat) (n:XN) (hn:sl.l[i]? = some n) (A B:EV) (ho:7≤n.op∧n.op≤21) (hA:RC G sl env n.a A) (hB:RC G sl env n.b B) (fA:A.fine) (fB:B.fine):RC G sl env i (Zeg n.op A B):=by
 intro c1 c2;have hil:i<sl.l.length:=(List.getElem?_eq_some_iff.1 hn).1;obtain ⟨op,num,name,na,nb,nc⟩:=n;refine Zo 0 163 [.cell 4 43,.tmp 5] Tryz.func46 fun X=>?_;refine Zwa (by kernel_rfl) ?_;simp -implicitDefEqProofs only[go_sem,seval,↓reduceIte,Z8c];intro g2 g4;refine Z1f (zi hn (zi @Int.natCast_nonneg (zi @Int.ofNat_lt (zi hil @Zg)))) ?_;intro g6;refine AW.weak (Zz (fun o=>o==2 || o==6) (l:=[(2,.view .new (.agg [Za c1 6 Z6 sl,Za c2 2 Zj env])),(4,.ptr 4 g4 0),(5,.int .i64 0),(6,.view .new (.agg [.int .u8 op,.int .i64 num,.str name,.int .i64 na,.int .i64 nb,.int .i64 nc]))]) (m:=[(4,.cells .new g4 0 [.int .u8 0,.int .i64 0,.bool false])]) ?_ ?_) ?_
 ·refine Zs ?_
  refine ⟨?_,Zb _,Zb _,?_⟩
  ·exact Fz.ptr (v := .agg [Za c1 6 Z6 sl,Za c2 2 Zj env]) (c := .new) (fz:=0) rfl zp
  ·exact Fz.ptr (v := .agg [.int .u8 op,.int .i64 num,.str name,.int .i64 na,.int .i64 nb,.int .i64 nc]) (c := .new) (fz:=0) rfl zp
 ·simp only [Zm,Zt,and_true]
  exact FzO.keep rfl zp
 simp only at ho hA hB ⊢
 have n1:(op==1)=false:=by simp;omega
 have n2:(op==2)=false:=by simp;omega
 have n3:(op==3)=false:=by simp;omega
 have n4:(op==4)=false:=by simp;omega
 have n5:(op==5)=false:=by simp;omega
 have n6:(op==6)=false:=by simp;omega
 have o21:decide (op≤21)=true:=by simp;omega
 by_cases h15:op≤15
 ·have o15:decide (op≤15)=true:=by simp;omega
  refine Zf (zi n1 (zi n2 (zi n3 (zi n4 (zi n5 (zi n6 o15)))))) ?_;refine CallA.pure hG (by kernel_rfl) ?_;simp -implicitDefEqProofs only[go_sem,seval,↓reduceIte,Zl,Zx,Z8c,Zg];refine (two10 G hG c1.ent c2.ent sl env ⟨op,num,name,na,nb,nc⟩ A B ⟨ho.1,h15⟩ hA hB fA fB).mono ?_;rintro _ _ rfl;simp -implicitDefEqProofs only[go_sem,seval,↓reduceIte,Zpb,Z7a];exact Zr
 have o15:decide (op≤15)=false:=by simp;omega
 by_cases h17:op≤17
 ·have o17:decide (op≤17)=true:=by simp;omega
  refine Zf (zi n1 (zi n2 (zi n3 (zi n4 (zi n5 (zi n6 (zi o15 o17))))))) ?_;refine CallA.pure hG (by kernel_rfl) ?_;simp -implicitDefEqProofs only[go_sem,seval,↓reduceIte,Zl,Zx,Z8c,Zg];refine (alike10 G hG c1.ent c2.ent sl env ⟨op,num,name,na,nb,nc⟩ A B ⟨show 16≤op by omega,h17⟩ hA hB fA fB).mono ?_;rintro _ _ rfl;simp -implicitDefEqProofs only[go_sem,seval,↓reduceIte,Zpb,Z7a];exact Zr
 have o17:decide (op≤17)=false:=by simp;omega
 refine Zf (zi n1 (zi n2 (zi n3 (zi n4 (zi n5 (zi n6 (zi o15 (zi o17 o21)))))))) ?_;refine CallA.pure hG (by kernel_rfl) ?_;simp -implicitDefEqProofs only[go_sem,seval,↓reduceIte,Zl,Zx,Z8c,Zg];refine (logic10 G hG c1.ent c2.ent sl env ⟨op,num,name,na,nb,nc⟩ A B ⟨show 18≤op by omega,ho.2⟩ hA hB fA fB).mono ?_;rintro _ _ rfl;simp -implicitDefEqProofs only[go_sem,seval,↓reduceIte,Zpb,Z7a];exact Zr
theorem Ze6 (G:Nat→V) (hG:GOk G) (sl:Sl XN) (hs:sl.l.length<1000000) (env:Sl (List UInt8 × Int)) (hv:env.l.length<1000000) (hm:∀ p∈env.l,Zec p.2=true) (x:X) :
  ∀ b:Nat,x.ok=true→Zje x→At sl.l x b→RC G sl env ((b+x.size-1:Nat):Int) (evX env.l x):=by
 induction x with
 | leaf op num name =>
  intro b h hn hat;simp only [X.ok,Bool.and_eq_true,decide_eq_true_eq] at h;have hr:=(Zvg h.1).1;exact leaf10 G hG sl hs env hv _ _ hat.get ⟨hr,h.2⟩
 | un op a ih =>
  intro b h hn hat;have hsz:=a.size_pos;simp only [X.ok,Bool.and_eq_true,decide_eq_true_eq] at h;have na:Zje a:=fun o n nm hm=>hn o n nm (by simp [Zge,hm]);have hA:=ih b h.2 na hat.un;rw [show ((b+a.size-1:Nat):Int)=(b:Int)+a.size-1 by omega] at hA
  obtain h5 | h6:op=5∨op=6:=by omega
  ·exact neg10 G hG sl hs env _ _ hat.get (evX env.l a) h5 hA (Zod hm a h.2 na)
  ·exact not10 G hG sl hs env _ _ hat.get (evX env.l a) h6 hA (Zod hm a h.2 na)
 | bin op a c iha ihc =>
  intro b h hn hat;have hsz:=a.size_pos;have hsc:=c.size_pos;simp only [X.ok,Bool.and_eq_true,decide_eq_true_eq] at h;have na:Zje a:=fun o n nm hm=>hn o n nm (by simp [Zge,hm]);have nc:Zje c:=fun o n nm hm=>hn o n nm (by simp [Zge,hm]);have hA:=iha b h.1.2 na hat.bin.1;have hC:=ihc (b+a.size) h.2 nc hat.bin.2;rw [show ((b+a.size-1:Nat):Int)=(b:Int)+a.size-1 by omega] at hA;rw [show ((b+a.size+c.size-1:Nat):Int)=(b:Int)+a.size+c.size-1 by omega] at hC;exact bin10 G hG sl hs env _ _ hat.get (evX env.l a) (evX env.l c) h.1.1 hA hC (Zod hm a h.1.2 na) (Zod hm c h.2 nc)
 | ite a c d iha ihc ihd =>
  intro b h hn hat;have hsz:=a.size_pos;have hsc:=c.size_pos;have hsd:=d.size_pos;simp only [X.ok,Bool.and_eq_true] at h;have na:Zje a:=fun o n nm hm=>hn o n nm (by simp [Zge,hm]);have nc:Zje c:=fun o n nm hm=>hn o n nm (by simp [Zge,hm]);have nd:Zje d:=fun o n nm hm=>hn o n nm (by simp [Zge,hm]);have hA:=iha b h.1.1 na hat.ite.1;have hC:=ihc (b+a.size) h.1.2 nc hat.ite.2.1;have hD:=ihd (b+a.size+c.size) h.2 nd hat.ite.2.2;rw [show ((b+a.size-1:Nat):Int)=(b:Int)+a.size-1 by omega] at hA;rw [show ((b+a.size+c.size-1:Nat):Int)=(b:Int)+a.size+c.size-1 by omega] at hC;rw [show ((b+a.size+c.size+d.size-1:Nat):Int)=(b:Int)+a.size+c.size+d.size-1 by omega] at hD;exact ite10 G hG sl hs env _ _ hat.get (evX env.l a) (evX env.l c) (evX env.l d) rfl hA hC hD (Zod hm a h.1.1 na)
end Go.Hs
end

section
namespace Go.Hs
theorem Ztl {w:List UInt8} (h:isP w≠0):Zla w=(w.length,isP w)∧0<w.length∧w.length≤64:=by
 unfold isP at h ⊢
 split at h
 ·exact absurd rfl h
 ·rename_i q
  rw [if_neg q];simp only [not_or,Decidable.not_not,Nat.not_lt] at q;refine ⟨Prod.ext q.1 rfl,?_,by omega⟩
  cases w with
  | nil=>exact absurd rfl h
  | cons=>simp
end Go.Hs
end

section
namespace Go.Hs
inductive Lx:List UInt8→List (List UInt8)→Prop where
 | nil {s:List UInt8}:blk s=s.length→Lx s []
 | cons {s:List UInt8} {ws:List (List UInt8)} {k:Nat}:blk s<s.length→(Zla (s.drop (blk s))).1=k→0<k→k≤64→Lx ((s.drop (blk s)).drop k) ws→Lx s ((s.drop (blk s)).take k::ws)
theorem Za3 {s:List UInt8} (hb:blk s<s.length) {k:Nat} (hk:(Zla (s.drop (blk s))).1=k) (h0:0<k) (h64:k≤64) :
  isP ((s.drop (blk s)).take k)=(Zla (s.drop (blk s))).2∧(Zla (s.drop (blk s))).2≠0:=by
 have hc:=Ziq s;generalize s.drop (blk s)=u at hk hc ⊢
 have hp:Zna [45,45] u=false:=by
  cases u with
  | nil=>rfl
  | cons c r=>exact (hc c r rfl).2
 obtain ⟨q1,q2⟩:=Zps hp (by omega);rw [hk] at q1;refine ⟨?_,q2⟩;rw [Zwp,if_neg (by rw [List.length_take];omega),q1]
theorem Zs6 {S:List UInt8}:∀ (f i:Nat) (acc l:List Tk),S.length<f+i→i≤S.length→Z1c f S (i+blk (S.drop i)) acc=(l,0,0)→∃ l2,l=acc++l2∧Lx (S.drop i) (l2.map Zwg)
 | 0,i,acc,l,hf,hi,_=>by omega
 | f+1,i,acc,l,hf,hi,h=>by
  have hbl:=Zus (S.drop i);rw [List.length_drop] at hbl
  by_cases hb:blk (S.drop i)<(S.drop i).length
  ·have hb':=hb
   rw [List.length_drop] at hb'
   have hdd:S.drop (i+blk (S.drop i))=(S.drop i).drop (blk (S.drop i)):=by rw [List.drop_drop]
   by_cases hk:(Zla (S.drop (i+blk (S.drop i)))).1=0∨(Zla (S.drop (i+blk (S.drop i)))).1 > 64
   ·rw [Zso (by omega) (by omega) hk] at h
    have:=congrArg (fun x=>x.2.2) h;simp at this
   ·rw [Z1c,if_pos (by omega),if_neg hk] at h
    rw [hdd] at h hk;simp only [not_or,Nat.not_lt] at hk;have hle:=Zyl ((S.drop i).drop (blk (S.drop i)));rw [List.length_drop,List.length_drop] at hle;obtain ⟨p1,p2⟩:=Za3 hb rfl (by omega) (by omega);obtain ⟨l2,e1,e2⟩:=Zs6 f (i+blk (S.drop i)+(Zla ((S.drop i).drop (blk (S.drop i)))).1) _ l (by omega) (by omega) h;refine ⟨_::l2,by rw [e1,List.append_assoc];rfl,?_⟩;rw [List.map_cons]
    have hw:∀ p,Zwg ⟨(Zla ((S.drop i).drop (blk (S.drop i)))).2,((S.drop i).drop (blk (S.drop i))).take (Zla ((S.drop i).drop (blk (S.drop i)))).1,p⟩=((S.drop i).drop (blk (S.drop i))).take (Zla ((S.drop i).drop (blk (S.drop i)))).1:=by
     intro p;unfold Zwg;simp only;rw [p1,if_pos rfl]
    rw [hw];refine .cons hb rfl (by omega) (by omega) ?_;rw [← List.drop_drop,hdd] at e2;exact e2
  ·rw [List.length_drop] at hb
   rw [Zro (by omega)] at h;have hl:acc=l:=congrArg Prod.fst h;refine ⟨[],by rw [hl,List.append_nil],.nil ?_⟩;rw [List.length_drop];omega
theorem Zkaa {s:List UInt8} {l:List Tk} (h:Zac s=(l,0,0)):Lx s (l.map Zwg):=by
 unfold Zac at h
 split at h
 ·have:=congrArg (fun x=>x.2.2) h
  simp at this
 ·have h2:Z1c (s.length+1) s (0+blk (s.drop 0)) []=(l,0,0):=by simpa using h
  obtain ⟨l2,e1,e2⟩:=Zs6 _ 0 [] l (by omega) (Nat.zero_le _) h2;rw [e1,List.nil_append];simpa using e2
end Go.Hs
end

section
namespace Go.Hs
def parW (b:Bool) (ts:List (List UInt8)):List (List UInt8):=if b then [40]::(ts++[[41]]) else ts
def X.W:X→Int→List (List UInt8)
 | .leaf op num name,_=>[if op=1 then putR num else if op=2 then name else sgT op.toNat]
 | .un op a,k=>parW (9<k) (sgT op.toNat::a.W 9)
 | .bin op a b,k=>parW (lvl op.toNat<k) (a.W (lvl op.toNat)++sgT op.toNat::b.W (lvl op.toNat+1))
 | .ite a b c,_=>wIf::(a.W 0++Zwj::(b.W 0++Zxj::(c.W 0++[Zpf])))
def X.fit:X→Prop
 | .leaf _ num _=>num≤9223372036854775807
 | .un _ a=>a.fit
 | .bin _ a b=>a.fit∧b.fit
 | .ite a b c=>a.fit∧b.fit∧c.fit
theorem Z34 {op num:Int} {name:List UInt8} (h:(X.leaf op num name).ok=true):(op=1∧0≤num∧name=[])∨(op=2∧num=0∧isP name=2)∨(op=3∧num=0∧name=[])∨(op=4∧num=0∧name=[]):=by
 simp only [X.ok,Bool.and_eq_true,decide_eq_true_eq] at h;obtain ⟨h1,h2⟩:=h;unfold Zwd at h1
 split at h1
 ·cases h1
 rename_i h0;simp only [not_or,Int.not_lt] at h0
 split at h1
 ·simp only [Bool.and_eq_true,beq_iff_eq] at h1
  rename_i q;exact .inr (.inl ⟨q,h1⟩)
 ·rename_i q
  simp only [Bool.and_eq_true,beq_iff_eq,Bool.or_eq_true] at h1 q h0
  rcases h1.2 with q1 | q1
  ·exact .inl ⟨q1,h0.2.2,h1.1⟩
  ·by_cases o1:op=1
   ·exact .inl ⟨o1,h0.2.2,h1.1⟩
   ·by_cases o3:op=3
    ·exact .inr (.inr (.inl ⟨o3,q1,h1.1⟩))
    ·exact .inr (.inr (.inr ⟨by omega,q1,h1.1⟩))
theorem row_inj:∀ (x y:X) (k:Int),x.ok=true→y.ok=true→x.row k=y.row k→x=y:=by
 have last:∀ {a b:List XN} {m n:XN},a++[m]=b++[n]→a=b∧m=n:=by
  intro a b m n h;obtain ⟨q1,q2⟩:=List.append_inj' h rfl;exact ⟨q1,by simpa using q2⟩
 have body:∀ (x:X) (k:Int),∃ b,x.row k=b++[x.top k]:=fun x k=>by obtain ⟨b,h,_⟩:=x.row_top k;exact ⟨b,h⟩
 have opr:∀ (x:X) (k:Int),x.ok=true→match x with
   | .leaf op _ _=>1≤op∧op≤4
   | .un op _=>5≤op∧op≤6
   | .bin op _ _=>7≤op∧op≤21
   | .ite .. => True:=by
  intro x k h
  cases x with
  | leaf op num name=>rcases Z34 h with ⟨h,_⟩ | ⟨h,_⟩ | ⟨h,_⟩ | ⟨h,_⟩<;>(show 1≤op∧op≤4;omega)
  | un op a=>simp only [X.ok,Bool.and_eq_true,decide_eq_true_eq] at h;exact h.1
  | bin op a b=>simp only [X.ok,Bool.and_eq_true,decide_eq_true_eq] at h;exact h.1.1
  | ite=>trivial
 intro x
 induction x with
 | leaf op num name =>
  intro y k hx hy h;have o1:=opr _ k hx;have o2:=opr y k hy;obtain ⟨b,hb⟩:=body y k;rw [hb] at h;obtain ⟨_,ht⟩:=last (a:=[]) h
  cases y with
  | leaf op' num' name'=>simp only [X.top,XN.mk.injEq] at ht;obtain ⟨rfl,rfl,rfl,_⟩:=ht;rfl
  | un op' a'=>simp only [X.top,XN.mk.injEq] at ht o1 o2;omega
  | bin op' a' b'=>simp only [X.top,XN.mk.injEq] at ht o1 o2;omega
  | ite a' b' c'=>simp only [X.top,XN.mk.injEq] at ht o1 o2;omega
 | un op a iha =>
  intro y k hx hy h;have o1:=opr _ k hx;have o2:=opr y k hy
  cases y with
  | leaf op' num' name' =>
   have ht:=(last (b:=[]) h).2;simp only [XN.mk.injEq] at ht o1 o2;omega
  | un op' a' =>
   obtain ⟨hr,ht⟩:=last h;simp only [XN.mk.injEq] at ht;simp only [X.ok,Bool.and_eq_true] at hx hy;rw [iha a' k hx.2 hy.2 hr,ht.1]
  | bin op' a' b' =>
   have ht:=(last h).2;simp only [XN.mk.injEq] at ht o1 o2;omega
  | ite a' b' c' =>
   have ht:=(last h).2;simp only [XN.mk.injEq] at ht o1 o2;omega
 | bin op a b iha ihb =>
  intro y k hx hy h;have o1:=opr _ k hx;have o2:=opr y k hy
  cases y with
  | leaf op' num' name' =>
   have ht:=(last (b:=[]) h).2;simp only [XN.mk.injEq] at ht o1 o2;omega
  | un op' a' =>
   have ht:=(last h).2;simp only [XN.mk.injEq] at ht o1 o2;omega
  | bin op' a' b' =>
   obtain ⟨hr,ht⟩:=last h;simp only [XN.mk.injEq] at ht;simp only [X.ok,Bool.and_eq_true] at hx hy
   have hs:a.size=a'.size:=by omega
   obtain ⟨q1,q2⟩:=List.append_inj hr (by rw [X.row_len,X.row_len];exact hs);rw [← hs] at q2;rw [iha a' k hx.1.2 hy.1.2 q1,ihb b' _ hx.2 hy.2 q2,ht.1]
  | ite a' b' c' =>
   have ht:=(last h).2;simp only [XN.mk.injEq] at ht o1 o2;omega
 | ite a b c iha ihb ihc =>
  intro y k hx hy h;have o2:=opr y k hy
  cases y with
  | leaf op' num' name' =>
   have ht:=(last (b:=[]) h).2;simp only [XN.mk.injEq] at ht o2;omega
  | un op' a' =>
   have ht:=(last h).2;simp only [XN.mk.injEq] at ht o2;omega
  | bin op' a' b' =>
   have ht:=(last h).2;simp only [XN.mk.injEq] at ht o2;omega
  | ite a' b' c' =>
   obtain ⟨hr,ht⟩:=last h;simp only [XN.mk.injEq] at ht;simp only [X.ok,Bool.and_eq_true] at hx hy
   have hs:a.size=a'.size:=by omega
   have hs2:b.size=b'.size:=by omega
   obtain ⟨q1,q2⟩:=List.append_inj hr (by rw [List.length_append,List.length_append,X.row_len,X.row_len,X.row_len,X.row_len];omega);obtain ⟨q3,q4⟩:=List.append_inj q1 (by rw [X.row_len,X.row_len];exact hs);rw [← hs] at q4 q2;rw [← hs2] at q2;rw [iha a' k hx.1.1 hy.1.1 q3,ihb b' _ hx.1.2 hy.1.2 q4,ihc c' _ hx.2 hy.2 q2]
end Go.Hs
end

section
namespace Go.Hs
def ErrS (x:Bool × RS):Prop:=x.1=false→x.2.e≠0
theorem Zfd {x:Bool × RS} {k:RS→Bool × RS} (h1:ErrS x) (h2:x.1=true→ErrS (k x.2)):ErrS (andThen x k):=by
 obtain ⟨b,r⟩:=x;cases b
 ·exact h1
 ·exact h2 rfl
theorem ErrS.ok {x:RS}:ErrS (true,x):=fun h=>by cases h
theorem Z5p (l:List Tk) (w:List UInt8) (r:RS):ErrS (Zkf l w r):=by
 unfold Zkf
 split
 ·intro _;show (80:Int)≠0;decide
 ·exact .ok
theorem Z1x {l:List Tk}:∀ (f:Nat) (n:Int) (r:RS),l.length<f+r.i→r.i≤l.length→ErrS (Zw l f n r)
 | 0,n,r,h,h2=>by omega
 | f+1,n,r,h,h2=>by
  have hin:∀ n (r':RS),r.i<r'.i→r'.i≤l.length→ErrS (Zw l f n r'):=fun n r' a b=>Z1x f n r' (by omega) b;have hbs:=Znc l f;rw [Zw];refine Zfd ?_ fun _=>?_
  ·have hkl:(Z4 l r.i).kind≠0→r.i+1≤l.length:=fun q=>Zkg q
   unfold Z2a
   split
   ·unfold Zbd
    split
    ·rename_i q;intro _;exact q
    ·exact .ok
   split
   ·exact .ok
   split
   ·intro _;show (80:Int)≠0;decide
   rename_i k0;have hlt:=hkl k0
   split
   ·exact Zfd (hin 9 r.adv (Nat.lt_succ_self _) hlt) fun _ => .ok
   split
   ·exact Zfd (hin 1 r.adv (Nat.lt_succ_self _) hlt) fun _=>Z5p _ _ _
   split
   ·unfold Z8a
    have b0:=Zsd l wIf r;refine Zfd (Z5p _ _ _) fun q1=>?_;have m1:=b0.2 q1
    have u1:r.i+1≤(Zkf l wIf r).2.i:=by
     unfold Zkf at q1 ⊢
     split at q1
     ·cases q1
     ·rename_i qq;rw [if_neg qq];exact Nat.le_refl _
    have i1:=m1.inn h2;generalize (Zkf l wIf r).2=r1 at u1 i1 ⊢;have b1:=hbs 1 r1;refine Zfd (hin 1 r1 u1 i1) fun _=>?_;have u2:=b1.up;have i2:=b1.inn i1;generalize (Zw l f 1 r1).2=a at u2 i2 ⊢;have b2:=(Zsd l Zwj a).1;refine Zfd (Z5p _ _ _) fun _=>?_;have u3:=b2.up;have i3:=b2.inn i2;generalize (Zkf l Zwj a).2=r2 at u3 i3 ⊢;have b3:=hbs 1 r2;refine Zfd (hin 1 r2 (by omega) i3) fun _=>?_;have u4:=b3.up;have i4:=b3.inn i3;generalize (Zw l f 1 r2).2=b at u4 i4 ⊢;have b4:=(Zsd l Zxj b).1;refine Zfd (Z5p _ _ _) fun _=>?_;have u5:=b4.up;have i5:=b4.inn i4;generalize (Zkf l Zxj b).2=r3 at u5 i5 ⊢;refine Zfd (hin 1 r3 (by omega) i5) fun _=>?_;exact Zfd (Z5p _ _ _) fun _ => .ok
   split
   ·exact .ok
   ·intro _;show (80:Int)≠0;decide
  ·have hb:=Zah hbs r
   have u0:=hb.up;have i0:=hb.inn h2;generalize (Z2a l (Zw l f) r).2=q at u0 i0 ⊢
   have key:∀ (m:Nat) (q:RS),r.i≤q.i→q.i≤l.length→ErrS (Z5b l (Zw l f) n m q):=by
    intro m
    induction m with
    | zero=>intro q _ _;exact .ok
    | succ m ih =>
     intro q hq hl;rw [Z5b]
     split
     ·exact .ok
     ·rename_i op ho
      split
      ·exact .ok
      ·have hb:=hbs (lvl op+1) q.adv
       have hlt:=Zog ho;refine Zfd (hin _ q.adv (by show r.i<q.i+1;omega) hlt) fun _=>?_;refine ih _ ?_ ?_
       ·have:=hb.up
        show r.i≤_
        have h3:q.i+1≤_:=this;simp only [Zdf];omega
       ·simp only [Zdf];exact hb.inn hlt
   exact key _ q u0 i0
theorem Gr.size {n:Int} {ts:List (List UInt8)} {x:X} (h:Gr n ts x):x.size≤ts.length:=by
 induction h<;>simp only [X.size,List.length_cons,List.length_append,List.length_nil]<;>omega
theorem Gr.fit {n:Int} {ts:List (List UInt8)} {x:X} (h:Gr n ts x):x.fit:=by
 induction h with
 | @num n t v h1 h2 =>
  show v≤9223372036854775807
  have hp:(Z4b (Zmd t)).1≤9223372036854775807:=by
   have ht:∀ z:Int,(told z).1≤9223372036854775807:=by
    intro z;unfold told
    split
    ·rename_i q
     simp only [Zec,decide_eq_true_eq] at q;exact q.2
    ·show (0:Int)≤_;decide
   generalize Zmd t=u;unfold Z4b;generalize (u.head? == some 45)=bl;cases bl
   ·simp only [Bool.false_eq_true,if_false]
    split
    ·show (0:Int)≤_;decide
    ·exact ht _
   ·simp only [if_true]
    split
    ·show (0:Int)≤_;decide
    ·exact ht _
  rw [h2] at hp;exact hp
 | name=>show (0:Int)≤_;decide
 | tr=>show (0:Int)≤_;decide
 | fa=>show (0:Int)≤_;decide
 | neg _ _ ih=>exact ih
 | not _ _ ih=>exact ih
 | par _ ih=>exact ih
 | bin _ _ _ _ _ i1 i2=>exact ⟨i1,i2⟩
 | ite _ _ _ i1 i2 i3=>exact ⟨i1,i2,i3⟩
theorem Zx3 {s:List UInt8} {l:List Tk} (h:Zac s=(l,0,0)):l.length≤s.length:=by
 have key:∀ {s:List UInt8} {ws:List (List UInt8)},Lx s ws→ws.length≤s.length:=by
  intro s ws h
  induction h with
  | nil=>exact Nat.zero_le _
  | @cons s ws k hb hk h0 h64 _ ih =>
   have hle:=Zyl (s.drop (blk s));rw [hk,List.length_drop] at hle;rw [List.length_drop,List.length_drop] at ih;simp only [List.length_cons];omega
 have:=key (Zkaa h);rwa [List.length_map] at this
end Go.Hs
end

section
namespace Go.Hs
open Go.Proofs
set_option maxRecDepth 10000
set_option maxHeartbeats 1000000
structure EvIn (s:Sl XN) (env:Sl (List UInt8 × Int)):Prop where
 hs:s.l.length<1000000
 hnm:∀ n∈s.l,n.name.length<100000
 hnum:∀ n∈s.l,Zec n.num=true
 hv:env.l.length<1000000
 hf:∀ p∈env.l,Zec p.2=true
theorem Zqm {x:X} (h:∀ n∈x.row 0,Zec n.num=true):Zje x:=by
 intro op num name hm;obtain ⟨b,hb⟩:=Zwt hm;have ht:=hb.top;have:=h _ (List.mem_of_getElem? ht);exact this
theorem Zlf {l:List XN} (h:Zbb l=0):∃ x:X,x.ok=true∧l=x.row 0:=by
 refine Zlm.1 ?_;rw [Zfk];unfold Zbb at h
 split at h
 ·cases h
 ·rename_i h0;simpa using h0
open Classical in
noncomputable def evL (env:List (List UInt8 × Int)) (l:List XN):EV :=
 if h:Zbb l=0 then evX env (Zlf h).choose else .err (Zbb l)
theorem Z30 {env:List (List UInt8 × Int)} {l:List XN} (h:Zbb l≠0):evL env l = .err (Zbb l):=dif_neg h
theorem Z1p {env:List (List UInt8 × Int)} {x:X} (hx:x.ok=true) (h:Zbb (x.row 0)=0):evL env (x.row 0)=evX env x:=by
 unfold evL;rw [dif_pos h];have hc:=(Zlf h).choose_spec;exact congrArg (evX env) (row_inj _ _ 0 hc.1 hx hc.2.symm)
theorem Z00 {env:List (List UInt8 × Int)} {l:List XN} {k:Int} (hnum:∀ n∈l,Zec n.num=true):Zn9 env l k ((evL env l).need k):=by
 by_cases h:Zbb l=0
 ·right
  obtain ⟨x,hx,rfl⟩:=Zlf h;exact ⟨h,x,hx,Zqm hnum,rfl,by rw [Z1p hx h]⟩
 ·left
  exact ⟨h,by rw [Z30 h]<;>rfl⟩
theorem Zt0 (G:Nat→V) (hE:GExp G) (c c2:Col) (s:Sl XN) (env:Sl (List UInt8 × Int)) (h:EvIn s env):Spec Tryz.prog G 22 [.agg [Za c 6 Z6 s],Za c2 2 Zj env] Zp (fun v _=>v=Z3p ((evL env.l s.l).need 1)):=by
 have hG:=hE.ok;refine Zo 0 17 [.tmp 4,.tmp 5] Tryz.func22 fun X=>?_;refine Z1 ?_;intro g2;refine Z ?_;refine Znf (zi @Zl @Zx) hG ?_ (s:=(Z64 G hE c.ent c2.ent s h.hs h.hnm env h.hv h.hf 1 (by decide) _ (Z00 h.hnum)));simp -implicitDefEqProofs only[go_sem,seval,↓reduceIte,Zpb,Z7a];intro g6;exact Zr
theorem eval10 (G:Nat→V) (hG:GOk G) (c c2:Col) (s:Sl XN) (env:Sl (List UInt8 × Int)) (h:EvIn s env):Spec Tryz.prog G 21 [Za c 6 Z6 s,Za c2 2 Zj env] Zp (fun v _=>v=Zpb (evL env.l s.l)):=by
 refine Zo 0 22 [.cell 4 43,.tmp 5] Tryz.func21 fun X=>?_;refine Z1 ?_;intro g4
 have hc0:(Zbb s.l != 0)=false∨(Zbb s.l != 0)=true:=by cases (Zbb s.l != 0)<;>simp
 refine Z ?_;refine Zcf @Zl hG ?_ (s:=(Zhk G hG c.ent s h.hs h.hnm))
 by_cases hc:Zbb s.l=0
 rotate_left
 ·have hcb:(Zbb s.l != 0)=true:=by simpa using hc
  rw [Z30 hc];exact Zq hcb
 obtain ⟨x,hx,hl⟩:=Zlf hc
 have hsz:((0+x.size-1:Nat):Int)=(s.l.length:Int)-1:=by
  have:=x.size_pos;rw [hl,Go.Hs.X.row_len];omega
 have hn:=Zqm (hl ▸ h.hnum);have hW:=Ze6 G hG s h.hs env h.hv h.hf x 0 hx hn (hl ▸ Z2h x);have hF:=Zod h.hf x hx hn
 have hLx:evL env.l s.l=evX env.l x:=by rw [hl,Z1p hx (hl ▸ hc)]
 rw [hsz] at hW;rw [hLx];have hw3:IntKind.i64.wrap ((s.l.length:Int)-1)=(s.l.length:Int)-1:=w64 (by have:=h.hs;omega) (by have:=h.hs;omega);rw [hc];refine Zf hw3 ?_;refine Znf (zi @Zl (zi @Zx @Zg)) hG ?_ (s:=(hW c.ent c2.ent));simp -implicitDefEqProofs only[go_sem,seval,↓reduceIte,Zpb,Z7a];exact Zr
theorem num10 (G:Nat→V) (hG:GOk G) (c c2:Col) (s:Sl XN) (env:Sl (List UInt8 × Int)) (h:EvIn s env):Spec Tryz.prog G 23 [Za c 6 Z6 s,Za c2 2 Zj env] Zp (fun v _=>v=Z3p ((evL env.l s.l).need 1)):=by
 refine Zo 0 21 [.tmp 4,.tmp 5] Tryz.func23 fun X=>?_;refine Z1 ?_
 have hc0:(Zbb s.l != 0)=false∨(Zbb s.l != 0)=true:=by cases (Zbb s.l != 0)<;>simp
 refine Z ?_;refine Zcf @Zl hG ?_ (s:=(Zhk G hG c.ent s h.hs h.hnm))
 by_cases hc:Zbb s.l=0
 rotate_left
 ·have hcb:(Zbb s.l != 0)=true:=by simpa using hc
  rw [Z30 hc];exact Zq hcb
 obtain ⟨x,hx,hl⟩:=Zlf hc
 have hsz:((0+x.size-1:Nat):Int)=(s.l.length:Int)-1:=by
  have:=x.size_pos;rw [hl,Go.Hs.X.row_len];omega
 have hn:=Zqm (hl ▸ h.hnum);have hW:=Ze6 G hG s h.hs env h.hv h.hf x 0 hx hn (hl ▸ Z2h x);have hF:=Zod h.hf x hx hn
 have hLx:evL env.l s.l=evX env.l x:=by rw [hl,Z1p hx (hl ▸ hc)]
 rw [hsz] at hW;rw [hLx];have hw3:IntKind.i64.wrap ((s.l.length:Int)-1)=(s.l.length:Int)-1:=w64 (by have:=h.hs;omega) (by have:=h.hs;omega);rw [hc];refine Zf hw3 ?_;refine Znf (zi @Zl (zi @Zx @Zg)) hG ?_ (s:=(Zao G hG c.ent c2.ent s env _ (evX env.l x) hW hF));simp -implicitDefEqProofs only[go_sem,seval,↓reduceIte,Z3p];exact Zr
end Go.Hs
end
