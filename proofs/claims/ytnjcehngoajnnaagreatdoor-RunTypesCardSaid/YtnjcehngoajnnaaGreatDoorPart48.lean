/- Part 48 of the proof of a statement of seat YtnjcehngoajnnaaGreatDoor: HsEvPl HsRunPl HsGRuA HsGRuB HsGActR2 HsGRuC. -/
import Derived.Test.YtnjcehngoajnnaaGreatDoorPart45
import Derived.Test.YtnjcehngoajnnaaGreatDoorPart40
import Derived.Test.YtnjcehngoajnnaaGreatDoorPart42
import Derived.Test.YtnjcehngoajnnaaGreatDoorPart46
import Derived.Test.YtnjcehngoajnnaaGreatDoorPart47
import Derived.Test.YtnjcehngoajnnaaGreatDoorPart38
set_option linter.unusedSimpArgs false
set_option linter.unusedVariables false
section
namespace Go.Hs
theorem numV (op num:Int) (name:List UInt8) (a b c:Int) (h:0≤num∧num≤9223372036854775807):Zsb (XN.mk op num name a b c).num=true:=by
 show decide (_≤num∧num≤_)=true
 rw [decide_eq_true_iff];omega
theorem Zue:∀ (x:X) (k:Int),x.ok=true→x.fit→∀ n∈x.row k,Zsb n.num=true
 | .leaf op num name,k,ho,h=>by
  intro n hn;rw [X.row,List.mem_singleton] at hn;simp only [X.ok,Bool.and_eq_true] at ho;subst hn;exact numV _ _ _ _ _ _ ⟨Zd1 ho.1,h⟩
 | .un op a,k,ho,h=>by
  intro n hn;simp only [X.ok,Bool.and_eq_true] at ho;rw [X.row,List.mem_append,List.mem_singleton] at hn
  rcases hn with q | q
  ·exact Zue a k ho.2 h n q
  ·rw [q];exact numV _ _ _ _ _ _ (by decide)
 | .bin op a b,k,ho,h=>by
  intro n hn;simp only [X.ok,Bool.and_eq_true] at ho;rw [X.row,List.mem_append,List.mem_append,List.mem_singleton] at hn
  rcases hn with (q | q) | q
  ·exact Zue a k ho.1.2 h.1 n q
  ·exact Zue b _ ho.2 h.2 n q
  ·rw [q];exact numV _ _ _ _ _ _ (by decide)
 | .ite a b c,k,ho,h=>by
  intro n hn;simp only [X.ok,Bool.and_eq_true] at ho;rw [X.row,List.mem_append,List.mem_append,List.mem_append,List.mem_singleton] at hn
  rcases hn with ((q | q) | q) | q
  ·exact Zue a k ho.1.1 h.1 n q
  ·exact Zue b _ ho.1.2 h.2.1 n q
  ·exact Zue c _ ho.2 h.2.2 n q
  ·rw [q];exact numV _ _ _ _ _ _ (by decide)
end Go.Hs
end

section
namespace Go.Hs
def Z3k:List UInt8:=[97,114,103]
structure RU where
 vars:List (List UInt8 × Int)
 emits:List (List UInt8 × Int)
 done:Nat
def Zbg (l:List (List UInt8 × Int)) (s:List UInt8):Option Nat:=l.findIdx? fun p=>p.1==s
def Zzb (w:List (List UInt8 × Int)→List XN→EV) (s:ASt) (r:RU):RU × Int :=
 if s.kind=1∧Zbg r.vars s.name=none then (r,90)
 else if (w r.vars s.x).er≠0 then (r,(w r.vars s.x).er)
 else if s.kind=1 then (⟨r.vars.set ((Zbg r.vars s.name).getD 0) (s.name,(w r.vars s.x).nm),r.emits,r.done+1⟩,0)
 else (⟨r.vars,r.emits++[(s.name,(w r.vars s.x).nm)],r.done+1⟩,0)
def Z3f (w:List (List UInt8 × Int)→List XN→EV):List ASt→RU→RU × Int
 | [],r=>(r,0)
 | s::t,r=>if (Zzb w s r).2≠0 then Zzb w s r else Z3f w t (Zzb w s r).1
theorem Z11 {w:List (List UInt8 × Int)→List XN→EV} {b:List ASt} {k:Nat} {s:ASt} {r:RU} (h:b[k]? = some s):Z3f w (b.drop k) r=if (Zzb w s r).2≠0 then Zzb w s r else Z3f w (b.drop (k+1)) (Zzb w s r).1:=by
 obtain ⟨q1,q2⟩:=List.getElem?_eq_some_iff.1 h;rw [List.drop_eq_getElem_cons q1,q2,Z3f]
theorem Zq5 {w:List (List UInt8 × Int)→List XN→EV} {b:List ASt} {r:RU}:Z3f w (b.drop b.length) r=(r,0):=by
 rw [List.drop_length];rfl
structure RuOk (n m:Nat) (r:RU):Prop where
 len:r.vars.length=n
 fit:∀ p∈r.vars,Zsb p.2=true
 done:r.done≤m
 em:r.emits.length≤m
theorem Z5l {l:List (List UInt8 × Int)} {s:List UInt8} {i:Nat} (h:Zbg l s=some i):∃ p,l[i]? = some p∧p.1=s:=by
 obtain ⟨h1,h2,_⟩:=List.findIdx?_eq_some_iff_getElem.1 h;exact ⟨_,List.getElem?_eq_getElem h1,by simpa using h2⟩
theorem Z7k {w:List (List UInt8 × Int)→List XN→EV} {s:ASt} {n m:Nat} {r:RU} (h:RuOk n m r) (hw:(w r.vars s.x).fine):RuOk n (m+1) (Zzb w s r).1:=by
 have base:RuOk n (m+1) r:=⟨h.len,h.fit,by have:=h.done;omega,by have:=h.em;omega⟩
 have hf:Zsb (w r.vars s.x).nm=true:=by
  cases hv:w r.vars s.x with
  | num k=>rw [hv] at hw;exact hw
  | err e=>rfl
  | tru b=>rfl
 unfold Zzb
 split
 ·exact base
 split
 ·exact base
 split
 ·refine ⟨by rw [List.length_set];exact h.len,fun p hp=>?_,by have:=h.done;show _+1≤_;omega,base.em⟩
  rcases List.mem_or_eq_of_mem_set hp with q | q
  ·exact h.fit p q
  ·rw [q];exact hf
 ·refine ⟨h.len,h.fit,by have:=h.done;show _+1≤_;omega,?_⟩
  show (_++[_]).length≤_
  rw [List.length_append];have:=h.em;show _+1≤_;omega
theorem Z01 {w:List (List UInt8 × Int)→List XN→EV}:∀ (b:List ASt) {n m:Nat} {r:RU},RuOk n m r→(∀ v,(∀ p∈v,Zsb p.2=true)→∀ s∈b,(w v s.x).fine)→RuOk n (m+b.length) (Z3f w b r).1
 | [],n,m,r,h,_=>h
 | s::t,n,m,r,h,hw=>by
  have h1:=Z7k (s:=s) h (hw _ h.fit s (List.mem_cons_self ..));rw [Z3f]
  split
  ·exact ⟨h1.len,h1.fit,by have:=h1.done;rw [List.length_cons];omega,by have:=h1.em;rw [List.length_cons];omega⟩
  ·have:=Z01 t h1 (fun v hv q hq=>hw v hv q (List.mem_cons_of_mem _ hq))
   rw [List.length_cons,Nat.add_comm t.length 1,← Nat.add_assoc];exact this
end Go.Hs
end

section
namespace Go.Hs
open Go.Proofs
set_option maxRecDepth 10000
set_option maxHeartbeats 1000000
theorem Zsc (p:List UInt8 × Int):(Zz p).cells.length=2:=rfl
theorem biIm (p:List UInt8 × Int):∀ y∈(Zz p).cells,y.Im:=fun y hy=>by
 simp only [Z1c,V.cells,List.mem_cons,List.not_mem_nil,or_false] at hy
 rcases hy with rfl | rfl<;>first | exact .int _ _ | exact .str _
def stI (c:Col) (a:AM):V:=if a.kind=1 then .iface 182 (Zia c a) else .iface 187 (Zia c a)
theorem Zl5 {c:Col} {a:AM} (h:a.kind=1):stI c a = .iface 182 (Zia c a):=if_pos h
theorem Zk5 {c:Col} {a:AM} (h:a.kind≠1):stI c a = .iface 187 (Zia c a):=if_neg h
theorem Zf4 (G:Nat→V) (c:Col) (a:AM):Spec Tryz.prog G 253 [Zia c a] Zk (fun v _=>v = .agg [Za c 6 Z3 a.x]):=by
 refine Zo 0 6 [.cell 2 24] Tryz.func253 fun X=>?_;simp only [Zvb];refine Z ?_;intro g1 g2;exact Zr
theorem Zt3 (G:Nat→V) (c:Col) (a:AM):Spec Tryz.prog G 254 [Zia c a] Zk (fun v _=>v = .agg [Za c 6 Z3 a.x]):=by
 refine Zo 0 6 [.cell 2 24] Tryz.func254 fun X=>?_;simp only [Zvb];refine Z ?_;intro g1 g2;exact Zr
theorem aMeth:methK Tryz.prog 182 "hopscotch/run.number" 253:=fun _ _=>by kernel_rfl
theorem eMeth:methK Tryz.prog 187 "hopscotch/run.number" 254:=fun _ _=>by kernel_rfl
theorem Zh2 (G:Nat→V) (c:Col) (a:AM):Spec Tryz.prog G 56 [Zia c a] Zk (fun v _=>v=stI c a):=by
 refine Zo 0 12 [.tmp 2] Tryz.func56 fun X=>?_;simp only [Zvb];refine Z ?_;intro g1
 by_cases h:a.kind=1
 ·have q:(a.kind==1)=true:=by simpa using h
  rw [Zl5 h];exact Zq q
 ·have q:(a.kind==1)=false:=by simpa using h
  rw [Zk5 h];exact Zq q
theorem Zbz (G:Nat→V) (p:List UInt8 × Int) (c c1:Col) (a:AM):Spec Tryz.prog G 83 [Zz p,.view c1 (Zia c a)] Zk (fun v _=>v = .bool (p.1==a.name)):=by
 refine Zo 0 10 [.tmp 3] Tryz.func83 fun X=>?_;simp only [Zvb,Z1c];refine Z ?_;intro g2;exact Zr
theorem Zb3 (G:Nat→V) (hG:GOk G) (c c1 c2:Col) (s:Sl (List UInt8 × Int)) (hs:s.l.length<1000000) (a:AM) :
  Spec Tryz.prog G 82 [Za c 2 Zz s,.func (.func 83) [] [.view c1 (Zia c2 a)]] Zk (fun v _=>v = .int .i64 (Z7x (fun p=>p.1==a.name) s.l)):=by
 refine Zo 0 19 [.tmp 4] Tryz.func82 fun X=>?_;refine Z ?_
 refine Zpb s.l.length (fun k (_:Unit)=>st [(0,Za c 2 Zz s),(1,.func (.func 83) [] [.view c1 (Zia c2 a)]),(7,.int .i64 s.l.length),(8,.int .i64 k)] []) (fun k _=>∀ y∈s.l.take k,(y.1==a.name)=false) 0 () (Nat.zero_le _) (by simp)
  (Zg zp zp) ?_
 intro k _ hk hR L2 hL2
 by_cases hk1:k<s.l.length
 ·have hlt:decide ((k:Int)<(s.l.length:Int))=true:=zT
  have hg:=List.getElem?_eq_getElem hk1;generalize s.l[k]=x at hg;refine Zf (zi hlt (zi hg Z1c)) ?_;refine Zcf (zi @Z1c @Zkd) hG ?_ (s:=Zbz G x c2.ent c1.ent a)
  cases h6:(x.1==a.name) with
  | true =>
   refine Z ?_;rw [Zdj (p:=fun p:List UInt8 × Int=>p.1==a.name) hg hR h6]
  | false =>
   have w1:IntKind.i64.wrap ((k:Int)+1)=(k:Int)+1:=w64 (by omega) (by omega);refine Zf w1 ?_;exact hL2 _ ⟨hk1,(),Z6k hg hR h6,Zg zp zp⟩
 ·have hke:k=s.l.length:=by omega
  have hlt:decide ((k:Int)<(s.l.length:Int))=false:=zF;rw [hke,List.take_length] at hR;refine Zf hlt ?_;rw [Zej (p:=fun p:List UInt8 × Int=>p.1==a.name) hR]
theorem Z7h (G:Nat→V) (c:Col) (s:Sl (List UInt8 × Int)) (hs:s.l.length<1000000):InSp Tryz.prog G 54 [Za c 2 Zz s] (Zha Zk [(5005,.dead)])
  (fun v H'=>(s = .nil∧v = .nils∧H' 5005 = .dead)∨(∃ g,s ≠ .nil∧v = .msl 5005 g 0 s.l.length 2∧H' 5005 = .cells .new g 0 (flat (s.l.map Zz)))):=by
 refine Z1d 5000 8 [.tmp 2] Tryz.func54 rfl rfl rfl rfl fun X=>?_;simp only [Zha]
 cases s with
 | nil =>
  refine Z1 ?_;simp only [Za];refine Z ?_;exact .inl (by first | rfl | exact ⟨rfl,rfl,rfl⟩ | exact ⟨rfl,rfl⟩)
 | mk b l =>
  have hq:(Za c 2 Zz (.mk b l)) = .slice c b 2 (l.map Zz):=rfl;have hl:l.length<1000000:=hs;refine Z1 ?_;rw [hq];refine Z ?_;intro g;refine ⟨Zta (by omega) (by rw [List.length_map];omega),fun g2=>?_⟩;refine Z ?_;exact .inr ⟨g2,by rw [List.length_map],zp⟩
end Go.Hs
end

section
namespace Go.Hs
open Go.Proofs
set_option maxRecDepth 10000
set_option maxHeartbeats 1000000
theorem Z9z (l:List (List UInt8 × Int)) (n:List UInt8):Z7x (fun p=>p.1==n) l=match Zbg l n with | some i=>(i:Int) | none => -1:=rfl
theorem Znx {n:Int}:∀ {l:List (List UInt8 × Int)} {i:Nat} {p:List UInt8 × Int},l[i]? = some p→setAt (flat (l.map Zz)) (i * 2+1) [.int .i64 n]=flat ((l.set i (p.1,n)).map Zz)
 | [],i,p,h=>by cases h
 | q::r,0,p,h=>by
  have:q=p:=by simpa using h
  subst this;rfl
 | q::r,i+1,p,h=>by
  have:=Znx (n:=n) (l:=r) (i:=i) (p:=p) (by simpa using h)
  have e1:(i+1) * 2+1=(i * 2+1)+1+1:=by omega
  show ((V.str q.1::V.int .i64 q.2::flat (r.map Zz)).set ((i+1) * 2+1) _)=V.str q.1::V.int .i64 q.2::flat ((r.set i (p.1,n)).map Zz)
  rw [e1,List.set_cons_succ,List.set_cons_succ];exact congrArg _ (congrArg _ this)
noncomputable def worthU (arg:Int) (vars:List (List UInt8 × Int)) (x:List XN):EV:=if x=[] then .num 0 else (evL (vars++[(Z3k,arg)]) x).need 1
noncomputable def runB (arg:Int) (b:List ASt) (vars:List (List UInt8 × Int)):RU × Int:=if Z3a b≠0 then (⟨[],[],0⟩,2) else Z3f (worthU arg) b ⟨vars,[],0⟩
structure RunIn (s:Sl AM) (vs:List (List UInt8 × Int)) (arg:Int):Prop where
 hs:s.l.length<1000000
 hb:∀ a∈s.l,AmB a
 hn:∀ a∈s.l,∀ n∈a.x.l,Zsb n.num=true
 hv:vs.length<100000
 hf:∀ p∈vs,Zsb p.2=true
 ha:Zsb arg=true
theorem Z9x {v:List (List UInt8 × Int)} {arg:Int} (hv:∀ p∈v,Zsb p.2=true) (ha:Zsb arg=true):∀ p∈v++[(Z3k,arg)],Zsb p.2=true:=by
 intro p hp
 rcases List.mem_append.1 hp with hp | hp
 ·exact hv p hp
 ·rw [List.mem_singleton.1 hp];exact ha
theorem RunIn.ev {s:Sl AM} {vs:List (List UInt8 × Int)} {arg:Int} (h:RunIn s vs arg) {a:AM} (hm:a∈s.l) {v:List (List UInt8 × Int)} (hl:v.length=vs.length) (hf:∀ p∈v,Zsb p.2=true) (env:Sl (List UInt8 × Int)) (he:env.l=v++[(Z3k,arg)]):EvIn a.x env :=
 ⟨(h.hb a hm).l,(h.hb a hm).x,h.hn a hm,by rw [he,List.length_append,hl];have:=h.hv;show _+1<_;omega,by rw [he];exact Z9x hf h.ha⟩
theorem Zo2 {x:EV} (h:x.fine):(x.need 1).fine:=by
 cases x with
 | err e=>exact h
 | num n=>exact h
 | tru b=>exact .inr (.inr rfl)
theorem Zlf {arg:Int} {v:List (List UInt8 × Int)} {x:List XN} (hx:x=[]∨Zna x=0) (hn:∀ n∈x,Zsb n.num=true) (hv:∀ p∈v,Zsb p.2=true) (ha:Zsb arg=true):(worthU arg v x).fine:=by
 unfold worthU
 split
 ·rfl
 ·rename_i h0
  rcases hx with hx | hx
  ·exact absurd hx h0
  ·obtain ⟨t,ht,rfl⟩:=Zhh hx
   rw [Zyp ht hx];exact Zo2 (Z16 (Z9x hv ha) ht hn)
end Go.Hs
end

section
namespace Go.Hs
open Go.Proofs
set_option maxRecDepth 10000
theorem Z6h (c:Col) (s:ASt):(Zkj c s).cells.length=3:=rfl
def Zd8 (c:Col) (l:List ASt):V:=Za c 3 (Zkj c) (Zba l)
theorem Z15 {l:List Tk} {n i:Nat} {t:Tk} (h:l[i]? = some t):Zfo l n (i:Int)=t.pos:=by
 have hi:i<l.length:=by
  refine Classical.byContradiction fun h2=>?_;rw [List.getElem?_eq_none (by omega)] at h;cases h
 unfold Zfo
 rw [if_pos (by omega),Int.toNat_natCast,List.getD_eq_getElem?_getD,h]<;>rfl
end Go.Hs
end

section
namespace Go.Hs
open Go.Proofs
set_option maxRecDepth 10000
set_option maxHeartbeats 1000000
theorem Zi0 (b:List ASt):Z3a b=0∨Z3a b=2:=by
 unfold Z3a
 split
 ·exact .inr rfl
 split
 ·exact .inl rfl
 ·exact .inr rfl
theorem Zih {b:List ASt} (h:Z3a b=0):b.length≤512∧∀ s∈b,(s.kind=1∨s.kind=2)∧(s.x=[]∨Zna s.x=0):=by
 unfold Z3a at h
 split at h
 ·cases h
 split at h
 ·rename_i h1 h2
  refine ⟨by omega,fun s hs=>?_⟩;have:=List.all_eq_true.1 h2 s hs;simp only [Zrr,Bool.and_eq_true,Bool.or_eq_true,beq_iff_eq,List.isEmpty_iff] at this;exact ⟨this.1.1,this.2.imp (fun q=>q.2) id⟩
 ·cases h
end Go.Hs
end
