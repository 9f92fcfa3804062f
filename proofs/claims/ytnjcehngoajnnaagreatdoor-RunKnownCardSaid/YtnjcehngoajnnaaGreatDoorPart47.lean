/- Part 47 of a proof; no condition. -/
import Derived.Test.YtnjcehngoajnnaaGreatDoorPart44
import Derived.Test.YtnjcehngoajnnaaGreatDoorPart41
import Derived.Test.YtnjcehngoajnnaaGreatDoorPart45
import Derived.Test.YtnjcehngoajnnaaGreatDoorPart46
set_option linter.unusedSimpArgs false
set_option linter.unusedVariables false
section
namespace Go.Hs
theorem numV (op num:Int) (name:List UInt8) (a b c:Int) (h:0≤num∧num≤9223372036854775807):Z2b (XN.mk op num name a b c).num=true:=by
 show decide (_≤num∧num≤_)=true
 rw [decide_eq_true_iff];omega
theorem Zsg:∀ (x:X) (k:Int),x.ok=true→x.fit→∀ n∈x.row k,Z2b n.num=true
 | .leaf op num name,k,ho,h=>by
  intro n hn;rw [X.row,List.mem_singleton] at hn;simp only [X.ok,Bool.and_eq_true] at ho;subst hn;exact numV _ _ _ _ _ _ ⟨Zl7 ho.1,h⟩
 | .un op a,k,ho,h=>by
  intro n hn;simp only [X.ok,Bool.and_eq_true] at ho;rw [X.row,List.mem_append,List.mem_singleton] at hn
  rcases hn with q | q
  ·exact Zsg a k ho.2 h n q
  ·rw [q];exact numV _ _ _ _ _ _ (by decide)
 | .bin op a b,k,ho,h=>by
  intro n hn;simp only [X.ok,Bool.and_eq_true] at ho;rw [X.row,List.mem_append,List.mem_append,List.mem_singleton] at hn
  rcases hn with (q | q) | q
  ·exact Zsg a k ho.1.2 h.1 n q
  ·exact Zsg b _ ho.2 h.2 n q
  ·rw [q];exact numV _ _ _ _ _ _ (by decide)
 | .ite a b c,k,ho,h=>by
  intro n hn;simp only [X.ok,Bool.and_eq_true] at ho;rw [X.row,List.mem_append,List.mem_append,List.mem_append,List.mem_singleton] at hn
  rcases hn with ((q | q) | q) | q
  ·exact Zsg a k ho.1.1 h.1 n q
  ·exact Zsg b _ ho.1.2 h.2.1 n q
  ·exact Zsg c _ ho.2 h.2.2 n q
  ·rw [q];exact numV _ _ _ _ _ _ (by decide)
def Zdl:List UInt8:=[97,114,103]
structure RU where
 vars:List (List UInt8 × Int)
 emits:List (List UInt8 × Int)
 done:Nat
def Z0e (l:List (List UInt8 × Int)) (s:List UInt8):Option Nat:=l.findIdx? fun p=>p.1==s
def Zfc (w:List (List UInt8 × Int)→List XN→EV) (s:ASt) (r:RU):RU × Int :=
 if s.kind=1∧Z0e r.vars s.name=none then (r,90)
 else if (w r.vars s.x).er≠0 then (r,(w r.vars s.x).er)
 else if s.kind=1 then (⟨r.vars.set ((Z0e r.vars s.name).getD 0) (s.name,(w r.vars s.x).nm),r.emits,r.done+1⟩,0)
 else (⟨r.vars,r.emits++[(s.name,(w r.vars s.x).nm)],r.done+1⟩,0)
def Zne (w:List (List UInt8 × Int)→List XN→EV):List ASt→RU→RU × Int
 | [],r=>(r,0)
 | s::t,r=>if (Zfc w s r).2≠0 then Zfc w s r else Zne w t (Zfc w s r).1
theorem Zvx {w:List (List UInt8 × Int)→List XN→EV} {b:List ASt} {k:Nat} {s:ASt} {r:RU} (h:b[k]? = some s):Zne w (b.drop k) r=if (Zfc w s r).2≠0 then Zfc w s r else Zne w (b.drop (k+1)) (Zfc w s r).1:=by
 obtain ⟨q1,q2⟩:=List.getElem?_eq_some_iff.1 h;rw [List.drop_eq_getElem_cons q1,q2,Zne]
theorem Zxt {w:List (List UInt8 × Int)→List XN→EV} {b:List ASt} {r:RU}:Zne w (b.drop b.length) r=(r,0):=by
 rw [List.drop_length];rfl
structure RuOk (n m:Nat) (r:RU):Prop where
 len:r.vars.length=n
 fit:∀ p∈r.vars,Z2b p.2=true
 done:r.done≤m
 em:r.emits.length≤m
theorem Zwl {l:List (List UInt8 × Int)} {s:List UInt8} {i:Nat} (h:Z0e l s=some i):∃ p,l[i]? = some p∧p.1=s:=by
 obtain ⟨h1,h2,_⟩:=List.findIdx?_eq_some_iff_getElem.1 h;exact ⟨_,List.getElem?_eq_getElem h1,by simpa using h2⟩
theorem Zkl {w:List (List UInt8 × Int)→List XN→EV} {s:ASt} {n m:Nat} {r:RU} (h:RuOk n m r) (hw:(w r.vars s.x).fine):RuOk n (m+1) (Zfc w s r).1:=by
 have base:RuOk n (m+1) r:=⟨h.len,h.fit,by have:=h.done;omega,by have:=h.em;omega⟩
 have hf:Z2b (w r.vars s.x).nm=true:=by
  cases hv:w r.vars s.x with
  | num k=>rw [hv] at hw;exact hw
  | err e=>rfl
  | tru b=>rfl
 unfold Zfc
 split
 ·exact base
 split
 ·exact base
 split
 ·refine ⟨by rw [List.length_set];exact h.len,fun p hp=>?_,by have:=h.done;show _+1≤_;omega,base.em⟩
  rcases List.mem_or_eq_of_mem_set hp with q | q
  ·exact h.fit p q
  ·rw [q];exact hf
 ·refine ⟨h.len,h.fit,by have:=h.done;show _+1≤_;omega,?_⟩
  show (_++[_]).length≤_
  rw [List.length_append];have:=h.em;show _+1≤_;omega
theorem Zep {w:List (List UInt8 × Int)→List XN→EV}:∀ (a b:List ASt) (r:RU),Zne w (a++b) r=if (Zne w a r).2≠0 then Zne w a r else Zne w b (Zne w a r).1
 | [],b,r=>rfl
 | s::t,b,r=>by
  rw [List.cons_append,Zne,Zne]
  split
  ·rename_i h;first | rfl | rw [if_pos h]
  ·exact Zep t b _
def Zak (e:List (List UInt8 × Int)) (n:Nat) (q:RU × Int):RU × Int:=(⟨q.1.vars,e++q.1.emits,n+q.1.done⟩,q.2)
theorem Zc1 {w:List (List UInt8 × Int)→List XN→EV} (s:ASt) (r:RU) (e:List (List UInt8 × Int)) (n:Nat):Zfc w s ⟨r.vars,e++r.emits,n+r.done⟩=Zak e n (Zfc w s r):=by
 unfold Zfc;simp only
 split
 ·rfl
 split
 ·rfl
 split
 ·simp only [Zak,Nat.add_assoc]
 ·simp only [Zak,Nat.add_assoc,List.append_assoc]
theorem Zgs {w:List (List UInt8 × Int)→List XN→EV} (e:List (List UInt8 × Int)) (n:Nat):∀ (b:List ASt) (r:RU),Zne w b ⟨r.vars,e++r.emits,n+r.done⟩=Zak e n (Zne w b r)
 | [],r=>rfl
 | s::t,r=>by
  rw [Zne,Zne,Zc1];have h2:(Zak e n (Zfc w s r)).2=(Zfc w s r).2:=rfl;rw [h2]
  split
  ·rfl
  ·exact Zgs e n t _
theorem Zh8 {w:List (List UInt8 × Int)→List XN→EV}:∀ (b:List ASt) {n m:Nat} {r:RU},RuOk n m r→(∀ v,(∀ p∈v,Z2b p.2=true)→∀ s∈b,(w v s.x).fine)→RuOk n (m+b.length) (Zne w b r).1
 | [],n,m,r,h,_=>h
 | s::t,n,m,r,h,hw=>by
  have h1:=Zkl (s:=s) h (hw _ h.fit s (List.mem_cons_self ..));rw [Zne]
  split
  ·exact ⟨h1.len,h1.fit,by have:=h1.done;rw [List.length_cons];omega,by have:=h1.em;rw [List.length_cons];omega⟩
  ·have:=Zh8 t h1 (fun v hv q hq=>hw v hv q (List.mem_cons_of_mem _ hq))
   rw [List.length_cons,Nat.add_comm t.length 1,← Nat.add_assoc];exact this
end Go.Hs
end

section
namespace Go.Hs
open Go.Proofs
set_option maxHeartbeats 1000000
set_option maxRecDepth 10000
theorem Zsa (p:List UInt8 × Int):(Zi p).cells.length=2:=rfl
theorem biIm (p:List UInt8 × Int):∀ y∈(Zi p).cells,y.Im:=fun y hy=>by
 simp only [Zzb,V.cells,List.mem_cons,List.not_mem_nil,or_false] at hy
 rcases hy with rfl | rfl<;>first | exact .int _ _ | exact .str _
def stI (c:Col) (a:AM):V:=if a.kind=1 then .iface 182 (Zda c a) else .iface 187 (Zda c a)
theorem Zcca {c:Col} {a:AM} (h:a.kind=1):stI c a = .iface 182 (Zda c a):=if_pos h
theorem Zbca {c:Col} {a:AM} (h:a.kind≠1):stI c a = .iface 187 (Zda c a):=if_neg h
theorem Z1aa (G:Nat→V) (c:Col) (a:AM):Spec Tryz.prog G 253 [Zda c a] Zm (fun v _=>v = .agg [Za c 6 Z8 a.x]):=by
 refine Zo 0 6 [.cell 2 24] Tryz.func253 fun X=>?_;simp only [Z7a];refine Z ?_;intro g1 g2;exact Zr
theorem Zfaa (G:Nat→V) (c:Col) (a:AM):Spec Tryz.prog G 254 [Zda c a] Zm (fun v _=>v = .agg [Za c 6 Z8 a.x]):=by
 refine Zo 0 6 [.cell 2 24] Tryz.func254 fun X=>?_;simp only [Z7a];refine Z ?_;intro g1 g2;exact Zr
theorem aMeth:methK Tryz.prog 182 "hopscotch/run.number" 253:=fun _ _=>by kernel_rfl
theorem eMeth:methK Tryz.prog 187 "hopscotch/run.number" 254:=fun _ _=>by kernel_rfl
theorem Z08 (G:Nat→V) (c:Col) (a:AM):Spec Tryz.prog G 56 [Zda c a] Zm (fun v _=>v=stI c a):=by
 refine Zo 0 12 [.tmp 2] Tryz.func56 fun X=>?_;simp only [Z7a];refine Z ?_;intro g1
 by_cases h:a.kind=1
 ·have q:(a.kind==1)=true:=by simpa using h
  rw [Zcca h];exact Zq q
 ·have q:(a.kind==1)=false:=by simpa using h
  rw [Zbca h];exact Zq q
theorem Ze5 (G:Nat→V) (p:List UInt8 × Int) (c c1:Col) (a:AM):Spec Tryz.prog G 83 [Zi p,.view c1 (Zda c a)] Zm (fun v _=>v = .bool (p.1==a.name)):=by
 refine Zo 0 10 [.tmp 3] Tryz.func83 fun X=>?_;simp only [Z7a,Zzb];refine Z ?_;intro g2;exact Zr
theorem Z09 (G:Nat→V) (hG:GOk G) (c c1 c2:Col) (s:Sl (List UInt8 × Int)) (hs:s.l.length<1000000) (a:AM) :
  Spec Tryz.prog G 82 [Za c 2 Zi s,.func (.func 83) [] [.view c1 (Zda c2 a)]] Zm (fun v _=>v = .int .i64 (Znr (fun p=>p.1==a.name) s.l)):=by
 refine Zo 0 19 [.tmp 4] Tryz.func82 fun X=>?_;refine Z ?_
 refine Zwa s.l.length (fun k (_:Unit)=>st [(0,Za c 2 Zi s),(1,.func (.func 83) [] [.view c1 (Zda c2 a)]),(7,.int .i64 s.l.length),(8,.int .i64 k)] []) (fun k _=>∀ y∈s.l.take k,(y.1==a.name)=false) 0 () (Nat.zero_le _) (by simp)
  (Zb zp zp) ?_
 intro k _ hk hR L2 hL2
 by_cases hk1:k<s.l.length
 ·have hlt:decide ((k:Int)<(s.l.length:Int))=true:=zT
  have hg:=List.getElem?_eq_getElem hk1;generalize s.l[k]=x at hg;refine Zf (zi hlt (zi hg Zzb)) ?_;refine Zcf (zi @Zzb @Zce) hG ?_ (s:=Ze5 G x c2.ent c1.ent a)
  cases h6:(x.1==a.name) with
  | true =>
   refine Z ?_;rw [Zui (p:=fun p:List UInt8 × Int=>p.1==a.name) hg hR h6]
  | false =>
   have w1:IntKind.i64.wrap ((k:Int)+1)=(k:Int)+1:=w64 (by omega) (by omega);refine Zf w1 ?_;exact hL2 _ ⟨hk1,(),Zjl hg hR h6,Zb zp zp⟩
 ·have hke:k=s.l.length:=by omega
  have hlt:decide ((k:Int)<(s.l.length:Int))=false:=zF;rw [hke,List.take_length] at hR;refine Zf hlt ?_;rw [Zvi (p:=fun p:List UInt8 × Int=>p.1==a.name) hR]
theorem Z2k (G:Nat→V) (c:Col) (s:Sl (List UInt8 × Int)) (hs:s.l.length<1000000):InSp Tryz.prog G 54 [Za c 2 Zi s] (Zcb Zm [(5005,.dead)])
  (fun v H'=>(s = .nil∧v = .nils∧H' 5005 = .dead)∨(∃ g,s ≠ .nil∧v = .msl 5005 g 0 s.l.length 2∧H' 5005 = .cells .new g 0 (flat (s.l.map Zi)))):=by
 refine Zjf 5000 8 [.tmp 2] Tryz.func54 rfl rfl rfl rfl fun X=>?_;simp only [Zcb]
 cases s with
 | nil =>
  refine Z1 ?_;simp only [Za];refine Z ?_;exact .inl (by first | rfl | exact ⟨rfl,rfl,rfl⟩ | exact ⟨rfl,rfl⟩)
 | mk b l =>
  have hq:(Za c 2 Zi (.mk b l)) = .slice c b 2 (l.map Zi):=rfl;have hl:l.length<1000000:=hs;refine Z1 ?_;rw [hq];refine Z ?_;intro g;refine ⟨Zca (by omega) (by rw [List.length_map];omega),fun g2=>?_⟩;refine Z ?_;exact .inr ⟨g2,by rw [List.length_map],zp⟩
theorem Zuj (l:List (List UInt8 × Int)) (n:List UInt8):Znr (fun p=>p.1==n) l=match Z0e l n with | some i=>(i:Int) | none => -1:=rfl
theorem Zvt {n:Int}:∀ {l:List (List UInt8 × Int)} {i:Nat} {p:List UInt8 × Int},l[i]? = some p→setAt (flat (l.map Zi)) (i * 2+1) [.int .i64 n]=flat ((l.set i (p.1,n)).map Zi)
 | [],i,p,h=>by cases h
 | q::r,0,p,h=>by
  have:q=p:=by simpa using h
  subst this;rfl
 | q::r,i+1,p,h=>by
  have:=Zvt (n:=n) (l:=r) (i:=i) (p:=p) (by simpa using h)
  have e1:(i+1) * 2+1=(i * 2+1)+1+1:=by omega
  show ((V.str q.1::V.int .i64 q.2::flat (r.map Zi)).set ((i+1) * 2+1) _)=V.str q.1::V.int .i64 q.2::flat ((r.set i (p.1,n)).map Zi)
  rw [e1,List.set_cons_succ,List.set_cons_succ];exact congrArg _ (congrArg _ this)
noncomputable def worthU (arg:Int) (vars:List (List UInt8 × Int)) (x:List XN):EV:=if x=[] then .num 0 else (evL (vars++[(Zdl,arg)]) x).need 1
noncomputable def runB (arg:Int) (b:List ASt) (vars:List (List UInt8 × Int)):RU × Int:=if Z3a b≠0 then (⟨[],[],0⟩,2) else Zne (worthU arg) b ⟨vars,[],0⟩
structure RunIn (s:Sl AM) (vs:List (List UInt8 × Int)) (arg:Int):Prop where
 hs:s.l.length<1000000
 hb:∀ a∈s.l,AmB a
 hn:∀ a∈s.l,∀ n∈a.x.l,Z2b n.num=true
 hv:vs.length<100000
 hf:∀ p∈vs,Z2b p.2=true
 ha:Z2b arg=true
theorem Ze4 {v:List (List UInt8 × Int)} {arg:Int} (hv:∀ p∈v,Z2b p.2=true) (ha:Z2b arg=true):∀ p∈v++[(Zdl,arg)],Z2b p.2=true:=by
 intro p hp
 rcases List.mem_append.1 hp with hp | hp
 ·exact hv p hp
 ·rw [List.mem_singleton.1 hp];exact ha
theorem RunIn.ev {s:Sl AM} {vs:List (List UInt8 × Int)} {arg:Int} (h:RunIn s vs arg) {a:AM} (hm:a∈s.l) {v:List (List UInt8 × Int)} (hl:v.length=vs.length) (hf:∀ p∈v,Z2b p.2=true) (env:Sl (List UInt8 × Int)) (he:env.l=v++[(Zdl,arg)]):EvIn a.x env :=
 ⟨(h.hb a hm).l,(h.hb a hm).x,h.hn a hm,by rw [he,List.length_append,hl];have:=h.hv;show _+1<_;omega,by rw [he];exact Ze4 hf h.ha⟩
theorem Z88 {x:EV} (h:x.fine):(x.need 1).fine:=by
 cases x with
 | err e=>exact h
 | num n=>exact h
 | tru b=>exact .inr (.inr rfl)
theorem Zxf {arg:Int} {v:List (List UInt8 × Int)} {x:List XN} (hx:x=[]∨Zra x=0) (hn:∀ n∈x,Z2b n.num=true) (hv:∀ p∈v,Z2b p.2=true) (ha:Z2b arg=true):(worthU arg v x).fine:=by
 unfold worthU
 split
 ·rfl
 ·rename_i h0
  rcases hx with hx | hx
  ·exact absurd hx h0
  ·obtain ⟨t,ht,rfl⟩:=Zuf hx
   rw [Zen ht hx];exact Z88 (Zuda (Ze4 hv ha) ht hn)
theorem Zv5 (G:Nat→V) (hG:GOk G) (c:Col) (s:Sl (List UInt8 × Int)) (hs:s.l.length<1000000) (n:List UInt8) :
  Spec Tryz.prog G 53 [Za c 2 Zi s,.str n] Zm (fun v _=>v = .int .i64 (Znr (fun p=>p.1==n) s.l)):=by
 refine Zo 0 20 [.tmp 4] Tryz.func53 fun X=>?_;refine Z ?_
 refine Zwa s.l.length (fun k (_:Unit)=>st [(0,Za c 2 Zi s),(1,.str n),(5,.int .i64 k)] []) (fun k _=>∀ y∈s.l.take k,(y.1==n)=false) 0 () (Nat.zero_le _) (by simp)
  (Zb zp zp) ?_
 intro k _ hk hR L2 hL2
 by_cases hk1:k<s.l.length
 ·have hlt:decide ((k:Int)<(s.l.length:Int))=true:=zT
  have hg:=List.getElem?_eq_getElem hk1;generalize s.l[k]=x at hg;have w1:IntKind.i64.wrap ((k:Int)+1)=(k:Int)+1:=w64 (by omega) (by omega)
  cases h6:(x.1==n) with
  | true =>
   refine Zf (zi hlt (zi hg (zi Zzb h6))) ?_;rw [Zui (p:=fun p:List UInt8 × Int=>p.1==n) hg hR h6]
  | false =>
   refine Zf (zi hlt (zi hg (zi Zzb (zi h6 w1)))) ?_;exact hL2 _ ⟨hk1,(),Zjl hg hR h6,Zb zp zp⟩
 ·have hke:k=s.l.length:=by omega
  have hlt:decide ((k:Int)<(s.l.length:Int))=false:=zF;rw [hke,List.take_length] at hR;refine Zf hlt ?_;rw [Zvi (p:=fun p:List UInt8 × Int=>p.1==n) hR]
theorem Z1d (c:Col) (s:ASt):(Zmg c s).cells.length=3:=rfl
def Zty (c:Col) (l:List ASt):V:=Za c 3 (Zmg c) (Zv l)
def encBR (r:List ASt × Int × Int):V := .tuple [Zty .new r.1,.int .i64 r.2.1,.int .i64 r.2.2]
theorem Z4t {l:List Tk} {n i:Nat} {t:Tk} (h:l[i]? = some t):Zup l n (i:Int)=t.pos:=by
 have hi:i<l.length:=by
  refine Classical.byContradiction fun h2=>?_;rw [List.getElem?_eq_none (by omega)] at h;cases h
 unfold Zup
 rw [if_pos (by omega),Int.toNat_natCast,List.getD_eq_getElem?_getD,h]<;>rfl
theorem Zo2 (G:Nat→V) (hG:GOk G) (s:List UInt8) (hs:s.length<100000):Spec Tryz.prog G 57 [.str s] Zm (fun v _=>v=encBR (Zzc s)):=by
 refine Zo 0 63 [.tmp 2,.tmp 3,.tmp 4] Tryz.func57 fun X=>?_
 have hP:Zzc s=if (Zac s).2.2≠0 then (([]:List ASt),(Zac s).2.1,(Zac s).2.2) else Zhg (Zac s).1 s.length ((Zac s).1.length+1) 0 []:=rfl
 generalize Zzc s=res at hP ⊢;have hT:=Zx7 hs;have hl:=Z1x G hG s hs;generalize Zac s=p at hP hT hl;obtain ⟨l,at0,e0⟩:=p;simp only at hP hT;have hTl:=hT.len;refine Z1 ?_;refine Z1 ?_;refine Zn hG ?_ (s:=hl);refine Zsf (zi @encTok.eq_1 (zi @encTks.eq_1 @Zeb)) ?_;have hS:(Zv l).l=l:=Zea l;generalize Zv l=S at hS;subst hS;refine Z5 ?_
 by_cases he:e0=0
 rotate_left
 ·rw [if_pos he] at hP
  have q1:(e0==0)=false:=by simpa using he
  refine Z5c zk ?_;simp -implicitDefEqProofs only[go_sem,seval,bne,q1];refine Z ?_
  rw [hP]<;>rfl
 rw [if_neg (by simpa using he)] at hP
 have q1:(e0==0)=true:=by simpa using he
 refine Z5c zk ?_;simp -implicitDefEqProofs only[go_sem,seval,bne,q1];refine Z1 ?_;refine Z1 ?_;refine Z5 ?_;refine AW.block ?_
 refine Zhc (fun (x:(Nat × Nat) × List ASt)=>st [(0,.str s),(5,Za .new 3 Zib S),(8,grown 60 x.1.1 3 x.2),(9,.int .i64 x.1.2)] [(60,Zua x.1.1 (Zmg .new) x.2)])
  (fun x=>x.1.2≤S.l.length∧x.2.length≤512∧∃ f,S.l.length<f+x.1.2∧Zhg S.l s.length f x.1.2 x.2=res) (fun x=>S.l.length-x.1.2) ((0,0),[]) ⟨Nat.zero_le _,Nat.zero_le _,S.l.length+1,Nat.lt_succ_self _,hP.symm⟩
  (Zb zp zp) ?_
 rintro ⟨⟨gx,i⟩,acc⟩ ⟨hi,hac,f,hf,hR⟩ L3 hL3;simp only at hi hac hf hR;refine Z5 ?_
 cases f with
 | zero=>omega
 | succ f =>
 rw [Zhg] at hR;refine Z1 ?_;refine Ze rfl (fun h26=>?_) (fun h26=>?_);rotate_left
 ·have hil:S.l.length≤i:=by have:=zN h26;omega
  rw [if_pos hil] at hR;refine Z0 ?_;refine AW.weak (Zz (fun o=>o==60) (l:=[(8,Za .new 3 (Zmg .new) (Zv acc))]) (m:=[]) ?_ trivial) ?_
  ·refine Zs ?_
   exact Z1a rfl zp (Z1d _)
  refine Z ?_
  rw [← hR]<;>rfl
 have hil:i<S.l.length:=zL h26;rw [if_neg (by omega)] at hR;have hg:=List.getElem?_eq_getElem hil;refine Z0 ?_;refine AW.block ?_;refine Z5 ?_
 by_cases h5:acc.length=512
 ·rw [if_pos h5] at hR
  generalize S.l[i]=t at hg;rw [Z4t hg] at hR
  have q2:((acc.length:Int)==512)=true:=by rw [beq_iff_eq];omega
  refine Z1f q2 ?_;refine Zog rfl ?_;refine ZTf (zi hg @Z3b) hG ?_;refine Z ?_
  rw [← hR]<;>rfl
 rw [if_neg h5] at hR
 have q2:((acc.length:Int)==512)=false:=by rw [beq_eq_false_iff_ne];omega
 refine Z1f q2 ?_;refine Z0 ?_;have hst:=fun c=>Zx6 G hG c S hT i (by omega);have hb:=Z8o S.l i;generalize Z3c S.l i=q at hR hst hb;obtain ⟨x,n,e⟩:=q;obtain ⟨hge,hok⟩:=hb;simp only at hge hok hR;obtain ⟨m,rfl⟩:=Int.eq_ofNat_of_zero_le (a:=n) (by omega);refine Z1 ?_;refine Znf @Zeb hG ?_ (s:=(hst _));refine Zsf (zi @encSR.eq_1 (zi @Z1k @Zk)) ?_;intro g10;refine Z5 ?_
 by_cases he2:e=0
 rotate_left
 ·rw [if_pos he2] at hR
  have q3:(e==0)=false:=by simpa using he2
  refine Z5c zk ?_;simp -implicitDefEqProofs only[go_sem,seval,bne,q3];refine Z1 ?_;refine Ze rfl (fun h47=>?_) (fun h47=>?_)
  ·have hml:m<S.l.length:=zL h47
   have hgm:=List.getElem?_eq_getElem hml;generalize S.l[m]=t at hgm;rw [Z4t hgm] at hR;refine ZTf (zi hgm @Z3b) hG ?_;refine Z ?_
   rw [← hR]<;>rfl
  ·have hml:¬ m<S.l.length:=by have:=zN h47;omega
   refine Z ?_;rw [← hR];unfold Zup
   rw [if_neg (by show ¬ ((m:Int)<S.l.length);omega)]<;>rfl
 rw [if_neg (by simpa using he2)] at hR
 have q3:(e==0)=true:=by simpa using he2
 obtain ⟨h6,h7⟩:=hok he2;refine Z5c zk ?_;simp -implicitDefEqProofs only[go_sem,seval,bne,q3];refine Z1 ?_;intro g59;refine Zza (f:=Zmg .new) (l:=acc) (l2:=[x]) (g:=gx) (Z1d _) rfl rfl rfl zp (Zca (by omega) (by simp;omega)) fun g2=>?_;refine Zs ?_;refine Z1 ?_;refine hL3 _ ⟨((g2,m),acc++[x]),?_,⟨?_,?_,f,?_,hR⟩,Zb zp zp⟩
 ·show S.l.length-m<S.l.length-i
  omega
 ·show m≤_;omega
 ·show (acc++[x]).length≤_;rw [List.length_append];show acc.length+1≤_;omega
 ·show S.l.length<f+m;omega
def ansU (q:RU × Int):V := .tuple [.agg [Za .new 2 Zi (Zv q.1.vars),Za .new 2 Zi (Zv q.1.emits),.int .i64 q.1.done],.int .i64 q.2]
theorem Z0j (b:List ASt):Z3a b=0∨Z3a b=2:=by
 unfold Z3a
 split
 ·exact .inr rfl
 split
 ·exact .inl rfl
 ·exact .inr rfl
theorem Zjh {b:List ASt} (h:Z3a b=0):b.length≤512∧∀ s∈b,(s.kind=1∨s.kind=2)∧(s.x=[]∨Zra s.x=0):=by
 unfold Z3a at h
 split at h
 ·cases h
 split at h
 ·rename_i h1 h2
  refine ⟨by omega,fun s hs=>?_⟩;have:=List.all_eq_true.1 h2 s hs;simp only [Z6j,Bool.and_eq_true,Bool.or_eq_true,beq_iff_eq,List.isEmpty_iff] at this;exact ⟨this.1.1,this.2.imp (fun q=>q.2) id⟩
 ·cases h
theorem Zjs (G:Nat→V) (hG:GOk G) (c c1 c2:Col) (s:Sl AM) (vs:Sl (List UInt8 × Int)) (arg:Int) (h:RunIn s vs.l arg) :
  Spec Tryz.prog G 30 [Za c 3 (Zda c1) s,Za c2 2 Zi vs,.int .i64 arg] Zm (fun v _=>v=ansU (runB arg (s.l.map AM.v) vs.l)):=by
 refine Zo 0 109 [.cell 6 67,.tmp 7] Tryz.func30 fun X=>?_;have hck:=Zq2 G hG c.ent c1.ent s ⟨by have:=h.hs;omega,fun a ha=>⟨(h.hb a ha).n,(h.hb a ha).l,(h.hb a ha).x⟩⟩
 have hP:runB arg (s.l.map AM.v) vs.l=if Z3a (s.l.map AM.v)≠0 then (⟨[],[],0⟩,2) else Zne (worthU arg) (s.l.map AM.v) ⟨vs.l,[],0⟩:=rfl
 generalize runB arg (s.l.map AM.v) vs.l=res at hP ⊢;have hok := @Zjh (s.l.map AM.v);have h02:=Z0j (s.l.map AM.v);generalize Z3a (s.l.map AM.v)=ck at hP hck hok h02;refine Z ?_;intro g6;refine Z ?_;intro g8;refine Z ?_;refine Zc hG ?_ (s:=hck)
 rcases h02 with rfl | rfl
 rotate_left
 ·refine Z ?_
  rw [hP];rfl
 obtain ⟨hb5,hall⟩:=hok rfl;rw [if_neg (by decide)] at hP;have hvl:=h.hv;refine Z ?_;refine Zza (f:=Zi) (l:=[]) (l2:=vs.l) (g:=0) Zsa rfl rfl rfl zp (Zca (by omega) (by simp;omega)) fun gv=>?_;refine Zs ?_;refine Z ?_;have hbl:(s.l.map AM.v).length=s.l.length:=List.length_map _;have hRl := @Zxt (worthU arg) (s.l.map AM.v)
 refine Zwa s.l.length (fun k (x:RU × Nat × Nat)=>st [(0,Za c 3 (Zda c1) s),(2,.int .i64 arg),(6,.ptr 6 g6 0),(8,.ptr 8 g8 0),(9,.int .i64 k)]
   [(6,.cells .new g6 0 [.nils,.nils,.int .i64 0]),(8,.cells .new g8 0 [grown 22 x.2.1 2 x.1.vars,grown 102 x.2.2 2 x.1.emits,.int .i64 x.1.done]),(22,Zua x.2.1 Zi x.1.vars),(102,Zua x.2.2 Zi x.1.emits)])
  (fun k x=>Zne (worthU arg) ((s.l.map AM.v).drop k) x.1=res∧RuOk vs.l.length k x.1) 0 (⟨vs.l,[],0⟩,gv,0) (Nat.zero_le _) ⟨hP.symm,rfl,h.hf,Nat.le_refl _,Nat.le_refl _⟩
  (Zb zp (by simp -implicitDefEqProofs only[go_sem,seval];try exact ⟨rfl,rfl⟩)) ?_
 rintro k ⟨r,gv,ge⟩ hk ⟨hR,hO⟩ L3 hL3;simp only at hR hO;have hvr:=hO.len
 by_cases hk1:k<s.l.length
 rotate_left
 ·have hke:k=s.l.length:=by omega
  have hlt:decide ((k:Int)<(s.l.length:Int))=false:=zF;rw [hke,← hbl,Zxt] at hR;refine AW.weak (Zz (fun o=>o==22 || o==102) (l:=[(0,Za c 3 (Zda c1) s),(6,.ptr 6 g6 0),(8,.ptr 8 g8 0),(9,.int .i64 k)]) (m:=[(6,.cells .new g6 0 [.nils,.nils,.int .i64 0]),(8,.cells .new g8 0 [Za .new 2 Zi (Zv r.vars),Za .new 2 Zi (Zv r.emits),.int .i64 r.done])]) ?_ ?_) ?_
  ·simp -implicitDefEqProofs only[go_sem,seval]
   exact ⟨Zd _,Zd _,Zd _,Zd _⟩
  ·simp only [Zl,Zt,and_true]
   exact ⟨FzO.keep rfl zp,Zlh (c := .new) (fz:=0) (cs:=[grown 22 gv 2 r.vars,grown 102 ge 2 r.emits,.int .i64 r.done]) rfl zp ⟨Z1a rfl zp Zsa,Z1a rfl zp Zsa,Zd _,trivial⟩⟩
  refine Zf hlt ?_;rw [← hR];rfl
 have hlt:decide ((k:Int)<(s.l.length:Int))=true:=zT;have hg:=List.getElem?_eq_getElem hk1;have hm:s.l[k]∈s.l:=List.getElem_mem hk1;have hbk:=h.hb _ hm
 have hgv:(s.l.map AM.v)[k]? = some (s.l[k]).v:=by rw [List.getElem?_map,hg];rfl
 have hav:=hall (s.l[k]).v (List.mem_map_of_mem hm);have hEv:=fun env he=>h.ev hm hvr hO.fit env he;have hnn:=h.hn _ hm;rw [Zvx hgv] at hR;generalize s.l[k]=a at hg hm hbk hgv hav hEv hnn hR;have hfine:(worthU arg r.vars a.x.l).fine:=Zxf hav.2 hnn hO.fit h.ha;have hok2:=Zkl (s:=a.v) hO hfine
 have hS:Zfc (worthU arg) a.v r=if a.kind=1∧Z0e r.vars a.name=none then (r,90) else if (worthU arg r.vars a.x.l).er≠0 then (r,(worthU arg r.vars a.x.l).er) else if a.kind=1 then (⟨r.vars.set ((Z0e r.vars a.name).getD 0) (a.name,(worthU arg r.vars a.x.l).nm),r.emits,r.done+1⟩,0)
  else (⟨r.vars,r.emits++[(a.name,(worthU arg r.vars a.x.l).nm)],r.done+1⟩,0):=rfl
 generalize Zfc (worthU arg) a.v r=q at hS hR hok2;refine Z1f hlt ?_;refine Z0 ?_;refine Z5 ?_;refine AW.block ?_;refine Z5 ?_;refine Zy ⟨fun i=>if i=7 then .int .i64 (Znr (fun p=>p.1==a.name) r.vars) else .top,fun i=>if i=7 then .lend else .pure⟩ zk hG zk zk ?_;simp -implicitDefEqProofs only[go_sem,seval,hg,Z7a,hk1,Int.natCast_nonneg,Int.ofNat_lt];refine ⟨Zmr [Za .old 2 Zi (Zv r.vars),.str a.name] zk ⟨Zpm zp Zsa biIm (fun _=>rfl),Z7e (.str _) rfl,trivial⟩ ((Zv5 G hG .old (Zv r.vars) (by rw [Zea];omega) a.name).mono fun v _ hv=>by rw [hv,Zea];exact ⟨.int _ _,rfl⟩),?_⟩;have hkind:a.kind=1∨a.kind=2:=hav.1
 refine Zha (fun (_:Unit)=>st [(0,Za c 3 (Zda c1) s),(2,.int .i64 arg),(6,.ptr 6 g6 0),(8,.ptr 8 g8 0),(9,.int .i64 k),(10,.int .i64 (Znr (fun p=>p.1==a.name) r.vars))] [(6,.cells .new g6 0 [.nils,.nils,.int .i64 0]),(8,.cells .new g8 0 [grown 22 gv 2 r.vars,grown 102 ge 2 r.emits,.int .i64 r.done]),(22,Zua gv Zi r.vars),(102,Zua ge Zi r.emits)])
  (fun _=>a.kind=1→Z0e r.vars a.name≠none) (fun K1 hK1=>?_) ?_
 ·by_cases hbad:a.kind=1∧Z0e r.vars a.name=none
  ·have q1:(a.kind==1)=true:=by simpa using hbad.1
   rw [if_pos hbad] at hS;subst hS;rw [if_pos (by show (90:Int)≠0;decide)] at hR;rw [Zuj,hbad.2];refine AW.weak (Zz (fun o=>o==22 || o==102) (l:=[(0,Za c 3 (Zda c1) s),(6,.ptr 6 g6 0),(8,.ptr 8 g8 0),(9,.int .i64 k),(10,.int .i64 (-1))]) (m:=[(6,.cells .new g6 0 [.nils,.nils,.int .i64 0]),(8,.cells .new g8 0 [Za .new 2 Zi (Zv r.vars),Za .new 2 Zi (Zv r.emits),.int .i64 r.done])]) ?_ ?_) ?_
   ·simp -implicitDefEqProofs only[go_sem,seval]
    exact ⟨Zd _,Zd _,Zd _,Zd _,Zd _⟩
   ·simp only [Zl,Zt,and_true]
    exact ⟨FzO.keep rfl zp,Zlh (c := .new) (fz:=0) (cs:=[grown 22 gv 2 r.vars,grown 102 ge 2 r.emits,.int .i64 r.done]) rfl zp ⟨Z1a rfl zp Zsa,Z1a rfl zp Zsa,Zd _,trivial⟩⟩
   refine Zf (zi hg (zi @Z7a (zi q1 (zi hk1 (zi @Int.natCast_nonneg @Int.ofNat_lt))))) ?_;rw [← hR];rfl
  ·rcases hkind with hk | hk
   ·have q1:(a.kind==1)=true:=by simpa using hk
    cases hp:Z0e r.vars a.name with
    | none=>exact absurd ⟨hk,hp⟩ hbad
    | some i =>
     have e1:Znr (fun p=>p.1==a.name) r.vars=(i:Int):=by rw [Zuj,hp]
     have q2:decide ((i:Int)<0)=false:=zF;rw [e1];rw [e1] at hK1;refine Zf (zi hg (zi @Z7a (zi q1 (zi q2 (zi hk1 (zi @Int.natCast_nonneg @Int.ofNat_lt)))))) ?_;exact hK1 _ () (fun _=>by rw [hp];exact Option.some_ne_none _) (Zb zp zp)
   ·have q1:(a.kind==1)=false:=by rw [hk];rfl
    refine Zf (zi hg (zi @Z7a (zi q1 (zi hk1 (zi @Int.natCast_nonneg @Int.ofNat_lt))))) ?_;exact hK1 _ () (fun h=>absurd (h.symm.trans hk) (by decide)) (Zb zp zp)
 intro _ hpl;rw [if_neg (fun h=>hpl h.1 h.2)] at hS;refine Z1 ?_
 refine Zha (fun (_:Unit)=>st [(0,Za c 3 (Zda c1) s),(2,.int .i64 arg),(6,.ptr 6 g6 0),(8,.ptr 8 g8 0),(9,.int .i64 k),(10,.int .i64 (Znr (fun p=>p.1==a.name) r.vars)),(11,.int .i64 (worthU arg r.vars a.x.l).nm)] [(6,.cells .new g6 0 [.nils,.nils,.int .i64 0]),(8,.cells .new g8 0 [grown 22 gv 2 r.vars,grown 102 ge 2 r.emits,.int .i64 r.done]),(22,Zua gv Zi r.vars),(102,Zua ge Zi r.emits)])
  (fun _=>(worthU arg r.vars a.x.l).er=0) (fun K2 hK2=>?_) ?_
 ·by_cases hx0:a.x.l=[]
  ·have q5:decide (((a.x.l.length:Nat):Int) > 0)=false:=by rw [hx0];rfl
   have hw:worthU arg r.vars a.x.l = .num 0:=if_pos hx0;rw [hw] at hK2;refine Zf (zi hg (zi @Z7a (zi q5 (zi hk1 (zi @Int.natCast_nonneg @Int.ofNat_lt))))) ?_;exact hK2 _ () rfl (Zb zp zp)
  have q5:decide (((a.x.l.length:Nat):Int) > 0)=true:=by
   have:=List.length_pos_iff.2 hx0;exact zT
  have hw:worthU arg r.vars a.x.l=(evL (r.vars++[(Zdl,arg)]) a.x.l).need 1:=if_neg hx0
  have hN:∀ env:Sl (List UInt8 × Int),env.l=r.vars++[(Zdl,arg)]→∀ cc cd,Spec Tryz.prog G 23 [Za cc 6 Z8 a.x,Za cd 2 Zi env] Zm (fun v _=>v = .tuple [.int .i64 (worthU arg r.vars a.x.l).nm,.int .i64 (worthU arg r.vars a.x.l).er]):=fun env he cc cd=>by
   rw [hw,← he];exact num10 G hG cc cd a.x env (hEv env he)
  generalize worthU arg r.vars a.x.l=w at hS hR hK2 hN hfine;clear hw;refine Z1f (zi hg (zi @Z7a (zi q5 (zi hk1 (zi @Int.natCast_nonneg @Int.ofNat_lt))))) ?_;refine Z0 ?_;refine Z1 ?_;refine Zha (fun (g:Nat)=>st [(0,Za c 3 (Zda c1) s),(2,.int .i64 arg),(6,.ptr 6 g6 0),(8,.ptr 8 g8 0),(9,.int .i64 k),(10,.int .i64 (Znr (fun p=>p.1==a.name) r.vars)),(12,grown 59 g 2 r.vars)] [(6,.cells .new g6 0 [.nils,.nils,.int .i64 0]),(8,.cells .new g8 0 [grown 22 gv 2 r.vars,grown 102 ge 2 r.emits,.int .i64 r.done]),(22,Zua gv Zi r.vars),(102,Zua ge Zi r.emits),(59,Zua g Zi r.vars)]) (fun _=>True) (fun K3 hK3=>?_) ?_
  ·by_cases hv:r.vars=[]
   ·rw [hv] at hK3 ⊢
    simp only [Zed,Z8d] at hK3 ⊢;refine Z ?_;refine Zza (f:=Zi) (l:=[]) (l2:=[]) (g:=0) Zsa rfl rfl rfl zp (Zca (by decide) (by decide)) fun g2=>?_;refine Zs ?_;exact hK3 _ 0 trivial (Zb zp zp)
   ·have e1:grown 22 gv 2 r.vars = .msl 22 gv 0 r.vars.length 2:=Z1b _ _ _ hv
    have e2:Zua gv Zi r.vars = .cells .new gv 0 (flat (r.vars.map Zi)):=Z9b _ _ hv;rw [e1,e2];refine Z ?_;rw [← e1,← e2,if_pos (by rw [Zqb Zsa];exact Nat.le_refl _),List.take_of_length_le (by rw [Zqb Zsa];exact Nat.le_refl _)];refine Zza (f:=Zi) (l:=[]) (l2:=r.vars) (g:=0) Zsa rfl rfl rfl zp (Zca (by omega) (by simp;omega)) fun g2=>?_;rw [List.nil_append];refine Zs ?_;exact hK3 _ g2 trivial (Zb zp zp)
  intro ge2 _;refine Zha (fun (_:Unit)=>st [(0,Za c 3 (Zda c1) s),(2,.int .i64 arg),(6,.ptr 6 g6 0),(8,.ptr 8 g8 0),(9,.int .i64 k),(10,.int .i64 (Znr (fun p=>p.1==a.name) r.vars)),(12,Za .new 2 Zi (Zv (r.vars++[(Zdl,arg)])))] [(6,.cells .new g6 0 [.nils,.nils,.int .i64 0]),(8,.cells .new g8 0 [grown 22 gv 2 r.vars,grown 102 ge 2 r.emits,.int .i64 r.done]),(22,Zua gv Zi r.vars),(102,Zua ge Zi r.emits)]) (fun _=>True) (fun K4 hK4=>?_) ?_
  ·refine Z ?_
   intro g63;refine Zat (f:=Zi) (l:=r.vars) (l2:=[(Zdl,arg)]) (o:=59) (g:=ge2) Zsa rfl rfl rfl zp (Zca (by omega) (by simp;omega)) fun o2 g2 ho2=>?_
   rcases ho2 with rfl | rfl
   ·refine Zs ?_
    refine hK4 _ () trivial (Zz (fun o=>o==59) ?_ ?_)
    ·simp -implicitDefEqProofs only[go_sem,seval]
     exact ⟨Zd _,Zd _,Zd _,Zd _,Zd _,Zd _,Z1a rfl zp Zsa⟩
    ·simp only [Zl,Zt,and_true]
     exact ⟨FzO.keep rfl zp,FzO.keep rfl zp,FzO.keep rfl zp,FzO.keep rfl zp⟩
   ·refine Zs ?_
    refine hK4 _ () trivial (Zz (fun o=>o==64) ?_ ?_)
    ·simp -implicitDefEqProofs only[go_sem,seval]
     exact ⟨Zd _,Zd _,Zd _,Zd _,Zd _,Zd _,Z1a rfl zp Zsa⟩
    ·simp only [Zl,Zt,and_true]
     exact ⟨FzO.keep rfl zp,FzO.keep rfl zp,FzO.keep rfl zp,FzO.keep rfl zp⟩
  intro _ _;refine Zf (zi hg (zi @Z7a (zi hk1 (zi @Int.natCast_nonneg @Int.ofNat_lt)))) ?_;refine Zc hG ?_ (s:=hN (Zv (r.vars++[(Zdl,arg)])) (Zea _) _ _)
  by_cases her:w.er=0
  ·have q6:(w.er != 0)=false:=by simp [her]
   refine Zf q6 ?_;exact hK2 _ () her (Zb zp zp)
  ·have q6:(w.er != 0)=true:=by simpa using her
   rw [if_pos her] at hS;subst hS;rw [if_pos (by exact her)] at hR;refine AW.weak (Zz (fun o=>o==22 || o==102) (l:=[(0,Za c 3 (Zda c1) s),(6,.ptr 6 g6 0),(8,.ptr 8 g8 0),(9,.int .i64 k),(13,.int .i64 w.nm),(14,.int .i64 w.er)]) (m:=[(6,.cells .new g6 0 [.nils,.nils,.int .i64 0]),(8,.cells .new g8 0 [Za .new 2 Zi (Zv r.vars),Za .new 2 Zi (Zv r.emits),.int .i64 r.done])]) ?_ ?_) ?_
   ·simp -implicitDefEqProofs only[go_sem,seval]
    exact ⟨Zd _,Zd _,Zd _,Zd _,Zd _,Zd _⟩
   ·simp only [Zl,Zt,and_true]
    exact ⟨FzO.keep rfl zp,Zlh (c := .new) (fz:=0) (cs:=[grown 22 gv 2 r.vars,grown 102 ge 2 r.emits,.int .i64 r.done]) rfl zp ⟨Z1a rfl zp Zsa,Z1a rfl zp Zsa,Zd _,trivial⟩⟩
   refine Zf q6 ?_;rw [← hR];rfl
 intro _ her;rw [if_neg (by rw [her];decide)] at hS
 have w1:IntKind.i64.wrap ((r.done:Int)+1)=(r.done:Int)+1:=by
  have:=hO.done;exact w64 (by omega) (by omega)
 have w2:IntKind.i64.wrap ((k:Int)+1)=(k:Int)+1:=w64 (by omega) (by omega)
 rcases hkind with hk | hk
 ·have q1:(a.kind==1)=true:=by simpa using hk
  cases hp:Z0e r.vars a.name with
  | none=>exact absurd hp (hpl hk)
  | some i =>
   obtain ⟨p,hpg,hpn⟩:=Zwl hp;have hil:i<r.vars.length:=(List.getElem?_eq_some_iff.1 hpg).1
   have hv:r.vars≠[]:=fun e=>by rw [e] at hil;cases hil
   have e1:grown 22 gv 2 r.vars = .msl 22 gv 0 r.vars.length 2:=Z1b _ _ _ hv;have e2:Zua gv Zi r.vars = .cells .new gv 0 (flat (r.vars.map Zi)):=Z9b _ _ hv
   have e3:Znr (fun p=>p.1==a.name) r.vars=(i:Int):=by rw [Zuj,hp]
   rw [if_pos hk,hp] at hS;subst hS;rw [if_neg (by show ¬ (0:Int)≠0;decide)] at hR;rw [e1,e2,e3]
   have hfl:i * 2+1+1≤(flat (r.vars.map Zi)).length:=by rw [Zqb Zsa];omega
   have hst:=Zvt (n:=(worthU arg r.vars a.x.l).nm) hpg;rw [hpn] at hst;have hgo:Zua gv Zi (r.vars.set i (a.name,(worthU arg r.vars a.x.l).nm)) = .cells .new gv 0 (flat ((r.vars.set i (a.name,(worthU arg r.vars a.x.l).nm)).map Zi)):=Z9b _ _ (by intro e;rw [List.set_eq_nil_iff] at e;exact hv e)
   have hgr:grown 22 gv 2 (r.vars.set i (a.name,(worthU arg r.vars a.x.l).nm)) = .msl 22 gv 0 r.vars.length 2:=by rw [Z1b _ _ _ (by intro e;rw [List.set_eq_nil_iff] at e;exact hv e),List.length_set]
   refine Zf (zi hg (zi @Z7a (zi q1 (zi hk1 (zi @Int.natCast_nonneg (zi @Int.ofNat_lt (zi w1 (zi w2 (zi hil hfl))))))))) ?_;refine hL3 _ ⟨hk1,(_,gv,ge),⟨hR,hok2⟩,Zb zp ?_⟩;simp only [Option.getD_some,hgo,hgr];have hst':(flat (r.vars.map Zi)).set (i * 2+1) (.int .i64 (worthU arg r.vars a.x.l).nm)=flat ((r.vars.set i (a.name,(worthU arg r.vars a.x.l).nm)).map Zi):=hst;rw [← hst'];exact zp
 ·have q1:(a.kind==1)=false:=by rw [hk];rfl
  rw [if_neg (by rw [hk];decide)] at hS;subst hS;rw [if_neg (by show ¬ (0:Int)≠0;decide)] at hR;refine Zf (zi hg (zi @Z7a (zi q1 (zi hk1 (zi @Int.natCast_nonneg (zi @Int.ofNat_lt (zi w1 w2))))))) ?_;refine ZTf (zi hg (zi @Z7a (zi hk1 (zi @Int.natCast_nonneg @Int.ofNat_lt)))) hG ?_;intro g101;have hem:=hO.em;refine Zza (f:=Zi) (l:=r.emits) (l2:=[(a.name,(worthU arg r.vars a.x.l).nm)]) (g:=ge) Zsa rfl rfl rfl zp (Zca (by omega) (by simp;omega)) fun g2=>?_;refine Zs ?_;refine Zf (zi w1 w2) ?_;refine hL3 _ ⟨hk1,(_,gv,g2),⟨hR,hok2⟩,Zb zp zp⟩
end Go.Hs
end
