/- Part 39 of the proof of a statement of seat YtpoiceejhcpnaaaGreatDoor: HsExprLaw HsEExprOf HsEExpr1 HsExprBal HsExprTree HsExprGram HsLexLaw3 HsLexLaw4 HsNumBackLaw HsExprRef HsExprPrn HsEPrtW HsExprP HsExprBkLaw HsEPrtW2 HsENumRefP HsERedR. -/
import Derived.Test.YtpoiceejhcpnaaaGreatDoorPart34
import Derived.Test.YtpoiceejhcpnaaaGreatDoorPart37
import Derived.Test.YtpoiceejhcpnaaaGreatDoorPart38
set_option linter.unusedSimpArgs false
set_option linter.unusedVariables false
section
namespace Go.Hs
open Go
structure XN where
 op:Int
 num:Int
 name:List UInt8
 a:Int
 b:Int
 c:Int
 deriving DecidableEq,Inhabited
structure Sg where
 text:List UInt8
 level:Int
 parts:Int
 deriving DecidableEq,Inhabited
def tabL:List Sg:=[⟨[],0,0⟩,⟨[],10,0⟩,⟨[],10,0⟩,⟨[116,114,117,101],10,0⟩,⟨[102,97,108,115,101],10,0⟩,⟨[45],9,1⟩,⟨[110,111,116],9,1⟩,
 ⟨[42],8,2⟩,⟨[100,105,118],8,2⟩,⟨[109,111,100],8,2⟩,⟨[43],7,2⟩,⟨[45],7,2⟩,⟨[60],6,2⟩,⟨[60,61],6,2⟩,⟨[62],6,2⟩,⟨[62,61],6,2⟩,⟨[61],5,2⟩,⟨[60,62],5,2⟩,
 ⟨[97,110,100],4,2⟩,⟨[111,114],3,2⟩,⟨[120,111,114],2,2⟩,⟨[105,109,112,108,105,101,115],1,2⟩,⟨[105,102],10,3⟩]
def sgIs (t:List UInt8) (p:Int) (s:Sg):Bool:=s.text==t && s.parts==p && !(s.text==[])
def ofI (t:List UInt8) (p:Int):Option Nat:=tabL.findIdx? (sgIs t p)
def ofP (t:List UInt8) (p:Int):Nat × Bool:=match ofI t p with | some i=>(i,true) | none=>(0,false)
def lvl (op:Nat):Int:=(tabL.getD op ⟨[],0,0⟩).level
theorem ofI_some {t:List UInt8} {p:Int} {i:Nat} (h:ofI t p=some i):∃ s,tabL[i]? = some s∧s.text=t∧s.parts=p∧t≠[]:=by
 obtain ⟨h1,h2,_⟩:=List.findIdx?_eq_some_iff_getElem.1 h
 refine ⟨tabL[i],List.getElem?_eq_getElem h1,?_⟩
 unfold sgIs at h2
 simp only [Bool.and_eq_true,beq_iff_eq,Bool.not_eq_true',beq_eq_false_iff_ne] at h2
 exact ⟨h2.1.1,h2.1.2,by rw [← h2.1.1];exact h2.2⟩
theorem ofI_one {t:List UInt8} {i:Nat} (h:ofI t 1=some i):t=[45]∧i=5∨t=[110,111,116]∧i=6:=by
 obtain ⟨s,h1,h2,h3,_⟩:=ofI_some h
 have hi:i<23:=by rw [List.getElem?_eq_some_iff] at h1;exact h1.1
 have key:∀ i,i<23→∀ s,tabL[i]? = some s→s.parts=1→s.text=[45]∧i=5∨s.text=[110,111,116]∧i=6:=by
  intro i hi s h1 h3
  have:∀ i,i<23→(tabL[i]?.map (·.parts))=some 1→(tabL[i]?.map (·.text))=some [45]∧i=5∨(tabL[i]?.map (·.text))=some [110,111,116]∧i=6:=by decide +kernel
  have:=this i hi (by rw [h1];simp [h3])
  rw [h1] at this
  simpa using this
 rw [← h2];exact key i hi s h1 h3
theorem ofI_zero {t:List UInt8} {i:Nat} (h:ofI t 0=some i):t=[116,114,117,101]∧i=3∨t=[102,97,108,115,101]∧i=4:=by
 obtain ⟨s,h1,h2,h3,h4⟩:=ofI_some h
 have hi:i<23:=by rw [List.getElem?_eq_some_iff] at h1;exact h1.1
 have key:∀ i,i<23→∀ s,tabL[i]? = some s→s.parts=0→s.text≠[]→s.text=[116,114,117,101]∧i=3∨s.text=[102,97,108,115,101]∧i=4:=by
  intro i hi s h1 h3
  have:((List.range 23).all fun i=>match tabL[i]? with | some s => !(s.parts==0) || s.text==[] || (s.text==[116,114,117,101] && i==3) || (s.text==[102,97,108,115,101] && i==4) | none=>true)=true:=by decide +kernel
  have:=List.all_eq_true.1 this i (List.mem_range.2 hi)
  intro h4
  rw [h1] at this
  simp only [h3,Bool.or_eq_true,Bool.and_eq_true,beq_iff_eq,h4,or_false] at this
  simpa using this
 rw [← h2];exact key i hi s h1 h3 (by rw [h2];exact h4)
theorem ofI_two {t:List UInt8} {i:Nat} (h:ofI t 2=some i):7≤i∧i≤21∧1≤lvl i∧lvl i≤8∧isP t≠0:=by
 obtain ⟨s,h1,h2,h3,_⟩:=ofI_some h
 have hi:i<23:=by rw [List.getElem?_eq_some_iff] at h1;exact h1.1
 have key:∀ i,i<23→(tabL[i]?.map (·.parts))=some 2→7≤i∧i≤21∧1≤lvl i∧lvl i≤8∧(tabL[i]?.map fun s=>isP s.text)≠some 0:=by decide +kernel
 have:=key i hi (by rw [h1];simp [h3])
 rw [h1] at this
 rw [← h2]
 simpa using this
def nextP (l:List Tk) (i:Nat):Tk:=match l[i]? with
 | some t=>if (isP t.text:Int)=t.kind then t else ⟨0,[],0⟩
 | none=>⟨0,[],0⟩
theorem nextP_is (l:List Tk) (i:Nat):(isP (nextP l i).text:Int)=(nextP l i).kind:=by
 unfold nextP
 split
 ·split
  ·assumption
  ·rfl
 ·rfl
theorem nextP_lt {l:List Tk} {i:Nat} (h:(nextP l i).kind≠0):i<l.length:=by
 rw [← Nat.not_le]
 intro h2
 apply h
 unfold nextP
 rw [List.getElem?_eq_none h2]
structure RS where
 i:Nat
 nodes:List XN
 e:Int
 deriving DecidableEq,Inhabited
def RS.put (r:RS) (n:XN):RS:={ r with nodes:=r.nodes++[n] }
def RS.last (r:RS):Int:=(r.nodes.length:Int)-1
def RS.adv (r:RS):RS:={ r with i:=r.i+1 }
def RS.err (r:RS) (e:Int):RS:={ r with e:=e }
@[simp] theorem RS.put_i (r:RS) (n:XN):(r.put n).i=r.i:=rfl
@[simp] theorem RS.adv_i (r:RS):r.adv.i=r.i+1:=rfl
@[simp] theorem RS.err_i (r:RS) (e:Int):(r.err e).i=r.i:=rfl
abbrev Inner:=Int→RS→Bool × RS
def andThen (x:Bool × RS) (k:RS→Bool × RS):Bool × RS:=if x.1 then k x.2 else (false,x.2)
theorem andThen_true (r:RS) (k:RS→Bool × RS):andThen (true,r) k=k r:=rfl
theorem andThen_false (r:RS) (k:RS→Bool × RS):andThen (false,r) k=(false,r):=rfl
theorem andThen_assoc (x:Bool × RS) (k k':RS→Bool × RS):andThen (andThen x k) k'=andThen x fun r=>andThen (k r) k':=by
 obtain ⟨b,r⟩:=x
 cases b<;>rfl
theorem andThen_congr {x:Bool × RS} {k k':RS→Bool × RS} (h:x.1=true→k x.2=k' x.2):andThen x k=andThen x k':=by
 obtain ⟨b,r⟩:=x
 cases b
 ·rfl
 ·exact h rfl
def eatP (l:List Tk) (w:List UInt8) (r:RS):Bool × RS:=if (nextP l r.i).kind=0∨(nextP l r.i).text≠w then (false,r.err 80) else (true,r.adv)
def leafP (r:RS) (op num:Int) (name:List UInt8):Bool × RS:=(true,r.adv.put ⟨op,num,name,-1,-1,-1⟩)
def trim0 (t:List UInt8):List UInt8:=if t.dropWhile (· == 48)=[] then [48] else t.dropWhile (· == 48)
def numberP (r:RS) (t:List UInt8):Bool × RS:=if (parseR (trim0 t)).2≠0 then (false,r.err (parseR (trim0 t)).2) else leafP r 1 (parseR (trim0 t)).1 []
def wIf:List UInt8:=[105,102]
def wThen:List UInt8:=[116,104,101,110]
def wElse:List UInt8:=[101,108,115,101]
def wEndif:List UInt8:=[101,110,100,105,102]
def branchesP (l:List Tk) (inner:Inner) (r:RS):Bool × RS :=
 andThen (eatP l wIf r) fun r1=>andThen (inner 1 r1) fun a=>andThen (eatP l wThen a) fun r2=>andThen (inner 1 r2) fun b =>
 andThen (eatP l wElse b) fun r3=>andThen (inner 1 r3) fun c=>andThen (eatP l wEndif c) fun r4=>(true,r4.put ⟨22,0,[],a.last,b.last,c.last⟩)
def aheadP (l:List Tk) (inner:Inner) (r:RS):Bool × RS :=
 if (nextP l r.i).kind=1 then numberP r (nextP l r.i).text
 else if (nextP l r.i).kind=2 then leafP r 2 0 (nextP l r.i).text
 else if (nextP l r.i).kind=0 then (false,r.err 80)
 else if (ofP (nextP l r.i).text 1).2 then andThen (inner 9 r.adv) fun a=>(true,a.put ⟨(ofP (nextP l r.i).text 1).1,0,[],a.last,-1,-1⟩)
 else if (nextP l r.i).text=[40] then andThen (inner 1 r.adv) (eatP l [41])
 else if (nextP l r.i).text=wIf then branchesP l inner r
 else if (ofP (nextP l r.i).text 0).2∧(nextP l r.i).kind=3 then leafP r (ofP (nextP l r.i).text 0).1 0 []
 else (false,r.err 80)
def opAt (l:List Tk) (i:Nat):Option Nat:=if (nextP l i).kind=0 then none else ofI (nextP l i).text 2
def loopP (l:List Tk) (inner:Inner) (n:Int):Nat→RS→Bool × RS
 | 0,r=>(true,r)
 | m+1,r=>match opAt l r.i with
  | none=>(true,r)
  | some op=>if lvl op<n then (true,r) else andThen (inner (lvl op+1) r.adv) fun a=>loopP l inner n m (a.put ⟨op,0,[],r.last,a.last,-1⟩)
def climbP (l:List Tk):Nat→Inner
 | 0,_,r=>(false,r)
 | f+1,n,r=>andThen (aheadP l (climbP l f) r) (loopP l (climbP l f) n (l.length+1))
def trimR:List UInt8→List UInt8
 | c::d::r=>if c=48 then trimR (d::r) else c::d::r
 | s=>s
def numberR (r:RS) (t:List UInt8):Bool × RS:=if (parseR (trimR t)).2≠0 then (false,r.err 60) else leafP r 1 (parseR (trimR t)).1 []
def eatR (l:List Tk) (w:List UInt8) (r:RS):Bool × RS:=if (nextP l r.i).text≠w then (false,r.err 80) else (true,r.adv)
def branchesR (l:List Tk) (inner:Inner) (r:RS):Bool × RS :=
 andThen (inner 1 r.adv) fun a=>andThen (eatR l wThen a) fun r2=>andThen (inner 1 r2) fun b =>
 andThen (eatR l wElse b) fun r3=>andThen (inner 1 r3) fun c=>andThen (eatR l wEndif c) fun r4=>(true,r4.put ⟨22,0,[],a.last,b.last,c.last⟩)
def primR (l:List Tk) (inner:Inner) (r:RS):Bool × RS :=
 if (nextP l r.i).text=[40] then andThen (inner 1 r.adv) (eatR l [41])
 else if (nextP l r.i).text=wIf then branchesR l inner r
 else if (nextP l r.i).text=[116,114,117,101] then leafP r 3 0 []
 else if (nextP l r.i).text=[102,97,108,115,101] then leafP r 4 0 []
 else if (nextP l r.i).text≠[]∧(nextP l r.i).kind=1 then numberR r (nextP l r.i).text
 else if (nextP l r.i).text≠[]∧(nextP l r.i).kind=2 then leafP r 2 0 (nextP l r.i).text
 else (false,r.err 80)
def unR (l:List Tk) (inner:Inner) (r:RS):Bool × RS :=
 if (nextP l r.i).text=[45] then andThen (inner 9 r.adv) fun a=>(true,a.put ⟨5,0,[],a.last,-1,-1⟩)
 else if (nextP l r.i).text=[110,111,116] then andThen (inner 9 r.adv) fun a=>(true,a.put ⟨6,0,[],a.last,-1,-1⟩)
 else primR l inner r
def twoR (l:List Tk) (n:Int) (i:Nat):Nat:=match ofI (nextP l i).text 2 with | some op=>if lvl op=n then op else 0 | none=>0
def tailR (l:List Tk) (inner:Inner) (n:Int):Nat→RS→Bool × RS
 | 0,r=>(true,r)
 | m+1,r=>if twoR l n r.i=0 then (true,r) else andThen (inner (n+1) r.adv) fun a=>tailR l inner n m (a.put ⟨twoR l n r.i,0,[],r.last,a.last,-1⟩)
def levK (l:List Tk) (inner:Inner):Nat→RS→Bool × RS
 | 0,r=>unR l inner r
 | k+1,r=>andThen (levK l inner k r) (tailR l inner (8-k) (l.length+1))
def Mono (inner:Inner):Prop:=∀ n r,r.i≤(inner n r).2.i
theorem andThen_mono {x:Bool × RS} {k:RS→Bool × RS} {a:Nat} (h:a≤x.2.i) (hk:∀ r,x.2.i≤r.i→r.i≤(k r).2.i):a≤(andThen x k).2.i:=by
 obtain ⟨b,r⟩:=x
 cases b
 ·exact h
 ·exact Nat.le_trans h (hk r (Nat.le_refl _))
theorem eatP_mono (l:List Tk) (w:List UInt8) (r:RS):r.i≤(eatP l w r).2.i:=by
 unfold eatP;split
 ·exact Nat.le_refl _
 ·exact Nat.le_succ _
theorem leafP_mono (r:RS) (op num:Int) (name:List UInt8):r.i≤(leafP r op num name).2.i:=Nat.le_succ _
theorem numberP_mono (r:RS) (t:List UInt8):r.i≤(numberP r t).2.i:=by
 unfold numberP;split
 ·exact Nat.le_refl _
 ·exact leafP_mono _ _ _ _
theorem branchesP_mono {l:List Tk} {inner:Inner} (h:Mono inner) (r:RS):r.i≤(branchesP l inner r).2.i:=by
 unfold branchesP
 refine andThen_mono (eatP_mono _ _ _) fun r1 _=>andThen_mono (h _ _) fun a _=>andThen_mono (eatP_mono _ _ _) fun r2 _=>andThen_mono (h _ _) fun b _=>andThen_mono (eatP_mono _ _ _) fun r3 _=>andThen_mono (h _ _) fun c _=>andThen_mono (eatP_mono _ _ _) fun r4 _=>Nat.le_refl _
theorem aheadP_mono {l:List Tk} {inner:Inner} (h:Mono inner) (r:RS):r.i≤(aheadP l inner r).2.i:=by
 have h1:r.i≤r.adv.i:=Nat.le_succ _
 unfold aheadP
 split
 ·exact numberP_mono _ _
 split
 ·exact leafP_mono _ _ _ _
 split
 ·exact Nat.le_refl _
 split
 ·exact andThen_mono (Nat.le_trans h1 (h _ _)) fun a _=>Nat.le_refl _
 split
 ·exact andThen_mono (Nat.le_trans h1 (h _ _)) fun a _=>eatP_mono _ _ _
 split
 ·exact branchesP_mono h r
 split
 ·exact leafP_mono _ _ _ _
 ·exact Nat.le_refl _
theorem loopP_mono {l:List Tk} {inner:Inner} (h:Mono inner) (n:Int):∀ (m:Nat) (r:RS),r.i≤(loopP l inner n m r).2.i
 | 0,r=>Nat.le_refl _
 | m+1,r=>by
  rw [loopP]
  split
  ·exact Nat.le_refl _
  ·split
   ·exact Nat.le_refl _
   ·exact andThen_mono (Nat.le_trans (Nat.le_succ _) (h _ r.adv)) fun a _=>loopP_mono h n m (a.put _)
theorem climbP_mono (l:List Tk):∀ f,Mono (climbP l f)
 | 0=>fun _ _=>Nat.le_refl _
 | f+1=>fun n r=>by
  rw [climbP]
  exact andThen_mono (aheadP_mono (climbP_mono l f) r) fun a _=>loopP_mono (climbP_mono l f) n _ a
def Ends (l:List Tk) (n:Int) (i:Nat):Prop:=∀ op,opAt l i=some op→lvl op<n
theorem opAt_lt {l:List Tk} {i op:Nat} (h:opAt l i=some op):i<l.length:=by
 unfold opAt at h
 split at h
 ·cases h
 ·exact nextP_lt (by assumption)
theorem loopP_ends {l:List Tk} {inner:Inner} (h:Mono inner) (n:Int):∀ (m:Nat) (r:RS),l.length<m+r.i→(loopP l inner n m r).1=true→Ends l n (loopP l inner n m r).2.i
 | 0,r,hm,_=>fun op ho=>by have h2:r.i<l.length:=opAt_lt ho;omega
 | m+1,r,hm,hb=>by
  rw [loopP] at hb ⊢
  cases ho:opAt l r.i with
  | none =>
   intro op h2
   have h2:opAt l r.i=some op:=h2
   rw [ho] at h2;cases h2
  | some op =>
   rw [ho] at hb
   simp only at hb ⊢
   by_cases hl:lvl op<n
   ·rw [if_pos hl] at hb ⊢
    intro op' h2
    have h2:opAt l r.i=some op':=h2
    rw [ho] at h2;cases h2
    exact hl
   ·rw [if_neg hl] at hb ⊢
    have h3:=h (lvl op+1) r.adv
    generalize inner (lvl op+1) r.adv=x at hb h3 ⊢
    obtain ⟨b,a⟩:=x
    cases b
    ·cases hb
    ·exact loopP_ends h n m _ (by have:r.i+1≤a.i:=h3;simp only [RS.put_i];omega) hb
theorem climbP_ends {l:List Tk} {f:Nat} {n:Int} {r:RS} (hb:(climbP l f n r).1=true):Ends l n (climbP l f n r).2.i:=by
 cases f with
 | zero=>cases hb
 | succ f =>
  rw [climbP] at hb ⊢
  generalize aheadP l (climbP l f) r=x at hb ⊢
  obtain ⟨b,a⟩:=x
  cases b
  ·cases hb
  ·exact loopP_ends (climbP_mono l f) n _ a (by omega) hb
theorem opAt_two {l:List Tk} {i:Nat}:opAt l i=ofI (nextP l i).text 2:=by
 unfold opAt
 split
 ·rename_i h
  cases ho:ofI (nextP l i).text 2 with
  | none=>rfl
  | some op =>
   have h1:=(ofI_two ho).2.2.2.2
   have h2:=nextP_is l i
   rw [h] at h2
   omega
 ·rfl
theorem twoR_none {l:List Tk} {n:Int} {i:Nat} (h:opAt l i=none):twoR l n i=0:=by
 unfold twoR;rw [← opAt_two,h]
theorem twoR_some {l:List Tk} {n:Int} {i op:Nat} (h:opAt l i=some op):twoR l n i=if lvl op=n then op else 0:=by
 unfold twoR;rw [← opAt_two,h]
theorem op_pos {l:List Tk} {i op:Nat} (h:opAt l i=some op):7≤op∧op≤21∧1≤lvl op∧lvl op≤8:=by
 rw [opAt_two] at h
 obtain ⟨h1,h2,h3,h4,_⟩:=ofI_two h
 exact ⟨h1,h2,h3,h4⟩
theorem tailR_fuel {l:List Tk} {inner:Inner} (h:Mono inner) (n:Int):∀ (m m':Nat) (r:RS),l.length<m+r.i→l.length<m'+r.i→tailR l inner n m r=tailR l inner n m' r
 | 0,m',r,h1,_=>by
  cases m' with
  | zero=>rfl
  | succ m' =>
   rw [tailR,tailR,if_pos]
   apply twoR_none
   cases ho:opAt l r.i with
   | none=>rfl
   | some op=>have:=opAt_lt ho;omega
 | m+1,0,r,_,h2=>by
  rw [tailR,tailR,if_pos]
  apply twoR_none
  cases ho:opAt l r.i with
  | none=>rfl
  | some op=>have:=opAt_lt ho;omega
 | m+1,m'+1,r,h1,h2=>by
  rw [tailR,tailR]
  split
  ·rfl
  ·refine andThen_congr fun _=>?_
   have h3:r.i+1≤_:=h (n+1) r.adv
   exact tailR_fuel h n m m' _ (by simp only [RS.put_i];omega) (by simp only [RS.put_i];omega)
theorem loop_split {l:List Tk} {inner:Inner} (h:Mono inner) (n:Int) (he:∀ r,(inner (n+1) r).1=true→Ends l (n+1) (inner (n+1) r).2.i) :
  ∀ (m:Nat) (r:RS),l.length<m+r.i→loopP l inner n m r=andThen (loopP l inner (n+1) m r) (tailR l inner n m)
 | 0,r,hm=>rfl
 | m+1,r,hm=>by
  rw [loopP,loopP]
  cases ho:opAt l r.i with
  | none =>
   simp only
   rw [andThen_true,tailR,if_pos (twoR_none ho)]
  | some op =>
   have hop:=op_pos ho
   simp only
   by_cases h1:lvl op<n
   ·rw [if_pos h1,if_pos (by omega),andThen_true,tailR,if_pos (by rw [twoR_some ho,if_neg (by omega)])]
   ·rw [if_neg h1]
    by_cases h2:lvl op<n+1
    ·have h3:lvl op=n:=by omega
     have h4:twoR l n r.i=op:=by rw [twoR_some ho,if_pos h3]
     rw [if_pos h2,andThen_true,tailR,h4,if_neg (by omega),h3]
     refine andThen_congr fun hb=>?_
     have h5:=he r.adv hb
     have h6:r.i+1≤_:=h (n+1) r.adv
     generalize inner (n+1) r.adv=x at hb h5 h6 ⊢
     obtain ⟨b,a⟩:=x
     rw [loop_split h n he m _ (by simp only [RS.put_i];simp only at h6;omega)]
     have h7:loopP l inner (n+1) m (a.put ⟨op,0,[],r.last,a.last,-1⟩)=(true,a.put ⟨op,0,[],r.last,a.last,-1⟩):=by
      cases m with
      | zero=>rfl
      | succ m =>
       rw [loopP]
       cases ho2:opAt l (a.put ⟨op,0,[],r.last,a.last,-1⟩).i with
       | none=>rfl
       | some op2=>simp only;rw [if_pos (h5 op2 ho2)]
     rw [h7,andThen_true]
    ·rw [if_neg h2,andThen_assoc]
     refine andThen_congr fun hb=>?_
     have h6:r.i+1≤_:=h (lvl op+1) r.adv
     generalize inner (lvl op+1) r.adv=x at hb h6 ⊢
     obtain ⟨b,a⟩:=x
     simp only at h6
     rw [loop_split h n he m _ (by simp only [RS.put_i];omega)]
     refine andThen_congr fun _=>?_
     have h8:a.i≤_:=loopP_mono (l:=l) h (n+1) m (a.put ⟨op,0,[],r.last,a.last,-1⟩)
     show tailR l inner n m (loopP l inner (n+1) m (a.put ⟨op,0,[],r.last,a.last,-1⟩)).2=_
     exact tailR_fuel h n _ _ _ (by omega) (by omega)
theorem trimR_eq:∀ {t:List UInt8},t≠[]→trimR t=trim0 t
 | [],h=>absurd rfl h
 | [c],_=>by
  unfold trim0
  by_cases h:c=48
  ·subst h;rfl
  ·have:(c==48)=false:=by simpa using h
   simp [trimR,List.dropWhile,this]
 | c::d::r,_=>by
  rw [trimR]
  by_cases h:c=48
  ·subst h
   rw [if_pos rfl,trimR_eq (t:=d::r) (by simp)]
   unfold trim0
   rw [show (48::d::r:List UInt8).dropWhile (· == 48)=(d::r).dropWhile (· == 48) from rfl]
  ·have:(c==48)=false:=by simpa using h
   rw [if_neg h]
   unfold trim0
   simp [List.dropWhile,this]
theorem isP_dig {t:List UInt8} (h:isP t=1):t≠[]∧t.all isDig=true:=by
 rw [isP_whole] at h
 split at h
 ·cases h
 ·match t with
  | []=>cases h
  | c::r =>
   refine ⟨by simp,?_⟩
   rcases al_cases c with hc | ⟨_,hc⟩ | ⟨hc,_⟩
   ·rw [whole_dg hc] at h
    split at h
    ·assumption
    ·cases h
   ·rw [whole_lt hc] at h
    split at h
    ·split at h<;>cases h
    ·cases h
   ·rw [whole_no hc] at h
    split at h<;>cases h
theorem parse_digits {t:List UInt8} (h:t.all isDig=true):(parseR (trim0 t)).2=0∨(parseR (trim0 t)).2=60:=by
 have h1:(trim0 t).all isDig=true∧trim0 t≠[]∧((trim0 t).head? = some 48→(trim0 t).length=1):=by
  unfold trim0
  split
  ·exact ⟨by decide,by simp,fun _=>rfl⟩
  ·rename_i hn
   refine ⟨?_,hn,fun h2=>?_⟩
   ·rw [List.all_eq_true] at h ⊢
    exact fun x hx=>h x ((List.dropWhile_sublist _).mem hx)
   ·have:=List.head?_dropWhile_not (· == (48:UInt8)) t
    rw [h2] at this
    simp at this
 obtain ⟨h1,h2,h3⟩:=h1
 generalize trim0 t=s at h1 h2 h3
 have hh:¬ (s.head? == some 45)=true:=by
  cases s with
  | nil=>exact absurd rfl h2
  | cons c r =>
   intro hc
   have hc:c=45:=by simpa using hc
   subst hc
   rw [List.all_cons] at h1
   revert h1
   simp [isDig]
 have hh':(s.head? == some 45)=false:=by simpa using hh
 unfold parseR
 rw [hh']
 simp only [Bool.false_eq_true,if_false,or_false]
 rw [if_neg]
 ·generalize ((val (s.reverse.map dval):Nat):Int)=x
  unfold told
  split
  ·exact .inl rfl
  ·exact .inr rfl
 ·rintro (h | ⟨h,h'⟩ | h)
  ·exact h2 h
  ·have:=h3 h;omega
  ·rw [h1] at h;cases h
theorem number_eq (r:RS) {t:List UInt8} (h:isP t=1):numberR r t=numberP r t:=by
 obtain ⟨h1,h2⟩:=isP_dig h
 unfold numberR numberP
 rw [trimR_eq h1]
 rcases parse_digits h2 with h3 | h3
 ·simp only [h3];rfl
 ·simp only [h3]
theorem eat_eq (l:List Tk) {w:List UInt8} (hw:isP w≠0) (r:RS):eatR l w r=eatP l w r:=by
 unfold eatR eatP
 by_cases h:(nextP l r.i).text=w
 ·have:=nextP_is l r.i
  rw [h] at this
  rw [if_neg (by simpa using h),if_neg]
  rintro (h2 | h2)
  ·omega
  ·exact h2 h
 ·rw [if_pos h,if_pos (.inr h)]
theorem eatP_if {l:List Tk} {r:RS} (h:(nextP l r.i).text=wIf):eatP l wIf r=(true,r.adv):=by
 have h1:=nextP_is l r.i
 rw [h] at h1
 have h2:isP wIf=3:=by decide
 unfold eatP
 rw [if_neg]
 rintro (h3 | h3)
 ·omega
 ·exact h3 h
theorem un_ahead (l:List Tk) (inner:Inner) (r:RS):unR l inner r=aheadP l inner r:=by
 have hk:=nextP_is l r.i
 have e41:=eat_eq l (w:=[41]) (by decide)
 have eT:=eat_eq l (w:=wThen) (by decide)
 have eE:=eat_eq l (w:=wElse) (by decide)
 have eN:=eat_eq l (w:=wEndif) (by decide)
 have hbr:(nextP l r.i).text=wIf→branchesR l inner r=branchesP l inner r:=fun h=>by
  unfold branchesR branchesP
  rw [eatP_if h,andThen_true]
  simp only [eT,eE,eN]
 have hpr:andThen (inner 1 r.adv) (eatR l [41])=andThen (inner 1 r.adv) (eatP l [41]):=andThen_congr fun _=>e41 _
 unfold unR primR aheadP
 rw [hpr]
 generalize nextP l r.i=t at hk hbr ⊢
 obtain ⟨k,t,p⟩:=t
 simp only at hk hbr ⊢
 by_cases c1:t=[45]
 ·subst c1
  have:k=4:=by rw [← hk];decide
  subst this
  rfl
 rw [if_neg c1]
 by_cases c2:t=[110,111,116]
 ·subst c2
  have:k=3:=by rw [← hk];decide
  subst this
  rfl
 rw [if_neg c2]
 by_cases c3:t=[40]
 ·subst c3
  have:k=4:=by rw [← hk];decide
  subst this
  rfl
 rw [if_neg c3]
 by_cases c4:t=wIf
 ·subst c4
  have:k=3:=by rw [← hk];decide
  subst this
  rw [if_pos rfl,hbr rfl]
  rfl
 rw [if_neg c4]
 by_cases c5:t=[116,114,117,101]
 ·subst c5
  have:k=3:=by rw [← hk];decide
  subst this
  rfl
 rw [if_neg c5]
 by_cases c6:t=[102,97,108,115,101]
 ·subst c6
  have:k=3:=by rw [← hk];decide
  subst this
  rfl
 rw [if_neg c6]
 have hne:k=1∨k=2→t≠[]:=by
  rintro h rfl
  have:isP []=0:=rfl
  omega
 by_cases k1:k=1
 ·rw [if_pos ⟨hne (.inl k1),k1⟩,if_pos k1]
  exact number_eq r (by omega)
 rw [if_neg (fun h=>k1 h.2),if_neg k1]
 by_cases k2:k=2
 ·rw [if_pos ⟨hne (.inr k2),k2⟩,if_pos k2]
 rw [if_neg (fun h=>k2 h.2),if_neg k2]
 by_cases k0:k=0
 ·rw [if_pos k0]
 have o1:(ofP t 1).2=false:=by
  unfold ofP
  cases ho:ofI t 1 with
  | none=>rfl
  | some i =>
   rcases ofI_one ho with ⟨h,_⟩ | ⟨h,_⟩
   ·exact absurd h c1
   ·exact absurd h c2
 have o0:(ofP t 0).2=false:=by
  unfold ofP
  cases ho:ofI t 0 with
  | none=>rfl
  | some i =>
   rcases ofI_zero ho with ⟨h,_⟩ | ⟨h,_⟩
   ·exact absurd h c5
   ·exact absurd h c6
 rw [if_neg k0,o1,if_neg (by simp),if_neg c3,if_neg c4,o0,if_neg (by simp)]
theorem loop9 (l:List Tk) (inner:Inner) (m:Nat) (r:RS):loopP l inner 9 m r=(true,r):=by
 cases m with
 | zero=>rfl
 | succ m =>
  rw [loopP]
  cases ho:opAt l r.i with
  | none=>rfl
  | some op=>simp only;rw [if_pos (by have:=op_pos ho;omega)]
theorem levK_climb {l:List Tk} {inner:Inner} (h:Mono inner) (he:∀ n r,(inner n r).1=true→Ends l n (inner n r).2.i) :
  ∀ (k:Nat) (r:RS),levK l inner k r=andThen (aheadP l inner r) (loopP l inner (9-k) (l.length+1))
 | 0,r=>by
  rw [levK,un_ahead]
  have:∀ x:Bool × RS,x=andThen x (loopP l inner (9-(0:Nat)) (l.length+1)):=by
   rintro ⟨b,a⟩
   cases b
   ·rfl
   ·exact (loop9 l inner _ a).symm
  exact this _
 | k+1,r=>by
  rw [levK,levK_climb h he k r,andThen_assoc]
  refine andThen_congr fun _=>?_
  have hs:=loop_split (l:=l) h (8-k) (he _) (l.length+1) (aheadP l inner r).2 (by omega)
  have e1:(9:Int)-(k:Nat)=8-k+1:=by omega
  have e2:(9:Int)-((k+1:Nat))=8-k:=by omega
  rw [e1,e2,hs]
end Go.Hs
end

section
namespace Go.Hs
open Go.Proofs
set_option maxRecDepth 100000
def encSg (s:Sg):V := .agg [.str s.text,.int .i64 s.level,.int .i64 s.parts]
theorem encSg_K (s:Sg):encSg s = .agg [.str s.text,.int .i64 s.level,.int .i64 s.parts]:=rfl
theorem encSg_cells (s:Sg):(encSg s).cells.length=3:=rfl
def tabC:List V:=flat (tabL.map encSg)
theorem tabC_get (op:Nat) (h:op<23) (k:Nat) (hk:k<3):tabC[op * 3+k]? = ((encSg (tabL.getD op ⟨[],0,0⟩)).cells)[k]? := by
 match k,hk with
 | 0,_=>exact match op,h with
  | 0,_=>rfl
  | 1,_=>rfl
  | 2,_=>rfl
  | 3,_=>rfl
  | 4,_=>rfl
  | 5,_=>rfl
  | 6,_=>rfl
  | 7,_=>rfl
  | 8,_=>rfl
  | 9,_=>rfl
  | 10,_=>rfl
  | 11,_=>rfl
  | 12,_=>rfl
  | 13,_=>rfl
  | 14,_=>rfl
  | 15,_=>rfl
  | 16,_=>rfl
  | 17,_=>rfl
  | 18,_=>rfl
  | 19,_=>rfl
  | 20,_=>rfl
  | 21,_=>rfl
  | 22,_=>rfl
  | n+23,h=>absurd h (by omega)
 | 1,_=>exact match op,h with
  | 0,_=>rfl
  | 1,_=>rfl
  | 2,_=>rfl
  | 3,_=>rfl
  | 4,_=>rfl
  | 5,_=>rfl
  | 6,_=>rfl
  | 7,_=>rfl
  | 8,_=>rfl
  | 9,_=>rfl
  | 10,_=>rfl
  | 11,_=>rfl
  | 12,_=>rfl
  | 13,_=>rfl
  | 14,_=>rfl
  | 15,_=>rfl
  | 16,_=>rfl
  | 17,_=>rfl
  | 18,_=>rfl
  | 19,_=>rfl
  | 20,_=>rfl
  | 21,_=>rfl
  | 22,_=>rfl
  | n+23,h=>absurd h (by omega)
 | 2,_=>exact match op,h with
  | 0,_=>rfl
  | 1,_=>rfl
  | 2,_=>rfl
  | 3,_=>rfl
  | 4,_=>rfl
  | 5,_=>rfl
  | 6,_=>rfl
  | 7,_=>rfl
  | 8,_=>rfl
  | 9,_=>rfl
  | 10,_=>rfl
  | 11,_=>rfl
  | 12,_=>rfl
  | 13,_=>rfl
  | 14,_=>rfl
  | 15,_=>rfl
  | 16,_=>rfl
  | 17,_=>rfl
  | 18,_=>rfl
  | 19,_=>rfl
  | 20,_=>rfl
  | 21,_=>rfl
  | 22,_=>rfl
  | n+23,h=>absurd h (by omega)
theorem tabC_lvl (op:Nat) (h:op<23):tabC[op * 3+1]? = some (.int .i64 (lvl op)):=by rw [tabC_get op h 1 (by decide)];rfl
theorem tabC_len:tabC.length=69:=rfl
theorem tabC_rc (f:Col→Col):(V.agg tabC).recol f = .agg tabC:=by
 have:V.recolL f tabC=tabC:=by
  rw [V.recolL_eq]
  have:∀ v∈tabC,v.recol f=v:=by
   intro v hv
   unfold tabC flat at hv
   rw [List.mem_flatMap] at hv
   obtain ⟨a,ha,hv⟩:=hv
   obtain ⟨s,_,rfl⟩:=List.mem_map.1 ha
   simp only [encSg_K,V.cells,List.mem_cons,List.not_mem_nil,or_false] at hv
   rcases hv with rfl | rfl | rfl<;>rfl
  exact (List.map_congr_left this).trans (List.map_id _)
 rw [V.recol,this]
theorem setAt_eq:∀ (c l:List V) (off:Nat),off+c.length≤l.length→Hs.setAt l off c=l.take off++c++l.drop (off+c.length)
 | [],l,off,_=>by simp [Hs.setAt]
 | v::r,l,off,h=>by
  simp only [List.length_cons] at h
  rw [Hs.setAt,setAt_eq r (l.set off v) (off+1) (by rw [List.length_set];omega)]
  have h1:(l.set off v).take (off+1)=l.take off++[v]:=by
   rw [List.take_add_one,List.getElem?_set_self (by omega),List.take_set_of_le (Nat.le_refl _)];rfl
  have h2:(l.set off v).drop (off+1+r.length)=l.drop (off+(r.length+1)):=by
   rw [List.drop_set_of_lt (by omega)]
   congr 1;omega
  rw [h1,h2];simp
theorem setAt_all {l c:List V} (h:c.length=l.length):Hs.setAt l 0 c=c:=by
 rw [setAt_eq c l 0 (by omega),h];simp
theorem setAt_tab (l:List V) (h:l.length=69):Hs.setAt l 0 tabC=tabC:=setAt_all (by rw [h];rfl)
theorem xTable_spec (G:Nat→V) (hG:GOk G):Spec Tryz.prog G 61 [] hNone (fun v _=>v = .agg tabC):=by
 refine Spec.of_code' 0 24 [.cell 0 108] Tryz.func61 rfl rfl rfl rfl fun X=>?_
 refine AW.seq_k fun K hK=>AW.region (by kernel_rfl) ?_
 simp -implicitDefEqProofs only[go_sem,seval,↓reduceIte]
 intro g0
 refine hK _ ?_
 clear hK K
 refine AW.seq_k fun K hK=>AW.region (by kernel_rfl) ?_
 simp -implicitDefEqProofs only[go_sem,seval,↓reduceIte]
 refine hK _ ?_
 clear hK K
 refine AW.ret ?_
 simp -implicitDefEqProofs only[go_sem,seval,↓reduceIte]
 refine endK_some ?_
 rfl
structure FnG (G:Nat→V) (f:FuncId) (cap:List V) (p:Sg→Bool):Prop where
 en:enterable Tryz.prog f=true
 rc:cap.map (V.recol Col.ent)=cap
 sp:∀ s:Sg,Spec Tryz.prog G f (encSg s::cap) hNone (fun v _=>v = .bool (p s))
theorem recol_sg (f:Col→Col) (s:Sg):(encSg s).recol f=encSg s:=by simp only [encSg_K,recol_agg,List.map_cons,List.map_nil,recol_int,recol_str]
theorem sIndexFuncG_spec (G:Nat→V) (hG:GOk G) (c:Col) (s:Sl Sg) (hs:s.l.length<1000000) {f:FuncId} {cap:List V} {p:Sg→Bool} (hf:FnG G f cap p) :
  Spec Tryz.prog G 113 [encSl c 3 encSg s,.func (.func f) [] cap] hNone (fun v _=>v = .int .i64 (idxP p s.l)):=by
 refine Spec.of_code' 0 19 [.tmp 4] Tryz.func113 rfl rfl rfl rfl fun X=>?_
 refine AW.seq_k fun K hK=>AW.region (by kernel_rfl) ?_
 simp -implicitDefEqProofs only[go_sem,seval,↓reduceIte]
 refine hK _ ?_
 clear hK K
 refine AW.seq_k fun K1 hK1=>?_
 refine AW.seq_k fun K hK=>AW.region (by kernel_rfl) ?_
 simp -implicitDefEqProofs only[go_sem,seval,↓reduceIte]
 refine hK _ ?_
 clear hK K
 refine AW.block ?_
 refine AW.for s.l.length (fun k (_:Unit)=>st [(0,encSl c 3 encSg s),(1,.func (.func f) [] cap),(7,.int .i64 s.l.length),(8,.int .i64 k)] []) (fun k _=>∀ y∈s.l.take k,p y=false) 0 () (Nat.zero_le _) (by simp)
  (Weak.st (by simp -implicitDefEqProofs only[go_sem,seval,↓reduceIte];try rfl) (by simp -implicitDefEqProofs only[go_sem,seval,↓reduceIte])) ?_
 intro k _ hk hR L2 hL2
 refine AW.seq_k fun K hK=>AW.region (by kernel_rfl) ?_
 simp -implicitDefEqProofs only[go_sem,seval,↓reduceIte]
 refine hK _ ?_
 clear hK K
 refine AW.seq_k fun K3 hK3=>?_
 refine AW.condS (by simp -implicitDefEqProofs only[go_sem,seval,↓reduceIte];rfl) (fun h4=>?_) (fun h4=>?_)
 ·have hk1:k<s.l.length:=by simpa using h4
  have hg:=List.getElem?_eq_getElem hk1
  generalize s.l[k]=x at hg
  refine AW.skip ?_
  simp -implicitDefEqProofs only[go_sem,seval,↓reduceIte]
  refine hK3 _ ?_
  refine AW.seq_k fun K5 hK5=>?_
  refine AW.block ?_
  refine AW.seq_k fun K hK=>AW.region (by kernel_rfl) ?_
  simp -implicitDefEqProofs only[go_sem,seval,↓reduceIte]
  refine hK _ ?_
  clear hK K
  refine AW.seq_k fun K hK=>AW.region (by kernel_rfl) ?_
  simp -implicitDefEqProofs only[go_sem,seval,↓reduceIte,hg,encSg_K]
  refine CallA.pure hG hf.en ?_
  simp only [List.map_cons,hf.rc,← encSg_K,recol_sg]
  refine (hf.sp x).mono ?_
  rintro _ _ rfl
  simp -implicitDefEqProofs only[go_sem,seval,↓reduceIte]
  refine hK _ ?_
  clear hK K
  refine AW.condS (by simp -implicitDefEqProofs only[go_sem,seval,↓reduceIte];rfl) (fun h6=>?_) (fun h6=>?_)
  ·refine AW.seq_k fun K hK=>AW.region (by kernel_rfl) ?_
   simp -implicitDefEqProofs only[go_sem,seval,↓reduceIte]
   refine hK _ ?_
   clear hK K
   refine AW.ret ?_
   simp -implicitDefEqProofs only[go_sem,seval,↓reduceIte]
   refine endK_some ?_
   rw [idxP_take hg hR h6]
  ·refine AW.skip ?_
   simp -implicitDefEqProofs only[go_sem,seval,↓reduceIte]
   refine hK5 _ ?_
   refine AW.region (by kernel_rfl) ?_
   simp -implicitDefEqProofs only[go_sem,seval,↓reduceIte]
   refine hL2 _ ⟨hk1,(),take_all hg hR h6,Weak.st (by simp -implicitDefEqProofs only[go_sem,seval,↓reduceIte];exact congrArg _ (w64 (by omega) (by omega))) (by simp -implicitDefEqProofs only[go_sem,seval,↓reduceIte])⟩
 ·have hk1:k=s.l.length:=by simp at h4;omega
  refine AW.exit ?_
  simp -implicitDefEqProofs only[go_sem,seval,↓reduceIte]
  refine hK1 _ ?_
  refine AW.seq_k fun K hK=>AW.region (by kernel_rfl) ?_
  simp -implicitDefEqProofs only[go_sem,seval,↓reduceIte]
  refine hK _ ?_
  clear hK K
  refine AW.ret ?_
  simp -implicitDefEqProofs only[go_sem,seval,↓reduceIte]
  refine endK_some ?_
  rw [hk1,List.take_length] at hR
  rw [idxP_none hR]
theorem xOf1_spec (G:Nat→V) (hG:GOk G) (t:List UInt8) (p:Int) (s:Sg):Spec Tryz.prog G 114 [encSg s,.view .old (.str t),.view .old (.int .i64 p)] hNone (fun v _=>v = .bool (sgIs t p s)):=by
 refine Spec.of_code' 0 20 [.tmp 4] Tryz.func114 rfl rfl rfl rfl fun X=>?_
 simp only [encSg_K]
 refine AW.seq_k fun K hK=>AW.region (by kernel_rfl) ?_
 simp -implicitDefEqProofs only[go_sem,seval,↓reduceIte]
 intro g3
 refine hK _ ?_
 clear hK K
 unfold sgIs
 cases h1:(s.text==t)<;>cases h2:(s.parts==p)<;>cases h3:(s.text==[])<;>((refine AW.seq_k fun K hK=>AW.region (by kernel_rfl) ?_;simp -implicitDefEqProofs only[go_sem,seval,↓reduceIte,bne,h1,h2,h3];refine hK _ ?_;clear hK K);(refine AW.ret ?_;simp -implicitDefEqProofs only[go_sem,seval,↓reduceIte];refine endK_some ?_);rfl)
theorem fOf1 {G:Nat→V} (hG:GOk G) (t:List UInt8) (p:Int):FnG G 114 [.view .old (.str t),.view .old (.int .i64 p)] (sgIs t p):=⟨by kernel_rfl,rfl,xOf1_spec G hG t p⟩
theorem idxP_ofI (t:List UInt8) (p:Int):idxP (sgIs t p) tabL=match ofI t p with | some i=>(i:Int) | none => -1:=rfl
def encOf (o:Nat × Bool):V := .tuple [.int .u8 o.1,.bool o.2]
theorem ofI_lt {t:List UInt8} {p:Int} {i:Nat} (h:ofI t p=some i):i<23:=(List.findIdx?_eq_some_iff_getElem.1 h).1
theorem xOf_spec (G:Nat→V) (hG:GOk G) (t:List UInt8) (p:Int):Spec Tryz.prog G 76 [.str t,.int .i64 p] hNone (fun v _=>v=encOf (ofP t p)):=by
 refine Spec.of_code' 0 17 [.tmp 4,.tmp 5] Tryz.func76 rfl rfl rfl rfl fun X=>?_
 refine AW.seq_k fun K hK=>AW.region (by kernel_rfl) ?_
 simp -implicitDefEqProofs only[go_sem,seval,↓reduceIte]
 intro g2 g3
 refine hK _ ?_
 clear hK K
 refine AW.seq_k fun K hK=>AW.region (by kernel_rfl) ?_
 simp -implicitDefEqProofs only[go_sem,seval,↓reduceIte]
 refine CallA.pure hG (by kernel_rfl) ?_
 simp -implicitDefEqProofs only[go_sem,seval,↓reduceIte,List.map_nil]
 refine (xTable_spec G hG).mono ?_
 rintro _ _ rfl
 simp -implicitDefEqProofs only[go_sem,seval,↓reduceIte,tabC_rc,tabC_len,Nat.le_refl]
 intro g6
 rw [setAt_tab _ ?hl]
 case hl=>rfl
 refine hK _ ?_
 clear hK K
 refine AW.seq_k fun K hK=>AW.regionAt 0 (by kernel_rfl) rfl rfl ?_
 simp -implicitDefEqProofs only[go_sem,seval,↓reduceIte,List.take_zero]
 refine ⟨_,Gives.slicePtr Tryz.underlying108 (by kernel_rfl) (ob:=6) (g:=g6) (m:=3) (c := .new) (fz:=0) (cs:=tabC) (by simp -implicitDefEqProofs only[go_sem,seval,↓reduceIte]) (by simp -implicitDefEqProofs only[go_sem,seval,↓reduceIte]) (by decide),?_⟩
 refine CallA.bor hG [encSl .old 3 encSg (.mk false tabL),.func (.func 114) [] [.view .old (.str t),.view .old (.int .i64 p)]] (by kernel_rfl) ⟨?_,Rd.funcL ⟨?_,?_,trivial⟩,trivial⟩ ?_
 ·exact Rd.msl (off:=0) (n:=23) (l:=tabL) (f:=encSg) (f':=encSg) (g:=g6) (fz:=0) (c := .new) (by simp -implicitDefEqProofs only[go_sem,seval,↓reduceIte];rfl) encSg_cells (fun x y hy=>by
   simp only [encSg_K,V.cells,List.mem_cons,List.not_mem_nil,or_false] at hy
   rcases hy with rfl | rfl | rfl
   ·exact .str _
   ·exact .int _ _
   ·exact .int _ _) (recol_sg _) (by decide)
 ·exact Rd.ptr (v := .str t) (c := .new) (fz:=0) (by simp -implicitDefEqProofs only[go_sem,seval,↓reduceIte];try rfl) (by intro y hy;simp [V.cells] at hy;subst hy;exact .str _) (by simp -implicitDefEqProofs only[go_sem,seval,↓reduceIte])
 ·exact Rd.ptr (v := .int .i64 p) (c := .new) (fz:=0) (by simp -implicitDefEqProofs only[go_sem,seval,↓reduceIte];try rfl) (by intro y hy;simp [V.cells] at hy;subst hy;exact .int _ _) (by simp -implicitDefEqProofs only[go_sem,seval,↓reduceIte])
 refine (sIndexFuncG_spec G hG _ (.mk false tabL) (by decide) (fOf1 hG t p)).mono ?_
 rintro _ _ rfl
 refine ⟨.int _ _,?_⟩
 simp -implicitDefEqProofs only[go_sem,seval,↓reduceIte]
 refine hK _ ?_
 clear hK K
 have hI:=idxP_ofI t p
 unfold ofP
 show AW _ _ _ _ { τ := upd _ 7 (.int .i64 (idxP (sgIs t p) tabL)),H:=_ }
 rw [hI]
 cases ho:ofI t p with
 | none =>
  refine AW.seq_k fun K hK=>AW.region (by kernel_rfl) ?_
  simp -implicitDefEqProofs only[go_sem,seval,↓reduceIte]
  refine hK _ ?_
  clear hK K
  refine AW.ret ?_
  simp -implicitDefEqProofs only[go_sem,seval,↓reduceIte]
  refine endK_some ?_
  rfl
 | some i =>
  have hi:=ofI_lt ho
  refine AW.weak (Weak.st (l:=[(7,.int .i64 i)]) (m:=[]) (by simp -implicitDefEqProofs only[go_sem,seval,↓reduceIte]) (by simp -implicitDefEqProofs only[go_sem,seval,↓reduceIte])) ?_
  have h0:((0:Int) > (i:Int))=False:=by rw [eq_iff_iff,iff_false];omega
  have hw:IntKind.u8.wrap (i:Int)=i:=by
   unfold IntKind.wrap
   simp [IntKind.signed,IntKind.bits];omega
  have h1:decide ((i:Int)≥0)=true:=by rw [decide_eq_true_iff];omega
  refine AW.seq_k fun K hK=>AW.region (by kernel_rfl) ?_
  simp -implicitDefEqProofs only[go_sem,seval,↓reduceIte,h0,hw,h1]
  refine hK _ ?_
  clear hK K
  refine AW.ret ?_
  simp -implicitDefEqProofs only[go_sem,seval,↓reduceIte]
  refine endK_some ?_
  rfl
end Go.Hs
end

section
namespace Go.Hs
open Go.Proofs
set_option maxRecDepth 10000
def encXN (n:XN):V := .agg [.int .u8 n.op,.int .i64 n.num,.str n.name,.int .i64 n.a,.int .i64 n.b,.int .i64 n.c]
theorem encXN_K (n:XN):encXN n = .agg [.int .u8 n.op,.int .i64 n.num,.str n.name,.int .i64 n.a,.int .i64 n.b,.int .i64 n.c]:=rfl
theorem encXN_cells (n:XN):(encXN n).cells.length=6:=rfl
theorem encTk_K (t:Tk):encTk t = .agg [.int .u8 t.kind,.str t.text,.int .i64 t.pos]:=rfl
theorem recol_xn (f:Col→Col) (n:XN):(encXN n).recol f=encXN n:=by simp only [encXN_K,recol_agg,List.map_cons,List.map_nil,recol_int,recol_str]
theorem recol_tk (f:Col→Col) (t:Tk):(encTk t).recol f=encTk t:=by simp only [encTk_K,recol_agg,List.map_cons,List.map_nil,recol_int,recol_str]
@[go_sem] theorem recol_tks (g:Col→Col) (c:Col) (s:Sl Tk):(encSl c 3 encTk s).recol g=encSl (g c) 3 encTk s:=recol_enc g c 3 (recol_tk g) s
@[go_sem] theorem recol_xns (g:Col→Col) (c:Col) (s:Sl XN):(encSl c 6 encXN s).recol g=encSl (g c) 6 encXN s:=recol_enc g c 6 (recol_xn g) s
def rdO (NO:Nat) (tl:List V) (sl:Sl Tk) (g gx:Nat) (r:RS):AObj := .cells .any g 0 (encSl .any 3 encTk sl :: .int .i64 r.i::grown NO gx 6 r.nodes :: .int .i64 r.e::tl)
def ndO (gx:Nat) (ns:List XN):AObj:=grownC .any gx encXN ns
theorem rdO_K (NO:Nat) (tl:List V) (sl:Sl Tk) (g gx:Nat) (r:RS):rdO NO tl sl g gx r = .cells .any g 0 (encSl .any 3 encTk sl :: .int .i64 r.i::grown NO gx 6 r.nodes :: .int .i64 r.e::tl):=rfl
def RdS (NO:Nat) (tl:List V) (G:Nat→V) (f:FuncId) (args:List V) (sl:Sl Tk) (g:Nat) (r:RS) (v:V) (r':RS):Prop :=
 ∀ gx,Spec Tryz.prog G f (.ptr 8 g 0::args) (sets hNone [(8,rdO NO tl sl g gx r),(NO,ndO gx r.nodes)]) (fun v0 H'=>v0=v∧∃ gx',H' 8=rdO NO tl sl g gx' r'∧H' NO=ndO gx' r'.nodes)
theorem RdS.call {NO:Nat} {tl:List V} {G:Nat→V} (hG:GOk G) {f:FuncId} {args args':List V} {sl:Sl Tk} {g gx:Nat} {r r':RS} {v:V} (h:RdS NO tl G f args' sl g r v r') {H:Heap} {K:V→Heap→Prop}
  (hen:enterable Tryz.prog f=true) (htl:∀ F:Col→Col,tl.map (V.recol F)=tl) (hne:8≠NO) (hargs:args.map (V.recol Col.ent)=args') (hv:v.recol Col.bk=v)
  (h8:H 8=rdO NO tl sl g gx r) (hN:H NO=ndO gx r.nodes)
  (hk:∀ gx',K v (sets H [(8,rdO NO tl sl g gx' r'),(NO,ndO gx' r'.nodes)])) :
  CallA Tryz.prog G f (.ptr 8 g 0::args) H K:=by
 have e8:∀ (F:Col→Col) gx r,F .any = .any→(rdO NO tl sl g gx r).recol F=rdO NO tl sl g gx r:=by
  intro F gx r hF
  simp only [rdO_K,recol_cells,List.map_cons,recol_grown,recol_tks,recol_int,hF,htl]
 have eN:∀ (F:Col→Col) gx ns,F .any = .any→(ndO gx ns).recol F=ndO gx ns:=by
  intro F gx ns hF
  rw [ndO,grownC_recol F .any gx encXN encXN (recol_xn F),hF]
 refine CallA.hand hG [(8,rdO NO tl sl g gx r),(NO,ndO gx r.nodes)] hen ?_ ?_
 ·intro p hp
  simp only [List.mem_cons,List.not_mem_nil,or_false] at hp
  rcases hp with rfl | rfl
  ·rw [h8,e8 _ _ _ rfl]
  ·rw [hN,eN _ _ _ rfl]
 ·have ha:(V.ptr 8 g 0::args).map (V.recol Col.ent) = .ptr 8 g 0::args':=by rw [List.map_cons,recol_ptr,hargs]
  rw [ha]
  refine (h gx).mono ?_
  rintro _ H' ⟨rfl,gx',q8,qN⟩
  simp only [List.map_cons,List.map_nil,q8,qN,e8 _ _ _ bk_any,eN _ _ _ bk_any,hv]
  exact hk gx'
structure TkOk (l:List Tk):Prop where
 len:l.length<100000
 text:∀ t∈l,t.text.length<100000
theorem nextP_some {l:List Tk} {i:Nat} {t:Tk} (h:l[i]? = some t):nextP l i=if (isP t.text:Int)=t.kind then t else ⟨0,[],0⟩:=by unfold nextP;rw [h]
theorem nextP_none {l:List Tk} {i:Nat} (h:l.length≤i):nextP l i=⟨0,[],0⟩:=by unfold nextP;rw [List.getElem?_eq_none h]
theorem xNext_spec (G:Nat→V) (hE:GExp G) (sl:Sl Tk) (hT:TkOk sl.l) (g:Nat) (r:RS) (hr:r.i<1000000):RdS 1031 [.func (.func 56) [] []] G 75 [] sl g r (encTk (nextP sl.l r.i)) r:=by
 have hG:=hE.ok
 intro gx
 refine Spec.of_code' 1000 50 [.cell 2 60] Tryz.func75 rfl rfl rfl rfl fun X=>?_
 simp only [sets,rdO_K]
 refine AW.seq_k fun K hK=>AW.region (by kernel_rfl) ?_
 simp -implicitDefEqProofs only[go_sem,seval,↓reduceIte]
 intro g2
 refine hK _ ?_
 clear hK K
 refine AW.seq_k fun K1 hK1=>?_
 by_cases hi:r.i<sl.l.length
 ·have h1:decide ((r.i:Int)<sl.l.length)=true:=by rw [decide_eq_true_iff];omega
  have hg:=List.getElem?_eq_getElem hi
  have hm:=hT.text _ (List.getElem_mem hi)
  generalize sl.l[r.i]=t at hg hm
  have hP:=nextP_some hg
  have p1:PureC Tryz.prog G 93 [.str t.text] (.int .u8 (isP t.text)):=⟨by kernel_rfl,by
   simp -implicitDefEqProofs only[go_sem,seval,↓reduceIte]
   refine (lIs_spec G hE t.text hm).mono ?_
   rintro _ _ rfl
   rfl⟩
  by_cases hk:(isP t.text:Int)=t.kind
  ·rw [if_pos hk] at hP
   have e1:((isP t.text:Int)==t.kind)=true:=by simpa using hk
   refine AW.seq_k fun K hK=>AW.regionT ⟨fun i=>if i=22 then .int .u8 (isP t.text) else .top,fun _ => .pure⟩ (by kernel_rfl) hG (by kernel_rfl) (by kernel_rfl) ?_
   simp -implicitDefEqProofs only[go_sem,seval,↓reduceIte,h1,hg,encTk_K,e1]
   refine ⟨p1,?_⟩
   refine hK _ ?_
   clear hK K
   refine AW.condS (by simp -implicitDefEqProofs only[go_sem,seval,↓reduceIte];rfl) (fun h2=>?_) (fun h2=>?_)
   ·refine AW.seq_k fun K hK=>AW.regionT ⟨fun _ => .top,fun _ => .pure⟩ (by kernel_rfl) hG (by kernel_rfl) (by kernel_rfl) ?_
    simp -implicitDefEqProofs only[go_sem,seval,↓reduceIte,hg,encTk_K]
    refine hK _ ?_
    clear hK K
    refine AW.ret ?_
    simp -implicitDefEqProofs only[go_sem,seval,↓reduceIte]
    refine endK_some ?_
    exact ⟨by rw [hP];rfl,gx,by simp -implicitDefEqProofs only[go_sem,seval,↓reduceIte],by simp -implicitDefEqProofs only[go_sem,seval,↓reduceIte]⟩
   ·cases h2
  ·rw [if_neg hk] at hP
   have e1:((isP t.text:Int)==t.kind)=false:=by simpa using hk
   refine AW.seq_k fun K hK=>AW.regionT ⟨fun i=>if i=22 then .int .u8 (isP t.text) else .top,fun _ => .pure⟩ (by kernel_rfl) hG (by kernel_rfl) (by kernel_rfl) ?_
   simp -implicitDefEqProofs only[go_sem,seval,↓reduceIte,h1,hg,encTk_K,e1]
   refine ⟨p1,?_⟩
   refine hK _ ?_
   clear hK K
   refine AW.condS (by simp -implicitDefEqProofs only[go_sem,seval,↓reduceIte];rfl) (fun h2=>?_) (fun h2=>?_)
   ·cases h2
   ·refine AW.skip ?_
    simp -implicitDefEqProofs only[go_sem,seval,↓reduceIte]
    refine hK1 _ ?_
    refine AW.seq_k fun K hK=>AW.region (by kernel_rfl) ?_
    simp -implicitDefEqProofs only[go_sem,seval,↓reduceIte]
    refine hK _ ?_
    clear hK K
    refine AW.ret ?_
    simp -implicitDefEqProofs only[go_sem,seval,↓reduceIte]
    refine endK_some ?_
    exact ⟨by rw [hP];rfl,gx,by simp -implicitDefEqProofs only[go_sem,seval,↓reduceIte],by simp -implicitDefEqProofs only[go_sem,seval,↓reduceIte]⟩
 ·have h1:decide ((r.i:Int)<sl.l.length)=false:=by rw [decide_eq_false_iff_not];omega
  have hP:=nextP_none (l:=sl.l) (i:=r.i) (by omega)
  refine AW.seq_k fun K hK=>AW.regionT ⟨fun _ => .top,fun _ => .pure⟩ (by kernel_rfl) hG (by kernel_rfl) (by kernel_rfl) ?_
  simp -implicitDefEqProofs only[go_sem,seval,↓reduceIte,h1]
  refine hK _ ?_
  clear hK K
  refine AW.condS (by simp -implicitDefEqProofs only[go_sem,seval,↓reduceIte];rfl) (fun h2=>?_) (fun h2=>?_)
  ·cases h2
  ·refine AW.skip ?_
   simp -implicitDefEqProofs only[go_sem,seval,↓reduceIte]
   refine hK1 _ ?_
   refine AW.seq_k fun K hK=>AW.region (by kernel_rfl) ?_
   simp -implicitDefEqProofs only[go_sem,seval,↓reduceIte]
   refine hK _ ?_
   clear hK K
   refine AW.ret ?_
   simp -implicitDefEqProofs only[go_sem,seval,↓reduceIte]
   refine endK_some ?_
   exact ⟨by rw [hP];rfl,gx,by simp -implicitDefEqProofs only[go_sem,seval,↓reduceIte],by simp -implicitDefEqProofs only[go_sem,seval,↓reduceIte]⟩
theorem xLast_spec (G:Nat→V) (hG:GOk G) (sl:Sl Tk) (g:Nat) (r:RS) (hr:r.nodes.length<1000000):RdS 1031 [.func (.func 56) [] []] G 77 [] sl g r (.int .i64 r.last) r:=by
 intro gx
 refine Spec.of_code' 1000 9 [.tmp 2] Tryz.func77 rfl rfl rfl rfl fun X=>?_
 simp only [sets,rdO_K]
 refine AW.seq_k fun K hK=>AW.region (by kernel_rfl) ?_
 simp -implicitDefEqProofs only[go_sem,seval,↓reduceIte]
 refine hK _ ?_
 clear hK K
 refine AW.seq_k fun K hK=>AW.region (by kernel_rfl) ?_
 simp -implicitDefEqProofs only[go_sem,seval,↓reduceIte]
 refine hK _ ?_
 clear hK K
 refine AW.ret ?_
 simp -implicitDefEqProofs only[go_sem,seval,↓reduceIte]
 refine endK_some ?_
 exact ⟨by rw [w64 (by omega) (by omega)];rfl,gx,by simp -implicitDefEqProofs only[go_sem,seval,↓reduceIte],by simp -implicitDefEqProofs only[go_sem,seval,↓reduceIte]⟩
theorem setAt_places {l:List Int} (h:l.length≤3):setAt [V.int .i64 (-1),V.int .i64 (-1),V.int .i64 (-1)] 0 (l.map (V.int .i64))=[V.int .i64 (l.getD 0 (-1)),V.int .i64 (l.getD 1 (-1)),V.int .i64 (l.getD 2 (-1))]:=by
 match l,h with
 | [],_=>rfl
 | [_],_=>rfl
 | [_,_],_=>rfl
 | [_,_,_],_=>rfl
theorem flat_intsV (k:IntKind) (l:List Int):flat (l.map (V.int k))=l.map (V.int k):=by
 induction l with
 | nil=>rfl
 | cons x r ih=>unfold flat at ih ⊢;rw [List.map_cons,List.flatMap_cons,ih];rfl
def putAt (n:XN) (ps:List Int):XN:={ n with a:=ps.getD 0 (-1),b:=ps.getD 1 (-1),c:=ps.getD 2 (-1) }
theorem xPut_spec (G:Nat→V) (hG:GOk G) (sl:Sl Tk) (g:Nat) (r:RS) (hr:r.nodes.length<1000000) (n:XN) (c:Col) (ps:Sl Int) (hps:ps.l.length≤3) :
  RdS 1031 [.func (.func 56) [] []] G 78 [encXN n,encSl c 1 (V.int .i64) ps] sl g r (.bool true) (r.put (putAt n ps.l)):=by
 intro gx
 refine Spec.of_code' 1000 34 [.tmp 6] Tryz.func78 rfl rfl rfl rfl fun X=>?_
 simp only [sets,rdO_K,encXN_K]
 refine AW.seq_k fun K hK=>AW.region (by kernel_rfl) ?_
 simp -implicitDefEqProofs only[go_sem,seval,↓reduceIte]
 intro g4
 refine hK _ ?_
 clear hK K
 refine AW.seq_k fun K hK=>AW.region (by kernel_rfl) ?_
 simp -implicitDefEqProofs only[go_sem,seval,↓reduceIte]
 intro g8
 refine hK _ ?_
 clear hK K
 refine AW.seq_k fun K hK=>AW.regionE 2 (by kernel_rfl) rfl rfl ?_
 simp -implicitDefEqProofs only[go_sem,seval,↓reduceIte,List.take_succ_cons,List.take_zero]
 refine ⟨_,_,GivesE.copy Tryz.underlying112 (by kernel_rfl) (ob:=1008) (g:=g8) (m:=1) (len:=3) (cs:=[.int .i64 (-1),.int .i64 (-1),.int .i64 (-1)]) (c := .new) (fz:=0) (off:=0) (n:=ps.l.length) (xc:=ps.l.map (V.int .i64)) (by simp -implicitDefEqProofs only[go_sem,seval,↓reduceIte]) (by simp -implicitDefEqProofs only[go_sem,seval,↓reduceIte]) (by simp -implicitDefEqProofs only[go_sem,seval,↓reduceIte];exact congrArg (fun x=>some (ps.l.length,x)) (flat_intsV _ _)) hps (Nat.le_refl _) (by simp;omega),?_⟩
 rw [setAt_places hps]
 simp -implicitDefEqProofs only[go_sem,seval,↓reduceIte,List.drop_succ_cons,List.drop_zero]
 refine hK _ ?_
 clear hK K
 have hn:putAt n ps.l={ n with a:=ps.l.getD 0 (-1),b:=ps.l.getD 1 (-1),c:=ps.l.getD 2 (-1) }:=rfl
 generalize ps.l.getD 0 (-1)=x0 at hn ⊢
 generalize ps.l.getD 1 (-1)=x1 at hn ⊢
 generalize ps.l.getD 2 (-1)=x2 at hn ⊢
 refine AW.weak (Weak.stF (fun o=>o==1008) (l:=[(0,.ptr 8 g 0),(4,.ptr 1004 g4 0),(7,.slice .new false 1 [.int .i64 x0,.int .i64 x1,.int .i64 x2])])
  (m:=[(8,rdO 1031 [.func (.func 56) [] []] sl g gx r),(1031,ndO gx r.nodes),(1004,.cells .new g4 0 [.int .u8 n.op,.int .i64 n.num,.str n.name,.int .i64 n.a,.int .i64 n.b,.int .i64 n.c])]) ?_ ?_) ?_
 ·simp -implicitDefEqProofs only[go_sem,seval,↓reduceIte]
  refine ⟨Fz.same _,Fz.same _,?_⟩
  exact Fz.sl (f:=V.int .i64) (l:=[x0,x1,x2]) (m:=1) (g:=g8) (fz:=0) (c := .new) rfl (by simp -implicitDefEqProofs only[go_sem,seval,↓reduceIte];rfl) (fun _=>rfl)
 ·simp only [allFzO_cons,allFzO_nil,and_true]
  exact ⟨FzO.keep rfl (by simp -implicitDefEqProofs only[go_sem,seval,↓reduceIte];rfl),FzO.keep rfl (by simp -implicitDefEqProofs only[go_sem,seval,↓reduceIte]),FzO.keep rfl (by simp -implicitDefEqProofs only[go_sem,seval,↓reduceIte])⟩
 refine AW.seq_k fun K hK=>AW.regionT ⟨fun _ => .top,fun i=>if i=2 then .lend else if i=5 then .lend else if i=8 then .lend else .pure⟩ (by kernel_rfl) hG (by kernel_rfl) (by kernel_rfl) ?_
 simp -implicitDefEqProofs only[go_sem,seval,↓reduceIte,rdO_K]
 refine hK _ ?_
 clear hK K
 refine AW.later ?_
 refine AW.seq_k fun K hK=>AW.regionT ⟨fun _ => .top,fun _ => .pure⟩ (by kernel_rfl) hG (by kernel_rfl) (by kernel_rfl) ?_
 simp -implicitDefEqProofs only[go_sem,seval,↓reduceIte]
 intro g30
 refine app_grownC (f:=encXN) (l:=r.nodes) (l2:=[putAt n ps.l]) (g:=gx) encXN_cells rfl (by rw [hn];rfl) rfl (by simp -implicitDefEqProofs only[go_sem,seval,↓reduceIte];rfl) (roomOk_of (by omega) (by simp;omega)) fun c2 g2=>?_
 simp -implicitDefEqProofs only[go_sem,seval,↓reduceIte]
 refine hK _ ?_
 clear hK K
 refine AW.seq_k fun K hK=>AW.region (by kernel_rfl) ?_
 simp -implicitDefEqProofs only[go_sem,seval,↓reduceIte]
 refine hK _ ?_
 clear hK K
 refine AW.ret ?_
 simp -implicitDefEqProofs only[go_sem,seval,↓reduceIte]
 refine ⟨st [(6,.bool true)] [(8,rdO 1031 [.func (.func 56) [] []] sl g g2 (r.put (putAt n ps.l))),(1031,ndO g2 (r.nodes++[putAt n ps.l]))],Weak.stF (fun _=>false) ?_ ?_,?_⟩
 ·simp -implicitDefEqProofs only[go_sem,seval,↓reduceIte]
  exact Fz.same _
 ·simp only [allFzO_cons,allFzO_nil,and_true]
  exact ⟨FzO.keep rfl (by simp -implicitDefEqProofs only[go_sem,seval,↓reduceIte];rfl),FzO.grownC (c:=c2) rfl (by simp -implicitDefEqProofs only[go_sem,seval,↓reduceIte])⟩
 ·simp -implicitDefEqProofs only[go_sem,seval,↓reduceIte]
  exact endK_some ⟨rfl,g2,by simp -implicitDefEqProofs only[go_sem,seval,↓reduceIte];rfl,by simp -implicitDefEqProofs only[go_sem,seval,↓reduceIte];rfl⟩
end Go.Hs
end

section
namespace Go.Hs
structure Bal (l:List Tk) (k:Nat) (r r':RS):Prop where
 up:r.i≤r'.i
 inn:r.i≤l.length→r'.i≤l.length
 cnt:r'.nodes.length+r.i+k≤r.nodes.length+r'.i
theorem Bal.refl (l:List Tk) (r:RS):Bal l 0 r r:=⟨Nat.le_refl _,id,Nat.le_refl _⟩
theorem Bal.trans {l:List Tk} {k k':Nat} {r r' r'':RS} (h:Bal l k r r') (h':Bal l k' r' r''):Bal l (k+k') r r'' :=
 ⟨Nat.le_trans h.up h'.up,fun x=>h'.inn (h.inn x),by have:=h.cnt;have:=h'.cnt;omega⟩
theorem Bal.weak {l:List Tk} {k k':Nat} {r r':RS} (h:Bal l k r r') (hk:k'≤k):Bal l k' r r':=⟨h.up,h.inn,by have:=h.cnt;omega⟩
theorem Bal.adv {l:List Tk} {r:RS} (h:r.i<l.length):Bal l 1 r r.adv:=⟨Nat.le_succ _,fun _=>h,by show r.nodes.length+r.i+1≤r.nodes.length+(r.i+1);omega⟩
theorem Bal.err (l:List Tk) (r:RS) (e:Int):Bal l 0 r (r.err e):=⟨Nat.le_refl _,id,Nat.le_refl _⟩
theorem Bal.put {l:List Tk} {k:Nat} {r r':RS} (h:Bal l (k+1) r r') (n:XN):Bal l k r (r'.put n) :=
 ⟨h.up,h.inn,by have:=h.cnt;show (r'.nodes++[n]).length+r.i+k≤_;rw [List.length_append,List.length_singleton];show _≤r.nodes.length+r'.i;omega⟩
def Bals (l:List Tk) (inner:Inner):Prop:=∀ n r,Bal l 0 r (inner n r).2
theorem Bal.then {l:List Tk} {r:RS} {x:Bool × RS} {k:RS→Bool × RS} (h:Bal l 0 r x.2) (hk:x.1=true→Bal l 0 r (k x.2).2):Bal l 0 r (andThen x k).2:=by
 obtain ⟨b,r1⟩:=x
 cases b
 ·exact h
 ·exact hk rfl
theorem eatP_bal (l:List Tk) (w:List UInt8) (r:RS):Bal l 0 r (eatP l w r).2∧((eatP l w r).1=true→Bal l 1 r (eatP l w r).2):=by
 unfold eatP
 split
 ·exact ⟨Bal.err _ _ _,fun h=>by cases h⟩
 ·rename_i h
  have hk:(nextP l r.i).kind≠0:=fun hh=>h (.inl hh)
  have:=Bal.adv (nextP_lt hk)
  exact ⟨this.weak (Nat.zero_le _),fun _=>this⟩
theorem leafP_bal {l:List Tk} {r:RS} (h:(nextP l r.i).kind≠0) (op num:Int) (name:List UInt8):Bal l 0 r (leafP r op num name).2:=(Bal.adv (nextP_lt h)).put _
theorem numberP_bal {l:List Tk} {r:RS} (h:(nextP l r.i).kind≠0) (t:List UInt8):Bal l 0 r (numberP r t).2:=by
 unfold numberP
 split
 ·exact Bal.err _ _ _
 ·exact leafP_bal h _ _ _
theorem branchesP_bal {l:List Tk} {inner:Inner} (h:Bals l inner) (r:RS):Bal l 0 r (branchesP l inner r).2:=by
 unfold branchesP
 have e1:=eatP_bal l wIf r
 refine Bal.then e1.1 fun h1=>?_
 have b1:=e1.2 h1
 generalize (eatP l wIf r).2=r1 at b1 ⊢
 have b2:=b1.trans (h 1 r1)
 refine Bal.then (b2.weak (Nat.zero_le _)) fun _=>?_
 generalize (inner 1 r1).2=a at b2 ⊢
 have e2:=eatP_bal l wThen a
 refine Bal.then ((b2.trans e2.1).weak (Nat.zero_le _)) fun h2=>?_
 have b3:=b2.trans (e2.2 h2)
 generalize (eatP l wThen a).2=r2 at b3 ⊢
 have b4:=b3.trans (h 1 r2)
 refine Bal.then (b4.weak (Nat.zero_le _)) fun _=>?_
 generalize (inner 1 r2).2=b at b4 ⊢
 have e3:=eatP_bal l wElse b
 refine Bal.then ((b4.trans e3.1).weak (Nat.zero_le _)) fun h3=>?_
 have b5:=b4.trans (e3.2 h3)
 generalize (eatP l wElse b).2=r3 at b5 ⊢
 have b6:=b5.trans (h 1 r3)
 refine Bal.then (b6.weak (Nat.zero_le _)) fun _=>?_
 generalize (inner 1 r3).2=c at b6 ⊢
 have e4:=eatP_bal l wEndif c
 refine Bal.then ((b6.trans e4.1).weak (Nat.zero_le _)) fun h4=>?_
 have b7:=b6.trans (e4.2 h4)
 exact (b7.put _).weak (Nat.zero_le _)
theorem aheadP_bal {l:List Tk} {inner:Inner} (h:Bals l inner) (r:RS):Bal l 0 r (aheadP l inner r).2:=by
 unfold aheadP
 split
 ·rename_i hk;exact numberP_bal (by rw [hk];decide) _
 split
 ·rename_i hk;exact leafP_bal (by rw [hk];decide) _ _ _
 split
 ·exact Bal.err _ _ _
 rename_i h0
 have ba:=Bal.adv (nextP_lt h0)
 split
 ·have b1:=ba.trans (h 9 r.adv)
  exact Bal.then (b1.weak (Nat.zero_le _)) fun _=>b1.put _
 split
 ·have b1:=ba.trans (h 1 r.adv)
  exact Bal.then (b1.weak (Nat.zero_le _)) fun _=>(b1.trans (eatP_bal l [41] _).1).weak (Nat.zero_le _)
 split
 ·exact branchesP_bal h r
 split
 ·exact leafP_bal h0 _ _ _
 ·exact Bal.err _ _ _
theorem loopP_bal {l:List Tk} {inner:Inner} (h:Bals l inner) (n:Int):∀ (m:Nat) (r:RS),Bal l 0 r (loopP l inner n m r).2
 | 0,r=>Bal.refl l r
 | m+1,r=>by
  rw [loopP]
  cases ho:opAt l r.i with
  | none=>exact Bal.refl l r
  | some op =>
   simp only
   split
   ·exact Bal.refl l r
   ·have b1:=(Bal.adv (opAt_lt ho)).trans (h (lvl op+1) r.adv)
    exact Bal.then (b1.weak (Nat.zero_le _)) fun _=>((b1.put _).trans (loopP_bal h n m _)).weak (Nat.zero_le _)
theorem climbP_bal (l:List Tk):∀ f,Bals l (climbP l f)
 | 0=>fun _ r=>Bal.refl l r
 | f+1=>fun n r=>by
  rw [climbP]
  have b1:=aheadP_bal (climbP_bal l f) r
  exact Bal.then b1 fun _=>(b1.trans (loopP_bal (climbP_bal l f) n _ _)).weak (Nat.zero_le _)
def RSok (l:List Tk) (r:RS):Prop:=r.i≤l.length∧r.nodes.length≤r.i
theorem Bal.ok {l:List Tk} {k:Nat} {r r':RS} (h:Bal l k r r') (hr:RSok l r):RSok l r':=⟨h.inn hr.1,by have:=h.cnt;have:=h.up;have:=hr.2;omega⟩
end Go.Hs
end

section
namespace Go.Hs
inductive X where
 | leaf (op num:Int) (name:List UInt8)
 | un (op:Int) (a:X)
 | bin (op:Int) (a b:X)
 | ite (a b c:X)
 deriving DecidableEq,Inhabited
namespace X
def size:X→Nat
 | leaf .. => 1
 | un _ a=>a.size+1
 | bin _ a b=>a.size+b.size+1
 | ite a b c=>a.size+b.size+c.size+1
def depth:X→Nat
 | leaf .. => 1
 | un _ a=>a.depth+1
 | bin _ a b=>max a.depth b.depth+1
 | ite a b c=>max (max a.depth b.depth) c.depth+1
end X
def wellP (n:XN):Bool :=
 if n.op<1∨n.op > 22∨n.num<0 then false else if n.op=2 then n.num==0 && isP n.name==2 else n.name==[] && (n.op==1 || n.num==0)
namespace X
def ok:X→Bool
 | leaf op num name=>wellP ⟨op,num,name,-1,-1,-1⟩ && decide (op≤4)
 | un op a=>decide (5≤op) && decide (op≤6) && a.ok
 | bin op a b=>decide (7≤op) && decide (op≤21) && a.ok && b.ok
 | ite a b c=>a.ok && b.ok && c.ok
def row:X→Int→List XN
 | leaf op num name,_=>[⟨op,num,name,-1,-1,-1⟩]
 | un op a,k=>a.row k++[⟨op,0,[],k+a.size-1,-1,-1⟩]
 | bin op a b,k=>a.row k++b.row (k+a.size)++[⟨op,0,[],k+a.size-1,k+a.size+b.size-1,-1⟩]
 | ite a b c,k=>a.row k++b.row (k+a.size)++c.row (k+a.size+b.size)++[⟨22,0,[],k+a.size-1,k+a.size+b.size-1,k+a.size+b.size+c.size-1⟩]
theorem row_len:∀ (x:X) (k:Int),(x.row k).length=x.size
 | leaf ..,_=>rfl
 | un _ a,k=>by simp [row,size,row_len a]
 | bin _ a b,k=>by simp [row,size,row_len a,row_len b];omega
 | ite a b c,k=>by simp [row,size,row_len a,row_len b,row_len c];omega
theorem size_pos:∀ x:X,0<x.size
 | leaf .. => by simp [size]
 | un .. => by simp [size]
 | bin .. => by simp [size]
 | ite .. => by simp [size]
def top:X→Int→XN
 | leaf op num name,_=>⟨op,num,name,-1,-1,-1⟩
 | un op a,k=>⟨op,0,[],k+a.size-1,-1,-1⟩
 | bin op a b,k=>⟨op,0,[],k+a.size-1,k+a.size+b.size-1,-1⟩
 | ite a b c,k=>⟨22,0,[],k+a.size-1,k+a.size+b.size-1,k+a.size+b.size+c.size-1⟩
end X
theorem well_op {op:Int} (h:3≤op∧op≤22) (a b c:Int):wellP ⟨op,0,[],a,b,c⟩=true:=by
 unfold wellP
 rw [if_neg (by simp;omega),if_neg (by simp;omega)]
 simp
theorem well_num {n:XN} (h:wellP n=true) (h3:n.op≠1):n.num=0∧(n.op≠2→n.name=[])∧1≤n.op∧n.op≤22:=by
 unfold wellP at h
 split at h
 ·cases h
 ·rename_i h0
  simp only [not_or,Int.not_lt] at h0
  split at h
  ·rename_i h2
   simp only [Bool.and_eq_true,beq_iff_eq] at h
   exact ⟨h.1,fun hh=>absurd h2 hh,by omega,by omega⟩
  ·simp only [Bool.and_eq_true,beq_iff_eq,Bool.or_eq_true] at h
   exact ⟨h.2.resolve_left h3,fun _=>h.1,by omega,by omega⟩
theorem well_range {n:XN} (h:wellP n=true):1≤n.op∧n.op≤22:=by
 unfold wellP at h
 split at h
 ·cases h
 ·rename_i h0
  simp only [not_or,Int.not_lt] at h0
  omega
def partsOf (op:Int):Nat:=if op≤4 then 0 else if op≤6 then 1 else if op≤21 then 2 else 3
def places3 (l:List (Int × Int)):List Int:=[(l.map (·.1)).getD 0 (-1),(l.map (·.1)).getD 1 (-1),(l.map (·.1)).getD 2 (-1)]
def deepest (l:List (Int × Int)):Int:=l.foldl (fun d p=>max d p.2) 0
def depStep (i:Int) (n:XN) (opn:List (Int × Int)):Option (List (Int × Int)) :=
 if wellP n=false then none else if opn.length<partsOf n.op then none
 else if places3 (opn.drop (opn.length-partsOf n.op))≠[n.a,n.b,n.c] then none
 else some (opn.take (opn.length-partsOf n.op)++[(i,deepest (opn.drop (opn.length-partsOf n.op))+1)])
def depGo:List XN→Int→List (Int × Int)→Option (List (Int × Int))
 | [],_,opn=>some opn
 | n::r,i,opn=>match depStep i n opn with
  | some o=>depGo r (i+1) o
  | none=>none
def depthP (l:List XN):Int:=match depGo l 0 [] with
 | some [x]=>x.2
 | _=>0
def rowF:Int→List X→List XN
 | _,[]=>[]
 | k,x::r=>x.row k++rowF (k+x.size) r
def sizeF (F:List X):Nat:=(F.map X.size).sum
def pieces:Int→List X→List (Int × Int)
 | _,[]=>[]
 | k,x::r=>(k+x.size-1,(x.depth:Int))::pieces (k+x.size) r
theorem sizeF_cons (x:X) (r:List X):sizeF (x::r)=x.size+sizeF r:=by simp [sizeF]
theorem sizeF_app (a b:List X):sizeF (a++b)=sizeF a+sizeF b:=by simp [sizeF]
theorem rowF_app:∀ (a b:List X) (k:Int),rowF k (a++b)=rowF k a++rowF (k+sizeF a) b
 | [],b,k=>by simp [rowF,sizeF]
 | x::a,b,k=>by
  rw [List.cons_append,rowF,rowF,rowF_app a b,List.append_assoc,sizeF_cons]
  congr 3;omega
theorem pieces_app:∀ (a b:List X) (k:Int),pieces k (a++b)=pieces k a++pieces (k+sizeF a) b
 | [],b,k=>by simp [pieces,sizeF]
 | x::a,b,k=>by
  rw [List.cons_append,pieces,pieces,pieces_app a b,List.cons_append,sizeF_cons]
  congr 3;omega
theorem pieces_len:∀ (F:List X) (k:Int),(pieces k F).length=F.length
 | [],_=>rfl
 | x::r,k=>by simp [pieces,pieces_len r]
theorem rowF_len:∀ (F:List X) (k:Int),(rowF k F).length=sizeF F
 | [],_=>rfl
 | x::r,k=>by rw [rowF,List.length_append,X.row_len,rowF_len r,sizeF_cons]
theorem split_last {F:List X} {p:Nat} (h:p≤F.length):∃ A B,F=A++B∧B.length=p:=⟨F.take (F.length-p),F.drop (F.length-p),(List.take_append_drop _ _).symm,by simp;omega⟩
theorem depStep_tree {F:List X} {n:XN} {o:List (Int × Int)} (hF:∀ x∈F,x.ok=true) (h:depStep (sizeF F) n (pieces 0 F)=some o) :
  ∃ F',(∀ x∈F',x.ok=true)∧rowF 0 F'=rowF 0 F++[n]∧o=pieces 0 F':=by
 unfold depStep at h
 rw [pieces_len] at h
 split at h
 ·cases h
 rename_i hw
 have hw:wellP n=true:=by simpa using hw
 have hrg:=well_range hw
 split at h
 ·cases h
 rename_i hlen
 obtain ⟨A,B,rfl,hB⟩:=split_last (F:=F) (p:=partsOf n.op) (by omega)
 have hAl:(A++B).length-partsOf n.op=A.length:=by rw [List.length_append,hB];omega
 have hdrop:(pieces 0 (A++B)).drop A.length=pieces (sizeF A) B:=by
  rw [pieces_app,List.drop_left' (pieces_len _ _),Int.zero_add]
 have htake:(pieces 0 (A++B)).take A.length=pieces 0 A:=by
  rw [pieces_app,List.take_left' (pieces_len _ _)]
 rw [hAl,hdrop,htake] at h
 split at h
 ·cases h
 rename_i hpl
 simp only [ne_eq,Decidable.not_not] at hpl
 simp only [Option.some.injEq] at h
 have hokA:∀ x∈A,x.ok=true:=fun x hx=>hF x (by simp [hx])
 have fin:∀ x:X,x.ok=true→x.row (sizeF A)=rowF (sizeF A) B++[n]→(x.depth:Int)=deepest (pieces (sizeF A) B)+1 →
   ∃ F',(∀ x∈F',x.ok=true)∧rowF 0 F'=rowF 0 (A++B)++[n]∧o=pieces 0 F':=by
  intro x hx hr hd
  refine ⟨A++[x],fun y hy=>?_,?_,?_⟩
  ·rcases List.mem_append.1 hy with h1 | h1
   ·exact hokA y h1
   ·rw [List.mem_singleton.1 h1];exact hx
  ·rw [rowF_app,rowF_app,List.append_assoc,Int.zero_add,← hr]
   simp [rowF]
  ·rw [← h,pieces_app,pieces,pieces,hd]
   have h1:(x.row (sizeF A)).length=x.size:=X.row_len _ _
   rw [hr,List.length_append,rowF_len,List.length_singleton] at h1
   rw [sizeF_app]
   congr 4
   omega
 obtain ⟨op,num,name,a,b,c⟩:=n
 simp only at hB hpl hrg
 unfold partsOf at hB
 split at hB
 ·rename_i h4
  obtain rfl:B=[]:=List.length_eq_zero_iff.1 hB
  simp only [places3,pieces,List.map_nil,List.getD_nil,List.cons.injEq,and_true] at hpl
  obtain ⟨rfl,rfl,rfl⟩:=hpl
  exact fin (.leaf op num name) (by unfold X.ok;rw [hw];simp;omega) rfl rfl
 rename_i h4
 have hn:=well_num hw (show op≠1 by omega)
 simp only at hn
 obtain ⟨rfl,hnm,_⟩:=hn
 obtain rfl:=hnm (by omega)
 split at hB
 ·rename_i h6
  obtain ⟨x,rfl⟩:=List.length_eq_one_iff.1 hB
  ·simp only [places3,pieces,List.map_cons,List.map_nil,List.getD_cons_zero,List.getD_cons_succ,List.getD_nil,List.cons.injEq,and_true] at hpl
   obtain ⟨rfl,rfl,rfl⟩:=hpl
   refine fin (.un op x) (by unfold X.ok;rw [hF x (by simp)];simp;omega) ?_ ?_
   ·simp [X.row,rowF]
   ·simp [X.depth,pieces,deepest]
 rename_i h6
 split at hB
 ·rename_i h21
  obtain ⟨x,y,rfl⟩:∃ x y,B=[x,y]:=by
   match B,hB with
   | [x,y],_=>exact ⟨x,y,rfl⟩
  ·simp only [places3,pieces,List.map_cons,List.map_nil,List.getD_cons_zero,List.getD_cons_succ,List.getD_nil,List.cons.injEq,and_true] at hpl
   obtain ⟨rfl,rfl,rfl⟩:=hpl
   refine fin (.bin op x y) (by unfold X.ok;rw [hF x (by simp),hF y (by simp)];simp;omega) ?_ ?_
   ·simp [X.row,rowF]
   ·simp [X.depth,pieces,deepest];omega
 ·rename_i h21
  obtain ⟨x,y,z,rfl⟩:∃ x y z,B=[x,y,z]:=by
   match B,hB with
   | [x,y,z],_=>exact ⟨x,y,z,rfl⟩
  ·simp only [places3,pieces,List.map_cons,List.map_nil,List.getD_cons_zero,List.getD_cons_succ,List.cons.injEq,and_true] at hpl
   obtain ⟨rfl,rfl,rfl⟩:=hpl
   obtain rfl:op=22:=by omega
   refine fin (.ite x y z) (by unfold X.ok;rw [hF x (by simp),hF y (by simp),hF z (by simp)];rfl) ?_ ?_
   ·simp [X.row,rowF]
   ·simp [X.depth,pieces,deepest];omega
theorem depGo_tree:∀ (l:List XN) (F:List X) (opn:List (Int × Int)),(∀ x∈F,x.ok=true)→depGo l (sizeF F) (pieces 0 F)=some opn →
  ∃ F',(∀ x∈F',x.ok=true)∧rowF 0 F'=rowF 0 F++l∧opn=pieces 0 F'
 | [],F,opn,hF,h=>⟨F,hF,by simp,by simpa [depGo] using h.symm⟩
 | n::r,F,opn,hF,h=>by
  rw [depGo] at h
  cases hs:depStep (sizeF F) n (pieces 0 F) with
  | none=>rw [hs] at h;cases h
  | some o =>
   rw [hs] at h
   obtain ⟨F1,h1,h2,rfl⟩:=depStep_tree hF hs
   have hsz:(sizeF F:Int)+1=sizeF F1:=by
    have:=congrArg List.length h2
    rw [List.length_append,rowF_len,rowF_len,List.length_singleton] at this
    omega
   simp only at h
   rw [hsz] at h
   obtain ⟨F',h3,h4,h5⟩:=depGo_tree r F1 opn h1 h
   exact ⟨F',h3,by rw [h4,h2];simp,h5⟩
theorem depGo_app:∀ (l m:List XN) (i:Int) (opn:List (Int × Int)),depGo (l++m) i opn=(depGo l i opn).bind fun o=>depGo m (i+l.length) o
 | [],m,i,opn=>by simp [depGo]
 | n::r,m,i,opn=>by
  rw [List.cons_append,depGo,depGo]
  cases depStep i n opn with
  | none=>rfl
  | some o =>
   simp only
   rw [depGo_app r m]
   congr 1;funext o'
   congr 1
   simp only [List.length_cons];omega
theorem depGo_row:∀ (x:X) (k:Int) (opn:List (Int × Int)),x.ok=true→depGo (x.row k) k opn=some (opn++[(k+x.size-1,(x.depth:Int))])
 | .leaf op num name,k,opn,h=>by
  unfold X.ok at h
  simp only [Bool.and_eq_true,decide_eq_true_eq] at h
  simp only [X.row,depGo]
  have hs:depStep k ⟨op,num,name,-1,-1,-1⟩ opn=some (opn++[(k,1)]):=by
   unfold depStep
   rw [if_neg (by rw [h.1];simp)]
   have:partsOf op=0:=by unfold partsOf;rw [if_pos h.2]
   rw [this,if_neg (by omega),Nat.sub_zero,List.drop_length,List.take_length]
   rfl
  rw [hs]
  simp [depGo,X.size,X.depth]
 | .un op a,k,opn,h=>by
  unfold X.ok at h
  simp only [Bool.and_eq_true,decide_eq_true_eq] at h
  rw [X.row,depGo_app,depGo_row a k opn h.2,Option.bind_some,X.row_len,depGo]
  have hp:partsOf op=1:=by unfold partsOf;rw [if_neg (by omega),if_pos (by omega)]
  have hs:depStep (k+a.size) ⟨op,0,[],k+a.size-1,-1,-1⟩ (opn++[(k+a.size-1,(a.depth:Int))])=some (opn++[(k+a.size,(a.depth:Int)+1)]):=by
   unfold depStep
   have hl:(opn++[(k+(a.size:Int)-1,(a.depth:Int))]).length-1=opn.length:=by simp
   rw [if_neg (by rw [well_op (by omega)];simp)]
   simp only [hp]
   rw [if_neg (by simp),hl,List.drop_left,List.take_left,if_neg (by simp [places3])]
   congr 4
   all_goals first | (simp [deepest];done) | (simp [deepest];omega)
  rw [hs]
  simp only [depGo,X.size,X.depth]
  congr 4
  all_goals first | (simp;done) | (simp;omega) | omega
 | .bin op a b,k,opn,h=>by
  unfold X.ok at h
  simp only [Bool.and_eq_true,decide_eq_true_eq] at h
  rw [X.row,depGo_app,depGo_app,depGo_row a k opn h.1.2,Option.bind_some,X.row_len,depGo_row b _ _ h.2,Option.bind_some,depGo]
  have hp:partsOf op=2:=by unfold partsOf;rw [if_neg (by omega),if_neg (by omega),if_pos (by omega)]
  have hlen:((a.row k++b.row (k+a.size)).length:Int)=a.size+b.size:=by rw [List.length_append,X.row_len,X.row_len];omega
  rw [hlen]
  have hs:depStep (k+(a.size+b.size)) ⟨op,0,[],k+a.size-1,k+a.size+b.size-1,-1⟩ (opn++[(k+a.size-1,(a.depth:Int))]++[(k+a.size+b.size-1,(b.depth:Int))])=some (opn++[(k+(a.size+b.size),max (a.depth:Int) b.depth+1)]):=by
   unfold depStep
   have hl:(opn++[(k+(a.size:Int)-1,(a.depth:Int))]++[(k+a.size+b.size-1,(b.depth:Int))]).length-2=opn.length:=by simp
   rw [if_neg (by rw [well_op (by omega)];simp)]
   simp only [hp]
   rw [if_neg (by simp),hl,List.append_assoc,List.drop_left,List.take_left,if_neg (by simp [places3])]
   congr 4
   all_goals first | (simp [deepest];done) | (simp [deepest];omega)
  rw [hs]
  simp only [depGo,X.size,X.depth]
  congr 4
  all_goals first | (simp;done) | (simp;omega) | omega
 | .ite a b c,k,opn,h=>by
  unfold X.ok at h
  simp only [Bool.and_eq_true] at h
  rw [X.row,depGo_app,depGo_app,depGo_app,depGo_row a k opn h.1.1,Option.bind_some,X.row_len,depGo_row b _ _ h.1.2,Option.bind_some]
  have hlen1:k+((a.row k++b.row (k+a.size)).length:Int)=k+a.size+b.size:=by rw [List.length_append,X.row_len,X.row_len];omega
  rw [hlen1,depGo_row c _ _ h.2,Option.bind_some,depGo]
  have hlen:((a.row k++b.row (k+a.size)++c.row (k+a.size+b.size)).length:Int)=a.size+b.size+c.size:=by simp only [List.length_append,X.row_len];omega
  rw [hlen]
  have hs:depStep (k+(a.size+b.size+c.size)) ⟨22,0,[],k+a.size-1,k+a.size+b.size-1,k+a.size+b.size+c.size-1⟩ (opn++[(k+a.size-1,(a.depth:Int))]++[(k+a.size+b.size-1,(b.depth:Int))]++[(k+a.size+b.size+c.size-1,(c.depth:Int))])=some (opn++[(k+(a.size+b.size+c.size),max (max (a.depth:Int) b.depth) c.depth+1)]):=by
   unfold depStep
   have hp:partsOf 22=3:=rfl
   have hl:(opn++[(k+(a.size:Int)-1,(a.depth:Int))]++[(k+a.size+b.size-1,(b.depth:Int))]++[(k+a.size+b.size+c.size-1,(c.depth:Int))]).length-3=opn.length:=by simp
   rw [if_neg (by rw [well_op (by omega)];simp)]
   simp only [hp]
   rw [if_neg (by simp),hl,List.append_assoc,List.append_assoc,List.drop_left,List.take_left,if_neg (by simp [places3])]
   congr 4
   all_goals first | (simp [deepest];done) | (simp [deepest];omega)
  rw [hs]
  simp only [depGo,X.size,X.depth]
  congr 4
  all_goals first | (simp;done) | (simp;omega) | omega
theorem depth_row {x:X} (h:x.ok=true):depthP (x.row 0)=x.depth:=by
 unfold depthP
 rw [depGo_row x 0 [] h]
 rfl
theorem depth_none {l:List XN} (h:depthP l≠0):∃ x:X,x.ok=true∧l=x.row 0:=by
 unfold depthP at h
 split at h
 ·rename_i y hy
  obtain ⟨F,h1,h2,h3⟩:=depGo_tree l [] _ (by simp) (by simpa [sizeF,pieces] using hy)
  match F,h3 with
  | [x],_=>exact ⟨x,h1 x (by simp),by simpa [rowF] using h2.symm⟩
  | [],h3=>simp [pieces] at h3
  | _::_::_,h3=>simp [pieces] at h3
 ·exact absurd rfl h
theorem X.depth_pos:∀ x:X,0<x.depth
 | .leaf .. => by simp [depth]
 | .un .. => by simp [depth]
 | .bin .. => by simp [depth]
 | .ite .. => by simp [depth]
end Go.Hs
end

section
namespace Go.Hs
def sgT (op:Nat):List UInt8:=(tabL.getD op ⟨[],0,0⟩).text
def wNot:List UInt8:=[110,111,116]
def wTrue:List UInt8:=[116,114,117,101]
def wFalse:List UInt8:=[102,97,108,115,101]
inductive Gr:Int→List (List UInt8)→X→Prop where
 | num {n:Int} {t:List UInt8} {v:Int}:isP t=1→parseR (trim0 t)=(v,0)→Gr n [t] (.leaf 1 v [])
 | name {n:Int} {t:List UInt8}:isP t=2→Gr n [t] (.leaf 2 0 t)
 | tr {n:Int}:Gr n [wTrue] (.leaf 3 0 [])
 | fa {n:Int}:Gr n [wFalse] (.leaf 4 0 [])
 | neg {n:Int} {ts:List (List UInt8)} {a:X}:n≤9→Gr 9 ts a→Gr n ([45]::ts) (.un 5 a)
 | not {n:Int} {ts:List (List UInt8)} {a:X}:n≤9→Gr 9 ts a→Gr n (wNot::ts) (.un 6 a)
 | par {n:Int} {ts:List (List UInt8)} {a:X}:Gr 1 ts a→Gr n ([40]::(ts++[[41]])) a
 | bin {n:Int} {op:Nat} {ta tb:List (List UInt8)} {a b:X}:7≤op→op≤21→n≤lvl op→Gr (lvl op) ta a→Gr (lvl op+1) tb b→Gr n (ta++sgT op::tb) (.bin op a b)
 | ite {n:Int} {ta tb tc:List (List UInt8)} {a b c:X}:Gr 1 ta a→Gr 1 tb b→Gr 1 tc c→Gr n (wIf::(ta++wThen::(tb++wElse::(tc++[wEndif])))) (.ite a b c)
theorem Gr.mono {n m:Int} {ts:List (List UInt8)} {x:X} (h:Gr n ts x) (hm:m≤n):Gr m ts x:=by
 cases h with
 | num h1 h2=>exact .num h1 h2
 | name h1=>exact .name h1
 | tr=>exact .tr
 | fa=>exact .fa
 | neg h1 h2=>exact .neg (by omega) h2
 | not h1 h2=>exact .not (by omega) h2
 | par h1=>exact .par h1
 | bin h1 h2 h3 h4 h5=>exact .bin h1 h2 (by omega) h4 h5
 | ite h1 h2 h3=>exact .ite h1 h2 h3
theorem lvl_rng:∀ op,7≤op→op≤21→1≤lvl op∧lvl op≤8∧ofI (sgT op) 2=some op∧isP (sgT op)≠0:=by
 have:((List.range 22).all fun op=>decide (7≤op→1≤lvl op∧lvl op≤8∧ofI (sgT op) 2=some op∧isP (sgT op)≠0))=true:=by decide +kernel
 intro op h1 h2
 have:=List.all_eq_true.1 this op (List.mem_range.2 (by omega))
 simp only [decide_eq_true_eq] at this
 exact this h1
theorem Gr.pos {n:Int} {ts:List (List UInt8)} {x:X} (h:Gr n ts x):0<ts.length:=by
 cases h<;>simp<;>omega
def wdOf (t:Tk):List UInt8:=if (isP t.text:Int)=t.kind then t.text else []
theorem next_wd {l:List Tk} {i:Nat} {w:List UInt8} (h:(l.map wdOf)[i]? = some w):(nextP l i).text=w∧(nextP l i).kind=isP w:=by
 have hk:=nextP_is l i
 have:(nextP l i).text=w:=by
  rw [List.getElem?_map] at h
  unfold nextP
  cases hg:l[i]? with
  | none=>rw [hg] at h;cases h
  | some t =>
   rw [hg] at h
   simp only [Option.map_some,Option.some.injEq] at h
   simp only
   rw [← h]
   unfold wdOf
   split<;>rfl
 exact ⟨this,by rw [← hk,this]⟩
theorem next_text {l:List Tk} {i:Nat} (h:i<l.length):(l.map wdOf)[i]? = some (nextP l i).text:=by
 have hg:(l.map wdOf)[i]? = some (wdOf l[i]):=by rw [List.getElem?_map,List.getElem?_eq_getElem h];rfl
 rw [hg,(next_wd hg).1]
def Seg (l:List Tk) (i:Nat) (ts:List (List UInt8)):Prop:=∃ pre post,l.map wdOf=pre++(ts++post)∧pre.length=i
theorem Seg.left {l:List Tk} {i:Nat} {a b:List (List UInt8)} (h:Seg l i (a++b)):Seg l i a:=by
 obtain ⟨pre,post,e,hp⟩:=h
 exact ⟨pre,b++post,by rw [e];simp,hp⟩
theorem Seg.right {l:List Tk} {i:Nat} {a b:List (List UInt8)} (h:Seg l i (a++b)):Seg l (i+a.length) b:=by
 obtain ⟨pre,post,e,hp⟩:=h
 exact ⟨pre++a,post,by rw [e];simp,by simp [hp]⟩
theorem Seg.head {l:List Tk} {i:Nat} {w:List UInt8} {b:List (List UInt8)} (h:Seg l i (w::b)):(nextP l i).text=w∧(nextP l i).kind=isP w:=by
 obtain ⟨pre,post,e,hp⟩:=h
 refine next_wd ?_
 rw [e,List.getElem?_append_right (by omega),hp,Nat.sub_self];rfl
theorem Seg.tail {l:List Tk} {i:Nat} {w:List UInt8} {b:List (List UInt8)} (h:Seg l i (w::b)):Seg l (i+1) b:=Seg.right (a:=[w]) h
theorem Seg.le {l:List Tk} {i:Nat} {b:List (List UInt8)} (h:Seg l i b):i+b.length≤l.length:=by
 obtain ⟨pre,post,e,hp⟩:=h
 have:=congrArg List.length e
 simp only [List.length_map,List.length_append] at this
 omega
theorem Seg.app {l:List Tk} {i:Nat} {a b:List (List UInt8)} (h:Seg l i a) (h2:Seg l (i+a.length) b):Seg l i (a++b):=by
 obtain ⟨pre,post,e,hp⟩:=h
 obtain ⟨pre2,post2,e2,hp2⟩:=h2
 refine ⟨pre,post2,?_,hp⟩
 rw [e] at e2
 have h1:pre++(a++post)=(pre++a)++post:=by simp
 rw [h1] at e2
 obtain ⟨q1,q2⟩:=List.append_inj e2 (by simp [hp,hp2])
 rw [e,q2];simp
theorem Seg.one {l:List Tk} {i:Nat} {w:List UInt8} (hi:i<l.length) (h:(nextP l i).text=w):Seg l i [w]:=by
 have hg:=next_text hi
 rw [h] at hg
 obtain ⟨q1,q2⟩:=List.getElem?_eq_some_iff.1 hg
 refine ⟨(l.map wdOf).take i,(l.map wdOf).drop (i+1),?_,?_⟩
 ·rw [← q2,List.singleton_append,← List.drop_eq_getElem_cons q1,List.take_append_drop]
 ·rw [List.length_take];omega
theorem loopP_fuel {l:List Tk} {inner:Inner} (h:Mono inner) (n:Int):∀ (m m':Nat) (r:RS),l.length<m+r.i→l.length<m'+r.i→loopP l inner n m r=loopP l inner n m' r
 | 0,m',r,h1,_=>by
  cases m' with
  | zero=>rfl
  | succ m' =>
   rw [loopP,loopP]
   cases ho:opAt l r.i with
   | none=>rfl
   | some op=>have:=opAt_lt ho;omega
 | m+1,0,r,_,h2=>by
  rw [loopP,loopP]
  cases ho:opAt l r.i with
  | none=>rfl
  | some op=>have:=opAt_lt ho;omega
 | m+1,m'+1,r,h1,h2=>by
  rw [loopP,loopP]
  cases ho:opAt l r.i with
  | none=>rfl
  | some op =>
   simp only
   split
   ·rfl
   ·refine andThen_congr fun _=>?_
    have h3:r.i+1≤_:=h (lvl op+1) r.adv
    exact loopP_fuel h n m m' _ (by simp only [RS.put_i];omega) (by simp only [RS.put_i];omega)
def after (r:RS) (k:Nat) (x:X):RS:=⟨r.i+k,r.nodes++x.row r.nodes.length,r.e⟩
theorem after_last (r:RS) (k:Nat) (x:X):(after r k x).last=(r.nodes.length:Int)+x.size-1:=by
 show (((r.nodes++x.row r.nodes.length).length:Nat):Int)-1=_
 rw [List.length_append,X.row_len];omega
theorem loop_stop {l:List Tk} {inner:Inner} {n:Int} {m:Nat} {r:RS} (h:Ends l n r.i):loopP l inner n m r=(true,r):=by
 cases m with
 | zero=>rfl
 | succ m =>
  rw [loopP]
  cases ho:opAt l r.i with
  | none=>rfl
  | some op=>simp only;rw [if_pos (h op ho)]
theorem opAt_word {l:List Tk} {i:Nat} {w:List UInt8} (h:(nextP l i).text=w):opAt l i=ofI w 2:=by rw [opAt_two,h]
theorem ends_word {l:List Tk} {i:Nat} {w:List UInt8} (n:Int) (h:(nextP l i).text=w) (hw:ofI w 2=none):Ends l n i:=by
 intro op ho
 rw [opAt_word h,hw] at ho
 cases ho
theorem eat_at {l:List Tk} {r:RS} {w:List UInt8} (h:(nextP l r.i).text=w∧(nextP l r.i).kind=isP w) (hw:isP w≠0):eatP l w r=(true,r.adv):=by
 unfold eatP
 rw [if_neg]
 rintro (q | q)
 ·rw [h.2] at q;omega
 ·exact q h.1
theorem Gr.climb {l:List Tk} {k:Int} {ts:List (List UInt8)} {x:X} (h:Gr k ts x):∀ (n:Int) (f M:Nat) (r:RS),Seg l r.i ts→n≤k→n≤9→l.length≤f+r.i→l.length<M+r.i →
  (∀ op,opAt l (r.i+ts.length)=some op→lvl op≤k)→andThen (aheadP l (climbP l f) r) (loopP l (climbP l f) n M)=loopP l (climbP l f) n M (after r ts.length x):=by
 have inner:∀ {k:Int} {ts:List (List UInt8)} {x:X},(∀ (n:Int) (f M:Nat) (r:RS),Seg l r.i ts→n≤k→n≤9→l.length≤f+r.i→l.length<M+r.i →
   (∀ op,opAt l (r.i+ts.length)=some op→lvl op≤k)→andThen (aheadP l (climbP l f) r) (loopP l (climbP l f) n M)=loopP l (climbP l f) n M (after r ts.length x)) →
   ∀ (f:Nat) (r:RS),Seg l r.i ts→k≤9→l.length+1≤f+r.i→Ends l k (r.i+ts.length)→climbP l f k r=(true,after r ts.length x):=by
  intro k ts x ih f r hs hk hf he
  cases f with
  | zero=>have:=hs.le;omega
  | succ f =>
   rw [climbP,ih k f (l.length+1) r hs (Int.le_refl _) hk (by omega) (by omega) (fun op ho=>by have:=he op ho;omega)]
   exact loop_stop he
 have ends9:∀ i,Ends l 9 i:=fun i op ho=>by have:=op_pos ho;omega
 induction h with
 | @num k t v h1 h2 =>
  intro n f M r hs _ _ _ _ _
  obtain ⟨e1,e2⟩:=hs.head
  have:aheadP l (climbP l f) r=(true,after r 1 (.leaf 1 v [])):=by
   unfold aheadP
   rw [e2,e1,h1,if_pos (by decide)]
   unfold numberP
   rw [h2,if_neg (by simp)];rfl
  rw [this];rfl
 | @name k t h1 =>
  intro n f M r hs _ _ _ _ _
  obtain ⟨e1,e2⟩:=hs.head
  have:aheadP l (climbP l f) r=(true,after r 1 (.leaf 2 0 t)):=by
   unfold aheadP
   rw [e2,e1,h1,if_neg (by decide),if_pos (by decide)];rfl
  rw [this];rfl
 | @tr k =>
  intro n f M r hs _ _ _ _ _
  obtain ⟨e1,e2⟩:=hs.head
  have:aheadP l (climbP l f) r=(true,after r 1 (.leaf 3 0 [])):=by
   unfold aheadP
   rw [e2,e1];rfl
  rw [this];rfl
 | @fa k =>
  intro n f M r hs _ _ _ _ _
  obtain ⟨e1,e2⟩:=hs.head
  have:aheadP l (climbP l f) r=(true,after r 1 (.leaf 4 0 [])):=by
   unfold aheadP
   rw [e2,e1];rfl
  rw [this];rfl
 | @neg k ts a h1 h2 ih =>
  intro n f M r hs _ _ hf _ _
  obtain ⟨e1,e2⟩:=hs.head
  have hc:=inner ih f r.adv hs.tail (Int.le_refl _) (by show _≤f+(r.i+1);omega) (ends9 _)
  have:aheadP l (climbP l f) r=(true,after r (ts.length+1) (.un 5 a)):=by
   have:aheadP l (climbP l f) r=andThen (climbP l f 9 r.adv) fun a=>(true,a.put ⟨5,0,[],a.last,-1,-1⟩):=by
    unfold aheadP
    rw [e2,e1];rfl
   rw [this,hc,andThen_true,after_last]
   show (true,RS.mk _ _ _)=(true,RS.mk _ _ _)
   congr 2
   ·show r.i+1+ts.length=r.i+(ts.length+1);omega
   ·show (r.nodes++_)++[_]=r.nodes++(_++[_])
    rw [List.append_assoc];rfl
  rw [this];rfl
 | @not k ts a h1 h2 ih =>
  intro n f M r hs _ _ hf _ _
  obtain ⟨e1,e2⟩:=hs.head
  have hc:=inner ih f r.adv hs.tail (Int.le_refl _) (by show _≤f+(r.i+1);omega) (ends9 _)
  have:aheadP l (climbP l f) r=(true,after r (ts.length+1) (.un 6 a)):=by
   have:aheadP l (climbP l f) r=andThen (climbP l f 9 r.adv) fun a=>(true,a.put ⟨6,0,[],a.last,-1,-1⟩):=by
    unfold aheadP
    rw [e2,e1];rfl
   rw [this,hc,andThen_true,after_last]
   show (true,RS.mk _ _ _)=(true,RS.mk _ _ _)
   congr 2
   ·show r.i+1+ts.length=r.i+(ts.length+1);omega
   ·show (r.nodes++_)++[_]=r.nodes++(_++[_])
    rw [List.append_assoc];rfl
  rw [this];rfl
 | @par k ts a h1 ih =>
  intro n f M r hs _ _ hf _ _
  obtain ⟨e1,e2⟩:=hs.head
  have h41:=hs.tail.right.head
  have hc:=inner ih f r.adv hs.tail.left (by decide) (by show _≤f+(r.i+1);omega) (ends_word 1 h41.1 (by decide +kernel))
  have:aheadP l (climbP l f) r=(true,after r (ts.length+2) a):=by
   have:aheadP l (climbP l f) r=andThen (climbP l f 1 r.adv) (eatP l [41]):=by
    unfold aheadP
    rw [e2,e1];rfl
   rw [this,hc,andThen_true,eat_at h41 (by decide +kernel)]
   show (true,RS.mk _ _ _)=(true,RS.mk _ _ _)
   congr 2
   show r.i+1+ts.length+1=r.i+(ts.length+2);omega
  rw [this,andThen_true]
  congr 1
  show RS.mk _ _ _=RS.mk _ _ _
  congr 1
  simp only [List.length_cons,List.length_append,List.length_nil]
 | @bin k op ta tb a b h1 h2 h3 h4 h5 iha ihb =>
  intro n f M r hs hn hn9 hf hM ho
  obtain ⟨l1,l2,l3,l4⟩:=lvl_rng op h1 h2
  have hso:=hs.right.head
  have hop:opAt l (r.i+ta.length)=some op:=by rw [opAt_word hso.1,l3]
  rw [iha n f M r hs.left (by omega) hn9 hf hM (fun op' ho'=>by rw [hop] at ho';cases ho';exact Int.le_refl _)]
  have hle:=hs.le
  simp only [List.length_append,List.length_cons] at hle
  obtain ⟨M,rfl⟩:∃ m,M=m+1:=⟨M-1,by omega⟩
  rw [loopP]
  have:opAt l (after r ta.length a).i=some op:=hop
  rw [this]
  simp only
  rw [if_neg (by omega)]
  have hend:Ends l (lvl op+1) (r.i+ta.length+1+tb.length):=by
   intro op' ho'
   have:=ho op' (by rw [← ho'];congr 1;simp only [List.length_append,List.length_cons];omega)
   omega
  have hc:=inner ihb f (after r ta.length a).adv hs.right.tail (by omega) (by show _≤f+(r.i+ta.length+1);omega) hend
  rw [hc,andThen_true,after_last,after_last]
  have hL:l.length<M+(r.i+ta.length+1+tb.length):=by omega
  have he:RS.put (after (after r ta.length a).adv tb.length b) ⟨(op:Int),0,[],(r.nodes.length:Int)+a.size-1,((after r ta.length a).adv.nodes.length:Int)+b.size-1,-1⟩=after r (ta++sgT op::tb).length (.bin op a b):=by
   have hl:(after r ta.length a).adv.nodes=r.nodes++a.row r.nodes.length:=rfl
   show RS.mk _ _ _=RS.mk _ _ _
   congr 1
   ·show r.i+ta.length+1+tb.length=r.i+(ta++sgT op::tb).length
    simp only [List.length_append,List.length_cons];omega
   ·show (after r ta.length a).adv.nodes++b.row ((after r ta.length a).adv.nodes.length:Nat)++[_]=_
    rw [hl,List.length_append,X.row_len]
    simp only [X.row,List.append_assoc,Int.natCast_add]
  rw [he]
  exact loopP_fuel (climbP_mono l f) n M (M+1) _ (by show _<M+(r.i+_);simp only [List.length_append,List.length_cons];omega) (by show _<M+1+(r.i+_);simp only [List.length_append,List.length_cons];omega)
 | @ite k ta tb tc a b c h1 h2 h3 iha ihb ihc =>
  intro n f M r hs _ _ hf _ _
  obtain ⟨e1,e2⟩:=hs.head
  have s1:=hs.tail
  have s2:=s1.right
  have s3:=s2.tail.right
  have s4:=s3.tail.right
  have c1:=inner iha f r.adv s1.left (by decide) (by show _≤f+(r.i+1);omega) (ends_word 1 s2.head.1 (by decide +kernel))
  have c2:=inner ihb f (after r.adv ta.length a).adv s2.tail.left (by decide) (by show _≤f+(r.i+1+ta.length+1);omega) (ends_word 1 s3.head.1 (by decide +kernel))
  have c3:=inner ihc f (after (after r.adv ta.length a).adv tb.length b).adv s3.tail.left (by decide) (by show _≤f+(r.i+1+ta.length+1+tb.length+1);omega) (ends_word 1 s4.head.1 (by decide +kernel))
  have:aheadP l (climbP l f) r=(true,after r (wIf::(ta++wThen::(tb++wElse::(tc++[wEndif])))).length (.ite a b c)):=by
   have:aheadP l (climbP l f) r=branchesP l (climbP l f) r:=by
    unfold aheadP
    rw [e2,e1];rfl
   rw [this]
   unfold branchesP
   rw [eat_at ⟨e1,e2⟩ (by decide +kernel),andThen_true,c1,andThen_true,eat_at s2.head (by decide +kernel),andThen_true,c2,andThen_true,eat_at s3.head (by decide +kernel),andThen_true,c3,andThen_true,
    eat_at s4.head (by decide +kernel),andThen_true,after_last,after_last,after_last]
   show (true,RS.mk _ _ _)=(true,RS.mk _ _ _)
   congr 2
   ·show r.i+1+ta.length+1+tb.length+1+tc.length+1=_
    simp only [List.length_append,List.length_cons,List.length_nil];omega
   ·have q1:(after r.adv ta.length a).adv.nodes=r.nodes++a.row r.nodes.length:=rfl
    have q2:(after (after r.adv ta.length a).adv tb.length b).adv.nodes=(after r.adv ta.length a).adv.nodes++b.row ((after r.adv ta.length a).adv.nodes.length:Nat):=rfl
    show (after (after r.adv ta.length a).adv tb.length b).adv.nodes++c.row ((after (after r.adv ta.length a).adv tb.length b).adv.nodes.length:Nat)++[_]=_
    have q3:r.adv.nodes=r.nodes:=rfl
    simp only [q2,q1,q3,List.length_append,X.row_len,X.row,List.append_assoc,Int.natCast_add,Int.add_assoc]
  rw [this];rfl
theorem parse_pos {t:List UInt8} (h:isP t=1):0≤(parseR (trim0 t)).1:=by
 have hd:=(isP_dig h).2
 have h1:(trim0 t).all isDig=true∧trim0 t≠[]:=by
  unfold trim0
  split
  ·exact ⟨by decide,by simp⟩
  ·rename_i hn
   refine ⟨?_,hn⟩
   rw [List.all_eq_true] at hd ⊢
   exact fun x hx=>hd x ((List.dropWhile_sublist _).mem hx)
 obtain ⟨h1,h2⟩:=h1
 generalize trim0 t=s at h1 h2
 have hh':(s.head? == some 45)=false:=by
  cases s with
  | nil=>exact absurd rfl h2
  | cons c r =>
   rw [beq_eq_false_iff_ne]
   intro hc
   have hc:c=45:=by simpa using hc
   subst hc
   rw [List.all_cons] at h1
   revert h1
   simp [isDig]
 unfold parseR
 rw [hh']
 simp only [Bool.false_eq_true,if_false,or_false]
 split
 ·exact Int.le_refl _
 ·unfold told
  split
  ·exact Int.natCast_nonneg _
  ·exact Int.le_refl _
theorem Gr.ok {n:Int} {ts:List (List UInt8)} {x:X} (h:Gr n ts x):x.ok=true:=by
 induction h with
 | @num n t v h1 h2 =>
  have hp:=parse_pos h1
  rw [h2] at hp
  have hp:0≤v:=hp
  have:wellP ⟨1,v,[],-1,-1,-1⟩=true:=by
   unfold wellP
   rw [if_neg (by simp;omega),if_neg (by simp)];rfl
  simp only [X.ok,this,Bool.true_and];rfl
 | @name n t h1 =>
  have:wellP ⟨2,0,t,-1,-1,-1⟩=true:=by
   unfold wellP
   rw [if_neg (by simp),if_pos rfl,h1];rfl
  simp only [X.ok,this,Bool.true_and];rfl
 | tr=>rfl
 | fa=>rfl
 | neg _ _ ih=>simp only [X.ok,ih,Bool.and_true];rfl
 | not _ _ ih=>simp only [X.ok,ih,Bool.and_true];rfl
 | par _ ih=>exact ih
 | bin h1 h2 _ _ _ ih1 ih2 =>
  simp only [X.ok,ih1,ih2,Bool.and_true,Bool.and_eq_true,decide_eq_true_eq]
  omega
 | ite _ _ _ i1 i2 i3=>simp only [X.ok,i1,i2,i3];rfl
def ReadsX (l:List Tk) (n:Int) (r r':RS):Prop:=∃ ts x,Gr n ts x∧Seg l r.i ts∧r'=after r ts.length x
theorem eat_inv {l:List Tk} {w:List UInt8} {r:RS} (h:(eatP l w r).1=true):eatP l w r=(true,r.adv)∧Seg l r.i [w]:=by
 unfold eatP at h ⊢
 split at h
 ·cases h
 ·rename_i hn
  rw [if_neg hn]
  simp only [not_or,Decidable.not_not] at hn
  exact ⟨rfl,Seg.one (nextP_lt hn.1) hn.2⟩
theorem then_inv {x:Bool × RS} {k:RS→Bool × RS} (h:(andThen x k).1=true):x.1=true∧(k x.2).1=true∧andThen x k=k x.2:=by
 obtain ⟨b,r⟩:=x
 cases b
 ·cases h
 ·exact ⟨rfl,h,rfl⟩
theorem put_after (r:RS) (k:Nat) (x:X) (n:XN):(after r k x).put n=⟨r.i+k,r.nodes++(x.row r.nodes.length++[n]),r.e⟩:=by
 show RS.mk _ _ _=_
 congr 1
 show r.nodes++_++[n]=_
 rw [List.append_assoc]
theorem sgT_of {t:List UInt8} {op:Nat} (h:ofI t 2=some op):sgT op=t:=by
 obtain ⟨s,h1,h2,_⟩:=ofI_some h
 unfold sgT
 rw [List.getD_eq_getElem?_getD,h1];exact h2
theorem ahead_inv {l:List Tk} {inner:Inner} (hin:∀ n r,n=1∨n=9→(inner n r).1=true→ReadsX l n r (inner n r).2) {r:RS} (h:(aheadP l inner r).1=true):ReadsX l 9 r (aheadP l inner r).2:=by
 have hk:=nextP_is l r.i
 have hlt:(nextP l r.i).kind≠0→r.i<l.length:=nextP_lt
 have hP:aheadP l inner r=if (nextP l r.i).kind=1 then numberP r (nextP l r.i).text
  else if (nextP l r.i).kind=2 then leafP r 2 0 (nextP l r.i).text
  else if (nextP l r.i).kind=0 then (false,r.err 80)
  else if (ofP (nextP l r.i).text 1).2 then andThen (inner 9 r.adv) fun a=>(true,a.put ⟨(ofP (nextP l r.i).text 1).1,0,[],a.last,-1,-1⟩)
  else if (nextP l r.i).text=[40] then andThen (inner 1 r.adv) (eatP l [41])
  else if (nextP l r.i).text=wIf then branchesP l inner r
  else if (ofP (nextP l r.i).text 0).2∧(nextP l r.i).kind=3 then leafP r (ofP (nextP l r.i).text 0).1 0 []
  else (false,r.err 80):=rfl
 generalize aheadP l inner r=res at h hP ⊢
 by_cases k0:(nextP l r.i).kind=0
 ·rw [k0] at hP
  rw [if_neg (by decide),if_neg (by decide),if_pos rfl] at hP
  rw [hP] at h;cases h
 have hone:=Seg.one (l:=l) (i:=r.i) (hlt k0) rfl
 generalize nextP l r.i=t at hP hk hone k0
 obtain ⟨k,t,p⟩:=t
 simp only at hP hk hone k0
 by_cases k1:k=1
 ·rw [if_pos k1] at hP
  have ht:isP t=1:=by omega
  unfold numberP at hP
  by_cases he:(parseR (trim0 t)).2=0
  ·rw [if_neg (by simpa using he)] at hP
   refine ⟨[t],.leaf 1 (parseR (trim0 t)).1 [],.num ht (by rw [← he]),hone,by rw [hP];rfl⟩
  ·rw [if_pos he] at hP
   rw [hP] at h;cases h
 rw [if_neg k1] at hP
 by_cases k2:k=2
 ·rw [if_pos k2] at hP
  exact ⟨[t],.leaf 2 0 t,.name (by omega),hone,by rw [hP];rfl⟩
 rw [if_neg k2,if_neg k0] at hP
 cases h1:ofI t 1 with
 | some op =>
  have e1:ofP t 1=(op,true):=by unfold ofP;rw [h1]
  rw [e1,if_pos rfl] at hP
  rw [hP] at h
  obtain ⟨q1,_,q3⟩:=then_inv h
  obtain ⟨ts,x,g1,g2,g3⟩:=hin 9 r.adv (.inr rfl) q1
  rw [q3] at hP
  simp only at hP
  rw [g3] at hP
  have hs:Seg l r.i (t::ts):=hone.app (b:=ts) g2
  have hres:res.2=after r (ts.length+1) (.un op x):=by
   rw [hP,after_last]
   simp only [put_after]
   show RS.mk _ _ _=RS.mk _ _ _
   congr 1
   show r.i+1+ts.length=_
   omega
  rcases ofI_one h1 with ⟨rfl,rfl⟩ | ⟨rfl,rfl⟩
  ·exact ⟨_,_,.neg (Int.le_refl _) g1,hs,hres⟩
  ·exact ⟨_,_,.not (Int.le_refl _) g1,hs,hres⟩
 | none =>
 have e1:(ofP t 1).2=false:=by unfold ofP;rw [h1]
 rw [e1,if_neg (by simp)] at hP
 by_cases h2:t=[40]
 ·rw [if_pos h2] at hP
  subst h2
  rw [hP] at h
  obtain ⟨q1,q2,q3⟩:=then_inv h
  obtain ⟨ts,x,g1,g2,g3⟩:=hin 1 r.adv (.inl rfl) q1
  rw [q3,g3] at hP
  rw [g3] at q2
  obtain ⟨q4,q5⟩:=eat_inv q2
  rw [q4] at hP
  refine ⟨_,_,.par g1,hone.app (b:=ts++[[41]]) (g2.app q5),?_⟩
  rw [hP]
  show RS.mk _ _ _=RS.mk _ _ _
  congr 1
  show r.i+1+ts.length+1=_
  simp only [List.length_cons,List.length_append,List.length_nil];omega
 rw [if_neg h2] at hP
 by_cases h3:t=wIf
 ·rw [if_pos h3] at hP
  subst h3
  unfold branchesP at hP
  rw [hP] at h
  obtain ⟨a1,a2,a3⟩:=then_inv h
  obtain ⟨b1,b2⟩:=eat_inv a1
  rw [a3] at hP
  rw [b1] at hP a2
  simp only at hP a2
  obtain ⟨c1,c2,c3⟩:=then_inv a2
  obtain ⟨ta,xa,ga,sa,ra⟩:=hin 1 r.adv (.inl rfl) c1
  rw [c3,ra] at hP
  rw [ra] at c2
  obtain ⟨d1,d2,d3⟩:=then_inv c2
  obtain ⟨e1,e2⟩:=eat_inv d1
  rw [d3,e1] at hP
  rw [e1] at d2
  simp only at hP d2
  obtain ⟨f1,f2,f3⟩:=then_inv d2
  obtain ⟨tb,xb,gb,sb,rb⟩:=hin 1 _ (.inl rfl) f1
  rw [f3,rb] at hP
  rw [rb] at f2
  obtain ⟨i1,i2,i3⟩:=then_inv f2
  obtain ⟨j1,j2⟩:=eat_inv i1
  rw [i3,j1] at hP
  rw [j1] at i2
  simp only at hP i2
  obtain ⟨k1,k2,k3⟩:=then_inv i2
  obtain ⟨tc,xc,gc,sc,rc⟩:=hin 1 _ (.inl rfl) k1
  rw [k3,rc] at hP
  rw [rc] at k2
  obtain ⟨m1,m2,m3⟩:=then_inv k2
  obtain ⟨n1,n2⟩:=eat_inv m1
  rw [m3,n1] at hP
  simp only [after_last] at hP
  refine ⟨_,_,.ite ga gb gc,?_,?_⟩
  ·exact hone.app (b:=_) (sa.app (e2.app (b:=_) (sb.app (j2.app (b:=_) (sc.app n2)))))
  ·rw [hP]
   show RS.mk _ _ _=RS.mk _ _ _
   congr 1
   ·show r.i+1+ta.length+1+tb.length+1+tc.length+1=_
    simp only [List.length_append,List.length_cons,List.length_nil];omega
   ·have q1:(after r.adv ta.length xa).adv.nodes=r.nodes++xa.row r.nodes.length:=rfl
    have q2:(after (after r.adv ta.length xa).adv tb.length xb).adv.nodes=(after r.adv ta.length xa).adv.nodes++xb.row ((after r.adv ta.length xa).adv.nodes.length:Nat):=rfl
    show (after (after r.adv ta.length xa).adv tb.length xb).adv.nodes++xc.row ((after (after r.adv ta.length xa).adv tb.length xb).adv.nodes.length:Nat)++[_]=_
    have q3:r.adv.nodes=r.nodes:=rfl
    simp only [q2,q1,q3,List.length_append,X.row_len,X.row,List.append_assoc,Int.natCast_add,Int.add_assoc]
 rw [if_neg h3] at hP
 cases h4:ofI t 0 with
 | none =>
  have e0:(ofP t 0).2=false:=by unfold ofP;rw [h4]
  rw [e0,if_neg (by simp)] at hP
  rw [hP] at h;cases h
 | some op =>
  have e0:ofP t 0=(op,true):=by unfold ofP;rw [h4]
  rw [e0] at hP
  have hk3:k=3:=by
   rcases ofI_zero h4 with ⟨rfl,_⟩ | ⟨rfl,_⟩
   ·rw [← hk];decide +kernel
   ·rw [← hk];decide +kernel
  rw [if_pos ⟨rfl,hk3⟩] at hP
  rcases ofI_zero h4 with ⟨rfl,rfl⟩ | ⟨rfl,rfl⟩
  ·exact ⟨_,_,.tr,hone,by rw [hP];rfl⟩
  ·exact ⟨_,_,.fa,hone,by rw [hP];rfl⟩
theorem loop_inv {l:List Tk} {inner:Inner} (hin:∀ n r,1≤n→n≤9→(inner n r).1=true→ReadsX l n r (inner n r).2∧Ends l n (inner n r).2.i) {n:Int} {r0:RS} :
  ∀ (m:Nat) (r:RS) (k:Int) (ts:List (List UInt8)) (x:X),Gr k ts x→Seg l r0.i ts→r=after r0 ts.length x→n≤k→(∀ op,opAt l r.i=some op→lvl op≤k)→(loopP l inner n m r).1=true→ReadsX l n r0 (loopP l inner n m r).2
 | 0,r,k,ts,x,g,s,e,hk,_,_=>⟨ts,x,g.mono hk,s,e⟩
 | m+1,r,k,ts,x,g,s,e,hk,ho,h=>by
  rw [loopP] at h ⊢
  cases hop:opAt l r.i with
  | none=>exact ⟨ts,x,g.mono hk,s,e⟩
  | some op =>
   rw [hop] at h
   simp only at h ⊢
   by_cases hl:lvl op<n
   ·rw [if_pos hl];exact ⟨ts,x,g.mono hk,s,e⟩
   rw [if_neg hl] at h ⊢
   obtain ⟨p1,p2,p3,p4⟩:=op_pos hop
   obtain ⟨q1,q2,q3⟩:=then_inv h
   obtain ⟨⟨tb,b,gb,sb,rb⟩,hend⟩:=hin (lvl op+1) r.adv (by omega) (by omega) q1
   rw [q3]
   have hw:sgT op=(nextP l r.i).text:=sgT_of (by rw [← opAt_two];exact hop)
   have hg2:Gr (lvl op) (ts++sgT op::tb) (.bin op x b) := .bin p1 p2 (Int.le_refl _) (g.mono (ho op hop)) gb
   have hri:r.i=r0.i+ts.length:=by rw [e];rfl
   have hone:Seg l r.i [sgT op]:=Seg.one (opAt_lt hop) hw.symm
   have hs2:Seg l r0.i (ts++sgT op::tb):=s.app (by rw [← hri];exact hone.app (b:=tb) sb)
   rw [rb] at q2 hend ⊢
   have he2:(after r.adv tb.length b).put ⟨(op:Int),0,[],r.last,(after r.adv tb.length b).last,-1⟩=after r0 (ts++sgT op::tb).length (.bin op x b):=by
    rw [after_last,put_after,e,after_last]
    show RS.mk _ _ _=RS.mk _ _ _
    congr 1
    ·show r0.i+ts.length+1+tb.length=_
     simp only [List.length_append,List.length_cons];omega
    ·have q1:(after r0 ts.length x).adv.nodes=r0.nodes++x.row r0.nodes.length:=rfl
     simp only [q1,List.length_append,X.row_len,X.row,List.append_assoc,Int.natCast_add]
   refine loop_inv hin m _ (lvl op) _ _ hg2 hs2 he2 (by omega) ?_ q2
   intro op' ho'
   have:=hend op' ho'
   omega
theorem climb_inv {l:List Tk}:∀ (f:Nat) (n:Int) (r:RS),1≤n→n≤9→(climbP l f n r).1=true→ReadsX l n r (climbP l f n r).2
 | 0,n,r,_,_,h=>by cases h
 | f+1,n,r,h1,h9,h=>by
  rw [climbP] at h ⊢
  obtain ⟨q1,q2,q3⟩:=then_inv h
  have hin:∀ n r,1≤n→n≤9→(climbP l f n r).1=true→ReadsX l n r (climbP l f n r).2:=fun n r a b c=>climb_inv f n r a b c
  obtain ⟨ts,x,g,s,e⟩:=ahead_inv (fun n r hn hb=>hin n r (by omega) (by omega) hb) q1
  rw [q3]
  exact loop_inv (fun n r a b c=>⟨hin n r a b c,climbP_ends c⟩) _ _ 9 ts x g s e h9 (fun op ho=>by have:=op_pos ho;omega) q2
end Go.Hs
end

section
namespace Go.Hs
def stopB (c:UInt8):Bool:=c==32 || c==10
theorem stop_not {c:UInt8} (h:stopB c=true):isDig c=false∧isAl c=false∧isBl c=true∧c≠45:=by
 simp only [stopB,Bool.or_eq_true,beq_iff_eq] at h
 rcases h with rfl | rfl<;>decide
theorem runL_app {p:UInt8→Bool} {c:UInt8} (h:p c=false) (r:List UInt8):∀ u:List UInt8,runL p (u++c::r)=runL p u
 | []=>by simp [runL,h]
 | a::u=>by
  rw [List.cons_append,runL_cons,runL_cons,runL_app h r u]
theorem take_app {u r:List UInt8} {k:Nat} (h:k≤u.length):(u++r).take k=u.take k:=by
 rw [List.take_append_of_le_length h]
theorem hasPre_app {c:UInt8} (h:c≠45) (r:List UInt8) {u:List UInt8} (hu:u≠[]):hasPre [45,45] (u++c::r)=hasPre [45,45] u:=by
 match u with
 | []=>exact absurd rfl hu
 | [a] =>
  have:(45==c)=false:=by rw [beq_eq_false_iff_ne];exact fun q=>h q.symm
  simp [hasPre,List.isPrefixOf,this]
 | a::b::u=>simp [hasPre,List.isPrefixOf]
theorem sg2_stop {c:UInt8} (h:stopB c=true) (a:UInt8):sg2.contains [a,c]=false:=by
 simp only [stopB,Bool.or_eq_true,beq_iff_eq] at h
 rcases h with rfl | rfl<;>simp [sg2]
theorem sgnN_app {c:UInt8} (h:stopB c=true) (r:List UInt8) {u:List UInt8} (hu:u≠[]):sgnN (u++c::r)=sgnN u:=by
 match u with
 | []=>exact absurd rfl hu
 | [a] =>
  rw [List.cons_append,List.nil_append,sgnN_two,sg2_stop h,sgnN_one,contains_split,sg2_len (by simp)]
  simp
 | a::b::u=>rw [List.cons_append,List.cons_append,sgnN_two,sgnN_two]
theorem first_app {c:UInt8} (h:stopB c=true) (r:List UInt8) {u:List UInt8} (hu:u≠[]):firstP (u++c::r)=firstP u:=by
 obtain ⟨h1,h2,h3,h4⟩:=stop_not h
 have hpre:=hasPre_app h4 r hu
 have hd:=runL_app h1 r u
 have ha:=runL_app h2 r u
 have hs:=sgnN_app h r hu
 cases u with
 | nil=>exact absurd rfl hu
 | cons a u =>
  rw [List.cons_append] at hpre hd ha hs ⊢
  rcases al_cases a with q | ⟨_,q⟩ | ⟨q,_,_⟩
  ·rw [first_dig q,first_dig q,hd]
  ·rw [first_lt q,first_lt q,ha]
   have:=take_app (u:=a::u) (r:=c::r) (runL_le isAl (a::u))
   rw [List.cons_append] at this
   rw [this]
  ·by_cases hp:hasPre [45,45] (a::u)=true
   ·rw [hp] at hpre
    rw [firstP_cons,firstP_cons,if_pos hpre,if_pos hp]
   ·have hp:hasPre [45,45] (a::u)=false:=by simpa using hp
    rw [hp] at hpre
    rw [first_no q hpre,first_no q hp,hs]
theorem isP_first {w:List UInt8} (h:isP w≠0):firstP w=(w.length,isP w)∧0<w.length∧w.length≤64:=by
 unfold isP at h ⊢
 split at h
 ·exact absurd rfl h
 ·rename_i q
  rw [if_neg q]
  simp only [not_or,Decidable.not_not,Nat.not_lt] at q
  refine ⟨Prod.ext q.1 rfl,?_,by omega⟩
  cases w with
  | nil=>exact absurd rfl h
  | cons=>simp
def Stp (s:List UInt8):Prop:=s=[]∨∃ c r,s=c::r∧stopB c=true
theorem first_word {w s:List UInt8} (h:isP w≠0) (hs:Stp s):firstP (w++s)=(w.length,isP w):=by
 obtain ⟨h1,h2,_⟩:=isP_first h
 rcases hs with rfl | ⟨c,r,rfl,hc⟩
 ·rw [List.append_nil];exact h1
 ·rw [first_app hc r (by intro q;rw [q] at h2;exact absurd h2 (by decide))];exact h1
theorem word_clear {w s:List UInt8} (h:isP w≠0) (hs:Stp s):clear' (w++s):=by
 have hf:=first_word h hs
 obtain ⟨h1,h2,_⟩:=isP_first h
 intro c r e
 rw [e] at hf
 constructor
 ·cases hb:isBl c with
  | false=>rfl
  | true =>
   have:firstP (c::r)=(0,0):=by
    have ha:isAl c=false:=by
     have:=u8_all (fun c => !(isBl c && isAl c)) (by decide +kernel) c
     simp only [hb,Bool.true_and,Bool.not_eq_true'] at this
     exact this
    by_cases hp:hasPre [45,45] (c::r)=true
    ·rw [firstP_cons,if_pos hp]
    ·have hp:hasPre [45,45] (c::r)=false:=by simpa using hp
     rw [first_no ha hp]
     have hz:sgnN (c::r)=0:=by
      have hc:∀ d,sg2.contains [c,d]=false∧sg1.contains [c]=false:=by
       intro d
       have:=u8_all (fun c => !isBl c || (!(c==58) && !(c==60) && !(c==62) && !(sg1.contains [c]))) (by decide +kernel) c
       simp only [hb,Bool.not_true,Bool.false_or,Bool.and_eq_true,Bool.not_eq_true',beq_eq_false_iff_ne] at this
       refine ⟨?_,this.2⟩
       obtain ⟨⟨⟨n1,n2⟩,n3⟩,_⟩:=this
       simp [sg2,n1,n2,n3]
      cases r with
      | nil=>rw [sgnN_one,contains_split,sg2_len (by simp),(hc 0).2];rfl
      | cons d r=>rw [sgnN_two,(hc d).1,(hc d).2];rfl
     rw [hz];rfl
   rw [this] at hf
   have:=congrArg Prod.fst hf
   simp only at this
   omega
 ·cases hp:hasPre [45,45] (w++s) with
  | false=>rfl
  | true =>
   rw [e] at hp
   have:firstP (c::r)=(0,0):=by rw [firstP_cons,if_pos hp]
   rw [this] at hf
   have:=congrArg Prod.fst hf
   simp only at this
   omega
inductive Spc:List UInt8→List (List UInt8)→Prop where
 | nil (n:Nat):Spc (List.replicate n 32) []
 | cons (n:Nat) {w s:List UInt8} {ws:List (List UInt8)}:Spc s ws→Stp s→Spc (List.replicate n 32++(w++s)) (w::ws)
theorem blk_sp (n:Nat) {s:List UInt8} (h:clear' s):blk (List.replicate n 32++s)=n:=by
 induction n with
 | zero=>exact clear_blk h
 | succ n ih=>rw [List.replicate_succ,List.cons_append,blk_bl (by decide),ih]
theorem Spc.stp {s:List UInt8} {ws:List (List UInt8)} (h:Spc s ws) {n:Nat} (hn:0<n):Stp (List.replicate n 32++s):=by
 obtain ⟨m,rfl⟩:∃ m,n=m+1:=⟨n-1,by omega⟩
 exact .inr ⟨32,_,by rw [List.replicate_succ,List.cons_append],rfl⟩
theorem toks_spc {S:List UInt8}:∀ {s:List UInt8} {ws:List (List UInt8)},Spc s ws→∀ (i:Nat) (acc:List Tk),S.drop i=s→i≤S.length→(∀ w∈ws,isP w≠0) →
  ∃ l,toksF (S.length+1) S (i+blk (S.drop i)) acc=(acc++l,0,0)∧l.map wdOf=ws:=by
 intro s ws h
 induction h with
 | nil n =>
  intro i acc hd hi _
  have hb:blk (S.drop i)=n:=by
   rw [hd,← List.append_nil (List.replicate n 32)]
   exact blk_sp n fun c r e=>by cases e
  have hl:S.length-i=n:=by rw [← List.length_drop,hd,List.length_replicate]
  refine ⟨[],?_,rfl⟩
  rw [hb,toksF_end (by omega),List.append_nil]
 | @cons n w s ws h1 h2 ih =>
  intro i acc hd hi hw
  have hw1:=hw w (by simp)
  obtain ⟨p1,p2,p3⟩:=isP_first hw1
  have hb:blk (S.drop i)=n:=by rw [hd];exact blk_sp n (word_clear hw1 h2)
  have hd2:S.drop (i+n)=w++s:=by
   rw [← List.drop_drop,hd,List.drop_append,List.length_replicate,Nat.sub_self,List.drop_of_length_le (by simp)];rfl
  have hfs:=first_word hw1 h2
  have hl:S.length-(i+n)=w.length+s.length:=by rw [← List.length_drop,hd2,List.length_append]
  rw [hb,toksF_step (by omega) (by omega) (by rw [hd2,hfs];simp only;omega),hd2,hfs]
  simp only
  have hd3:S.drop (i+n+w.length)=s:=by rw [← List.drop_drop,hd2,List.drop_left]
  obtain ⟨l,e1,e2⟩:=ih (i+n+w.length) (acc++[⟨isP w,(w++s).take w.length,((i+n:Nat):Int)⟩]) hd3 (by omega) (fun v hv=>hw v (by simp [hv]))
  refine ⟨⟨isP w,(w++s).take w.length,((i+n:Nat):Int)⟩::l,?_,?_⟩
  ·rw [e1];simp
  ·rw [List.map_cons,e2]
   have ht:(w++s).take w.length=w:=by rw [List.take_left]
   unfold wdOf
   rw [ht,if_pos rfl]
theorem toksP_spc {s:List UInt8} {ws:List (List UInt8)} (h:Spc s ws) (hw:∀ w∈ws,isP w≠0) (hs:s.length≤65536):∃ l,toksP s=(l,0,0)∧l.map wdOf=ws:=by
 obtain ⟨l,e1,e2⟩:=toks_spc (S:=s) h 0 [] rfl (Nat.zero_le _) hw
 refine ⟨l,?_,e2⟩
 unfold toksP
 rw [if_neg (by omega)]
 simpa using e1
end Go.Hs
end

section
namespace Go.Hs
theorem blk_app (r:List UInt8):∀ (k:Nat) (s:List UInt8),s.length≤k→blk (s++10::r)=if blk s=s.length then s.length+1+blk r else blk s
 | _,[],_=>by
  rw [List.nil_append,blk_bl (by decide),blk_nil]
  simp;omega
 | k+1,c::t,h=>by
  simp only [List.length_cons] at h
  rw [List.cons_append]
  by_cases hb:isBl c=true
  ·rw [blk_bl hb,blk_bl hb,blk_app r k t (by omega),List.length_cons]
   split
   ·rename_i q
    rw [if_pos (by omega)];omega
   ·rename_i q
    rw [if_neg (by omega)]
  have hb:isBl c=false:=by simpa using hb
  have hpa:=hasPre_app (c:=10) (by decide) r (u:=c::t) (by simp)
  rw [List.cons_append] at hpa
  by_cases hp:hasPre [45,45] (c::t)=true
  ·have hr:=runL_app (p:=noNl) (c:=10) (by decide) r (c::t)
   rw [List.cons_append] at hr
   rw [blk_rem (by rw [hpa];exact hp),blk_rem hp,hr]
   have hle:=runL_le noNl (c::t)
   have h2:=(noNl_pre hp).1
   generalize hm:runL noNl (c::t)=m at hle h2
   have hd:(c::(t++10::r)).drop m=(c::t).drop m++10::r:=by
    rw [← List.cons_append,List.drop_append_of_le_length hle]
   have hl:((c::t).drop m).length=(c::t).length-m:=List.length_drop
   simp only [List.length_cons] at hl hle
   rw [hd,blk_app r k _ (by omega),hl,List.length_cons]
   split
   ·rename_i q
    rw [if_pos (by omega)];omega
   ·rename_i q
    rw [if_neg (by omega)]
  ·have hp:hasPre [45,45] (c::t)=false:=by simpa using hp
   rw [blk_no hb (by rw [hpa];exact hp),blk_no hb hp,List.length_cons,if_neg (by omega)]
 | 0,c::t,h=>by simp at h
inductive Lx:List UInt8→List (List UInt8)→Prop where
 | nil {s:List UInt8}:blk s=s.length→Lx s []
 | cons {s:List UInt8} {ws:List (List UInt8)} {k:Nat}:blk s<s.length→(firstP (s.drop (blk s))).1=k→0<k→k≤64→Lx ((s.drop (blk s)).drop k) ws→Lx s ((s.drop (blk s)).take k::ws)
theorem first_is {s:List UInt8} (hb:blk s<s.length) {k:Nat} (hk:(firstP (s.drop (blk s))).1=k) (h0:0<k) (h64:k≤64) :
  isP ((s.drop (blk s)).take k)=(firstP (s.drop (blk s))).2∧(firstP (s.drop (blk s))).2≠0:=by
 have hc:=blk_clear s
 generalize s.drop (blk s)=u at hk hc ⊢
 have hp:hasPre [45,45] u=false:=by
  cases u with
  | nil=>rfl
  | cons c r=>exact (hc c r rfl).2
 obtain ⟨q1,q2⟩:=first_kind hp (by omega)
 rw [hk] at q1
 refine ⟨?_,q2⟩
 rw [isP_whole,if_neg (by rw [List.length_take];omega),q1]
theorem lx_toks {S:List UInt8} {s:List UInt8} {ws:List (List UInt8)} (h:Lx s ws):∀ (i:Nat) (acc:List Tk),S.drop i=s→i≤S.length→∃ l,toksF (S.length+1) S (i+blk (S.drop i)) acc=(acc++l,0,0)∧l.map wdOf=ws:=by
 induction h with
 | @nil s hb =>
  intro i acc hd hi
  rw [hd,hb]
  have:S.length-i=s.length:=by rw [← List.length_drop,hd]
  exact ⟨[],by rw [toksF_end (by omega),List.append_nil],rfl⟩
 | @cons s ws k hb hk h0 h64 _ ih =>
  intro i acc hd hi
  obtain ⟨p1,p2⟩:=first_is hb hk h0 h64
  have hl:S.length-i=s.length:=by rw [← List.length_drop,hd]
  have hd2:S.drop (i+blk s)=s.drop (blk s):=by rw [← List.drop_drop,hd]
  rw [hd,toksF_step (by omega) (by omega) (by rw [hd2,hk];omega),hd2,hk]
  have hle:=firstP_le (s.drop (blk s))
  rw [hk,List.length_drop] at hle
  have hd3:S.drop (i+blk s+k)=(s.drop (blk s)).drop k:=by rw [← List.drop_drop,hd2]
  obtain ⟨l,e1,e2⟩:=ih (i+blk s+k) (acc++[⟨(firstP (s.drop (blk s))).2,(s.drop (blk s)).take k,((i+blk s:Nat):Int)⟩]) hd3 (by omega)
  refine ⟨⟨(firstP (s.drop (blk s))).2,(s.drop (blk s)).take k,((i+blk s:Nat):Int)⟩::l,?_,?_⟩
  ·rw [e1];simp
  ·rw [List.map_cons,e2]
   unfold wdOf
   simp only
   rw [p1,if_pos rfl]
theorem lx_toksP {s:List UInt8} {ws:List (List UInt8)} (h:Lx s ws) (hs:s.length≤65536):∃ l,toksP s=(l,0,0)∧l.map wdOf=ws:=by
 obtain ⟨l,e1,e2⟩:=lx_toks (S:=s) h 0 [] rfl (Nat.zero_le _)
 refine ⟨l,?_,e2⟩
 unfold toksP
 rw [if_neg (by omega)]
 simpa using e1
theorem toks_lx {S:List UInt8}:∀ (f i:Nat) (acc l:List Tk),S.length<f+i→i≤S.length→toksF f S (i+blk (S.drop i)) acc=(l,0,0)→∃ l2,l=acc++l2∧Lx (S.drop i) (l2.map wdOf)
 | 0,i,acc,l,hf,hi,_=>by omega
 | f+1,i,acc,l,hf,hi,h=>by
  have hbl:=blk_le (S.drop i)
  rw [List.length_drop] at hbl
  by_cases hb:blk (S.drop i)<(S.drop i).length
  ·have hb':=hb
   rw [List.length_drop] at hb'
   have hdd:S.drop (i+blk (S.drop i))=(S.drop i).drop (blk (S.drop i)):=by rw [List.drop_drop]
   by_cases hk:(firstP (S.drop (i+blk (S.drop i)))).1=0∨(firstP (S.drop (i+blk (S.drop i)))).1 > 64
   ·rw [toksF_bad (by omega) (by omega) hk] at h
    have:=congrArg (fun x=>x.2.2) h
    simp at this
   ·rw [toksF,if_pos (by omega),if_neg hk] at h
    rw [hdd] at h hk
    simp only [not_or,Nat.not_lt] at hk
    have hle:=firstP_le ((S.drop i).drop (blk (S.drop i)))
    rw [List.length_drop,List.length_drop] at hle
    obtain ⟨p1,p2⟩:=first_is hb rfl (by omega) (by omega)
    obtain ⟨l2,e1,e2⟩:=toks_lx f (i+blk (S.drop i)+(firstP ((S.drop i).drop (blk (S.drop i)))).1) _ l (by omega) (by omega) h
    refine ⟨_::l2,by rw [e1,List.append_assoc];rfl,?_⟩
    rw [List.map_cons]
    have hw:∀ p,wdOf ⟨(firstP ((S.drop i).drop (blk (S.drop i)))).2,((S.drop i).drop (blk (S.drop i))).take (firstP ((S.drop i).drop (blk (S.drop i)))).1,p⟩=((S.drop i).drop (blk (S.drop i))).take (firstP ((S.drop i).drop (blk (S.drop i)))).1:=by
     intro p
     unfold wdOf
     simp only
     rw [p1,if_pos rfl]
    rw [hw]
    refine .cons hb rfl (by omega) (by omega) ?_
    rw [← List.drop_drop,hdd] at e2
    exact e2
  ·rw [List.length_drop] at hb
   rw [toksF_end (by omega)] at h
   have hl:acc=l:=congrArg Prod.fst h
   refine ⟨[],by rw [hl,List.append_nil],.nil ?_⟩
   rw [List.length_drop];omega
theorem toksP_lx {s:List UInt8} {l:List Tk} (h:toksP s=(l,0,0)):Lx s (l.map wdOf):=by
 unfold toksP at h
 split at h
 ·have:=congrArg (fun x=>x.2.2) h
  simp at this
 ·have h2:toksF (s.length+1) s (0+blk (s.drop 0)) []=(l,0,0):=by simpa using h
  obtain ⟨l2,e1,e2⟩:=toks_lx _ 0 [] l (by omega) (Nat.zero_le _) h2
  rw [e1,List.nil_append]
  simpa using e2
theorem Lx.back {s:List UInt8} {ws:List (List UInt8)} (h:Lx s ws):Lx (s++[10,41]) (ws++[[41]]):=by
 induction h with
 | @nil s hb =>
  have hb2:blk (s++[10,41])=s.length+1:=by
   rw [blk_app [41] s.length s (Nat.le_refl _),if_pos hb];rfl
  have hd:(s++[10,41]).drop (blk (s++[10,41]))=[41]:=by
   rw [hb2,List.drop_append,List.drop_of_length_le (by omega),show s.length+1-s.length=1 by omega];rfl
  have:=Lx.cons (s:=s++[10,41]) (ws:=[]) (k:=1) (by rw [hb2];simp) (by rw [hd];decide +kernel) (by decide) (by decide) (.nil (by rw [hd];rfl))
  rw [hd] at this
  exact this
 | @cons s ws k hb hk h0 h64 _ ih =>
  have hb2:blk (s++[10,41])=blk s:=by rw [blk_app [41] s.length s (Nat.le_refl _),if_neg (by omega)]
  have hd:(s++[10,41]).drop (blk s)=s.drop (blk s)++[10,41]:=List.drop_append_of_le_length (by omega)
  have hne:s.drop (blk s)≠[]:=by
   intro q
   have:=congrArg List.length q
   rw [List.length_drop] at this
   simp at this;omega
  have hf:(firstP (s.drop (blk s)++[10,41])).1=k:=by rw [first_app (by decide) _ hne,hk]
  have hle:=firstP_le (s.drop (blk s))
  rw [hk] at hle
  have:=Lx.cons (s:=s++[10,41]) (ws:=ws++[[41]]) (k:=k) (by rw [hb2,List.length_append];omega) (by rw [hb2,hd];exact hf) h0 h64 (by
   rw [hb2,hd,List.drop_append_of_le_length hle];exact ih)
  rw [hb2,hd,List.take_append_of_le_length hle] at this
  exact this
theorem Lx.ahead {s:List UInt8} {ws:List (List UInt8)} (h:Lx s ws):Lx (40::s) ([40]::ws):=by
 have hp:hasPre [45,45] (40::s)=false:=by
  cases s<;>rfl
 have hb:blk (40::s)=0:=blk_no (by decide) hp
 have hf:(firstP (40::s)).1=1:=by
  rw [first_no (by decide) hp]
  cases s with
  | nil=>rfl
  | cons d r =>
   rw [sgnN_two]
   have:sg2.contains [40,d]=false:=by simp [sg2]
   rw [this];rfl
 have:=Lx.cons (s:=40::s) (ws:=ws) (k:=1) (by rw [hb];simp) (by rw [hb];exact hf) (by decide) (by decide) (by rw [hb];exact h)
 rw [hb] at this
 exact this
theorem toks_par {s:List UInt8} {l:List Tk} (h:toksP s=(l,0,0)) (hs:s.length≤65533):∃ l2,toksP (40::(s++[10,41]))=(l2,0,0)∧l2.map wdOf=[40]::(l.map wdOf++[[41]]) :=
 lx_toksP (toksP_lx h).back.ahead (by simp;omega)
theorem word_par {w:List UInt8} {c:UInt8} (hc:c=40∨c=41) (h:isP w≠0) (hm:c∈w):w=[c]:=by
 rw [isP_whole] at h
 split at h
 ·exact absurd rfl h
 have hal:isAl c=false:=by rcases hc with rfl | rfl<;>decide
 have hdg:isDig c=false:=by rcases hc with rfl | rfl<;>decide
 have hs:∀ w∈signsL,(40∈w→w=[40])∧(41∈w→w=[41]):=by decide +kernel
 match w,h,hm with
 | a::r,h,hm =>
  rcases al_cases a with q | ⟨_,q⟩ | ⟨q,_,_⟩
  ·rw [whole_dg q] at h
   split at h
   ·rename_i ha
    rw [List.all_eq_true.1 ha c hm] at hdg;cases hdg
   ·exact absurd rfl h
  ·rw [whole_lt q] at h
   split at h
   ·rename_i ha
    rw [List.all_eq_true.1 ha c hm] at hal;cases hal
   ·exact absurd rfl h
  ·rw [whole_no q] at h
   split at h
   ·rename_i ha
    have hin:(a::r)∈signsL:=by simpa using ha
    rcases hc with rfl | rfl
    ·exact (hs _ hin).1 hm
    ·exact (hs _ hin).2 hm
   ·exact absurd rfl h
theorem Spc.pad {s:List UInt8} {ws:List (List UInt8)} (h:Spc s ws) (n:Nat):Spc (List.replicate n 32++s) ws:=by
 cases h with
 | nil m=>rw [List.replicate_append_replicate];exact .nil _
 | cons m h1 h2=>rw [← List.append_assoc,List.replicate_append_replicate];exact .cons _ h1 h2
theorem Spc.erase {s:List UInt8} {ws:List (List UInt8)} (h:Spc s ws) {c:UInt8} (hc:c=40∨c=41):(∀ w∈ws,isP w≠0)→∀ i,s[i]? = some c→∃ w1 w2,ws=w1++[c]::w2∧Spc (s.eraseIdx i) (w1++w2):=by
 have hc32:c≠32:=by rcases hc with rfl | rfl<;>decide
 induction h with
 | nil n =>
  intro _ i hi
  have:=List.mem_of_getElem? hi
  rw [List.mem_replicate] at this
  exact absurd this.2 hc32
 | @cons n w s ws h1 h2 ih =>
  intro hw i hi
  have hw1:=hw w (by simp)
  by_cases q1:i<n
  ·rw [List.getElem?_append_left (by simp;omega)] at hi
   have:=List.mem_of_getElem? hi
   rw [List.mem_replicate] at this
   exact absurd this.2 hc32
  ·rw [List.getElem?_append_right (by simp;omega),List.length_replicate] at hi
   rw [List.eraseIdx_append_of_length_le (by simp;omega),List.length_replicate]
   obtain ⟨j,rfl⟩:∃ j,i=n+j:=⟨i-n,by omega⟩
   rw [show n+j-n=j by omega] at hi ⊢
   by_cases q2:j<w.length
   ·rw [List.getElem?_append_left q2] at hi
    have hwc:=word_par hc hw1 (List.mem_of_getElem? hi)
    subst hwc
    obtain rfl:j=0:=by simp at q2;exact q2
    exact ⟨[],ws,rfl,by simpa using h1.pad n⟩
   ·rw [List.getElem?_append_right (by omega)] at hi
    rw [List.eraseIdx_append_of_length_le (by omega)]
    obtain ⟨w1,w2,e,hsp⟩:=ih (fun v hv=>hw v (by simp [hv])) _ hi
    refine ⟨w::w1,w2,by rw [e];rfl,.cons n hsp ?_⟩
    rcases h2 with rfl | ⟨d,r,rfl,hd⟩
    ·simp at hi
    ·cases hj:j-w.length with
     | zero =>
      rw [hj] at hi
      simp at hi
      subst hi
      rcases hc with rfl | rfl<;>exact absurd hd (by decide)
     | succ m=>exact .inr ⟨d,r.eraseIdx m,rfl,hd⟩
end Go.Hs
end

section
namespace Go.Hs.PutLaw
open Go Go.Hs
def chr (d:Nat):UInt8:=UInt8.ofNat (48+d)
def chars (l:List Nat):List UInt8:=(l.map chr).reverse
theorem decDigits_dg (u:Nat) (h:0<u):Lib.decDigits u=chars (dg u):=by
 induction u using Nat.strongRecOn with
 | _ u ih =>
  rw [Lib.decDigits,dg_pos h]
  by_cases h1:u<10
  ·rw [dif_pos h1,show u / 10=0 by omega,dg_zero,Nat.mod_eq_of_lt h1]
   rfl
  ·rw [dif_neg h1,ih (u / 10) (by omega) (by omega)]
   simp [chars,chr]
theorem putR_dg (n:Int):putR n=if n=0 then [48] else if n<0 then 45::chars (dg n.natAbs) else chars (dg n.natAbs):=by
 unfold putR Lib.itoa
 by_cases h0:n=0
 ·subst h0
  simp
  rw [Lib.decDigits]
  simp
 ·rw [if_neg h0]
  by_cases h1:n<0
  ·rw [if_pos h1,if_pos h1,decDigits_dg _ (by omega)]
  ·rw [if_neg h1,if_neg h1,show n.toNat=n.natAbs by omega,decDigits_dg _ (by omega)]
theorem chr_nat {d:Nat} (h:d<10):(chr d).toNat=48+d:=by
 unfold chr
 rw [UInt8.toNat_ofNat']
 omega
theorem dval_chr {d:Nat} (h:d<10):dval (chr d)=d:=by
 unfold dval
 rw [chr_nat h]
 omega
theorem chr_dval {c:UInt8} (h:isDig c=true):chr (dval c)=c:=by
 have h2:48≤c.toNat∧c.toNat≤57:=by unfold isDig at h;simpa using h
 apply UInt8.toNat_inj.1
 rw [chr_nat (by unfold dval;omega)]
 unfold dval
 omega
theorem isDig_chr {d:Nat} (h:d<10):isDig (chr d)=true:=by
 unfold isDig
 rw [chr_nat h]
 simp
 omega
theorem map_dval {l:List Nat} (h:Dig l):(chars l).reverse.map dval=l:=by
 unfold chars
 rw [List.reverse_reverse,List.map_map]
 have:∀ d∈l,(dval ∘ chr) d=d:=fun d hd=>dval_chr (h d hd)
 rw [List.map_congr_left this]
 simp
theorem all_chars {l:List Nat} (h:Dig l):(chars l).all isDig=true:=by
 rw [List.all_eq_true]
 intro c hc
 unfold chars at hc
 obtain ⟨d,hd,rfl⟩:=List.mem_map.1 (List.mem_reverse.1 hc)
 exact isDig_chr (h d hd)
theorem head_chars (l:List Nat):(chars l).head? = l.getLast?.map chr:=by
 unfold chars
 rw [List.head?_reverse,List.getLast?_map]
theorem head_ne {m:Nat} (h:0<m):(chars (dg m)).head? ≠ some 48∧(chars (dg m)).head? ≠ some 45∧chars (dg m)≠[]:=by
 have hne:dg m≠[]:=by rw [Ne,dg_ne];omega
 obtain ⟨d,hd⟩:∃ d,(dg m).getLast? = some d:=⟨_,List.getLast?_eq_some_getLast hne⟩
 have h0:=dg_last m d hd
 have h9:d<10:=dig_dg m d (List.mem_of_getLast? hd)
 rw [head_chars,hd]
 refine ⟨fun e=>?_,fun e=>?_,fun e=>?_⟩
 ·have:=Option.some.inj e
  have:=congrArg UInt8.toNat this
  rw [chr_nat h9] at this
  have h48:(48:UInt8).toNat=48:=rfl
  omega
 ·have:=Option.some.inj e
  have:=congrArg UInt8.toNat this
  rw [chr_nat h9] at this
  have h45:(45:UInt8).toNat=45:=rfl
  omega
 ·have e2:=head_chars (dg m)
  rw [e,hd] at e2
  cases e2
theorem parse_put {a:Int} (ha : -9223372036854775808≤a∧a≤9223372036854775807):parseR (putR a)=(a,0):=by
 rw [putR_dg]
 by_cases h0:a=0
 ·rw [if_pos h0,h0];rfl
 ·rw [if_neg h0]
  have hm:0<a.natAbs:=by omega
  obtain ⟨h1,h2,h3⟩:=head_ne hm
  have hv:val ((chars (dg a.natAbs)).reverse.map dval)=a.natAbs:=by rw [map_dval (dig_dg _),val_dg]
  have hall:=all_chars (dig_dg a.natAbs)
  by_cases hn:a<0
  ·rw [if_pos hn]
   unfold parseR
   simp only [List.head?_cons,List.drop_succ_cons,List.drop_zero,show ((some (45:UInt8))==some 45)=true from rfl,if_true]
   rw [if_neg (by simp only [hall,h1,h3,Bool.true_eq_false,false_and,or_self,not_false_eq_true]),hv]
   rw [told_ok (by omega)]
   exact Prod.ext (by show -((a.natAbs:Nat):Int)=a;omega) rfl
  ·rw [if_neg hn]
   unfold parseR
   have hb:((chars (dg a.natAbs)).head? == some 45)=false:=by simpa using h2
   simp only [hb,Bool.false_eq_true,if_false]
   rw [if_neg (by simp only [hall,h1,h3,Bool.true_eq_false,false_and,or_self,not_false_eq_true]),hv]
   rw [told_ok (by omega)]
   exact Prod.ext (by show ((a.natAbs:Nat):Int)=a;omega) rfl
theorem chars_of {t:List UInt8} (h:t.all isDig=true):chars (t.reverse.map dval)=t:=by
 unfold chars
 rw [List.map_map]
 have:∀ c∈t.reverse,(chr ∘ dval) c=c:=fun c hc=>chr_dval (List.all_eq_true.1 h c (List.mem_reverse.1 hc))
 rw [List.map_congr_left this]
 simp
theorem dig_of {t:List UInt8} (h:t.all isDig=true):Dig (t.reverse.map dval):=by
 intro d hd
 obtain ⟨c,hc,rfl⟩:=List.mem_map.1 hd
 have:=List.all_eq_true.1 h c (List.mem_reverse.1 hc)
 unfold isDig at this
 unfold dval
 simp at this
 omega
theorem dg_of {t:List UInt8} (h:t.all isDig=true) (hne:t≠[]) (h0:t.head? ≠ some 48):chars (dg (val (t.reverse.map dval)))=t∧0<val (t.reverse.map dval):=by
 have hl:∀ d,(t.reverse.map dval).getLast? = some d→d≠0:=by
  intro d hd
  rw [List.getLast?_map,List.getLast?_reverse] at hd
  obtain ⟨c,hc,rfl⟩:=Option.map_eq_some_iff.1 hd
  intro e
  apply h0
  rw [hc]
  have hd2:=List.all_eq_true.1 h c (List.mem_of_head? hc)
  have:=chr_dval hd2
  rw [e] at this
  rw [← this]
  rfl
 have hdg:=dg_val (dig_of h) hl
 rw [hdg]
 refine ⟨chars_of h,?_⟩
 rcases Nat.eq_zero_or_pos (val (t.reverse.map dval)) with e | e
 ·rw [e,dg_zero] at hdg
  exact absurd (by simpa using hdg.symm) hne
 ·exact e
theorem told_zero {x:Int} (h:(told x).2=0):(told x).1=x:=by
 unfold told at h ⊢
 split
 ·rfl
 ·rename_i h1;rw [if_neg h1] at h;cases h
theorem put_parse {s:List UInt8} (h:(parseR s).2=0):putR (parseR s).1=s:=by
 unfold parseR at h ⊢
 generalize hb:(s.head? == some 45)=b at h ⊢
 simp only at h ⊢
 generalize ht:(if b=true then s.drop 1 else s)=t at h ⊢
 by_cases hbad:t=[]∨(t.head? = some 48∧(t.length > 1∨b=true))∨t.all isDig=false
 ·rw [if_pos hbad] at h;cases h
 ·rw [if_neg hbad] at h ⊢
  rw [told_zero h]
  have hne:t≠[]:=fun e=>hbad (.inl e)
  have hall:t.all isDig=true:=by
   by_cases e:t.all isDig=true
   ·exact e
   ·exact absurd (.inr (.inr (by simpa using e))) hbad
  have hs:s=if b=true then 45::t else t:=by
   cases b with
   | false=>simpa using ht
   | true =>
    cases s with
    | nil=>cases hb
    | cons c r =>
     have hc:c=45:=by simpa using hb
     have ht:r=t:=by simpa using ht
     rw [hc,ht];rfl
  by_cases h0:t.head? = some 48
  ·have hb2:b=false:=by
    cases b with
    | false=>rfl
    | true=>exact absurd (.inr (.inl ⟨h0,.inr rfl⟩)) hbad
   have hl:¬ t.length > 1:=fun e=>hbad (.inr (.inl ⟨h0,.inl e⟩))
   have ht1:t=[48]:=by
    match t,h0,hl with
    | [c],h0,_=>simpa using h0
    | c::d::r,_,hl=>simp at hl
   rw [hs,hb2,ht1]
   simp only [Bool.false_eq_true,if_false]
   rw [show val (List.map dval ([48]:List UInt8).reverse)=0 by decide,putR_dg]
   rfl
  ·obtain ⟨h1,h2⟩:=dg_of hall hne h0
   rw [hs,putR_dg]
   generalize val (t.reverse.map dval)=m at h1 h2
   cases b with
   | false =>
    simp only [Bool.false_eq_true,if_false]
    rw [if_neg (by omega),if_neg (by omega),Int.natAbs_natCast,h1]
   | true =>
    simp only [if_true]
    rw [if_neg (by omega),if_pos (by omega),Int.natAbs_neg,Int.natAbs_natCast,h1]
end Go.Hs.PutLaw
end

section
namespace Go.Hs
def begStep (rec:Int→Int) (has:Bool) (place last:Int):Option Int :=
 if has=false then (if place ≠ -1 then none else some last)
 else if place≠last then none else if rec last<0 then none else some (rec last-1)
def nthP (l:List XN) (i:Int):Option XN:=if i<0 then none else l[i.toNat]?
def begR (l:List XN):Nat→Int→Int
 | 0,_ => -1
 | f+1,i=>match nthP l i with
  | none => -1
  | some n=>bif wellP n then
   match begStep (begR l f) (Nat.blt 2 (partsOf n.op)) n.c (i-1) with
   | none => -1
   | some l2=>match begStep (begR l f) (Nat.blt 1 (partsOf n.op)) n.b l2 with
    | none => -1
    | some l1=>match begStep (begR l f) (Nat.blt 0 (partsOf n.op)) n.a l1 with
     | none => -1
     | some l0=>l0+1
   else -1
theorem begR_ge (l:List XN):∀ f i,-1≤begR l f i
 | 0,_=>by simp [begR]
 | f+1,i=>by
  have ih:=begR_ge l f
  have hs:∀ has place last q,begStep (begR l f) has place last=some q→q=last ∨ -1≤q:=by
   intro has place last q h
   unfold begStep at h
   split at h
   ·split at h
    ·cases h
    ·cases h;exact .inl rfl
   ·split at h
    ·cases h
    ·split at h
     ·cases h
     ·cases h;right;omega
  rw [begR]
  cases hn:nthP l i with
  | none=>simp
  | some n =>
   simp only
   have hi:0≤i:=by unfold nthP at hn;split at hn;cases hn;omega
   cases wellP n with
   | false=>simp
   | true =>
    simp only [cond_true]
    cases h2:begStep (begR l f) (Nat.blt 2 (partsOf n.op)) n.c (i-1) with
    | none=>simp
    | some l2 =>
     simp only
     cases h1:begStep (begR l f) (Nat.blt 1 (partsOf n.op)) n.b l2 with
     | none=>simp
     | some l1 =>
      simp only
      cases h0:begStep (begR l f) (Nat.blt 0 (partsOf n.op)) n.a l1 with
      | none=>simp
      | some l0 =>
       simp only
       have a2:=hs _ _ _ _ h2
       have a1:=hs _ _ _ _ h1
       have a0:=hs _ _ _ _ h0
       omega
def At (l:List XN) (x:X) (b:Nat):Prop:=∃ pre post,l=pre++x.row b++post∧pre.length=b
theorem X.row_top:∀ (x:X) (k:Int),∃ body,x.row k=body++[x.top k]∧body.length+1=x.size
 | .leaf op num name,k=>⟨[],rfl,rfl⟩
 | .un op a,k=>⟨a.row k,rfl,by rw [X.row_len];rfl⟩
 | .bin op a b,k=>⟨a.row k++b.row (k+a.size),rfl,by rw [List.length_append,X.row_len,X.row_len];rfl⟩
 | .ite a b c,k=>⟨a.row k++b.row (k+a.size)++c.row (k+a.size+b.size),rfl,by rw [List.length_append,List.length_append,X.row_len,X.row_len,X.row_len];rfl⟩
theorem At.top {l:List XN} {x:X} {b:Nat} (h:At l x b):nthP l ((b:Int)+x.size-1)=some (x.top b):=by
 obtain ⟨pre,post,rfl,hb⟩:=h
 obtain ⟨body,h1,h2⟩:=x.row_top b
 unfold nthP
 rw [if_neg (by omega)]
 have:((b:Int)+x.size-1).toNat=(pre++body).length:=by rw [List.length_append];omega
 rw [this,h1,show pre++(body++[x.top b])++post=(pre++body)++(x.top b::post) by simp]
 rw [List.getElem?_append_right (Nat.le_refl _)];simp
theorem At.get {l:List XN} {x:X} {b:Nat} (h:At l x b):l[b+x.size-1]? = some (x.top b):=by
 have:=h.top
 unfold nthP at this
 have hp:=x.size_pos
 rw [if_neg (by omega)] at this
 rw [← this];congr 1;omega
theorem At.un {l:List XN} {op:Int} {a:X} {b:Nat} (h:At l (.un op a) b):At l a b:=by
 obtain ⟨pre,post,rfl,hb⟩:=h
 exact ⟨pre,_,by simp only [X.row,List.append_assoc];rfl,hb⟩
theorem At.bin {l:List XN} {op:Int} {x y:X} {b:Nat} (h:At l (.bin op x y) b):At l x b∧At l y (b+x.size):=by
 obtain ⟨pre,post,rfl,hb⟩:=h
 refine ⟨⟨pre,y.row (b+x.size)++[X.top (.bin op x y) b]++post,by simp only [X.row,List.append_assoc];rfl,hb⟩,⟨pre++x.row b,[X.top (.bin op x y) b]++post,?_,by rw [List.length_append,X.row_len,hb]⟩⟩
 simp only [X.row,List.append_assoc]
 rfl
theorem At.ite {l:List XN} {x y z:X} {b:Nat} (h:At l (.ite x y z) b):At l x b∧At l y (b+x.size)∧At l z (b+x.size+y.size):=by
 obtain ⟨pre,post,rfl,hb⟩:=h
 refine ⟨⟨pre,y.row (b+x.size)++z.row (b+x.size+y.size)++[X.top (.ite x y z) b]++post,by simp only [X.row,List.append_assoc];rfl,hb⟩,⟨pre++x.row b,z.row (b+x.size+y.size)++[X.top (.ite x y z) b]++post,?_,by rw [List.length_append,X.row_len,hb]⟩,⟨pre++x.row b++y.row (b+x.size),[X.top (.ite x y z) b]++post,?_,by rw [List.length_append,List.length_append,X.row_len,X.row_len,hb]⟩⟩
 ·simp only [X.row,List.append_assoc];rfl
 ·simp only [X.row,List.append_assoc];rfl
theorem begStep_no (rec:Int→Int) (last:Int):begStep rec false (-1) last=some last:=rfl
theorem begStep_yes {rec:Int→Int} {last:Int} (h:0≤rec last):begStep rec true last last=some (rec last-1):=by
 unfold begStep
 rw [if_neg (by simp),if_neg (by simp),if_neg (by omega)]
theorem begR_at:∀ (x:X) (l:List XN) (b f:Nat),x.ok=true→At l x b→x.size≤f→begR l f ((b:Int)+x.size-1)=b
 | .leaf op num name,l,b,f,hok,h,hf=>by
  unfold X.ok at hok
  simp only [Bool.and_eq_true,decide_eq_true_eq] at hok
  obtain ⟨f,rfl⟩:∃ f',f=f'+1:=⟨f-1,by simp only [X.size] at hf;omega⟩
  rw [begR,h.top]
  simp only [X.top]
  have hp:partsOf op=0:=by unfold partsOf;rw [if_pos hok.2]
  rw [hok.1,hp,cond_true]
  simp only [show Nat.blt 2 0=false from rfl,show Nat.blt 1 0=false from rfl,show Nat.blt 0 0=false from rfl,begStep_no,X.size]
  omega
 | .un op a,l,b,f,hok,h,hf=>by
  unfold X.ok at hok
  simp only [Bool.and_eq_true,decide_eq_true_eq] at hok
  simp only [X.size] at hf
  obtain ⟨f,rfl⟩:∃ f',f=f'+1:=⟨f-1,by omega⟩
  have ia:=begR_at a l b f hok.2 h.un (by omega)
  rw [begR,h.top]
  simp only [X.top]
  have hp:partsOf op=1:=by unfold partsOf;rw [if_neg (by omega),if_pos (by omega)]
  rw [well_op (by omega),hp,cond_true]
  have e:(b:Int)+(X.un op a).size-1-1=b+a.size-1:=by simp only [X.size];omega
  simp only [show Nat.blt 2 1=false from rfl,show Nat.blt 1 1=false from rfl,show Nat.blt 0 1=true from rfl,begStep_no,e]
  rw [begStep_yes (by rw [ia];omega),ia]
  simp
 | .bin op x y,l,b,f,hok,h,hf=>by
  unfold X.ok at hok
  simp only [Bool.and_eq_true,decide_eq_true_eq] at hok
  simp only [X.size] at hf
  obtain ⟨f,rfl⟩:∃ f',f=f'+1:=⟨f-1,by omega⟩
  have ix:=begR_at x l b f hok.1.2 h.bin.1 (by omega)
  have iy:=begR_at y l (b+x.size) f hok.2 h.bin.2 (by omega)
  rw [begR,h.top]
  simp only [X.top]
  have hp:partsOf op=2:=by unfold partsOf;rw [if_neg (by omega),if_neg (by omega),if_pos (by omega)]
  rw [well_op (by omega),hp,cond_true]
  have e:(b:Int)+(X.bin op x y).size-1-1=b+x.size+y.size-1:=by simp only [X.size];omega
  have ey:((b+x.size:Nat):Int)=b+x.size:=by omega
  rw [ey] at iy
  simp only [show Nat.blt 2 2=false from rfl,show Nat.blt 1 2=true from rfl,show Nat.blt 0 2=true from rfl,begStep_no,e]
  rw [begStep_yes (by rw [iy];omega),iy]
  simp only
  rw [begStep_yes (by rw [ix];omega),ix]
  simp
 | .ite x y z,l,b,f,hok,h,hf=>by
  unfold X.ok at hok
  simp only [Bool.and_eq_true] at hok
  simp only [X.size] at hf
  obtain ⟨f,rfl⟩:∃ f',f=f'+1:=⟨f-1,by omega⟩
  have ix:=begR_at x l b f hok.1.1 h.ite.1 (by omega)
  have iy:=begR_at y l (b+x.size) f hok.1.2 h.ite.2.1 (by omega)
  have iz:=begR_at z l (b+x.size+y.size) f hok.2 h.ite.2.2 (by omega)
  rw [begR,h.top]
  simp only [X.top]
  rw [well_op (by omega),show partsOf 22=3 from rfl,cond_true]
  have e:(b:Int)+(X.ite x y z).size-1-1=b+x.size+y.size+z.size-1:=by simp only [X.size];omega
  have ey:((b+x.size:Nat):Int)=b+x.size:=by omega
  have ez:((b+x.size+y.size:Nat):Int)=b+x.size+y.size:=by omega
  rw [ey] at iy
  rw [ez] at iz
  simp only [show Nat.blt 2 3=true from rfl,show Nat.blt 1 3=true from rfl,show Nat.blt 0 3=true from rfl,e]
  rw [begStep_yes (by rw [iz];omega),iz]
  simp only
  rw [begStep_yes (by rw [iy];omega),iy]
  simp only
  rw [begStep_yes (by rw [ix];omega),ix]
  simp
theorem begStep_inv {rec:Int→Int} {has:Bool} {place last q:Int} (h:begStep rec has place last=some q):has=false∧place = -1∧q=last∨has=true∧place=last∧0≤rec last∧q=rec last-1:=by
 unfold begStep at h
 split at h
 ·rename_i h1
  split at h
  ·cases h
  ·rename_i h2;cases h;exact .inl ⟨h1,by simpa using h2,rfl⟩
 ·rename_i h1
  split at h
  ·cases h
  ·rename_i h2
   split at h
   ·cases h
   ·rename_i h3;cases h;exact .inr ⟨by simpa using h1,by simpa using h2,by omega,rfl⟩
theorem At.glue {l:List XN} {x:X} {b:Nat} (h:At l x b):∃ pre,l.take (b+x.size)=pre++x.row b∧pre.length=b:=by
 obtain ⟨pre,post,rfl,hb⟩:=h
 refine ⟨pre,?_,hb⟩
 rw [List.take_append_of_le_length (by rw [List.length_append,X.row_len];omega),List.take_of_length_le (by rw [List.length_append,X.row_len];omega)]
theorem At.of_take {l:List XN} {x:X} {b:Nat} {pre:List XN} (h:l.take (b+x.size)=pre++x.row b) (hb:pre.length=b):At l x b :=
 ⟨pre,l.drop (b+x.size),by rw [← h,List.take_append_drop],hb⟩
theorem nthP_some {l:List XN} {i:Int} {n:XN} (h:nthP l i=some n):0≤i∧l[i.toNat]? = some n∧i.toNat<l.length:=by
 unfold nthP at h
 split at h
 ·cases h
 ·have:=List.getElem?_eq_some_iff.1 h
  exact ⟨by omega,h,this.1⟩
theorem begR_tree (l:List XN):∀ (f:Nat) (i:Int),0≤begR l f i→∃ (x:X) (b:Nat),x.ok=true∧At l x b∧begR l f i=b∧(b:Int)+x.size=i+1
 | 0,i,h=>by simp [begR] at h
 | f+1,i,h=>by
  rw [begR] at h ⊢
  cases hn:nthP l i with
  | none=>rw [hn] at h;simp at h
  | some n =>
   rw [hn] at h
   obtain ⟨hi,hg,hlt⟩:=nthP_some hn
   simp only at h ⊢
   cases hw:wellP n with
   | false=>rw [hw] at h;simp at h
   | true =>
   rw [hw,cond_true] at h
   rw [cond_true]
   have hrg:=well_range hw
   have htk:l.take (i.toNat+1)=l.take i.toNat++[n]:=by rw [List.take_add_one,hg];rfl
   cases h2:begStep (begR l f) (Nat.blt 2 (partsOf n.op)) n.c (i-1) with
   | none=>rw [h2] at h;simp at h
   | some l2 =>
   rw [h2] at h
   simp only at h ⊢
   cases h1:begStep (begR l f) (Nat.blt 1 (partsOf n.op)) n.b l2 with
   | none=>rw [h1] at h;simp at h
   | some l1 =>
   rw [h1] at h
   simp only at h ⊢
   cases h0:begStep (begR l f) (Nat.blt 0 (partsOf n.op)) n.a l1 with
   | none=>rw [h0] at h;simp at h
   | some l0 =>
   rw [h0] at h
   simp only at h ⊢
   obtain ⟨op,num,name,a,b,c⟩:=n
   simp only at h2 h1 h0 hrg
   by_cases h4:op≤4
   ·have hp:partsOf op=0:=by unfold partsOf;rw [if_pos h4]
    rw [hp] at h2 h1 h0
    obtain ⟨_,rfl,rfl⟩ | ⟨hh,_⟩:=begStep_inv h2
    rotate_left
    ·exact absurd hh (by decide)
    obtain ⟨_,rfl,rfl⟩ | ⟨hh,_⟩:=begStep_inv h1
    rotate_left
    ·exact absurd hh (by decide)
    obtain ⟨_,rfl,rfl⟩ | ⟨hh,_⟩:=begStep_inv h0
    rotate_left
    ·exact absurd hh (by decide)
    refine ⟨.leaf op num name,i.toNat,by unfold X.ok;rw [hw];simp;omega,At.of_take (pre:=l.take i.toNat) (by rw [X.size,htk];rfl) (by rw [List.length_take];omega),by omega,by simp only [X.size];omega⟩
   have hnn:=well_num hw (show op≠1 by omega)
   simp only at hnn
   obtain ⟨rfl,hnm,_⟩:=hnn
   obtain rfl:=hnm (by omega)
   by_cases h6:op≤6
   ·have hp:partsOf op=1:=by unfold partsOf;rw [if_neg h4,if_pos h6]
    rw [hp] at h2 h1 h0
    obtain ⟨_,rfl,rfl⟩ | ⟨hh,_⟩:=begStep_inv h2
    rotate_left
    ·exact absurd hh (by decide)
    obtain ⟨_,rfl,rfl⟩ | ⟨hh,_⟩:=begStep_inv h1
    rotate_left
    ·exact absurd hh (by decide)
    obtain ⟨hh,_⟩ | ⟨_,rfl,hr,rfl⟩:=begStep_inv h0
    ·exact absurd hh (by decide)
    obtain ⟨x,bx,ok1,at1,e1,s1⟩:=begR_tree l f _ hr
    obtain ⟨pre,g1,g2⟩:=at1.glue
    refine ⟨.un op x,bx,by unfold X.ok;rw [ok1];simp;omega,At.of_take (pre:=pre) ?_ g2,by omega,by simp only [X.size];omega⟩
    rw [show bx+(X.un op x).size=i.toNat+1 by simp only [X.size];omega,htk,show i.toNat=bx+x.size by omega,g1,X.row,List.append_assoc]
    congr 4;omega
   by_cases h21:op≤21
   ·have hp:partsOf op=2:=by unfold partsOf;rw [if_neg h4,if_neg h6,if_pos h21]
    rw [hp] at h2 h1 h0
    obtain ⟨_,rfl,rfl⟩ | ⟨hh,_⟩:=begStep_inv h2
    rotate_left
    ·exact absurd hh (by decide)
    obtain ⟨hh,_⟩ | ⟨_,rfl,hr1,rfl⟩:=begStep_inv h1
    ·exact absurd hh (by decide)
    obtain ⟨hh,_⟩ | ⟨_,rfl,hr0,rfl⟩:=begStep_inv h0
    ·exact absurd hh (by decide)
    obtain ⟨y,by',ok1,at1,e1,s1⟩:=begR_tree l f _ hr1
    rw [e1] at hr0 h0 h ⊢
    obtain ⟨x,bx,ok0,at0,e0,s0⟩:=begR_tree l f _ hr0
    obtain ⟨prey,gy1,gy2⟩:=at1.glue
    obtain ⟨prex,gx1,gx2⟩:=at0.glue
    have eby:by'=bx+x.size:=by omega
    have hpy:prey=prex++x.row bx:=by
     have:(l.take (by'+y.size)).take by'=prey:=by rw [gy1,List.take_left' gy2]
     rw [← this,List.take_take,Nat.min_eq_left (by omega),eby,gx1]
    refine ⟨.bin op x y,bx,by unfold X.ok;rw [ok1,ok0];simp;omega,At.of_take (pre:=prex) ?_ gx2,by omega,by simp only [X.size];omega⟩
    rw [show bx+(X.bin op x y).size=i.toNat+1 by simp only [X.size];omega,htk,show i.toNat=by'+y.size by omega,gy1,hpy,X.row,eby]
    simp only [List.append_assoc]
    congr 5<;>omega
   ·have hp:partsOf op=3:=by unfold partsOf;rw [if_neg h4,if_neg h6,if_neg h21]
    obtain rfl:op=22:=by omega
    rw [hp] at h2 h1 h0
    obtain ⟨hh,_⟩ | ⟨_,rfl,hr2,rfl⟩:=begStep_inv h2
    ·exact absurd hh (by decide)
    obtain ⟨z,bz,ok2,at2,e2,s2⟩:=begR_tree l f _ hr2
    rw [e2] at h1
    obtain ⟨hh,_⟩ | ⟨_,rfl,hr1,rfl⟩:=begStep_inv h1
    ·exact absurd hh (by decide)
    obtain ⟨y,by',ok1,at1,e1,s1⟩:=begR_tree l f _ hr1
    rw [e1] at h0
    obtain ⟨hh,_⟩ | ⟨_,rfl,hr0,rfl⟩:=begStep_inv h0
    ·exact absurd hh (by decide)
    obtain ⟨x,bx,ok0,at0,e0,s0⟩:=begR_tree l f _ hr0
    obtain ⟨prez,gz1,gz2⟩:=at2.glue
    obtain ⟨prey,gy1,gy2⟩:=at1.glue
    obtain ⟨prex,gx1,gx2⟩:=at0.glue
    have eby:by'=bx+x.size:=by omega
    have ebz:bz=bx+x.size+y.size:=by omega
    have hpy:prey=prex++x.row bx:=by
     have:(l.take (by'+y.size)).take by'=prey:=by rw [gy1,List.take_left' gy2]
     rw [← this,List.take_take,Nat.min_eq_left (by omega),eby,gx1]
    have hpz:prez=prey++y.row by':=by
     have:(l.take (bz+z.size)).take bz=prez:=by rw [gz1,List.take_left' gz2]
     rw [← this,List.take_take,Nat.min_eq_left (by omega),show bz=by'+y.size by omega,gy1]
    refine ⟨.ite x y z,bx,by unfold X.ok;rw [ok2,ok1,ok0];rfl,At.of_take (pre:=prex) ?_ gx2,by omega,by simp only [X.size];omega⟩
    rw [show bx+(X.ite x y z).size=i.toNat+1 by simp only [X.size];omega,htk,show i.toNat=bz+z.size by omega,gz1,hpz,hpy,X.row,ebz,eby]
    simp only [List.append_assoc]
    congr 6<;>omega
def rightR (l:List XN):Bool:=begR l l.length ((l.length:Int)-1)==0
theorem At.whole (x:X):At (x.row 0) x 0:=⟨[],[],by simp,rfl⟩
theorem right_tree {l:List XN}:rightR l=true ↔ ∃ x:X,x.ok=true∧l=x.row 0:=by
 unfold rightR
 rw [beq_iff_eq]
 constructor
 ·intro h
  obtain ⟨x,b,h1,h2,h3,h4⟩:=begR_tree l l.length ((l.length:Int)-1) (by omega)
  obtain rfl:b=0:=by omega
  obtain ⟨pre,post,rfl,hb⟩:=h2
  obtain rfl:=List.length_eq_zero_iff.1 hb
  have hl:post.length=0:=by
   simp only [List.nil_append,List.length_append,X.row_len] at h4
   omega
  obtain rfl:=List.length_eq_zero_iff.1 hl
  exact ⟨x,h1,by simp⟩
 ·rintro ⟨x,hx,rfl⟩
  have:=begR_at x (x.row 0) 0 (x.row 0).length hx (At.whole x) (by rw [X.row_len];exact Nat.le_refl _)
  rw [X.row_len] at this ⊢
  simpa using this
theorem right_depth (l:List XN):rightR l=decide (depthP l≠0):=by
 rw [Bool.eq_iff_iff,right_tree,decide_eq_true_iff]
 constructor
 ·rintro ⟨x,hx,rfl⟩
  rw [depth_row hx]
  have:=x.depth_pos
  omega
 ·exact depth_none
end Go.Hs
end

section
namespace Go.Hs
open PutLaw
def parW (b:Bool) (ts:List (List UInt8)):List (List UInt8):=if b then [40]::(ts++[[41]]) else ts
def X.W:X→Int→List (List UInt8)
 | .leaf op num name,_=>[if op=1 then putR num else if op=2 then name else sgT op.toNat]
 | .un op a,k=>parW (9<k) (sgT op.toNat::a.W 9)
 | .bin op a b,k=>parW (lvl op.toNat<k) (a.W (lvl op.toNat)++sgT op.toNat::b.W (lvl op.toNat+1))
 | .ite a b c,_=>wIf::(a.W 0++wThen::(b.W 0++wElse::(c.W 0++[wEndif])))
def X.fit:X→Prop
 | .leaf _ num _=>num≤9223372036854775807
 | .un _ a=>a.fit
 | .bin _ a b=>a.fit∧b.fit
 | .ite a b c=>a.fit∧b.fit∧c.fit
theorem fit_of:∀ (x:X) (k:Int),(∀ n∈x.row k,n.num≤9223372036854775807)→x.fit
 | .leaf op num name,k,h=>h ⟨op,num,name,-1,-1,-1⟩ (by simp [X.row])
 | .un op a,k,h=>fit_of a k fun n hn=>h n (by simp [X.row,hn])
 | .bin op a b,k,h=>⟨fit_of a k fun n hn=>h n (by simp [X.row,hn]),fit_of b (k+a.size) fun n hn=>h n (by simp [X.row,hn])⟩
 | .ite a b c,k,h=>⟨fit_of a k fun n hn=>h n (by simp [X.row,hn]),fit_of b (k+a.size) fun n hn=>h n (by simp [X.row,hn]),fit_of c (k+a.size+b.size) fun n hn=>h n (by simp [X.row,hn])⟩
theorem put_digits {n:Int} (h0:0≤n) (h1:n≤9223372036854775807):(putR n).all isDig=true∧putR n≠[]∧(putR n).length≤19∧trim0 (putR n)=putR n:=by
 rw [putR_dg]
 by_cases hz:n=0
 ·subst hz;decide +kernel
 rw [if_neg hz,if_neg (by omega)]
 have hp:0<n.natAbs:=by omega
 have hd:=dig_dg n.natAbs
 obtain ⟨q1,q2,q3⟩:=head_ne hp
 refine ⟨all_chars hd,q3,?_,?_⟩
 ·have:=dg_len (n:=n.natAbs) (k:=19) (by omega)
  have hl:(chars (dg n.natAbs)).length=(dg n.natAbs).length:=by simp [chars]
  omega
 ·unfold trim0
  have:(chars (dg n.natAbs)).dropWhile (· == 48)=chars (dg n.natAbs):=by
   cases hc:chars (dg n.natAbs) with
   | nil=>rfl
   | cons c r =>
    rw [hc] at q1
    have:(c==48)=false:=by rw [beq_eq_false_iff_ne];intro q;exact q1 (by rw [q];rfl)
    rw [List.dropWhile_cons,this];rfl
  rw [this,if_neg q3]
theorem isP_digits {t:List UInt8} (h:t.all isDig=true) (hne:t≠[]) (hl:t.length≤64):isP t=1:=by
 rw [isP_whole,if_neg (by omega)]
 cases t with
 | nil=>exact absurd rfl hne
 | cons c r =>
  rw [List.all_cons,Bool.and_eq_true] at h
  rw [whole_dg h.1,if_pos (by rw [List.all_cons,h.1,h.2];rfl)]
theorem lvl_of {op:Int} (h:7≤op∧op≤21):1≤lvl op.toNat∧lvl op.toNat≤8∧ofI (sgT op.toNat) 2=some op.toNat∧isP (sgT op.toNat)≠0:=lvl_rng _ (by omega) (by omega)
theorem Gr.parW {n:Int} {ts:List (List UInt8)} {x:X} {b:Bool} (h:Gr (if b then 1 else n) ts x):Gr n (parW b ts) x:=by
 cases b
 ·exact h
 ·exact .par h
theorem leaf_cases {op num:Int} {name:List UInt8} (h:(X.leaf op num name).ok=true):(op=1∧0≤num∧name=[])∨(op=2∧num=0∧isP name=2)∨(op=3∧num=0∧name=[])∨(op=4∧num=0∧name=[]):=by
 simp only [X.ok,Bool.and_eq_true,decide_eq_true_eq] at h
 obtain ⟨h1,h2⟩:=h
 unfold wellP at h1
 split at h1
 ·cases h1
 rename_i h0
 simp only [not_or,Int.not_lt] at h0
 split at h1
 ·simp only [Bool.and_eq_true,beq_iff_eq] at h1
  rename_i q
  exact .inr (.inl ⟨q,h1⟩)
 ·rename_i q
  simp only [Bool.and_eq_true,beq_iff_eq,Bool.or_eq_true] at h1 q h0
  rcases h1.2 with q1 | q1
  ·exact .inl ⟨q1,h0.2.2,h1.1⟩
  ·by_cases o1:op=1
   ·exact .inl ⟨o1,h0.2.2,h1.1⟩
   ·by_cases o3:op=3
    ·exact .inr (.inr (.inl ⟨o3,q1,h1.1⟩))
    ·exact .inr (.inr (.inr ⟨by omega,q1,h1.1⟩))
theorem W_gr:∀ (x:X),x.ok=true→x.fit→∀ k:Int,k≤9→Gr (max k 1) (x.W k) x
 | .leaf op num name,h,hf,k,hk=>by
  rcases leaf_cases h with ⟨rfl,h1,rfl⟩ | ⟨rfl,rfl,h1⟩ | ⟨rfl,rfl,rfl⟩ | ⟨rfl,rfl,rfl⟩
  ·obtain ⟨p1,p2,p3,p4⟩:=put_digits h1 hf
   simp only [X.W,if_pos]
   exact .num (isP_digits p1 p2 (by omega)) (by rw [p4];exact parse_put ⟨by omega,hf⟩)
  ·simp only [X.W]
   exact .name h1
  ·exact .tr
  ·exact .fa
 | .un op a,h,hf,k,hk=>by
  simp only [X.ok,Bool.and_eq_true,decide_eq_true_eq] at h
  have ih:=W_gr a h.2 hf 9 (Int.le_refl _)
  have:op=5∨op=6:=by omega
  have hb:decide (9<k)=false:=by rw [decide_eq_false_iff_not];omega
  rw [X.W,hb]
  rcases this with rfl | rfl
  ·exact .neg (by omega) ih
  ·exact .not (by omega) ih
 | .bin op a b,h,hf,k,hk=>by
  simp only [X.ok,Bool.and_eq_true,decide_eq_true_eq] at h
  obtain ⟨l1,l2,_,_⟩:=lvl_of ⟨h.1.1.1,h.1.1.2⟩
  have ha:=W_gr a h.1.2 hf.1 (lvl op.toNat) (by omega)
  have hb:=W_gr b h.2 hf.2 (lvl op.toNat+1) (by omega)
  rw [Int.max_eq_left (by omega)] at ha hb
  have ho:((op.toNat:Nat):Int)=op:=by omega
  rw [X.W]
  refine Gr.parW ?_
  have:=Gr.bin (n:=lvl op.toNat) (op:=op.toNat) (by omega) (by omega) (Int.le_refl _) ha hb
  rw [ho] at this
  refine this.mono ?_
  by_cases q:lvl op.toNat<k
  ·rw [decide_eq_true q];exact l1
  ·rw [decide_eq_false q];simp only [Bool.false_eq_true,if_false];omega
 | .ite a b c,h,hf,k,hk=>by
  simp only [X.ok,Bool.and_eq_true] at h
  exact .ite (W_gr a h.1.1 hf.1 0 (by decide)) (W_gr b h.1.2 hf.2.1 0 (by decide)) (W_gr c h.2 hf.2.2 0 (by decide))
def cntP (ts:List (List UInt8)):Nat:=ts.count [40]
theorem cntP_app (a b:List (List UInt8)):cntP (a++b)=cntP a+cntP b:=List.count_append
theorem cntP_cons (w:List UInt8) (b:List (List UInt8)):cntP (w::b)=cntP b+if w=[40] then 1 else 0:=by
 unfold cntP
 rw [List.count_cons]
 by_cases h:w=[40]<;>simp [h]
theorem cntP_nil:cntP []=0:=rfl
theorem cntP_par (b:Bool) (ts:List (List UInt8)):cntP (parW b ts)=cntP ts+if b then 1 else 0:=by
 cases b
 ·rfl
 ·simp only [parW,if_true,cntP_cons,cntP_app,cntP_nil];simp
theorem sg_not:∀ op,op≤22→sgT op≠[40]:=by
 have:((List.range 23).all fun op => !(sgT op==[40]))=true:=by decide +kernel
 intro op h
 have:=List.all_eq_true.1 this op (List.mem_range.2 (by omega))
 simpa using this
theorem W_zero:∀ (x:X) (k:Int),cntP (x.W k)≤cntP (x.W 0)+1
 | .leaf ..,k=>by simp only [X.W];omega
 | .un op a,k=>by
  simp only [X.W,cntP_par]
  split<;>omega
 | .bin op a b,k=>by
  simp only [X.W,cntP_par]
  split<;>omega
 | .ite ..,k=>by simp only [X.W];omega
theorem W_one:∀ (x:X),x.ok=true→cntP (x.W 1)=cntP (x.W 0)
 | .leaf ..,_=>rfl
 | .un op a,_=>rfl
 | .bin op a b,h=>by
  simp only [X.ok,Bool.and_eq_true,decide_eq_true_eq] at h
  obtain ⟨l1,_⟩:=lvl_of ⟨h.1.1.1,h.1.1.2⟩
  simp only [X.W,cntP_par]
  rw [decide_eq_false (by omega),decide_eq_false (by omega)]
 | .ite ..,_=>rfl
theorem Gr.least {n:Int} {ts:List (List UInt8)} {x:X} (h:Gr n ts x):∀ k,k≤n→k≤9→cntP (x.W k)≤cntP ts:=by
 induction h with
 | @num n t v h1 h2 =>
  intro k _ _
  have hput:putR v=trim0 t:=by
   have:=put_parse (s:=trim0 t) (by rw [h2])
   rw [h2] at this;exact this
  have hd:=(isP_dig h1).2
  have:trim0 t≠[40]:=by
   intro q
   unfold trim0 at q
   split at q
   ·cases q
   ·have hm:(40:UInt8)∈t:=(List.dropWhile_sublist _).mem (by rw [q];simp)
    have:=List.all_eq_true.1 hd _ hm
    revert this;decide
  simp only [X.W,if_pos,hput,cntP_cons,if_neg this,cntP_nil]
  omega
 | @name n t h1=>intro k _ _;exact Nat.le_refl _
 | tr=>intro k _ _;exact Nat.le_refl _
 | fa=>intro k _ _;exact Nat.le_refl _
 | @neg n ts a h1 h2 ih =>
  intro k hk _
  have hb:decide (9<k)=false:=by rw [decide_eq_false_iff_not];omega
  have:=ih 9 (Int.le_refl _) (Int.le_refl _)
  have e:((5:Int).toNat)=5:=rfl
  simp only [X.W,hb,cntP_par,e,Bool.false_eq_true,if_false,cntP_cons,if_neg (sg_not 5 (by decide))]
  omega
 | @not n ts a h1 h2 ih =>
  intro k hk _
  have hb:decide (9<k)=false:=by rw [decide_eq_false_iff_not];omega
  have:=ih 9 (Int.le_refl _) (Int.le_refl _)
  have e:((6:Int).toNat)=6:=rfl
  simp only [X.W,hb,cntP_par,e,Bool.false_eq_true,if_false,cntP_cons,if_neg (sg_not 6 (by decide))]
  omega
 | @par n ts a h1 ih =>
  intro k _ _
  have h2:=W_zero a k
  have h3:=ih 1 (Int.le_refl _) (by decide)
  rw [W_one a h1.ok] at h3
  simp only [cntP_cons,cntP_app,if_pos]
  omega
 | @bin n op ta tb a b h1 h2 h3 h4 h5 iha ihb =>
  intro k hk _
  obtain ⟨l1,l2,_,_⟩:=lvl_rng op h1 h2
  have e:((op:Int).toNat)=op:=by omega
  have qa:=iha (lvl op) (Int.le_refl _) (by omega)
  have qb:=ihb (lvl op+1) (Int.le_refl _) (by omega)
  simp only [X.W,e,cntP_par,cntP_app,cntP_cons,if_neg (sg_not op (by omega))]
  rw [decide_eq_false (by omega)]
  simp only [Bool.false_eq_true,if_false]
  omega
 | @ite n ta tb tc a b c h1 h2 h3 iha ihb ihc =>
  intro k _ _
  have qa:=iha 0 (by decide) (by decide)
  have qb:=ihb 0 (by decide) (by decide)
  have qc:=ihc 0 (by decide) (by decide)
  simp only [X.W,cntP_app,cntP_cons]
  omega
def joinW:List (List UInt8)→List UInt8
 | []=>[]
 | [w]=>w
 | w::r=>w++32::joinW r
theorem joinW_spc:∀ ws:List (List UInt8),Spc (joinW ws) ws
 | [] => .nil 0
 | [w]=>by
  have:=Spc.cons 0 (w:=w) (Spc.nil 0) (.inl rfl)
  simpa [joinW] using this
 | w::v::r=>by
  have:=Spc.cons 0 (w:=w) ((joinW_spc (v::r)).pad 1) ((joinW_spc (v::r)).stp (by decide))
  simpa [joinW] using this
theorem words_ok:∀ (x:X),x.ok=true→x.fit→∀ k:Int,∀ w∈x.W k,isP w≠0
 | .leaf op num name,h,hf,k=>by
  intro w hw
  simp only [X.W,List.mem_singleton] at hw
  subst hw
  rcases leaf_cases h with ⟨rfl,h1,rfl⟩ | ⟨rfl,rfl,h1⟩ | ⟨rfl,rfl,rfl⟩ | ⟨rfl,rfl,rfl⟩
  ·obtain ⟨p1,p2,p3,p4⟩:=put_digits h1 hf
   rw [if_pos rfl,isP_digits p1 p2 (by omega)];decide
  ·rw [if_neg (by decide),if_pos rfl,h1];decide
  ·decide +kernel
  ·decide +kernel
 | .un op a,h,hf,k=>by
  simp only [X.ok,Bool.and_eq_true,decide_eq_true_eq] at h
  have ih:=words_ok a h.2 hf 9
  have ho:isP (sgT op.toNat)≠0:=by
   have:op=5∨op=6:=by omega
   rcases this with rfl | rfl<;>decide +kernel
  intro w hw
  rw [X.W] at hw
  unfold parW at hw
  split at hw
  ·simp only [List.mem_cons,List.mem_append,List.not_mem_nil,or_false] at hw
   rcases hw with rfl | (rfl | hw) | rfl
   ·decide +kernel
   ·exact ho
   ·exact ih w hw
   ·decide +kernel
  ·simp only [List.mem_cons] at hw
   rcases hw with rfl | hw
   ·exact ho
   ·exact ih w hw
 | .bin op a b,h,hf,k=>by
  simp only [X.ok,Bool.and_eq_true,decide_eq_true_eq] at h
  have ih1:=words_ok a h.1.2 hf.1 (lvl op.toNat)
  have ih2:=words_ok b h.2 hf.2 (lvl op.toNat+1)
  have ho:=(lvl_of ⟨h.1.1.1,h.1.1.2⟩).2.2.2
  intro w hw
  rw [X.W] at hw
  unfold parW at hw
  split at hw
  ·simp only [List.mem_cons,List.mem_append,List.not_mem_nil,or_false] at hw
   rcases hw with rfl | (hw | rfl | hw) | rfl
   ·decide +kernel
   ·exact ih1 w hw
   ·exact ho
   ·exact ih2 w hw
   ·decide +kernel
  ·simp only [List.mem_cons,List.mem_append] at hw
   rcases hw with hw | rfl | hw
   ·exact ih1 w hw
   ·exact ho
   ·exact ih2 w hw
 | .ite a b c,h,hf,k=>by
  simp only [X.ok,Bool.and_eq_true] at h
  have ih1:=words_ok a h.1.1 hf.1 0
  have ih2:=words_ok b h.1.2 hf.2.1 0
  have ih3:=words_ok c h.2 hf.2.2 0
  intro w hw
  simp only [X.W,List.mem_cons,List.mem_append,List.not_mem_nil,or_false] at hw
  rcases hw with rfl | hw | rfl | hw | rfl | hw | rfl
  ·decide +kernel
  ·exact ih1 w hw
  ·decide +kernel
  ·exact ih2 w hw
  ·decide +kernel
  ·exact ih3 w hw
  ·decide +kernel
theorem row_inj:∀ (x y:X) (k:Int),x.ok=true→y.ok=true→x.row k=y.row k→x=y:=by
 have last:∀ {a b:List XN} {m n:XN},a++[m]=b++[n]→a=b∧m=n:=by
  intro a b m n h
  obtain ⟨q1,q2⟩:=List.append_inj' h rfl
  exact ⟨q1,by simpa using q2⟩
 have body:∀ (x:X) (k:Int),∃ b,x.row k=b++[x.top k]:=fun x k=>by obtain ⟨b,h,_⟩:=x.row_top k;exact ⟨b,h⟩
 have opr:∀ (x:X) (k:Int),x.ok=true→match x with
   | .leaf op _ _=>1≤op∧op≤4
   | .un op _=>5≤op∧op≤6
   | .bin op _ _=>7≤op∧op≤21
   | .ite .. => True:=by
  intro x k h
  cases x with
  | leaf op num name=>rcases leaf_cases h with ⟨h,_⟩ | ⟨h,_⟩ | ⟨h,_⟩ | ⟨h,_⟩<;>(show 1≤op∧op≤4;omega)
  | un op a=>simp only [X.ok,Bool.and_eq_true,decide_eq_true_eq] at h;exact h.1
  | bin op a b=>simp only [X.ok,Bool.and_eq_true,decide_eq_true_eq] at h;exact h.1.1
  | ite=>trivial
 intro x
 induction x with
 | leaf op num name =>
  intro y k hx hy h
  have o1:=opr _ k hx
  have o2:=opr y k hy
  obtain ⟨b,hb⟩:=body y k
  rw [hb] at h
  obtain ⟨_,ht⟩:=last (a:=[]) h
  cases y with
  | leaf op' num' name'=>simp only [X.top,XN.mk.injEq] at ht;obtain ⟨rfl,rfl,rfl,_⟩:=ht;rfl
  | un op' a'=>simp only [X.top,XN.mk.injEq] at ht o1 o2;omega
  | bin op' a' b'=>simp only [X.top,XN.mk.injEq] at ht o1 o2;omega
  | ite a' b' c'=>simp only [X.top,XN.mk.injEq] at ht o1 o2;omega
 | un op a iha =>
  intro y k hx hy h
  have o1:=opr _ k hx
  have o2:=opr y k hy
  cases y with
  | leaf op' num' name' =>
   have ht:=(last (b:=[]) h).2
   simp only [XN.mk.injEq] at ht o1 o2;omega
  | un op' a' =>
   obtain ⟨hr,ht⟩:=last h
   simp only [XN.mk.injEq] at ht
   simp only [X.ok,Bool.and_eq_true] at hx hy
   rw [iha a' k hx.2 hy.2 hr,ht.1]
  | bin op' a' b' =>
   have ht:=(last h).2
   simp only [XN.mk.injEq] at ht o1 o2;omega
  | ite a' b' c' =>
   have ht:=(last h).2
   simp only [XN.mk.injEq] at ht o1 o2;omega
 | bin op a b iha ihb =>
  intro y k hx hy h
  have o1:=opr _ k hx
  have o2:=opr y k hy
  cases y with
  | leaf op' num' name' =>
   have ht:=(last (b:=[]) h).2
   simp only [XN.mk.injEq] at ht o1 o2;omega
  | un op' a' =>
   have ht:=(last h).2
   simp only [XN.mk.injEq] at ht o1 o2;omega
  | bin op' a' b' =>
   obtain ⟨hr,ht⟩:=last h
   simp only [XN.mk.injEq] at ht
   simp only [X.ok,Bool.and_eq_true] at hx hy
   have hs:a.size=a'.size:=by omega
   obtain ⟨q1,q2⟩:=List.append_inj hr (by rw [X.row_len,X.row_len];exact hs)
   rw [← hs] at q2
   rw [iha a' k hx.1.2 hy.1.2 q1,ihb b' _ hx.2 hy.2 q2,ht.1]
  | ite a' b' c' =>
   have ht:=(last h).2
   simp only [XN.mk.injEq] at ht o1 o2;omega
 | ite a b c iha ihb ihc =>
  intro y k hx hy h
  have o2:=opr y k hy
  cases y with
  | leaf op' num' name' =>
   have ht:=(last (b:=[]) h).2
   simp only [XN.mk.injEq] at ht o2;omega
  | un op' a' =>
   have ht:=(last h).2
   simp only [XN.mk.injEq] at ht o2;omega
  | bin op' a' b' =>
   have ht:=(last h).2
   simp only [XN.mk.injEq] at ht o2;omega
  | ite a' b' c' =>
   obtain ⟨hr,ht⟩:=last h
   simp only [XN.mk.injEq] at ht
   simp only [X.ok,Bool.and_eq_true] at hx hy
   have hs:a.size=a'.size:=by omega
   have hs2:b.size=b'.size:=by omega
   obtain ⟨q1,q2⟩:=List.append_inj hr (by rw [List.length_append,List.length_append,X.row_len,X.row_len,X.row_len,X.row_len];omega)
   obtain ⟨q3,q4⟩:=List.append_inj q1 (by rw [X.row_len,X.row_len];exact hs)
   rw [← hs] at q4 q2
   rw [← hs2] at q2
   rw [iha a' k hx.1.1 hy.1.1 q3,ihb b' _ hx.1.2 hy.1.2 q4,ihc c' _ hx.2 hy.2 q2]
end Go.Hs
end

section
namespace Go.Hs
open Go.Proofs
set_option maxRecDepth 10000
theorem Fz.rowL {F:Nat→Bool} {H:Heap} {o g fz n:Nat} {c:Col} {cs ls:List V} (hF:F o=true) (hH:H o = .cells c g fz cs) (hn:cs.length=n) (hfl:flat ls=ls) (h1:∀ v∈ls,v.cells.length=1) (h:FzL F H cs ls):Fz F H (.msl o g 0 n 1) (.slice c false 1 ls):=by
 obtain ⟨hl,hr⟩:=h.get
 refine Cv.msl (col:=id) o g 0 n 1 c fz cs ls hF hH (by omega) h1 (by omega) fun i k1 k2=>?_
 have e:(flat ls)[i]=ls[i]'(by rw [hfl] at k2;exact k2):=by simp only [hfl]
 rw [e]
 have:=hr i (by omega) (by rw [hfl] at k2;exact k2)
 simp only [Nat.zero_add]
 exact this
theorem flat_encs (c:Col) (l:List (Sl (List UInt8))):flat (l.map fun t=>encSl c 1 V.str t)=l.map fun t=>encSl c 1 V.str t:=by
 induction l with
 | nil=>rfl
 | cons x r ih=>unfold flat at ih ⊢;rw [List.map_cons,List.flatMap_cons,ih,cells_enc];rfl
theorem recol_encSS (g:Col→Col) (c c1:Col) (s:Sl (Sl (List UInt8))):(encSS c c1 s).recol g=encSS (g c) (g c1) s :=
 recol_enc g c 1 (fun t=>recol_enc g c1 1 (fun _=>rfl) t) s
theorem tabC_part (op:Nat) (h:op<23):partC true 3 tabC (op * 3)=some (encSg (tabL.getD op ⟨[],0,0⟩)):=by
 have hl:tabC.length=69:=tabC_len
 have e0:=tabC_get op h 0 (by decide)
 have e1:=tabC_get op h 1 (by decide)
 have e2:=tabC_get op h 2 (by decide)
 have:(tabC.drop (op * 3)).take 3=(encSg (tabL.getD op ⟨[],0,0⟩)).cells:=by
  refine List.ext_getElem? fun i=>?_
  rw [List.getElem?_take]
  by_cases hi:i<3
  ·rw [if_pos hi,List.getElem?_drop]
   match i,hi with
   | 0,_=>exact e0
   | 1,_=>exact e1
   | 2,_=>exact e2
  ·rw [if_neg hi]
   exact (List.getElem?_eq_none (by rw [encSg_cells];omega)).symm
 unfold partC
 rw [this]
 simp [hl,encSg_K,V.cells]
 omega
theorem tab_parts (op:Nat) (h:op<23) (h0:1≤op):(tabL.getD op ⟨[],0,0⟩).parts=(partsOf op:Nat)∧(tabL.getD op ⟨[],0,0⟩).level=lvl op∧(tabL.getD op ⟨[],0,0⟩).text=sgT op:=by
 have:((List.range 23).all fun op=>decide (op=0∨(tabL.getD op ⟨[],0,0⟩).parts=(partsOf op:Nat)))=true:=by decide +kernel
 have:=List.all_eq_true.1 this op (List.mem_range.2 h)
 simp only [decide_eq_true_eq] at this
 exact ⟨this.resolve_left (by omega),rfl,rfl⟩
def X.body:X→List (List UInt8)
 | .leaf op num name=>[if op=1 then putR num else if op=2 then name else sgT op.toNat]
 | .un op a=>sgT op.toNat::a.W 9
 | .bin op a b=>a.W (lvl op.toNat)++sgT op.toNat::b.W (lvl op.toNat+1)
 | .ite a b c=>wIf::(a.W 0++wThen::(b.W 0++wElse::(c.W 0++[wEndif])))
theorem lvl_leaf {op:Int} (h:op=1∨op=2∨op=3∨op=4):lvl op.toNat=10:=by
 rcases h with rfl | rfl | rfl | rfl<;>rfl
theorem W_body {x:X} (h:x.ok=true) {k:Int} (hk:k≤9) (b:Int):x.W k=parW (decide (lvl (x.top b).op.toNat<k)) x.body:=by
 cases x with
 | leaf op num name =>
  have:op=1∨op=2∨op=3∨op=4:=by rcases leaf_cases h with ⟨h,_⟩ | ⟨h,_⟩ | ⟨h,_⟩ | ⟨h,_⟩<;>omega
  have hl:=lvl_leaf this
  rw [decide_eq_false (by show ¬ lvl op.toNat<k;omega)];rfl
 | un op a =>
  simp only [X.ok,Bool.and_eq_true,decide_eq_true_eq] at h
  have:lvl op.toNat=9:=by
   have:op=5∨op=6:=by omega
   rcases this with rfl | rfl<;>rfl
  show parW (decide (9<k)) _=parW (decide (lvl op.toNat<k)) _
  rw [this];rfl
 | bin op a b=>rfl
 | ite a b c =>
  have:lvl 22=10:=rfl
  rw [decide_eq_false (by show ¬ lvl (22:Int).toNat<k;show ¬ lvl 22<k;omega)];rfl
theorem top_op {x:X} (h:x.ok=true) (b:Int):1≤(x.top b).op∧(x.top b).op≤22:=by
 cases x with
 | leaf op num name=>rcases leaf_cases h with ⟨h,_⟩ | ⟨h,_⟩ | ⟨h,_⟩ | ⟨h,_⟩<;>(show 1≤op∧op≤22;omega)
 | un op a=>simp only [X.ok,Bool.and_eq_true,decide_eq_true_eq] at h;show 1≤op∧op≤22;omega
 | bin op a b=>simp only [X.ok,Bool.and_eq_true,decide_eq_true_eq] at h;show 1≤op∧op≤22;omega
 | ite=>show (1:Int)≤22∧(22:Int)≤22;omega
end Go.Hs
end

section
namespace Go.Hs
def fromP (l:List Tk):List XN × Int × Int:=if (climbP l (l.length+1) 1 ⟨0,[],0⟩).1=false then ([],(climbP l (l.length+1) 1 ⟨0,[],0⟩).2.i,(climbP l (l.length+1) 1 ⟨0,[],0⟩).2.e)
 else if depthP (climbP l (l.length+1) 1 ⟨0,[],0⟩).2.nodes > 64 then ([],0,3) else ((climbP l (l.length+1) 1 ⟨0,[],0⟩).2.nodes,(climbP l (l.length+1) 1 ⟨0,[],0⟩).2.i,0)
def exprP (s:List UInt8):List XN × Int × Int :=
 if (toksP s).2.2≠0 then ([],(toksP s).2.1,(toksP s).2.2)
 else if (fromP (toksP s).1).2.2=3 then ([],0,3)
 else if (fromP (toksP s).1).2.2=0∧(fromP (toksP s).1).2.1=((toksP s).1.length:Nat) then ((fromP (toksP s).1).1,0,0)
 else ([],if (fromP (toksP s).1).2.1=((toksP s).1.length:Nat) then (s.length:Int) else ((toksP s).1.getD (fromP (toksP s).1).2.1.toNat ⟨0,[],0⟩).pos,if (fromP (toksP s).1).2.2=0 then 80 else (fromP (toksP s).1).2.2)
theorem fromP_bnd {l:List Tk}:0≤(fromP l).2.1∧(fromP l).2.1≤(l.length:Nat):=by
 have hok:=((climbP_bal l (l.length+1) 1 ⟨0,[],0⟩).ok ⟨Nat.zero_le _,Nat.le_refl _⟩).1
 unfold fromP
 split
 ·exact ⟨Int.natCast_nonneg _,Int.ofNat_le.2 hok⟩
 ·split
  ·exact ⟨Int.le_refl _,Int.natCast_nonneg _⟩
  ·exact ⟨Int.natCast_nonneg _,Int.ofNat_le.2 hok⟩
end Go.Hs
end

section
namespace Go.Hs
open PutLaw
theorem climb_whole {l:List Tk} {x:X} (h:Gr 1 (l.map wdOf) x):climbP l (l.length+1) 1 ⟨0,[],0⟩=(true,⟨l.length,x.row 0,0⟩):=by
 have hl:(l.map wdOf).length=l.length:=List.length_map _
 have hend:Ends l 1 l.length:=by
  intro op ho
  have:=opAt_lt ho
  omega
 have hs:Seg l 0 (l.map wdOf):=⟨[],[],by simp,rfl⟩
 rw [climbP,h.climb 1 l.length (l.length+1) ⟨0,[],0⟩ hs (Int.le_refl _) (by decide) (Nat.le_refl _) (by show _<l.length+1+0;omega) (fun op ho=>by
  have ho:opAt l (0+(l.map wdOf).length)=some op:=ho
  rw [hl,Nat.zero_add] at ho
  have:=opAt_lt ho
  omega)]
 rw [loop_stop (by show Ends l 1 (0+(l.map wdOf).length);rw [hl,Nat.zero_add];exact hend)]
 show (true,RS.mk _ _ _)=_
 rw [hl,Nat.zero_add];rfl
theorem from_whole {l:List Tk} {x:X} (h:Gr 1 (l.map wdOf) x) (hd:x.depth≤64):fromP l=(x.row 0,(l.length:Int),0):=by
 unfold fromP
 rw [climb_whole h,depth_row h.ok]
 simp only [Bool.true_eq_false,if_false]
 rw [if_neg (by omega)]
def ErrS (x:Bool × RS):Prop:=x.1=false→x.2.e≠0
theorem ErrS.then {x:Bool × RS} {k:RS→Bool × RS} (h1:ErrS x) (h2:x.1=true→ErrS (k x.2)):ErrS (andThen x k):=by
 obtain ⟨b,r⟩:=x
 cases b
 ·exact h1
 ·exact h2 rfl
theorem ErrS.ok {x:RS}:ErrS (true,x):=fun h=>by cases h
theorem eat_err (l:List Tk) (w:List UInt8) (r:RS):ErrS (eatP l w r):=by
 unfold eatP
 split
 ·intro _;show (80:Int)≠0;decide
 ·exact .ok
theorem climb_err {l:List Tk}:∀ (f:Nat) (n:Int) (r:RS),l.length<f+r.i→r.i≤l.length→ErrS (climbP l f n r)
 | 0,n,r,h,h2=>by omega
 | f+1,n,r,h,h2=>by
  have hin:∀ n (r':RS),r.i<r'.i→r'.i≤l.length→ErrS (climbP l f n r'):=fun n r' a b=>climb_err f n r' (by omega) b
  have hbs:=climbP_bal l f
  rw [climbP]
  refine ErrS.then ?_ fun _=>?_
  ·have hkl:(nextP l r.i).kind≠0→r.i+1≤l.length:=fun q=>nextP_lt q
   unfold aheadP
   split
   ·unfold numberP
    split
    ·rename_i q;intro _;exact q
    ·exact .ok
   split
   ·exact .ok
   split
   ·intro _;show (80:Int)≠0;decide
   rename_i k0
   have hlt:=hkl k0
   split
   ·exact ErrS.then (hin 9 r.adv (Nat.lt_succ_self _) hlt) fun _ => .ok
   split
   ·exact ErrS.then (hin 1 r.adv (Nat.lt_succ_self _) hlt) fun _=>eat_err _ _ _
   split
   ·unfold branchesP
    have b0:=eatP_bal l wIf r
    refine ErrS.then (eat_err _ _ _) fun q1=>?_
    have m1:=b0.2 q1
    have u1:r.i+1≤(eatP l wIf r).2.i:=by
     unfold eatP at q1 ⊢
     split at q1
     ·cases q1
     ·rename_i qq;rw [if_neg qq];exact Nat.le_refl _
    have i1:=m1.inn h2
    generalize (eatP l wIf r).2=r1 at u1 i1 ⊢
    have b1:=hbs 1 r1
    refine ErrS.then (hin 1 r1 u1 i1) fun _=>?_
    have u2:=b1.up
    have i2:=b1.inn i1
    generalize (climbP l f 1 r1).2=a at u2 i2 ⊢
    have b2:=(eatP_bal l wThen a).1
    refine ErrS.then (eat_err _ _ _) fun _=>?_
    have u3:=b2.up
    have i3:=b2.inn i2
    generalize (eatP l wThen a).2=r2 at u3 i3 ⊢
    have b3:=hbs 1 r2
    refine ErrS.then (hin 1 r2 (by omega) i3) fun _=>?_
    have u4:=b3.up
    have i4:=b3.inn i3
    generalize (climbP l f 1 r2).2=b at u4 i4 ⊢
    have b4:=(eatP_bal l wElse b).1
    refine ErrS.then (eat_err _ _ _) fun _=>?_
    have u5:=b4.up
    have i5:=b4.inn i4
    generalize (eatP l wElse b).2=r3 at u5 i5 ⊢
    refine ErrS.then (hin 1 r3 (by omega) i5) fun _=>?_
    exact ErrS.then (eat_err _ _ _) fun _ => .ok
   split
   ·exact .ok
   ·intro _;show (80:Int)≠0;decide
  ·have hb:=aheadP_bal hbs r
   have u0:=hb.up
   have i0:=hb.inn h2
   generalize (aheadP l (climbP l f) r).2=q at u0 i0 ⊢
   have key:∀ (m:Nat) (q:RS),r.i≤q.i→q.i≤l.length→ErrS (loopP l (climbP l f) n m q):=by
    intro m
    induction m with
    | zero=>intro q _ _;exact .ok
    | succ m ih =>
     intro q hq hl
     rw [loopP]
     split
     ·exact .ok
     ·rename_i op ho
      split
      ·exact .ok
      ·have hb:=hbs (lvl op+1) q.adv
       have hlt:=opAt_lt ho
       refine ErrS.then (hin _ q.adv (by show r.i<q.i+1;omega) hlt) fun _=>?_
       refine ih _ ?_ ?_
       ·have:=hb.up
        show r.i≤_
        have h3:q.i+1≤_:=this
        simp only [RS.put_i];omega
       ·simp only [RS.put_i];exact hb.inn hlt
   exact key _ q u0 i0
theorem expr_whole {s:List UInt8} {l:List Tk} {x:X} (hl:toksP s=(l,0,0)) (h:Gr 1 (l.map wdOf) x) (hd:x.depth≤64):exprP s=(x.row 0,0,0):=by
 unfold exprP
 rw [hl,from_whole h hd]
 simp
theorem expr_inv {s:List UInt8} (h:(exprP s).2.2=0):∃ (l:List Tk) (x:X),toksP s=(l,0,0)∧Gr 1 (l.map wdOf) x∧x.depth≤64∧exprP s=(x.row 0,0,0):=by
 have hP:exprP s=if (toksP s).2.2≠0 then (([]:List XN),(toksP s).2.1,(toksP s).2.2)
  else if (fromP (toksP s).1).2.2=3 then ([],0,3)
  else if (fromP (toksP s).1).2.2=0∧(fromP (toksP s).1).2.1=((toksP s).1.length:Nat) then ((fromP (toksP s).1).1,0,0)
  else ([],if (fromP (toksP s).1).2.1=((toksP s).1.length:Nat) then (s.length:Int) else ((toksP s).1.getD (fromP (toksP s).1).2.1.toNat ⟨0,[],0⟩).pos,if (fromP (toksP s).1).2.2=0 then 80 else (fromP (toksP s).1).2.2):=rfl
 by_cases h1:(toksP s).2.2=0
 rotate_left
 ·rw [hP,if_pos h1] at h;exact absurd h h1
 rw [if_neg (by simpa using h1)] at hP
 by_cases h2:(fromP (toksP s).1).2.2=3
 ·rw [hP,if_pos h2] at h;cases h
 rw [if_neg h2] at hP
 by_cases h3:(fromP (toksP s).1).2.2=0∧(fromP (toksP s).1).2.1=((toksP s).1.length:Nat)
 rotate_left
 ·rw [hP,if_neg h3] at h
  simp only at h
  split at h
  ·cases h
  ·rename_i q;exact absurd h q
 rw [if_pos h3] at hP
 have htk:toksP s=((toksP s).1,0,0):=by
  unfold toksP at h1 ⊢
  split at h1
  ·cases h1
  ·rename_i q
   rw [if_neg q]
   have key:∀ (f i:Nat) (acc:List Tk),(toksF f s i acc).2.2=0→toksF f s i acc=((toksF f s i acc).1,0,0):=by
    intro f
    induction f with
    | zero=>intro i acc _;rfl
    | succ f ih =>
     intro i acc hh
     rw [toksF] at hh ⊢
     split
     ·rename_i q1
      rw [if_pos q1] at hh
      split
      ·rename_i q2
       rw [if_pos q2] at hh;cases hh
      ·rename_i q2
       rw [if_neg q2] at hh
       exact ih _ _ hh
     ·rfl
   exact key _ _ _ h1
 generalize (toksP s).1=l at h3 htk hP
 obtain ⟨h3,h4⟩:=h3
 have hF:fromP l=if (climbP l (l.length+1) 1 ⟨0,[],0⟩).1=false then (([]:List XN),((climbP l (l.length+1) 1 ⟨0,[],0⟩).2.i:Int),(climbP l (l.length+1) 1 ⟨0,[],0⟩).2.e)
  else if depthP (climbP l (l.length+1) 1 ⟨0,[],0⟩).2.nodes > 64 then ([],0,3) else ((climbP l (l.length+1) 1 ⟨0,[],0⟩).2.nodes,((climbP l (l.length+1) 1 ⟨0,[],0⟩).2.i:Int),(0:Int)):=rfl
 by_cases hb:(climbP l (l.length+1) 1 ⟨0,[],0⟩).1=true
 ·obtain ⟨ts,x,g,sg,e⟩:=climb_inv _ 1 ⟨0,[],0⟩ (by decide) (by decide) hb
  rw [hb] at hF
  simp only [Bool.true_eq_false,if_false] at hF
  have hok:=g.ok
  have hn:(climbP l (l.length+1) 1 ⟨0,[],0⟩).2.nodes=x.row 0:=by rw [e];simp [after]
  rw [hn,depth_row hok] at hF
  by_cases hdp:(x.depth:Int) > 64
  ·rw [if_pos hdp] at hF
   rw [hF] at h3;cases h3
  rw [if_neg hdp] at hF
  have hi:(climbP l (l.length+1) 1 ⟨0,[],0⟩).2.i=ts.length:=by rw [e];show 0+ts.length=_;omega
  rw [hi] at hF
  rw [hF] at h4
  have hlen:ts.length=l.length:=by have h4:(ts.length:Int)=l.length:=h4;omega
  obtain ⟨pre,post,e1,e2⟩:=sg
  have hp:pre=[]:=List.length_eq_zero_iff.1 e2
  have hpost:post=[]:=by
   have:=congrArg List.length e1
   rw [List.length_map,hp] at this
   simp only [List.nil_append,List.length_append] at this
   exact List.length_eq_zero_iff.1 (by omega)
  rw [hp,hpost] at e1
  have e1:l.map wdOf=ts:=by simpa using e1
  refine ⟨l,x,htk,by rw [e1];exact g,by omega,?_⟩
  rw [hP,hF]
 ·have hb:(climbP l (l.length+1) 1 ⟨0,[],0⟩).1=false:=by simpa using hb
  rw [if_pos hb] at hF
  exfalso
  have he:=climb_err (l.length+1) 1 ⟨0,[],0⟩ (by show l.length<l.length+1+0;omega) (Nat.zero_le _) hb
  rw [hF] at h3
  exact he h3
theorem joinW_len:∀ ws:List (List UInt8),(joinW ws).length≤(ws.map fun w=>w.length+1).sum
 | []=>by simp [joinW]
 | [w]=>by simp [joinW]
 | w::v::r=>by
  have:=joinW_len (v::r)
  simp only [joinW,List.length_append,List.length_cons,List.map_cons,List.sum_cons] at this ⊢
  omega
def wLen (ws:List (List UInt8)):Nat:=(ws.map fun w=>w.length+1).sum
theorem wLen_app (a b:List (List UInt8)):wLen (a++b)=wLen a+wLen b:=by simp [wLen]
theorem wLen_cons (w:List UInt8) (b:List (List UInt8)):wLen (w::b)=w.length+1+wLen b:=by simp [wLen]
theorem wLen_nil:wLen []=0:=rfl
theorem wLen_par (b:Bool) (ts:List (List UInt8)):wLen (parW b ts)≤wLen ts+4:=by
 cases b
 ·show wLen ts≤_;omega
 ·simp only [parW,if_true,wLen_cons,wLen_app,wLen_nil,List.length_cons,List.length_nil];omega
theorem sg_len:∀ op,op≤22→(sgT op).length≤7:=by
 have:((List.range 23).all fun op=>decide ((sgT op).length≤7))=true:=by decide +kernel
 intro op h
 have:=List.all_eq_true.1 this op (List.mem_range.2 (by omega))
 simpa using this
theorem W_len:∀ (x:X),x.ok=true→x.fit→∀ k:Int,wLen (x.W k)≤66 * x.size
 | .leaf op num name,h,hf,k=>by
  simp only [X.W,wLen_cons,wLen_nil,X.size]
  rcases leaf_cases h with ⟨rfl,h1,rfl⟩ | ⟨rfl,rfl,h1⟩ | ⟨rfl,rfl,rfl⟩ | ⟨rfl,rfl,rfl⟩
  ·obtain ⟨p1,p2,p3,p4⟩:=put_digits h1 hf
   rw [if_pos rfl];omega
  ·have:=(isP_first (w:=name) (by omega)).2.2
   rw [if_neg (by decide),if_pos rfl];omega
  ·decide +kernel
  ·decide +kernel
 | .un op a,h,hf,k=>by
  simp only [X.ok,Bool.and_eq_true,decide_eq_true_eq] at h
  have ih:=W_len a h.2 hf 9
  have:=wLen_par (9<k) (sgT op.toNat::a.W 9)
  have hs:=sg_len op.toNat (by omega)
  rw [wLen_cons] at this
  simp only [X.W,X.size]
  omega
 | .bin op a b,h,hf,k=>by
  simp only [X.ok,Bool.and_eq_true,decide_eq_true_eq] at h
  have ih1:=W_len a h.1.2 hf.1 (lvl op.toNat)
  have ih2:=W_len b h.2 hf.2 (lvl op.toNat+1)
  have:=wLen_par (lvl op.toNat<k) (a.W (lvl op.toNat)++sgT op.toNat::b.W (lvl op.toNat+1))
  have hs:=sg_len op.toNat (by omega)
  rw [wLen_app,wLen_cons] at this
  simp only [X.W,X.size]
  omega
 | .ite a b c,h,hf,k=>by
  simp only [X.ok,Bool.and_eq_true] at h
  have ih1:=W_len a h.1.1 hf.1 0
  have ih2:=W_len b h.1.2 hf.2.1 0
  have ih3:=W_len c h.2 hf.2.2 0
  simp only [X.W,X.size,wLen_cons,wLen_app,wLen_nil]
  have e1:wIf.length=2:=rfl
  have e2:wThen.length=4:=rfl
  have e3:wElse.length=4:=rfl
  have e4:wEndif.length=5:=rfl
  omega
theorem print_len {x:X} (h:x.ok=true) (hf:x.fit):(joinW (x.W 0)).length≤66 * x.size:=Nat.le_trans (joinW_len _) (W_len x h hf 0)
theorem expr_print {x:X} (h:x.ok=true) (hf:x.fit) (hs:x.size≤900) (hd:x.depth≤64):exprP (joinW (x.W 0))=(x.row 0,0,0):=by
 have hl:=print_len h hf
 obtain ⟨l,e1,e2⟩:=toksP_spc (joinW_spc (x.W 0)) (words_ok x h hf 0) (by omega)
 exact expr_whole e1 (by rw [e2];exact W_gr x h hf 0 (by decide)) hd
theorem expr_paren {s:List UInt8} (h:(exprP s).2.2=0) (hs:s.length≤65533):exprP (40::(s++[10,41]))=exprP s:=by
 obtain ⟨l,x,e1,g,hd,e2⟩:=expr_inv h
 obtain ⟨l2,e3,e4⟩:=toks_par e1 hs
 rw [e2]
 exact expr_whole e3 (by rw [e4];exact .par g) hd
theorem Gr.size {n:Int} {ts:List (List UInt8)} {x:X} (h:Gr n ts x):x.size≤ts.length:=by
 induction h<;>simp only [X.size,List.length_cons,List.length_append,List.length_nil]<;>omega
theorem Gr.fit {n:Int} {ts:List (List UInt8)} {x:X} (h:Gr n ts x):x.fit:=by
 induction h with
 | @num n t v h1 h2 =>
  show v≤9223372036854775807
  have hp:(parseR (trim0 t)).1≤9223372036854775807:=by
   have ht:∀ z:Int,(told z).1≤9223372036854775807:=by
    intro z
    unfold told
    split
    ·rename_i q
     simp only [fits,decide_eq_true_eq] at q
     exact q.2
    ·show (0:Int)≤_;decide
   generalize trim0 t=u
   unfold parseR
   generalize (u.head? == some 45)=bl
   cases bl
   ·simp only [Bool.false_eq_true,if_false]
    split
    ·show (0:Int)≤_;decide
    ·exact ht _
   ·simp only [if_true]
    split
    ·show (0:Int)≤_;decide
    ·exact ht _
  rw [h2] at hp
  exact hp
 | name=>show (0:Int)≤_;decide
 | tr=>show (0:Int)≤_;decide
 | fa=>show (0:Int)≤_;decide
 | neg _ _ ih=>exact ih
 | not _ _ ih=>exact ih
 | par _ ih=>exact ih
 | bin _ _ _ _ _ i1 i2=>exact ⟨i1,i2⟩
 | ite _ _ _ i1 i2 i3=>exact ⟨i1,i2,i3⟩
theorem toks_count {s:List UInt8} {l:List Tk} (h:toksP s=(l,0,0)):l.length≤s.length:=by
 have key:∀ {s:List UInt8} {ws:List (List UInt8)},Lx s ws→ws.length≤s.length:=by
  intro s ws h
  induction h with
  | nil=>exact Nat.zero_le _
  | @cons s ws k hb hk h0 h64 _ ih =>
   have hle:=firstP_le (s.drop (blk s))
   rw [hk,List.length_drop] at hle
   rw [List.length_drop,List.length_drop] at ih
   simp only [List.length_cons];omega
 have:=key (toksP_lx h)
 rwa [List.length_map] at this
theorem expr_tree {s:List UInt8} (h:(exprP s).2.2=0):∃ x:X,x.ok=true∧x.fit∧x.size≤s.length∧x.depth≤64∧exprP s=(x.row 0,0,0):=by
 obtain ⟨l,x,e1,g,hd,e2⟩:=expr_inv h
 have hc:=toks_count e1
 have hs:=g.size
 rw [List.length_map] at hs
 exact ⟨x,g.ok,g.fit,by omega,hd,e2⟩
theorem expr_least {x:X} (h:x.ok=true) (hf:x.fit) {i k:Nat} (hik:i<k) (hi:(joinW (x.W 0))[i]? = some 40) (hk:(joinW (x.W 0))[k]? = some 41)
  (he:(exprP (((joinW (x.W 0)).eraseIdx k).eraseIdx i)).2.2=0):(exprP (((joinW (x.W 0)).eraseIdx k).eraseIdx i)).1≠x.row 0:=by
 have hw:=words_ok x h hf 0
 obtain ⟨a1,a2,e1,s1⟩:=(joinW_spc (x.W 0)).erase (.inr rfl) hw k hk
 have hi2:((joinW (x.W 0)).eraseIdx k)[i]? = some 40:=by rw [List.getElem?_eraseIdx_of_lt hik];exact hi
 have hw2:∀ w∈a1++a2,isP w≠0:=by
  intro w hm
  apply hw w
  rw [e1]
  rcases List.mem_append.1 hm with q | q
  ·exact List.mem_append_left _ q
  ·exact List.mem_append_right _ (List.mem_cons_of_mem _ q)
 obtain ⟨b1,b2,e2,s2⟩:=s1.erase (.inl rfl) hw2 i hi2
 have hw3:∀ w∈b1++b2,isP w≠0:=by
  intro w hm
  apply hw2 w
  rw [e2]
  rcases List.mem_append.1 hm with q | q
  ·exact List.mem_append_left _ q
  ·exact List.mem_append_right _ (List.mem_cons_of_mem _ q)
 obtain ⟨l,y,t1,g,hd,t2⟩:=expr_inv he
 have hl65:(((joinW (x.W 0)).eraseIdx k).eraseIdx i).length≤65536:=by
  unfold toksP at t1
  split at t1
  ·have:=congrArg (fun z=>z.2.2) t1
   simp at this
  ·omega
 obtain ⟨l',q1,q2⟩:=toksP_spc s2 hw3 hl65
 rw [t1] at q1
 have:l=l':=congrArg Prod.fst q1
 subst this
 rw [q2] at g
 rw [t2]
 intro hrow
 have hxy:=row_inj y x 0 g.ok h hrow
 subst hxy
 have hc:=g.least 0 (by decide) (by decide)
 rw [e1,cntP_app,cntP_cons] at hc
 have e2c:=congrArg cntP e2
 rw [cntP_app,cntP_app,cntP_cons,if_pos rfl] at e2c
 rw [cntP_app] at hc
 split at hc<;>omega
end Go.Hs
end

section
namespace Go.Hs
open Go.Proofs
set_option maxRecDepth 10000
theorem catL_W (ls:List (List (List UInt8))):catL (ls.map fun l=>Sl.mk false l)=ls.flatten:=by
 induction ls with
 | nil=>rfl
 | cons a r ih=>rw [List.map_cons,catL,List.flatMap_cons,List.flatten_cons];exact congrArg _ ih
theorem W_cnt:∀ (x:X) (k:Int),(x.W k).length≤6 * x.size
 | .leaf ..,k=>by simp [X.W,X.size]
 | .un op a,k=>by
  have:=W_cnt a 9
  have hp:∀ b (ts:List (List UInt8)),(parW b ts).length≤ts.length+2:=fun b ts=>by cases b<;>simp [parW]
  have:=hp (9<k) (sgT op.toNat::a.W 9)
  simp only [X.W,X.size,List.length_cons] at this ⊢
  omega
 | .bin op a b,k=>by
  have:=W_cnt a (lvl op.toNat)
  have:=W_cnt b (lvl op.toNat+1)
  have hp:∀ b (ts:List (List UInt8)),(parW b ts).length≤ts.length+2:=fun b ts=>by cases b<;>simp [parW]
  have:=hp (lvl op.toNat<k) (a.W (lvl op.toNat)++sgT op.toNat::b.W (lvl op.toNat+1))
  simp only [X.W,X.size,List.length_cons,List.length_append] at this ⊢
  omega
 | .ite a b c,k=>by
  have:=W_cnt a 0
  have:=W_cnt b 0
  have:=W_cnt c 0
  simp only [X.W,X.size,List.length_cons,List.length_append,List.length_nil]
  omega
theorem cat_call {G:Nat→V} (hG:GOk G) (F:Nat→Bool) {H:Heap} {K:V→Heap→Prop} {v:V} (ls:List (List (List UInt8))) (hn:ls.length<1000) (hl:ls.flatten.length<1000000) (hne:ls.flatten.length≠0)
  (h:Fz F H v (encSS .new .new (.mk false (ls.map fun l=>Sl.mk false l)))) (hk:K (encSl .new 1 V.str (.mk false ls.flatten)) hNone):CallA Tryz.prog G 88 [v] H K:=by
 refine CallA.frzL F [encSS .new .new (.mk false (ls.map fun l=>Sl.mk false l))] [] ⟨h,trivial⟩ trivial ?_
 refine CallA.pure hG (by kernel_rfl) ?_
 rw [List.map_cons,List.map_nil,recol_encSS]
 refine (sConcat_spec G hG _ _ (.mk false (ls.map fun l=>Sl.mk false l)) (by simp [Sl.l];omega) (by rw [show (Sl.mk false (ls.map fun l=>Sl.mk false l)).l=ls.map fun l=>Sl.mk false l from rfl,catL_W];exact hl) (by rw [show (Sl.mk false (ls.map fun l=>Sl.mk false l)).l=ls.map fun l=>Sl.mk false l from rfl,catL_W];exact hne)).mono ?_
 rintro _ _ rfl
 rw [show (Sl.mk false (ls.map fun l=>Sl.mk false l)).l=ls.map fun l=>Sl.mk false l from rfl,catL_W]
 have:(encSl .new 1 V.str (.mk false ls.flatten)).recol Col.bk=encSl .new 1 V.str (.mk false ls.flatten):=recol_enc _ _ _ (fun _=>rfl) _
 rw [this]
 exact hk
theorem Fz.rowSS {F:Nat→Bool} {H:Heap} {o g n:Nat} {cs:List V} (ls:List (List (List UInt8))) (hF:F o=true) (hH:H o = .cells .new g 0 cs) (hn:cs.length=n) (h:FzL F H cs (ls.map fun l=>encSl .new 1 V.str (.mk false l))) :
  Fz F H (.msl o g 0 n 1) (encSS .new .new (.mk false (ls.map fun l=>Sl.mk false l))):=by
 have e:encSS .new .new (.mk false (ls.map fun l=>Sl.mk false l)) = .slice .new false 1 (ls.map fun l=>encSl .new 1 V.str (.mk false l)):=by
  simp only [encSS,encSl,List.map_map]
  rfl
 rw [e]
 have e2:(ls.map fun l=>encSl .new 1 V.str (.mk false l))=(ls.map fun l=>Sl.mk false l).map fun t=>encSl .new 1 V.str t:=by rw [List.map_map];rfl
 refine Fz.rowL hF hH hn (by rw [e2];exact flat_encs .new _) ?_ h
 intro v hv
 obtain ⟨l,_,rfl⟩:=List.mem_map.1 hv
 rfl
theorem Fz.one {F:Nat→Bool} {H:Heap} {o g:Nat} {w:List UInt8} (hF:F o=true) (hH:H o = .cells .new g 0 [.str w]):Fz F H (.msl o g 0 1 1) (encSl .new 1 V.str (.mk false [w])) :=
 Fz.sl (f:=V.str) (l:=[w]) (m:=1) (g:=g) (fz:=0) (c := .new) hF hH (fun _=>rfl)
theorem xWords_spec (G:Nat→V) (hE:GExp G) (s:Sl XN) (hs:s.l.length<1000):∀ (m:Nat) (y:X) (b:Nat) (c:Col) (k:Int),y.size≤m→At s.l y b→y.ok=true→y.fit→0≤k→k≤9 →
  Spec Tryz.prog G 59 [.agg [encSl c 6 encXN s],.int .i64 ((b:Int)+y.size-1),.int .i64 k] hNone (fun v _=>v=encSl .new 1 V.str (.mk false (y.W k))):=by
 have hG:=hE.ok
 intro m
 induction m with
 | zero=>intro y b c k hm;have:=y.size_pos;omega
 | succ m ih =>
 intro y b c k hm hat hy hf hk0 hk9
 refine Spec.of_code' 0 106 [.tmp 6] Tryz.func59 rfl rfl rfl rfl fun X0=>?_
 have hyp:=y.size_pos
 have hget:=hat.get
 have hsz:b+y.size≤s.l.length:=by
  obtain ⟨pre,post,e1,e2⟩:=hat
  have:=congrArg List.length e1
  simp only [List.length_append,X.row_len] at this
  omega
 have hW:=W_body hy hk9 (b:Int)
 have hop:=top_op hy (b:Int)
 have hbp:0<y.body.length:=by cases y<;>(simp [X.body];try omega)
 have hbl:y.body.length≤6 * y.size:=by
  have:=W_cnt y 0
  rw [W_body hy (by decide) (b:Int)] at this
  cases hq:decide (lvl (y.top b).op.toNat<0)<;>rw [hq] at this<;>simp [parW] at this<;>omega
 have hpos:((b:Int)+y.size-1)=((b+y.size-1:Nat):Int):=by omega
 have hlt:b+y.size-1<s.l.length:=by omega
 rw [hpos]
 generalize hn:y.top b=n at hget hW hop
 generalize y.W k=res at hW ⊢
 refine AW.seq_k fun K hK=>AW.region (by kernel_rfl) ?_
 simp -implicitDefEqProofs only[go_sem,seval,↓reduceIte]
 intro g3
 refine hK _ ?_
 clear hK K
 refine AW.seq_k fun K hK=>AW.region (by kernel_rfl) ?_
 simp -implicitDefEqProofs only[go_sem,seval,↓reduceIte,hget,hlt,encXN_K]
 intro g7
 refine hK _ ?_
 clear hK K
 refine AW.weak (Weak.stF (fun o=>o==3 || o==7) (l:=[(2,.int .i64 k),(3,.view .new (.agg [encSl c 6 encXN s])),(7,.view .new (encXN n))]) (m:=[]) ?_ trivial) ?_
 ·simp -implicitDefEqProofs only[go_sem,seval,↓reduceIte]
  exact ⟨Fz.same _,Fz.ptr (v := .agg [encSl c 6 encXN s]) (c := .new) (fz:=0) rfl (by simp -implicitDefEqProofs only[go_sem,seval,↓reduceIte];try rfl),Fz.ptr (v:=encXN n) (c := .new) (fz:=0) rfl (by simp -implicitDefEqProofs only[go_sem,seval,↓reduceIte];try rfl)⟩
 obtain ⟨on,hon⟩:∃ on:Nat,n.op=on:=⟨n.op.toNat,by omega⟩
 have hpt:=tabC_part on (by omega)
 obtain ⟨t1,t2,t3⟩:=tab_parts on (by omega) (by omega)
 have hoi:n.op<23:=by omega
 have hoj:0≤n.op:=by omega
 have hot:n.op.toNat=on:=by omega
 have pT:PureC Tryz.prog G 61 [] (.agg tabC):=⟨by kernel_rfl,by
  simp -implicitDefEqProofs only[go_sem,seval,↓reduceIte,List.map_nil]
  refine (xTable_spec G hG).mono ?_
  rintro _ _ rfl
  exact tabC_rc _⟩
 generalize tabL.getD on ⟨[],0,0⟩=sg at hpt t1 t2 t3
 obtain ⟨tx,lv,pa⟩:=sg
 simp only at t1 t2 t3
 subst t1 t2 t3
 rw [encSg_K] at hpt
 simp only at hpt
 refine AW.seq_k fun K hK=>AW.regionT ⟨fun _ => .agg tabC,fun i=>if i=0 then .pure else .lend⟩ (by kernel_rfl) hG (by kernel_rfl) (by kernel_rfl) ?_
 simp -implicitDefEqProofs only[go_sem,seval,↓reduceIte,encXN_K,hoi,hoj,hot,hpt]
 refine ⟨pT,?_⟩
 intro g8
 refine hK _ ?_
 clear hK K
 refine AW.weak (Weak.stF (fun o=>o==8) (l:=[(2,.int .i64 k),(3,.view .new (.agg [encSl c 6 encXN s])),(7,.view .new (encXN n)),(8,.view .new (.agg [.str (sgT on),.int .i64 (lvl on),.int .i64 (partsOf on:Nat)]))]) (m:=[]) ?_ trivial) ?_
 ·simp -implicitDefEqProofs only[go_sem,seval,↓reduceIte]
  exact ⟨Fz.same _,Fz.same _,Fz.same _,Fz.ptr (v := .agg [.str (sgT on),.int .i64 (lvl on),.int .i64 (partsOf on:Nat)]) (c := .new) (fz:=0) rfl (by simp -implicitDefEqProofs only[go_sem,seval,↓reduceIte];try rfl)⟩
 refine AW.seq_k fun K hK=>AW.region (by kernel_rfl) ?_
 simp -implicitDefEqProofs only[go_sem,seval,↓reduceIte]
 refine hK _ ?_
 clear hK K
 have pw:∀ (z:X) (bz:Nat) (lv:Int),z.size≤m→At s.l z bz→z.ok=true→z.fit→0≤lv→lv≤9→PureC Tryz.prog G 59 [.agg [encSl c 6 encXN s],.int .i64 ((bz:Int)+z.size-1),.int .i64 lv] (encSl .new 1 V.str (.mk false (z.W lv))):=by
  intro z bz lv h1 h2 h3 h4 h5 h6
  refine ⟨by kernel_rfl,?_⟩
  simp -implicitDefEqProofs only[go_sem,seval,↓reduceIte,recol_xns]
  refine (ih z bz _ lv h1 h2 h3 h4 h5 h6).mono ?_
  rintro _ _ rfl
  exact recol_enc _ _ _ (fun _=>rfl) _
 refine AW.seqJ (fun (_:Unit)=>st [(2,.int .i64 k),(8,.view .new (.agg [.str (sgT on),.int .i64 (lvl on),.int .i64 (partsOf on:Nat)])),(9,encSl .new 1 V.str (.mk false y.body))] []) (fun _=>True) (fun K1 hK1=>?_) ?_
 rotate_left
 ·intro _ _
  refine AW.seq_k fun K2 hK2=>?_
  rw [hot] at hW
  by_cases hlk:lvl on<k
  ·have e1:decide (lvl on<k)=true:=by simpa using hlk
   rw [decide_eq_true hlk] at hW
   refine AW.seq_k fun K hK=>AW.region (by kernel_rfl) ?_
   simp -implicitDefEqProofs only[go_sem,seval,↓reduceIte,e1]
   refine hK _ ?_
   clear hK K
   refine AW.condS (by simp -implicitDefEqProofs only[go_sem,seval,↓reduceIte];rfl) (fun h99=>?_) (fun h99=>?_)
   rotate_left
   ·cases h99
   refine AW.seq_k fun K hK=>AW.region (by kernel_rfl) ?_
   simp -implicitDefEqProofs only[go_sem,seval,↓reduceIte]
   intro g100 g102 g103
   refine cat_call hG (fun o=>o==100 || o==102 || o==103) [[[40]],y.body,[[41]]] (by simp) (by simp;omega) (by simp) (Fz.rowSS (cs:=[.msl 100 g100 0 1 1,encSl .new 1 V.str (.mk false y.body),.msl 102 g102 0 1 1]) [[[40]],y.body,[[41]]] rfl (by simp -implicitDefEqProofs only[go_sem,seval,↓reduceIte];try rfl) rfl ⟨Fz.one rfl (by simp -implicitDefEqProofs only[go_sem,seval,↓reduceIte];try rfl),Fz.same _,Fz.one rfl (by simp -implicitDefEqProofs only[go_sem,seval,↓reduceIte];try rfl),trivial⟩) ?_
   simp -implicitDefEqProofs only[go_sem,seval,↓reduceIte]
   refine hK _ ?_
   clear hK K
   refine AW.ret ?_
   simp -implicitDefEqProofs only[go_sem,seval,↓reduceIte]
   refine endK_some ?_
   rw [hW]
   simp [parW]
  ·have e1:decide (lvl on<k)=false:=by simpa using hlk
   rw [decide_eq_false hlk] at hW
   refine AW.seq_k fun K hK=>AW.region (by kernel_rfl) ?_
   simp -implicitDefEqProofs only[go_sem,seval,↓reduceIte,e1]
   refine hK _ ?_
   clear hK K
   refine AW.condS (by simp -implicitDefEqProofs only[go_sem,seval,↓reduceIte];rfl) (fun h99=>?_) (fun h99=>?_)
   ·cases h99
   refine AW.skip ?_
   simp -implicitDefEqProofs only[go_sem,seval,↓reduceIte]
   refine hK2 _ ?_
   refine AW.seq_k fun K hK=>AW.region (by kernel_rfl) ?_
   simp -implicitDefEqProofs only[go_sem,seval,↓reduceIte]
   refine hK _ ?_
   clear hK K
   refine AW.ret ?_
   simp -implicitDefEqProofs only[go_sem,seval,↓reduceIte]
   refine endK_some ?_
   rw [hW];rfl
 refine AW.block ?_
 cases y with
 | leaf op num name =>
  obtain rfl:n=⟨op,num,name,-1,-1,-1⟩:=hn.symm
  rcases leaf_cases hy with ⟨rfl,h1,rfl⟩ | ⟨rfl,rfl,h1⟩ | ⟨rfl,rfl,rfl⟩ | ⟨rfl,rfl,rfl⟩
  ·have hf:num≤9223372036854775807:=hf
   refine AW.seq_k fun K hK=>AW.region (by kernel_rfl) ?_
   simp -implicitDefEqProofs only[go_sem,seval,↓reduceIte,encXN_K]
   refine hK _ ?_
   clear hK K
   refine AW.condS (by simp -implicitDefEqProofs only[go_sem,seval,↓reduceIte];rfl) (fun h22=>?_) (fun h22=>?_)
   rotate_left
   ·cases h22
   refine AW.region (by kernel_rfl) ?_
   simp -implicitDefEqProofs only[go_sem,seval,↓reduceIte,encXN_K]
   refine CallA.pure hG (by kernel_rfl) ?_
   simp -implicitDefEqProofs only[go_sem,seval,↓reduceIte]
   refine (nPut_spec G hE.toGNum num ⟨by show -9223372036854775808≤num;omega,hf⟩).mono ?_
   rintro _ _ rfl
   simp -implicitDefEqProofs only[go_sem,seval,↓reduceIte]
   intro g29
   exact hK1 _ () trivial (Weak.stF (fun o=>o==29) (by simp -implicitDefEqProofs only[go_sem,seval,↓reduceIte];exact ⟨Fz.same _,Fz.same _,Fz.one rfl (by simp -implicitDefEqProofs only[go_sem,seval,↓reduceIte];try rfl)⟩) trivial)
  ·refine AW.seq_k fun K hK=>AW.region (by kernel_rfl) ?_
   simp -implicitDefEqProofs only[go_sem,seval,↓reduceIte,encXN_K]
   refine hK _ ?_
   clear hK K
   refine AW.condS (by simp -implicitDefEqProofs only[go_sem,seval,↓reduceIte];rfl) (fun h22=>?_) (fun h22=>?_)
   ·cases h22
   clear h22
   refine AW.seq_k fun K hK=>AW.region (by kernel_rfl) ?_
   simp -implicitDefEqProofs only[go_sem,seval,↓reduceIte,encXN_K]
   refine hK _ ?_
   clear hK K
   refine AW.condS (by simp -implicitDefEqProofs only[go_sem,seval,↓reduceIte];rfl) (fun h22=>?_) (fun h22=>?_)
   rotate_left
   ·cases h22
   refine AW.region (by kernel_rfl) ?_
   simp -implicitDefEqProofs only[go_sem,seval,↓reduceIte,encXN_K]
   intro g36
   exact hK1 _ () trivial (Weak.stF (fun o=>o==36) (by simp -implicitDefEqProofs only[go_sem,seval,↓reduceIte];exact ⟨Fz.same _,Fz.same _,Fz.one rfl (by simp -implicitDefEqProofs only[go_sem,seval,↓reduceIte];try rfl)⟩) trivial)
  ·obtain rfl:on=3:=by have:(3:Int)=on:=hon;omega
   have e2:((((partsOf ((3:Nat):Int):Nat):Int))==2)=false:=rfl
   have e3:((((partsOf ((3:Nat):Int):Nat):Int))==1)=false:=rfl
   refine AW.seq_k fun K hK=>AW.region (by kernel_rfl) ?_
   simp -implicitDefEqProofs only[go_sem,seval,↓reduceIte,encXN_K]
   refine hK _ ?_
   clear hK K
   refine AW.condS (by simp -implicitDefEqProofs only[go_sem,seval,↓reduceIte];rfl) (fun h22=>?_) (fun h22=>?_)
   ·cases h22
   clear h22
   refine AW.seq_k fun K hK=>AW.region (by kernel_rfl) ?_
   simp -implicitDefEqProofs only[go_sem,seval,↓reduceIte,encXN_K]
   refine hK _ ?_
   clear hK K
   refine AW.condS (by simp -implicitDefEqProofs only[go_sem,seval,↓reduceIte];rfl) (fun h22=>?_) (fun h22=>?_)
   ·cases h22
   clear h22
   refine AW.seq_k fun K hK=>AW.region (by kernel_rfl) ?_
   simp -implicitDefEqProofs only[go_sem,seval,↓reduceIte,encXN_K]
   refine hK _ ?_
   clear hK K
   refine AW.condS (by simp -implicitDefEqProofs only[go_sem,seval,↓reduceIte];rfl) (fun h22=>?_) (fun h22=>?_)
   ·cases h22
   clear h22
   refine AW.seq_k fun K hK=>AW.region (by kernel_rfl) ?_
   simp -implicitDefEqProofs only[go_sem,seval,↓reduceIte,e2]
   refine hK _ ?_
   clear hK K
   refine AW.condS (by simp -implicitDefEqProofs only[go_sem,seval,↓reduceIte];rfl) (fun h22=>?_) (fun h22=>?_)
   ·cases h22
   clear h22
   refine AW.seq_k fun K hK=>AW.region (by kernel_rfl) ?_
   simp -implicitDefEqProofs only[go_sem,seval,↓reduceIte,e3]
   refine hK _ ?_
   clear hK K
   refine AW.condS (by simp -implicitDefEqProofs only[go_sem,seval,↓reduceIte];rfl) (fun h22=>?_) (fun h22=>?_)
   ·cases h22
   clear h22
   refine AW.region (by kernel_rfl) ?_
   simp -implicitDefEqProofs only[go_sem,seval,↓reduceIte]
   intro g21
   exact hK1 _ () trivial (Weak.stF (fun o=>o==21) (by simp -implicitDefEqProofs only[go_sem,seval,↓reduceIte];exact ⟨Fz.same _,Fz.same _,Fz.one rfl (by simp -implicitDefEqProofs only[go_sem,seval,↓reduceIte];try rfl)⟩) trivial)
  ·obtain rfl:on=4:=by have:(4:Int)=on:=hon;omega
   have e2:((((partsOf ((4:Nat):Int):Nat):Int))==2)=false:=rfl
   have e3:((((partsOf ((4:Nat):Int):Nat):Int))==1)=false:=rfl
   refine AW.seq_k fun K hK=>AW.region (by kernel_rfl) ?_
   simp -implicitDefEqProofs only[go_sem,seval,↓reduceIte,encXN_K]
   refine hK _ ?_
   clear hK K
   refine AW.condS (by simp -implicitDefEqProofs only[go_sem,seval,↓reduceIte];rfl) (fun h22=>?_) (fun h22=>?_)
   ·cases h22
   clear h22
   refine AW.seq_k fun K hK=>AW.region (by kernel_rfl) ?_
   simp -implicitDefEqProofs only[go_sem,seval,↓reduceIte,encXN_K]
   refine hK _ ?_
   clear hK K
   refine AW.condS (by simp -implicitDefEqProofs only[go_sem,seval,↓reduceIte];rfl) (fun h22=>?_) (fun h22=>?_)
   ·cases h22
   clear h22
   refine AW.seq_k fun K hK=>AW.region (by kernel_rfl) ?_
   simp -implicitDefEqProofs only[go_sem,seval,↓reduceIte,encXN_K]
   refine hK _ ?_
   clear hK K
   refine AW.condS (by simp -implicitDefEqProofs only[go_sem,seval,↓reduceIte];rfl) (fun h22=>?_) (fun h22=>?_)
   ·cases h22
   clear h22
   refine AW.seq_k fun K hK=>AW.region (by kernel_rfl) ?_
   simp -implicitDefEqProofs only[go_sem,seval,↓reduceIte,e2]
   refine hK _ ?_
   clear hK K
   refine AW.condS (by simp -implicitDefEqProofs only[go_sem,seval,↓reduceIte];rfl) (fun h22=>?_) (fun h22=>?_)
   ·cases h22
   clear h22
   refine AW.seq_k fun K hK=>AW.region (by kernel_rfl) ?_
   simp -implicitDefEqProofs only[go_sem,seval,↓reduceIte,e3]
   refine hK _ ?_
   clear hK K
   refine AW.condS (by simp -implicitDefEqProofs only[go_sem,seval,↓reduceIte];rfl) (fun h22=>?_) (fun h22=>?_)
   ·cases h22
   clear h22
   refine AW.region (by kernel_rfl) ?_
   simp -implicitDefEqProofs only[go_sem,seval,↓reduceIte]
   intro g21
   exact hK1 _ () trivial (Weak.stF (fun o=>o==21) (by simp -implicitDefEqProofs only[go_sem,seval,↓reduceIte];exact ⟨Fz.same _,Fz.same _,Fz.one rfl (by simp -implicitDefEqProofs only[go_sem,seval,↓reduceIte];try rfl)⟩) trivial)
 | un op a =>
  obtain rfl:n=⟨op,0,[],(b:Int)+a.size-1,-1,-1⟩:=hn.symm
  simp only [X.ok,Bool.and_eq_true,decide_eq_true_eq] at hy
  have hon:op=on:=hon
  have hpo:partsOf on=1:=by unfold partsOf;rw [if_neg (by omega),if_pos (by omega)]
  have q1:(op==1)=false:=by rw [beq_eq_false_iff_ne];omega
  have q2:(op==2)=false:=by rw [beq_eq_false_iff_ne];omega
  have q22:(op==22)=false:=by rw [beq_eq_false_iff_ne];omega
  have e2:(((partsOf on:Nat):Int)==2)=false:=by rw [hpo];rfl
  have e3:(((partsOf on:Nat):Int)==1)=true:=by rw [hpo];rfl
  have e9:lvl on=9:=by
   have:on=5∨on=6:=by omega
   rcases this with h | h<;>rw [h]<;>rfl
  have hwa:=pw a b (lvl on) (by simp only [X.size] at hm;omega) hat.un hy.2 hf (by omega) (by omega)
  have hcl:=W_cnt a (lvl on)
  have hfl:[[sgT on],a.W (lvl on)].flatten=(X.un op a).body:=by rw [e9,X.body,← hot];simp
  have hsz2:a.size<1000:=by simp only [X.size] at hsz;omega
  refine AW.seq_k fun K hK=>AW.region (by kernel_rfl) ?_
  simp -implicitDefEqProofs only[go_sem,seval,↓reduceIte,encXN_K,q1]
  refine hK _ ?_
  clear hK K
  refine AW.condS (by simp -implicitDefEqProofs only[go_sem,seval,↓reduceIte];rfl) (fun h22=>?_) (fun h22=>?_)
  ·cases h22
  clear h22
  refine AW.seq_k fun K hK=>AW.region (by kernel_rfl) ?_
  simp -implicitDefEqProofs only[go_sem,seval,↓reduceIte,encXN_K,q2]
  refine hK _ ?_
  clear hK K
  refine AW.condS (by simp -implicitDefEqProofs only[go_sem,seval,↓reduceIte];rfl) (fun h22=>?_) (fun h22=>?_)
  ·cases h22
  clear h22
  refine AW.seq_k fun K hK=>AW.region (by kernel_rfl) ?_
  simp -implicitDefEqProofs only[go_sem,seval,↓reduceIte,encXN_K,q22]
  refine hK _ ?_
  clear hK K
  refine AW.condS (by simp -implicitDefEqProofs only[go_sem,seval,↓reduceIte];rfl) (fun h22=>?_) (fun h22=>?_)
  ·cases h22
  clear h22
  refine AW.seq_k fun K hK=>AW.region (by kernel_rfl) ?_
  simp -implicitDefEqProofs only[go_sem,seval,↓reduceIte,e2]
  refine hK _ ?_
  clear hK K
  refine AW.condS (by simp -implicitDefEqProofs only[go_sem,seval,↓reduceIte];rfl) (fun h22=>?_) (fun h22=>?_)
  ·cases h22
  clear h22
  refine AW.seq_k fun K hK=>AW.region (by kernel_rfl) ?_
  simp -implicitDefEqProofs only[go_sem,seval,↓reduceIte,e3]
  refine hK _ ?_
  clear hK K
  refine AW.condS (by simp -implicitDefEqProofs only[go_sem,seval,↓reduceIte];rfl) (fun h22=>?_) (fun h22=>?_)
  rotate_left
  ·cases h22
  refine AW.regionT ⟨fun _=>encSl .new 1 V.str (.mk false (a.W (lvl on))),fun i=>if i=8 then .pure else if i=10 then .any else .lend⟩ (by kernel_rfl) hG (by kernel_rfl) (by kernel_rfl) ?_
  simp -implicitDefEqProofs only[go_sem,seval,↓reduceIte,encXN_K]
  intro g87
  refine ⟨hwa,fun g94=>?_⟩
  refine cat_call hG (fun o=>o==87 || o==94) [[sgT on],a.W (lvl on)] (by simp) (by simp;omega) (by simp) (Fz.rowSS (cs:=[.msl 87 g87 0 1 1,encSl .new 1 V.str (.mk false (a.W (lvl on)))]) [[sgT on],a.W (lvl on)] rfl (by simp -implicitDefEqProofs only[go_sem,seval,↓reduceIte];try rfl) rfl ⟨Fz.one rfl (by simp -implicitDefEqProofs only[go_sem,seval,↓reduceIte];try rfl),Fz.same _,trivial⟩) ?_
  rw [hfl]
  simp -implicitDefEqProofs only[go_sem,seval,↓reduceIte]
  exact hK1 _ () trivial (Weak.st (by simp -implicitDefEqProofs only[go_sem,seval,↓reduceIte];try rfl) (by simp -implicitDefEqProofs only[go_sem,seval,↓reduceIte]))
 | bin op a b' =>
  obtain rfl:n=⟨op,0,[],(b:Int)+a.size-1,(b:Int)+a.size+b'.size-1,-1⟩:=hn.symm
  simp only [X.ok,Bool.and_eq_true,decide_eq_true_eq] at hy
  have hon:op=on:=hon
  have hpo:partsOf on=2:=by unfold partsOf;rw [if_neg (by omega),if_neg (by omega),if_pos (by omega)]
  have q1:(op==1)=false:=by rw [beq_eq_false_iff_ne];omega
  have q2:(op==2)=false:=by rw [beq_eq_false_iff_ne];omega
  have q22:(op==22)=false:=by rw [beq_eq_false_iff_ne];omega
  have e2:(((partsOf on:Nat):Int)==2)=true:=by rw [hpo];rfl
  obtain ⟨l1,l2,_,_⟩:=lvl_rng on (by omega) (by omega)
  simp only [X.size] at hm hsz
  have hwa:=pw a b (lvl on) (by omega) hat.bin.1 hy.1.2 hf.1 (by omega) (by omega)
  have hwb:=pw b' (b+a.size) (lvl on+1) (by omega) hat.bin.2 hy.2 hf.2 (by omega) (by omega)
  rw [Int.natCast_add] at hwb
  have hw:IntKind.i64.wrap (lvl on+1)=lvl on+1:=w64 (by omega) (by omega)
  have hca:=W_cnt a (lvl on)
  have hcb:=W_cnt b' (lvl on+1)
  have hfl:[a.W (lvl on),[sgT on],b'.W (lvl on+1)].flatten=(X.bin op a b').body:=by rw [X.body,← hot];simp
  refine AW.seq_k fun K hK=>AW.region (by kernel_rfl) ?_
  simp -implicitDefEqProofs only[go_sem,seval,↓reduceIte,encXN_K,q1]
  refine hK _ ?_
  clear hK K
  refine AW.condS (by simp -implicitDefEqProofs only[go_sem,seval,↓reduceIte];rfl) (fun h22=>?_) (fun h22=>?_)
  ·cases h22
  clear h22
  refine AW.seq_k fun K hK=>AW.region (by kernel_rfl) ?_
  simp -implicitDefEqProofs only[go_sem,seval,↓reduceIte,encXN_K,q2]
  refine hK _ ?_
  clear hK K
  refine AW.condS (by simp -implicitDefEqProofs only[go_sem,seval,↓reduceIte];rfl) (fun h22=>?_) (fun h22=>?_)
  ·cases h22
  clear h22
  refine AW.seq_k fun K hK=>AW.region (by kernel_rfl) ?_
  simp -implicitDefEqProofs only[go_sem,seval,↓reduceIte,encXN_K,q22]
  refine hK _ ?_
  clear hK K
  refine AW.condS (by simp -implicitDefEqProofs only[go_sem,seval,↓reduceIte];rfl) (fun h22=>?_) (fun h22=>?_)
  ·cases h22
  clear h22
  refine AW.seq_k fun K hK=>AW.region (by kernel_rfl) ?_
  simp -implicitDefEqProofs only[go_sem,seval,↓reduceIte,e2]
  refine hK _ ?_
  clear hK K
  refine AW.condS (by simp -implicitDefEqProofs only[go_sem,seval,↓reduceIte];rfl) (fun h22=>?_) (fun h22=>?_)
  rotate_left
  ·cases h22
  refine AW.regionT ⟨fun i=>if i=5 then encSl .new 1 V.str (.mk false (a.W (lvl on))) else encSl .new 1 V.str (.mk false (b'.W (lvl on+1))),fun i=>if i=5 then .pure else if i=15 then .pure else if i=17 then .any else .lend⟩ (by kernel_rfl) hG (by kernel_rfl) (by kernel_rfl) ?_
  simp -implicitDefEqProofs only[go_sem,seval,↓reduceIte,encXN_K,hw]
  refine ⟨hwa,fun g71=>⟨hwb,fun g79=>?_⟩⟩
  refine cat_call hG (fun o=>o==71 || o==79) [a.W (lvl on),[sgT on],b'.W (lvl on+1)] (by simp) (by simp;omega) (by simp) (Fz.rowSS (cs:=[encSl .new 1 V.str (.mk false (a.W (lvl on))),.msl 71 g71 0 1 1,encSl .new 1 V.str (.mk false (b'.W (lvl on+1)))]) [a.W (lvl on),[sgT on],b'.W (lvl on+1)] rfl (by simp -implicitDefEqProofs only[go_sem,seval,↓reduceIte];try rfl) rfl ⟨Fz.same _,Fz.one rfl (by simp -implicitDefEqProofs only[go_sem,seval,↓reduceIte];try rfl),Fz.same _,trivial⟩) ?_
  rw [hfl]
  simp -implicitDefEqProofs only[go_sem,seval,↓reduceIte]
  exact hK1 _ () trivial (Weak.st (by simp -implicitDefEqProofs only[go_sem,seval,↓reduceIte];try rfl) (by simp -implicitDefEqProofs only[go_sem,seval,↓reduceIte]))
 | ite a b' c' =>
  obtain rfl:n=⟨22,0,[],(b:Int)+a.size-1,(b:Int)+a.size+b'.size-1,(b:Int)+a.size+b'.size+c'.size-1⟩:=hn.symm
  simp only [X.ok,Bool.and_eq_true] at hy
  simp only [X.size] at hm hsz
  have hwa:=pw a b 0 (by omega) hat.ite.1 hy.1.1 hf.1 (by decide) (by decide)
  have hwb:=pw b' (b+a.size) 0 (by omega) hat.ite.2.1 hy.1.2 hf.2.1 (by decide) (by decide)
  have hwc:=pw c' (b+a.size+b'.size) 0 (by omega) hat.ite.2.2 hy.2 hf.2.2 (by decide) (by decide)
  rw [Int.natCast_add] at hwb
  rw [Int.natCast_add,Int.natCast_add] at hwc
  have hca:=W_cnt a 0
  have hcb:=W_cnt b' 0
  have hcc:=W_cnt c' 0
  have hfl:[[wIf],a.W 0,[wThen],b'.W 0,[wElse],c'.W 0,[wEndif]].flatten=(X.ite a b' c').body:=by rw [X.body];simp
  refine AW.seq_k fun K hK=>AW.region (by kernel_rfl) ?_
  simp -implicitDefEqProofs only[go_sem,seval,↓reduceIte,encXN_K]
  refine hK _ ?_
  clear hK K
  refine AW.condS (by simp -implicitDefEqProofs only[go_sem,seval,↓reduceIte];rfl) (fun h22=>?_) (fun h22=>?_)
  ·cases h22
  clear h22
  refine AW.seq_k fun K hK=>AW.region (by kernel_rfl) ?_
  simp -implicitDefEqProofs only[go_sem,seval,↓reduceIte,encXN_K]
  refine hK _ ?_
  clear hK K
  refine AW.condS (by simp -implicitDefEqProofs only[go_sem,seval,↓reduceIte];rfl) (fun h22=>?_) (fun h22=>?_)
  ·cases h22
  clear h22
  refine AW.seq_k fun K hK=>AW.region (by kernel_rfl) ?_
  simp -implicitDefEqProofs only[go_sem,seval,↓reduceIte,encXN_K]
  refine hK _ ?_
  clear hK K
  refine AW.condS (by simp -implicitDefEqProofs only[go_sem,seval,↓reduceIte];rfl) (fun h22=>?_) (fun h22=>?_)
  rotate_left
  ·cases h22
  refine AW.regionT ⟨fun i=>if i=4 then encSl .new 1 V.str (.mk false (a.W 0)) else if i=9 then encSl .new 1 V.str (.mk false (b'.W 0)) else encSl .new 1 V.str (.mk false (c'.W 0)),fun i=>if i=4 then .pure else if i=9 then .pure else if i=14 then .pure else if i=17 then .any else .lend⟩ (by kernel_rfl) hG (by kernel_rfl) (by kernel_rfl) ?_
  simp -implicitDefEqProofs only[go_sem,seval,↓reduceIte,encXN_K]
  intro g41
  refine ⟨hwa,fun g46=>⟨hwb,fun g51=>⟨hwc,fun g56 g57=>?_⟩⟩⟩
  refine cat_call hG (fun o=>o==41 || o==46 || o==51 || o==56 || o==57) [[wIf],a.W 0,[wThen],b'.W 0,[wElse],c'.W 0,[wEndif]] (by simp) (by simp;omega) (by simp) (Fz.rowSS (cs:=[.msl 41 g41 0 1 1,encSl .new 1 V.str (.mk false (a.W 0)),.msl 46 g46 0 1 1,encSl .new 1 V.str (.mk false (b'.W 0)),.msl 51 g51 0 1 1,encSl .new 1 V.str (.mk false (c'.W 0)),.msl 56 g56 0 1 1]) [[wIf],a.W 0,[wThen],b'.W 0,[wElse],c'.W 0,[wEndif]] rfl (by simp -implicitDefEqProofs only[go_sem,seval,↓reduceIte];try rfl) rfl ⟨Fz.one rfl (by simp -implicitDefEqProofs only[go_sem,seval,↓reduceIte];try rfl),Fz.same _,Fz.one rfl (by simp -implicitDefEqProofs only[go_sem,seval,↓reduceIte];try rfl),Fz.same _,Fz.one rfl (by simp -implicitDefEqProofs only[go_sem,seval,↓reduceIte];try rfl),Fz.same _,Fz.one rfl (by simp -implicitDefEqProofs only[go_sem,seval,↓reduceIte];try rfl),trivial⟩) ?_
  rw [hfl]
  simp -implicitDefEqProofs only[go_sem,seval,↓reduceIte]
  exact hK1 _ () trivial (Weak.st (by simp -implicitDefEqProofs only[go_sem,seval,↓reduceIte];try rfl) (by simp -implicitDefEqProofs only[go_sem,seval,↓reduceIte]))
end Go.Hs
end

section
namespace Go.Hs
open Go.Proofs
set_option maxRecDepth 10000
def parseT (t:List UInt8) (below:Bool):Int × Int :=
 if t=[]∨(t.head? = some 48∧(t.length > 1∨below=true))∨t.all isDig=false then (0,2)
 else told (if below then -(val (t.reverse.map dval):Int) else val (t.reverse.map dval))
theorem parseR_T (s:List UInt8):parseR s=parseT (if (s.head? == some 45)=true then s.drop 1 else s) (s.head? == some 45):=rfl
theorem u8_eq (c:UInt8) (n:Nat) (hn:n<256):((c.toNat:Int)==(n:Int))=(c==UInt8.ofNat n):=by
 by_cases h:c.toNat=n
 ·have h1:c=UInt8.ofNat n:=by
   apply UInt8.toNat_inj.1
   rw [UInt8.toNat_ofNat',h]
   omega
  rw [h1]
  simp
  omega
 ·have h1:¬ c=UInt8.ofNat n:=by
   intro e
   apply h
   rw [e,UInt8.toNat_ofNat']
   omega
  have h2:¬ (c.toNat:Int)=(n:Int):=by omega
  rw [show (c==UInt8.ofNat n)=false by simpa using h1,show ((c.toNat:Int)==(n:Int))=false from beq_eq_false_iff_ne.2 h2]
theorem u8_45 (c:UInt8):((c.toNat:Int)==45)=(c==45):=u8_eq c 45 (by decide)
theorem u8_48 (c:UInt8):((c.toNat:Int)==48)=(c==48):=u8_eq c 48 (by decide)
theorem rParse_spec (G:Nat→V) (hG:GOk G) (s:List UInt8) (hs:s.length<1000000):Spec Tryz.prog G 130 [.str s] hNone (fun v _=>v=encR (parseR s)):=by
 rw [parseR_T]
 generalize hb0:(s.head? == some 45)=b0
 generalize ht0:(if b0=true then s.drop 1 else s)=t0
 refine Spec.of_code' 0 64 [.tmp 2,.tmp 3] Tryz.func130 rfl rfl rfl rfl fun X=>?_
 refine AW.seq_k fun K hK=>AW.region (by kernel_rfl) ?_
 simp -implicitDefEqProofs only[go_sem,seval,↓reduceIte]
 refine hK _ ?_
 clear hK K
 refine AW.seqJ (fun (_:Unit)=>st [(0,.str s),(4,.bool b0)] []) (fun _=>True) (fun K1 hK1=>?_) ?_
 ·cases s with
  | nil =>
   refine AW.region (by kernel_rfl) ?_
   simp -implicitDefEqProofs only[go_sem,seval,↓reduceIte]
   exact hK1 _ () trivial (Weak.st (by simp -implicitDefEqProofs only[go_sem,seval,↓reduceIte];rw [← hb0];rfl) (by simp -implicitDefEqProofs only[go_sem,seval,↓reduceIte]))
  | cons c r =>
   refine AW.region (by kernel_rfl) ?_
   simp -implicitDefEqProofs only[go_sem,seval,↓reduceIte,u8_45]
   exact hK1 _ () trivial (Weak.st (by simp -implicitDefEqProofs only[go_sem,seval,↓reduceIte];rw [← hb0];rfl) (by simp -implicitDefEqProofs only[go_sem,seval,↓reduceIte]))
 intro _ _
 refine AW.seqJ (fun (_:Unit)=>st [(0,.str t0),(4,.bool b0)] []) (fun _=>True) (fun K2 hK2=>?_) ?_
 ·refine AW.seq_k fun K hK=>AW.region (by kernel_rfl) ?_
  simp -implicitDefEqProofs only[go_sem,seval,↓reduceIte]
  refine hK _ ?_
  clear hK K
  refine AW.condS (by simp -implicitDefEqProofs only[go_sem,seval,↓reduceIte];rfl) (fun h2=>?_) (fun h2=>?_)
  ·subst h2
   have h1:1≤s.length:=by
    cases s with
    | nil=>simp at hb0
    | cons _ _=>simp
   refine AW.region (by kernel_rfl) ?_
   simp -implicitDefEqProofs only[go_sem,seval,↓reduceIte,h1,Nat.le_refl]
   refine hK2 _ () trivial ?_
   exact (Weak.st (by simp -implicitDefEqProofs only[go_sem,seval,↓reduceIte];rw [← ht0];simp;try exact List.take_of_length_le (by simp)) (by simp -implicitDefEqProofs only[go_sem,seval,↓reduceIte]))
  ·subst h2
   refine AW.skip ?_
   simp -implicitDefEqProofs only[go_sem,seval,↓reduceIte]
   exact hK2 _ () trivial (Weak.st (by simp -implicitDefEqProofs only[go_sem,seval,↓reduceIte];rw [← ht0];simp) (by simp -implicitDefEqProofs only[go_sem,seval,↓reduceIte]))
 intro _ _
 have htl:t0.length≤s.length:=by rw [← ht0];split<;>simp
 clear ht0 hb0
 refine AW.seqJ (fun (_:Unit)=>st [(0,.str t0),(4,.bool b0)] []) (fun _=>t0≠[]∧¬ (t0.head? = some 48∧(t0.length > 1∨b0=true))) (fun K3 hK3=>?_) ?_
 ·cases t0 with
  | nil =>
   refine AW.seq_k fun K hK=>AW.region (by kernel_rfl) ?_
   simp -implicitDefEqProofs only[go_sem,seval,↓reduceIte]
   refine hK _ ?_
   clear hK K
   refine AW.condS (by simp -implicitDefEqProofs only[go_sem,seval,↓reduceIte];rfl) (fun h4=>?_) (fun h4=>?_)
   ·refine AW.seq_k fun K hK=>AW.region (by kernel_rfl) ?_
    simp -implicitDefEqProofs only[go_sem,seval,↓reduceIte]
    refine hK _ ?_
    clear hK K
    refine AW.ret ?_
    simp -implicitDefEqProofs only[go_sem,seval,↓reduceIte]
    refine endK_some ?_
    rw [parseT,if_pos (.inl rfl)]
    rfl
   ·cases h4
  | cons c r =>
   by_cases hc:c=48
   ·have hc1:(c==48)=true:=by simpa using hc
    by_cases hl:r.length=0
    ·have hl1:decide (((r.length+1:Nat):Int) > 1)=false:=by rw [decide_eq_false_iff_not];omega
     cases b0 with
     | true =>
      refine AW.seq_k fun K hK=>AW.region (by kernel_rfl) ?_
      simp -implicitDefEqProofs only[go_sem,seval,↓reduceIte,u8_48,hc1,hl1]
      refine hK _ ?_
      clear hK K
      refine AW.condS (by simp -implicitDefEqProofs only[go_sem,seval,↓reduceIte];rfl) (fun h4=>?_) (fun h4=>?_)
      ·refine AW.seq_k fun K hK=>AW.region (by kernel_rfl) ?_
       simp -implicitDefEqProofs only[go_sem,seval,↓reduceIte]
       refine hK _ ?_
       clear hK K
       refine AW.ret ?_
       simp -implicitDefEqProofs only[go_sem,seval,↓reduceIte]
       refine endK_some ?_
       rw [parseT,if_pos (.inr (.inl ⟨by simp [hc],.inr rfl⟩))]
       rfl
      ·cases h4
     | false =>
      refine AW.seq_k fun K hK=>AW.region (by kernel_rfl) ?_
      simp -implicitDefEqProofs only[go_sem,seval,↓reduceIte,u8_48,hc1,hl1]
      refine hK _ ?_
      clear hK K
      refine AW.condS (by simp -implicitDefEqProofs only[go_sem,seval,↓reduceIte];rfl) (fun h4=>?_) (fun h4=>?_)
      ·cases h4
      ·refine AW.skip ?_
       simp -implicitDefEqProofs only[go_sem,seval,↓reduceIte]
       exact hK3 _ () ⟨by simp,by simp [hl]⟩ (Weak.st (by simp -implicitDefEqProofs only[go_sem,seval,↓reduceIte]) (by simp -implicitDefEqProofs only[go_sem,seval,↓reduceIte]))
    ·have hl1:decide (((r.length+1:Nat):Int) > 1)=true:=by rw [decide_eq_true_iff];omega
     refine AW.seq_k fun K hK=>AW.region (by kernel_rfl) ?_
     simp -implicitDefEqProofs only[go_sem,seval,↓reduceIte,u8_48,hc1,hl1]
     refine hK _ ?_
     clear hK K
     refine AW.condS (by simp -implicitDefEqProofs only[go_sem,seval,↓reduceIte];rfl) (fun h4=>?_) (fun h4=>?_)
     ·refine AW.seq_k fun K hK=>AW.region (by kernel_rfl) ?_
      simp -implicitDefEqProofs only[go_sem,seval,↓reduceIte]
      refine hK _ ?_
      clear hK K
      refine AW.ret ?_
      simp -implicitDefEqProofs only[go_sem,seval,↓reduceIte]
      refine endK_some ?_
      rw [parseT,if_pos (.inr (.inl ⟨by simp [hc],.inl (by simp;omega)⟩))]
      rfl
     ·cases h4
   ·have hc1:(c==48)=false:=by simpa using hc
    refine AW.seq_k fun K hK=>AW.region (by kernel_rfl) ?_
    simp -implicitDefEqProofs only[go_sem,seval,↓reduceIte,u8_48,hc1]
    refine hK _ ?_
    clear hK K
    refine AW.condS (by simp -implicitDefEqProofs only[go_sem,seval,↓reduceIte];rfl) (fun h4=>?_) (fun h4=>?_)
    ·cases h4
    ·refine AW.skip ?_
     simp -implicitDefEqProofs only[go_sem,seval,↓reduceIte]
     exact hK3 _ () ⟨by simp,by simp [hc]⟩ (Weak.st (by simp -implicitDefEqProofs only[go_sem,seval,↓reduceIte]) (by simp -implicitDefEqProofs only[go_sem,seval,↓reduceIte]))
 rintro _ ⟨hne,hno⟩
 refine AW.seq_k fun K hK=>AW.region (by kernel_rfl) ?_
 simp -implicitDefEqProofs only[go_sem,seval,↓reduceIte]
 refine hK _ ?_
 clear hK K
 refine AW.seq_k fun K4 hK4=>?_
 refine AW.seq_k fun K hK=>AW.region (by kernel_rfl) ?_
 simp -implicitDefEqProofs only[go_sem,seval,↓reduceIte]
 refine hK _ ?_
 clear hK K
 refine AW.block ?_
 refine AW.for t0.length (fun k (x:Nat)=>st [(0,.str t0),(4,.bool b0),(5,grown 56 x 1 (ints ((t0.drop (t0.length-k)).reverse.map dval))),(6,.int .i64 ((t0.length:Int)-1-k))] [(56,grownO x (V.int .i64) (ints ((t0.drop (t0.length-k)).reverse.map dval)))])
  (fun k _=>(t0.drop (t0.length-k)).all isDig=true) 0 0 (Nat.zero_le _) (by rw [List.drop_eq_nil_of_le (by omega)];rfl)
  (Weak.st (by rw [List.drop_eq_nil_of_le (by omega)];simp -implicitDefEqProofs only[go_sem,seval,↓reduceIte];exact ⟨rfl,congrArg _ (by rw [w64 (by omega) (by omega)];omega)⟩) (by rw [List.drop_eq_nil_of_le (by omega)];simp -implicitDefEqProofs only[go_sem,seval,↓reduceIte];try rfl)) ?_
 intro k gx hk hI L2 hL2
 refine AW.seq_k fun K5 hK5=>?_
 refine AW.seq_k fun K hK=>AW.region (by kernel_rfl) ?_
 simp -implicitDefEqProofs only[go_sem,seval,↓reduceIte]
 refine hK _ ?_
 clear hK K
 refine AW.condS (by simp -implicitDefEqProofs only[go_sem,seval,↓reduceIte];rfl) (fun h4=>?_) (fun h4=>?_)
 ·have hk1:k<t0.length:=by have:=of_decide_eq_true h4;omega
  refine AW.skip ?_
  simp -implicitDefEqProofs only[go_sem,seval,↓reduceIte]
  refine hK5 _ ?_
  obtain ⟨i,hi⟩:∃ i,i=t0.length-1-k:=⟨_,rfl⟩
  have e0:((t0.length:Int)-1-k)=(i:Int):=by omega
  have hi1:i<t0.length:=by omega
  have g2:=List.getElem?_eq_getElem hi1
  have hdr:t0.drop i=t0[i]::t0.drop (i+1):=List.drop_eq_getElem_cons hi1
  have hall:t0.all isDig=((t0.take i).all isDig && (isDig t0[i] && (t0.drop (i+1)).all isDig)):=by
   rw [← List.all_cons,← hdr,← List.all_append,List.take_append_drop]
  generalize t0[i]=c at g2 hdr hall
  rw [show t0.length-k=i+1 by omega] at hI ⊢
  rw [e0]
  have hlen:((t0.drop (i+1)).reverse.map dval).length<1000000:=by simp;omega
  refine AW.seq_k fun K6 hK6=>?_
  refine AW.block ?_
  refine AW.seq_k fun K7 hK7=>?_
  by_cases hc:isDig c=true
  ·have hc2:48≤c.toNat∧c.toNat≤57:=by unfold isDig at hc;simpa using hc
   have b1:decide ((c.toNat:Int)<48)=false:=by rw [decide_eq_false_iff_not];omega
   have b2:decide ((c.toNat:Int) > 57)=false:=by rw [decide_eq_false_iff_not];omega
   have hdv:IntKind.i64.wrap ((c.toNat:Int)-48)=((dval c:Nat):Int):=by rw [w64 (by omega) (by omega)];unfold dval;omega
   have hwc:IntKind.i64.wrap (c.toNat:Int)=(c.toNat:Int):=w64 (by omega) (by omega)
   refine AW.seq_k fun K hK=>AW.region (by kernel_rfl) ?_
   simp -implicitDefEqProofs only[go_sem,seval,↓reduceIte,g2,b1,b2]
   refine hK _ ?_
   clear hK K
   refine AW.condS (by simp -implicitDefEqProofs only[go_sem,seval,↓reduceIte];rfl) (fun h7=>?_) (fun h7=>?_)
   ·cases h7
   ·refine AW.skip ?_
    simp -implicitDefEqProofs only[go_sem,seval,↓reduceIte]
    refine hK7 _ ?_
    refine AW.region (by kernel_rfl) ?_
    simp -implicitDefEqProofs only[go_sem,seval,↓reduceIte,g2,hwc,hdv]
    intro g55
    refine app_grown (f:=V.int .i64) (l:=ints ((t0.drop (i+1)).reverse.map dval)) (l2:=[((dval c:Nat):Int)]) (g:=gx) (fun _=>rfl) rfl rfl rfl rfl (roomOk_of (by omega) (by simp;omega)) fun g56=>?_
    simp -implicitDefEqProofs only[go_sem,seval,↓reduceIte]
    refine hK6 _ ?_
    refine AW.region (by kernel_rfl) ?_
    simp -implicitDefEqProofs only[go_sem,seval,↓reduceIte]
    have hnew:(t0.drop (t0.length-(k+1))).reverse.map dval=(t0.drop (i+1)).reverse.map dval++[dval c]:=by
     rw [show t0.length-(k+1)=i by omega,hdr];simp
    refine hL2 _ ⟨hk1,g56,?_,Weak.st (by rw [hnew];simp -implicitDefEqProofs only[go_sem,seval,↓reduceIte,ints_app];exact ⟨rfl,congrArg _ (by rw [w64 (by omega) (by omega)];omega)⟩) (by rw [hnew];simp -implicitDefEqProofs only[go_sem,seval,↓reduceIte,ints_app];try rfl)⟩
    rw [show t0.length-(k+1)=i by omega,hdr,List.all_cons,hc,hI];rfl
  ·have hcf:isDig c=false:=by simpa using hc
   have hbad:t0.all isDig=false:=by rw [hall,hcf];simp
   have hc2:c.toNat<48∨57<c.toNat:=by
    rcases Nat.lt_or_ge c.toNat 48 with h | h
    ·exact .inl h
    ·rcases Nat.lt_or_ge 57 c.toNat with h1 | h1
     ·exact .inr h1
     ·exact absurd (by unfold isDig;simp [h,h1]) hc
   have hP:parseT t0 b0=(0,2):=by rw [parseT,if_pos (.inr (.inr hbad))]
   rcases hc2 with h | h
   ·have b1:decide ((c.toNat:Int)<48)=true:=by rw [decide_eq_true_iff];omega
    refine AW.seq_k fun K hK=>AW.region (by kernel_rfl) ?_
    simp -implicitDefEqProofs only[go_sem,seval,↓reduceIte,g2,b1]
    refine hK _ ?_
    clear hK K
    refine AW.condS (by simp -implicitDefEqProofs only[go_sem,seval,↓reduceIte];rfl) (fun h7=>?_) (fun h7=>?_)
    ·refine AW.seq_k fun K hK=>AW.region (by kernel_rfl) ?_
     simp -implicitDefEqProofs only[go_sem,seval,↓reduceIte]
     refine hK _ ?_
     clear hK K
     refine AW.ret ?_
     simp -implicitDefEqProofs only[go_sem,seval,↓reduceIte]
     refine endK_some ?_
     rw [hP];rfl
    ·cases h7
   ·have b1:decide ((c.toNat:Int)<48)=false:=by rw [decide_eq_false_iff_not];omega
    have b2:decide ((c.toNat:Int) > 57)=true:=by rw [decide_eq_true_iff];omega
    refine AW.seq_k fun K hK=>AW.region (by kernel_rfl) ?_
    simp -implicitDefEqProofs only[go_sem,seval,↓reduceIte,g2,b1,b2]
    refine hK _ ?_
    clear hK K
    refine AW.condS (by simp -implicitDefEqProofs only[go_sem,seval,↓reduceIte];rfl) (fun h7=>?_) (fun h7=>?_)
    ·refine AW.seq_k fun K hK=>AW.region (by kernel_rfl) ?_
     simp -implicitDefEqProofs only[go_sem,seval,↓reduceIte]
     refine hK _ ?_
     clear hK K
     refine AW.ret ?_
     simp -implicitDefEqProofs only[go_sem,seval,↓reduceIte]
     refine endK_some ?_
     rw [hP];rfl
    ·cases h7
 ·have hk1:k=t0.length:=by have:=of_decide_eq_false h4;omega
  subst hk1
  rw [Nat.sub_self,List.drop_zero] at hI ⊢
  have hP:parseT t0 b0=told (sgn b0 (val (t0.reverse.map dval))):=by
   rw [parseT,if_neg (by rw [hI];simp [hne,hno])]
   rfl
  have hdig:Dig (t0.reverse.map dval):=by
   intro d hd
   obtain ⟨c,h1,rfl⟩:=List.mem_map.1 hd
   have:=List.all_eq_true.1 hI c (List.mem_reverse.1 h1)
   unfold isDig at this
   unfold dval
   simp at this
   omega
  have hol:(t0.reverse.map dval).length<1000000:=by simp;omega
  generalize t0.reverse.map dval=out at hdig hol hP
  refine AW.exit ?_
  simp -implicitDefEqProofs only[go_sem,seval,↓reduceIte]
  refine hK4 _ ?_
  refine AW.weak (Weak.stF (fun o=>o==56) (l:=[(4,.bool b0),(5,encSl .new 1 (V.int .i64) (slD (decide (out=[])) out))]) (m:=[]) ?_ trivial) ?_
  ·simp -implicitDefEqProofs only[go_sem,seval,↓reduceIte]
   rw [← grownS_ints rfl]
   exact ⟨Fz.same _,Fz.grown rfl rfl (fun _=>rfl)⟩
  refine AW.seq_k fun K hK=>AW.region (by kernel_rfl) ?_
  simp -implicitDefEqProofs only[go_sem,seval,↓reduceIte]
  refine CallA.pure hG (by kernel_rfl) ?_
  simp -implicitDefEqProofs only[go_sem,seval,↓reduceIte]
  refine (trim_spec G hG _ (decide (out=[])) out (by simp) (by omega)).mono ?_
  rintro _ _ rfl
  rw [trim_val _ _ (Nat.le_refl _) hdig]
  have hnl:decide (out=[])=true→dg (val out)=[]:=by
   intro h
   have:=of_decide_eq_true h
   subst this
   rfl
  have hvl:(dg (val out)).length<1000000:=by
   have:=dg_len (val_lt hdig)
   omega
  simp -implicitDefEqProofs only[go_sem,seval,↓reduceIte]
  refine CallA.pure hG (by kernel_rfl) ?_
  simp -implicitDefEqProofs only[go_sem,seval,↓reduceIte]
  rw [← encLong]
  refine (rTold_spec G hG _ _ _ _ hnl (dig_dg _) hvl).mono ?_
  rintro _ _ rfl
  rw [val_dg]
  simp -implicitDefEqProofs only[go_sem,seval,↓reduceIte,encR]
  refine hK _ ?_
  clear hK K
  refine AW.ret ?_
  simp -implicitDefEqProofs only[go_sem,seval,↓reduceIte]
  refine endK_some ?_
  rw [hP]
  rfl
end Go.Hs
end

section
namespace Go.Hs
open Go.Proofs
set_option maxRecDepth 10000
theorem rNext_spec (G:Nat→V) (hG:GOk G) (sl:Sl Tk) (hT:TkOk sl.l) (g:Nat) (r:RS) (hr:r.i<1000000):RdS 1012 [] G 115 [] sl g r (.str (nextP sl.l r.i).text) r:=by
 intro gx
 refine Spec.of_code' 1000 50 [.tmp 2] Tryz.func115 rfl rfl rfl rfl fun X=>?_
 simp only [sets,rdO_K]
 refine AW.seq_k fun K hK=>AW.region (by kernel_rfl) ?_
 simp -implicitDefEqProofs only[go_sem,seval,↓reduceIte]
 refine hK _ ?_
 clear hK K
 refine AW.seq_k fun K1 hK1=>?_
 by_cases hi:r.i<sl.l.length
 ·have h1:decide ((r.i:Int)≥sl.l.length)=false:=by rw [decide_eq_false_iff_not];omega
  have hg:=List.getElem?_eq_getElem hi
  have hm:=hT.text _ (List.getElem_mem hi)
  generalize sl.l[r.i]=t at hg hm
  have hP:=nextP_some hg
  have p1:PureC Tryz.prog G 127 [.str t.text] (.int .u8 (isP t.text)):=⟨by kernel_rfl,by
   simp -implicitDefEqProofs only[go_sem,seval,↓reduceIte]
   refine (rIs_spec G hG t.text (by omega)).mono ?_
   rintro _ _ rfl
   rfl⟩
  by_cases hk:(isP t.text:Int)=t.kind
  ·rw [if_pos hk] at hP
   have e1:((isP t.text:Int) != t.kind)=false:=by simpa using hk
   refine AW.seq_k fun K hK=>AW.regionT ⟨fun i=>if i=22 then .int .u8 (isP t.text) else .top,fun _ => .pure⟩ (by kernel_rfl) hG (by kernel_rfl) (by kernel_rfl) ?_
   simp -implicitDefEqProofs only[go_sem,seval,↓reduceIte,h1,hg,encTk_K,e1]
   refine ⟨p1,?_⟩
   refine hK _ ?_
   clear hK K
   refine AW.condS (by simp -implicitDefEqProofs only[go_sem,seval,↓reduceIte];rfl) (fun h2=>?_) (fun h2=>?_)
   ·cases h2
   ·refine AW.skip ?_
    simp -implicitDefEqProofs only[go_sem,seval,↓reduceIte]
    refine hK1 _ ?_
    refine AW.seq_k fun K hK=>AW.regionT ⟨fun _ => .top,fun _ => .pure⟩ (by kernel_rfl) hG (by kernel_rfl) (by kernel_rfl) ?_
    simp -implicitDefEqProofs only[go_sem,seval,↓reduceIte,hg,encTk_K]
    refine hK _ ?_
    clear hK K
    refine AW.ret ?_
    simp -implicitDefEqProofs only[go_sem,seval,↓reduceIte]
    refine endK_some ?_
    exact ⟨by rw [hP],gx,by simp -implicitDefEqProofs only[go_sem,seval,↓reduceIte];try rfl,by simp -implicitDefEqProofs only[go_sem,seval,↓reduceIte];try rfl⟩
  ·rw [if_neg hk] at hP
   have e1:((isP t.text:Int) != t.kind)=true:=by simpa using hk
   refine AW.seq_k fun K hK=>AW.regionT ⟨fun i=>if i=22 then .int .u8 (isP t.text) else .top,fun _ => .pure⟩ (by kernel_rfl) hG (by kernel_rfl) (by kernel_rfl) ?_
   simp -implicitDefEqProofs only[go_sem,seval,↓reduceIte,h1,hg,encTk_K,e1]
   refine ⟨p1,?_⟩
   refine hK _ ?_
   clear hK K
   refine AW.condS (by simp -implicitDefEqProofs only[go_sem,seval,↓reduceIte];rfl) (fun h2=>?_) (fun h2=>?_)
   ·refine AW.seq_k fun K hK=>AW.region (by kernel_rfl) ?_
    simp -implicitDefEqProofs only[go_sem,seval,↓reduceIte]
    refine hK _ ?_
    clear hK K
    refine AW.ret ?_
    simp -implicitDefEqProofs only[go_sem,seval,↓reduceIte]
    refine endK_some ?_
    exact ⟨by rw [hP],gx,by simp -implicitDefEqProofs only[go_sem,seval,↓reduceIte];try rfl,by simp -implicitDefEqProofs only[go_sem,seval,↓reduceIte];try rfl⟩
   ·cases h2
 ·have h1:decide ((r.i:Int)≥sl.l.length)=true:=by rw [decide_eq_true_iff];omega
  have hP:=nextP_none (l:=sl.l) (i:=r.i) (by omega)
  refine AW.seq_k fun K hK=>AW.regionT ⟨fun _ => .top,fun _ => .pure⟩ (by kernel_rfl) hG (by kernel_rfl) (by kernel_rfl) ?_
  simp -implicitDefEqProofs only[go_sem,seval,↓reduceIte,h1]
  refine hK _ ?_
  clear hK K
  refine AW.condS (by simp -implicitDefEqProofs only[go_sem,seval,↓reduceIte];rfl) (fun h2=>?_) (fun h2=>?_)
  ·refine AW.seq_k fun K hK=>AW.region (by kernel_rfl) ?_
   simp -implicitDefEqProofs only[go_sem,seval,↓reduceIte]
   refine hK _ ?_
   clear hK K
   refine AW.ret ?_
   simp -implicitDefEqProofs only[go_sem,seval,↓reduceIte]
   refine endK_some ?_
   exact ⟨by rw [hP],gx,by simp -implicitDefEqProofs only[go_sem,seval,↓reduceIte];try rfl,by simp -implicitDefEqProofs only[go_sem,seval,↓reduceIte];try rfl⟩
  ·cases h2
theorem rLast_spec (G:Nat→V) (hG:GOk G) (sl:Sl Tk) (g:Nat) (r:RS) (hr:r.nodes.length<1000000):RdS 1012 [] G 82 [] sl g r (.int .i64 r.last) r:=by
 intro gx
 refine Spec.of_code' 1000 9 [.tmp 2] Tryz.func82 rfl rfl rfl rfl fun X=>?_
 simp only [sets,rdO_K]
 refine AW.seq_k fun K hK=>AW.region (by kernel_rfl) ?_
 simp -implicitDefEqProofs only[go_sem,seval,↓reduceIte]
 refine hK _ ?_
 clear hK K
 refine AW.seq_k fun K hK=>AW.region (by kernel_rfl) ?_
 simp -implicitDefEqProofs only[go_sem,seval,↓reduceIte]
 refine hK _ ?_
 clear hK K
 refine AW.ret ?_
 simp -implicitDefEqProofs only[go_sem,seval,↓reduceIte]
 refine endK_some ?_
 exact ⟨by rw [w64 (by omega) (by omega)];rfl,gx,by simp -implicitDefEqProofs only[go_sem,seval,↓reduceIte];try rfl,by simp -implicitDefEqProofs only[go_sem,seval,↓reduceIte];try rfl⟩
theorem rPutN_spec (G:Nat→V) (hG:GOk G) (sl:Sl Tk) (g:Nat) (r:RS) (hr:r.nodes.length<1000000) (n:XN) :
  RdS 1012 [] G 83 [encXN n] sl g r (.bool true) (r.put n):=by
 intro gx
 refine Spec.of_code' 1000 15 [.tmp 4] Tryz.func83 rfl rfl rfl rfl fun X=>?_
 simp only [sets,rdO_K,encXN_K]
 refine AW.seq_k fun K hK=>AW.region (by kernel_rfl) ?_
 simp -implicitDefEqProofs only[go_sem,seval,↓reduceIte]
 intro g3
 refine hK _ ?_
 clear hK K
 refine AW.weak (Weak.stF (fun o=>o==1003) (l:=[(0,.ptr 8 g 0),(3,.view .new (encXN n))])
  (m:=[(8,rdO 1012 [] sl g gx r),(1012,ndO gx r.nodes)]) ?_ ?_) ?_
 ·simp -implicitDefEqProofs only[go_sem,seval,↓reduceIte]
  exact ⟨Fz.same _,Fz.ptr (v:=encXN n) (c := .new) (fz:=0) rfl (by simp -implicitDefEqProofs only[go_sem,seval,↓reduceIte];try rfl)⟩
 ·simp only [allFzO_cons,allFzO_nil,and_true]
  exact ⟨FzO.keep rfl (by simp -implicitDefEqProofs only[go_sem,seval,↓reduceIte];try rfl),FzO.keep rfl (by simp -implicitDefEqProofs only[go_sem,seval,↓reduceIte];try rfl)⟩
 simp only [encXN_K]
 refine AW.later ?_
 refine AW.seq_k fun K hK=>AW.regionT ⟨fun _ => .top,fun _ => .pure⟩ (by kernel_rfl) hG (by kernel_rfl) (by kernel_rfl) ?_
 simp -implicitDefEqProofs only[go_sem,seval,↓reduceIte,rdO_K]
 intro g11
 refine app_grownC (f:=encXN) (l:=r.nodes) (l2:=[n]) (g:=gx) encXN_cells rfl rfl rfl (by simp -implicitDefEqProofs only[go_sem,seval,↓reduceIte];rfl) (roomOk_of (by omega) (by simp;omega)) fun c2 g2=>?_
 simp -implicitDefEqProofs only[go_sem,seval,↓reduceIte]
 refine hK _ ?_
 clear hK K
 refine AW.seq_k fun K hK=>AW.region (by kernel_rfl) ?_
 simp -implicitDefEqProofs only[go_sem,seval,↓reduceIte]
 refine hK _ ?_
 clear hK K
 refine AW.ret ?_
 simp -implicitDefEqProofs only[go_sem,seval,↓reduceIte]
 refine ⟨st [(4,.bool true)] [(8,rdO 1012 [] sl g g2 (r.put n)),(1012,ndO g2 (r.nodes++[n]))],Weak.stF (fun _=>false) ?_ ?_,?_⟩
 ·simp -implicitDefEqProofs only[go_sem,seval,↓reduceIte]
  exact Fz.same _
 ·simp only [allFzO_cons,allFzO_nil,and_true]
  exact ⟨FzO.keep rfl (by simp -implicitDefEqProofs only[go_sem,seval,↓reduceIte];rfl),FzO.grownC (c:=c2) rfl (by simp -implicitDefEqProofs only[go_sem,seval,↓reduceIte])⟩
 ·simp -implicitDefEqProofs only[go_sem,seval,↓reduceIte]
  exact endK_some ⟨rfl,g2,by simp -implicitDefEqProofs only[go_sem,seval,↓reduceIte];rfl,by simp -implicitDefEqProofs only[go_sem,seval,↓reduceIte];rfl⟩
theorem rLeaf_spec (G:Nat→V) (hG:GOk G) (sl:Sl Tk) (g:Nat) (r:RS) (hi:r.i<1000000) (hr:r.nodes.length<1000000) (op num:Int) (name:List UInt8) (x y z:Int) :
  RdS 1012 [] G 118 [encXN ⟨op,num,name,x,y,z⟩] sl g r (.bool true) (leafP r op num name).2:=by
 intro gx
 refine Spec.of_code' 1000 18 [.tmp 4] Tryz.func118 rfl rfl rfl rfl fun X=>?_
 have hw:IntKind.i64.wrap ((r.i:Int)+1)=((r.i+1:Nat):Int):=by rw [w64 (by omega) (by omega)];omega
 simp only [sets,rdO_K,encXN_K]
 refine AW.seq_k fun K hK=>AW.region (by kernel_rfl) ?_
 simp -implicitDefEqProofs only[go_sem,seval,↓reduceIte]
 intro g3
 refine hK _ ?_
 clear hK K
 refine AW.seq_k fun K hK=>AW.region (by kernel_rfl) ?_
 simp -implicitDefEqProofs only[go_sem,seval,↓reduceIte,hw]
 refine hK _ ?_
 clear hK K
 refine AW.seq_k fun K hK=>AW.region (by kernel_rfl) ?_
 simp -implicitDefEqProofs only[go_sem,seval,↓reduceIte]
 refine hK _ ?_
 clear hK K
 refine AW.seq_k fun K hK=>AW.region (by kernel_rfl) ?_
 simp -implicitDefEqProofs only[go_sem,seval,↓reduceIte]
 refine hK _ ?_
 clear hK K
 refine AW.seq_k fun K hK=>AW.region (by kernel_rfl) ?_
 simp -implicitDefEqProofs only[go_sem,seval,↓reduceIte]
 refine hK _ ?_
 clear hK K
 refine AW.seq_k fun K hK=>AW.region (by kernel_rfl) ?_
 simp -implicitDefEqProofs only[go_sem,seval,↓reduceIte]
 rw [← encXN_K ⟨op,num,name,-1,-1,-1⟩]
 refine RdS.call hG (rPutN_spec G hG sl g r.adv hr ⟨op,num,name,-1,-1,-1⟩) (gx:=gx) (by kernel_rfl) (fun F=>rfl) (by decide) (by first | rfl | (simp -implicitDefEqProofs only[go_sem,seval,↓reduceIte,List.map_cons,List.map_nil,encXN_K];try rfl)) (by first | rfl | (simp -implicitDefEqProofs only[go_sem,seval,↓reduceIte,List.map_cons,List.map_nil];try rfl)) (by first | rfl | (simp -implicitDefEqProofs only[go_sem,seval,↓reduceIte];try rfl)) (by first | rfl | (simp -implicitDefEqProofs only[go_sem,seval,↓reduceIte];try rfl)) fun gx'=>?_
 simp -implicitDefEqProofs only[go_sem,seval,↓reduceIte,sets]
 refine hK _ ?_
 clear hK K
 refine AW.ret ?_
 simp -implicitDefEqProofs only[go_sem,seval,↓reduceIte]
 refine endK_some ?_
 exact ⟨rfl,gx',by simp -implicitDefEqProofs only[go_sem,seval,↓reduceIte];rfl,by simp -implicitDefEqProofs only[go_sem,seval,↓reduceIte];rfl⟩
theorem rEats_spec (G:Nat→V) (hG:GOk G) (sl:Sl Tk) (hT:TkOk sl.l) (g:Nat) (r:RS) (hi:r.i<1000000) (w:List UInt8) :
  RdS 1012 [] G 116 [.str w] sl g r (.bool (eatR sl.l w r).1) (eatR sl.l w r).2:=by
 intro gx
 refine Spec.of_code' 1000 19 [.tmp 4] Tryz.func116 rfl rfl rfl rfl fun X=>?_
 have hw:IntKind.i64.wrap ((r.i:Int)+1)=((r.i+1:Nat):Int):=by rw [w64 (by omega) (by omega)];omega
 have hP:eatR sl.l w r=if (nextP sl.l r.i).text≠w then (false,r.err 80) else (true,r.adv):=rfl
 refine AW.seq_k fun K hK=>AW.region (by kernel_rfl) ?_
 simp -implicitDefEqProofs only[go_sem,seval,↓reduceIte]
 refine hK _ ?_
 clear hK K
 refine AW.seq_k fun K1 hK1=>?_
 refine AW.seq_k fun K hK=>AW.region (by kernel_rfl) ?_
 simp -implicitDefEqProofs only[go_sem,seval,↓reduceIte]
 refine RdS.call hG (rNext_spec G hG sl hT g r hi) (gx:=gx) (by kernel_rfl) (fun F=>rfl) (by decide) (by first | rfl | (simp -implicitDefEqProofs only[go_sem,seval,↓reduceIte,List.map_cons,List.map_nil,encXN_K];try rfl)) (by first | rfl | (simp -implicitDefEqProofs only[go_sem,seval,↓reduceIte,List.map_cons,List.map_nil];try rfl)) (by first | rfl | (simp -implicitDefEqProofs only[go_sem,seval,↓reduceIte];try rfl)) (by first | rfl | (simp -implicitDefEqProofs only[go_sem,seval,↓reduceIte];try rfl)) fun gx'=>?_
 simp -implicitDefEqProofs only[go_sem,seval,↓reduceIte,sets]
 refine hK _ ?_
 clear hK K
 generalize nextP sl.l r.i=t at hP ⊢
 by_cases ht:t.text=w
 ·rw [if_neg (by simpa using ht)] at hP
  refine AW.condS (by simp -implicitDefEqProofs only[go_sem,seval,↓reduceIte];rfl) (fun h2=>?_) (fun h2=>?_)
  ·rw [ht] at h2;simp at h2
  ·refine AW.skip ?_
   simp -implicitDefEqProofs only[go_sem,seval,↓reduceIte]
   refine hK1 _ ?_
   refine AW.seq_k fun K hK=>AW.region (by kernel_rfl) ?_
   simp -implicitDefEqProofs only[go_sem,seval,↓reduceIte,rdO_K,hw]
   refine hK _ ?_
   clear hK K
   refine AW.seq_k fun K hK=>AW.region (by kernel_rfl) ?_
   simp -implicitDefEqProofs only[go_sem,seval,↓reduceIte]
   refine hK _ ?_
   clear hK K
   refine AW.ret ?_
   simp -implicitDefEqProofs only[go_sem,seval,↓reduceIte]
   refine endK_some ?_
   rw [hP]
   exact ⟨rfl,gx',by simp -implicitDefEqProofs only[go_sem,seval,↓reduceIte];rfl,by simp -implicitDefEqProofs only[go_sem,seval,↓reduceIte];rfl⟩
 ·rw [if_pos ht] at hP
  refine AW.condS (by simp -implicitDefEqProofs only[go_sem,seval,↓reduceIte];rfl) (fun h2=>?_) (fun h2=>?_)
  ·refine AW.seq_k fun K hK=>AW.region (by kernel_rfl) ?_
   simp -implicitDefEqProofs only[go_sem,seval,↓reduceIte,rdO_K]
   refine hK _ ?_
   clear hK K
   refine AW.seq_k fun K hK=>AW.region (by kernel_rfl) ?_
   simp -implicitDefEqProofs only[go_sem,seval,↓reduceIte]
   refine hK _ ?_
   clear hK K
   refine AW.ret ?_
   simp -implicitDefEqProofs only[go_sem,seval,↓reduceIte]
   refine endK_some ?_
   rw [hP]
   exact ⟨rfl,gx',by simp -implicitDefEqProofs only[go_sem,seval,↓reduceIte];rfl,by simp -implicitDefEqProofs only[go_sem,seval,↓reduceIte];rfl⟩
  ·have h2:t.text=w:=by simpa using h2
   exact absurd h2 ht
theorem trimR_len:∀ t:List UInt8,(trimR t).length≤t.length
 | []=>Nat.le_refl _
 | [c]=>Nat.le_refl _
 | c::d::r=>by
  rw [trimR]
  split
  ·have:=trimR_len (d::r)
   simp only [List.length_cons] at this ⊢;omega
  ·exact Nat.le_refl _
theorem u8_eq48 (c:UInt8):((c.toNat:Int)==48)=(c==48):=by
 have:=u8_all (fun c=>((c.toNat:Int)==48)==(c==48)) (by decide +kernel) c
 simpa using this
theorem rNumber_spec (G:Nat→V) (hG:GOk G) (sl:Sl Tk) (g:Nat) (r:RS) (hi:r.i<1000000) (hr:r.nodes.length<1000000) (t:List UInt8) (ht:t.length<100000) :
  RdS 1012 [] G 119 [.str t] sl g r (.bool (numberR r t).1) (numberR r t).2:=by
 intro gx
 refine Spec.of_code' 1000 31 [.tmp 4] Tryz.func119 rfl rfl rfl rfl fun X=>?_
 have hP:numberR r t=if (parseR (trimR t)).2≠0 then (false,r.err 60) else leafP r 1 (parseR (trimR t)).1 []:=rfl
 have hl:=trimR_len t
 refine AW.seq_k fun K hK=>AW.region (by kernel_rfl) ?_
 simp -implicitDefEqProofs only[go_sem,seval,↓reduceIte]
 refine hK _ ?_
 clear hK K
 refine AW.seqJ (fun (_:Unit)=>st [(0,.ptr 8 g 0),(1,.str (trimR t))] [(8,rdO 1012 [] sl g gx r),(1012,ndO gx r.nodes)]) (fun _=>True) (fun K1 hK1=>?_) ?_
 ·refine AW.block ?_
  refine AW.while (fun (s:List UInt8)=>st [(0,.ptr 8 g 0),(1,.str s)] [(8,rdO 1012 [] sl g gx r),(1012,ndO gx r.nodes)])
   (fun s=>trimR s=trimR t∧s.length≤t.length) (fun s=>s.length) t ⟨rfl,Nat.le_refl _⟩ (Weak.st (by simp -implicitDefEqProofs only[go_sem,seval,↓reduceIte];try rfl) (by simp -implicitDefEqProofs only[go_sem,seval,↓reduceIte,sets];try rfl)) ?_
  rintro s ⟨hs,hsl⟩ L2 hL2
  refine AW.seq_k fun K3 hK3=>?_
  by_cases hlen:s.length > 1
  rotate_left
  ·have h1:decide ((s.length:Int) > 1)=false:=by rw [decide_eq_false_iff_not];omega
   have he:trimR s=s:=by
    match s,hlen with
    | [],_=>rfl
    | [c],_=>rfl
    | c::d::r,h=>simp at h
   refine AW.seq_k fun K hK=>AW.region (by kernel_rfl) ?_
   simp -implicitDefEqProofs only[go_sem,seval,↓reduceIte,h1]
   refine hK _ ?_
   clear hK K
   refine AW.condS (by simp -implicitDefEqProofs only[go_sem,seval,↓reduceIte];rfl) (fun h14=>?_) (fun h14=>?_)
   ·cases h14
   refine AW.exit ?_
   simp -implicitDefEqProofs only[go_sem,seval,↓reduceIte]
   exact hK1 _ () trivial (Weak.st (by rw [← hs,he];simp -implicitDefEqProofs only[go_sem,seval,↓reduceIte];try rfl) (by simp -implicitDefEqProofs only[go_sem,seval,↓reduceIte];try rfl))
  have h1:decide ((s.length:Int) > 1)=true:=by rw [decide_eq_true_iff];omega
  obtain ⟨c,d,q,hq⟩:∃ c d q,s=c::d::q:=by
   match s,hlen with
   | c::d::q,_=>exact ⟨c,d,q,rfl⟩
  have hg:s[0]? = some c:=by rw [hq];rfl
  have hdr:(s.drop 1).take (s.length-1)=d::q:=by rw [hq];simp
  have hT:trimR s=if c=48 then trimR (d::q) else s:=by rw [hq];rfl
  have hll:(d::q).length+1=s.length:=by rw [hq];simp
  by_cases hc:c=48
  ·have e1:(c==48)=true:=by simpa using hc
   rw [if_pos hc] at hT
   refine AW.seq_k fun K hK=>AW.region (by kernel_rfl) ?_
   simp -implicitDefEqProofs only[go_sem,seval,↓reduceIte,h1,hg,u8_eq48,e1]
   refine hK _ ?_
   clear hK K
   refine AW.condS (by simp -implicitDefEqProofs only[go_sem,seval,↓reduceIte];rfl) (fun h14=>?_) (fun h14=>?_)
   rotate_left
   ·cases h14
   refine AW.skip ?_
   simp -implicitDefEqProofs only[go_sem,seval,↓reduceIte]
   refine hK3 _ ?_
   refine AW.block ?_
   have hb:1≤s.length:=by omega
   refine AW.region (by kernel_rfl) ?_
   simp -implicitDefEqProofs only[go_sem,seval,↓reduceIte,hb,hdr,Nat.le_refl]
   exact hL2 _ ⟨d::q,by omega,⟨by rw [← hT];exact hs,by omega⟩,Weak.st (by simp -implicitDefEqProofs only[go_sem,seval,↓reduceIte];try rfl) (by simp -implicitDefEqProofs only[go_sem,seval,↓reduceIte];try rfl)⟩
  ·have e1:(c==48)=false:=by simpa using hc
   rw [if_neg hc] at hT
   refine AW.seq_k fun K hK=>AW.region (by kernel_rfl) ?_
   simp -implicitDefEqProofs only[go_sem,seval,↓reduceIte,h1,hg,u8_eq48,e1]
   refine hK _ ?_
   clear hK K
   refine AW.condS (by simp -implicitDefEqProofs only[go_sem,seval,↓reduceIte];rfl) (fun h14=>?_) (fun h14=>?_)
   ·cases h14
   refine AW.exit ?_
   simp -implicitDefEqProofs only[go_sem,seval,↓reduceIte]
   exact hK1 _ () trivial (Weak.st (by rw [← hs,hT];simp -implicitDefEqProofs only[go_sem,seval,↓reduceIte];try rfl) (by simp -implicitDefEqProofs only[go_sem,seval,↓reduceIte];try rfl))
 intro _ _
 generalize trimR t=s at hP hl ⊢
 refine AW.seq_k fun K hK=>AW.region (by kernel_rfl) ?_
 simp -implicitDefEqProofs only[go_sem,seval,↓reduceIte]
 refine CallA.pure hG (by kernel_rfl) ?_
 simp -implicitDefEqProofs only[go_sem,seval,↓reduceIte]
 refine (rParse_spec G hG s (by omega)).mono ?_
 rintro _ _ rfl
 generalize parseR s=q at hP ⊢
 obtain ⟨n,e⟩:=q
 simp only at hP
 simp -implicitDefEqProofs only[go_sem,seval,↓reduceIte,encR]
 refine hK _ ?_
 clear hK K
 refine AW.seq_k fun K3 hK3=>?_
 by_cases he:e=0
 ·have e1:(e==0)=true:=by simpa using he
  rw [if_neg (show ¬ e≠0 by simpa using he)] at hP
  refine AW.seq_k fun K hK=>AW.region (by kernel_rfl) ?_
  simp -implicitDefEqProofs only[go_sem,seval,↓reduceIte,bne,e1]
  refine hK _ ?_
  clear hK K
  refine AW.condS (by simp -implicitDefEqProofs only[go_sem,seval,↓reduceIte];rfl) (fun h4=>?_) (fun h4=>?_)
  ·cases h4
  ·refine AW.skip ?_
   simp -implicitDefEqProofs only[go_sem,seval,↓reduceIte]
   refine hK3 _ ?_
   refine AW.seq_k fun K hK=>AW.region (by kernel_rfl) ?_
   simp -implicitDefEqProofs only[go_sem,seval,↓reduceIte]
   rw [← encXN_K ⟨1,n,[],0,0,0⟩]
   refine RdS.call hG (rLeaf_spec G hG sl g r hi hr 1 n [] 0 0 0) (gx:=gx) (by kernel_rfl) (fun F=>rfl) (by decide) (by first | rfl | (simp -implicitDefEqProofs only[go_sem,seval,↓reduceIte,List.map_cons,List.map_nil,encXN_K];try rfl)) (by first | rfl | (simp -implicitDefEqProofs only[go_sem,seval,↓reduceIte,List.map_cons,List.map_nil];try rfl)) (by first | rfl | (simp -implicitDefEqProofs only[go_sem,seval,↓reduceIte];try rfl)) (by first | rfl | (simp -implicitDefEqProofs only[go_sem,seval,↓reduceIte];try rfl)) fun gx'=>?_
   simp -implicitDefEqProofs only[go_sem,seval,↓reduceIte,sets]
   refine hK _ ?_
   clear hK K
   refine AW.ret ?_
   simp -implicitDefEqProofs only[go_sem,seval,↓reduceIte]
   refine endK_some ?_
   rw [hP]
   exact ⟨rfl,gx',by simp -implicitDefEqProofs only[go_sem,seval,↓reduceIte];try rfl,by simp -implicitDefEqProofs only[go_sem,seval,↓reduceIte];try rfl⟩
 ·have e1:(e==0)=false:=by simpa using he
  rw [if_pos he] at hP
  refine AW.seq_k fun K hK=>AW.region (by kernel_rfl) ?_
  simp -implicitDefEqProofs only[go_sem,seval,↓reduceIte,bne,e1]
  refine hK _ ?_
  clear hK K
  refine AW.condS (by simp -implicitDefEqProofs only[go_sem,seval,↓reduceIte];rfl) (fun h4=>?_) (fun h4=>?_)
  ·refine AW.seq_k fun K hK=>AW.region (by kernel_rfl) ?_
   simp -implicitDefEqProofs only[go_sem,seval,↓reduceIte,rdO_K]
   refine hK _ ?_
   clear hK K
   refine AW.seq_k fun K hK=>AW.region (by kernel_rfl) ?_
   simp -implicitDefEqProofs only[go_sem,seval,↓reduceIte]
   refine hK _ ?_
   clear hK K
   refine AW.ret ?_
   simp -implicitDefEqProofs only[go_sem,seval,↓reduceIte]
   refine endK_some ?_
   rw [hP]
   exact ⟨rfl,gx,by simp -implicitDefEqProofs only[go_sem,seval,↓reduceIte];try rfl,by simp -implicitDefEqProofs only[go_sem,seval,↓reduceIte];try rfl⟩
  ·cases h4
end Go.Hs
end
