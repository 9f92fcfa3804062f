/- Part 38 of the proof of a statement of seat YtohdjmgdaaipaaaGreatDoor: HsExprLaw HsHExprOf HsHExpr1 HsHNumRefP HsHRedR HsExprBal HsHRedR2 HsExprTree HsExprGram HsHRedR3 HsHRedR4 HsHExpr2. -/
import Derived.Test.YtohdjmgdaaipaaaGreatDoorPart32
import Derived.Test.YtohdjmgdaaipaaaGreatDoorPart36
import Derived.Test.YtohdjmgdaaipaaaGreatDoorPart37
set_option linter.unusedSimpArgs false
set_option linter.unusedVariables false
section
namespace Go.Hs
open Go
structure XN where
 op:Int
 num:Int
 name:List UInt8
 a:Int
 b:Int
 c:Int
 deriving DecidableEq,Inhabited
structure Sg where
 text:List UInt8
 level:Int
 parts:Int
 deriving DecidableEq,Inhabited
def tabL:List Sg:=[⟨[],0,0⟩,⟨[],10,0⟩,⟨[],10,0⟩,⟨[116,114,117,101],10,0⟩,⟨[102,97,108,115,101],10,0⟩,⟨[45],9,1⟩,⟨[110,111,116],9,1⟩,
 ⟨[42],8,2⟩,⟨[100,105,118],8,2⟩,⟨[109,111,100],8,2⟩,⟨[43],7,2⟩,⟨[45],7,2⟩,⟨[60],6,2⟩,⟨[60,61],6,2⟩,⟨[62],6,2⟩,⟨[62,61],6,2⟩,⟨[61],5,2⟩,⟨[60,62],5,2⟩,
 ⟨[97,110,100],4,2⟩,⟨[111,114],3,2⟩,⟨[120,111,114],2,2⟩,⟨[105,109,112,108,105,101,115],1,2⟩,⟨[105,102],10,3⟩]
def sgIs (t:List UInt8) (p:Int) (s:Sg):Bool:=s.text==t && s.parts==p && !(s.text==[])
def ofI (t:List UInt8) (p:Int):Option Nat:=tabL.findIdx? (sgIs t p)
def ofP (t:List UInt8) (p:Int):Nat × Bool:=match ofI t p with | some i=>(i,true) | none=>(0,false)
def lvl (op:Nat):Int:=(tabL.getD op ⟨[],0,0⟩).level
theorem ofI_some {t:List UInt8} {p:Int} {i:Nat} (h:ofI t p=some i):∃ s,tabL[i]? = some s∧s.text=t∧s.parts=p∧t≠[]:=by
 obtain ⟨h1,h2,_⟩:=List.findIdx?_eq_some_iff_getElem.1 h;refine ⟨tabL[i],List.getElem?_eq_getElem h1,?_⟩;unfold sgIs at h2;simp only [Bool.and_eq_true,beq_iff_eq,Bool.not_eq_true',beq_eq_false_iff_ne] at h2;exact ⟨h2.1.1,h2.1.2,by rw [← h2.1.1];exact h2.2⟩
theorem ofI_one {t:List UInt8} {i:Nat} (h:ofI t 1=some i):t=[45]∧i=5∨t=[110,111,116]∧i=6:=by
 obtain ⟨s,h1,h2,h3,_⟩:=ofI_some h
 have hi:i<23:=by rw [List.getElem?_eq_some_iff] at h1;exact h1.1
 have key:∀ i,i<23→∀ s,tabL[i]? = some s→s.parts=1→s.text=[45]∧i=5∨s.text=[110,111,116]∧i=6:=by
  intro i hi s h1 h3
  have:∀ i,i<23→(tabL[i]?.map (·.parts))=some 1→(tabL[i]?.map (·.text))=some [45]∧i=5∨(tabL[i]?.map (·.text))=some [110,111,116]∧i=6:=by decide +kernel
  have:=this i hi (by rw [h1];simp [h3]);rw [h1] at this;simpa using this
 rw [← h2];exact key i hi s h1 h3
theorem ofI_zero {t:List UInt8} {i:Nat} (h:ofI t 0=some i):t=[116,114,117,101]∧i=3∨t=[102,97,108,115,101]∧i=4:=by
 obtain ⟨s,h1,h2,h3,h4⟩:=ofI_some h
 have hi:i<23:=by rw [List.getElem?_eq_some_iff] at h1;exact h1.1
 have key:∀ i,i<23→∀ s,tabL[i]? = some s→s.parts=0→s.text≠[]→s.text=[116,114,117,101]∧i=3∨s.text=[102,97,108,115,101]∧i=4:=by
  intro i hi s h1 h3
  have:((List.range 23).all fun i=>match tabL[i]? with | some s => !(s.parts==0) || s.text==[] || (s.text==[116,114,117,101] && i==3) || (s.text==[102,97,108,115,101] && i==4) | none=>true)=true:=by decide +kernel
  have:=List.all_eq_true.1 this i (List.mem_range.2 hi);intro h4;rw [h1] at this;simp only [h3,Bool.or_eq_true,Bool.and_eq_true,beq_iff_eq,h4,or_false] at this;simpa using this
 rw [← h2];exact key i hi s h1 h3 (by rw [h2];exact h4)
theorem ofI_two {t:List UInt8} {i:Nat} (h:ofI t 2=some i):7≤i∧i≤21∧1≤lvl i∧lvl i≤8∧isP t≠0:=by
 obtain ⟨s,h1,h2,h3,_⟩:=ofI_some h
 have hi:i<23:=by rw [List.getElem?_eq_some_iff] at h1;exact h1.1
 have key:∀ i,i<23→(tabL[i]?.map (·.parts))=some 2→7≤i∧i≤21∧1≤lvl i∧lvl i≤8∧(tabL[i]?.map fun s=>isP s.text)≠some 0:=by decide +kernel
 have:=key i hi (by rw [h1];simp [h3]);rw [h1] at this;rw [← h2];simpa using this
def nextP (l:List Tk) (i:Nat):Tk:=match l[i]? with
 | some t=>if (isP t.text:Int)=t.kind then t else ⟨0,[],0⟩
 | none=>⟨0,[],0⟩
theorem nextP_is (l:List Tk) (i:Nat):(isP (nextP l i).text:Int)=(nextP l i).kind:=by
 unfold nextP
 split
 ·split
  ·assumption
  ·rfl
 ·rfl
theorem nextP_lt {l:List Tk} {i:Nat} (h:(nextP l i).kind≠0):i<l.length:=by
 rw [← Nat.not_le];intro h2;apply h;unfold nextP;rw [List.getElem?_eq_none h2]
structure RS where
 i:Nat
 nodes:List XN
 e:Int
 deriving DecidableEq,Inhabited
def RS.put (r:RS) (n:XN):RS:={ r with nodes:=r.nodes++[n] }
def RS.last (r:RS):Int:=(r.nodes.length:Int)-1
def RS.adv (r:RS):RS:={ r with i:=r.i+1 }
def RS.err (r:RS) (e:Int):RS:={ r with e:=e }
@[simp] theorem RS.put_i (r:RS) (n:XN):(r.put n).i=r.i:=rfl
@[simp] theorem RS.adv_i (r:RS):r.adv.i=r.i+1:=rfl
@[simp] theorem RS.err_i (r:RS) (e:Int):(r.err e).i=r.i:=rfl
abbrev Inner:=Int→RS→Bool × RS
def andThen (x:Bool × RS) (k:RS→Bool × RS):Bool × RS:=if x.1 then k x.2 else (false,x.2)
theorem andThen_true (r:RS) (k:RS→Bool × RS):andThen (true,r) k=k r:=rfl
theorem andThen_false (r:RS) (k:RS→Bool × RS):andThen (false,r) k=(false,r):=rfl
theorem andThen_assoc (x:Bool × RS) (k k':RS→Bool × RS):andThen (andThen x k) k'=andThen x fun r=>andThen (k r) k':=by
 obtain ⟨b,r⟩:=x
 cases b<;>rfl
theorem andThen_congr {x:Bool × RS} {k k':RS→Bool × RS} (h:x.1=true→k x.2=k' x.2):andThen x k=andThen x k':=by
 obtain ⟨b,r⟩:=x;cases b
 ·rfl
 ·exact h rfl
def eatP (l:List Tk) (w:List UInt8) (r:RS):Bool × RS:=if (nextP l r.i).kind=0∨(nextP l r.i).text≠w then (false,r.err 80) else (true,r.adv)
def leafP (r:RS) (op num:Int) (name:List UInt8):Bool × RS:=(true,r.adv.put ⟨op,num,name,-1,-1,-1⟩)
def trim0 (t:List UInt8):List UInt8:=if t.dropWhile (· == 48)=[] then [48] else t.dropWhile (· == 48)
def numberP (r:RS) (t:List UInt8):Bool × RS:=if (parseR (trim0 t)).2≠0 then (false,r.err (parseR (trim0 t)).2) else leafP r 1 (parseR (trim0 t)).1 []
def wIf:List UInt8:=[105,102]
def wThen:List UInt8:=[116,104,101,110]
def wElse:List UInt8:=[101,108,115,101]
def wEndif:List UInt8:=[101,110,100,105,102]
def branchesP (l:List Tk) (inner:Inner) (r:RS):Bool × RS :=
 andThen (eatP l wIf r) fun r1=>andThen (inner 1 r1) fun a=>andThen (eatP l wThen a) fun r2=>andThen (inner 1 r2) fun b =>
 andThen (eatP l wElse b) fun r3=>andThen (inner 1 r3) fun c=>andThen (eatP l wEndif c) fun r4=>(true,r4.put ⟨22,0,[],a.last,b.last,c.last⟩)
def aheadP (l:List Tk) (inner:Inner) (r:RS):Bool × RS :=
 if (nextP l r.i).kind=1 then numberP r (nextP l r.i).text
 else if (nextP l r.i).kind=2 then leafP r 2 0 (nextP l r.i).text
 else if (nextP l r.i).kind=0 then (false,r.err 80)
 else if (ofP (nextP l r.i).text 1).2 then andThen (inner 9 r.adv) fun a=>(true,a.put ⟨(ofP (nextP l r.i).text 1).1,0,[],a.last,-1,-1⟩)
 else if (nextP l r.i).text=[40] then andThen (inner 1 r.adv) (eatP l [41])
 else if (nextP l r.i).text=wIf then branchesP l inner r
 else if (ofP (nextP l r.i).text 0).2∧(nextP l r.i).kind=3 then leafP r (ofP (nextP l r.i).text 0).1 0 []
 else (false,r.err 80)
def opAt (l:List Tk) (i:Nat):Option Nat:=if (nextP l i).kind=0 then none else ofI (nextP l i).text 2
def loopP (l:List Tk) (inner:Inner) (n:Int):Nat→RS→Bool × RS
 | 0,r=>(true,r)
 | m+1,r=>match opAt l r.i with
  | none=>(true,r)
  | some op=>if lvl op<n then (true,r) else andThen (inner (lvl op+1) r.adv) fun a=>loopP l inner n m (a.put ⟨op,0,[],r.last,a.last,-1⟩)
def climbP (l:List Tk):Nat→Inner
 | 0,_,r=>(false,r)
 | f+1,n,r=>andThen (aheadP l (climbP l f) r) (loopP l (climbP l f) n (l.length+1))
def trimR:List UInt8→List UInt8
 | c::d::r=>if c=48 then trimR (d::r) else c::d::r
 | s=>s
def numberR (r:RS) (t:List UInt8):Bool × RS:=if (parseR (trimR t)).2≠0 then (false,r.err 60) else leafP r 1 (parseR (trimR t)).1 []
def eatR (l:List Tk) (w:List UInt8) (r:RS):Bool × RS:=if (nextP l r.i).text≠w then (false,r.err 80) else (true,r.adv)
def branchesR (l:List Tk) (inner:Inner) (r:RS):Bool × RS :=
 andThen (inner 1 r.adv) fun a=>andThen (eatR l wThen a) fun r2=>andThen (inner 1 r2) fun b =>
 andThen (eatR l wElse b) fun r3=>andThen (inner 1 r3) fun c=>andThen (eatR l wEndif c) fun r4=>(true,r4.put ⟨22,0,[],a.last,b.last,c.last⟩)
def primR (l:List Tk) (inner:Inner) (r:RS):Bool × RS :=
 if (nextP l r.i).text=[40] then andThen (inner 1 r.adv) (eatR l [41])
 else if (nextP l r.i).text=wIf then branchesR l inner r
 else if (nextP l r.i).text=[116,114,117,101] then leafP r 3 0 []
 else if (nextP l r.i).text=[102,97,108,115,101] then leafP r 4 0 []
 else if (nextP l r.i).text≠[]∧(nextP l r.i).kind=1 then numberR r (nextP l r.i).text
 else if (nextP l r.i).text≠[]∧(nextP l r.i).kind=2 then leafP r 2 0 (nextP l r.i).text
 else (false,r.err 80)
def unR (l:List Tk) (inner:Inner) (r:RS):Bool × RS :=
 if (nextP l r.i).text=[45] then andThen (inner 9 r.adv) fun a=>(true,a.put ⟨5,0,[],a.last,-1,-1⟩)
 else if (nextP l r.i).text=[110,111,116] then andThen (inner 9 r.adv) fun a=>(true,a.put ⟨6,0,[],a.last,-1,-1⟩)
 else primR l inner r
def twoR (l:List Tk) (n:Int) (i:Nat):Nat:=match ofI (nextP l i).text 2 with | some op=>if lvl op=n then op else 0 | none=>0
def tailR (l:List Tk) (inner:Inner) (n:Int):Nat→RS→Bool × RS
 | 0,r=>(true,r)
 | m+1,r=>if twoR l n r.i=0 then (true,r) else andThen (inner (n+1) r.adv) fun a=>tailR l inner n m (a.put ⟨twoR l n r.i,0,[],r.last,a.last,-1⟩)
def levK (l:List Tk) (inner:Inner):Nat→RS→Bool × RS
 | 0,r=>unR l inner r
 | k+1,r=>andThen (levK l inner k r) (tailR l inner (8-k) (l.length+1))
def Mono (inner:Inner):Prop:=∀ n r,r.i≤(inner n r).2.i
theorem andThen_mono {x:Bool × RS} {k:RS→Bool × RS} {a:Nat} (h:a≤x.2.i) (hk:∀ r,x.2.i≤r.i→r.i≤(k r).2.i):a≤(andThen x k).2.i:=by
 obtain ⟨b,r⟩:=x;cases b
 ·exact h
 ·exact Nat.le_trans h (hk r (Nat.le_refl _))
theorem eatP_mono (l:List Tk) (w:List UInt8) (r:RS):r.i≤(eatP l w r).2.i:=by
 unfold eatP;split
 ·exact Nat.le_refl _
 ·exact Nat.le_succ _
theorem leafP_mono (r:RS) (op num:Int) (name:List UInt8):r.i≤(leafP r op num name).2.i:=Nat.le_succ _
theorem numberP_mono (r:RS) (t:List UInt8):r.i≤(numberP r t).2.i:=by
 unfold numberP;split
 ·exact Nat.le_refl _
 ·exact leafP_mono _ _ _ _
theorem branchesP_mono {l:List Tk} {inner:Inner} (h:Mono inner) (r:RS):r.i≤(branchesP l inner r).2.i:=by
 unfold branchesP;refine andThen_mono (eatP_mono _ _ _) fun r1 _=>andThen_mono (h _ _) fun a _=>andThen_mono (eatP_mono _ _ _) fun r2 _=>andThen_mono (h _ _) fun b _=>andThen_mono (eatP_mono _ _ _) fun r3 _=>andThen_mono (h _ _) fun c _=>andThen_mono (eatP_mono _ _ _) fun r4 _=>Nat.le_refl _
theorem aheadP_mono {l:List Tk} {inner:Inner} (h:Mono inner) (r:RS):r.i≤(aheadP l inner r).2.i:=by
 have h1:r.i≤r.adv.i:=Nat.le_succ _;unfold aheadP
 split
 ·exact numberP_mono _ _
 split
 ·exact leafP_mono _ _ _ _
 split
 ·exact Nat.le_refl _
 split
 ·exact andThen_mono (Nat.le_trans h1 (h _ _)) fun a _=>Nat.le_refl _
 split
 ·exact andThen_mono (Nat.le_trans h1 (h _ _)) fun a _=>eatP_mono _ _ _
 split
 ·exact branchesP_mono h r
 split
 ·exact leafP_mono _ _ _ _
 ·exact Nat.le_refl _
theorem loopP_mono {l:List Tk} {inner:Inner} (h:Mono inner) (n:Int):∀ (m:Nat) (r:RS),r.i≤(loopP l inner n m r).2.i
 | 0,r=>Nat.le_refl _
 | m+1,r=>by
  rw [loopP]
  split
  ·exact Nat.le_refl _
  ·split
   ·exact Nat.le_refl _
   ·exact andThen_mono (Nat.le_trans (Nat.le_succ _) (h _ r.adv)) fun a _=>loopP_mono h n m (a.put _)
theorem climbP_mono (l:List Tk):∀ f,Mono (climbP l f)
 | 0=>fun _ _=>Nat.le_refl _
 | f+1=>fun n r=>by
  rw [climbP];exact andThen_mono (aheadP_mono (climbP_mono l f) r) fun a _=>loopP_mono (climbP_mono l f) n _ a
def Ends (l:List Tk) (n:Int) (i:Nat):Prop:=∀ op,opAt l i=some op→lvl op<n
theorem opAt_lt {l:List Tk} {i op:Nat} (h:opAt l i=some op):i<l.length:=by
 unfold opAt at h
 split at h
 ·cases h
 ·exact nextP_lt (by assumption)
theorem loopP_ends {l:List Tk} {inner:Inner} (h:Mono inner) (n:Int):∀ (m:Nat) (r:RS),l.length<m+r.i→(loopP l inner n m r).1=true→Ends l n (loopP l inner n m r).2.i
 | 0,r,hm,_=>fun op ho=>by have h2:r.i<l.length:=opAt_lt ho;omega
 | m+1,r,hm,hb=>by
  rw [loopP] at hb ⊢
  cases ho:opAt l r.i with
  | none =>
   intro op h2;have h2:opAt l r.i=some op:=h2;rw [ho] at h2;cases h2
  | some op =>
   rw [ho] at hb;simp only at hb ⊢
   by_cases hl:lvl op<n
   ·rw [if_pos hl] at hb ⊢
    intro op' h2;have h2:opAt l r.i=some op':=h2;rw [ho] at h2;cases h2;exact hl
   ·rw [if_neg hl] at hb ⊢
    have h3:=h (lvl op+1) r.adv;generalize inner (lvl op+1) r.adv=x at hb h3 ⊢;obtain ⟨b,a⟩:=x;cases b
    ·cases hb
    ·exact loopP_ends h n m _ (by have:r.i+1≤a.i:=h3;simp only [RS.put_i];omega) hb
theorem climbP_ends {l:List Tk} {f:Nat} {n:Int} {r:RS} (hb:(climbP l f n r).1=true):Ends l n (climbP l f n r).2.i:=by
 cases f with
 | zero=>cases hb
 | succ f =>
  rw [climbP] at hb ⊢;generalize aheadP l (climbP l f) r=x at hb ⊢;obtain ⟨b,a⟩:=x;cases b
  ·cases hb
  ·exact loopP_ends (climbP_mono l f) n _ a (by omega) hb
theorem opAt_two {l:List Tk} {i:Nat}:opAt l i=ofI (nextP l i).text 2:=by
 unfold opAt
 split
 ·rename_i h
  cases ho:ofI (nextP l i).text 2 with
  | none=>rfl
  | some op =>
   have h1:=(ofI_two ho).2.2.2.2;have h2:=nextP_is l i;rw [h] at h2;omega
 ·rfl
theorem twoR_none {l:List Tk} {n:Int} {i:Nat} (h:opAt l i=none):twoR l n i=0:=by
 unfold twoR;rw [← opAt_two,h]
theorem twoR_some {l:List Tk} {n:Int} {i op:Nat} (h:opAt l i=some op):twoR l n i=if lvl op=n then op else 0:=by
 unfold twoR;rw [← opAt_two,h]
theorem op_pos {l:List Tk} {i op:Nat} (h:opAt l i=some op):7≤op∧op≤21∧1≤lvl op∧lvl op≤8:=by
 rw [opAt_two] at h;obtain ⟨h1,h2,h3,h4,_⟩:=ofI_two h;exact ⟨h1,h2,h3,h4⟩
theorem tailR_fuel {l:List Tk} {inner:Inner} (h:Mono inner) (n:Int):∀ (m m':Nat) (r:RS),l.length<m+r.i→l.length<m'+r.i→tailR l inner n m r=tailR l inner n m' r
 | 0,m',r,h1,_=>by
  cases m' with
  | zero=>rfl
  | succ m' =>
   rw [tailR,tailR,if_pos];apply twoR_none
   cases ho:opAt l r.i with
   | none=>rfl
   | some op=>have:=opAt_lt ho;omega
 | m+1,0,r,_,h2=>by
  rw [tailR,tailR,if_pos];apply twoR_none
  cases ho:opAt l r.i with
  | none=>rfl
  | some op=>have:=opAt_lt ho;omega
 | m+1,m'+1,r,h1,h2=>by
  rw [tailR,tailR]
  split
  ·rfl
  ·refine andThen_congr fun _=>?_
   have h3:r.i+1≤_:=h (n+1) r.adv;exact tailR_fuel h n m m' _ (by simp only [RS.put_i];omega) (by simp only [RS.put_i];omega)
theorem loop_split {l:List Tk} {inner:Inner} (h:Mono inner) (n:Int) (he:∀ r,(inner (n+1) r).1=true→Ends l (n+1) (inner (n+1) r).2.i) :
  ∀ (m:Nat) (r:RS),l.length<m+r.i→loopP l inner n m r=andThen (loopP l inner (n+1) m r) (tailR l inner n m)
 | 0,r,hm=>rfl
 | m+1,r,hm=>by
  rw [loopP,loopP]
  cases ho:opAt l r.i with
  | none =>
   simp only;rw [andThen_true,tailR,if_pos (twoR_none ho)]
  | some op =>
   have hop:=op_pos ho;simp only
   by_cases h1:lvl op<n
   ·rw [if_pos h1,if_pos (by omega),andThen_true,tailR,if_pos (by rw [twoR_some ho,if_neg (by omega)])]
   ·rw [if_neg h1]
    by_cases h2:lvl op<n+1
    ·have h3:lvl op=n:=by omega
     have h4:twoR l n r.i=op:=by rw [twoR_some ho,if_pos h3]
     rw [if_pos h2,andThen_true,tailR,h4,if_neg (by omega),h3];refine andThen_congr fun hb=>?_;have h5:=he r.adv hb;have h6:r.i+1≤_:=h (n+1) r.adv;generalize inner (n+1) r.adv=x at hb h5 h6 ⊢;obtain ⟨b,a⟩:=x;rw [loop_split h n he m _ (by simp only [RS.put_i];simp only at h6;omega)]
     have h7:loopP l inner (n+1) m (a.put ⟨op,0,[],r.last,a.last,-1⟩)=(true,a.put ⟨op,0,[],r.last,a.last,-1⟩):=by
      cases m with
      | zero=>rfl
      | succ m =>
       rw [loopP]
       cases ho2:opAt l (a.put ⟨op,0,[],r.last,a.last,-1⟩).i with
       | none=>rfl
       | some op2=>simp only;rw [if_pos (h5 op2 ho2)]
     rw [h7,andThen_true]
    ·rw [if_neg h2,andThen_assoc]
     refine andThen_congr fun hb=>?_;have h6:r.i+1≤_:=h (lvl op+1) r.adv;generalize inner (lvl op+1) r.adv=x at hb h6 ⊢;obtain ⟨b,a⟩:=x;simp only at h6;rw [loop_split h n he m _ (by simp only [RS.put_i];omega)];refine andThen_congr fun _=>?_;have h8:a.i≤_:=loopP_mono (l:=l) h (n+1) m (a.put ⟨op,0,[],r.last,a.last,-1⟩)
     show tailR l inner n m (loopP l inner (n+1) m (a.put ⟨op,0,[],r.last,a.last,-1⟩)).2=_
     exact tailR_fuel h n _ _ _ (by omega) (by omega)
theorem trimR_eq:∀ {t:List UInt8},t≠[]→trimR t=trim0 t
 | [],h=>absurd rfl h
 | [c],_=>by
  unfold trim0
  by_cases h:c=48
  ·subst h;rfl
  ·have:(c==48)=false:=by simpa using h
   simp [trimR,List.dropWhile,this]
 | c::d::r,_=>by
  rw [trimR]
  by_cases h:c=48
  ·subst h
   rw [if_pos rfl,trimR_eq (t:=d::r) (by simp)];unfold trim0;rw [show (48::d::r:List UInt8).dropWhile (· == 48)=(d::r).dropWhile (· == 48) from rfl]
  ·have:(c==48)=false:=by simpa using h
   rw [if_neg h];unfold trim0;simp [List.dropWhile,this]
theorem isP_dig {t:List UInt8} (h:isP t=1):t≠[]∧t.all isDig=true:=by
 rw [isP_whole] at h
 split at h
 ·cases h
 ·match t with
  | []=>cases h
  | c::r =>
   refine ⟨by simp,?_⟩
   rcases al_cases c with hc | ⟨_,hc⟩ | ⟨hc,_⟩
   ·rw [whole_dg hc] at h
    split at h
    ·assumption
    ·cases h
   ·rw [whole_lt hc] at h
    split at h
    ·split at h<;>cases h
    ·cases h
   ·rw [whole_no hc] at h
    split at h<;>cases h
theorem parse_digits {t:List UInt8} (h:t.all isDig=true):(parseR (trim0 t)).2=0∨(parseR (trim0 t)).2=60:=by
 have h1:(trim0 t).all isDig=true∧trim0 t≠[]∧((trim0 t).head? = some 48→(trim0 t).length=1):=by
  unfold trim0
  split
  ·exact ⟨by decide,by simp,fun _=>rfl⟩
  ·rename_i hn
   refine ⟨?_,hn,fun h2=>?_⟩
   ·rw [List.all_eq_true] at h ⊢
    exact fun x hx=>h x ((List.dropWhile_sublist _).mem hx)
   ·have:=List.head?_dropWhile_not (· == (48:UInt8)) t
    rw [h2] at this;simp at this
 obtain ⟨h1,h2,h3⟩:=h1;generalize trim0 t=s at h1 h2 h3
 have hh:¬ (s.head? == some 45)=true:=by
  cases s with
  | nil=>exact absurd rfl h2
  | cons c r =>
   intro hc
   have hc:c=45:=by simpa using hc
   subst hc;rw [List.all_cons] at h1
   revert h1
   simp [isDig]
 have hh':(s.head? == some 45)=false:=by simpa using hh
 unfold parseR;rw [hh'];simp only [Bool.false_eq_true,if_false,or_false];rw [if_neg]
 ·generalize ((val (s.reverse.map dval):Nat):Int)=x
  unfold told
  split
  ·exact .inl rfl
  ·exact .inr rfl
 ·rintro (h | ⟨h,h'⟩ | h)
  ·exact h2 h
  ·have:=h3 h;omega
  ·rw [h1] at h;cases h
theorem number_eq (r:RS) {t:List UInt8} (h:isP t=1):numberR r t=numberP r t:=by
 obtain ⟨h1,h2⟩:=isP_dig h;unfold numberR numberP;rw [trimR_eq h1]
 rcases parse_digits h2 with h3 | h3
 ·simp only [h3];rfl
 ·simp only [h3]
theorem eat_eq (l:List Tk) {w:List UInt8} (hw:isP w≠0) (r:RS):eatR l w r=eatP l w r:=by
 unfold eatR eatP
 by_cases h:(nextP l r.i).text=w
 ·have:=nextP_is l r.i
  rw [h] at this;rw [if_neg (by simpa using h),if_neg];rintro (h2 | h2)
  ·omega
  ·exact h2 h
 ·rw [if_pos h,if_pos (.inr h)]
theorem eatP_if {l:List Tk} {r:RS} (h:(nextP l r.i).text=wIf):eatP l wIf r=(true,r.adv):=by
 have h1:=nextP_is l r.i;rw [h] at h1
 have h2:isP wIf=3:=by decide
 unfold eatP;rw [if_neg];rintro (h3 | h3)
 ·omega
 ·exact h3 h
theorem un_ahead (l:List Tk) (inner:Inner) (r:RS):unR l inner r=aheadP l inner r:=by
 have hk:=nextP_is l r.i;have e41:=eat_eq l (w:=[41]) (by decide);have eT:=eat_eq l (w:=wThen) (by decide);have eE:=eat_eq l (w:=wElse) (by decide);have eN:=eat_eq l (w:=wEndif) (by decide)
 have hbr:(nextP l r.i).text=wIf→branchesR l inner r=branchesP l inner r:=fun h=>by
  unfold branchesR branchesP;rw [eatP_if h,andThen_true];simp only [eT,eE,eN]
 have hpr:andThen (inner 1 r.adv) (eatR l [41])=andThen (inner 1 r.adv) (eatP l [41]):=andThen_congr fun _=>e41 _;unfold unR primR aheadP;rw [hpr];generalize nextP l r.i=t at hk hbr ⊢;obtain ⟨k,t,p⟩:=t;simp only at hk hbr ⊢
 by_cases c1:t=[45]
 ·subst c1
  have:k=4:=by rw [← hk];decide
  subst this;rfl
 rw [if_neg c1]
 by_cases c2:t=[110,111,116]
 ·subst c2
  have:k=3:=by rw [← hk];decide
  subst this;rfl
 rw [if_neg c2]
 by_cases c3:t=[40]
 ·subst c3
  have:k=4:=by rw [← hk];decide
  subst this;rfl
 rw [if_neg c3]
 by_cases c4:t=wIf
 ·subst c4
  have:k=3:=by rw [← hk];decide
  subst this;rw [if_pos rfl,hbr rfl];rfl
 rw [if_neg c4]
 by_cases c5:t=[116,114,117,101]
 ·subst c5
  have:k=3:=by rw [← hk];decide
  subst this;rfl
 rw [if_neg c5]
 by_cases c6:t=[102,97,108,115,101]
 ·subst c6
  have:k=3:=by rw [← hk];decide
  subst this;rfl
 rw [if_neg c6]
 have hne:k=1∨k=2→t≠[]:=by
  rintro h rfl;have:isP []=0:=rfl;omega
 by_cases k1:k=1
 ·rw [if_pos ⟨hne (.inl k1),k1⟩,if_pos k1]
  exact number_eq r (by omega)
 rw [if_neg (fun h=>k1 h.2),if_neg k1]
 by_cases k2:k=2
 ·rw [if_pos ⟨hne (.inr k2),k2⟩,if_pos k2]
 rw [if_neg (fun h=>k2 h.2),if_neg k2]
 by_cases k0:k=0
 ·rw [if_pos k0]
 have o1:(ofP t 1).2=false:=by
  unfold ofP
  cases ho:ofI t 1 with
  | none=>rfl
  | some i =>
   rcases ofI_one ho with ⟨h,_⟩ | ⟨h,_⟩
   ·exact absurd h c1
   ·exact absurd h c2
 have o0:(ofP t 0).2=false:=by
  unfold ofP
  cases ho:ofI t 0 with
  | none=>rfl
  | some i =>
   rcases ofI_zero ho with ⟨h,_⟩ | ⟨h,_⟩
   ·exact absurd h c5
   ·exact absurd h c6
 rw [if_neg k0,o1,if_neg (by simp),if_neg c3,if_neg c4,o0,if_neg (by simp)]
theorem loop9 (l:List Tk) (inner:Inner) (m:Nat) (r:RS):loopP l inner 9 m r=(true,r):=by
 cases m with
 | zero=>rfl
 | succ m =>
  rw [loopP]
  cases ho:opAt l r.i with
  | none=>rfl
  | some op=>simp only;rw [if_pos (by have:=op_pos ho;omega)]
theorem levK_climb {l:List Tk} {inner:Inner} (h:Mono inner) (he:∀ n r,(inner n r).1=true→Ends l n (inner n r).2.i) :
  ∀ (k:Nat) (r:RS),levK l inner k r=andThen (aheadP l inner r) (loopP l inner (9-k) (l.length+1))
 | 0,r=>by
  rw [levK,un_ahead]
  have:∀ x:Bool × RS,x=andThen x (loopP l inner (9-(0:Nat)) (l.length+1)):=by
   rintro ⟨b,a⟩;cases b
   ·rfl
   ·exact (loop9 l inner _ a).symm
  exact this _
 | k+1,r=>by
  rw [levK,levK_climb h he k r,andThen_assoc];refine andThen_congr fun _=>?_;have hs:=loop_split (l:=l) h (8-k) (he _) (l.length+1) (aheadP l inner r).2 (by omega)
  have e1:(9:Int)-(k:Nat)=8-k+1:=by omega
  have e2:(9:Int)-((k+1:Nat))=8-k:=by omega
  rw [e1,e2,hs]
end Go.Hs
end

section
namespace Go.Hs
open Go.Proofs
set_option maxRecDepth 100000
def encSg (s:Sg):V := .agg [.str s.text,.int .i64 s.level,.int .i64 s.parts]
theorem encSg_K (s:Sg):encSg s = .agg [.str s.text,.int .i64 s.level,.int .i64 s.parts]:=rfl
theorem encSg_cells (s:Sg):(encSg s).cells.length=3:=rfl
def tabC:List V:=flat (tabL.map encSg)
theorem tabC_get (op:Nat) (h:op<23) (k:Nat) (hk:k<3):tabC[op * 3+k]? = ((encSg (tabL.getD op ⟨[],0,0⟩)).cells)[k]? := by
 match k,hk with
 | 0,_=>exact match op,h with
  | 0,_=>rfl
  | 1,_=>rfl
  | 2,_=>rfl
  | 3,_=>rfl
  | 4,_=>rfl
  | 5,_=>rfl
  | 6,_=>rfl
  | 7,_=>rfl
  | 8,_=>rfl
  | 9,_=>rfl
  | 10,_=>rfl
  | 11,_=>rfl
  | 12,_=>rfl
  | 13,_=>rfl
  | 14,_=>rfl
  | 15,_=>rfl
  | 16,_=>rfl
  | 17,_=>rfl
  | 18,_=>rfl
  | 19,_=>rfl
  | 20,_=>rfl
  | 21,_=>rfl
  | 22,_=>rfl
  | n+23,h=>absurd h (by omega)
 | 1,_=>exact match op,h with
  | 0,_=>rfl
  | 1,_=>rfl
  | 2,_=>rfl
  | 3,_=>rfl
  | 4,_=>rfl
  | 5,_=>rfl
  | 6,_=>rfl
  | 7,_=>rfl
  | 8,_=>rfl
  | 9,_=>rfl
  | 10,_=>rfl
  | 11,_=>rfl
  | 12,_=>rfl
  | 13,_=>rfl
  | 14,_=>rfl
  | 15,_=>rfl
  | 16,_=>rfl
  | 17,_=>rfl
  | 18,_=>rfl
  | 19,_=>rfl
  | 20,_=>rfl
  | 21,_=>rfl
  | 22,_=>rfl
  | n+23,h=>absurd h (by omega)
 | 2,_=>exact match op,h with
  | 0,_=>rfl
  | 1,_=>rfl
  | 2,_=>rfl
  | 3,_=>rfl
  | 4,_=>rfl
  | 5,_=>rfl
  | 6,_=>rfl
  | 7,_=>rfl
  | 8,_=>rfl
  | 9,_=>rfl
  | 10,_=>rfl
  | 11,_=>rfl
  | 12,_=>rfl
  | 13,_=>rfl
  | 14,_=>rfl
  | 15,_=>rfl
  | 16,_=>rfl
  | 17,_=>rfl
  | 18,_=>rfl
  | 19,_=>rfl
  | 20,_=>rfl
  | 21,_=>rfl
  | 22,_=>rfl
  | n+23,h=>absurd h (by omega)
theorem tabC_lvl (op:Nat) (h:op<23):tabC[op * 3+1]? = some (.int .i64 (lvl op)):=by rw [tabC_get op h 1 (by decide)];rfl
theorem tabC_len:tabC.length=69:=rfl
theorem tabC_rc (f:Col→Col):(V.agg tabC).recol f = .agg tabC:=by
 have:V.recolL f tabC=tabC:=by
  rw [V.recolL_eq]
  have:∀ v∈tabC,v.recol f=v:=by
   intro v hv;unfold tabC flat at hv;rw [List.mem_flatMap] at hv;obtain ⟨a,ha,hv⟩:=hv;obtain ⟨s,_,rfl⟩:=List.mem_map.1 ha;simp only [encSg_K,V.cells,List.mem_cons,List.not_mem_nil,or_false] at hv
   rcases hv with rfl | rfl | rfl<;>rfl
  exact (List.map_congr_left this).trans (List.map_id _)
 rw [V.recol,this]
theorem setAt_eq:∀ (c l:List V) (off:Nat),off+c.length≤l.length→Hs.setAt l off c=l.take off++c++l.drop (off+c.length)
 | [],l,off,_=>by simp [Hs.setAt]
 | v::r,l,off,h=>by
  simp only [List.length_cons] at h;rw [Hs.setAt,setAt_eq r (l.set off v) (off+1) (by rw [List.length_set];omega)]
  have h1:(l.set off v).take (off+1)=l.take off++[v]:=by
   rw [List.take_add_one,List.getElem?_set_self (by omega),List.take_set_of_le (Nat.le_refl _)];rfl
  have h2:(l.set off v).drop (off+1+r.length)=l.drop (off+(r.length+1)):=by
   rw [List.drop_set_of_lt (by omega)]
   congr 1;omega
  rw [h1,h2];simp
theorem setAt_all {l c:List V} (h:c.length=l.length):Hs.setAt l 0 c=c:=by
 rw [setAt_eq c l 0 (by omega),h];simp
theorem setAt_tab (l:List V) (h:l.length=69):Hs.setAt l 0 tabC=tabC:=setAt_all (by rw [h];rfl)
theorem xTable_spec (G:Nat→V) (hG:GOk G):Spec Tryz.prog G 159 [] hNone (fun v _=>v = .agg tabC):=by
 refine Spec.of_code' 0 24 [.cell 0 225] Tryz.func159 rfl rfl rfl rfl fun X=>?_;refine AW.seq_k fun K hK=>AW.region (by kernel_rfl) ?_;simp -implicitDefEqProofs only[go_sem,seval,↓reduceIte];intro g0;refine hK _ ?_;clear hK K;refine AW.seq_k fun K hK=>AW.region (by kernel_rfl) ?_;simp -implicitDefEqProofs only[go_sem,seval,↓reduceIte];refine hK _ ?_;clear hK K;refine AW.ret ?_;simp -implicitDefEqProofs only[go_sem,seval,↓reduceIte];refine endK_some ?_;rfl
structure FnG (G:Nat→V) (f:FuncId) (cap:List V) (p:Sg→Bool):Prop where
 en:enterable Tryz.prog f=true
 rc:cap.map (V.recol Col.ent)=cap
 sp:∀ s:Sg,Spec Tryz.prog G f (encSg s::cap) hNone (fun v _=>v = .bool (p s))
theorem recol_sg (f:Col→Col) (s:Sg):(encSg s).recol f=encSg s:=by simp only [encSg_K,recol_agg,List.map_cons,List.map_nil,recol_int,recol_str]
theorem sIndexFuncG_spec (G:Nat→V) (hG:GOk G) (c:Col) (s:Sl Sg) (hs:s.l.length<1000000) {f:FuncId} {cap:List V} {p:Sg→Bool} (hf:FnG G f cap p) :
  Spec Tryz.prog G 282 [encSl c 3 encSg s,.func (.func f) [] cap] hNone (fun v _=>v = .int .i64 (idxP p s.l)):=by
 refine Spec.of_code' 0 19 [.tmp 4] Tryz.func282 rfl rfl rfl rfl fun X=>?_;refine AW.seq_k fun K hK=>AW.region (by kernel_rfl) ?_;simp -implicitDefEqProofs only[go_sem,seval,↓reduceIte];refine hK _ ?_;clear hK K;refine AW.seq_k fun K1 hK1=>?_;refine AW.seq_k fun K hK=>AW.region (by kernel_rfl) ?_;simp -implicitDefEqProofs only[go_sem,seval,↓reduceIte];refine hK _ ?_;clear hK K;refine AW.block ?_
 refine AW.for s.l.length (fun k (_:Unit)=>st [(0,encSl c 3 encSg s),(1,.func (.func f) [] cap),(7,.int .i64 s.l.length),(8,.int .i64 k)] []) (fun k _=>∀ y∈s.l.take k,p y=false) 0 () (Nat.zero_le _) (by simp)
  (Weak.st (by simp -implicitDefEqProofs only[go_sem,seval,↓reduceIte];try rfl) (by simp -implicitDefEqProofs only[go_sem,seval,↓reduceIte])) ?_
 intro k _ hk hR L2 hL2;refine AW.seq_k fun K hK=>AW.region (by kernel_rfl) ?_;simp -implicitDefEqProofs only[go_sem,seval,↓reduceIte];refine hK _ ?_;clear hK K;refine AW.seq_k fun K3 hK3=>?_;refine AW.condS (by simp -implicitDefEqProofs only[go_sem,seval,↓reduceIte];rfl) (fun h4=>?_) (fun h4=>?_)
 ·have hk1:k<s.l.length:=by simpa using h4
  have hg:=List.getElem?_eq_getElem hk1;generalize s.l[k]=x at hg;refine AW.skip ?_;simp -implicitDefEqProofs only[go_sem,seval,↓reduceIte];refine hK3 _ ?_;refine AW.seq_k fun K5 hK5=>?_;refine AW.block ?_;refine AW.seq_k fun K hK=>AW.region (by kernel_rfl) ?_;simp -implicitDefEqProofs only[go_sem,seval,↓reduceIte];refine hK _ ?_;clear hK K;refine AW.seq_k fun K hK=>AW.region (by kernel_rfl) ?_;simp -implicitDefEqProofs only[go_sem,seval,↓reduceIte,hg,encSg_K];refine CallA.pure hG hf.en ?_;simp only [List.map_cons,hf.rc,← encSg_K,recol_sg];refine (hf.sp x).mono ?_;rintro _ _ rfl;simp -implicitDefEqProofs only[go_sem,seval,↓reduceIte];refine hK _ ?_;clear hK K;refine AW.condS (by simp -implicitDefEqProofs only[go_sem,seval,↓reduceIte];rfl) (fun h6=>?_) (fun h6=>?_)
  ·refine AW.seq_k fun K hK=>AW.region (by kernel_rfl) ?_
   simp -implicitDefEqProofs only[go_sem,seval,↓reduceIte];refine hK _ ?_;clear hK K;refine AW.ret ?_;simp -implicitDefEqProofs only[go_sem,seval,↓reduceIte];refine endK_some ?_;rw [idxP_take hg hR h6]
  ·refine AW.skip ?_
   simp -implicitDefEqProofs only[go_sem,seval,↓reduceIte];refine hK5 _ ?_;refine AW.region (by kernel_rfl) ?_;simp -implicitDefEqProofs only[go_sem,seval,↓reduceIte];refine hL2 _ ⟨hk1,(),take_all hg hR h6,Weak.st (by simp -implicitDefEqProofs only[go_sem,seval,↓reduceIte];exact congrArg _ (w64 (by omega) (by omega))) (by simp -implicitDefEqProofs only[go_sem,seval,↓reduceIte])⟩
 ·have hk1:k=s.l.length:=by simp at h4;omega
  refine AW.exit ?_;simp -implicitDefEqProofs only[go_sem,seval,↓reduceIte];refine hK1 _ ?_;refine AW.seq_k fun K hK=>AW.region (by kernel_rfl) ?_;simp -implicitDefEqProofs only[go_sem,seval,↓reduceIte];refine hK _ ?_;clear hK K;refine AW.ret ?_;simp -implicitDefEqProofs only[go_sem,seval,↓reduceIte];refine endK_some ?_;rw [hk1,List.take_length] at hR;rw [idxP_none hR]
theorem xOf1_spec (G:Nat→V) (hG:GOk G) (t:List UInt8) (p:Int) (s:Sg):Spec Tryz.prog G 283 [encSg s,.view .old (.str t),.view .old (.int .i64 p)] hNone (fun v _=>v = .bool (sgIs t p s)):=by
 refine Spec.of_code' 0 20 [.tmp 4] Tryz.func283 rfl rfl rfl rfl fun X=>?_;simp only [encSg_K];refine AW.seq_k fun K hK=>AW.region (by kernel_rfl) ?_;simp -implicitDefEqProofs only[go_sem,seval,↓reduceIte];intro g3;refine hK _ ?_;clear hK K;unfold sgIs
 cases h1:(s.text==t)<;>cases h2:(s.parts==p)<;>cases h3:(s.text==[])<;>((refine AW.seq_k fun K hK=>AW.region (by kernel_rfl) ?_;simp -implicitDefEqProofs only[go_sem,seval,↓reduceIte,bne,h1,h2,h3];refine hK _ ?_;clear hK K);(refine AW.ret ?_;simp -implicitDefEqProofs only[go_sem,seval,↓reduceIte];refine endK_some ?_);rfl)
theorem fOf1 {G:Nat→V} (hG:GOk G) (t:List UInt8) (p:Int):FnG G 283 [.view .old (.str t),.view .old (.int .i64 p)] (sgIs t p):=⟨by kernel_rfl,rfl,xOf1_spec G hG t p⟩
theorem idxP_ofI (t:List UInt8) (p:Int):idxP (sgIs t p) tabL=match ofI t p with | some i=>(i:Int) | none => -1:=rfl
def encOf (o:Nat × Bool):V := .tuple [.int .u8 o.1,.bool o.2]
theorem ofI_lt {t:List UInt8} {p:Int} {i:Nat} (h:ofI t p=some i):i<23:=(List.findIdx?_eq_some_iff_getElem.1 h).1
theorem xOf_spec (G:Nat→V) (hG:GOk G) (t:List UInt8) (p:Int):Spec Tryz.prog G 267 [.str t,.int .i64 p] hNone (fun v _=>v=encOf (ofP t p)):=by
 refine Spec.of_code' 0 17 [.tmp 4,.tmp 5] Tryz.func267 rfl rfl rfl rfl fun X=>?_;refine AW.seq_k fun K hK=>AW.region (by kernel_rfl) ?_;simp -implicitDefEqProofs only[go_sem,seval,↓reduceIte];intro g2 g3;refine hK _ ?_;clear hK K;refine AW.seq_k fun K hK=>AW.region (by kernel_rfl) ?_;simp -implicitDefEqProofs only[go_sem,seval,↓reduceIte];refine CallA.pure hG (by kernel_rfl) ?_;simp -implicitDefEqProofs only[go_sem,seval,↓reduceIte,List.map_nil];refine (xTable_spec G hG).mono ?_;rintro _ _ rfl;simp -implicitDefEqProofs only[go_sem,seval,↓reduceIte,tabC_rc,tabC_len,Nat.le_refl];intro g6;rw [setAt_tab _ ?hl]
 case hl=>rfl
 refine hK _ ?_;clear hK K;refine AW.seq_k fun K hK=>AW.regionAt 0 (by kernel_rfl) rfl rfl ?_;simp -implicitDefEqProofs only[go_sem,seval,↓reduceIte,List.take_zero];refine ⟨_,Gives.slicePtr Tryz.underlying225 (by kernel_rfl) (ob:=6) (g:=g6) (m:=3) (c := .new) (fz:=0) (cs:=tabC) (by simp -implicitDefEqProofs only[go_sem,seval,↓reduceIte]) (by simp -implicitDefEqProofs only[go_sem,seval,↓reduceIte]) (by decide),?_⟩;refine CallA.bor hG [encSl .old 3 encSg (.mk false tabL),.func (.func 283) [] [.view .old (.str t),.view .old (.int .i64 p)]] (by kernel_rfl) ⟨?_,Rd.funcL ⟨?_,?_,trivial⟩,trivial⟩ ?_
 ·exact Rd.msl (off:=0) (n:=23) (l:=tabL) (f:=encSg) (f':=encSg) (g:=g6) (fz:=0) (c := .new) (by simp -implicitDefEqProofs only[go_sem,seval,↓reduceIte];rfl) encSg_cells (fun x y hy=>by
   simp only [encSg_K,V.cells,List.mem_cons,List.not_mem_nil,or_false] at hy
   rcases hy with rfl | rfl | rfl
   ·exact .str _
   ·exact .int _ _
   ·exact .int _ _) (recol_sg _) (by decide)
 ·exact Rd.ptr (v := .str t) (c := .new) (fz:=0) (by simp -implicitDefEqProofs only[go_sem,seval,↓reduceIte];try rfl) (by intro y hy;simp [V.cells] at hy;subst hy;exact .str _) (by simp -implicitDefEqProofs only[go_sem,seval,↓reduceIte])
 ·exact Rd.ptr (v := .int .i64 p) (c := .new) (fz:=0) (by simp -implicitDefEqProofs only[go_sem,seval,↓reduceIte];try rfl) (by intro y hy;simp [V.cells] at hy;subst hy;exact .int _ _) (by simp -implicitDefEqProofs only[go_sem,seval,↓reduceIte])
 refine (sIndexFuncG_spec G hG _ (.mk false tabL) (by decide) (fOf1 hG t p)).mono ?_;rintro _ _ rfl;refine ⟨.int _ _,?_⟩;simp -implicitDefEqProofs only[go_sem,seval,↓reduceIte];refine hK _ ?_;clear hK K;have hI:=idxP_ofI t p;unfold ofP
 show AW _ _ _ _ { τ := upd _ 7 (.int .i64 (idxP (sgIs t p) tabL)),H:=_ }
 rw [hI]
 cases ho:ofI t p with
 | none =>
  refine AW.seq_k fun K hK=>AW.region (by kernel_rfl) ?_;simp -implicitDefEqProofs only[go_sem,seval,↓reduceIte];refine hK _ ?_;clear hK K;refine AW.ret ?_;simp -implicitDefEqProofs only[go_sem,seval,↓reduceIte];refine endK_some ?_;rfl
 | some i =>
  have hi:=ofI_lt ho;refine AW.weak (Weak.st (l:=[(7,.int .i64 i)]) (m:=[]) (by simp -implicitDefEqProofs only[go_sem,seval,↓reduceIte]) (by simp -implicitDefEqProofs only[go_sem,seval,↓reduceIte])) ?_
  have h0:((0:Int) > (i:Int))=False:=by rw [eq_iff_iff,iff_false];omega
  have hw:IntKind.u8.wrap (i:Int)=i:=by
   unfold IntKind.wrap;simp [IntKind.signed,IntKind.bits];omega
  have h1:decide ((i:Int)≥0)=true:=by rw [decide_eq_true_iff];omega
  refine AW.seq_k fun K hK=>AW.region (by kernel_rfl) ?_;simp -implicitDefEqProofs only[go_sem,seval,↓reduceIte,h0,hw,h1];refine hK _ ?_;clear hK K;refine AW.ret ?_;simp -implicitDefEqProofs only[go_sem,seval,↓reduceIte];refine endK_some ?_;rfl
end Go.Hs
end

section
namespace Go.Hs
open Go.Proofs
set_option maxRecDepth 10000
def encXN (n:XN):V := .agg [.int .u8 n.op,.int .i64 n.num,.str n.name,.int .i64 n.a,.int .i64 n.b,.int .i64 n.c]
theorem encXN_K (n:XN):encXN n = .agg [.int .u8 n.op,.int .i64 n.num,.str n.name,.int .i64 n.a,.int .i64 n.b,.int .i64 n.c]:=rfl
theorem encXN_cells (n:XN):(encXN n).cells.length=6:=rfl
theorem encTk_K (t:Tk):encTk t = .agg [.int .u8 t.kind,.str t.text,.int .i64 t.pos]:=rfl
theorem recol_xn (f:Col→Col) (n:XN):(encXN n).recol f=encXN n:=by simp only [encXN_K,recol_agg,List.map_cons,List.map_nil,recol_int,recol_str]
theorem recol_tk (f:Col→Col) (t:Tk):(encTk t).recol f=encTk t:=by simp only [encTk_K,recol_agg,List.map_cons,List.map_nil,recol_int,recol_str]
@[go_sem] theorem recol_tks (g:Col→Col) (c:Col) (s:Sl Tk):(encSl c 3 encTk s).recol g=encSl (g c) 3 encTk s:=recol_enc g c 3 (recol_tk g) s
@[go_sem] theorem recol_xns (g:Col→Col) (c:Col) (s:Sl XN):(encSl c 6 encXN s).recol g=encSl (g c) 6 encXN s:=recol_enc g c 6 (recol_xn g) s
def rdO (NO:Nat) (tl:List V) (sl:Sl Tk) (g gx:Nat) (r:RS):AObj := .cells .any g 0 (encSl .any 3 encTk sl :: .int .i64 r.i::grown NO gx 6 r.nodes :: .int .i64 r.e::tl)
def ndO (gx:Nat) (ns:List XN):AObj:=grownC .any gx encXN ns
theorem rdO_K (NO:Nat) (tl:List V) (sl:Sl Tk) (g gx:Nat) (r:RS):rdO NO tl sl g gx r = .cells .any g 0 (encSl .any 3 encTk sl :: .int .i64 r.i::grown NO gx 6 r.nodes :: .int .i64 r.e::tl):=rfl
def RdS (NO:Nat) (tl:List V) (G:Nat→V) (f:FuncId) (args:List V) (sl:Sl Tk) (g:Nat) (r:RS) (v:V) (r':RS):Prop :=
 ∀ gx,Spec Tryz.prog G f (.ptr 8 g 0::args) (sets hNone [(8,rdO NO tl sl g gx r),(NO,ndO gx r.nodes)]) (fun v0 H'=>v0=v∧∃ gx',H' 8=rdO NO tl sl g gx' r'∧H' NO=ndO gx' r'.nodes)
theorem RdS.call {NO:Nat} {tl:List V} {G:Nat→V} (hG:GOk G) {f:FuncId} {args args':List V} {sl:Sl Tk} {g gx:Nat} {r r':RS} {v:V} (h:RdS NO tl G f args' sl g r v r') {H:Heap} {K:V→Heap→Prop}
  (hen:enterable Tryz.prog f=true) (htl:∀ F:Col→Col,tl.map (V.recol F)=tl) (hne:8≠NO) (hargs:args.map (V.recol Col.ent)=args') (hv:v.recol Col.bk=v)
  (h8:H 8=rdO NO tl sl g gx r) (hN:H NO=ndO gx r.nodes)
  (hk:∀ gx',K v (sets H [(8,rdO NO tl sl g gx' r'),(NO,ndO gx' r'.nodes)])) :
  CallA Tryz.prog G f (.ptr 8 g 0::args) H K:=by
 have e8:∀ (F:Col→Col) gx r,F .any = .any→(rdO NO tl sl g gx r).recol F=rdO NO tl sl g gx r:=by
  intro F gx r hF;simp only [rdO_K,recol_cells,List.map_cons,recol_grown,recol_tks,recol_int,hF,htl]
 have eN:∀ (F:Col→Col) gx ns,F .any = .any→(ndO gx ns).recol F=ndO gx ns:=by
  intro F gx ns hF;rw [ndO,grownC_recol F .any gx encXN encXN (recol_xn F),hF]
 refine CallA.hand hG [(8,rdO NO tl sl g gx r),(NO,ndO gx r.nodes)] hen ?_ ?_
 ·intro p hp
  simp only [List.mem_cons,List.not_mem_nil,or_false] at hp
  rcases hp with rfl | rfl
  ·rw [h8,e8 _ _ _ rfl]
  ·rw [hN,eN _ _ _ rfl]
 ·have ha:(V.ptr 8 g 0::args).map (V.recol Col.ent) = .ptr 8 g 0::args':=by rw [List.map_cons,recol_ptr,hargs]
  rw [ha];refine (h gx).mono ?_;rintro _ H' ⟨rfl,gx',q8,qN⟩;simp only [List.map_cons,List.map_nil,q8,qN,e8 _ _ _ bk_any,eN _ _ _ bk_any,hv];exact hk gx'
structure TkOk (l:List Tk):Prop where
 len:l.length<100000
 text:∀ t∈l,t.text.length<100000
theorem nextP_some {l:List Tk} {i:Nat} {t:Tk} (h:l[i]? = some t):nextP l i=if (isP t.text:Int)=t.kind then t else ⟨0,[],0⟩:=by unfold nextP;rw [h]
theorem nextP_none {l:List Tk} {i:Nat} (h:l.length≤i):nextP l i=⟨0,[],0⟩:=by unfold nextP;rw [List.getElem?_eq_none h]
theorem xNext_spec (G:Nat→V) (hE:GExp G) (sl:Sl Tk) (hT:TkOk sl.l) (g:Nat) (r:RS) (hr:r.i<1000000):RdS 1031 [.func (.func 256) [] []] G 266 [] sl g r (encTk (nextP sl.l r.i)) r:=by
 have hG:=hE.ok;intro gx;refine Spec.of_code' 1000 50 [.cell 2 109] Tryz.func266 rfl rfl rfl rfl fun X=>?_;simp only [sets,rdO_K];refine AW.seq_k fun K hK=>AW.region (by kernel_rfl) ?_;simp -implicitDefEqProofs only[go_sem,seval,↓reduceIte];intro g2;refine hK _ ?_;clear hK K;refine AW.seq_k fun K1 hK1=>?_
 by_cases hi:r.i<sl.l.length
 ·have h1:decide ((r.i:Int)<sl.l.length)=true:=by rw [decide_eq_true_iff];omega
  have hg:=List.getElem?_eq_getElem hi;have hm:=hT.text _ (List.getElem_mem hi);generalize sl.l[r.i]=t at hg hm;have hP:=nextP_some hg
  have p1:PureC Tryz.prog G 101 [.str t.text] (.int .u8 (isP t.text)):=⟨by kernel_rfl,by
   simp -implicitDefEqProofs only[go_sem,seval,↓reduceIte];refine (lIs_spec G hE t.text hm).mono ?_;rintro _ _ rfl
   rfl⟩
  by_cases hk:(isP t.text:Int)=t.kind
  ·rw [if_pos hk] at hP
   have e1:((isP t.text:Int)==t.kind)=true:=by simpa using hk
   refine AW.seq_k fun K hK=>AW.regionT ⟨fun i=>if i=22 then .int .u8 (isP t.text) else .top,fun _ => .pure⟩ (by kernel_rfl) hG (by kernel_rfl) (by kernel_rfl) ?_;simp -implicitDefEqProofs only[go_sem,seval,↓reduceIte,h1,hg,encTk_K,e1];refine ⟨p1,?_⟩;refine hK _ ?_;clear hK K;refine AW.condS (by simp -implicitDefEqProofs only[go_sem,seval,↓reduceIte];rfl) (fun h2=>?_) (fun h2=>?_)
   ·refine AW.seq_k fun K hK=>AW.regionT ⟨fun _ => .top,fun _ => .pure⟩ (by kernel_rfl) hG (by kernel_rfl) (by kernel_rfl) ?_
    simp -implicitDefEqProofs only[go_sem,seval,↓reduceIte,hg,encTk_K];refine hK _ ?_;clear hK K;refine AW.ret ?_;simp -implicitDefEqProofs only[go_sem,seval,↓reduceIte];refine endK_some ?_;exact ⟨by rw [hP];rfl,gx,by simp -implicitDefEqProofs only[go_sem,seval,↓reduceIte],by simp -implicitDefEqProofs only[go_sem,seval,↓reduceIte]⟩
   ·cases h2
  ·rw [if_neg hk] at hP
   have e1:((isP t.text:Int)==t.kind)=false:=by simpa using hk
   refine AW.seq_k fun K hK=>AW.regionT ⟨fun i=>if i=22 then .int .u8 (isP t.text) else .top,fun _ => .pure⟩ (by kernel_rfl) hG (by kernel_rfl) (by kernel_rfl) ?_;simp -implicitDefEqProofs only[go_sem,seval,↓reduceIte,h1,hg,encTk_K,e1];refine ⟨p1,?_⟩;refine hK _ ?_;clear hK K;refine AW.condS (by simp -implicitDefEqProofs only[go_sem,seval,↓reduceIte];rfl) (fun h2=>?_) (fun h2=>?_)
   ·cases h2
   ·refine AW.skip ?_
    simp -implicitDefEqProofs only[go_sem,seval,↓reduceIte];refine hK1 _ ?_;refine AW.seq_k fun K hK=>AW.region (by kernel_rfl) ?_;simp -implicitDefEqProofs only[go_sem,seval,↓reduceIte];refine hK _ ?_;clear hK K;refine AW.ret ?_;simp -implicitDefEqProofs only[go_sem,seval,↓reduceIte];refine endK_some ?_;exact ⟨by rw [hP];rfl,gx,by simp -implicitDefEqProofs only[go_sem,seval,↓reduceIte],by simp -implicitDefEqProofs only[go_sem,seval,↓reduceIte]⟩
 ·have h1:decide ((r.i:Int)<sl.l.length)=false:=by rw [decide_eq_false_iff_not];omega
  have hP:=nextP_none (l:=sl.l) (i:=r.i) (by omega);refine AW.seq_k fun K hK=>AW.regionT ⟨fun _ => .top,fun _ => .pure⟩ (by kernel_rfl) hG (by kernel_rfl) (by kernel_rfl) ?_;simp -implicitDefEqProofs only[go_sem,seval,↓reduceIte,h1];refine hK _ ?_;clear hK K;refine AW.condS (by simp -implicitDefEqProofs only[go_sem,seval,↓reduceIte];rfl) (fun h2=>?_) (fun h2=>?_)
  ·cases h2
  ·refine AW.skip ?_
   simp -implicitDefEqProofs only[go_sem,seval,↓reduceIte];refine hK1 _ ?_;refine AW.seq_k fun K hK=>AW.region (by kernel_rfl) ?_;simp -implicitDefEqProofs only[go_sem,seval,↓reduceIte];refine hK _ ?_;clear hK K;refine AW.ret ?_;simp -implicitDefEqProofs only[go_sem,seval,↓reduceIte];refine endK_some ?_;exact ⟨by rw [hP];rfl,gx,by simp -implicitDefEqProofs only[go_sem,seval,↓reduceIte],by simp -implicitDefEqProofs only[go_sem,seval,↓reduceIte]⟩
theorem xLast_spec (G:Nat→V) (hG:GOk G) (sl:Sl Tk) (g:Nat) (r:RS) (hr:r.nodes.length<1000000):RdS 1031 [.func (.func 256) [] []] G 268 [] sl g r (.int .i64 r.last) r:=by
 intro gx;refine Spec.of_code' 1000 9 [.tmp 2] Tryz.func268 rfl rfl rfl rfl fun X=>?_;simp only [sets,rdO_K];refine AW.seq_k fun K hK=>AW.region (by kernel_rfl) ?_;simp -implicitDefEqProofs only[go_sem,seval,↓reduceIte];refine hK _ ?_;clear hK K;refine AW.seq_k fun K hK=>AW.region (by kernel_rfl) ?_;simp -implicitDefEqProofs only[go_sem,seval,↓reduceIte];refine hK _ ?_;clear hK K;refine AW.ret ?_;simp -implicitDefEqProofs only[go_sem,seval,↓reduceIte];refine endK_some ?_;exact ⟨by rw [w64 (by omega) (by omega)];rfl,gx,by simp -implicitDefEqProofs only[go_sem,seval,↓reduceIte],by simp -implicitDefEqProofs only[go_sem,seval,↓reduceIte]⟩
theorem setAt_places {l:List Int} (h:l.length≤3):setAt [V.int .i64 (-1),V.int .i64 (-1),V.int .i64 (-1)] 0 (l.map (V.int .i64))=[V.int .i64 (l.getD 0 (-1)),V.int .i64 (l.getD 1 (-1)),V.int .i64 (l.getD 2 (-1))]:=by
 match l,h with
 | [],_=>rfl
 | [_],_=>rfl
 | [_,_],_=>rfl
 | [_,_,_],_=>rfl
theorem flat_intsV (k:IntKind) (l:List Int):flat (l.map (V.int k))=l.map (V.int k):=by
 induction l with
 | nil=>rfl
 | cons x r ih=>unfold flat at ih ⊢;rw [List.map_cons,List.flatMap_cons,ih];rfl
def putAt (n:XN) (ps:List Int):XN:={ n with a:=ps.getD 0 (-1),b:=ps.getD 1 (-1),c:=ps.getD 2 (-1) }
theorem xPut_spec (G:Nat→V) (hG:GOk G) (sl:Sl Tk) (g:Nat) (r:RS) (hr:r.nodes.length<1000000) (n:XN) (c:Col) (ps:Sl Int) (hps:ps.l.length≤3) :
  RdS 1031 [.func (.func 256) [] []] G 269 [encXN n,encSl c 1 (V.int .i64) ps] sl g r (.bool true) (r.put (putAt n ps.l)):=by
 intro gx;refine Spec.of_code' 1000 34 [.tmp 6] Tryz.func269 rfl rfl rfl rfl fun X=>?_;simp only [sets,rdO_K,encXN_K];refine AW.seq_k fun K hK=>AW.region (by kernel_rfl) ?_;simp -implicitDefEqProofs only[go_sem,seval,↓reduceIte];intro g4;refine hK _ ?_;clear hK K;refine AW.seq_k fun K hK=>AW.region (by kernel_rfl) ?_;simp -implicitDefEqProofs only[go_sem,seval,↓reduceIte];intro g8;refine hK _ ?_;clear hK K;refine AW.seq_k fun K hK=>AW.regionE 2 (by kernel_rfl) rfl rfl ?_;simp -implicitDefEqProofs only[go_sem,seval,↓reduceIte,List.take_succ_cons,List.take_zero];refine ⟨_,_,GivesE.copy Tryz.underlying188 (by kernel_rfl) (ob:=1008) (g:=g8) (m:=1) (len:=3) (cs:=[.int .i64 (-1),.int .i64 (-1),.int .i64 (-1)]) (c := .new) (fz:=0) (off:=0) (n:=ps.l.length) (xc:=ps.l.map (V.int .i64)) (by simp -implicitDefEqProofs only[go_sem,seval,↓reduceIte]) (by simp -implicitDefEqProofs only[go_sem,seval,↓reduceIte]) (by simp -implicitDefEqProofs only[go_sem,seval,↓reduceIte];exact congrArg (fun x=>some (ps.l.length,x)) (flat_intsV _ _)) hps (Nat.le_refl _) (by simp;omega),?_⟩;rw [setAt_places hps];simp -implicitDefEqProofs only[go_sem,seval,↓reduceIte,List.drop_succ_cons,List.drop_zero];refine hK _ ?_;clear hK K;have hn:putAt n ps.l={ n with a:=ps.l.getD 0 (-1),b:=ps.l.getD 1 (-1),c:=ps.l.getD 2 (-1) }:=rfl;generalize ps.l.getD 0 (-1)=x0 at hn ⊢;generalize ps.l.getD 1 (-1)=x1 at hn ⊢;generalize ps.l.getD 2 (-1)=x2 at hn ⊢
 refine AW.weak (Weak.stF (fun o=>o==1008) (l:=[(0,.ptr 8 g 0),(4,.ptr 1004 g4 0),(7,.slice .new false 1 [.int .i64 x0,.int .i64 x1,.int .i64 x2])])
  (m:=[(8,rdO 1031 [.func (.func 256) [] []] sl g gx r),(1031,ndO gx r.nodes),(1004,.cells .new g4 0 [.int .u8 n.op,.int .i64 n.num,.str n.name,.int .i64 n.a,.int .i64 n.b,.int .i64 n.c])]) ?_ ?_) ?_
 ·simp -implicitDefEqProofs only[go_sem,seval,↓reduceIte]
  refine ⟨Fz.same _,Fz.same _,?_⟩;exact Fz.sl (f:=V.int .i64) (l:=[x0,x1,x2]) (m:=1) (g:=g8) (fz:=0) (c := .new) rfl (by simp -implicitDefEqProofs only[go_sem,seval,↓reduceIte];rfl) (fun _=>rfl)
 ·simp only [allFzO_cons,allFzO_nil,and_true]
  exact ⟨FzO.keep rfl (by simp -implicitDefEqProofs only[go_sem,seval,↓reduceIte];rfl),FzO.keep rfl (by simp -implicitDefEqProofs only[go_sem,seval,↓reduceIte]),FzO.keep rfl (by simp -implicitDefEqProofs only[go_sem,seval,↓reduceIte])⟩
 refine AW.seq_k fun K hK=>AW.regionT ⟨fun _ => .top,fun i=>if i=2 then .lend else if i=5 then .lend else if i=8 then .lend else .pure⟩ (by kernel_rfl) hG (by kernel_rfl) (by kernel_rfl) ?_;simp -implicitDefEqProofs only[go_sem,seval,↓reduceIte,rdO_K];refine hK _ ?_;clear hK K;refine AW.later ?_;refine AW.seq_k fun K hK=>AW.regionT ⟨fun _ => .top,fun _ => .pure⟩ (by kernel_rfl) hG (by kernel_rfl) (by kernel_rfl) ?_;simp -implicitDefEqProofs only[go_sem,seval,↓reduceIte];intro g30;refine app_grownC (f:=encXN) (l:=r.nodes) (l2:=[putAt n ps.l]) (g:=gx) encXN_cells rfl (by rw [hn];rfl) rfl (by simp -implicitDefEqProofs only[go_sem,seval,↓reduceIte];rfl) (roomOk_of (by omega) (by simp;omega)) fun c2 g2=>?_;simp -implicitDefEqProofs only[go_sem,seval,↓reduceIte];refine hK _ ?_;clear hK K;refine AW.seq_k fun K hK=>AW.region (by kernel_rfl) ?_;simp -implicitDefEqProofs only[go_sem,seval,↓reduceIte];refine hK _ ?_;clear hK K;refine AW.ret ?_;simp -implicitDefEqProofs only[go_sem,seval,↓reduceIte];refine ⟨st [(6,.bool true)] [(8,rdO 1031 [.func (.func 256) [] []] sl g g2 (r.put (putAt n ps.l))),(1031,ndO g2 (r.nodes++[putAt n ps.l]))],Weak.stF (fun _=>false) ?_ ?_,?_⟩
 ·simp -implicitDefEqProofs only[go_sem,seval,↓reduceIte]
  exact Fz.same _
 ·simp only [allFzO_cons,allFzO_nil,and_true]
  exact ⟨FzO.keep rfl (by simp -implicitDefEqProofs only[go_sem,seval,↓reduceIte];rfl),FzO.grownC (c:=c2) rfl (by simp -implicitDefEqProofs only[go_sem,seval,↓reduceIte])⟩
 ·simp -implicitDefEqProofs only[go_sem,seval,↓reduceIte]
  exact endK_some ⟨rfl,g2,by simp -implicitDefEqProofs only[go_sem,seval,↓reduceIte];rfl,by simp -implicitDefEqProofs only[go_sem,seval,↓reduceIte];rfl⟩
end Go.Hs
end

section
namespace Go.Hs
open Go.Proofs
set_option maxRecDepth 10000
def parseT (t:List UInt8) (below:Bool):Int × Int :=
 if t=[]∨(t.head? = some 48∧(t.length > 1∨below=true))∨t.all isDig=false then (0,2)
 else told (if below then -(val (t.reverse.map dval):Int) else val (t.reverse.map dval))
theorem parseR_T (s:List UInt8):parseR s=parseT (if (s.head? == some 45)=true then s.drop 1 else s) (s.head? == some 45):=rfl
theorem u8_eq (c:UInt8) (n:Nat) (hn:n<256):((c.toNat:Int)==(n:Int))=(c==UInt8.ofNat n):=by
 by_cases h:c.toNat=n
 ·have h1:c=UInt8.ofNat n:=by
   apply UInt8.toNat_inj.1;rw [UInt8.toNat_ofNat',h];omega
  rw [h1];simp;omega
 ·have h1:¬ c=UInt8.ofNat n:=by
   intro e;apply h;rw [e,UInt8.toNat_ofNat'];omega
  have h2:¬ (c.toNat:Int)=(n:Int):=by omega
  rw [show (c==UInt8.ofNat n)=false by simpa using h1,show ((c.toNat:Int)==(n:Int))=false from beq_eq_false_iff_ne.2 h2]
theorem u8_45 (c:UInt8):((c.toNat:Int)==45)=(c==45):=u8_eq c 45 (by decide)
theorem u8_48 (c:UInt8):((c.toNat:Int)==48)=(c==48):=u8_eq c 48 (by decide)
theorem rParse_spec (G:Nat→V) (hG:GOk G) (s:List UInt8) (hs:s.length<1000000):Spec Tryz.prog G 260 [.str s] hNone (fun v _=>v=encR (parseR s)):=by
 rw [parseR_T];generalize hb0:(s.head? == some 45)=b0;generalize ht0:(if b0=true then s.drop 1 else s)=t0;refine Spec.of_code' 0 64 [.tmp 2,.tmp 3] Tryz.func260 rfl rfl rfl rfl fun X=>?_;refine AW.seq_k fun K hK=>AW.region (by kernel_rfl) ?_;simp -implicitDefEqProofs only[go_sem,seval,↓reduceIte];refine hK _ ?_;clear hK K;refine AW.seqJ (fun (_:Unit)=>st [(0,.str s),(4,.bool b0)] []) (fun _=>True) (fun K1 hK1=>?_) ?_
 ·cases s with
  | nil =>
   refine AW.region (by kernel_rfl) ?_;simp -implicitDefEqProofs only[go_sem,seval,↓reduceIte];exact hK1 _ () trivial (Weak.st (by simp -implicitDefEqProofs only[go_sem,seval,↓reduceIte];rw [← hb0];rfl) (by simp -implicitDefEqProofs only[go_sem,seval,↓reduceIte]))
  | cons c r =>
   refine AW.region (by kernel_rfl) ?_;simp -implicitDefEqProofs only[go_sem,seval,↓reduceIte,u8_45];exact hK1 _ () trivial (Weak.st (by simp -implicitDefEqProofs only[go_sem,seval,↓reduceIte];rw [← hb0];rfl) (by simp -implicitDefEqProofs only[go_sem,seval,↓reduceIte]))
 intro _ _;refine AW.seqJ (fun (_:Unit)=>st [(0,.str t0),(4,.bool b0)] []) (fun _=>True) (fun K2 hK2=>?_) ?_
 ·refine AW.seq_k fun K hK=>AW.region (by kernel_rfl) ?_
  simp -implicitDefEqProofs only[go_sem,seval,↓reduceIte];refine hK _ ?_;clear hK K;refine AW.condS (by simp -implicitDefEqProofs only[go_sem,seval,↓reduceIte];rfl) (fun h2=>?_) (fun h2=>?_)
  ·subst h2
   have h1:1≤s.length:=by
    cases s with
    | nil=>simp at hb0
    | cons _ _=>simp
   refine AW.region (by kernel_rfl) ?_;simp -implicitDefEqProofs only[go_sem,seval,↓reduceIte,h1,Nat.le_refl];refine hK2 _ () trivial ?_;exact (Weak.st (by simp -implicitDefEqProofs only[go_sem,seval,↓reduceIte];rw [← ht0];simp;try exact List.take_of_length_le (by simp)) (by simp -implicitDefEqProofs only[go_sem,seval,↓reduceIte]))
  ·subst h2
   refine AW.skip ?_;simp -implicitDefEqProofs only[go_sem,seval,↓reduceIte];exact hK2 _ () trivial (Weak.st (by simp -implicitDefEqProofs only[go_sem,seval,↓reduceIte];rw [← ht0];simp) (by simp -implicitDefEqProofs only[go_sem,seval,↓reduceIte]))
 intro _ _
 have htl:t0.length≤s.length:=by rw [← ht0];split<;>simp
 clear ht0 hb0;refine AW.seqJ (fun (_:Unit)=>st [(0,.str t0),(4,.bool b0)] []) (fun _=>t0≠[]∧¬ (t0.head? = some 48∧(t0.length > 1∨b0=true))) (fun K3 hK3=>?_) ?_
 ·cases t0 with
  | nil =>
   refine AW.seq_k fun K hK=>AW.region (by kernel_rfl) ?_;simp -implicitDefEqProofs only[go_sem,seval,↓reduceIte];refine hK _ ?_;clear hK K;refine AW.condS (by simp -implicitDefEqProofs only[go_sem,seval,↓reduceIte];rfl) (fun h4=>?_) (fun h4=>?_)
   ·refine AW.seq_k fun K hK=>AW.region (by kernel_rfl) ?_
    simp -implicitDefEqProofs only[go_sem,seval,↓reduceIte];refine hK _ ?_;clear hK K;refine AW.ret ?_;simp -implicitDefEqProofs only[go_sem,seval,↓reduceIte];refine endK_some ?_;rw [parseT,if_pos (.inl rfl)];rfl
   ·cases h4
  | cons c r =>
   by_cases hc:c=48
   ·have hc1:(c==48)=true:=by simpa using hc
    by_cases hl:r.length=0
    ·have hl1:decide (((r.length+1:Nat):Int) > 1)=false:=by rw [decide_eq_false_iff_not];omega
     cases b0 with
     | true =>
      refine AW.seq_k fun K hK=>AW.region (by kernel_rfl) ?_;simp -implicitDefEqProofs only[go_sem,seval,↓reduceIte,u8_48,hc1,hl1];refine hK _ ?_;clear hK K;refine AW.condS (by simp -implicitDefEqProofs only[go_sem,seval,↓reduceIte];rfl) (fun h4=>?_) (fun h4=>?_)
      ·refine AW.seq_k fun K hK=>AW.region (by kernel_rfl) ?_
       simp -implicitDefEqProofs only[go_sem,seval,↓reduceIte];refine hK _ ?_;clear hK K;refine AW.ret ?_;simp -implicitDefEqProofs only[go_sem,seval,↓reduceIte];refine endK_some ?_;rw [parseT,if_pos (.inr (.inl ⟨by simp [hc],.inr rfl⟩))];rfl
      ·cases h4
     | false =>
      refine AW.seq_k fun K hK=>AW.region (by kernel_rfl) ?_;simp -implicitDefEqProofs only[go_sem,seval,↓reduceIte,u8_48,hc1,hl1];refine hK _ ?_;clear hK K;refine AW.condS (by simp -implicitDefEqProofs only[go_sem,seval,↓reduceIte];rfl) (fun h4=>?_) (fun h4=>?_)
      ·cases h4
      ·refine AW.skip ?_
       simp -implicitDefEqProofs only[go_sem,seval,↓reduceIte];exact hK3 _ () ⟨by simp,by simp [hl]⟩ (Weak.st (by simp -implicitDefEqProofs only[go_sem,seval,↓reduceIte]) (by simp -implicitDefEqProofs only[go_sem,seval,↓reduceIte]))
    ·have hl1:decide (((r.length+1:Nat):Int) > 1)=true:=by rw [decide_eq_true_iff];omega
     refine AW.seq_k fun K hK=>AW.region (by kernel_rfl) ?_;simp -implicitDefEqProofs only[go_sem,seval,↓reduceIte,u8_48,hc1,hl1];refine hK _ ?_;clear hK K;refine AW.condS (by simp -implicitDefEqProofs only[go_sem,seval,↓reduceIte];rfl) (fun h4=>?_) (fun h4=>?_)
     ·refine AW.seq_k fun K hK=>AW.region (by kernel_rfl) ?_
      simp -implicitDefEqProofs only[go_sem,seval,↓reduceIte];refine hK _ ?_;clear hK K;refine AW.ret ?_;simp -implicitDefEqProofs only[go_sem,seval,↓reduceIte];refine endK_some ?_;rw [parseT,if_pos (.inr (.inl ⟨by simp [hc],.inl (by simp;omega)⟩))];rfl
     ·cases h4
   ·have hc1:(c==48)=false:=by simpa using hc
    refine AW.seq_k fun K hK=>AW.region (by kernel_rfl) ?_;simp -implicitDefEqProofs only[go_sem,seval,↓reduceIte,u8_48,hc1];refine hK _ ?_;clear hK K;refine AW.condS (by simp -implicitDefEqProofs only[go_sem,seval,↓reduceIte];rfl) (fun h4=>?_) (fun h4=>?_)
    ·cases h4
    ·refine AW.skip ?_
     simp -implicitDefEqProofs only[go_sem,seval,↓reduceIte];exact hK3 _ () ⟨by simp,by simp [hc]⟩ (Weak.st (by simp -implicitDefEqProofs only[go_sem,seval,↓reduceIte]) (by simp -implicitDefEqProofs only[go_sem,seval,↓reduceIte]))
 rintro _ ⟨hne,hno⟩;refine AW.seq_k fun K hK=>AW.region (by kernel_rfl) ?_;simp -implicitDefEqProofs only[go_sem,seval,↓reduceIte];refine hK _ ?_;clear hK K;refine AW.seq_k fun K4 hK4=>?_;refine AW.seq_k fun K hK=>AW.region (by kernel_rfl) ?_;simp -implicitDefEqProofs only[go_sem,seval,↓reduceIte];refine hK _ ?_;clear hK K;refine AW.block ?_
 refine AW.for t0.length (fun k (x:Nat)=>st [(0,.str t0),(4,.bool b0),(5,grown 56 x 1 (ints ((t0.drop (t0.length-k)).reverse.map dval))),(6,.int .i64 ((t0.length:Int)-1-k))] [(56,grownO x (V.int .i64) (ints ((t0.drop (t0.length-k)).reverse.map dval)))])
  (fun k _=>(t0.drop (t0.length-k)).all isDig=true) 0 0 (Nat.zero_le _) (by rw [List.drop_eq_nil_of_le (by omega)];rfl)
  (Weak.st (by rw [List.drop_eq_nil_of_le (by omega)];simp -implicitDefEqProofs only[go_sem,seval,↓reduceIte];exact ⟨rfl,congrArg _ (by rw [w64 (by omega) (by omega)];omega)⟩) (by rw [List.drop_eq_nil_of_le (by omega)];simp -implicitDefEqProofs only[go_sem,seval,↓reduceIte];try rfl)) ?_
 intro k gx hk hI L2 hL2;refine AW.seq_k fun K5 hK5=>?_;refine AW.seq_k fun K hK=>AW.region (by kernel_rfl) ?_;simp -implicitDefEqProofs only[go_sem,seval,↓reduceIte];refine hK _ ?_;clear hK K;refine AW.condS (by simp -implicitDefEqProofs only[go_sem,seval,↓reduceIte];rfl) (fun h4=>?_) (fun h4=>?_)
 ·have hk1:k<t0.length:=by have:=of_decide_eq_true h4;omega
  refine AW.skip ?_;simp -implicitDefEqProofs only[go_sem,seval,↓reduceIte];refine hK5 _ ?_;obtain ⟨i,hi⟩:∃ i,i=t0.length-1-k:=⟨_,rfl⟩
  have e0:((t0.length:Int)-1-k)=(i:Int):=by omega
  have hi1:i<t0.length:=by omega
  have g2:=List.getElem?_eq_getElem hi1;have hdr:t0.drop i=t0[i]::t0.drop (i+1):=List.drop_eq_getElem_cons hi1
  have hall:t0.all isDig=((t0.take i).all isDig && (isDig t0[i] && (t0.drop (i+1)).all isDig)):=by
   rw [← List.all_cons,← hdr,← List.all_append,List.take_append_drop]
  generalize t0[i]=c at g2 hdr hall;rw [show t0.length-k=i+1 by omega] at hI ⊢;rw [e0]
  have hlen:((t0.drop (i+1)).reverse.map dval).length<1000000:=by simp;omega
  refine AW.seq_k fun K6 hK6=>?_;refine AW.block ?_;refine AW.seq_k fun K7 hK7=>?_
  by_cases hc:isDig c=true
  ·have hc2:48≤c.toNat∧c.toNat≤57:=by unfold isDig at hc;simpa using hc
   have b1:decide ((c.toNat:Int)<48)=false:=by rw [decide_eq_false_iff_not];omega
   have b2:decide ((c.toNat:Int) > 57)=false:=by rw [decide_eq_false_iff_not];omega
   have hdv:IntKind.i64.wrap ((c.toNat:Int)-48)=((dval c:Nat):Int):=by rw [w64 (by omega) (by omega)];unfold dval;omega
   have hwc:IntKind.i64.wrap (c.toNat:Int)=(c.toNat:Int):=w64 (by omega) (by omega);refine AW.seq_k fun K hK=>AW.region (by kernel_rfl) ?_;simp -implicitDefEqProofs only[go_sem,seval,↓reduceIte,g2,b1,b2];refine hK _ ?_;clear hK K;refine AW.condS (by simp -implicitDefEqProofs only[go_sem,seval,↓reduceIte];rfl) (fun h7=>?_) (fun h7=>?_)
   ·cases h7
   ·refine AW.skip ?_
    simp -implicitDefEqProofs only[go_sem,seval,↓reduceIte];refine hK7 _ ?_;refine AW.region (by kernel_rfl) ?_;simp -implicitDefEqProofs only[go_sem,seval,↓reduceIte,g2,hwc,hdv];intro g55;refine app_grown (f:=V.int .i64) (l:=ints ((t0.drop (i+1)).reverse.map dval)) (l2:=[((dval c:Nat):Int)]) (g:=gx) (fun _=>rfl) rfl rfl rfl rfl (roomOk_of (by omega) (by simp;omega)) fun g56=>?_;simp -implicitDefEqProofs only[go_sem,seval,↓reduceIte];refine hK6 _ ?_;refine AW.region (by kernel_rfl) ?_;simp -implicitDefEqProofs only[go_sem,seval,↓reduceIte]
    have hnew:(t0.drop (t0.length-(k+1))).reverse.map dval=(t0.drop (i+1)).reverse.map dval++[dval c]:=by
     rw [show t0.length-(k+1)=i by omega,hdr];simp
    refine hL2 _ ⟨hk1,g56,?_,Weak.st (by rw [hnew];simp -implicitDefEqProofs only[go_sem,seval,↓reduceIte,ints_app];exact ⟨rfl,congrArg _ (by rw [w64 (by omega) (by omega)];omega)⟩) (by rw [hnew];simp -implicitDefEqProofs only[go_sem,seval,↓reduceIte,ints_app];try rfl)⟩;rw [show t0.length-(k+1)=i by omega,hdr,List.all_cons,hc,hI];rfl
  ·have hcf:isDig c=false:=by simpa using hc
   have hbad:t0.all isDig=false:=by rw [hall,hcf];simp
   have hc2:c.toNat<48∨57<c.toNat:=by
    rcases Nat.lt_or_ge c.toNat 48 with h | h
    ·exact .inl h
    ·rcases Nat.lt_or_ge 57 c.toNat with h1 | h1
     ·exact .inr h1
     ·exact absurd (by unfold isDig;simp [h,h1]) hc
   have hP:parseT t0 b0=(0,2):=by rw [parseT,if_pos (.inr (.inr hbad))]
   rcases hc2 with h | h
   ·have b1:decide ((c.toNat:Int)<48)=true:=by rw [decide_eq_true_iff];omega
    refine AW.seq_k fun K hK=>AW.region (by kernel_rfl) ?_;simp -implicitDefEqProofs only[go_sem,seval,↓reduceIte,g2,b1];refine hK _ ?_;clear hK K;refine AW.condS (by simp -implicitDefEqProofs only[go_sem,seval,↓reduceIte];rfl) (fun h7=>?_) (fun h7=>?_)
    ·refine AW.seq_k fun K hK=>AW.region (by kernel_rfl) ?_
     simp -implicitDefEqProofs only[go_sem,seval,↓reduceIte];refine hK _ ?_;clear hK K;refine AW.ret ?_;simp -implicitDefEqProofs only[go_sem,seval,↓reduceIte];refine endK_some ?_;rw [hP];rfl
    ·cases h7
   ·have b1:decide ((c.toNat:Int)<48)=false:=by rw [decide_eq_false_iff_not];omega
    have b2:decide ((c.toNat:Int) > 57)=true:=by rw [decide_eq_true_iff];omega
    refine AW.seq_k fun K hK=>AW.region (by kernel_rfl) ?_;simp -implicitDefEqProofs only[go_sem,seval,↓reduceIte,g2,b1,b2];refine hK _ ?_;clear hK K;refine AW.condS (by simp -implicitDefEqProofs only[go_sem,seval,↓reduceIte];rfl) (fun h7=>?_) (fun h7=>?_)
    ·refine AW.seq_k fun K hK=>AW.region (by kernel_rfl) ?_
     simp -implicitDefEqProofs only[go_sem,seval,↓reduceIte];refine hK _ ?_;clear hK K;refine AW.ret ?_;simp -implicitDefEqProofs only[go_sem,seval,↓reduceIte];refine endK_some ?_;rw [hP];rfl
    ·cases h7
 ·have hk1:k=t0.length:=by have:=of_decide_eq_false h4;omega
  subst hk1;rw [Nat.sub_self,List.drop_zero] at hI ⊢
  have hP:parseT t0 b0=told (sgn b0 (val (t0.reverse.map dval))):=by
   rw [parseT,if_neg (by rw [hI];simp [hne,hno])];rfl
  have hdig:Dig (t0.reverse.map dval):=by
   intro d hd;obtain ⟨c,h1,rfl⟩:=List.mem_map.1 hd;have:=List.all_eq_true.1 hI c (List.mem_reverse.1 h1);unfold isDig at this;unfold dval;simp at this;omega
  have hol:(t0.reverse.map dval).length<1000000:=by simp;omega
  generalize t0.reverse.map dval=out at hdig hol hP;refine AW.exit ?_;simp -implicitDefEqProofs only[go_sem,seval,↓reduceIte];refine hK4 _ ?_;refine AW.weak (Weak.stF (fun o=>o==56) (l:=[(4,.bool b0),(5,encSl .new 1 (V.int .i64) (slD (decide (out=[])) out))]) (m:=[]) ?_ trivial) ?_
  ·simp -implicitDefEqProofs only[go_sem,seval,↓reduceIte]
   rw [← grownS_ints rfl];exact ⟨Fz.same _,Fz.grown rfl rfl (fun _=>rfl)⟩
  refine AW.seq_k fun K hK=>AW.region (by kernel_rfl) ?_;simp -implicitDefEqProofs only[go_sem,seval,↓reduceIte];refine CallA.pure hG (by kernel_rfl) ?_;simp -implicitDefEqProofs only[go_sem,seval,↓reduceIte];refine (trim_spec G hG _ (decide (out=[])) out (by simp) (by omega)).mono ?_;rintro _ _ rfl;rw [trim_val _ _ (Nat.le_refl _) hdig]
  have hnl:decide (out=[])=true→dg (val out)=[]:=by
   intro h;have:=of_decide_eq_true h;subst this;rfl
  have hvl:(dg (val out)).length<1000000:=by
   have:=dg_len (val_lt hdig);omega
  simp -implicitDefEqProofs only[go_sem,seval,↓reduceIte];refine CallA.pure hG (by kernel_rfl) ?_;simp -implicitDefEqProofs only[go_sem,seval,↓reduceIte];rw [← encLong];refine (rTold_spec G hG _ _ _ _ hnl (dig_dg _) hvl).mono ?_;rintro _ _ rfl;rw [val_dg];simp -implicitDefEqProofs only[go_sem,seval,↓reduceIte,encR];refine hK _ ?_;clear hK K;refine AW.ret ?_;simp -implicitDefEqProofs only[go_sem,seval,↓reduceIte];refine endK_some ?_;rw [hP];rfl
end Go.Hs
end

section
namespace Go.Hs
open Go.Proofs
set_option maxRecDepth 10000
theorem rNext_spec (G:Nat→V) (hG:GOk G) (sl:Sl Tk) (hT:TkOk sl.l) (g:Nat) (r:RS) (hr:r.i<1000000):RdS 1012 [] G 250 [] sl g r (.str (nextP sl.l r.i).text) r:=by
 intro gx;refine Spec.of_code' 1000 50 [.tmp 2] Tryz.func250 rfl rfl rfl rfl fun X=>?_;simp only [sets,rdO_K];refine AW.seq_k fun K hK=>AW.region (by kernel_rfl) ?_;simp -implicitDefEqProofs only[go_sem,seval,↓reduceIte];refine hK _ ?_;clear hK K;refine AW.seq_k fun K1 hK1=>?_
 by_cases hi:r.i<sl.l.length
 ·have h1:decide ((r.i:Int)≥sl.l.length)=false:=by rw [decide_eq_false_iff_not];omega
  have hg:=List.getElem?_eq_getElem hi;have hm:=hT.text _ (List.getElem_mem hi);generalize sl.l[r.i]=t at hg hm;have hP:=nextP_some hg
  have p1:PureC Tryz.prog G 53 [.str t.text] (.int .u8 (isP t.text)):=⟨by kernel_rfl,by
   simp -implicitDefEqProofs only[go_sem,seval,↓reduceIte];refine (rIs_spec G hG t.text (by omega)).mono ?_;rintro _ _ rfl
   rfl⟩
  by_cases hk:(isP t.text:Int)=t.kind
  ·rw [if_pos hk] at hP
   have e1:((isP t.text:Int) != t.kind)=false:=by simpa using hk
   refine AW.seq_k fun K hK=>AW.regionT ⟨fun i=>if i=22 then .int .u8 (isP t.text) else .top,fun _ => .pure⟩ (by kernel_rfl) hG (by kernel_rfl) (by kernel_rfl) ?_;simp -implicitDefEqProofs only[go_sem,seval,↓reduceIte,h1,hg,encTk_K,e1];refine ⟨p1,?_⟩;refine hK _ ?_;clear hK K;refine AW.condS (by simp -implicitDefEqProofs only[go_sem,seval,↓reduceIte];rfl) (fun h2=>?_) (fun h2=>?_)
   ·cases h2
   ·refine AW.skip ?_
    simp -implicitDefEqProofs only[go_sem,seval,↓reduceIte];refine hK1 _ ?_;refine AW.seq_k fun K hK=>AW.regionT ⟨fun _ => .top,fun _ => .pure⟩ (by kernel_rfl) hG (by kernel_rfl) (by kernel_rfl) ?_;simp -implicitDefEqProofs only[go_sem,seval,↓reduceIte,hg,encTk_K];refine hK _ ?_;clear hK K;refine AW.ret ?_;simp -implicitDefEqProofs only[go_sem,seval,↓reduceIte];refine endK_some ?_;exact ⟨by rw [hP],gx,by simp -implicitDefEqProofs only[go_sem,seval,↓reduceIte];try rfl,by simp -implicitDefEqProofs only[go_sem,seval,↓reduceIte];try rfl⟩
  ·rw [if_neg hk] at hP
   have e1:((isP t.text:Int) != t.kind)=true:=by simpa using hk
   refine AW.seq_k fun K hK=>AW.regionT ⟨fun i=>if i=22 then .int .u8 (isP t.text) else .top,fun _ => .pure⟩ (by kernel_rfl) hG (by kernel_rfl) (by kernel_rfl) ?_;simp -implicitDefEqProofs only[go_sem,seval,↓reduceIte,h1,hg,encTk_K,e1];refine ⟨p1,?_⟩;refine hK _ ?_;clear hK K;refine AW.condS (by simp -implicitDefEqProofs only[go_sem,seval,↓reduceIte];rfl) (fun h2=>?_) (fun h2=>?_)
   ·refine AW.seq_k fun K hK=>AW.region (by kernel_rfl) ?_
    simp -implicitDefEqProofs only[go_sem,seval,↓reduceIte];refine hK _ ?_;clear hK K;refine AW.ret ?_;simp -implicitDefEqProofs only[go_sem,seval,↓reduceIte];refine endK_some ?_;exact ⟨by rw [hP],gx,by simp -implicitDefEqProofs only[go_sem,seval,↓reduceIte];try rfl,by simp -implicitDefEqProofs only[go_sem,seval,↓reduceIte];try rfl⟩
   ·cases h2
 ·have h1:decide ((r.i:Int)≥sl.l.length)=true:=by rw [decide_eq_true_iff];omega
  have hP:=nextP_none (l:=sl.l) (i:=r.i) (by omega);refine AW.seq_k fun K hK=>AW.regionT ⟨fun _ => .top,fun _ => .pure⟩ (by kernel_rfl) hG (by kernel_rfl) (by kernel_rfl) ?_;simp -implicitDefEqProofs only[go_sem,seval,↓reduceIte,h1];refine hK _ ?_;clear hK K;refine AW.condS (by simp -implicitDefEqProofs only[go_sem,seval,↓reduceIte];rfl) (fun h2=>?_) (fun h2=>?_)
  ·refine AW.seq_k fun K hK=>AW.region (by kernel_rfl) ?_
   simp -implicitDefEqProofs only[go_sem,seval,↓reduceIte];refine hK _ ?_;clear hK K;refine AW.ret ?_;simp -implicitDefEqProofs only[go_sem,seval,↓reduceIte];refine endK_some ?_;exact ⟨by rw [hP],gx,by simp -implicitDefEqProofs only[go_sem,seval,↓reduceIte];try rfl,by simp -implicitDefEqProofs only[go_sem,seval,↓reduceIte];try rfl⟩
  ·cases h2
theorem rLast_spec (G:Nat→V) (hG:GOk G) (sl:Sl Tk) (g:Nat) (r:RS) (hr:r.nodes.length<1000000):RdS 1012 [] G 222 [] sl g r (.int .i64 r.last) r:=by
 intro gx;refine Spec.of_code' 1000 9 [.tmp 2] Tryz.func222 rfl rfl rfl rfl fun X=>?_;simp only [sets,rdO_K];refine AW.seq_k fun K hK=>AW.region (by kernel_rfl) ?_;simp -implicitDefEqProofs only[go_sem,seval,↓reduceIte];refine hK _ ?_;clear hK K;refine AW.seq_k fun K hK=>AW.region (by kernel_rfl) ?_;simp -implicitDefEqProofs only[go_sem,seval,↓reduceIte];refine hK _ ?_;clear hK K;refine AW.ret ?_;simp -implicitDefEqProofs only[go_sem,seval,↓reduceIte];refine endK_some ?_;exact ⟨by rw [w64 (by omega) (by omega)];rfl,gx,by simp -implicitDefEqProofs only[go_sem,seval,↓reduceIte];try rfl,by simp -implicitDefEqProofs only[go_sem,seval,↓reduceIte];try rfl⟩
theorem rPutN_spec (G:Nat→V) (hG:GOk G) (sl:Sl Tk) (g:Nat) (r:RS) (hr:r.nodes.length<1000000) (n:XN) :
  RdS 1012 [] G 223 [encXN n] sl g r (.bool true) (r.put n):=by
 intro gx;refine Spec.of_code' 1000 15 [.tmp 4] Tryz.func223 rfl rfl rfl rfl fun X=>?_;simp only [sets,rdO_K,encXN_K];refine AW.seq_k fun K hK=>AW.region (by kernel_rfl) ?_;simp -implicitDefEqProofs only[go_sem,seval,↓reduceIte];intro g3;refine hK _ ?_;clear hK K
 refine AW.weak (Weak.stF (fun o=>o==1003) (l:=[(0,.ptr 8 g 0),(3,.view .new (encXN n))])
  (m:=[(8,rdO 1012 [] sl g gx r),(1012,ndO gx r.nodes)]) ?_ ?_) ?_
 ·simp -implicitDefEqProofs only[go_sem,seval,↓reduceIte]
  exact ⟨Fz.same _,Fz.ptr (v:=encXN n) (c := .new) (fz:=0) rfl (by simp -implicitDefEqProofs only[go_sem,seval,↓reduceIte];try rfl)⟩
 ·simp only [allFzO_cons,allFzO_nil,and_true]
  exact ⟨FzO.keep rfl (by simp -implicitDefEqProofs only[go_sem,seval,↓reduceIte];try rfl),FzO.keep rfl (by simp -implicitDefEqProofs only[go_sem,seval,↓reduceIte];try rfl)⟩
 simp only [encXN_K];refine AW.later ?_;refine AW.seq_k fun K hK=>AW.regionT ⟨fun _ => .top,fun _ => .pure⟩ (by kernel_rfl) hG (by kernel_rfl) (by kernel_rfl) ?_;simp -implicitDefEqProofs only[go_sem,seval,↓reduceIte,rdO_K];intro g11;refine app_grownC (f:=encXN) (l:=r.nodes) (l2:=[n]) (g:=gx) encXN_cells rfl rfl rfl (by simp -implicitDefEqProofs only[go_sem,seval,↓reduceIte];rfl) (roomOk_of (by omega) (by simp;omega)) fun c2 g2=>?_;simp -implicitDefEqProofs only[go_sem,seval,↓reduceIte];refine hK _ ?_;clear hK K;refine AW.seq_k fun K hK=>AW.region (by kernel_rfl) ?_;simp -implicitDefEqProofs only[go_sem,seval,↓reduceIte];refine hK _ ?_;clear hK K;refine AW.ret ?_;simp -implicitDefEqProofs only[go_sem,seval,↓reduceIte];refine ⟨st [(4,.bool true)] [(8,rdO 1012 [] sl g g2 (r.put n)),(1012,ndO g2 (r.nodes++[n]))],Weak.stF (fun _=>false) ?_ ?_,?_⟩
 ·simp -implicitDefEqProofs only[go_sem,seval,↓reduceIte]
  exact Fz.same _
 ·simp only [allFzO_cons,allFzO_nil,and_true]
  exact ⟨FzO.keep rfl (by simp -implicitDefEqProofs only[go_sem,seval,↓reduceIte];rfl),FzO.grownC (c:=c2) rfl (by simp -implicitDefEqProofs only[go_sem,seval,↓reduceIte])⟩
 ·simp -implicitDefEqProofs only[go_sem,seval,↓reduceIte]
  exact endK_some ⟨rfl,g2,by simp -implicitDefEqProofs only[go_sem,seval,↓reduceIte];rfl,by simp -implicitDefEqProofs only[go_sem,seval,↓reduceIte];rfl⟩
theorem rLeaf_spec (G:Nat→V) (hG:GOk G) (sl:Sl Tk) (g:Nat) (r:RS) (hi:r.i<1000000) (hr:r.nodes.length<1000000) (op num:Int) (name:List UInt8) (x y z:Int) :
  RdS 1012 [] G 253 [encXN ⟨op,num,name,x,y,z⟩] sl g r (.bool true) (leafP r op num name).2:=by
 intro gx;refine Spec.of_code' 1000 18 [.tmp 4] Tryz.func253 rfl rfl rfl rfl fun X=>?_
 have hw:IntKind.i64.wrap ((r.i:Int)+1)=((r.i+1:Nat):Int):=by rw [w64 (by omega) (by omega)];omega
 simp only [sets,rdO_K,encXN_K];refine AW.seq_k fun K hK=>AW.region (by kernel_rfl) ?_;simp -implicitDefEqProofs only[go_sem,seval,↓reduceIte];intro g3;refine hK _ ?_;clear hK K;refine AW.seq_k fun K hK=>AW.region (by kernel_rfl) ?_;simp -implicitDefEqProofs only[go_sem,seval,↓reduceIte,hw];refine hK _ ?_;clear hK K;refine AW.seq_k fun K hK=>AW.region (by kernel_rfl) ?_;simp -implicitDefEqProofs only[go_sem,seval,↓reduceIte];refine hK _ ?_;clear hK K;refine AW.seq_k fun K hK=>AW.region (by kernel_rfl) ?_;simp -implicitDefEqProofs only[go_sem,seval,↓reduceIte];refine hK _ ?_;clear hK K;refine AW.seq_k fun K hK=>AW.region (by kernel_rfl) ?_;simp -implicitDefEqProofs only[go_sem,seval,↓reduceIte];refine hK _ ?_;clear hK K;refine AW.seq_k fun K hK=>AW.region (by kernel_rfl) ?_;simp -implicitDefEqProofs only[go_sem,seval,↓reduceIte];rw [← encXN_K ⟨op,num,name,-1,-1,-1⟩];refine RdS.call hG (rPutN_spec G hG sl g r.adv hr ⟨op,num,name,-1,-1,-1⟩) (gx:=gx) (by kernel_rfl) (fun F=>rfl) (by decide) (by first | rfl | (simp -implicitDefEqProofs only[go_sem,seval,↓reduceIte,List.map_cons,List.map_nil,encXN_K];try rfl)) (by first | rfl | (simp -implicitDefEqProofs only[go_sem,seval,↓reduceIte,List.map_cons,List.map_nil];try rfl)) (by first | rfl | (simp -implicitDefEqProofs only[go_sem,seval,↓reduceIte];try rfl)) (by first | rfl | (simp -implicitDefEqProofs only[go_sem,seval,↓reduceIte];try rfl)) fun gx'=>?_;simp -implicitDefEqProofs only[go_sem,seval,↓reduceIte,sets];refine hK _ ?_;clear hK K
 refine AW.ret ?_;simp -implicitDefEqProofs only[go_sem,seval,↓reduceIte];refine endK_some ?_;exact ⟨rfl,gx',by simp -implicitDefEqProofs only[go_sem,seval,↓reduceIte];rfl,by simp -implicitDefEqProofs only[go_sem,seval,↓reduceIte];rfl⟩
theorem rEats_spec (G:Nat→V) (hG:GOk G) (sl:Sl Tk) (hT:TkOk sl.l) (g:Nat) (r:RS) (hi:r.i<1000000) (w:List UInt8) :
  RdS 1012 [] G 251 [.str w] sl g r (.bool (eatR sl.l w r).1) (eatR sl.l w r).2:=by
 intro gx;refine Spec.of_code' 1000 19 [.tmp 4] Tryz.func251 rfl rfl rfl rfl fun X=>?_
 have hw:IntKind.i64.wrap ((r.i:Int)+1)=((r.i+1:Nat):Int):=by rw [w64 (by omega) (by omega)];omega
 have hP:eatR sl.l w r=if (nextP sl.l r.i).text≠w then (false,r.err 80) else (true,r.adv):=rfl
 refine AW.seq_k fun K hK=>AW.region (by kernel_rfl) ?_;simp -implicitDefEqProofs only[go_sem,seval,↓reduceIte];refine hK _ ?_;clear hK K;refine AW.seq_k fun K1 hK1=>?_;refine AW.seq_k fun K hK=>AW.region (by kernel_rfl) ?_;simp -implicitDefEqProofs only[go_sem,seval,↓reduceIte];refine RdS.call hG (rNext_spec G hG sl hT g r hi) (gx:=gx) (by kernel_rfl) (fun F=>rfl) (by decide) (by first | rfl | (simp -implicitDefEqProofs only[go_sem,seval,↓reduceIte,List.map_cons,List.map_nil,encXN_K];try rfl)) (by first | rfl | (simp -implicitDefEqProofs only[go_sem,seval,↓reduceIte,List.map_cons,List.map_nil];try rfl)) (by first | rfl | (simp -implicitDefEqProofs only[go_sem,seval,↓reduceIte];try rfl)) (by first | rfl | (simp -implicitDefEqProofs only[go_sem,seval,↓reduceIte];try rfl)) fun gx'=>?_;simp -implicitDefEqProofs only[go_sem,seval,↓reduceIte,sets];refine hK _ ?_;clear hK K;generalize nextP sl.l r.i=t at hP ⊢
 by_cases ht:t.text=w
 ·rw [if_neg (by simpa using ht)] at hP
  refine AW.condS (by simp -implicitDefEqProofs only[go_sem,seval,↓reduceIte];rfl) (fun h2=>?_) (fun h2=>?_)
  ·rw [ht] at h2;simp at h2
  ·refine AW.skip ?_
   simp -implicitDefEqProofs only[go_sem,seval,↓reduceIte];refine hK1 _ ?_;refine AW.seq_k fun K hK=>AW.region (by kernel_rfl) ?_;simp -implicitDefEqProofs only[go_sem,seval,↓reduceIte,rdO_K,hw];refine hK _ ?_;clear hK K;refine AW.seq_k fun K hK=>AW.region (by kernel_rfl) ?_;simp -implicitDefEqProofs only[go_sem,seval,↓reduceIte];refine hK _ ?_;clear hK K;refine AW.ret ?_;simp -implicitDefEqProofs only[go_sem,seval,↓reduceIte];refine endK_some ?_;rw [hP];exact ⟨rfl,gx',by simp -implicitDefEqProofs only[go_sem,seval,↓reduceIte];rfl,by simp -implicitDefEqProofs only[go_sem,seval,↓reduceIte];rfl⟩
 ·rw [if_pos ht] at hP
  refine AW.condS (by simp -implicitDefEqProofs only[go_sem,seval,↓reduceIte];rfl) (fun h2=>?_) (fun h2=>?_)
  ·refine AW.seq_k fun K hK=>AW.region (by kernel_rfl) ?_
   simp -implicitDefEqProofs only[go_sem,seval,↓reduceIte,rdO_K];refine hK _ ?_;clear hK K;refine AW.seq_k fun K hK=>AW.region (by kernel_rfl) ?_;simp -implicitDefEqProofs only[go_sem,seval,↓reduceIte];refine hK _ ?_;clear hK K;refine AW.ret ?_;simp -implicitDefEqProofs only[go_sem,seval,↓reduceIte];refine endK_some ?_;rw [hP];exact ⟨rfl,gx',by simp -implicitDefEqProofs only[go_sem,seval,↓reduceIte];rfl,by simp -implicitDefEqProofs only[go_sem,seval,↓reduceIte];rfl⟩
  ·have h2:t.text=w:=by simpa using h2
   exact absurd h2 ht
theorem trimR_len:∀ t:List UInt8,(trimR t).length≤t.length
 | []=>Nat.le_refl _
 | [c]=>Nat.le_refl _
 | c::d::r=>by
  rw [trimR]
  split
  ·have:=trimR_len (d::r)
   simp only [List.length_cons] at this ⊢;omega
  ·exact Nat.le_refl _
theorem u8_eq48 (c:UInt8):((c.toNat:Int)==48)=(c==48):=by
 have:=u8_all (fun c=>((c.toNat:Int)==48)==(c==48)) (by decide +kernel) c;simpa using this
theorem rNumber_spec (G:Nat→V) (hG:GOk G) (sl:Sl Tk) (g:Nat) (r:RS) (hi:r.i<1000000) (hr:r.nodes.length<1000000) (t:List UInt8) (ht:t.length<100000) :
  RdS 1012 [] G 254 [.str t] sl g r (.bool (numberR r t).1) (numberR r t).2:=by
 intro gx;refine Spec.of_code' 1000 31 [.tmp 4] Tryz.func254 rfl rfl rfl rfl fun X=>?_
 have hP:numberR r t=if (parseR (trimR t)).2≠0 then (false,r.err 60) else leafP r 1 (parseR (trimR t)).1 []:=rfl
 have hl:=trimR_len t;refine AW.seq_k fun K hK=>AW.region (by kernel_rfl) ?_;simp -implicitDefEqProofs only[go_sem,seval,↓reduceIte];refine hK _ ?_;clear hK K;refine AW.seqJ (fun (_:Unit)=>st [(0,.ptr 8 g 0),(1,.str (trimR t))] [(8,rdO 1012 [] sl g gx r),(1012,ndO gx r.nodes)]) (fun _=>True) (fun K1 hK1=>?_) ?_
 ·refine AW.block ?_
  refine AW.while (fun (s:List UInt8)=>st [(0,.ptr 8 g 0),(1,.str s)] [(8,rdO 1012 [] sl g gx r),(1012,ndO gx r.nodes)])
   (fun s=>trimR s=trimR t∧s.length≤t.length) (fun s=>s.length) t ⟨rfl,Nat.le_refl _⟩ (Weak.st (by simp -implicitDefEqProofs only[go_sem,seval,↓reduceIte];try rfl) (by simp -implicitDefEqProofs only[go_sem,seval,↓reduceIte,sets];try rfl)) ?_
  rintro s ⟨hs,hsl⟩ L2 hL2;refine AW.seq_k fun K3 hK3=>?_
  by_cases hlen:s.length > 1
  rotate_left
  ·have h1:decide ((s.length:Int) > 1)=false:=by rw [decide_eq_false_iff_not];omega
   have he:trimR s=s:=by
    match s,hlen with
    | [],_=>rfl
    | [c],_=>rfl
    | c::d::r,h=>simp at h
   refine AW.seq_k fun K hK=>AW.region (by kernel_rfl) ?_;simp -implicitDefEqProofs only[go_sem,seval,↓reduceIte,h1];refine hK _ ?_;clear hK K;refine AW.condS (by simp -implicitDefEqProofs only[go_sem,seval,↓reduceIte];rfl) (fun h14=>?_) (fun h14=>?_)
   ·cases h14
   refine AW.exit ?_;simp -implicitDefEqProofs only[go_sem,seval,↓reduceIte];exact hK1 _ () trivial (Weak.st (by rw [← hs,he];simp -implicitDefEqProofs only[go_sem,seval,↓reduceIte];try rfl) (by simp -implicitDefEqProofs only[go_sem,seval,↓reduceIte];try rfl))
  have h1:decide ((s.length:Int) > 1)=true:=by rw [decide_eq_true_iff];omega
  obtain ⟨c,d,q,hq⟩:∃ c d q,s=c::d::q:=by
   match s,hlen with
   | c::d::q,_=>exact ⟨c,d,q,rfl⟩
  have hg:s[0]? = some c:=by rw [hq];rfl
  have hdr:(s.drop 1).take (s.length-1)=d::q:=by rw [hq];simp
  have hT:trimR s=if c=48 then trimR (d::q) else s:=by rw [hq];rfl
  have hll:(d::q).length+1=s.length:=by rw [hq];simp
  by_cases hc:c=48
  ·have e1:(c==48)=true:=by simpa using hc
   rw [if_pos hc] at hT;refine AW.seq_k fun K hK=>AW.region (by kernel_rfl) ?_;simp -implicitDefEqProofs only[go_sem,seval,↓reduceIte,h1,hg,u8_eq48,e1];refine hK _ ?_;clear hK K;refine AW.condS (by simp -implicitDefEqProofs only[go_sem,seval,↓reduceIte];rfl) (fun h14=>?_) (fun h14=>?_);rotate_left
   ·cases h14
   refine AW.skip ?_;simp -implicitDefEqProofs only[go_sem,seval,↓reduceIte];refine hK3 _ ?_;refine AW.block ?_
   have hb:1≤s.length:=by omega
   refine AW.region (by kernel_rfl) ?_;simp -implicitDefEqProofs only[go_sem,seval,↓reduceIte,hb,hdr,Nat.le_refl];exact hL2 _ ⟨d::q,by omega,⟨by rw [← hT];exact hs,by omega⟩,Weak.st (by simp -implicitDefEqProofs only[go_sem,seval,↓reduceIte];try rfl) (by simp -implicitDefEqProofs only[go_sem,seval,↓reduceIte];try rfl)⟩
  ·have e1:(c==48)=false:=by simpa using hc
   rw [if_neg hc] at hT;refine AW.seq_k fun K hK=>AW.region (by kernel_rfl) ?_;simp -implicitDefEqProofs only[go_sem,seval,↓reduceIte,h1,hg,u8_eq48,e1];refine hK _ ?_;clear hK K;refine AW.condS (by simp -implicitDefEqProofs only[go_sem,seval,↓reduceIte];rfl) (fun h14=>?_) (fun h14=>?_)
   ·cases h14
   refine AW.exit ?_;simp -implicitDefEqProofs only[go_sem,seval,↓reduceIte];exact hK1 _ () trivial (Weak.st (by rw [← hs,hT];simp -implicitDefEqProofs only[go_sem,seval,↓reduceIte];try rfl) (by simp -implicitDefEqProofs only[go_sem,seval,↓reduceIte];try rfl))
 intro _ _;generalize trimR t=s at hP hl ⊢;refine AW.seq_k fun K hK=>AW.region (by kernel_rfl) ?_;simp -implicitDefEqProofs only[go_sem,seval,↓reduceIte];refine CallA.pure hG (by kernel_rfl) ?_;simp -implicitDefEqProofs only[go_sem,seval,↓reduceIte];refine (rParse_spec G hG s (by omega)).mono ?_;rintro _ _ rfl;generalize parseR s=q at hP ⊢;obtain ⟨n,e⟩:=q;simp only at hP;simp -implicitDefEqProofs only[go_sem,seval,↓reduceIte,encR];refine hK _ ?_;clear hK K;refine AW.seq_k fun K3 hK3=>?_
 by_cases he:e=0
 ·have e1:(e==0)=true:=by simpa using he
  rw [if_neg (show ¬ e≠0 by simpa using he)] at hP;refine AW.seq_k fun K hK=>AW.region (by kernel_rfl) ?_;simp -implicitDefEqProofs only[go_sem,seval,↓reduceIte,bne,e1];refine hK _ ?_;clear hK K;refine AW.condS (by simp -implicitDefEqProofs only[go_sem,seval,↓reduceIte];rfl) (fun h4=>?_) (fun h4=>?_)
  ·cases h4
  ·refine AW.skip ?_
   simp -implicitDefEqProofs only[go_sem,seval,↓reduceIte];refine hK3 _ ?_;refine AW.seq_k fun K hK=>AW.region (by kernel_rfl) ?_;simp -implicitDefEqProofs only[go_sem,seval,↓reduceIte];rw [← encXN_K ⟨1,n,[],0,0,0⟩];refine RdS.call hG (rLeaf_spec G hG sl g r hi hr 1 n [] 0 0 0) (gx:=gx) (by kernel_rfl) (fun F=>rfl) (by decide) (by first | rfl | (simp -implicitDefEqProofs only[go_sem,seval,↓reduceIte,List.map_cons,List.map_nil,encXN_K];try rfl)) (by first | rfl | (simp -implicitDefEqProofs only[go_sem,seval,↓reduceIte,List.map_cons,List.map_nil];try rfl)) (by first | rfl | (simp -implicitDefEqProofs only[go_sem,seval,↓reduceIte];try rfl)) (by first | rfl | (simp -implicitDefEqProofs only[go_sem,seval,↓reduceIte];try rfl)) fun gx'=>?_;simp -implicitDefEqProofs only[go_sem,seval,↓reduceIte,sets];refine hK _ ?_;clear hK K;refine AW.ret ?_;simp -implicitDefEqProofs only[go_sem,seval,↓reduceIte];refine endK_some ?_;rw [hP];exact ⟨rfl,gx',by simp -implicitDefEqProofs only[go_sem,seval,↓reduceIte];try rfl,by simp -implicitDefEqProofs only[go_sem,seval,↓reduceIte];try rfl⟩
 ·have e1:(e==0)=false:=by simpa using he
  rw [if_pos he] at hP;refine AW.seq_k fun K hK=>AW.region (by kernel_rfl) ?_;simp -implicitDefEqProofs only[go_sem,seval,↓reduceIte,bne,e1];refine hK _ ?_;clear hK K;refine AW.condS (by simp -implicitDefEqProofs only[go_sem,seval,↓reduceIte];rfl) (fun h4=>?_) (fun h4=>?_)
  ·refine AW.seq_k fun K hK=>AW.region (by kernel_rfl) ?_
   simp -implicitDefEqProofs only[go_sem,seval,↓reduceIte,rdO_K];refine hK _ ?_;clear hK K;refine AW.seq_k fun K hK=>AW.region (by kernel_rfl) ?_;simp -implicitDefEqProofs only[go_sem,seval,↓reduceIte];refine hK _ ?_;clear hK K;refine AW.ret ?_;simp -implicitDefEqProofs only[go_sem,seval,↓reduceIte];refine endK_some ?_;rw [hP];exact ⟨rfl,gx,by simp -implicitDefEqProofs only[go_sem,seval,↓reduceIte];try rfl,by simp -implicitDefEqProofs only[go_sem,seval,↓reduceIte];try rfl⟩
  ·cases h4
end Go.Hs
end

section
namespace Go.Hs
structure Bal (l:List Tk) (k:Nat) (r r':RS):Prop where
 up:r.i≤r'.i
 inn:r.i≤l.length→r'.i≤l.length
 cnt:r'.nodes.length+r.i+k≤r.nodes.length+r'.i
theorem Bal.refl (l:List Tk) (r:RS):Bal l 0 r r:=⟨Nat.le_refl _,id,Nat.le_refl _⟩
theorem Bal.trans {l:List Tk} {k k':Nat} {r r' r'':RS} (h:Bal l k r r') (h':Bal l k' r' r''):Bal l (k+k') r r'' :=
 ⟨Nat.le_trans h.up h'.up,fun x=>h'.inn (h.inn x),by have:=h.cnt;have:=h'.cnt;omega⟩
theorem Bal.weak {l:List Tk} {k k':Nat} {r r':RS} (h:Bal l k r r') (hk:k'≤k):Bal l k' r r':=⟨h.up,h.inn,by have:=h.cnt;omega⟩
theorem Bal.adv {l:List Tk} {r:RS} (h:r.i<l.length):Bal l 1 r r.adv:=⟨Nat.le_succ _,fun _=>h,by show r.nodes.length+r.i+1≤r.nodes.length+(r.i+1);omega⟩
theorem Bal.err (l:List Tk) (r:RS) (e:Int):Bal l 0 r (r.err e):=⟨Nat.le_refl _,id,Nat.le_refl _⟩
theorem Bal.put {l:List Tk} {k:Nat} {r r':RS} (h:Bal l (k+1) r r') (n:XN):Bal l k r (r'.put n) :=
 ⟨h.up,h.inn,by have:=h.cnt;show (r'.nodes++[n]).length+r.i+k≤_;rw [List.length_append,List.length_singleton];show _≤r.nodes.length+r'.i;omega⟩
def Bals (l:List Tk) (inner:Inner):Prop:=∀ n r,Bal l 0 r (inner n r).2
theorem Bal.then {l:List Tk} {r:RS} {x:Bool × RS} {k:RS→Bool × RS} (h:Bal l 0 r x.2) (hk:x.1=true→Bal l 0 r (k x.2).2):Bal l 0 r (andThen x k).2:=by
 obtain ⟨b,r1⟩:=x;cases b
 ·exact h
 ·exact hk rfl
theorem eatP_bal (l:List Tk) (w:List UInt8) (r:RS):Bal l 0 r (eatP l w r).2∧((eatP l w r).1=true→Bal l 1 r (eatP l w r).2):=by
 unfold eatP
 split
 ·exact ⟨Bal.err _ _ _,fun h=>by cases h⟩
 ·rename_i h
  have hk:(nextP l r.i).kind≠0:=fun hh=>h (.inl hh);have:=Bal.adv (nextP_lt hk);exact ⟨this.weak (Nat.zero_le _),fun _=>this⟩
theorem leafP_bal {l:List Tk} {r:RS} (h:(nextP l r.i).kind≠0) (op num:Int) (name:List UInt8):Bal l 0 r (leafP r op num name).2:=(Bal.adv (nextP_lt h)).put _
theorem numberP_bal {l:List Tk} {r:RS} (h:(nextP l r.i).kind≠0) (t:List UInt8):Bal l 0 r (numberP r t).2:=by
 unfold numberP
 split
 ·exact Bal.err _ _ _
 ·exact leafP_bal h _ _ _
theorem branchesP_bal {l:List Tk} {inner:Inner} (h:Bals l inner) (r:RS):Bal l 0 r (branchesP l inner r).2:=by
 unfold branchesP;have e1:=eatP_bal l wIf r;refine Bal.then e1.1 fun h1=>?_;have b1:=e1.2 h1;generalize (eatP l wIf r).2=r1 at b1 ⊢;have b2:=b1.trans (h 1 r1);refine Bal.then (b2.weak (Nat.zero_le _)) fun _=>?_;generalize (inner 1 r1).2=a at b2 ⊢;have e2:=eatP_bal l wThen a;refine Bal.then ((b2.trans e2.1).weak (Nat.zero_le _)) fun h2=>?_;have b3:=b2.trans (e2.2 h2);generalize (eatP l wThen a).2=r2 at b3 ⊢;have b4:=b3.trans (h 1 r2);refine Bal.then (b4.weak (Nat.zero_le _)) fun _=>?_;generalize (inner 1 r2).2=b at b4 ⊢;have e3:=eatP_bal l wElse b;refine Bal.then ((b4.trans e3.1).weak (Nat.zero_le _)) fun h3=>?_;have b5:=b4.trans (e3.2 h3);generalize (eatP l wElse b).2=r3 at b5 ⊢;have b6:=b5.trans (h 1 r3);refine Bal.then (b6.weak (Nat.zero_le _)) fun _=>?_;generalize (inner 1 r3).2=c at b6 ⊢;have e4:=eatP_bal l wEndif c;refine Bal.then ((b6.trans e4.1).weak (Nat.zero_le _)) fun h4=>?_;have b7:=b6.trans (e4.2 h4);exact (b7.put _).weak (Nat.zero_le _)
theorem aheadP_bal {l:List Tk} {inner:Inner} (h:Bals l inner) (r:RS):Bal l 0 r (aheadP l inner r).2:=by
 unfold aheadP
 split
 ·rename_i hk;exact numberP_bal (by rw [hk];decide) _
 split
 ·rename_i hk;exact leafP_bal (by rw [hk];decide) _ _ _
 split
 ·exact Bal.err _ _ _
 rename_i h0;have ba:=Bal.adv (nextP_lt h0)
 split
 ·have b1:=ba.trans (h 9 r.adv)
  exact Bal.then (b1.weak (Nat.zero_le _)) fun _=>b1.put _
 split
 ·have b1:=ba.trans (h 1 r.adv)
  exact Bal.then (b1.weak (Nat.zero_le _)) fun _=>(b1.trans (eatP_bal l [41] _).1).weak (Nat.zero_le _)
 split
 ·exact branchesP_bal h r
 split
 ·exact leafP_bal h0 _ _ _
 ·exact Bal.err _ _ _
theorem loopP_bal {l:List Tk} {inner:Inner} (h:Bals l inner) (n:Int):∀ (m:Nat) (r:RS),Bal l 0 r (loopP l inner n m r).2
 | 0,r=>Bal.refl l r
 | m+1,r=>by
  rw [loopP]
  cases ho:opAt l r.i with
  | none=>exact Bal.refl l r
  | some op =>
   simp only
   split
   ·exact Bal.refl l r
   ·have b1:=(Bal.adv (opAt_lt ho)).trans (h (lvl op+1) r.adv)
    exact Bal.then (b1.weak (Nat.zero_le _)) fun _=>((b1.put _).trans (loopP_bal h n m _)).weak (Nat.zero_le _)
theorem climbP_bal (l:List Tk):∀ f,Bals l (climbP l f)
 | 0=>fun _ r=>Bal.refl l r
 | f+1=>fun n r=>by
  rw [climbP];have b1:=aheadP_bal (climbP_bal l f) r;exact Bal.then b1 fun _=>(b1.trans (loopP_bal (climbP_bal l f) n _ _)).weak (Nat.zero_le _)
def RSok (l:List Tk) (r:RS):Prop:=r.i≤l.length∧r.nodes.length≤r.i
theorem Bal.ok {l:List Tk} {k:Nat} {r r':RS} (h:Bal l k r r') (hr:RSok l r):RSok l r':=⟨h.inn hr.1,by have:=h.cnt;have:=h.up;have:=hr.2;omega⟩
end Go.Hs
end

section
namespace Go.Hs
open Go.Proofs
set_option maxRecDepth 10000
structure InnR (G:Nat→V) (sl:Sl Tk) (g:Nat) (inner:Inner) (i0:Nat):Prop where
 lev:∀ n r,1≤n→n≤9→i0<r.i→RSok sl.l r→RdS 1012 [] G 142 [.int .i64 n] sl g r (.bool (inner n r).1) (inner n r).2
 un:∀ r,i0<r.i→RSok sl.l r→RdS 1012 [] G 220 [] sl g r (.bool (inner 9 r).1) (inner 9 r).2
theorem nextP_ln {l:List Tk} (hT:TkOk l) (i:Nat):(nextP l i).text.length<100000:=by
 unfold nextP
 split
 ·rename_i t h
  split
  ·exact hT.text _ (List.mem_of_getElem? h)
  ·exact Nat.zero_lt_succ _
 ·exact Nat.zero_lt_succ _
theorem eatR_bal (l:List Tk) {w:List UInt8} (hw:isP w≠0) (r:RS):Bal l 0 r (eatR l w r).2∧((eatR l w r).1=true→Bal l 1 r (eatR l w r).2)∧((eatR l w r).1=true→(eatR l w r).2=r.adv):=by
 rw [eat_eq l hw];refine ⟨(eatP_bal l w r).1,(eatP_bal l w r).2,?_⟩;unfold eatP
 split
 ·intro h;cases h
 ·exact fun _=>rfl
theorem rBranches_spec (G:Nat→V) (hG:GOk G) (sl:Sl Tk) (hT:TkOk sl.l) (g:Nat) (r:RS) (hr:RSok sl.l r) (hlt:r.i<sl.l.length) (inner:Inner) (hin:InnR G sl g inner r.i) (hb:Bals sl.l inner) :
  RdS 1012 [] G 252 [] sl g r (.bool (branchesR sl.l inner r).1) (branchesR sl.l inner r).2:=by
 have hTl:=hT.len;intro gx;refine Spec.of_code' 1000 47 [.tmp 2] Tryz.func252 rfl rfl rfl rfl fun X=>?_
 have hP:branchesR sl.l inner r=andThen (inner 1 r.adv) fun a=>andThen (eatR sl.l wThen a) fun r2=>andThen (inner 1 r2) fun b =>
  andThen (eatR sl.l wElse b) fun r3=>andThen (inner 1 r3) fun c=>andThen (eatR sl.l wEndif c) fun r4=>(true,r4.put ⟨22,0,[],a.last,b.last,c.last⟩):=rfl
 generalize branchesR sl.l inner r=res at hP ⊢;have had:RSok sl.l r.adv:=(Bal.adv hlt).ok hr
 have hw:IntKind.i64.wrap ((r.i:Int)+1)=((r.i+1:Nat):Int):=by rw [w64 (by omega) (by omega)];omega
 have c1:=hin.lev 1 r.adv (by decide) (by decide) (Nat.lt_succ_self _) had;have b1:=hb 1 r.adv;generalize inner 1 r.adv=x1 at hP c1 b1;obtain ⟨t1,a⟩:=x1;simp only at c1 b1;have ha:=b1.ok had;have hau:r.i+1≤a.i:=b1.up;refine AW.seq_k fun K hK=>AW.region (by kernel_rfl) ?_;simp -implicitDefEqProofs only[go_sem,seval,↓reduceIte];refine hK _ ?_;clear hK K;refine AW.seq_k fun K hK=>AW.region (by kernel_rfl) ?_;simp -implicitDefEqProofs only[go_sem,seval,↓reduceIte,rdO_K,hw];refine hK _ ?_;clear hK K;refine AW.seq_k fun K1 hK1=>?_
 cases t1 with
 | false =>
  rw [andThen_false] at hP;refine AW.seq_k fun K hK=>AW.region (by kernel_rfl) ?_;simp -implicitDefEqProofs only[go_sem,seval,↓reduceIte,rdO_K];refine RdS.call hG (c1) (gx:=gx) (by kernel_rfl) (fun F=>rfl) (by decide) (by first | rfl | (simp -implicitDefEqProofs only[go_sem,seval,↓reduceIte,List.map_cons,List.map_nil,encXN_K];try rfl)) (by first | rfl | (simp -implicitDefEqProofs only[go_sem,seval,↓reduceIte,List.map_cons,List.map_nil];try rfl)) (by first | rfl | (simp -implicitDefEqProofs only[go_sem,seval,↓reduceIte];try rfl)) (by first | rfl | (simp -implicitDefEqProofs only[go_sem,seval,↓reduceIte];try rfl)) fun gx1=>?_;simp -implicitDefEqProofs only[go_sem,seval,↓reduceIte,sets];refine hK _ ?_;clear hK K;refine AW.condS (by simp -implicitDefEqProofs only[go_sem,seval,↓reduceIte];rfl) (fun h19=>?_) (fun h19=>?_)
  ·refine AW.seq_k fun K hK=>AW.region (by kernel_rfl) ?_
   simp -implicitDefEqProofs only[go_sem,seval,↓reduceIte];refine hK _ ?_;clear hK K;refine AW.ret ?_;simp -implicitDefEqProofs only[go_sem,seval,↓reduceIte];refine endK_some ?_;rw [hP];exact ⟨rfl,gx1,by first | rfl | (simp -implicitDefEqProofs only[go_sem,seval,↓reduceIte];try rfl),by first | rfl | (simp -implicitDefEqProofs only[go_sem,seval,↓reduceIte];try rfl)⟩
  ·cases h19
 | true =>
 rw [andThen_true] at hP
 have hai:a.i<1000000:=by have:=ha.1;omega
 have han:a.nodes.length<1000000:=by have:=ha.1;have:=ha.2;omega
 have c2:=rEats_spec G hG sl hT g a hai wThen;have b2:=eatR_bal sl.l (w:=wThen) (by decide +kernel) a;generalize eatR sl.l wThen a=x2 at hP c2 b2;obtain ⟨t2,r2⟩:=x2;simp only at c2 b2
 cases t2 with
 | false =>
  rw [andThen_false] at hP;refine AW.seq_k fun K hK=>AW.region (by kernel_rfl) ?_;simp -implicitDefEqProofs only[go_sem,seval,↓reduceIte,rdO_K];refine RdS.call hG (c1) (gx:=gx) (by kernel_rfl) (fun F=>rfl) (by decide) (by first | rfl | (simp -implicitDefEqProofs only[go_sem,seval,↓reduceIte,List.map_cons,List.map_nil,encXN_K];try rfl)) (by first | rfl | (simp -implicitDefEqProofs only[go_sem,seval,↓reduceIte,List.map_cons,List.map_nil];try rfl)) (by first | rfl | (simp -implicitDefEqProofs only[go_sem,seval,↓reduceIte];try rfl)) (by first | rfl | (simp -implicitDefEqProofs only[go_sem,seval,↓reduceIte];try rfl)) fun gx1=>?_;simp -implicitDefEqProofs only[go_sem,seval,↓reduceIte,sets];simp -implicitDefEqProofs only[go_sem,seval,↓reduceIte,rdO_K];refine RdS.call hG (c2) (gx:=gx1) (by kernel_rfl) (fun F=>rfl) (by decide) (by first | rfl | (simp -implicitDefEqProofs only[go_sem,seval,↓reduceIte,List.map_cons,List.map_nil,encXN_K];try rfl)) (by first | rfl | (simp -implicitDefEqProofs only[go_sem,seval,↓reduceIte,List.map_cons,List.map_nil];try rfl)) (by first | rfl | (simp -implicitDefEqProofs only[go_sem,seval,↓reduceIte];try rfl)) (by first | rfl | (simp -implicitDefEqProofs only[go_sem,seval,↓reduceIte];try rfl)) fun gx2=>?_;simp -implicitDefEqProofs only[go_sem,seval,↓reduceIte,sets];refine hK _ ?_;clear hK K;refine AW.condS (by simp -implicitDefEqProofs only[go_sem,seval,↓reduceIte];rfl) (fun h19=>?_) (fun h19=>?_)
  ·refine AW.seq_k fun K hK=>AW.region (by kernel_rfl) ?_
   simp -implicitDefEqProofs only[go_sem,seval,↓reduceIte];refine hK _ ?_;clear hK K;refine AW.ret ?_;simp -implicitDefEqProofs only[go_sem,seval,↓reduceIte];refine endK_some ?_;rw [hP];exact ⟨rfl,gx2,by first | rfl | (simp -implicitDefEqProofs only[go_sem,seval,↓reduceIte];try rfl),by first | rfl | (simp -implicitDefEqProofs only[go_sem,seval,↓reduceIte];try rfl)⟩
  ·cases h19
 | true =>
 rw [andThen_true] at hP;have hr2:=(b2.2.1 rfl).ok ha;have e2:=b2.2.2 rfl
 have h2n:r2.nodes=a.nodes:=by rw [e2];rfl
 have h2l:r2.last=a.last:=by rw [e2];rfl
 have h2i:r2.i=a.i+1:=by rw [e2];rfl
 have c3:=hin.lev 1 r2 (by decide) (by decide) (by omega) hr2;have b3:=hb 1 r2;generalize inner 1 r2=x3 at hP c3 b3;obtain ⟨t3,b⟩:=x3;simp only at c3 b3;have hbo:=b3.ok hr2;have hbu:r2.i≤b.i:=b3.up
 have hbi:b.i<1000000:=by have:=hbo.1;omega
 have hbn:b.nodes.length<1000000:=by have:=hbo.1;have:=hbo.2;omega
 refine AW.seq_k fun K hK=>AW.region (by kernel_rfl) ?_;simp -implicitDefEqProofs only[go_sem,seval,↓reduceIte,rdO_K];refine RdS.call hG (c1) (gx:=gx) (by kernel_rfl) (fun F=>rfl) (by decide) (by first | rfl | (simp -implicitDefEqProofs only[go_sem,seval,↓reduceIte,List.map_cons,List.map_nil,encXN_K];try rfl)) (by first | rfl | (simp -implicitDefEqProofs only[go_sem,seval,↓reduceIte,List.map_cons,List.map_nil];try rfl)) (by first | rfl | (simp -implicitDefEqProofs only[go_sem,seval,↓reduceIte];try rfl)) (by first | rfl | (simp -implicitDefEqProofs only[go_sem,seval,↓reduceIte];try rfl)) fun gx1=>?_;simp -implicitDefEqProofs only[go_sem,seval,↓reduceIte,sets];simp -implicitDefEqProofs only[go_sem,seval,↓reduceIte,rdO_K];refine RdS.call hG (c2) (gx:=gx1) (by kernel_rfl) (fun F=>rfl) (by decide) (by first | rfl | (simp -implicitDefEqProofs only[go_sem,seval,↓reduceIte,List.map_cons,List.map_nil,encXN_K];try rfl)) (by first | rfl | (simp -implicitDefEqProofs only[go_sem,seval,↓reduceIte,List.map_cons,List.map_nil];try rfl)) (by first | rfl | (simp -implicitDefEqProofs only[go_sem,seval,↓reduceIte];try rfl)) (by first | rfl | (simp -implicitDefEqProofs only[go_sem,seval,↓reduceIte];try rfl)) fun gx2=>?_;simp -implicitDefEqProofs only[go_sem,seval,↓reduceIte,sets];refine hK _ ?_;clear hK K;refine AW.condS (by simp -implicitDefEqProofs only[go_sem,seval,↓reduceIte];rfl) (fun h19=>?_) (fun h19=>?_)
 ·cases h19
 refine AW.skip ?_;simp -implicitDefEqProofs only[go_sem,seval,↓reduceIte];refine hK1 _ ?_;refine AW.seq_k fun K hK=>AW.region (by kernel_rfl) ?_;simp -implicitDefEqProofs only[go_sem,seval,↓reduceIte,rdO_K]
 have h2nn:r2.nodes.length<1000000:=by rw [h2n];exact han
 refine RdS.call hG (rLast_spec G hG sl g r2 h2nn) (gx:=gx2) (by kernel_rfl) (fun F=>rfl) (by decide) (by first | rfl | (simp -implicitDefEqProofs only[go_sem,seval,↓reduceIte,List.map_cons,List.map_nil,encXN_K];try rfl)) (by first | rfl | (simp -implicitDefEqProofs only[go_sem,seval,↓reduceIte,List.map_cons,List.map_nil];try rfl)) (by first | rfl | (simp -implicitDefEqProofs only[go_sem,seval,↓reduceIte];try rfl)) (by first | rfl | (simp -implicitDefEqProofs only[go_sem,seval,↓reduceIte];try rfl)) fun gx3=>?_;simp -implicitDefEqProofs only[go_sem,seval,↓reduceIte,sets];rw [h2l];refine hK _ ?_;clear hK K;refine AW.seq_k fun K2 hK2=>?_
 cases t3 with
 | false =>
  rw [andThen_false] at hP;refine AW.seq_k fun K hK=>AW.region (by kernel_rfl) ?_;simp -implicitDefEqProofs only[go_sem,seval,↓reduceIte,rdO_K];refine RdS.call hG (c3) (gx:=gx3) (by kernel_rfl) (fun F=>rfl) (by decide) (by first | rfl | (simp -implicitDefEqProofs only[go_sem,seval,↓reduceIte,List.map_cons,List.map_nil,encXN_K];try rfl)) (by first | rfl | (simp -implicitDefEqProofs only[go_sem,seval,↓reduceIte,List.map_cons,List.map_nil];try rfl)) (by first | rfl | (simp -implicitDefEqProofs only[go_sem,seval,↓reduceIte];try rfl)) (by first | rfl | (simp -implicitDefEqProofs only[go_sem,seval,↓reduceIte];try rfl)) fun gx4=>?_;simp -implicitDefEqProofs only[go_sem,seval,↓reduceIte,sets];refine hK _ ?_;clear hK K;refine AW.condS (by simp -implicitDefEqProofs only[go_sem,seval,↓reduceIte];rfl) (fun h29=>?_) (fun h29=>?_)
  ·refine AW.seq_k fun K hK=>AW.region (by kernel_rfl) ?_
   simp -implicitDefEqProofs only[go_sem,seval,↓reduceIte];refine hK _ ?_;clear hK K;refine AW.ret ?_;simp -implicitDefEqProofs only[go_sem,seval,↓reduceIte];refine endK_some ?_;rw [hP];exact ⟨rfl,gx4,by first | rfl | (simp -implicitDefEqProofs only[go_sem,seval,↓reduceIte];try rfl),by first | rfl | (simp -implicitDefEqProofs only[go_sem,seval,↓reduceIte];try rfl)⟩
  ·cases h29
 | true =>
 rw [andThen_true] at hP;have c4:=rEats_spec G hG sl hT g b hbi wElse;have b4:=eatR_bal sl.l (w:=wElse) (by decide +kernel) b;generalize eatR sl.l wElse b=x4 at hP c4 b4;obtain ⟨t4,r3⟩:=x4;simp only at c4 b4
 cases t4 with
 | false =>
  rw [andThen_false] at hP;refine AW.seq_k fun K hK=>AW.region (by kernel_rfl) ?_;simp -implicitDefEqProofs only[go_sem,seval,↓reduceIte,rdO_K];refine RdS.call hG (c3) (gx:=gx3) (by kernel_rfl) (fun F=>rfl) (by decide) (by first | rfl | (simp -implicitDefEqProofs only[go_sem,seval,↓reduceIte,List.map_cons,List.map_nil,encXN_K];try rfl)) (by first | rfl | (simp -implicitDefEqProofs only[go_sem,seval,↓reduceIte,List.map_cons,List.map_nil];try rfl)) (by first | rfl | (simp -implicitDefEqProofs only[go_sem,seval,↓reduceIte];try rfl)) (by first | rfl | (simp -implicitDefEqProofs only[go_sem,seval,↓reduceIte];try rfl)) fun gx4=>?_;simp -implicitDefEqProofs only[go_sem,seval,↓reduceIte,sets];simp -implicitDefEqProofs only[go_sem,seval,↓reduceIte,rdO_K];refine RdS.call hG (c4) (gx:=gx4) (by kernel_rfl) (fun F=>rfl) (by decide) (by first | rfl | (simp -implicitDefEqProofs only[go_sem,seval,↓reduceIte,List.map_cons,List.map_nil,encXN_K];try rfl)) (by first | rfl | (simp -implicitDefEqProofs only[go_sem,seval,↓reduceIte,List.map_cons,List.map_nil];try rfl)) (by first | rfl | (simp -implicitDefEqProofs only[go_sem,seval,↓reduceIte];try rfl)) (by first | rfl | (simp -implicitDefEqProofs only[go_sem,seval,↓reduceIte];try rfl)) fun gx5=>?_;simp -implicitDefEqProofs only[go_sem,seval,↓reduceIte,sets];refine hK _ ?_;clear hK K;refine AW.condS (by simp -implicitDefEqProofs only[go_sem,seval,↓reduceIte];rfl) (fun h29=>?_) (fun h29=>?_)
  ·refine AW.seq_k fun K hK=>AW.region (by kernel_rfl) ?_
   simp -implicitDefEqProofs only[go_sem,seval,↓reduceIte];refine hK _ ?_;clear hK K;refine AW.ret ?_;simp -implicitDefEqProofs only[go_sem,seval,↓reduceIte];refine endK_some ?_;rw [hP];exact ⟨rfl,gx5,by first | rfl | (simp -implicitDefEqProofs only[go_sem,seval,↓reduceIte];try rfl),by first | rfl | (simp -implicitDefEqProofs only[go_sem,seval,↓reduceIte];try rfl)⟩
  ·cases h29
 | true =>
 rw [andThen_true] at hP;have hr3:=(b4.2.1 rfl).ok hbo;have e3:=b4.2.2 rfl
 have h3n:r3.nodes=b.nodes:=by rw [e3];rfl
 have h3l:r3.last=b.last:=by rw [e3];rfl
 have h3i:r3.i=b.i+1:=by rw [e3];rfl
 have c5:=hin.lev 1 r3 (by decide) (by decide) (by omega) hr3;have b5:=hb 1 r3;generalize inner 1 r3=x5 at hP c5 b5;obtain ⟨t5,c⟩:=x5;simp only at c5 b5;have hco:=b5.ok hr3
 have hci:c.i<1000000:=by have:=hco.1;omega
 refine AW.seq_k fun K hK=>AW.region (by kernel_rfl) ?_;simp -implicitDefEqProofs only[go_sem,seval,↓reduceIte,rdO_K];refine RdS.call hG (c3) (gx:=gx3) (by kernel_rfl) (fun F=>rfl) (by decide) (by first | rfl | (simp -implicitDefEqProofs only[go_sem,seval,↓reduceIte,List.map_cons,List.map_nil,encXN_K];try rfl)) (by first | rfl | (simp -implicitDefEqProofs only[go_sem,seval,↓reduceIte,List.map_cons,List.map_nil];try rfl)) (by first | rfl | (simp -implicitDefEqProofs only[go_sem,seval,↓reduceIte];try rfl)) (by first | rfl | (simp -implicitDefEqProofs only[go_sem,seval,↓reduceIte];try rfl)) fun gx4=>?_;simp -implicitDefEqProofs only[go_sem,seval,↓reduceIte,sets];simp -implicitDefEqProofs only[go_sem,seval,↓reduceIte,rdO_K];refine RdS.call hG (c4) (gx:=gx4) (by kernel_rfl) (fun F=>rfl) (by decide) (by first | rfl | (simp -implicitDefEqProofs only[go_sem,seval,↓reduceIte,List.map_cons,List.map_nil,encXN_K];try rfl)) (by first | rfl | (simp -implicitDefEqProofs only[go_sem,seval,↓reduceIte,List.map_cons,List.map_nil];try rfl)) (by first | rfl | (simp -implicitDefEqProofs only[go_sem,seval,↓reduceIte];try rfl)) (by first | rfl | (simp -implicitDefEqProofs only[go_sem,seval,↓reduceIte];try rfl)) fun gx5=>?_;simp -implicitDefEqProofs only[go_sem,seval,↓reduceIte,sets];refine hK _ ?_;clear hK K;refine AW.condS (by simp -implicitDefEqProofs only[go_sem,seval,↓reduceIte];rfl) (fun h29=>?_) (fun h29=>?_)
 ·cases h29
 refine AW.skip ?_;simp -implicitDefEqProofs only[go_sem,seval,↓reduceIte];refine hK2 _ ?_;refine AW.seq_k fun K hK=>AW.region (by kernel_rfl) ?_;simp -implicitDefEqProofs only[go_sem,seval,↓reduceIte,rdO_K]
 have h3nn:r3.nodes.length<1000000:=by rw [h3n];exact hbn
 refine RdS.call hG (rLast_spec G hG sl g r3 h3nn) (gx:=gx5) (by kernel_rfl) (fun F=>rfl) (by decide) (by first | rfl | (simp -implicitDefEqProofs only[go_sem,seval,↓reduceIte,List.map_cons,List.map_nil,encXN_K];try rfl)) (by first | rfl | (simp -implicitDefEqProofs only[go_sem,seval,↓reduceIte,List.map_cons,List.map_nil];try rfl)) (by first | rfl | (simp -implicitDefEqProofs only[go_sem,seval,↓reduceIte];try rfl)) (by first | rfl | (simp -implicitDefEqProofs only[go_sem,seval,↓reduceIte];try rfl)) fun gx6=>?_;simp -implicitDefEqProofs only[go_sem,seval,↓reduceIte,sets];rw [h3l];refine hK _ ?_;clear hK K
 cases t5 with
 | false =>
  rw [andThen_false] at hP;refine AW.seq_k fun K hK=>AW.region (by kernel_rfl) ?_;simp -implicitDefEqProofs only[go_sem,seval,↓reduceIte,rdO_K];refine RdS.call hG (c5) (gx:=gx6) (by kernel_rfl) (fun F=>rfl) (by decide) (by first | rfl | (simp -implicitDefEqProofs only[go_sem,seval,↓reduceIte,List.map_cons,List.map_nil,encXN_K];try rfl)) (by first | rfl | (simp -implicitDefEqProofs only[go_sem,seval,↓reduceIte,List.map_cons,List.map_nil];try rfl)) (by first | rfl | (simp -implicitDefEqProofs only[go_sem,seval,↓reduceIte];try rfl)) (by first | rfl | (simp -implicitDefEqProofs only[go_sem,seval,↓reduceIte];try rfl)) fun gx7=>?_;simp -implicitDefEqProofs only[go_sem,seval,↓reduceIte,sets];refine hK _ ?_;clear hK K;refine AW.ret ?_;simp -implicitDefEqProofs only[go_sem,seval,↓reduceIte];refine endK_some ?_;rw [hP];exact ⟨rfl,gx7,by first | rfl | (simp -implicitDefEqProofs only[go_sem,seval,↓reduceIte];try rfl),by first | rfl | (simp -implicitDefEqProofs only[go_sem,seval,↓reduceIte];try rfl)⟩
 | true =>
 rw [andThen_true] at hP;have c6:=rEats_spec G hG sl hT g c hci wEndif;have b6:=eatR_bal sl.l (w:=wEndif) (by decide +kernel) c;generalize eatR sl.l wEndif c=x6 at hP c6 b6;obtain ⟨t6,r4⟩:=x6;simp only at c6 b6
 cases t6 with
 | false =>
  rw [andThen_false] at hP;refine AW.seq_k fun K hK=>AW.region (by kernel_rfl) ?_;simp -implicitDefEqProofs only[go_sem,seval,↓reduceIte,rdO_K];refine RdS.call hG (c5) (gx:=gx6) (by kernel_rfl) (fun F=>rfl) (by decide) (by first | rfl | (simp -implicitDefEqProofs only[go_sem,seval,↓reduceIte,List.map_cons,List.map_nil,encXN_K];try rfl)) (by first | rfl | (simp -implicitDefEqProofs only[go_sem,seval,↓reduceIte,List.map_cons,List.map_nil];try rfl)) (by first | rfl | (simp -implicitDefEqProofs only[go_sem,seval,↓reduceIte];try rfl)) (by first | rfl | (simp -implicitDefEqProofs only[go_sem,seval,↓reduceIte];try rfl)) fun gx7=>?_;simp -implicitDefEqProofs only[go_sem,seval,↓reduceIte,sets];simp -implicitDefEqProofs only[go_sem,seval,↓reduceIte,rdO_K];refine RdS.call hG (c6) (gx:=gx7) (by kernel_rfl) (fun F=>rfl) (by decide) (by first | rfl | (simp -implicitDefEqProofs only[go_sem,seval,↓reduceIte,List.map_cons,List.map_nil,encXN_K];try rfl)) (by first | rfl | (simp -implicitDefEqProofs only[go_sem,seval,↓reduceIte,List.map_cons,List.map_nil];try rfl)) (by first | rfl | (simp -implicitDefEqProofs only[go_sem,seval,↓reduceIte];try rfl)) (by first | rfl | (simp -implicitDefEqProofs only[go_sem,seval,↓reduceIte];try rfl)) fun gx8=>?_;simp -implicitDefEqProofs only[go_sem,seval,↓reduceIte,sets];refine hK _ ?_;clear hK K;refine AW.ret ?_;simp -implicitDefEqProofs only[go_sem,seval,↓reduceIte];refine endK_some ?_;rw [hP];exact ⟨rfl,gx8,by first | rfl | (simp -implicitDefEqProofs only[go_sem,seval,↓reduceIte];try rfl),by first | rfl | (simp -implicitDefEqProofs only[go_sem,seval,↓reduceIte];try rfl)⟩
 | true =>
 rw [andThen_true] at hP;have hr4:=(b6.2.1 rfl).ok hco;have e4:=b6.2.2 rfl
 have h4l:r4.last=c.last:=by rw [e4];rfl
 have h4n:r4.nodes.length<1000000:=by have:=hr4.1;have:=hr4.2;omega
 refine AW.seq_k fun K hK=>AW.region (by kernel_rfl) ?_;simp -implicitDefEqProofs only[go_sem,seval,↓reduceIte,rdO_K];refine RdS.call hG (c5) (gx:=gx6) (by kernel_rfl) (fun F=>rfl) (by decide) (by first | rfl | (simp -implicitDefEqProofs only[go_sem,seval,↓reduceIte,List.map_cons,List.map_nil,encXN_K];try rfl)) (by first | rfl | (simp -implicitDefEqProofs only[go_sem,seval,↓reduceIte,List.map_cons,List.map_nil];try rfl)) (by first | rfl | (simp -implicitDefEqProofs only[go_sem,seval,↓reduceIte];try rfl)) (by first | rfl | (simp -implicitDefEqProofs only[go_sem,seval,↓reduceIte];try rfl)) fun gx7=>?_;simp -implicitDefEqProofs only[go_sem,seval,↓reduceIte,sets];simp -implicitDefEqProofs only[go_sem,seval,↓reduceIte,rdO_K];refine RdS.call hG (c6) (gx:=gx7) (by kernel_rfl) (fun F=>rfl) (by decide) (by first | rfl | (simp -implicitDefEqProofs only[go_sem,seval,↓reduceIte,List.map_cons,List.map_nil,encXN_K];try rfl)) (by first | rfl | (simp -implicitDefEqProofs only[go_sem,seval,↓reduceIte,List.map_cons,List.map_nil];try rfl)) (by first | rfl | (simp -implicitDefEqProofs only[go_sem,seval,↓reduceIte];try rfl)) (by first | rfl | (simp -implicitDefEqProofs only[go_sem,seval,↓reduceIte];try rfl)) fun gx8=>?_;simp -implicitDefEqProofs only[go_sem,seval,↓reduceIte,sets];simp -implicitDefEqProofs only[go_sem,seval,↓reduceIte,rdO_K];refine RdS.call hG (rLast_spec G hG sl g r4 h4n) (gx:=gx8) (by kernel_rfl) (fun F=>rfl) (by decide) (by first | rfl | (simp -implicitDefEqProofs only[go_sem,seval,↓reduceIte,List.map_cons,List.map_nil,encXN_K];try rfl)) (by first | rfl | (simp -implicitDefEqProofs only[go_sem,seval,↓reduceIte,List.map_cons,List.map_nil];try rfl)) (by first | rfl | (simp -implicitDefEqProofs only[go_sem,seval,↓reduceIte];try rfl)) (by first | rfl | (simp -implicitDefEqProofs only[go_sem,seval,↓reduceIte];try rfl)) fun gx9=>?_
 simp -implicitDefEqProofs only[go_sem,seval,↓reduceIte,sets];rw [h4l];simp -implicitDefEqProofs only[go_sem,seval,↓reduceIte,rdO_K];rw [← encXN_K ⟨22,0,[],a.last,b.last,c.last⟩];refine RdS.call hG (rPutN_spec G hG sl g r4 h4n ⟨22,0,[],a.last,b.last,c.last⟩) (gx:=gx9) (by kernel_rfl) (fun F=>rfl) (by decide) (by first | rfl | (simp -implicitDefEqProofs only[go_sem,seval,↓reduceIte,List.map_cons,List.map_nil,encXN_K];try rfl)) (by first | rfl | (simp -implicitDefEqProofs only[go_sem,seval,↓reduceIte,List.map_cons,List.map_nil];try rfl)) (by first | rfl | (simp -implicitDefEqProofs only[go_sem,seval,↓reduceIte];try rfl)) (by first | rfl | (simp -implicitDefEqProofs only[go_sem,seval,↓reduceIte];try rfl)) fun gxa=>?_;simp -implicitDefEqProofs only[go_sem,seval,↓reduceIte,sets];refine hK _ ?_;clear hK K;refine AW.ret ?_;simp -implicitDefEqProofs only[go_sem,seval,↓reduceIte];refine endK_some ?_;rw [hP];exact ⟨rfl,gxa,by first | rfl | (simp -implicitDefEqProofs only[go_sem,seval,↓reduceIte];try rfl),by first | rfl | (simp -implicitDefEqProofs only[go_sem,seval,↓reduceIte];try rfl)⟩
theorem rPrimary_spec (G:Nat→V) (hG:GOk G) (sl:Sl Tk) (hT:TkOk sl.l) (g:Nat) (r:RS) (hr:RSok sl.l r) (inner:Inner) (hin:InnR G sl g inner r.i) (hb:Bals sl.l inner) :
  RdS 1012 [] G 219 [] sl g r (.bool (primR sl.l inner r).1) (primR sl.l inner r).2:=by
 have hTl:=hT.len
 have hri:r.i<1000000:=by have:=hr.1;omega
 have hrn:r.nodes.length<1000000:=by have:=hr.2;omega
 have hw:IntKind.i64.wrap ((r.i:Int)+1)=((r.i+1:Nat):Int):=by rw [w64 (by omega) (by omega)];omega
 intro gx;refine Spec.of_code' 1000 83 [.tmp 2] Tryz.func219 rfl rfl rfl rfl fun X=>?_
 have hP:primR sl.l inner r=if (nextP sl.l r.i).text=[40] then andThen (inner 1 r.adv) (eatR sl.l [41])
  else if (nextP sl.l r.i).text=wIf then branchesR sl.l inner r
  else if (nextP sl.l r.i).text=[116,114,117,101] then leafP r 3 0 []
  else if (nextP sl.l r.i).text=[102,97,108,115,101] then leafP r 4 0 []
  else if (nextP sl.l r.i).text≠[]∧(nextP sl.l r.i).kind=1 then numberR r (nextP sl.l r.i).text
  else if (nextP sl.l r.i).text≠[]∧(nextP sl.l r.i).kind=2 then leafP r 2 0 (nextP sl.l r.i).text
  else (false,r.err 80):=rfl
 have htl:=nextP_ln hT r.i;have hbr:=fun h=>rBranches_spec G hG sl hT g r hr h inner hin hb
 have hne:(nextP sl.l r.i).text≠[]→∃ t,sl.l[r.i]? = some t∧nextP sl.l r.i=t∧r.i<sl.l.length:=by
  intro h;unfold nextP at h ⊢
  cases hg:sl.l[r.i]? with
  | none=>rw [hg] at h;exact absurd rfl h
  | some t =>
   rw [hg] at h;simp only at h
   split at h
   ·rename_i q
    refine ⟨t,rfl,?_,(List.getElem?_eq_some_iff.1 hg).1⟩;simp only;rw [if_pos q]
   ·exact absurd rfl h
 have hadv:(nextP sl.l r.i).text≠[]→RSok sl.l r.adv:=fun h=>by
  obtain ⟨t,_,_,q⟩:=hne h;exact (Bal.adv q).ok hr
 generalize primR sl.l inner r=res at hP ⊢;refine AW.seq_k fun K hK=>AW.region (by kernel_rfl) ?_;simp -implicitDefEqProofs only[go_sem,seval,↓reduceIte];refine hK _ ?_;clear hK K;refine AW.seq_k fun K hK=>AW.region (by kernel_rfl) ?_;simp -implicitDefEqProofs only[go_sem,seval,↓reduceIte];refine RdS.call hG (rNext_spec G hG sl hT g r hri) (gx:=gx) (by kernel_rfl) (fun F=>rfl) (by decide) (by first | rfl | (simp -implicitDefEqProofs only[go_sem,seval,↓reduceIte,List.map_cons,List.map_nil,encXN_K];try rfl)) (by first | rfl | (simp -implicitDefEqProofs only[go_sem,seval,↓reduceIte,List.map_cons,List.map_nil];try rfl)) (by first | rfl | (simp -implicitDefEqProofs only[go_sem,seval,↓reduceIte];try rfl)) (by first | rfl | (simp -implicitDefEqProofs only[go_sem,seval,↓reduceIte];try rfl)) fun gx1=>?_;simp -implicitDefEqProofs only[go_sem,seval,↓reduceIte,sets];refine hK _ ?_;clear hK K;generalize nextP sl.l r.i=t at hP htl hadv hne ⊢;obtain ⟨k,t,p⟩:=t;simp only at hP htl hadv hne;refine AW.seqJ (fun (_:Unit)=>st [(0,.ptr 8 g 0)] [(8,rdO 1012 [] sl g gx1 r),(1012,ndO gx1 r.nodes)]) (fun _=>res=(false,r.err 80)) (fun K1 hK1=>?_) ?_;rotate_left
 ·intro _ hP
  refine AW.seq_k fun K hK=>AW.region (by kernel_rfl) ?_;simp -implicitDefEqProofs only[go_sem,seval,↓reduceIte,rdO_K];refine hK _ ?_;clear hK K;refine AW.seq_k fun K hK=>AW.region (by kernel_rfl) ?_;simp -implicitDefEqProofs only[go_sem,seval,↓reduceIte];refine hK _ ?_;clear hK K;refine AW.ret ?_;simp -implicitDefEqProofs only[go_sem,seval,↓reduceIte];refine endK_some ?_;rw [hP];exact ⟨rfl,gx1,by first | rfl | (simp -implicitDefEqProofs only[go_sem,seval,↓reduceIte];try rfl),by first | rfl | (simp -implicitDefEqProofs only[go_sem,seval,↓reduceIte];try rfl)⟩
 refine AW.block ?_
 by_cases c1:t=[40]
 ·have e1:(t==[40])=true:=by simpa using c1
  have htn:t≠[]:=by rw [c1];simp
  rw [if_pos c1] at hP;have hc:=hin.lev 1 r.adv (by decide) (by decide) (Nat.lt_succ_self _) (hadv htn);have hbl:=(hb 1 r.adv).ok (hadv htn);generalize inner 1 r.adv=x at hc hP hbl;obtain ⟨b,a⟩:=x;simp only at hc hbl
  have hai:a.i<1000000:=by have:=hbl.1;omega
  refine AW.seq_k fun K hK=>AW.region (by kernel_rfl) ?_;simp -implicitDefEqProofs only[go_sem,seval,↓reduceIte,e1];refine hK _ ?_;clear hK K;refine AW.condS (by simp -implicitDefEqProofs only[go_sem,seval,↓reduceIte];rfl) (fun h2=>?_) (fun h2=>?_);rotate_left
  ·cases h2
  refine AW.seq_k fun K hK=>AW.region (by kernel_rfl) ?_;simp -implicitDefEqProofs only[go_sem,seval,↓reduceIte,rdO_K,hw];refine hK _ ?_;clear hK K
  cases b with
  | false =>
   rw [andThen_false] at hP;refine AW.seq_k fun K hK=>AW.region (by kernel_rfl) ?_;simp -implicitDefEqProofs only[go_sem,seval,↓reduceIte,rdO_K];refine RdS.call hG (hc) (gx:=gx1) (by kernel_rfl) (fun F=>rfl) (by decide) (by first | rfl | (simp -implicitDefEqProofs only[go_sem,seval,↓reduceIte,List.map_cons,List.map_nil,encXN_K];try rfl)) (by first | rfl | (simp -implicitDefEqProofs only[go_sem,seval,↓reduceIte,List.map_cons,List.map_nil];try rfl)) (by first | rfl | (simp -implicitDefEqProofs only[go_sem,seval,↓reduceIte];try rfl)) (by first | rfl | (simp -implicitDefEqProofs only[go_sem,seval,↓reduceIte];try rfl)) fun gx2=>?_;simp -implicitDefEqProofs only[go_sem,seval,↓reduceIte,sets];refine hK _ ?_;clear hK K;refine AW.ret ?_;simp -implicitDefEqProofs only[go_sem,seval,↓reduceIte];refine endK_some ?_;rw [hP];exact ⟨rfl,gx2,by first | rfl | (simp -implicitDefEqProofs only[go_sem,seval,↓reduceIte];try rfl),by first | rfl | (simp -implicitDefEqProofs only[go_sem,seval,↓reduceIte];try rfl)⟩
  | true =>
   rw [andThen_true] at hP;refine AW.seq_k fun K hK=>AW.region (by kernel_rfl) ?_;simp -implicitDefEqProofs only[go_sem,seval,↓reduceIte,rdO_K];refine RdS.call hG (hc) (gx:=gx1) (by kernel_rfl) (fun F=>rfl) (by decide) (by first | rfl | (simp -implicitDefEqProofs only[go_sem,seval,↓reduceIte,List.map_cons,List.map_nil,encXN_K];try rfl)) (by first | rfl | (simp -implicitDefEqProofs only[go_sem,seval,↓reduceIte,List.map_cons,List.map_nil];try rfl)) (by first | rfl | (simp -implicitDefEqProofs only[go_sem,seval,↓reduceIte];try rfl)) (by first | rfl | (simp -implicitDefEqProofs only[go_sem,seval,↓reduceIte];try rfl)) fun gx2=>?_;simp -implicitDefEqProofs only[go_sem,seval,↓reduceIte,sets];simp -implicitDefEqProofs only[go_sem,seval,↓reduceIte,rdO_K];refine RdS.call hG (rEats_spec G hG sl hT g a hai [41]) (gx:=gx2) (by kernel_rfl) (fun F=>rfl) (by decide) (by first | rfl | (simp -implicitDefEqProofs only[go_sem,seval,↓reduceIte,List.map_cons,List.map_nil,encXN_K];try rfl)) (by first | rfl | (simp -implicitDefEqProofs only[go_sem,seval,↓reduceIte,List.map_cons,List.map_nil];try rfl)) (by first | rfl | (simp -implicitDefEqProofs only[go_sem,seval,↓reduceIte];try rfl)) (by first | rfl | (simp -implicitDefEqProofs only[go_sem,seval,↓reduceIte];try rfl)) fun gx3=>?_;simp -implicitDefEqProofs only[go_sem,seval,↓reduceIte,sets];generalize eatR sl.l [41] a=y at hP ⊢;obtain ⟨b,a2⟩:=y
   cases b with
   | true =>
    simp -implicitDefEqProofs only[go_sem,seval,↓reduceIte];refine hK _ ?_;clear hK K;refine AW.ret ?_;simp -implicitDefEqProofs only[go_sem,seval,↓reduceIte];refine endK_some ?_;rw [hP];exact ⟨rfl,gx3,by first | rfl | (simp -implicitDefEqProofs only[go_sem,seval,↓reduceIte];try rfl),by first | rfl | (simp -implicitDefEqProofs only[go_sem,seval,↓reduceIte];try rfl)⟩
   | false =>
    simp -implicitDefEqProofs only[go_sem,seval,↓reduceIte];refine hK _ ?_;clear hK K;refine AW.ret ?_;simp -implicitDefEqProofs only[go_sem,seval,↓reduceIte];refine endK_some ?_;rw [hP];exact ⟨rfl,gx3,by first | rfl | (simp -implicitDefEqProofs only[go_sem,seval,↓reduceIte];try rfl),by first | rfl | (simp -implicitDefEqProofs only[go_sem,seval,↓reduceIte];try rfl)⟩
 have e1:(t==[40])=false:=by simpa using c1
 rw [if_neg c1] at hP;refine AW.seq_k fun K hK=>AW.region (by kernel_rfl) ?_;simp -implicitDefEqProofs only[go_sem,seval,↓reduceIte,e1];refine hK _ ?_;clear hK K;refine AW.condS (by simp -implicitDefEqProofs only[go_sem,seval,↓reduceIte];rfl) (fun h2=>?_) (fun h2=>?_)
 ·cases h2
 clear h2
 by_cases c2:t=wIf
 ·have e2:(t==[105,102])=true:=by rw [c2];rfl
  have htn:t≠[]:=by rw [c2];decide
  obtain ⟨_,_,_,hlt⟩:=hne htn;rw [if_pos c2] at hP;refine AW.seq_k fun K hK=>AW.region (by kernel_rfl) ?_;simp -implicitDefEqProofs only[go_sem,seval,↓reduceIte,e2];refine hK _ ?_;clear hK K;refine AW.condS (by simp -implicitDefEqProofs only[go_sem,seval,↓reduceIte];rfl) (fun h2=>?_) (fun h2=>?_);rotate_left
  ·cases h2
  refine AW.seq_k fun K hK=>AW.region (by kernel_rfl) ?_;simp -implicitDefEqProofs only[go_sem,seval,↓reduceIte];refine RdS.call hG (hbr hlt) (gx:=gx1) (by kernel_rfl) (fun F=>rfl) (by decide) (by first | rfl | (simp -implicitDefEqProofs only[go_sem,seval,↓reduceIte,List.map_cons,List.map_nil,encXN_K];try rfl)) (by first | rfl | (simp -implicitDefEqProofs only[go_sem,seval,↓reduceIte,List.map_cons,List.map_nil];try rfl)) (by first | rfl | (simp -implicitDefEqProofs only[go_sem,seval,↓reduceIte];try rfl)) (by first | rfl | (simp -implicitDefEqProofs only[go_sem,seval,↓reduceIte];try rfl)) fun gx2=>?_;simp -implicitDefEqProofs only[go_sem,seval,↓reduceIte,sets];refine hK _ ?_;clear hK K;refine AW.ret ?_;simp -implicitDefEqProofs only[go_sem,seval,↓reduceIte];refine endK_some ?_;rw [hP];exact ⟨rfl,gx2,by first | rfl | (simp -implicitDefEqProofs only[go_sem,seval,↓reduceIte];try rfl),by first | rfl | (simp -implicitDefEqProofs only[go_sem,seval,↓reduceIte];try rfl)⟩
 have e2:(t==[105,102])=false:=by rw [beq_eq_false_iff_ne];exact c2
 rw [if_neg c2] at hP;refine AW.seq_k fun K hK=>AW.region (by kernel_rfl) ?_;simp -implicitDefEqProofs only[go_sem,seval,↓reduceIte,e2];refine hK _ ?_;clear hK K;refine AW.condS (by simp -implicitDefEqProofs only[go_sem,seval,↓reduceIte];rfl) (fun h2=>?_) (fun h2=>?_)
 ·cases h2
 clear h2
 by_cases c3:t=[116,114,117,101]
 ·have e3:(t==[116,114,117,101])=true:=by simpa using c3
  rw [if_pos c3] at hP;refine AW.seq_k fun K hK=>AW.region (by kernel_rfl) ?_;simp -implicitDefEqProofs only[go_sem,seval,↓reduceIte,e3];refine hK _ ?_;clear hK K;refine AW.condS (by simp -implicitDefEqProofs only[go_sem,seval,↓reduceIte];rfl) (fun h2=>?_) (fun h2=>?_);rotate_left
  ·cases h2
  refine AW.seq_k fun K hK=>AW.region (by kernel_rfl) ?_;simp -implicitDefEqProofs only[go_sem,seval,↓reduceIte];rw [← encXN_K ⟨3,0,[],0,0,0⟩];refine RdS.call hG (rLeaf_spec G hG sl g r hri hrn 3 0 [] 0 0 0) (gx:=gx1) (by kernel_rfl) (fun F=>rfl) (by decide) (by first | rfl | (simp -implicitDefEqProofs only[go_sem,seval,↓reduceIte,List.map_cons,List.map_nil,encXN_K];try rfl)) (by first | rfl | (simp -implicitDefEqProofs only[go_sem,seval,↓reduceIte,List.map_cons,List.map_nil];try rfl)) (by first | rfl | (simp -implicitDefEqProofs only[go_sem,seval,↓reduceIte];try rfl)) (by first | rfl | (simp -implicitDefEqProofs only[go_sem,seval,↓reduceIte];try rfl)) fun gx2=>?_;simp -implicitDefEqProofs only[go_sem,seval,↓reduceIte,sets];refine hK _ ?_;clear hK K;refine AW.ret ?_;simp -implicitDefEqProofs only[go_sem,seval,↓reduceIte];refine endK_some ?_;rw [hP];exact ⟨rfl,gx2,by first | rfl | (simp -implicitDefEqProofs only[go_sem,seval,↓reduceIte];try rfl),by first | rfl | (simp -implicitDefEqProofs only[go_sem,seval,↓reduceIte];try rfl)⟩
 have e3:(t==[116,114,117,101])=false:=by simpa using c3
 rw [if_neg c3] at hP;refine AW.seq_k fun K hK=>AW.region (by kernel_rfl) ?_;simp -implicitDefEqProofs only[go_sem,seval,↓reduceIte,e3];refine hK _ ?_;clear hK K;refine AW.condS (by simp -implicitDefEqProofs only[go_sem,seval,↓reduceIte];rfl) (fun h2=>?_) (fun h2=>?_)
 ·cases h2
 clear h2
 by_cases c4:t=[102,97,108,115,101]
 ·have e4:(t==[102,97,108,115,101])=true:=by simpa using c4
  rw [if_pos c4] at hP;refine AW.seq_k fun K hK=>AW.region (by kernel_rfl) ?_;simp -implicitDefEqProofs only[go_sem,seval,↓reduceIte,e4];refine hK _ ?_;clear hK K;refine AW.condS (by simp -implicitDefEqProofs only[go_sem,seval,↓reduceIte];rfl) (fun h2=>?_) (fun h2=>?_);rotate_left
  ·cases h2
  refine AW.seq_k fun K hK=>AW.region (by kernel_rfl) ?_;simp -implicitDefEqProofs only[go_sem,seval,↓reduceIte];rw [← encXN_K ⟨4,0,[],0,0,0⟩];refine RdS.call hG (rLeaf_spec G hG sl g r hri hrn 4 0 [] 0 0 0) (gx:=gx1) (by kernel_rfl) (fun F=>rfl) (by decide) (by first | rfl | (simp -implicitDefEqProofs only[go_sem,seval,↓reduceIte,List.map_cons,List.map_nil,encXN_K];try rfl)) (by first | rfl | (simp -implicitDefEqProofs only[go_sem,seval,↓reduceIte,List.map_cons,List.map_nil];try rfl)) (by first | rfl | (simp -implicitDefEqProofs only[go_sem,seval,↓reduceIte];try rfl)) (by first | rfl | (simp -implicitDefEqProofs only[go_sem,seval,↓reduceIte];try rfl)) fun gx2=>?_;simp -implicitDefEqProofs only[go_sem,seval,↓reduceIte,sets];refine hK _ ?_;clear hK K;refine AW.ret ?_;simp -implicitDefEqProofs only[go_sem,seval,↓reduceIte];refine endK_some ?_;rw [hP];exact ⟨rfl,gx2,by first | rfl | (simp -implicitDefEqProofs only[go_sem,seval,↓reduceIte];try rfl),by first | rfl | (simp -implicitDefEqProofs only[go_sem,seval,↓reduceIte];try rfl)⟩
 have e4:(t==[102,97,108,115,101])=false:=by simpa using c4
 rw [if_neg c4] at hP;refine AW.seq_k fun K hK=>AW.region (by kernel_rfl) ?_;simp -implicitDefEqProofs only[go_sem,seval,↓reduceIte,e4];refine hK _ ?_;clear hK K;refine AW.condS (by simp -implicitDefEqProofs only[go_sem,seval,↓reduceIte];rfl) (fun h2=>?_) (fun h2=>?_)
 ·cases h2
 clear h2
 by_cases c5:t=[]
 ·have e5:(t==[])=true:=by rw [c5];rfl
  rw [if_neg (fun h=>h.1 c5),if_neg (fun h=>h.1 c5)] at hP;refine AW.seq_k fun K hK=>AW.regionT ⟨fun _ => .top,fun _ => .pure⟩ (by kernel_rfl) hG (by kernel_rfl) (by kernel_rfl) ?_;simp -implicitDefEqProofs only[go_sem,seval,↓reduceIte,e5];refine hK _ ?_;clear hK K;refine AW.condS (by simp -implicitDefEqProofs only[go_sem,seval,↓reduceIte];rfl) (fun h2=>?_) (fun h2=>?_)
  ·cases h2
  clear h2;refine AW.seq_k fun K hK=>AW.regionT ⟨fun _ => .top,fun _ => .pure⟩ (by kernel_rfl) hG (by kernel_rfl) (by kernel_rfl) ?_;simp -implicitDefEqProofs only[go_sem,seval,↓reduceIte,e5];refine hK _ ?_;clear hK K;refine AW.condS (by simp -implicitDefEqProofs only[go_sem,seval,↓reduceIte];rfl) (fun h2=>?_) (fun h2=>?_)
  ·cases h2
  refine AW.skip ?_;simp -implicitDefEqProofs only[go_sem,seval,↓reduceIte];exact hK1 _ () hP (Weak.st (by simp -implicitDefEqProofs only[go_sem,seval,↓reduceIte];try rfl) (by simp -implicitDefEqProofs only[go_sem,seval,↓reduceIte];try rfl))
 have e5:(t==[])=false:=by simpa using c5
 obtain ⟨t0,hg,ht0,hlt⟩:=hne c5
 have hgk:sl.l[r.i]? = some ⟨k,t,p⟩:=by rw [hg,ht0]
 by_cases k1:k=1
 ·have q1:(k==1)=true:=by simpa using k1
  rw [if_pos ⟨c5,k1⟩] at hP;refine AW.seq_k fun K hK=>AW.regionT ⟨fun _ => .top,fun _ => .pure⟩ (by kernel_rfl) hG (by kernel_rfl) (by kernel_rfl) ?_;simp -implicitDefEqProofs only[go_sem,seval,↓reduceIte,e5,rdO_K,hgk,encTk_K,q1];refine hK _ ?_;clear hK K;refine AW.condS (by simp -implicitDefEqProofs only[go_sem,seval,↓reduceIte];rfl) (fun h2=>?_) (fun h2=>?_);rotate_left
  ·cases h2
  refine AW.seq_k fun K hK=>AW.region (by kernel_rfl) ?_;simp -implicitDefEqProofs only[go_sem,seval,↓reduceIte,rdO_K];refine RdS.call hG (rNumber_spec G hG sl g r hri hrn t htl) (gx:=gx1) (by kernel_rfl) (fun F=>rfl) (by decide) (by first | rfl | (simp -implicitDefEqProofs only[go_sem,seval,↓reduceIte,List.map_cons,List.map_nil,encXN_K];try rfl)) (by first | rfl | (simp -implicitDefEqProofs only[go_sem,seval,↓reduceIte,List.map_cons,List.map_nil];try rfl)) (by first | rfl | (simp -implicitDefEqProofs only[go_sem,seval,↓reduceIte];try rfl)) (by first | rfl | (simp -implicitDefEqProofs only[go_sem,seval,↓reduceIte];try rfl)) fun gx2=>?_;simp -implicitDefEqProofs only[go_sem,seval,↓reduceIte,sets];refine hK _ ?_;clear hK K;refine AW.ret ?_;simp -implicitDefEqProofs only[go_sem,seval,↓reduceIte];refine endK_some ?_;rw [hP];exact ⟨rfl,gx2,by first | rfl | (simp -implicitDefEqProofs only[go_sem,seval,↓reduceIte];try rfl),by first | rfl | (simp -implicitDefEqProofs only[go_sem,seval,↓reduceIte];try rfl)⟩
 have q1:(k==1)=false:=by simpa using k1
 rw [if_neg (fun h=>k1 h.2)] at hP;refine AW.seq_k fun K hK=>AW.regionT ⟨fun _ => .top,fun _ => .pure⟩ (by kernel_rfl) hG (by kernel_rfl) (by kernel_rfl) ?_;simp -implicitDefEqProofs only[go_sem,seval,↓reduceIte,e5,rdO_K,hgk,encTk_K,q1];refine hK _ ?_;clear hK K;refine AW.condS (by simp -implicitDefEqProofs only[go_sem,seval,↓reduceIte];rfl) (fun h2=>?_) (fun h2=>?_)
 ·cases h2
 clear h2
 by_cases k2:k=2
 ·have q2:(k==2)=true:=by simpa using k2
  rw [if_pos ⟨c5,k2⟩] at hP;refine AW.seq_k fun K hK=>AW.regionT ⟨fun _ => .top,fun _ => .pure⟩ (by kernel_rfl) hG (by kernel_rfl) (by kernel_rfl) ?_;simp -implicitDefEqProofs only[go_sem,seval,↓reduceIte,e5,rdO_K,hgk,encTk_K,q2];refine hK _ ?_;clear hK K;refine AW.condS (by simp -implicitDefEqProofs only[go_sem,seval,↓reduceIte];rfl) (fun h2=>?_) (fun h2=>?_);rotate_left
  ·cases h2
  refine AW.seq_k fun K hK=>AW.region (by kernel_rfl) ?_;simp -implicitDefEqProofs only[go_sem,seval,↓reduceIte,rdO_K];rw [← encXN_K ⟨2,0,t,0,0,0⟩];refine RdS.call hG (rLeaf_spec G hG sl g r hri hrn 2 0 t 0 0 0) (gx:=gx1) (by kernel_rfl) (fun F=>rfl) (by decide) (by first | rfl | (simp -implicitDefEqProofs only[go_sem,seval,↓reduceIte,List.map_cons,List.map_nil,encXN_K];try rfl)) (by first | rfl | (simp -implicitDefEqProofs only[go_sem,seval,↓reduceIte,List.map_cons,List.map_nil];try rfl)) (by first | rfl | (simp -implicitDefEqProofs only[go_sem,seval,↓reduceIte];try rfl)) (by first | rfl | (simp -implicitDefEqProofs only[go_sem,seval,↓reduceIte];try rfl)) fun gx2=>?_;simp -implicitDefEqProofs only[go_sem,seval,↓reduceIte,sets];refine hK _ ?_;clear hK K;refine AW.ret ?_;simp -implicitDefEqProofs only[go_sem,seval,↓reduceIte];refine endK_some ?_;rw [hP];exact ⟨rfl,gx2,by first | rfl | (simp -implicitDefEqProofs only[go_sem,seval,↓reduceIte];try rfl),by first | rfl | (simp -implicitDefEqProofs only[go_sem,seval,↓reduceIte];try rfl)⟩
 have q2:(k==2)=false:=by simpa using k2
 rw [if_neg (fun h=>k2 h.2)] at hP;refine AW.seq_k fun K hK=>AW.regionT ⟨fun _ => .top,fun _ => .pure⟩ (by kernel_rfl) hG (by kernel_rfl) (by kernel_rfl) ?_;simp -implicitDefEqProofs only[go_sem,seval,↓reduceIte,e5,rdO_K,hgk,encTk_K,q2];refine hK _ ?_;clear hK K;refine AW.condS (by simp -implicitDefEqProofs only[go_sem,seval,↓reduceIte];rfl) (fun h2=>?_) (fun h2=>?_)
 ·cases h2
 refine AW.skip ?_;simp -implicitDefEqProofs only[go_sem,seval,↓reduceIte];exact hK1 _ () hP (Weak.st (by simp -implicitDefEqProofs only[go_sem,seval,↓reduceIte];try rfl) (by simp -implicitDefEqProofs only[go_sem,seval,↓reduceIte,rdO_K];try rfl))
end Go.Hs
end

section
namespace Go.Hs
inductive X where
 | leaf (op num:Int) (name:List UInt8)
 | un (op:Int) (a:X)
 | bin (op:Int) (a b:X)
 | ite (a b c:X)
 deriving DecidableEq,Inhabited
namespace X
def size:X→Nat
 | leaf .. => 1
 | un _ a=>a.size+1
 | bin _ a b=>a.size+b.size+1
 | ite a b c=>a.size+b.size+c.size+1
def depth:X→Nat
 | leaf .. => 1
 | un _ a=>a.depth+1
 | bin _ a b=>max a.depth b.depth+1
 | ite a b c=>max (max a.depth b.depth) c.depth+1
end X
def wellP (n:XN):Bool :=
 if n.op<1∨n.op > 22∨n.num<0 then false else if n.op=2 then n.num==0 && isP n.name==2 else n.name==[] && (n.op==1 || n.num==0)
namespace X
def ok:X→Bool
 | leaf op num name=>wellP ⟨op,num,name,-1,-1,-1⟩ && decide (op≤4)
 | un op a=>decide (5≤op) && decide (op≤6) && a.ok
 | bin op a b=>decide (7≤op) && decide (op≤21) && a.ok && b.ok
 | ite a b c=>a.ok && b.ok && c.ok
def row:X→Int→List XN
 | leaf op num name,_=>[⟨op,num,name,-1,-1,-1⟩]
 | un op a,k=>a.row k++[⟨op,0,[],k+a.size-1,-1,-1⟩]
 | bin op a b,k=>a.row k++b.row (k+a.size)++[⟨op,0,[],k+a.size-1,k+a.size+b.size-1,-1⟩]
 | ite a b c,k=>a.row k++b.row (k+a.size)++c.row (k+a.size+b.size)++[⟨22,0,[],k+a.size-1,k+a.size+b.size-1,k+a.size+b.size+c.size-1⟩]
theorem row_len:∀ (x:X) (k:Int),(x.row k).length=x.size
 | leaf ..,_=>rfl
 | un _ a,k=>by simp [row,size,row_len a]
 | bin _ a b,k=>by simp [row,size,row_len a,row_len b];omega
 | ite a b c,k=>by simp [row,size,row_len a,row_len b,row_len c];omega
theorem size_pos:∀ x:X,0<x.size
 | leaf .. => by simp [size]
 | un .. => by simp [size]
 | bin .. => by simp [size]
 | ite .. => by simp [size]
def top:X→Int→XN
 | leaf op num name,_=>⟨op,num,name,-1,-1,-1⟩
 | un op a,k=>⟨op,0,[],k+a.size-1,-1,-1⟩
 | bin op a b,k=>⟨op,0,[],k+a.size-1,k+a.size+b.size-1,-1⟩
 | ite a b c,k=>⟨22,0,[],k+a.size-1,k+a.size+b.size-1,k+a.size+b.size+c.size-1⟩
end X
theorem well_op {op:Int} (h:3≤op∧op≤22) (a b c:Int):wellP ⟨op,0,[],a,b,c⟩=true:=by
 unfold wellP;rw [if_neg (by simp;omega),if_neg (by simp;omega)];simp
theorem well_num {n:XN} (h:wellP n=true) (h3:n.op≠1):n.num=0∧(n.op≠2→n.name=[])∧1≤n.op∧n.op≤22:=by
 unfold wellP at h
 split at h
 ·cases h
 ·rename_i h0
  simp only [not_or,Int.not_lt] at h0
  split at h
  ·rename_i h2
   simp only [Bool.and_eq_true,beq_iff_eq] at h;exact ⟨h.1,fun hh=>absurd h2 hh,by omega,by omega⟩
  ·simp only [Bool.and_eq_true,beq_iff_eq,Bool.or_eq_true] at h
   exact ⟨h.2.resolve_left h3,fun _=>h.1,by omega,by omega⟩
theorem well_range {n:XN} (h:wellP n=true):1≤n.op∧n.op≤22:=by
 unfold wellP at h
 split at h
 ·cases h
 ·rename_i h0
  simp only [not_or,Int.not_lt] at h0;omega
def partsOf (op:Int):Nat:=if op≤4 then 0 else if op≤6 then 1 else if op≤21 then 2 else 3
def places3 (l:List (Int × Int)):List Int:=[(l.map (·.1)).getD 0 (-1),(l.map (·.1)).getD 1 (-1),(l.map (·.1)).getD 2 (-1)]
def deepest (l:List (Int × Int)):Int:=l.foldl (fun d p=>max d p.2) 0
def depStep (i:Int) (n:XN) (opn:List (Int × Int)):Option (List (Int × Int)) :=
 if wellP n=false then none else if opn.length<partsOf n.op then none
 else if places3 (opn.drop (opn.length-partsOf n.op))≠[n.a,n.b,n.c] then none
 else some (opn.take (opn.length-partsOf n.op)++[(i,deepest (opn.drop (opn.length-partsOf n.op))+1)])
def depGo:List XN→Int→List (Int × Int)→Option (List (Int × Int))
 | [],_,opn=>some opn
 | n::r,i,opn=>match depStep i n opn with
  | some o=>depGo r (i+1) o
  | none=>none
def depthP (l:List XN):Int:=match depGo l 0 [] with
 | some [x]=>x.2
 | _=>0
def rowF:Int→List X→List XN
 | _,[]=>[]
 | k,x::r=>x.row k++rowF (k+x.size) r
def sizeF (F:List X):Nat:=(F.map X.size).sum
def pieces:Int→List X→List (Int × Int)
 | _,[]=>[]
 | k,x::r=>(k+x.size-1,(x.depth:Int))::pieces (k+x.size) r
theorem sizeF_cons (x:X) (r:List X):sizeF (x::r)=x.size+sizeF r:=by simp [sizeF]
theorem sizeF_app (a b:List X):sizeF (a++b)=sizeF a+sizeF b:=by simp [sizeF]
theorem rowF_app:∀ (a b:List X) (k:Int),rowF k (a++b)=rowF k a++rowF (k+sizeF a) b
 | [],b,k=>by simp [rowF,sizeF]
 | x::a,b,k=>by
  rw [List.cons_append,rowF,rowF,rowF_app a b,List.append_assoc,sizeF_cons]
  congr 3;omega
theorem pieces_app:∀ (a b:List X) (k:Int),pieces k (a++b)=pieces k a++pieces (k+sizeF a) b
 | [],b,k=>by simp [pieces,sizeF]
 | x::a,b,k=>by
  rw [List.cons_append,pieces,pieces,pieces_app a b,List.cons_append,sizeF_cons]
  congr 3;omega
theorem pieces_len:∀ (F:List X) (k:Int),(pieces k F).length=F.length
 | [],_=>rfl
 | x::r,k=>by simp [pieces,pieces_len r]
theorem rowF_len:∀ (F:List X) (k:Int),(rowF k F).length=sizeF F
 | [],_=>rfl
 | x::r,k=>by rw [rowF,List.length_append,X.row_len,rowF_len r,sizeF_cons]
theorem split_last {F:List X} {p:Nat} (h:p≤F.length):∃ A B,F=A++B∧B.length=p:=⟨F.take (F.length-p),F.drop (F.length-p),(List.take_append_drop _ _).symm,by simp;omega⟩
theorem depStep_tree {F:List X} {n:XN} {o:List (Int × Int)} (hF:∀ x∈F,x.ok=true) (h:depStep (sizeF F) n (pieces 0 F)=some o) :
  ∃ F',(∀ x∈F',x.ok=true)∧rowF 0 F'=rowF 0 F++[n]∧o=pieces 0 F':=by
 unfold depStep at h;rw [pieces_len] at h
 split at h
 ·cases h
 rename_i hw
 have hw:wellP n=true:=by simpa using hw
 have hrg:=well_range hw
 split at h
 ·cases h
 rename_i hlen;obtain ⟨A,B,rfl,hB⟩:=split_last (F:=F) (p:=partsOf n.op) (by omega)
 have hAl:(A++B).length-partsOf n.op=A.length:=by rw [List.length_append,hB];omega
 have hdrop:(pieces 0 (A++B)).drop A.length=pieces (sizeF A) B:=by
  rw [pieces_app,List.drop_left' (pieces_len _ _),Int.zero_add]
 have htake:(pieces 0 (A++B)).take A.length=pieces 0 A:=by
  rw [pieces_app,List.take_left' (pieces_len _ _)]
 rw [hAl,hdrop,htake] at h
 split at h
 ·cases h
 rename_i hpl;simp only [ne_eq,Decidable.not_not] at hpl;simp only [Option.some.injEq] at h;have hokA:∀ x∈A,x.ok=true:=fun x hx=>hF x (by simp [hx])
 have fin:∀ x:X,x.ok=true→x.row (sizeF A)=rowF (sizeF A) B++[n]→(x.depth:Int)=deepest (pieces (sizeF A) B)+1 →
   ∃ F',(∀ x∈F',x.ok=true)∧rowF 0 F'=rowF 0 (A++B)++[n]∧o=pieces 0 F':=by
  intro x hx hr hd;refine ⟨A++[x],fun y hy=>?_,?_,?_⟩
  ·rcases List.mem_append.1 hy with h1 | h1
   ·exact hokA y h1
   ·rw [List.mem_singleton.1 h1];exact hx
  ·rw [rowF_app,rowF_app,List.append_assoc,Int.zero_add,← hr]
   simp [rowF]
  ·rw [← h,pieces_app,pieces,pieces,hd]
   have h1:(x.row (sizeF A)).length=x.size:=X.row_len _ _;rw [hr,List.length_append,rowF_len,List.length_singleton] at h1;rw [sizeF_app]
   congr 4
   omega
 obtain ⟨op,num,name,a,b,c⟩:=n;simp only at hB hpl hrg;unfold partsOf at hB
 split at hB
 ·rename_i h4
  obtain rfl:B=[]:=List.length_eq_zero_iff.1 hB;simp only [places3,pieces,List.map_nil,List.getD_nil,List.cons.injEq,and_true] at hpl;obtain ⟨rfl,rfl,rfl⟩:=hpl;exact fin (.leaf op num name) (by unfold X.ok;rw [hw];simp;omega) rfl rfl
 rename_i h4;have hn:=well_num hw (show op≠1 by omega);simp only at hn;obtain ⟨rfl,hnm,_⟩:=hn;obtain rfl:=hnm (by omega)
 split at hB
 ·rename_i h6
  obtain ⟨x,rfl⟩:=List.length_eq_one_iff.1 hB
  ·simp only [places3,pieces,List.map_cons,List.map_nil,List.getD_cons_zero,List.getD_cons_succ,List.getD_nil,List.cons.injEq,and_true] at hpl
   obtain ⟨rfl,rfl,rfl⟩:=hpl;refine fin (.un op x) (by unfold X.ok;rw [hF x (by simp)];simp;omega) ?_ ?_
   ·simp [X.row,rowF]
   ·simp [X.depth,pieces,deepest]
 rename_i h6
 split at hB
 ·rename_i h21
  obtain ⟨x,y,rfl⟩:∃ x y,B=[x,y]:=by
   match B,hB with
   | [x,y],_=>exact ⟨x,y,rfl⟩
  ·simp only [places3,pieces,List.map_cons,List.map_nil,List.getD_cons_zero,List.getD_cons_succ,List.getD_nil,List.cons.injEq,and_true] at hpl
   obtain ⟨rfl,rfl,rfl⟩:=hpl;refine fin (.bin op x y) (by unfold X.ok;rw [hF x (by simp),hF y (by simp)];simp;omega) ?_ ?_
   ·simp [X.row,rowF]
   ·simp [X.depth,pieces,deepest];omega
 ·rename_i h21
  obtain ⟨x,y,z,rfl⟩:∃ x y z,B=[x,y,z]:=by
   match B,hB with
   | [x,y,z],_=>exact ⟨x,y,z,rfl⟩
  ·simp only [places3,pieces,List.map_cons,List.map_nil,List.getD_cons_zero,List.getD_cons_succ,List.cons.injEq,and_true] at hpl
   obtain ⟨rfl,rfl,rfl⟩:=hpl
   obtain rfl:op=22:=by omega
   refine fin (.ite x y z) (by unfold X.ok;rw [hF x (by simp),hF y (by simp),hF z (by simp)];rfl) ?_ ?_
   ·simp [X.row,rowF]
   ·simp [X.depth,pieces,deepest];omega
theorem depGo_tree:∀ (l:List XN) (F:List X) (opn:List (Int × Int)),(∀ x∈F,x.ok=true)→depGo l (sizeF F) (pieces 0 F)=some opn →
  ∃ F',(∀ x∈F',x.ok=true)∧rowF 0 F'=rowF 0 F++l∧opn=pieces 0 F'
 | [],F,opn,hF,h=>⟨F,hF,by simp,by simpa [depGo] using h.symm⟩
 | n::r,F,opn,hF,h=>by
  rw [depGo] at h
  cases hs:depStep (sizeF F) n (pieces 0 F) with
  | none=>rw [hs] at h;cases h
  | some o =>
   rw [hs] at h;obtain ⟨F1,h1,h2,rfl⟩:=depStep_tree hF hs
   have hsz:(sizeF F:Int)+1=sizeF F1:=by
    have:=congrArg List.length h2;rw [List.length_append,rowF_len,rowF_len,List.length_singleton] at this;omega
   simp only at h;rw [hsz] at h;obtain ⟨F',h3,h4,h5⟩:=depGo_tree r F1 opn h1 h;exact ⟨F',h3,by rw [h4,h2];simp,h5⟩
theorem depGo_app:∀ (l m:List XN) (i:Int) (opn:List (Int × Int)),depGo (l++m) i opn=(depGo l i opn).bind fun o=>depGo m (i+l.length) o
 | [],m,i,opn=>by simp [depGo]
 | n::r,m,i,opn=>by
  rw [List.cons_append,depGo,depGo]
  cases depStep i n opn with
  | none=>rfl
  | some o =>
   simp only;rw [depGo_app r m]
   congr 1;funext o'
   congr 1
   simp only [List.length_cons];omega
theorem depGo_row:∀ (x:X) (k:Int) (opn:List (Int × Int)),x.ok=true→depGo (x.row k) k opn=some (opn++[(k+x.size-1,(x.depth:Int))])
 | .leaf op num name,k,opn,h=>by
  unfold X.ok at h;simp only [Bool.and_eq_true,decide_eq_true_eq] at h;simp only [X.row,depGo]
  have hs:depStep k ⟨op,num,name,-1,-1,-1⟩ opn=some (opn++[(k,1)]):=by
   unfold depStep;rw [if_neg (by rw [h.1];simp)]
   have:partsOf op=0:=by unfold partsOf;rw [if_pos h.2]
   rw [this,if_neg (by omega),Nat.sub_zero,List.drop_length,List.take_length];rfl
  rw [hs];simp [depGo,X.size,X.depth]
 | .un op a,k,opn,h=>by
  unfold X.ok at h;simp only [Bool.and_eq_true,decide_eq_true_eq] at h;rw [X.row,depGo_app,depGo_row a k opn h.2,Option.bind_some,X.row_len,depGo]
  have hp:partsOf op=1:=by unfold partsOf;rw [if_neg (by omega),if_pos (by omega)]
  have hs:depStep (k+a.size) ⟨op,0,[],k+a.size-1,-1,-1⟩ (opn++[(k+a.size-1,(a.depth:Int))])=some (opn++[(k+a.size,(a.depth:Int)+1)]):=by
   unfold depStep
   have hl:(opn++[(k+(a.size:Int)-1,(a.depth:Int))]).length-1=opn.length:=by simp
   rw [if_neg (by rw [well_op (by omega)];simp)];simp only [hp];rw [if_neg (by simp),hl,List.drop_left,List.take_left,if_neg (by simp [places3])]
   congr 4
   all_goals first | (simp [deepest];done) | (simp [deepest];omega)
  rw [hs];simp only [depGo,X.size,X.depth]
  congr 4
  all_goals first | (simp;done) | (simp;omega) | omega
 | .bin op a b,k,opn,h=>by
  unfold X.ok at h;simp only [Bool.and_eq_true,decide_eq_true_eq] at h;rw [X.row,depGo_app,depGo_app,depGo_row a k opn h.1.2,Option.bind_some,X.row_len,depGo_row b _ _ h.2,Option.bind_some,depGo]
  have hp:partsOf op=2:=by unfold partsOf;rw [if_neg (by omega),if_neg (by omega),if_pos (by omega)]
  have hlen:((a.row k++b.row (k+a.size)).length:Int)=a.size+b.size:=by rw [List.length_append,X.row_len,X.row_len];omega
  rw [hlen]
  have hs:depStep (k+(a.size+b.size)) ⟨op,0,[],k+a.size-1,k+a.size+b.size-1,-1⟩ (opn++[(k+a.size-1,(a.depth:Int))]++[(k+a.size+b.size-1,(b.depth:Int))])=some (opn++[(k+(a.size+b.size),max (a.depth:Int) b.depth+1)]):=by
   unfold depStep
   have hl:(opn++[(k+(a.size:Int)-1,(a.depth:Int))]++[(k+a.size+b.size-1,(b.depth:Int))]).length-2=opn.length:=by simp
   rw [if_neg (by rw [well_op (by omega)];simp)];simp only [hp];rw [if_neg (by simp),hl,List.append_assoc,List.drop_left,List.take_left,if_neg (by simp [places3])]
   congr 4
   all_goals first | (simp [deepest];done) | (simp [deepest];omega)
  rw [hs];simp only [depGo,X.size,X.depth]
  congr 4
  all_goals first | (simp;done) | (simp;omega) | omega
 | .ite a b c,k,opn,h=>by
  unfold X.ok at h;simp only [Bool.and_eq_true] at h;rw [X.row,depGo_app,depGo_app,depGo_app,depGo_row a k opn h.1.1,Option.bind_some,X.row_len,depGo_row b _ _ h.1.2,Option.bind_some]
  have hlen1:k+((a.row k++b.row (k+a.size)).length:Int)=k+a.size+b.size:=by rw [List.length_append,X.row_len,X.row_len];omega
  rw [hlen1,depGo_row c _ _ h.2,Option.bind_some,depGo]
  have hlen:((a.row k++b.row (k+a.size)++c.row (k+a.size+b.size)).length:Int)=a.size+b.size+c.size:=by simp only [List.length_append,X.row_len];omega
  rw [hlen]
  have hs:depStep (k+(a.size+b.size+c.size)) ⟨22,0,[],k+a.size-1,k+a.size+b.size-1,k+a.size+b.size+c.size-1⟩ (opn++[(k+a.size-1,(a.depth:Int))]++[(k+a.size+b.size-1,(b.depth:Int))]++[(k+a.size+b.size+c.size-1,(c.depth:Int))])=some (opn++[(k+(a.size+b.size+c.size),max (max (a.depth:Int) b.depth) c.depth+1)]):=by
   unfold depStep;have hp:partsOf 22=3:=rfl
   have hl:(opn++[(k+(a.size:Int)-1,(a.depth:Int))]++[(k+a.size+b.size-1,(b.depth:Int))]++[(k+a.size+b.size+c.size-1,(c.depth:Int))]).length-3=opn.length:=by simp
   rw [if_neg (by rw [well_op (by omega)];simp)];simp only [hp];rw [if_neg (by simp),hl,List.append_assoc,List.append_assoc,List.drop_left,List.take_left,if_neg (by simp [places3])]
   congr 4
   all_goals first | (simp [deepest];done) | (simp [deepest];omega)
  rw [hs];simp only [depGo,X.size,X.depth]
  congr 4
  all_goals first | (simp;done) | (simp;omega) | omega
theorem depth_row {x:X} (h:x.ok=true):depthP (x.row 0)=x.depth:=by
 unfold depthP;rw [depGo_row x 0 [] h];rfl
theorem depth_none {l:List XN} (h:depthP l≠0):∃ x:X,x.ok=true∧l=x.row 0:=by
 unfold depthP at h
 split at h
 ·rename_i y hy
  obtain ⟨F,h1,h2,h3⟩:=depGo_tree l [] _ (by simp) (by simpa [sizeF,pieces] using hy)
  match F,h3 with
  | [x],_=>exact ⟨x,h1 x (by simp),by simpa [rowF] using h2.symm⟩
  | [],h3=>simp [pieces] at h3
  | _::_::_,h3=>simp [pieces] at h3
 ·exact absurd rfl h
theorem X.depth_pos:∀ x:X,0<x.depth
 | .leaf .. => by simp [depth]
 | .un .. => by simp [depth]
 | .bin .. => by simp [depth]
 | .ite .. => by simp [depth]
end Go.Hs
end

section
namespace Go.Hs
def sgT (op:Nat):List UInt8:=(tabL.getD op ⟨[],0,0⟩).text
def wNot:List UInt8:=[110,111,116]
def wTrue:List UInt8:=[116,114,117,101]
def wFalse:List UInt8:=[102,97,108,115,101]
inductive Gr:Int→List (List UInt8)→X→Prop where
 | num {n:Int} {t:List UInt8} {v:Int}:isP t=1→parseR (trim0 t)=(v,0)→Gr n [t] (.leaf 1 v [])
 | name {n:Int} {t:List UInt8}:isP t=2→Gr n [t] (.leaf 2 0 t)
 | tr {n:Int}:Gr n [wTrue] (.leaf 3 0 [])
 | fa {n:Int}:Gr n [wFalse] (.leaf 4 0 [])
 | neg {n:Int} {ts:List (List UInt8)} {a:X}:n≤9→Gr 9 ts a→Gr n ([45]::ts) (.un 5 a)
 | not {n:Int} {ts:List (List UInt8)} {a:X}:n≤9→Gr 9 ts a→Gr n (wNot::ts) (.un 6 a)
 | par {n:Int} {ts:List (List UInt8)} {a:X}:Gr 1 ts a→Gr n ([40]::(ts++[[41]])) a
 | bin {n:Int} {op:Nat} {ta tb:List (List UInt8)} {a b:X}:7≤op→op≤21→n≤lvl op→Gr (lvl op) ta a→Gr (lvl op+1) tb b→Gr n (ta++sgT op::tb) (.bin op a b)
 | ite {n:Int} {ta tb tc:List (List UInt8)} {a b c:X}:Gr 1 ta a→Gr 1 tb b→Gr 1 tc c→Gr n (wIf::(ta++wThen::(tb++wElse::(tc++[wEndif])))) (.ite a b c)
theorem Gr.mono {n m:Int} {ts:List (List UInt8)} {x:X} (h:Gr n ts x) (hm:m≤n):Gr m ts x:=by
 cases h with
 | num h1 h2=>exact .num h1 h2
 | name h1=>exact .name h1
 | tr=>exact .tr
 | fa=>exact .fa
 | neg h1 h2=>exact .neg (by omega) h2
 | not h1 h2=>exact .not (by omega) h2
 | par h1=>exact .par h1
 | bin h1 h2 h3 h4 h5=>exact .bin h1 h2 (by omega) h4 h5
 | ite h1 h2 h3=>exact .ite h1 h2 h3
theorem lvl_rng:∀ op,7≤op→op≤21→1≤lvl op∧lvl op≤8∧ofI (sgT op) 2=some op∧isP (sgT op)≠0:=by
 have:((List.range 22).all fun op=>decide (7≤op→1≤lvl op∧lvl op≤8∧ofI (sgT op) 2=some op∧isP (sgT op)≠0))=true:=by decide +kernel
 intro op h1 h2;have:=List.all_eq_true.1 this op (List.mem_range.2 (by omega));simp only [decide_eq_true_eq] at this;exact this h1
theorem Gr.pos {n:Int} {ts:List (List UInt8)} {x:X} (h:Gr n ts x):0<ts.length:=by
 cases h<;>simp<;>omega
def wdOf (t:Tk):List UInt8:=if (isP t.text:Int)=t.kind then t.text else []
theorem next_wd {l:List Tk} {i:Nat} {w:List UInt8} (h:(l.map wdOf)[i]? = some w):(nextP l i).text=w∧(nextP l i).kind=isP w:=by
 have hk:=nextP_is l i
 have:(nextP l i).text=w:=by
  rw [List.getElem?_map] at h;unfold nextP
  cases hg:l[i]? with
  | none=>rw [hg] at h;cases h
  | some t =>
   rw [hg] at h;simp only [Option.map_some,Option.some.injEq] at h;simp only;rw [← h];unfold wdOf
   split<;>rfl
 exact ⟨this,by rw [← hk,this]⟩
theorem next_text {l:List Tk} {i:Nat} (h:i<l.length):(l.map wdOf)[i]? = some (nextP l i).text:=by
 have hg:(l.map wdOf)[i]? = some (wdOf l[i]):=by rw [List.getElem?_map,List.getElem?_eq_getElem h];rfl
 rw [hg,(next_wd hg).1]
def Seg (l:List Tk) (i:Nat) (ts:List (List UInt8)):Prop:=∃ pre post,l.map wdOf=pre++(ts++post)∧pre.length=i
theorem Seg.left {l:List Tk} {i:Nat} {a b:List (List UInt8)} (h:Seg l i (a++b)):Seg l i a:=by
 obtain ⟨pre,post,e,hp⟩:=h;exact ⟨pre,b++post,by rw [e];simp,hp⟩
theorem Seg.right {l:List Tk} {i:Nat} {a b:List (List UInt8)} (h:Seg l i (a++b)):Seg l (i+a.length) b:=by
 obtain ⟨pre,post,e,hp⟩:=h;exact ⟨pre++a,post,by rw [e];simp,by simp [hp]⟩
theorem Seg.head {l:List Tk} {i:Nat} {w:List UInt8} {b:List (List UInt8)} (h:Seg l i (w::b)):(nextP l i).text=w∧(nextP l i).kind=isP w:=by
 obtain ⟨pre,post,e,hp⟩:=h;refine next_wd ?_;rw [e,List.getElem?_append_right (by omega),hp,Nat.sub_self];rfl
theorem Seg.tail {l:List Tk} {i:Nat} {w:List UInt8} {b:List (List UInt8)} (h:Seg l i (w::b)):Seg l (i+1) b:=Seg.right (a:=[w]) h
theorem Seg.le {l:List Tk} {i:Nat} {b:List (List UInt8)} (h:Seg l i b):i+b.length≤l.length:=by
 obtain ⟨pre,post,e,hp⟩:=h;have:=congrArg List.length e;simp only [List.length_map,List.length_append] at this;omega
theorem Seg.app {l:List Tk} {i:Nat} {a b:List (List UInt8)} (h:Seg l i a) (h2:Seg l (i+a.length) b):Seg l i (a++b):=by
 obtain ⟨pre,post,e,hp⟩:=h;obtain ⟨pre2,post2,e2,hp2⟩:=h2;refine ⟨pre,post2,?_,hp⟩;rw [e] at e2
 have h1:pre++(a++post)=(pre++a)++post:=by simp
 rw [h1] at e2;obtain ⟨q1,q2⟩:=List.append_inj e2 (by simp [hp,hp2]);rw [e,q2];simp
theorem Seg.one {l:List Tk} {i:Nat} {w:List UInt8} (hi:i<l.length) (h:(nextP l i).text=w):Seg l i [w]:=by
 have hg:=next_text hi;rw [h] at hg;obtain ⟨q1,q2⟩:=List.getElem?_eq_some_iff.1 hg;refine ⟨(l.map wdOf).take i,(l.map wdOf).drop (i+1),?_,?_⟩
 ·rw [← q2,List.singleton_append,← List.drop_eq_getElem_cons q1,List.take_append_drop]
 ·rw [List.length_take];omega
theorem loopP_fuel {l:List Tk} {inner:Inner} (h:Mono inner) (n:Int):∀ (m m':Nat) (r:RS),l.length<m+r.i→l.length<m'+r.i→loopP l inner n m r=loopP l inner n m' r
 | 0,m',r,h1,_=>by
  cases m' with
  | zero=>rfl
  | succ m' =>
   rw [loopP,loopP]
   cases ho:opAt l r.i with
   | none=>rfl
   | some op=>have:=opAt_lt ho;omega
 | m+1,0,r,_,h2=>by
  rw [loopP,loopP]
  cases ho:opAt l r.i with
  | none=>rfl
  | some op=>have:=opAt_lt ho;omega
 | m+1,m'+1,r,h1,h2=>by
  rw [loopP,loopP]
  cases ho:opAt l r.i with
  | none=>rfl
  | some op =>
   simp only
   split
   ·rfl
   ·refine andThen_congr fun _=>?_
    have h3:r.i+1≤_:=h (lvl op+1) r.adv;exact loopP_fuel h n m m' _ (by simp only [RS.put_i];omega) (by simp only [RS.put_i];omega)
def after (r:RS) (k:Nat) (x:X):RS:=⟨r.i+k,r.nodes++x.row r.nodes.length,r.e⟩
theorem after_last (r:RS) (k:Nat) (x:X):(after r k x).last=(r.nodes.length:Int)+x.size-1:=by
 show (((r.nodes++x.row r.nodes.length).length:Nat):Int)-1=_
 rw [List.length_append,X.row_len];omega
theorem loop_stop {l:List Tk} {inner:Inner} {n:Int} {m:Nat} {r:RS} (h:Ends l n r.i):loopP l inner n m r=(true,r):=by
 cases m with
 | zero=>rfl
 | succ m =>
  rw [loopP]
  cases ho:opAt l r.i with
  | none=>rfl
  | some op=>simp only;rw [if_pos (h op ho)]
theorem opAt_word {l:List Tk} {i:Nat} {w:List UInt8} (h:(nextP l i).text=w):opAt l i=ofI w 2:=by rw [opAt_two,h]
theorem ends_word {l:List Tk} {i:Nat} {w:List UInt8} (n:Int) (h:(nextP l i).text=w) (hw:ofI w 2=none):Ends l n i:=by
 intro op ho;rw [opAt_word h,hw] at ho;cases ho
theorem eat_at {l:List Tk} {r:RS} {w:List UInt8} (h:(nextP l r.i).text=w∧(nextP l r.i).kind=isP w) (hw:isP w≠0):eatP l w r=(true,r.adv):=by
 unfold eatP;rw [if_neg];rintro (q | q)
 ·rw [h.2] at q;omega
 ·exact q h.1
theorem Gr.climb {l:List Tk} {k:Int} {ts:List (List UInt8)} {x:X} (h:Gr k ts x):∀ (n:Int) (f M:Nat) (r:RS),Seg l r.i ts→n≤k→n≤9→l.length≤f+r.i→l.length<M+r.i →
  (∀ op,opAt l (r.i+ts.length)=some op→lvl op≤k)→andThen (aheadP l (climbP l f) r) (loopP l (climbP l f) n M)=loopP l (climbP l f) n M (after r ts.length x):=by
 have inner:∀ {k:Int} {ts:List (List UInt8)} {x:X},(∀ (n:Int) (f M:Nat) (r:RS),Seg l r.i ts→n≤k→n≤9→l.length≤f+r.i→l.length<M+r.i →
   (∀ op,opAt l (r.i+ts.length)=some op→lvl op≤k)→andThen (aheadP l (climbP l f) r) (loopP l (climbP l f) n M)=loopP l (climbP l f) n M (after r ts.length x)) →
   ∀ (f:Nat) (r:RS),Seg l r.i ts→k≤9→l.length+1≤f+r.i→Ends l k (r.i+ts.length)→climbP l f k r=(true,after r ts.length x):=by
  intro k ts x ih f r hs hk hf he
  cases f with
  | zero=>have:=hs.le;omega
  | succ f =>
   rw [climbP,ih k f (l.length+1) r hs (Int.le_refl _) hk (by omega) (by omega) (fun op ho=>by have:=he op ho;omega)];exact loop_stop he
 have ends9:∀ i,Ends l 9 i:=fun i op ho=>by have:=op_pos ho;omega
 induction h with
 | @num k t v h1 h2 =>
  intro n f M r hs _ _ _ _ _;obtain ⟨e1,e2⟩:=hs.head
  have:aheadP l (climbP l f) r=(true,after r 1 (.leaf 1 v [])):=by
   unfold aheadP;rw [e2,e1,h1,if_pos (by decide)];unfold numberP;rw [h2,if_neg (by simp)];rfl
  rw [this];rfl
 | @name k t h1 =>
  intro n f M r hs _ _ _ _ _;obtain ⟨e1,e2⟩:=hs.head
  have:aheadP l (climbP l f) r=(true,after r 1 (.leaf 2 0 t)):=by
   unfold aheadP;rw [e2,e1,h1,if_neg (by decide),if_pos (by decide)];rfl
  rw [this];rfl
 | @tr k =>
  intro n f M r hs _ _ _ _ _;obtain ⟨e1,e2⟩:=hs.head
  have:aheadP l (climbP l f) r=(true,after r 1 (.leaf 3 0 [])):=by
   unfold aheadP;rw [e2,e1];rfl
  rw [this];rfl
 | @fa k =>
  intro n f M r hs _ _ _ _ _;obtain ⟨e1,e2⟩:=hs.head
  have:aheadP l (climbP l f) r=(true,after r 1 (.leaf 4 0 [])):=by
   unfold aheadP;rw [e2,e1];rfl
  rw [this];rfl
 | @neg k ts a h1 h2 ih =>
  intro n f M r hs _ _ hf _ _;obtain ⟨e1,e2⟩:=hs.head;have hc:=inner ih f r.adv hs.tail (Int.le_refl _) (by show _≤f+(r.i+1);omega) (ends9 _)
  have:aheadP l (climbP l f) r=(true,after r (ts.length+1) (.un 5 a)):=by
   have:aheadP l (climbP l f) r=andThen (climbP l f 9 r.adv) fun a=>(true,a.put ⟨5,0,[],a.last,-1,-1⟩):=by
    unfold aheadP;rw [e2,e1];rfl
   rw [this,hc,andThen_true,after_last]
   show (true,RS.mk _ _ _)=(true,RS.mk _ _ _)
   congr 2
   ·show r.i+1+ts.length=r.i+(ts.length+1);omega
   ·show (r.nodes++_)++[_]=r.nodes++(_++[_])
    rw [List.append_assoc];rfl
  rw [this];rfl
 | @not k ts a h1 h2 ih =>
  intro n f M r hs _ _ hf _ _;obtain ⟨e1,e2⟩:=hs.head;have hc:=inner ih f r.adv hs.tail (Int.le_refl _) (by show _≤f+(r.i+1);omega) (ends9 _)
  have:aheadP l (climbP l f) r=(true,after r (ts.length+1) (.un 6 a)):=by
   have:aheadP l (climbP l f) r=andThen (climbP l f 9 r.adv) fun a=>(true,a.put ⟨6,0,[],a.last,-1,-1⟩):=by
    unfold aheadP;rw [e2,e1];rfl
   rw [this,hc,andThen_true,after_last]
   show (true,RS.mk _ _ _)=(true,RS.mk _ _ _)
   congr 2
   ·show r.i+1+ts.length=r.i+(ts.length+1);omega
   ·show (r.nodes++_)++[_]=r.nodes++(_++[_])
    rw [List.append_assoc];rfl
  rw [this];rfl
 | @par k ts a h1 ih =>
  intro n f M r hs _ _ hf _ _;obtain ⟨e1,e2⟩:=hs.head;have h41:=hs.tail.right.head;have hc:=inner ih f r.adv hs.tail.left (by decide) (by show _≤f+(r.i+1);omega) (ends_word 1 h41.1 (by decide +kernel))
  have:aheadP l (climbP l f) r=(true,after r (ts.length+2) a):=by
   have:aheadP l (climbP l f) r=andThen (climbP l f 1 r.adv) (eatP l [41]):=by
    unfold aheadP;rw [e2,e1];rfl
   rw [this,hc,andThen_true,eat_at h41 (by decide +kernel)]
   show (true,RS.mk _ _ _)=(true,RS.mk _ _ _)
   congr 2
   show r.i+1+ts.length+1=r.i+(ts.length+2);omega
  rw [this,andThen_true]
  congr 1
  show RS.mk _ _ _=RS.mk _ _ _
  congr 1
  simp only [List.length_cons,List.length_append,List.length_nil]
 | @bin k op ta tb a b h1 h2 h3 h4 h5 iha ihb =>
  intro n f M r hs hn hn9 hf hM ho;obtain ⟨l1,l2,l3,l4⟩:=lvl_rng op h1 h2;have hso:=hs.right.head
  have hop:opAt l (r.i+ta.length)=some op:=by rw [opAt_word hso.1,l3]
  rw [iha n f M r hs.left (by omega) hn9 hf hM (fun op' ho'=>by rw [hop] at ho';cases ho';exact Int.le_refl _)];have hle:=hs.le;simp only [List.length_append,List.length_cons] at hle;obtain ⟨M,rfl⟩:∃ m,M=m+1:=⟨M-1,by omega⟩;rw [loopP];have:opAt l (after r ta.length a).i=some op:=hop;rw [this];simp only;rw [if_neg (by omega)]
  have hend:Ends l (lvl op+1) (r.i+ta.length+1+tb.length):=by
   intro op' ho';have:=ho op' (by rw [← ho'];congr 1;simp only [List.length_append,List.length_cons];omega);omega
  have hc:=inner ihb f (after r ta.length a).adv hs.right.tail (by omega) (by show _≤f+(r.i+ta.length+1);omega) hend;rw [hc,andThen_true,after_last,after_last]
  have hL:l.length<M+(r.i+ta.length+1+tb.length):=by omega
  have he:RS.put (after (after r ta.length a).adv tb.length b) ⟨(op:Int),0,[],(r.nodes.length:Int)+a.size-1,((after r ta.length a).adv.nodes.length:Int)+b.size-1,-1⟩=after r (ta++sgT op::tb).length (.bin op a b):=by
   have hl:(after r ta.length a).adv.nodes=r.nodes++a.row r.nodes.length:=rfl
   show RS.mk _ _ _=RS.mk _ _ _
   congr 1
   ·show r.i+ta.length+1+tb.length=r.i+(ta++sgT op::tb).length
    simp only [List.length_append,List.length_cons];omega
   ·show (after r ta.length a).adv.nodes++b.row ((after r ta.length a).adv.nodes.length:Nat)++[_]=_
    rw [hl,List.length_append,X.row_len];simp only [X.row,List.append_assoc,Int.natCast_add]
  rw [he];exact loopP_fuel (climbP_mono l f) n M (M+1) _ (by show _<M+(r.i+_);simp only [List.length_append,List.length_cons];omega) (by show _<M+1+(r.i+_);simp only [List.length_append,List.length_cons];omega)
 | @ite k ta tb tc a b c h1 h2 h3 iha ihb ihc =>
  intro n f M r hs _ _ hf _ _;obtain ⟨e1,e2⟩:=hs.head;have s1:=hs.tail;have s2:=s1.right;have s3:=s2.tail.right;have s4:=s3.tail.right;have c1:=inner iha f r.adv s1.left (by decide) (by show _≤f+(r.i+1);omega) (ends_word 1 s2.head.1 (by decide +kernel));have c2:=inner ihb f (after r.adv ta.length a).adv s2.tail.left (by decide) (by show _≤f+(r.i+1+ta.length+1);omega) (ends_word 1 s3.head.1 (by decide +kernel));have c3:=inner ihc f (after (after r.adv ta.length a).adv tb.length b).adv s3.tail.left (by decide) (by show _≤f+(r.i+1+ta.length+1+tb.length+1);omega) (ends_word 1 s4.head.1 (by decide +kernel))
  have:aheadP l (climbP l f) r=(true,after r (wIf::(ta++wThen::(tb++wElse::(tc++[wEndif])))).length (.ite a b c)):=by
   have:aheadP l (climbP l f) r=branchesP l (climbP l f) r:=by
    unfold aheadP;rw [e2,e1];rfl
   rw [this];unfold branchesP
   rw [eat_at ⟨e1,e2⟩ (by decide +kernel),andThen_true,c1,andThen_true,eat_at s2.head (by decide +kernel),andThen_true,c2,andThen_true,eat_at s3.head (by decide +kernel),andThen_true,c3,andThen_true,
    eat_at s4.head (by decide +kernel),andThen_true,after_last,after_last,after_last]
   show (true,RS.mk _ _ _)=(true,RS.mk _ _ _)
   congr 2
   ·show r.i+1+ta.length+1+tb.length+1+tc.length+1=_
    simp only [List.length_append,List.length_cons,List.length_nil];omega
   ·have q1:(after r.adv ta.length a).adv.nodes=r.nodes++a.row r.nodes.length:=rfl
    have q2:(after (after r.adv ta.length a).adv tb.length b).adv.nodes=(after r.adv ta.length a).adv.nodes++b.row ((after r.adv ta.length a).adv.nodes.length:Nat):=rfl
    show (after (after r.adv ta.length a).adv tb.length b).adv.nodes++c.row ((after (after r.adv ta.length a).adv tb.length b).adv.nodes.length:Nat)++[_]=_
    have q3:r.adv.nodes=r.nodes:=rfl;simp only [q2,q1,q3,List.length_append,X.row_len,X.row,List.append_assoc,Int.natCast_add,Int.add_assoc]
  rw [this];rfl
theorem parse_pos {t:List UInt8} (h:isP t=1):0≤(parseR (trim0 t)).1:=by
 have hd:=(isP_dig h).2
 have h1:(trim0 t).all isDig=true∧trim0 t≠[]:=by
  unfold trim0
  split
  ·exact ⟨by decide,by simp⟩
  ·rename_i hn
   refine ⟨?_,hn⟩;rw [List.all_eq_true] at hd ⊢;exact fun x hx=>hd x ((List.dropWhile_sublist _).mem hx)
 obtain ⟨h1,h2⟩:=h1;generalize trim0 t=s at h1 h2
 have hh':(s.head? == some 45)=false:=by
  cases s with
  | nil=>exact absurd rfl h2
  | cons c r =>
   rw [beq_eq_false_iff_ne];intro hc
   have hc:c=45:=by simpa using hc
   subst hc;rw [List.all_cons] at h1
   revert h1
   simp [isDig]
 unfold parseR;rw [hh'];simp only [Bool.false_eq_true,if_false,or_false]
 split
 ·exact Int.le_refl _
 ·unfold told
  split
  ·exact Int.natCast_nonneg _
  ·exact Int.le_refl _
theorem Gr.ok {n:Int} {ts:List (List UInt8)} {x:X} (h:Gr n ts x):x.ok=true:=by
 induction h with
 | @num n t v h1 h2 =>
  have hp:=parse_pos h1;rw [h2] at hp;have hp:0≤v:=hp
  have:wellP ⟨1,v,[],-1,-1,-1⟩=true:=by
   unfold wellP;rw [if_neg (by simp;omega),if_neg (by simp)];rfl
  simp only [X.ok,this,Bool.true_and];rfl
 | @name n t h1 =>
  have:wellP ⟨2,0,t,-1,-1,-1⟩=true:=by
   unfold wellP;rw [if_neg (by simp),if_pos rfl,h1];rfl
  simp only [X.ok,this,Bool.true_and];rfl
 | tr=>rfl
 | fa=>rfl
 | neg _ _ ih=>simp only [X.ok,ih,Bool.and_true];rfl
 | not _ _ ih=>simp only [X.ok,ih,Bool.and_true];rfl
 | par _ ih=>exact ih
 | bin h1 h2 _ _ _ ih1 ih2 =>
  simp only [X.ok,ih1,ih2,Bool.and_true,Bool.and_eq_true,decide_eq_true_eq];omega
 | ite _ _ _ i1 i2 i3=>simp only [X.ok,i1,i2,i3];rfl
def ReadsX (l:List Tk) (n:Int) (r r':RS):Prop:=∃ ts x,Gr n ts x∧Seg l r.i ts∧r'=after r ts.length x
theorem eat_inv {l:List Tk} {w:List UInt8} {r:RS} (h:(eatP l w r).1=true):eatP l w r=(true,r.adv)∧Seg l r.i [w]:=by
 unfold eatP at h ⊢
 split at h
 ·cases h
 ·rename_i hn
  rw [if_neg hn];simp only [not_or,Decidable.not_not] at hn;exact ⟨rfl,Seg.one (nextP_lt hn.1) hn.2⟩
theorem then_inv {x:Bool × RS} {k:RS→Bool × RS} (h:(andThen x k).1=true):x.1=true∧(k x.2).1=true∧andThen x k=k x.2:=by
 obtain ⟨b,r⟩:=x;cases b
 ·cases h
 ·exact ⟨rfl,h,rfl⟩
theorem put_after (r:RS) (k:Nat) (x:X) (n:XN):(after r k x).put n=⟨r.i+k,r.nodes++(x.row r.nodes.length++[n]),r.e⟩:=by
 show RS.mk _ _ _=_
 congr 1
 show r.nodes++_++[n]=_
 rw [List.append_assoc]
theorem sgT_of {t:List UInt8} {op:Nat} (h:ofI t 2=some op):sgT op=t:=by
 obtain ⟨s,h1,h2,_⟩:=ofI_some h;unfold sgT;rw [List.getD_eq_getElem?_getD,h1];exact h2
theorem ahead_inv {l:List Tk} {inner:Inner} (hin:∀ n r,n=1∨n=9→(inner n r).1=true→ReadsX l n r (inner n r).2) {r:RS} (h:(aheadP l inner r).1=true):ReadsX l 9 r (aheadP l inner r).2:=by
 have hk:=nextP_is l r.i;have hlt:(nextP l r.i).kind≠0→r.i<l.length:=nextP_lt
 have hP:aheadP l inner r=if (nextP l r.i).kind=1 then numberP r (nextP l r.i).text
  else if (nextP l r.i).kind=2 then leafP r 2 0 (nextP l r.i).text
  else if (nextP l r.i).kind=0 then (false,r.err 80)
  else if (ofP (nextP l r.i).text 1).2 then andThen (inner 9 r.adv) fun a=>(true,a.put ⟨(ofP (nextP l r.i).text 1).1,0,[],a.last,-1,-1⟩)
  else if (nextP l r.i).text=[40] then andThen (inner 1 r.adv) (eatP l [41])
  else if (nextP l r.i).text=wIf then branchesP l inner r
  else if (ofP (nextP l r.i).text 0).2∧(nextP l r.i).kind=3 then leafP r (ofP (nextP l r.i).text 0).1 0 []
  else (false,r.err 80):=rfl
 generalize aheadP l inner r=res at h hP ⊢
 by_cases k0:(nextP l r.i).kind=0
 ·rw [k0] at hP
  rw [if_neg (by decide),if_neg (by decide),if_pos rfl] at hP;rw [hP] at h;cases h
 have hone:=Seg.one (l:=l) (i:=r.i) (hlt k0) rfl;generalize nextP l r.i=t at hP hk hone k0;obtain ⟨k,t,p⟩:=t;simp only at hP hk hone k0
 by_cases k1:k=1
 ·rw [if_pos k1] at hP
  have ht:isP t=1:=by omega
  unfold numberP at hP
  by_cases he:(parseR (trim0 t)).2=0
  ·rw [if_neg (by simpa using he)] at hP
   refine ⟨[t],.leaf 1 (parseR (trim0 t)).1 [],.num ht (by rw [← he]),hone,by rw [hP];rfl⟩
  ·rw [if_pos he] at hP
   rw [hP] at h;cases h
 rw [if_neg k1] at hP
 by_cases k2:k=2
 ·rw [if_pos k2] at hP
  exact ⟨[t],.leaf 2 0 t,.name (by omega),hone,by rw [hP];rfl⟩
 rw [if_neg k2,if_neg k0] at hP
 cases h1:ofI t 1 with
 | some op =>
  have e1:ofP t 1=(op,true):=by unfold ofP;rw [h1]
  rw [e1,if_pos rfl] at hP;rw [hP] at h;obtain ⟨q1,_,q3⟩:=then_inv h;obtain ⟨ts,x,g1,g2,g3⟩:=hin 9 r.adv (.inr rfl) q1;rw [q3] at hP;simp only at hP;rw [g3] at hP;have hs:Seg l r.i (t::ts):=hone.app (b:=ts) g2
  have hres:res.2=after r (ts.length+1) (.un op x):=by
   rw [hP,after_last];simp only [put_after]
   show RS.mk _ _ _=RS.mk _ _ _
   congr 1
   show r.i+1+ts.length=_
   omega
  rcases ofI_one h1 with ⟨rfl,rfl⟩ | ⟨rfl,rfl⟩
  ·exact ⟨_,_,.neg (Int.le_refl _) g1,hs,hres⟩
  ·exact ⟨_,_,.not (Int.le_refl _) g1,hs,hres⟩
 | none =>
 have e1:(ofP t 1).2=false:=by unfold ofP;rw [h1]
 rw [e1,if_neg (by simp)] at hP
 by_cases h2:t=[40]
 ·rw [if_pos h2] at hP
  subst h2;rw [hP] at h;obtain ⟨q1,q2,q3⟩:=then_inv h;obtain ⟨ts,x,g1,g2,g3⟩:=hin 1 r.adv (.inl rfl) q1;rw [q3,g3] at hP;rw [g3] at q2;obtain ⟨q4,q5⟩:=eat_inv q2;rw [q4] at hP;refine ⟨_,_,.par g1,hone.app (b:=ts++[[41]]) (g2.app q5),?_⟩;rw [hP]
  show RS.mk _ _ _=RS.mk _ _ _
  congr 1
  show r.i+1+ts.length+1=_
  simp only [List.length_cons,List.length_append,List.length_nil];omega
 rw [if_neg h2] at hP
 by_cases h3:t=wIf
 ·rw [if_pos h3] at hP
  subst h3;unfold branchesP at hP;rw [hP] at h;obtain ⟨a1,a2,a3⟩:=then_inv h;obtain ⟨b1,b2⟩:=eat_inv a1;rw [a3] at hP;rw [b1] at hP a2;simp only at hP a2;obtain ⟨c1,c2,c3⟩:=then_inv a2;obtain ⟨ta,xa,ga,sa,ra⟩:=hin 1 r.adv (.inl rfl) c1;rw [c3,ra] at hP;rw [ra] at c2;obtain ⟨d1,d2,d3⟩:=then_inv c2;obtain ⟨e1,e2⟩:=eat_inv d1;rw [d3,e1] at hP;rw [e1] at d2;simp only at hP d2;obtain ⟨f1,f2,f3⟩:=then_inv d2;obtain ⟨tb,xb,gb,sb,rb⟩:=hin 1 _ (.inl rfl) f1;rw [f3,rb] at hP;rw [rb] at f2;obtain ⟨i1,i2,i3⟩:=then_inv f2;obtain ⟨j1,j2⟩:=eat_inv i1;rw [i3,j1] at hP;rw [j1] at i2;simp only at hP i2;obtain ⟨k1,k2,k3⟩:=then_inv i2;obtain ⟨tc,xc,gc,sc,rc⟩:=hin 1 _ (.inl rfl) k1;rw [k3,rc] at hP;rw [rc] at k2;obtain ⟨m1,m2,m3⟩:=then_inv k2;obtain ⟨n1,n2⟩:=eat_inv m1;rw [m3,n1] at hP;simp only [after_last] at hP;refine ⟨_,_,.ite ga gb gc,?_,?_⟩
  ·exact hone.app (b:=_) (sa.app (e2.app (b:=_) (sb.app (j2.app (b:=_) (sc.app n2)))))
  ·rw [hP]
   show RS.mk _ _ _=RS.mk _ _ _
   congr 1
   ·show r.i+1+ta.length+1+tb.length+1+tc.length+1=_
    simp only [List.length_append,List.length_cons,List.length_nil];omega
   ·have q1:(after r.adv ta.length xa).adv.nodes=r.nodes++xa.row r.nodes.length:=rfl
    have q2:(after (after r.adv ta.length xa).adv tb.length xb).adv.nodes=(after r.adv ta.length xa).adv.nodes++xb.row ((after r.adv ta.length xa).adv.nodes.length:Nat):=rfl
    show (after (after r.adv ta.length xa).adv tb.length xb).adv.nodes++xc.row ((after (after r.adv ta.length xa).adv tb.length xb).adv.nodes.length:Nat)++[_]=_
    have q3:r.adv.nodes=r.nodes:=rfl;simp only [q2,q1,q3,List.length_append,X.row_len,X.row,List.append_assoc,Int.natCast_add,Int.add_assoc]
 rw [if_neg h3] at hP
 cases h4:ofI t 0 with
 | none =>
  have e0:(ofP t 0).2=false:=by unfold ofP;rw [h4]
  rw [e0,if_neg (by simp)] at hP;rw [hP] at h;cases h
 | some op =>
  have e0:ofP t 0=(op,true):=by unfold ofP;rw [h4]
  rw [e0] at hP
  have hk3:k=3:=by
   rcases ofI_zero h4 with ⟨rfl,_⟩ | ⟨rfl,_⟩
   ·rw [← hk];decide +kernel
   ·rw [← hk];decide +kernel
  rw [if_pos ⟨rfl,hk3⟩] at hP
  rcases ofI_zero h4 with ⟨rfl,rfl⟩ | ⟨rfl,rfl⟩
  ·exact ⟨_,_,.tr,hone,by rw [hP];rfl⟩
  ·exact ⟨_,_,.fa,hone,by rw [hP];rfl⟩
theorem loop_inv {l:List Tk} {inner:Inner} (hin:∀ n r,1≤n→n≤9→(inner n r).1=true→ReadsX l n r (inner n r).2∧Ends l n (inner n r).2.i) {n:Int} {r0:RS} :
  ∀ (m:Nat) (r:RS) (k:Int) (ts:List (List UInt8)) (x:X),Gr k ts x→Seg l r0.i ts→r=after r0 ts.length x→n≤k→(∀ op,opAt l r.i=some op→lvl op≤k)→(loopP l inner n m r).1=true→ReadsX l n r0 (loopP l inner n m r).2
 | 0,r,k,ts,x,g,s,e,hk,_,_=>⟨ts,x,g.mono hk,s,e⟩
 | m+1,r,k,ts,x,g,s,e,hk,ho,h=>by
  rw [loopP] at h ⊢
  cases hop:opAt l r.i with
  | none=>exact ⟨ts,x,g.mono hk,s,e⟩
  | some op =>
   rw [hop] at h;simp only at h ⊢
   by_cases hl:lvl op<n
   ·rw [if_pos hl];exact ⟨ts,x,g.mono hk,s,e⟩
   rw [if_neg hl] at h ⊢;obtain ⟨p1,p2,p3,p4⟩:=op_pos hop;obtain ⟨q1,q2,q3⟩:=then_inv h;obtain ⟨⟨tb,b,gb,sb,rb⟩,hend⟩:=hin (lvl op+1) r.adv (by omega) (by omega) q1;rw [q3];have hw:sgT op=(nextP l r.i).text:=sgT_of (by rw [← opAt_two];exact hop);have hg2:Gr (lvl op) (ts++sgT op::tb) (.bin op x b) := .bin p1 p2 (Int.le_refl _) (g.mono (ho op hop)) gb
   have hri:r.i=r0.i+ts.length:=by rw [e];rfl
   have hone:Seg l r.i [sgT op]:=Seg.one (opAt_lt hop) hw.symm;have hs2:Seg l r0.i (ts++sgT op::tb):=s.app (by rw [← hri];exact hone.app (b:=tb) sb);rw [rb] at q2 hend ⊢
   have he2:(after r.adv tb.length b).put ⟨(op:Int),0,[],r.last,(after r.adv tb.length b).last,-1⟩=after r0 (ts++sgT op::tb).length (.bin op x b):=by
    rw [after_last,put_after,e,after_last]
    show RS.mk _ _ _=RS.mk _ _ _
    congr 1
    ·show r0.i+ts.length+1+tb.length=_
     simp only [List.length_append,List.length_cons];omega
    ·have q1:(after r0 ts.length x).adv.nodes=r0.nodes++x.row r0.nodes.length:=rfl
     simp only [q1,List.length_append,X.row_len,X.row,List.append_assoc,Int.natCast_add]
   refine loop_inv hin m _ (lvl op) _ _ hg2 hs2 he2 (by omega) ?_ q2;intro op' ho';have:=hend op' ho';omega
theorem climb_inv {l:List Tk}:∀ (f:Nat) (n:Int) (r:RS),1≤n→n≤9→(climbP l f n r).1=true→ReadsX l n r (climbP l f n r).2
 | 0,n,r,_,_,h=>by cases h
 | f+1,n,r,h1,h9,h=>by
  rw [climbP] at h ⊢;obtain ⟨q1,q2,q3⟩:=then_inv h;have hin:∀ n r,1≤n→n≤9→(climbP l f n r).1=true→ReadsX l n r (climbP l f n r).2:=fun n r a b c=>climb_inv f n r a b c;obtain ⟨ts,x,g,s,e⟩:=ahead_inv (fun n r hn hb=>hin n r (by omega) (by omega) hb) q1;rw [q3];exact loop_inv (fun n r a b c=>⟨hin n r a b c,climbP_ends c⟩) _ _ 9 ts x g s e h9 (fun op ho=>by have:=op_pos ho;omega) q2
end Go.Hs
end

section
namespace Go.Hs
open Go.Proofs
set_option maxRecDepth 10000
def sgnR:List (List UInt8):=[[],[],[],[],[],[45],[110,111,116],[42],[100,105,118],[109,111,100],[43],[45],[60],[60,61],[62],[62,61],[61],[60,62],[97,110,100],[111,114],[120,111,114],[105,109,112,108,105,101,115]]
theorem sgnR_get (op:Nat) (h:5≤op) (h2:op≤21):sgnR[op]? = some (sgT op):=by
 have:((List.range 22).all fun op=>decide (op<5) || sgnR[op]? == some (sgT op))=true:=by decide +kernel
 have:=List.all_eq_true.1 this op (List.mem_range.2 (by omega));simp only [Bool.or_eq_true,decide_eq_true_eq,beq_iff_eq] at this
 rcases this with h | h
 ·omega
 ·exact h
theorem rSigns_spec (G:Nat→V) (hG:GOk G):Spec Tryz.prog G 167 [] hNone (fun v _=>v=encSl .new 1 V.str (.mk false sgnR)):=by
 refine Spec.of_code' 0 2 [.tmp 0] Tryz.func167 rfl rfl rfl rfl fun X=>?_;refine AW.seq_k fun K hK=>AW.region (by kernel_rfl) ?_;simp -implicitDefEqProofs only[go_sem,seval,↓reduceIte];refine hK _ ?_;clear hK K;refine AW.seq_k fun K hK=>AW.region (by kernel_rfl) ?_;simp -implicitDefEqProofs only[go_sem,seval,↓reduceIte];intro g1;refine hK _ ?_;clear hK K;refine AW.weak (Weak.stF (fun o=>o==1) (l:=[(0,encSl .new 1 V.str (.mk false sgnR))]) (m:=[]) ?_ trivial) ?_
 ·simp -implicitDefEqProofs only[go_sem,seval,↓reduceIte]
  exact Fz.sl (f:=V.str) (l:=sgnR) (m:=1) (g:=g1) (fz:=0) (c := .new) rfl (by simp -implicitDefEqProofs only[go_sem,seval,↓reduceIte];try rfl) (fun _=>rfl)
 refine AW.ret ?_;simp -implicitDefEqProofs only[go_sem,seval,↓reduceIte];refine endK_some ?_;rfl
def levL:List V:=[.int .i64 0,.int .i64 10,.int .i64 10,.int .i64 10,.int .i64 10,.int .i64 9,.int .i64 9,.int .i64 8,.int .i64 8,.int .i64 8,.int .i64 7,.int .i64 7,.int .i64 6,.int .i64 6,.int .i64 6,.int .i64 6,.int .i64 5,.int .i64 5,.int .i64 4,.int .i64 3,.int .i64 2,.int .i64 1,.int .i64 10]
theorem levL_get (op:Nat) (h:op<23):levL[op]? = some (.int .i64 (lvl op)):=by
 match op,h with
 | 0,_=>rfl
 | 1,_=>rfl
 | 2,_=>rfl
 | 3,_=>rfl
 | 4,_=>rfl
 | 5,_=>rfl
 | 6,_=>rfl
 | 7,_=>rfl
 | 8,_=>rfl
 | 9,_=>rfl
 | 10,_=>rfl
 | 11,_=>rfl
 | 12,_=>rfl
 | 13,_=>rfl
 | 14,_=>rfl
 | 15,_=>rfl
 | 16,_=>rfl
 | 17,_=>rfl
 | 18,_=>rfl
 | 19,_=>rfl
 | 20,_=>rfl
 | 21,_=>rfl
 | 22,_=>rfl
 | n+23,h=>exact absurd h (by omega)
theorem rLev_spec (G:Nat→V) (hG:GOk G) (op:Nat) (hop:op<23):Spec Tryz.prog G 164 [.int .u8 op] hNone (fun v _=>v = .int .i64 (lvl op)):=by
 refine Spec.of_code' 0 7 [.tmp 2] Tryz.func164 rfl rfl rfl rfl fun X=>?_;have hg:=levL_get op hop;unfold levL at hg
 have h23:(op:Int)<23:=by omega
 refine AW.seq_k fun K hK=>AW.region (by kernel_rfl) ?_;simp -implicitDefEqProofs only[go_sem,seval,↓reduceIte];refine hK _ ?_;clear hK K;refine AW.seq_k fun K hK=>AW.region (by kernel_rfl) ?_;simp -implicitDefEqProofs only[go_sem,seval,↓reduceIte,hg,h23,Int.natCast_nonneg,Nat.mul_one,Nat.zero_add];intro g3;refine hK _ ?_;clear hK K;refine AW.ret ?_;simp -implicitDefEqProofs only[go_sem,seval,↓reduceIte];refine endK_some ?_;rfl
theorem two_at {t:List UInt8} {op:Nat} (h1:7≤op) (h2:op≤21):(t≠[]∧sgT op=t) ↔ ofI t 2=some op:=by
 constructor
 ·rintro ⟨_,rfl⟩
  exact (lvl_rng op h1 h2).2.2.1
 ·intro h
  exact ⟨(ofI_some h).choose_spec.2.2.2,sgT_of h⟩
theorem wu8R {z:Int} (h:0≤z) (h2:z<256):IntKind.u8.wrap z=z:=by
 unfold IntKind.wrap;simp [IntKind.signed,IntKind.bits];omega
theorem rOfTwo_spec (G:Nat→V) (hG:GOk G) (sl:Sl Tk) (hT:TkOk sl.l) (g:Nat) (r:RS) (hr:r.i<1000000) (n:Int) :
  RdS 1012 [] G 221 [.int .i64 n] sl g r (.int .u8 (twoR sl.l n r.i)) r:=by
 intro gx;refine Spec.of_code' 1000 32 [.tmp 4] Tryz.func221 rfl rfl rfl rfl fun X=>?_
 have hP:twoR sl.l n r.i=match ofI (nextP sl.l r.i).text 2 with | some op=>if lvl op=n then op else 0 | none=>0:=rfl
 generalize twoR sl.l n r.i=res at hP ⊢;refine AW.seq_k fun K hK=>AW.region (by kernel_rfl) ?_;simp -implicitDefEqProofs only[go_sem,seval,↓reduceIte];refine hK _ ?_;clear hK K;refine AW.seq_k fun K hK=>AW.region (by kernel_rfl) ?_;simp -implicitDefEqProofs only[go_sem,seval,↓reduceIte];refine RdS.call hG (rNext_spec G hG sl hT g r hr) (gx:=gx) (by kernel_rfl) (fun F=>rfl) (by decide) (by first | rfl | (simp -implicitDefEqProofs only[go_sem,seval,↓reduceIte,List.map_cons,List.map_nil,encXN_K];try rfl)) (by first | rfl | (simp -implicitDefEqProofs only[go_sem,seval,↓reduceIte,List.map_cons,List.map_nil];try rfl)) (by first | rfl | (simp -implicitDefEqProofs only[go_sem,seval,↓reduceIte];try rfl)) (by first | rfl | (simp -implicitDefEqProofs only[go_sem,seval,↓reduceIte];try rfl)) fun gx1=>?_;simp -implicitDefEqProofs only[go_sem,seval,↓reduceIte,sets];refine hK _ ?_;clear hK K;generalize (nextP sl.l r.i).text=t at hP ⊢;refine AW.seq_k fun K hK=>AW.region (by kernel_rfl) ?_;simp -implicitDefEqProofs only[go_sem,seval,↓reduceIte];refine CallA.pure hG (by kernel_rfl) ?_;simp -implicitDefEqProofs only[go_sem,seval,↓reduceIte,List.map_nil];refine (rSigns_spec G hG).mono ?_;rintro _ _ rfl;simp -implicitDefEqProofs only[go_sem,seval,↓reduceIte];refine hK _ ?_;clear hK K;refine AW.seq_k fun K1 hK1=>?_;refine AW.seq_k fun K hK=>AW.region (by kernel_rfl) ?_;simp -implicitDefEqProofs only[go_sem,seval,↓reduceIte];refine hK _ ?_;clear hK K;refine AW.block ?_
 refine AW.for 22 (fun k (_:Unit)=>st [(0,.ptr 8 g 0),(1,.int .i64 n),(5,.str t),(6,encSl .new 1 V.str (.mk false sgnR)),(7,.int .u8 k)] [(8,rdO 1012 [] sl g gx1 r),(1012,ndO gx1 r.nodes)])
  (fun k _=>7≤k∧∀ j,7≤j→j<k→¬ (ofI t 2=some j∧lvl j=n)) 7 () (by decide) ⟨Nat.le_refl _,fun j h1 h2=>by omega⟩
  (Weak.st (by simp -implicitDefEqProofs only[go_sem,seval,↓reduceIte];try rfl) (by simp -implicitDefEqProofs only[go_sem,seval,↓reduceIte];try rfl)) ?_
 rintro k _ hk ⟨hk7,hR⟩ L3 hL3;refine AW.seq_k fun K4 hK4=>?_;refine AW.seq_k fun K hK=>AW.region (by kernel_rfl) ?_;simp -implicitDefEqProofs only[go_sem,seval,↓reduceIte];refine hK _ ?_;clear hK K;refine AW.condS (by simp -implicitDefEqProofs only[go_sem,seval,↓reduceIte];rfl) (fun h12=>?_) (fun h12=>?_)
 ·have hk1:k≤21:=by have h12:decide ((k:Int)≤21)=true:=h12;simp at h12;omega
  have hg:=sgnR_get k (by omega) hk1
  have hnext:¬ (ofI t 2=some k∧lvl k=n)→∀ j,7≤j→j<k+1→¬ (ofI t 2=some j∧lvl j=n):=by
   intro h j h1 h2
   by_cases q:j=k
   ·subst q;exact h
   ·exact hR j h1 (by omega)
  have hwr:IntKind.u8.wrap ((k:Int)+1)=((k+1:Nat):Int):=by rw [wu8R (by omega) (by omega)];omega
  refine AW.skip ?_;simp -implicitDefEqProofs only[go_sem,seval,↓reduceIte];refine hK4 _ ?_;refine AW.seq_k fun K5 hK5=>?_;refine AW.block ?_
  by_cases ht:t=[]
  ·have e1:(t==[])=true:=by rw [ht];rfl
   refine AW.seq_k fun K hK=>AW.region (by kernel_rfl) ?_;simp -implicitDefEqProofs only[go_sem,seval,↓reduceIte,e1];refine hK _ ?_;clear hK K;refine AW.condS (by simp -implicitDefEqProofs only[go_sem,seval,↓reduceIte];rfl) (fun h30=>?_) (fun h30=>?_)
   ·cases h30
   refine AW.skip ?_;simp -implicitDefEqProofs only[go_sem,seval,↓reduceIte];refine hK5 _ ?_;refine AW.region (by kernel_rfl) ?_;simp -implicitDefEqProofs only[go_sem,seval,↓reduceIte,hwr];exact hL3 _ ⟨by omega,(),⟨by omega,hnext (fun h=>(two_at hk7 hk1).2 h.1 |>.1 ht)⟩,Weak.st (by simp -implicitDefEqProofs only[go_sem,seval,↓reduceIte];try rfl) (by simp -implicitDefEqProofs only[go_sem,seval,↓reduceIte];try rfl)⟩
  have e1:(t==[])=false:=by simpa using ht
  by_cases hs:sgT k=t
  rotate_left
  ·have e2:(sgT k==t)=false:=by simpa using hs
   refine AW.seq_k fun K hK=>AW.region (by kernel_rfl) ?_;simp -implicitDefEqProofs only[go_sem,seval,↓reduceIte,e1,hg,e2];refine hK _ ?_;clear hK K;refine AW.condS (by simp -implicitDefEqProofs only[go_sem,seval,↓reduceIte];rfl) (fun h30=>?_) (fun h30=>?_)
   ·cases h30
   refine AW.skip ?_;simp -implicitDefEqProofs only[go_sem,seval,↓reduceIte];refine hK5 _ ?_;refine AW.region (by kernel_rfl) ?_;simp -implicitDefEqProofs only[go_sem,seval,↓reduceIte,hwr];exact hL3 _ ⟨by omega,(),⟨by omega,hnext (fun h=>hs ((two_at hk7 hk1).2 h.1).2)⟩,Weak.st (by simp -implicitDefEqProofs only[go_sem,seval,↓reduceIte];try rfl) (by simp -implicitDefEqProofs only[go_sem,seval,↓reduceIte];try rfl)⟩
  have e2:(sgT k==t)=true:=by simpa using hs
  have ho:=(two_at hk7 hk1).1 ⟨ht,hs⟩;refine AW.seq_k fun K hK=>AW.region (by kernel_rfl) ?_;simp -implicitDefEqProofs only[go_sem,seval,↓reduceIte,e1,hg,e2];refine CallA.pure hG (by kernel_rfl) ?_;simp -implicitDefEqProofs only[go_sem,seval,↓reduceIte];refine (rLev_spec G hG k (by omega)).mono ?_;rintro _ _ rfl;simp -implicitDefEqProofs only[go_sem,seval,↓reduceIte];refine hK _ ?_;clear hK K;rw [ho] at hP;simp only at hP
  by_cases hl:lvl k=n
  ·rw [if_pos hl] at hP
   have e3:(lvl k==n)=true:=by simpa using hl
   rw [e3];refine AW.condS (by simp -implicitDefEqProofs only[go_sem,seval,↓reduceIte];rfl) (fun h30=>?_) (fun h30=>?_);rotate_left
   ·cases h30
   refine AW.seq_k fun K hK=>AW.region (by kernel_rfl) ?_;simp -implicitDefEqProofs only[go_sem,seval,↓reduceIte];refine hK _ ?_;clear hK K;refine AW.ret ?_;simp -implicitDefEqProofs only[go_sem,seval,↓reduceIte];refine endK_some ?_;rw [hP];exact ⟨rfl,gx1,by first | rfl | (simp -implicitDefEqProofs only[go_sem,seval,↓reduceIte];try rfl),by first | rfl | (simp -implicitDefEqProofs only[go_sem,seval,↓reduceIte];try rfl)⟩
  ·have e3:(lvl k==n)=false:=by simpa using hl
   rw [e3];refine AW.condS (by simp -implicitDefEqProofs only[go_sem,seval,↓reduceIte];rfl) (fun h30=>?_) (fun h30=>?_)
   ·cases h30
   refine AW.skip ?_;simp -implicitDefEqProofs only[go_sem,seval,↓reduceIte];refine hK5 _ ?_;refine AW.region (by kernel_rfl) ?_;simp -implicitDefEqProofs only[go_sem,seval,↓reduceIte,hwr];exact hL3 _ ⟨by omega,(),⟨by omega,hnext (fun h=>hl h.2)⟩,Weak.st (by simp -implicitDefEqProofs only[go_sem,seval,↓reduceIte];try rfl) (by simp -implicitDefEqProofs only[go_sem,seval,↓reduceIte];try rfl)⟩
 ·have hk1:k=22:=by have h12:decide ((k:Int)≤21)=false:=h12;simp at h12;omega
  refine AW.exit ?_;simp -implicitDefEqProofs only[go_sem,seval,↓reduceIte];refine hK1 _ ?_
  have hP:res=0:=by
   rw [hP]
   cases ho:ofI t 2 with
   | none=>rfl
   | some op =>
    simp only;rw [if_neg];intro hl;have:=ofI_two ho;exact hR op this.1 (by omega) ⟨ho,hl⟩
  refine AW.seq_k fun K hK=>AW.region (by kernel_rfl) ?_;simp -implicitDefEqProofs only[go_sem,seval,↓reduceIte];refine hK _ ?_;clear hK K;refine AW.ret ?_;simp -implicitDefEqProofs only[go_sem,seval,↓reduceIte];refine endK_some ?_;rw [hP];exact ⟨rfl,gx1,by first | rfl | (simp -implicitDefEqProofs only[go_sem,seval,↓reduceIte];try rfl),by first | rfl | (simp -implicitDefEqProofs only[go_sem,seval,↓reduceIte];try rfl)⟩
end Go.Hs
end

section
namespace Go.Hs
open Go.Proofs
set_option maxRecDepth 10000
theorem rUnary_spec (G:Nat→V) (hG:GOk G) (sl:Sl Tk) (hT:TkOk sl.l) (g:Nat) (r:RS) (hr:RSok sl.l r) (inner:Inner) (hin:InnR G sl g inner r.i) (hb:Bals sl.l inner) :
  RdS 1012 [] G 220 [] sl g r (.bool (unR sl.l inner r).1) (unR sl.l inner r).2:=by
 have hTl:=hT.len
 have hri:r.i<1000000:=by have:=hr.1;omega
 have hw:IntKind.i64.wrap ((r.i:Int)+1)=((r.i+1:Nat):Int):=by rw [w64 (by omega) (by omega)];omega
 intro gx;refine Spec.of_code' 1000 29 [.tmp 2] Tryz.func220 rfl rfl rfl rfl fun X=>?_
 have hP:unR sl.l inner r=if (nextP sl.l r.i).text=[45] then andThen (inner 9 r.adv) fun a=>(true,a.put ⟨5,0,[],a.last,-1,-1⟩)
  else if (nextP sl.l r.i).text=[110,111,116] then andThen (inner 9 r.adv) fun a=>(true,a.put ⟨6,0,[],a.last,-1,-1⟩)
  else primR sl.l inner r:=rfl
 have hpr:=rPrimary_spec G hG sl hT g r hr inner hin hb
 have hlt:(nextP sl.l r.i).text≠[]→r.i<sl.l.length:=by
  intro h;rw [← Nat.not_le];intro h2;apply h;rw [nextP_none h2]
 generalize unR sl.l inner r=res at hP ⊢;generalize primR sl.l inner r=pr at hP hpr;refine AW.seq_k fun K hK=>AW.region (by kernel_rfl) ?_;simp -implicitDefEqProofs only[go_sem,seval,↓reduceIte];refine hK _ ?_;clear hK K;refine AW.seq_k fun K hK=>AW.region (by kernel_rfl) ?_;simp -implicitDefEqProofs only[go_sem,seval,↓reduceIte];refine hK _ ?_;clear hK K;refine AW.seqJ (fun (x:Nat × Int)=>st [(0,.ptr 8 g 0),(3,.int .u8 x.2)] [(8,rdO 1012 [] sl g x.1 r),(1012,ndO x.1 r.nodes)]) (fun x=>r.i<sl.l.length∧res=andThen (inner 9 r.adv) fun a=>(true,a.put ⟨x.2,0,[],a.last,-1,-1⟩)) (fun K1 hK1=>?_) ?_
 ·refine AW.seq_k fun K hK=>AW.region (by kernel_rfl) ?_
  simp -implicitDefEqProofs only[go_sem,seval,↓reduceIte];refine RdS.call hG (rNext_spec G hG sl hT g r hri) (gx:=gx) (by kernel_rfl) (fun F=>rfl) (by decide) (by first | rfl | (simp -implicitDefEqProofs only[go_sem,seval,↓reduceIte,List.map_cons,List.map_nil,encXN_K];try rfl)) (by first | rfl | (simp -implicitDefEqProofs only[go_sem,seval,↓reduceIte,List.map_cons,List.map_nil];try rfl)) (by first | rfl | (simp -implicitDefEqProofs only[go_sem,seval,↓reduceIte];try rfl)) (by first | rfl | (simp -implicitDefEqProofs only[go_sem,seval,↓reduceIte];try rfl)) fun gx1=>?_;simp -implicitDefEqProofs only[go_sem,seval,↓reduceIte,sets];refine hK _ ?_;clear hK K;generalize (nextP sl.l r.i).text=t at hP hlt ⊢;refine AW.block ?_
  by_cases c1:t=[45]
  ·have e1:(t==[45])=true:=by simpa using c1
   rw [if_pos c1] at hP;refine AW.seq_k fun K hK=>AW.region (by kernel_rfl) ?_;simp -implicitDefEqProofs only[go_sem,seval,↓reduceIte,e1];refine hK _ ?_;clear hK K;refine AW.condS (by simp -implicitDefEqProofs only[go_sem,seval,↓reduceIte];rfl) (fun h2=>?_) (fun h2=>?_);rotate_left
   ·cases h2
   refine AW.region (by kernel_rfl) ?_;simp -implicitDefEqProofs only[go_sem,seval,↓reduceIte];exact hK1 _ (gx1,5) ⟨hlt (by rw [c1];simp),hP⟩ (Weak.st (by simp -implicitDefEqProofs only[go_sem,seval,↓reduceIte];try rfl) (by simp -implicitDefEqProofs only[go_sem,seval,↓reduceIte];try rfl))
  have e1:(t==[45])=false:=by simpa using c1
  rw [if_neg c1] at hP;refine AW.seq_k fun K hK=>AW.region (by kernel_rfl) ?_;simp -implicitDefEqProofs only[go_sem,seval,↓reduceIte,e1];refine hK _ ?_;clear hK K;refine AW.condS (by simp -implicitDefEqProofs only[go_sem,seval,↓reduceIte];rfl) (fun h2=>?_) (fun h2=>?_)
  ·cases h2
  clear h2
  by_cases c2:t=[110,111,116]
  ·have e2:(t==[110,111,116])=true:=by simpa using c2
   rw [if_pos c2] at hP;refine AW.seq_k fun K hK=>AW.region (by kernel_rfl) ?_;simp -implicitDefEqProofs only[go_sem,seval,↓reduceIte,e2];refine hK _ ?_;clear hK K;refine AW.condS (by simp -implicitDefEqProofs only[go_sem,seval,↓reduceIte];rfl) (fun h2=>?_) (fun h2=>?_);rotate_left
   ·cases h2
   refine AW.region (by kernel_rfl) ?_;simp -implicitDefEqProofs only[go_sem,seval,↓reduceIte];exact hK1 _ (gx1,6) ⟨hlt (by rw [c2];simp),hP⟩ (Weak.st (by simp -implicitDefEqProofs only[go_sem,seval,↓reduceIte];try rfl) (by simp -implicitDefEqProofs only[go_sem,seval,↓reduceIte];try rfl))
  have e2:(t==[110,111,116])=false:=by simpa using c2
  rw [if_neg c2] at hP;refine AW.seq_k fun K hK=>AW.region (by kernel_rfl) ?_;simp -implicitDefEqProofs only[go_sem,seval,↓reduceIte,e2];refine hK _ ?_;clear hK K;refine AW.condS (by simp -implicitDefEqProofs only[go_sem,seval,↓reduceIte];rfl) (fun h2=>?_) (fun h2=>?_)
  ·cases h2
  refine AW.seq_k fun K hK=>AW.region (by kernel_rfl) ?_;simp -implicitDefEqProofs only[go_sem,seval,↓reduceIte];refine RdS.call hG (hpr) (gx:=gx1) (by kernel_rfl) (fun F=>rfl) (by decide) (by first | rfl | (simp -implicitDefEqProofs only[go_sem,seval,↓reduceIte,List.map_cons,List.map_nil,encXN_K];try rfl)) (by first | rfl | (simp -implicitDefEqProofs only[go_sem,seval,↓reduceIte,List.map_cons,List.map_nil];try rfl)) (by first | rfl | (simp -implicitDefEqProofs only[go_sem,seval,↓reduceIte];try rfl)) (by first | rfl | (simp -implicitDefEqProofs only[go_sem,seval,↓reduceIte];try rfl)) fun gx2=>?_;simp -implicitDefEqProofs only[go_sem,seval,↓reduceIte,sets];refine hK _ ?_;clear hK K;refine AW.ret ?_;simp -implicitDefEqProofs only[go_sem,seval,↓reduceIte];refine endK_some ?_;rw [hP];exact ⟨rfl,gx2,by first | rfl | (simp -implicitDefEqProofs only[go_sem,seval,↓reduceIte];try rfl),by first | rfl | (simp -implicitDefEqProofs only[go_sem,seval,↓reduceIte];try rfl)⟩
 rintro ⟨gx,op⟩ ⟨hl,hP⟩
 replace hP:res=andThen (inner 9 r.adv) fun a=>(true,a.put ⟨op,0,[],a.last,-1,-1⟩):=hP
 have had:RSok sl.l r.adv:=(Bal.adv hl).ok hr;have hc:=hin.un r.adv (Nat.lt_succ_self _) had;have hbl:=(hb 9 r.adv).ok had;generalize inner 9 r.adv=x at hc hP hbl;obtain ⟨b,a⟩:=x;simp only at hc hbl
 have han:a.nodes.length<1000000:=by have:=hbl.1;have:=hbl.2;omega
 refine AW.seq_k fun K hK=>AW.region (by kernel_rfl) ?_;simp -implicitDefEqProofs only[go_sem,seval,↓reduceIte,rdO_K,hw];refine hK _ ?_;clear hK K
 cases b with
 | false =>
  rw [andThen_false] at hP;refine AW.seq_k fun K hK=>AW.region (by kernel_rfl) ?_;simp -implicitDefEqProofs only[go_sem,seval,↓reduceIte,rdO_K];refine RdS.call hG (hc) (gx:=gx) (by kernel_rfl) (fun F=>rfl) (by decide) (by first | rfl | (simp -implicitDefEqProofs only[go_sem,seval,↓reduceIte,List.map_cons,List.map_nil,encXN_K];try rfl)) (by first | rfl | (simp -implicitDefEqProofs only[go_sem,seval,↓reduceIte,List.map_cons,List.map_nil];try rfl)) (by first | rfl | (simp -implicitDefEqProofs only[go_sem,seval,↓reduceIte];try rfl)) (by first | rfl | (simp -implicitDefEqProofs only[go_sem,seval,↓reduceIte];try rfl)) fun gx2=>?_;simp -implicitDefEqProofs only[go_sem,seval,↓reduceIte,sets];refine hK _ ?_;clear hK K;refine AW.ret ?_;simp -implicitDefEqProofs only[go_sem,seval,↓reduceIte];refine endK_some ?_;rw [hP];exact ⟨rfl,gx2,by first | rfl | (simp -implicitDefEqProofs only[go_sem,seval,↓reduceIte];try rfl),by first | rfl | (simp -implicitDefEqProofs only[go_sem,seval,↓reduceIte];try rfl)⟩
 | true =>
  rw [andThen_true] at hP;refine AW.seq_k fun K hK=>AW.region (by kernel_rfl) ?_;simp -implicitDefEqProofs only[go_sem,seval,↓reduceIte,rdO_K];refine RdS.call hG (hc) (gx:=gx) (by kernel_rfl) (fun F=>rfl) (by decide) (by first | rfl | (simp -implicitDefEqProofs only[go_sem,seval,↓reduceIte,List.map_cons,List.map_nil,encXN_K];try rfl)) (by first | rfl | (simp -implicitDefEqProofs only[go_sem,seval,↓reduceIte,List.map_cons,List.map_nil];try rfl)) (by first | rfl | (simp -implicitDefEqProofs only[go_sem,seval,↓reduceIte];try rfl)) (by first | rfl | (simp -implicitDefEqProofs only[go_sem,seval,↓reduceIte];try rfl)) fun gx2=>?_;simp -implicitDefEqProofs only[go_sem,seval,↓reduceIte,sets];simp -implicitDefEqProofs only[go_sem,seval,↓reduceIte,rdO_K];refine RdS.call hG (rLast_spec G hG sl g a han) (gx:=gx2) (by kernel_rfl) (fun F=>rfl) (by decide) (by first | rfl | (simp -implicitDefEqProofs only[go_sem,seval,↓reduceIte,List.map_cons,List.map_nil,encXN_K];try rfl)) (by first | rfl | (simp -implicitDefEqProofs only[go_sem,seval,↓reduceIte,List.map_cons,List.map_nil];try rfl)) (by first | rfl | (simp -implicitDefEqProofs only[go_sem,seval,↓reduceIte];try rfl)) (by first | rfl | (simp -implicitDefEqProofs only[go_sem,seval,↓reduceIte];try rfl)) fun gx3=>?_;simp -implicitDefEqProofs only[go_sem,seval,↓reduceIte,sets];simp -implicitDefEqProofs only[go_sem,seval,↓reduceIte,rdO_K];rw [← encXN_K ⟨op,0,[],a.last,-1,-1⟩];refine RdS.call hG (rPutN_spec G hG sl g a han ⟨op,0,[],a.last,-1,-1⟩) (gx:=gx3) (by kernel_rfl) (fun F=>rfl) (by decide) (by first | rfl | (simp -implicitDefEqProofs only[go_sem,seval,↓reduceIte,List.map_cons,List.map_nil,encXN_K];try rfl)) (by first | rfl | (simp -implicitDefEqProofs only[go_sem,seval,↓reduceIte,List.map_cons,List.map_nil];try rfl)) (by first | rfl | (simp -implicitDefEqProofs only[go_sem,seval,↓reduceIte];try rfl)) (by first | rfl | (simp -implicitDefEqProofs only[go_sem,seval,↓reduceIte];try rfl)) fun gx4=>?_
  simp -implicitDefEqProofs only[go_sem,seval,↓reduceIte,sets];refine hK _ ?_;clear hK K;refine AW.ret ?_;simp -implicitDefEqProofs only[go_sem,seval,↓reduceIte];refine endK_some ?_;rw [hP];exact ⟨rfl,gx4,by first | rfl | (simp -implicitDefEqProofs only[go_sem,seval,↓reduceIte];try rfl),by first | rfl | (simp -implicitDefEqProofs only[go_sem,seval,↓reduceIte];try rfl)⟩
theorem levK_bal {l:List Tk} {f:Nat} (k:Nat) (r:RS):Bal l 0 r (levK l (climbP l f) k r).2:=by
 rw [levK_climb (climbP_mono l f) (fun _ _=>climbP_ends)];exact Bal.then (aheadP_bal (climbP_bal l f) r) fun _=>(aheadP_bal (climbP_bal l f) r).trans (loopP_bal (climbP_bal l f) _ _ _)
theorem tailR_succ (l:List Tk) (inner:Inner) (n:Int) (m:Nat) (r:RS):tailR l inner n (m+1) r=if twoR l n r.i=0 then (true,r) else andThen (inner (n+1) r.adv) fun a=>tailR l inner n m (a.put ⟨twoR l n r.i,0,[],r.last,a.last,-1⟩):=rfl
theorem twoR_op {l:List Tk} {n:Int} {i:Nat} (h:twoR l n i≠0):i<l.length∧twoR l n i≤21:=by
 unfold twoR at h ⊢
 cases ho:ofI (nextP l i).text 2 with
 | none=>rw [ho] at h;exact absurd rfl h
 | some op =>
  have h2:=ofI_two ho
  have:opAt l i=some op:=by rw [opAt_two,ho]
  refine ⟨opAt_lt this,?_⟩;simp only
  split<;>omega
theorem rLevel_spec (G:Nat→V) (hG:GOk G) (sl:Sl Tk) (hT:TkOk sl.l) (g:Nat):∀ (f:Nat) (r:RS),sl.l.length<f+r.i→RSok sl.l r →
  (∀ n,1≤n→n≤9→RdS 1012 [] G 142 [.int .i64 n] sl g r (.bool (climbP sl.l f n r).1) (climbP sl.l f n r).2) ∧
  RdS 1012 [] G 220 [] sl g r (.bool (climbP sl.l f 9 r).1) (climbP sl.l f 9 r).2:=by
 have hTl:=hT.len;intro f
 induction f with
 | zero=>intro r hf hr;have:=hr.1;omega
 | succ f ih =>
 intro r hf hr;have hin:InnR G sl g (climbP sl.l f) r.i:=⟨fun n r' h1 h9 hi hr'=>(ih r' (by omega) hr').1 n h1 h9,fun r' hi hr'=>(ih r' (by omega) hr').2⟩;have hbs:=climbP_bal sl.l f;have hun:=rUnary_spec G hG sl hT g r hr _ hin hbs
 have hcl:∀ k:Nat,climbP sl.l (f+1) (9-k) r=levK sl.l (climbP sl.l f) k r:=by
  intro k;rw [levK_climb (climbP_mono sl.l f) (fun _ _=>climbP_ends)];rfl
 have h9:climbP sl.l (f+1) 9 r=unR sl.l (climbP sl.l f) r:=hcl 0;rw [h9];refine ⟨?_,hun⟩
 suffices h:∀ k:Nat,k≤8→RdS 1012 [] G 142 [.int .i64 (9-k)] sl g r (.bool (levK sl.l (climbP sl.l f) k r).1) (levK sl.l (climbP sl.l f) k r).2 by
  intro n h1 hn9;have:=h (9-n).toNat (by omega);rw [← hcl,show (9:Int)-((9-n).toNat:Nat)=n by omega] at this;exact this
 intro k
 induction k with
 | zero =>
  intro _ gx;refine Spec.of_code' 1000 46 [.tmp 4] Tryz.func142 rfl rfl rfl rfl fun X=>?_;have hP:levK sl.l (climbP sl.l f) 0 r=unR sl.l (climbP sl.l f) r:=rfl;generalize levK sl.l (climbP sl.l f) 0 r=res at hP ⊢;generalize unR sl.l (climbP sl.l f) r=y at hP hun;refine AW.seq_k fun K hK=>AW.region (by kernel_rfl) ?_;simp -implicitDefEqProofs only[go_sem,seval,↓reduceIte];refine hK _ ?_;clear hK K;refine AW.seq_k fun K1 hK1=>?_;refine AW.seq_k fun K hK=>AW.region (by kernel_rfl) ?_;simp -implicitDefEqProofs only[go_sem,seval,↓reduceIte];refine hK _ ?_;clear hK K;refine AW.condS (by simp -implicitDefEqProofs only[go_sem,seval,↓reduceIte];rfl) (fun h8=>?_) (fun h8=>?_)
  ·cases h8
  refine AW.skip ?_;simp -implicitDefEqProofs only[go_sem,seval,↓reduceIte];refine hK1 _ ?_;refine AW.seq_k fun K2 hK2=>?_;refine AW.seq_k fun K hK=>AW.region (by kernel_rfl) ?_;simp -implicitDefEqProofs only[go_sem,seval,↓reduceIte];refine hK _ ?_;clear hK K;refine AW.condS (by simp -implicitDefEqProofs only[go_sem,seval,↓reduceIte];rfl) (fun h12=>?_) (fun h12=>?_);rotate_left
  ·cases h12
  refine AW.seq_k fun K hK=>AW.region (by kernel_rfl) ?_;simp -implicitDefEqProofs only[go_sem,seval,↓reduceIte];refine RdS.call hG (hun) (gx:=gx) (by kernel_rfl) (fun F=>rfl) (by decide) (by first | rfl | (simp -implicitDefEqProofs only[go_sem,seval,↓reduceIte,List.map_cons,List.map_nil,encXN_K];try rfl)) (by first | rfl | (simp -implicitDefEqProofs only[go_sem,seval,↓reduceIte,List.map_cons,List.map_nil];try rfl)) (by first | rfl | (simp -implicitDefEqProofs only[go_sem,seval,↓reduceIte];try rfl)) (by first | rfl | (simp -implicitDefEqProofs only[go_sem,seval,↓reduceIte];try rfl)) fun gx1=>?_;simp -implicitDefEqProofs only[go_sem,seval,↓reduceIte,sets];refine hK _ ?_;clear hK K;refine AW.ret ?_;simp -implicitDefEqProofs only[go_sem,seval,↓reduceIte];refine endK_some ?_;rw [hP];exact ⟨rfl,gx1,by first | rfl | (simp -implicitDefEqProofs only[go_sem,seval,↓reduceIte];try rfl),by first | rfl | (simp -implicitDefEqProofs only[go_sem,seval,↓reduceIte];try rfl)⟩
 | succ k ihk =>
  intro hk gx;have ihk:=ihk (by omega);obtain ⟨n,hn⟩:∃ n:Int,n=8-k:=⟨_,rfl⟩
  have e9:(9:Int)-((k+1:Nat):Int)=n:=by omega
  have e9k:(9:Int)-(k:Int)=n+1:=by omega
  have hn1:1≤n∧n≤8:=by omega
  rw [e9];rw [e9k] at ihk;refine Spec.of_code' 1000 46 [.tmp 4] Tryz.func142 rfl rfl rfl rfl fun X=>?_
  have hP:levK sl.l (climbP sl.l f) (k+1) r=andThen (levK sl.l (climbP sl.l f) k r) (tailR sl.l (climbP sl.l f) n (sl.l.length+1)):=by rw [levK,hn]
  have hlb:=levK_bal (l:=sl.l) (f:=f) k r;generalize levK sl.l (climbP sl.l f) (k+1) r=res at hP ⊢;generalize levK sl.l (climbP sl.l f) k r=y at hP ihk hlb;obtain ⟨b,q0⟩:=y;simp only at ihk hlb
  have q10:(n==10)=false:=by rw [beq_eq_false_iff_ne];omega
  have q9:(n==9)=false:=by rw [beq_eq_false_iff_ne];omega
  have hw1:IntKind.i64.wrap (n+1)=n+1:=w64 (by omega) (by omega);refine AW.seq_k fun K hK=>AW.region (by kernel_rfl) ?_;simp -implicitDefEqProofs only[go_sem,seval,↓reduceIte];refine hK _ ?_;clear hK K;refine AW.seq_k fun K1 hK1=>?_;refine AW.seq_k fun K hK=>AW.region (by kernel_rfl) ?_;simp -implicitDefEqProofs only[go_sem,seval,↓reduceIte,q10];refine hK _ ?_;clear hK K;refine AW.condS (by simp -implicitDefEqProofs only[go_sem,seval,↓reduceIte];rfl) (fun h8=>?_) (fun h8=>?_)
  ·cases h8
  refine AW.skip ?_;simp -implicitDefEqProofs only[go_sem,seval,↓reduceIte];refine hK1 _ ?_;refine AW.seq_k fun K2 hK2=>?_;refine AW.seq_k fun K hK=>AW.region (by kernel_rfl) ?_;simp -implicitDefEqProofs only[go_sem,seval,↓reduceIte,q9];refine hK _ ?_;clear hK K;refine AW.condS (by simp -implicitDefEqProofs only[go_sem,seval,↓reduceIte];rfl) (fun h12=>?_) (fun h12=>?_)
  ·cases h12
  refine AW.skip ?_;simp -implicitDefEqProofs only[go_sem,seval,↓reduceIte];refine hK2 _ ?_;refine AW.seq_k fun K3 hK3=>?_
  cases b with
  | false =>
   rw [andThen_false] at hP;refine AW.seq_k fun K hK=>AW.region (by kernel_rfl) ?_;simp -implicitDefEqProofs only[go_sem,seval,↓reduceIte,hw1];refine RdS.call hG (ihk) (gx:=gx) (by kernel_rfl) (fun F=>rfl) (by decide) (by first | rfl | (simp -implicitDefEqProofs only[go_sem,seval,↓reduceIte,List.map_cons,List.map_nil,encXN_K];try rfl)) (by first | rfl | (simp -implicitDefEqProofs only[go_sem,seval,↓reduceIte,List.map_cons,List.map_nil];try rfl)) (by first | rfl | (simp -implicitDefEqProofs only[go_sem,seval,↓reduceIte];try rfl)) (by first | rfl | (simp -implicitDefEqProofs only[go_sem,seval,↓reduceIte];try rfl)) fun gx1=>?_;simp -implicitDefEqProofs only[go_sem,seval,↓reduceIte,sets];refine hK _ ?_;clear hK K;refine AW.condS (by simp -implicitDefEqProofs only[go_sem,seval,↓reduceIte];rfl) (fun h19=>?_) (fun h19=>?_);rotate_left
   ·cases h19
   refine AW.seq_k fun K hK=>AW.region (by kernel_rfl) ?_;simp -implicitDefEqProofs only[go_sem,seval,↓reduceIte];refine hK _ ?_;clear hK K;refine AW.ret ?_;simp -implicitDefEqProofs only[go_sem,seval,↓reduceIte];refine endK_some ?_;rw [hP];exact ⟨rfl,gx1,by first | rfl | (simp -implicitDefEqProofs only[go_sem,seval,↓reduceIte];try rfl),by first | rfl | (simp -implicitDefEqProofs only[go_sem,seval,↓reduceIte];try rfl)⟩
  | true =>
  rw [andThen_true] at hP;have hq0:=hlb.ok hr;refine AW.seq_k fun K hK=>AW.region (by kernel_rfl) ?_;simp -implicitDefEqProofs only[go_sem,seval,↓reduceIte,hw1];refine RdS.call hG (ihk) (gx:=gx) (by kernel_rfl) (fun F=>rfl) (by decide) (by first | rfl | (simp -implicitDefEqProofs only[go_sem,seval,↓reduceIte,List.map_cons,List.map_nil,encXN_K];try rfl)) (by first | rfl | (simp -implicitDefEqProofs only[go_sem,seval,↓reduceIte,List.map_cons,List.map_nil];try rfl)) (by first | rfl | (simp -implicitDefEqProofs only[go_sem,seval,↓reduceIte];try rfl)) (by first | rfl | (simp -implicitDefEqProofs only[go_sem,seval,↓reduceIte];try rfl)) fun gx1=>?_;simp -implicitDefEqProofs only[go_sem,seval,↓reduceIte,sets];refine hK _ ?_;clear hK K;refine AW.condS (by simp -implicitDefEqProofs only[go_sem,seval,↓reduceIte];rfl) (fun h19=>?_) (fun h19=>?_)
  ·cases h19
  refine AW.skip ?_;simp -implicitDefEqProofs only[go_sem,seval,↓reduceIte];refine hK3 _ ?_;refine AW.block ?_
  refine AW.while (fun (x:Nat × Nat × RS)=>st [(0,.ptr 8 g 0),(1,.int .i64 n)] [(8,rdO 1012 [] sl g x.1 x.2.2),(1012,ndO x.1 x.2.2.nodes)])
   (fun x=>res=tailR sl.l (climbP sl.l f) n x.2.1 x.2.2∧RSok sl.l x.2.2∧r.i≤x.2.2.i∧sl.l.length<x.2.1+x.2.2.i) (fun x=>x.2.1) (gx1,sl.l.length+1,q0) ⟨hP,hq0,hlb.up,Nat.lt_add_right _ (Nat.lt_succ_self _)⟩
   (Weak.st (by simp -implicitDefEqProofs only[go_sem,seval,↓reduceIte];try rfl) (by simp -implicitDefEqProofs only[go_sem,seval,↓reduceIte];try rfl)) ?_
  clear hP;rintro ⟨gy,m,q⟩ ⟨hP,hq,hqi,hm⟩ L3 hL3
  replace hP:res=tailR sl.l (climbP sl.l f) n m q:=hP
  replace hq:RSok sl.l q:=hq
  replace hqi:r.i≤q.i:=hqi
  replace hm:sl.l.length<m+q.i:=hm
  obtain ⟨m,rfl⟩:∃ m',m=m'+1:=⟨m-1,by have:=hq.1;omega⟩
  have hqI:q.i<1000000:=by have:=hq.1;omega
  have hqn:q.nodes.length<1000000:=by have:=hq.1;have:=hq.2;omega
  rw [tailR_succ] at hP;have htw:=twoR_op (l:=sl.l) (n:=n) (i:=q.i);refine AW.block ?_;refine AW.seq_k fun K hK=>AW.region (by kernel_rfl) ?_;simp -implicitDefEqProofs only[go_sem,seval,↓reduceIte];refine RdS.call hG (rOfTwo_spec G hG sl hT g q hqI n) (gx:=gy) (by kernel_rfl) (fun F=>rfl) (by decide) (by first | rfl | (simp -implicitDefEqProofs only[go_sem,seval,↓reduceIte,List.map_cons,List.map_nil,encXN_K];try rfl)) (by first | rfl | (simp -implicitDefEqProofs only[go_sem,seval,↓reduceIte,List.map_cons,List.map_nil];try rfl)) (by first | rfl | (simp -implicitDefEqProofs only[go_sem,seval,↓reduceIte];try rfl)) (by first | rfl | (simp -implicitDefEqProofs only[go_sem,seval,↓reduceIte];try rfl)) fun gz=>?_;simp -implicitDefEqProofs only[go_sem,seval,↓reduceIte,sets];refine hK _ ?_;clear hK K;generalize twoR sl.l n q.i=op at hP htw ⊢;refine AW.seq_k fun K4 hK4=>?_;refine AW.seq_k fun K hK=>AW.region (by kernel_rfl) ?_;simp -implicitDefEqProofs only[go_sem,seval,↓reduceIte];refine hK _ ?_;clear hK K
  by_cases ho:op=0
  ·have e1:(((op:Nat):Int)==0)=true:=by rw [ho];rfl
   rw [if_pos ho] at hP;rw [e1];refine AW.condS (by simp -implicitDefEqProofs only[go_sem,seval,↓reduceIte];rfl) (fun h24=>?_) (fun h24=>?_);rotate_left
   ·cases h24
   refine AW.seq_k fun K hK=>AW.region (by kernel_rfl) ?_;simp -implicitDefEqProofs only[go_sem,seval,↓reduceIte];refine hK _ ?_;clear hK K;refine AW.ret ?_;simp -implicitDefEqProofs only[go_sem,seval,↓reduceIte];refine endK_some ?_;rw [hP];exact ⟨rfl,gz,by first | rfl | (simp -implicitDefEqProofs only[go_sem,seval,↓reduceIte];try rfl),by first | rfl | (simp -implicitDefEqProofs only[go_sem,seval,↓reduceIte];try rfl)⟩
  have e1:(((op:Nat):Int)==0)=false:=by rw [beq_eq_false_iff_ne];omega
  rw [if_neg ho] at hP;rw [e1];refine AW.condS (by simp -implicitDefEqProofs only[go_sem,seval,↓reduceIte];rfl) (fun h24=>?_) (fun h24=>?_)
  ·cases h24
  refine AW.skip ?_;simp -implicitDefEqProofs only[go_sem,seval,↓reduceIte];refine hK4 _ ?_;obtain ⟨hil,hop21⟩:=htw ho
  have hw:IntKind.i64.wrap ((q.i:Int)+1)=((q.i+1:Nat):Int):=by rw [w64 (by omega) (by omega)];omega
  have hadv:RSok sl.l q.adv:=(Bal.adv hil).ok hq;have hc:=hin.lev (n+1) q.adv (by omega) (by omega) (by show r.i<q.i+1;omega) hadv;have hcb:=hbs (n+1) q.adv;generalize climbP sl.l f (n+1) q.adv=z at hP hc hcb;obtain ⟨b,a⟩:=z;simp only at hc hcb;have ha:=hcb.ok hadv;have haup:q.i+1≤a.i:=hcb.up
  have han:a.nodes.length<1000000:=by have:=ha.1;have:=ha.2;omega
  refine AW.seq_k fun K hK=>AW.region (by kernel_rfl) ?_;simp -implicitDefEqProofs only[go_sem,seval,↓reduceIte];refine RdS.call hG (rLast_spec G hG sl g q hqn) (gx:=gz) (by kernel_rfl) (fun F=>rfl) (by decide) (by first | rfl | (simp -implicitDefEqProofs only[go_sem,seval,↓reduceIte,List.map_cons,List.map_nil,encXN_K];try rfl)) (by first | rfl | (simp -implicitDefEqProofs only[go_sem,seval,↓reduceIte,List.map_cons,List.map_nil];try rfl)) (by first | rfl | (simp -implicitDefEqProofs only[go_sem,seval,↓reduceIte];try rfl)) (by first | rfl | (simp -implicitDefEqProofs only[go_sem,seval,↓reduceIte];try rfl)) fun gz1=>?_;simp -implicitDefEqProofs only[go_sem,seval,↓reduceIte,sets];refine hK _ ?_;clear hK K;refine AW.seq_k fun K hK=>AW.region (by kernel_rfl) ?_;simp -implicitDefEqProofs only[go_sem,seval,↓reduceIte,rdO_K,hw];refine hK _ ?_;clear hK K;refine AW.seq_k fun K10 hK10=>?_
  cases b with
  | false =>
   rw [andThen_false] at hP;refine AW.seq_k fun K hK=>AW.region (by kernel_rfl) ?_;simp -implicitDefEqProofs only[go_sem,seval,↓reduceIte,rdO_K,hw1];refine RdS.call hG (hc) (gx:=gz1) (by kernel_rfl) (fun F=>rfl) (by decide) (by first | rfl | (simp -implicitDefEqProofs only[go_sem,seval,↓reduceIte,List.map_cons,List.map_nil,encXN_K];try rfl)) (by first | rfl | (simp -implicitDefEqProofs only[go_sem,seval,↓reduceIte,List.map_cons,List.map_nil];try rfl)) (by first | rfl | (simp -implicitDefEqProofs only[go_sem,seval,↓reduceIte];try rfl)) (by first | rfl | (simp -implicitDefEqProofs only[go_sem,seval,↓reduceIte];try rfl)) fun gz2=>?_;simp -implicitDefEqProofs only[go_sem,seval,↓reduceIte,sets];refine hK _ ?_;clear hK K;refine AW.condS (by simp -implicitDefEqProofs only[go_sem,seval,↓reduceIte];rfl) (fun h11=>?_) (fun h11=>?_)
   ·refine AW.seq_k fun K hK=>AW.region (by kernel_rfl) ?_
    simp -implicitDefEqProofs only[go_sem,seval,↓reduceIte];refine hK _ ?_;clear hK K;refine AW.ret ?_;simp -implicitDefEqProofs only[go_sem,seval,↓reduceIte];refine endK_some ?_;rw [hP];exact ⟨rfl,gz2,by first | rfl | (simp -implicitDefEqProofs only[go_sem,seval,↓reduceIte];try rfl),by first | rfl | (simp -implicitDefEqProofs only[go_sem,seval,↓reduceIte];try rfl)⟩
   ·cases h11
  | true =>
   rw [andThen_true] at hP;refine AW.seq_k fun K hK=>AW.region (by kernel_rfl) ?_;simp -implicitDefEqProofs only[go_sem,seval,↓reduceIte,rdO_K,hw1];refine RdS.call hG (hc) (gx:=gz1) (by kernel_rfl) (fun F=>rfl) (by decide) (by first | rfl | (simp -implicitDefEqProofs only[go_sem,seval,↓reduceIte,List.map_cons,List.map_nil,encXN_K];try rfl)) (by first | rfl | (simp -implicitDefEqProofs only[go_sem,seval,↓reduceIte,List.map_cons,List.map_nil];try rfl)) (by first | rfl | (simp -implicitDefEqProofs only[go_sem,seval,↓reduceIte];try rfl)) (by first | rfl | (simp -implicitDefEqProofs only[go_sem,seval,↓reduceIte];try rfl)) fun gz2=>?_;simp -implicitDefEqProofs only[go_sem,seval,↓reduceIte,sets];refine hK _ ?_;clear hK K;refine AW.condS (by simp -implicitDefEqProofs only[go_sem,seval,↓reduceIte];rfl) (fun h11=>?_) (fun h11=>?_)
   ·cases h11
   refine AW.skip ?_;simp -implicitDefEqProofs only[go_sem,seval,↓reduceIte];refine hK10 _ ?_;refine AW.region (by kernel_rfl) ?_;simp -implicitDefEqProofs only[go_sem,seval,↓reduceIte];refine RdS.call hG (rLast_spec G hG sl g a han) (gx:=gz2) (by kernel_rfl) (fun F=>rfl) (by decide) (by first | rfl | (simp -implicitDefEqProofs only[go_sem,seval,↓reduceIte,List.map_cons,List.map_nil,encXN_K];try rfl)) (by first | rfl | (simp -implicitDefEqProofs only[go_sem,seval,↓reduceIte,List.map_cons,List.map_nil];try rfl)) (by first | rfl | (simp -implicitDefEqProofs only[go_sem,seval,↓reduceIte];try rfl)) (by first | rfl | (simp -implicitDefEqProofs only[go_sem,seval,↓reduceIte];try rfl)) fun gz3=>?_;simp -implicitDefEqProofs only[go_sem,seval,↓reduceIte,sets];simp -implicitDefEqProofs only[go_sem,seval,↓reduceIte,rdO_K];rw [← encXN_K ⟨op,0,[],q.last,a.last,-1⟩];refine RdS.call hG (rPutN_spec G hG sl g a han ⟨op,0,[],q.last,a.last,-1⟩) (gx:=gz3) (by kernel_rfl) (fun F=>rfl) (by decide) (by first | rfl | (simp -implicitDefEqProofs only[go_sem,seval,↓reduceIte,List.map_cons,List.map_nil,encXN_K];try rfl)) (by first | rfl | (simp -implicitDefEqProofs only[go_sem,seval,↓reduceIte,List.map_cons,List.map_nil];try rfl)) (by first | rfl | (simp -implicitDefEqProofs only[go_sem,seval,↓reduceIte];try rfl)) (by first | rfl | (simp -implicitDefEqProofs only[go_sem,seval,↓reduceIte];try rfl)) fun gz4=>?_;simp -implicitDefEqProofs only[go_sem,seval,↓reduceIte,sets]
   have hres:RSok sl.l (a.put ⟨op,0,[],q.last,a.last,-1⟩):=⟨ha.1,by
    have h1:=hcb.cnt;have h2:=hq.2
    show (a.nodes++[_]).length≤a.i
    rw [List.length_append,List.length_singleton];have h3:a.nodes.length+(q.i+1)+0≤q.nodes.length+a.i:=h1
    omega⟩
   refine hL3 _ ⟨(gz4,m,a.put ⟨op,0,[],q.last,a.last,-1⟩),Nat.lt_succ_self _,⟨hP,hres,?_,?_⟩,Weak.st (by simp -implicitDefEqProofs only[go_sem,seval,↓reduceIte];try rfl) (by simp -implicitDefEqProofs only[go_sem,seval,↓reduceIte];try exact ⟨rfl,rfl⟩)⟩
   ·show r.i≤a.i
    omega
   ·show sl.l.length<m+a.i
    omega
end Go.Hs
end

section
namespace Go.Hs
open Go.Proofs
set_option maxRecDepth 10000
theorem trimLeft_spec (G:Nat→V) (s:List UInt8):Spec Tryz.prog G 290 [.str s,.str [48]] hNone (fun v _=>v = .str (s.dropWhile (· == 48))):=by
 refine Spec.of_calls fun X cargs _ _ hA=>?_;obtain ⟨x,y,rfl,hx,hy⟩:=hA.two;obtain ⟨s',rfl,rfl⟩:=hx.str_inv;obtain ⟨p',rfl,hp⟩:=hy.str_inv
 obtain rfl:p'=⟨#[48]⟩:=by
  obtain ⟨⟨l⟩⟩:=p';simp at hp;rw [hp]
 refine (show Calls Tryz.prog 290 _ _ _ from Any.strings_TrimLeft_one Tryz.laysTL s' 48 (by decide) X.w).mono ?_;rintro e w' ⟨rfl,rfl⟩;exact ⟨_,_,rfl,RowKit.Below.refl _ _,.str _ _ rfl,by simp [Lib.trimLeftB]⟩
theorem xLeaf_spec (G:Nat→V) (hG:GOk G) (sl:Sl Tk) (g:Nat) (r:RS) (hi:r.i<1000000) (hr:r.nodes.length<1000000) (op num:Int) (name:List UInt8) (x y z:Int) :
  RdS 1031 [.func (.func 256) [] []] G 279 [encXN ⟨op,num,name,x,y,z⟩] sl g r (.bool true) (leafP r op num name).2:=by
 intro gx;refine Spec.of_code' 1000 15 [.tmp 4] Tryz.func279 rfl rfl rfl rfl fun X=>?_
 have hw:IntKind.i64.wrap ((r.i:Int)+1)=((r.i+1:Nat):Int):=by rw [w64 (by omega) (by omega)];omega
 simp only [sets,rdO_K,encXN_K];refine AW.seq_k fun K hK=>AW.region (by kernel_rfl) ?_;simp -implicitDefEqProofs only[go_sem,seval,↓reduceIte];intro g3;refine hK _ ?_;clear hK K;refine AW.seq_k fun K hK=>AW.region (by kernel_rfl) ?_;simp -implicitDefEqProofs only[go_sem,seval,↓reduceIte,hw];refine hK _ ?_;clear hK K;refine AW.seq_k fun K hK=>AW.region (by kernel_rfl) ?_;simp -implicitDefEqProofs only[go_sem,seval,↓reduceIte];rw [← encXN_K ⟨op,num,name,x,y,z⟩];refine RdS.call hG (xPut_spec G hG sl g r.adv hr ⟨op,num,name,x,y,z⟩ .any .nil (by decide)) (gx:=gx) (by kernel_rfl) (fun F=>rfl) (by decide) (by first | rfl | (simp -implicitDefEqProofs only[go_sem,seval,↓reduceIte,List.map_cons,List.map_nil,encXN_K];try rfl)) (by first | rfl | (simp -implicitDefEqProofs only[go_sem,seval,↓reduceIte,List.map_cons,List.map_nil];try rfl)) (by first | rfl | (simp -implicitDefEqProofs only[go_sem,seval,↓reduceIte];try rfl)) (by first | rfl | (simp -implicitDefEqProofs only[go_sem,seval,↓reduceIte];try rfl)) fun gx'=>?_;simp -implicitDefEqProofs only[go_sem,seval,↓reduceIte,sets];refine hK _ ?_;clear hK K;refine AW.ret ?_;simp -implicitDefEqProofs only[go_sem,seval,↓reduceIte];refine endK_some ?_;exact ⟨rfl,gx',by simp -implicitDefEqProofs only[go_sem,seval,↓reduceIte];rfl,by simp -implicitDefEqProofs only[go_sem,seval,↓reduceIte];rfl⟩
theorem xEat_spec (G:Nat→V) (hE:GExp G) (sl:Sl Tk) (hT:TkOk sl.l) (g:Nat) (r:RS) (hi:r.i<1000000) (w:List UInt8) :
  RdS 1031 [.func (.func 256) [] []] G 280 [.str w] sl g r (.bool (eatP sl.l w r).1) (eatP sl.l w r).2:=by
 have hG:=hE.ok;intro gx;refine Spec.of_code' 1000 27 [.tmp 4] Tryz.func280 rfl rfl rfl rfl fun X=>?_
 have hw:IntKind.i64.wrap ((r.i:Int)+1)=((r.i+1:Nat):Int):=by rw [w64 (by omega) (by omega)];omega
 refine AW.seq_k fun K hK=>AW.region (by kernel_rfl) ?_;simp -implicitDefEqProofs only[go_sem,seval,↓reduceIte];refine hK _ ?_;clear hK K;refine AW.seq_k fun K1 hK1=>?_;refine AW.seq_k fun K hK=>AW.region (by kernel_rfl) ?_;simp -implicitDefEqProofs only[go_sem,seval,↓reduceIte];refine RdS.call hG (xNext_spec G hE sl hT g r hi) (gx:=gx) (by kernel_rfl) (fun F=>rfl) (by decide) (by first | rfl | (simp -implicitDefEqProofs only[go_sem,seval,↓reduceIte,List.map_cons,List.map_nil,encXN_K];try rfl)) (by first | rfl | (simp -implicitDefEqProofs only[go_sem,seval,↓reduceIte,List.map_cons,List.map_nil];try rfl)) (by first | rfl | (simp -implicitDefEqProofs only[go_sem,seval,↓reduceIte];try rfl)) (by first | rfl | (simp -implicitDefEqProofs only[go_sem,seval,↓reduceIte];try rfl)) fun gx'=>?_;simp -implicitDefEqProofs only[go_sem,seval,↓reduceIte,sets];simp -implicitDefEqProofs only[go_sem,seval,↓reduceIte,encTk_K];intro g5;refine hK _ ?_;clear hK K
 have hP:eatP sl.l w r=if (nextP sl.l r.i).kind=0∨(nextP sl.l r.i).text≠w then (false,r.err 80) else (true,r.adv):=rfl
 generalize nextP sl.l r.i=t at hP ⊢;obtain ⟨k,t,p⟩:=t;simp only at hP
 by_cases hk:k=0
 ·have e1:(k==0)=true:=by simpa using hk
  rw [if_pos (.inl hk)] at hP;refine AW.seq_k fun K hK=>AW.region (by kernel_rfl) ?_;simp -implicitDefEqProofs only[go_sem,seval,↓reduceIte,e1];refine hK _ ?_;clear hK K;refine AW.condS (by simp -implicitDefEqProofs only[go_sem,seval,↓reduceIte];rfl) (fun h2=>?_) (fun h2=>?_)
  ·refine AW.seq_k fun K hK=>AW.region (by kernel_rfl) ?_
   simp -implicitDefEqProofs only[go_sem,seval,↓reduceIte,rdO_K];refine hK _ ?_;clear hK K;refine AW.seq_k fun K hK=>AW.region (by kernel_rfl) ?_;simp -implicitDefEqProofs only[go_sem,seval,↓reduceIte];refine hK _ ?_;clear hK K;refine AW.ret ?_;simp -implicitDefEqProofs only[go_sem,seval,↓reduceIte];refine endK_some ?_;rw [hP];exact ⟨rfl,gx',by simp -implicitDefEqProofs only[go_sem,seval,↓reduceIte];rfl,by simp -implicitDefEqProofs only[go_sem,seval,↓reduceIte];rfl⟩
  ·cases h2
 ·have e1:(k==0)=false:=by simpa using hk
  by_cases ht:t=w
  ·have e2:(t==w)=true:=by simpa using ht
   rw [if_neg (by rintro (h | h);exact hk h;exact h ht)] at hP;refine AW.seq_k fun K hK=>AW.region (by kernel_rfl) ?_;simp -implicitDefEqProofs only[go_sem,seval,↓reduceIte,e1,bne,e2];refine hK _ ?_;clear hK K;refine AW.condS (by simp -implicitDefEqProofs only[go_sem,seval,↓reduceIte];rfl) (fun h2=>?_) (fun h2=>?_)
   ·cases h2
   ·refine AW.skip ?_
    simp -implicitDefEqProofs only[go_sem,seval,↓reduceIte];refine hK1 _ ?_;refine AW.seq_k fun K hK=>AW.region (by kernel_rfl) ?_;simp -implicitDefEqProofs only[go_sem,seval,↓reduceIte,rdO_K,hw];refine hK _ ?_;clear hK K;refine AW.seq_k fun K hK=>AW.region (by kernel_rfl) ?_;simp -implicitDefEqProofs only[go_sem,seval,↓reduceIte];refine hK _ ?_;clear hK K;refine AW.ret ?_;simp -implicitDefEqProofs only[go_sem,seval,↓reduceIte];refine endK_some ?_;rw [hP];exact ⟨rfl,gx',by simp -implicitDefEqProofs only[go_sem,seval,↓reduceIte];rfl,by simp -implicitDefEqProofs only[go_sem,seval,↓reduceIte];rfl⟩
  ·have e2:(t==w)=false:=by simpa using ht
   rw [if_pos (.inr ht)] at hP;refine AW.seq_k fun K hK=>AW.region (by kernel_rfl) ?_;simp -implicitDefEqProofs only[go_sem,seval,↓reduceIte,e1,bne,e2];refine hK _ ?_;clear hK K;refine AW.condS (by simp -implicitDefEqProofs only[go_sem,seval,↓reduceIte];rfl) (fun h2=>?_) (fun h2=>?_)
   ·refine AW.seq_k fun K hK=>AW.region (by kernel_rfl) ?_
    simp -implicitDefEqProofs only[go_sem,seval,↓reduceIte,rdO_K];refine hK _ ?_;clear hK K;refine AW.seq_k fun K hK=>AW.region (by kernel_rfl) ?_;simp -implicitDefEqProofs only[go_sem,seval,↓reduceIte];refine hK _ ?_;clear hK K;refine AW.ret ?_;simp -implicitDefEqProofs only[go_sem,seval,↓reduceIte];refine endK_some ?_;rw [hP];exact ⟨rfl,gx',by simp -implicitDefEqProofs only[go_sem,seval,↓reduceIte];rfl,by simp -implicitDefEqProofs only[go_sem,seval,↓reduceIte];rfl⟩
   ·cases h2
theorem trim0_len (t:List UInt8):(trim0 t).length≤t.length+1:=by
 unfold trim0
 split
 ·simp
 ·exact Nat.le_trans ((List.dropWhile_sublist _).length_le) (Nat.le_succ _)
theorem xNumber_spec (G:Nat→V) (hE:GExp G) (sl:Sl Tk) (g:Nat) (r:RS) (hi:r.i<1000000) (hr:r.nodes.length<1000000) (t:List UInt8) (ht:t.length<100000) :
  RdS 1031 [.func (.func 256) [] []] G 278 [.str t] sl g r (.bool (numberP r t).1) (numberP r t).2:=by
 have hG:=hE.ok;intro gx;refine Spec.of_code' 1000 26 [.tmp 4] Tryz.func278 rfl rfl rfl rfl fun X=>?_;refine AW.seq_k fun K hK=>AW.region (by kernel_rfl) ?_;simp -implicitDefEqProofs only[go_sem,seval,↓reduceIte];refine hK _ ?_;clear hK K;refine AW.seq_k fun K hK=>AW.region (by kernel_rfl) ?_;simp -implicitDefEqProofs only[go_sem,seval,↓reduceIte];refine CallA.pure hG (by kernel_rfl) ?_;simp -implicitDefEqProofs only[go_sem,seval,↓reduceIte];refine (trimLeft_spec G t).mono ?_;rintro _ _ rfl;simp -implicitDefEqProofs only[go_sem,seval,↓reduceIte];refine hK _ ?_;clear hK K
 have hT0:trim0 t=if t.dropWhile (· == 48)=[] then [48] else t.dropWhile (· == 48):=rfl
 have hP:numberP r t=if (parseR (trim0 t)).2≠0 then (false,r.err (parseR (trim0 t)).2) else leafP r 1 (parseR (trim0 t)).1 []:=rfl
 have hl:=trim0_len t;refine AW.seqJ (fun (_:Unit)=>st [(0,.ptr 8 g 0),(1,.str (trim0 t))] [(8,rdO 1031 [.func (.func 256) [] []] sl g gx r),(1031,ndO gx r.nodes)]) (fun _=>True) (fun K1 hK1=>?_) ?_
 ·rw [hT0] at hK1
  refine AW.seq_k fun K hK=>AW.region (by kernel_rfl) ?_;simp -implicitDefEqProofs only[go_sem,seval,↓reduceIte];refine hK _ ?_;clear hK K;refine AW.condS (by simp -implicitDefEqProofs only[go_sem,seval,↓reduceIte];rfl) (fun h2=>?_) (fun h2=>?_)
  ·have h2:t.dropWhile (· == 48)=[]:=by simpa using h2
   rw [if_pos h2] at hK1;refine AW.region (by kernel_rfl) ?_;simp -implicitDefEqProofs only[go_sem,seval,↓reduceIte];exact hK1 _ () trivial (Weak.st (by simp -implicitDefEqProofs only[go_sem,seval,↓reduceIte]) (by simp -implicitDefEqProofs only[go_sem,seval,↓reduceIte,sets]))
  ·have h2:¬ t.dropWhile (· == 48)=[]:=by simpa using h2
   rw [if_neg h2] at hK1;refine AW.skip ?_;simp -implicitDefEqProofs only[go_sem,seval,↓reduceIte];exact hK1 _ () trivial (Weak.st (by simp -implicitDefEqProofs only[go_sem,seval,↓reduceIte]) (by simp -implicitDefEqProofs only[go_sem,seval,↓reduceIte,sets]))
 intro _ _;generalize trim0 t=s at hl hP ⊢;refine AW.seq_k fun K hK=>AW.region (by kernel_rfl) ?_;simp -implicitDefEqProofs only[go_sem,seval,↓reduceIte];refine CallA.pure hG (by kernel_rfl) ?_;simp -implicitDefEqProofs only[go_sem,seval,↓reduceIte];refine (nParse_spec G hE.toGNum s (by omega)).mono ?_;rintro _ _ rfl;generalize parseR s=q at hP ⊢;obtain ⟨n,e⟩:=q;simp only at hP;simp -implicitDefEqProofs only[go_sem,seval,↓reduceIte,encR];refine hK _ ?_;clear hK K;refine AW.seq_k fun K3 hK3=>?_
 by_cases he:e=0
 ·have e1:(e==0)=true:=by simpa using he
  rw [if_neg (show ¬ e≠0 by simpa using he)] at hP;refine AW.seq_k fun K hK=>AW.region (by kernel_rfl) ?_;simp -implicitDefEqProofs only[go_sem,seval,↓reduceIte,bne,e1];refine hK _ ?_;clear hK K;refine AW.condS (by simp -implicitDefEqProofs only[go_sem,seval,↓reduceIte];rfl) (fun h4=>?_) (fun h4=>?_)
  ·cases h4
  ·refine AW.skip ?_
   simp -implicitDefEqProofs only[go_sem,seval,↓reduceIte];refine hK3 _ ?_;refine AW.seq_k fun K hK=>AW.region (by kernel_rfl) ?_;simp -implicitDefEqProofs only[go_sem,seval,↓reduceIte];rw [← encXN_K ⟨1,n,[],0,0,0⟩];refine RdS.call hG (xLeaf_spec G hG sl g r hi hr 1 n [] 0 0 0) (gx:=gx) (by kernel_rfl) (fun F=>rfl) (by decide) (by first | rfl | (simp -implicitDefEqProofs only[go_sem,seval,↓reduceIte,List.map_cons,List.map_nil,encXN_K];try rfl)) (by first | rfl | (simp -implicitDefEqProofs only[go_sem,seval,↓reduceIte,List.map_cons,List.map_nil];try rfl)) (by first | rfl | (simp -implicitDefEqProofs only[go_sem,seval,↓reduceIte];try rfl)) (by first | rfl | (simp -implicitDefEqProofs only[go_sem,seval,↓reduceIte];try rfl)) fun gx'=>?_;simp -implicitDefEqProofs only[go_sem,seval,↓reduceIte,sets];refine hK _ ?_;clear hK K;refine AW.ret ?_;simp -implicitDefEqProofs only[go_sem,seval,↓reduceIte];refine endK_some ?_;rw [hP];exact ⟨rfl,gx',by simp -implicitDefEqProofs only[go_sem,seval,↓reduceIte],by simp -implicitDefEqProofs only[go_sem,seval,↓reduceIte]⟩
 ·have e1:(e==0)=false:=by simpa using he
  rw [if_pos he] at hP;refine AW.seq_k fun K hK=>AW.region (by kernel_rfl) ?_;simp -implicitDefEqProofs only[go_sem,seval,↓reduceIte,bne,e1];refine hK _ ?_;clear hK K;refine AW.condS (by simp -implicitDefEqProofs only[go_sem,seval,↓reduceIte];rfl) (fun h4=>?_) (fun h4=>?_)
  ·refine AW.seq_k fun K hK=>AW.region (by kernel_rfl) ?_
   simp -implicitDefEqProofs only[go_sem,seval,↓reduceIte,rdO_K];refine hK _ ?_;clear hK K;refine AW.seq_k fun K hK=>AW.region (by kernel_rfl) ?_;simp -implicitDefEqProofs only[go_sem,seval,↓reduceIte];refine hK _ ?_;clear hK K;refine AW.ret ?_;simp -implicitDefEqProofs only[go_sem,seval,↓reduceIte];refine endK_some ?_;rw [hP];exact ⟨rfl,gx,by simp -implicitDefEqProofs only[go_sem,seval,↓reduceIte];rfl,by simp -implicitDefEqProofs only[go_sem,seval,↓reduceIte];rfl⟩
  ·cases h4
end Go.Hs
end
