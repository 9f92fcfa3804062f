/- Part 39 of the proof of a statement of seat YtohdjmgdaaipaaaGreatDoor: HsExprLaw HsHExprOf HsHExpr1 HsHNumRefP HsHRedR HsExprBal HsHRedR2 HsExprTree HsExprGram HsHRedR3 HsHRedR4 HsHExpr2 HsHExpr3 HsHExpr4 HsExprRef HsHExprDep HsHExprDep2 HsHExprDep3 HsHExprDep4 HsExprNm HsExprP HsHExprFr HsHExprPa HsHRedR5 HsActLaw. -/
import Derived.Test.YtohdjmgdaaipaaaGreatDoorPart32
import Derived.Test.YtohdjmgdaaipaaaGreatDoorPart37
import Derived.Test.YtohdjmgdaaipaaaGreatDoorPart38
set_option linter.unusedSimpArgs false
set_option linter.unusedVariables false
section
namespace Go.Hs
open Go
structure XN where
 op:Int
 num:Int
 name:List UInt8
 a:Int
 b:Int
 c:Int
 deriving DecidableEq,Inhabited
structure Sg where
 text:List UInt8
 level:Int
 parts:Int
 deriving DecidableEq,Inhabited
def tabL:List Sg:=[⟨[],0,0⟩,⟨[],10,0⟩,⟨[],10,0⟩,⟨[116,114,117,101],10,0⟩,⟨[102,97,108,115,101],10,0⟩,⟨[45],9,1⟩,⟨[110,111,116],9,1⟩,
 ⟨[42],8,2⟩,⟨[100,105,118],8,2⟩,⟨[109,111,100],8,2⟩,⟨[43],7,2⟩,⟨[45],7,2⟩,⟨[60],6,2⟩,⟨[60,61],6,2⟩,⟨[62],6,2⟩,⟨[62,61],6,2⟩,⟨[61],5,2⟩,⟨[60,62],5,2⟩,
 ⟨[97,110,100],4,2⟩,⟨[111,114],3,2⟩,⟨[120,111,114],2,2⟩,⟨[105,109,112,108,105,101,115],1,2⟩,⟨[105,102],10,3⟩]
def sgIs (t:List UInt8) (p:Int) (s:Sg):Bool:=s.text==t && s.parts==p && !(s.text==[])
def ofI (t:List UInt8) (p:Int):Option Nat:=tabL.findIdx? (sgIs t p)
def ofP (t:List UInt8) (p:Int):Nat × Bool:=match ofI t p with | some i=>(i,true) | none=>(0,false)
def lvl (op:Nat):Int:=(tabL.getD op ⟨[],0,0⟩).level
theorem Z2k {t:List UInt8} {p:Int} {i:Nat} (h:ofI t p=some i):∃ s,tabL[i]? = some s∧s.text=t∧s.parts=p∧t≠[]:=by
 obtain ⟨h1,h2,_⟩:=List.findIdx?_eq_some_iff_getElem.1 h;refine ⟨tabL[i],List.getElem?_eq_getElem h1,?_⟩;unfold sgIs at h2;simp only [Bool.and_eq_true,beq_iff_eq,Bool.not_eq_true',beq_eq_false_iff_ne] at h2;exact ⟨h2.1.1,h2.1.2,by rw [← h2.1.1];exact h2.2⟩
theorem Zj6 {t:List UInt8} {i:Nat} (h:ofI t 1=some i):t=[45]∧i=5∨t=[110,111,116]∧i=6:=by
 obtain ⟨s,h1,h2,h3,_⟩:=Z2k h
 have hi:i<23:=by rw [List.getElem?_eq_some_iff] at h1;exact h1.1
 have key:∀ i,i<23→∀ s,tabL[i]? = some s→s.parts=1→s.text=[45]∧i=5∨s.text=[110,111,116]∧i=6:=by
  intro i hi s h1 h3
  have:∀ i,i<23→(tabL[i]?.map (·.parts))=some 1→(tabL[i]?.map (·.text))=some [45]∧i=5∨(tabL[i]?.map (·.text))=some [110,111,116]∧i=6:=by decide +kernel
  have:=this i hi (by rw [h1];simp [h3]);rw [h1] at this;simpa using this
 rw [← h2];exact key i hi s h1 h3
theorem Zpn {t:List UInt8} {i:Nat} (h:ofI t 0=some i):t=[116,114,117,101]∧i=3∨t=[102,97,108,115,101]∧i=4:=by
 obtain ⟨s,h1,h2,h3,h4⟩:=Z2k h
 have hi:i<23:=by rw [List.getElem?_eq_some_iff] at h1;exact h1.1
 have key:∀ i,i<23→∀ s,tabL[i]? = some s→s.parts=0→s.text≠[]→s.text=[116,114,117,101]∧i=3∨s.text=[102,97,108,115,101]∧i=4:=by
  intro i hi s h1 h3
  have:((List.range 23).all fun i=>match tabL[i]? with | some s => !(s.parts==0) || s.text==[] || (s.text==[116,114,117,101] && i==3) || (s.text==[102,97,108,115,101] && i==4) | none=>true)=true:=by decide +kernel
  have:=List.all_eq_true.1 this i (List.mem_range.2 hi);intro h4;rw [h1] at this;simp only [h3,Bool.or_eq_true,Bool.and_eq_true,beq_iff_eq,h4,or_false] at this;simpa using this
 rw [← h2];exact key i hi s h1 h3 (by rw [h2];exact h4)
theorem Zts {t:List UInt8} {i:Nat} (h:ofI t 2=some i):7≤i∧i≤21∧1≤lvl i∧lvl i≤8∧isP t≠0:=by
 obtain ⟨s,h1,h2,h3,_⟩:=Z2k h
 have hi:i<23:=by rw [List.getElem?_eq_some_iff] at h1;exact h1.1
 have key:∀ i,i<23→(tabL[i]?.map (·.parts))=some 2→7≤i∧i≤21∧1≤lvl i∧lvl i≤8∧(tabL[i]?.map fun s=>isP s.text)≠some 0:=by decide +kernel
 have:=key i hi (by rw [h1];simp [h3]);rw [h1] at this;rw [← h2];simpa using this
def Z3 (l:List Tk) (i:Nat):Tk:=match l[i]? with
 | some t=>if (isP t.text:Int)=t.kind then t else ⟨0,[],0⟩
 | none=>⟨0,[],0⟩
theorem Z8g (l:List Tk) (i:Nat):(isP (Z3 l i).text:Int)=(Z3 l i).kind:=by
 unfold Z3
 split
 ·split
  ·assumption
  ·rfl
 ·rfl
theorem Z5f {l:List Tk} {i:Nat} (h:(Z3 l i).kind≠0):i<l.length:=by
 rw [← Nat.not_le];intro h2;apply h;unfold Z3;rw [List.getElem?_eq_none h2]
structure RS where
 i:Nat
 nodes:List XN
 e:Int
 deriving DecidableEq,Inhabited
def RS.put (r:RS) (n:XN):RS:={ r with nodes:=r.nodes++[n] }
def RS.last (r:RS):Int:=(r.nodes.length:Int)-1
def RS.adv (r:RS):RS:={ r with i:=r.i+1 }
def RS.err (r:RS) (e:Int):RS:={ r with e:=e }
@[simp] theorem Zxe (r:RS) (n:XN):(r.put n).i=r.i:=rfl
@[simp] theorem RS.adv_i (r:RS):r.adv.i=r.i+1:=rfl
@[simp] theorem RS.err_i (r:RS) (e:Int):(r.err e).i=r.i:=rfl
abbrev Inner:=Int→RS→Bool × RS
def andThen (x:Bool × RS) (k:RS→Bool × RS):Bool × RS:=if x.1 then k x.2 else (false,x.2)
theorem Zx (r:RS) (k:RS→Bool × RS):andThen (true,r) k=k r:=rfl
theorem Zqa (r:RS) (k:RS→Bool × RS):andThen (false,r) k=(false,r):=rfl
theorem Zil (x:Bool × RS) (k k':RS→Bool × RS):andThen (andThen x k) k'=andThen x fun r=>andThen (k r) k':=by
 obtain ⟨b,r⟩:=x
 cases b<;>rfl
theorem Ztc {x:Bool × RS} {k k':RS→Bool × RS} (h:x.1=true→k x.2=k' x.2):andThen x k=andThen x k':=by
 obtain ⟨b,r⟩:=x;cases b
 ·rfl
 ·exact h rfl
def Z5e (l:List Tk) (w:List UInt8) (r:RS):Bool × RS:=if (Z3 l r.i).kind=0∨(Z3 l r.i).text≠w then (false,r.err 80) else (true,r.adv)
def Zag (r:RS) (op num:Int) (name:List UInt8):Bool × RS:=(true,r.adv.put ⟨op,num,name,-1,-1,-1⟩)
def Z3c (t:List UInt8):List UInt8:=if t.dropWhile (· == 48)=[] then [48] else t.dropWhile (· == 48)
def Z4c (r:RS) (t:List UInt8):Bool × RS:=if (Zrb (Z3c t)).2≠0 then (false,r.err (Zrb (Z3c t)).2) else Zag r 1 (Zrb (Z3c t)).1 []
def wIf:List UInt8:=[105,102]
def wThen:List UInt8:=[116,104,101,110]
def wElse:List UInt8:=[101,108,115,101]
def wEndif:List UInt8:=[101,110,100,105,102]
def Z6a (l:List Tk) (inner:Inner) (r:RS):Bool × RS :=
 andThen (Z5e l wIf r) fun r1=>andThen (inner 1 r1) fun a=>andThen (Z5e l wThen a) fun r2=>andThen (inner 1 r2) fun b =>
 andThen (Z5e l wElse b) fun r3=>andThen (inner 1 r3) fun c=>andThen (Z5e l wEndif c) fun r4=>(true,r4.put ⟨22,0,[],a.last,b.last,c.last⟩)
def Zya (l:List Tk) (inner:Inner) (r:RS):Bool × RS :=
 if (Z3 l r.i).kind=1 then Z4c r (Z3 l r.i).text
 else if (Z3 l r.i).kind=2 then Zag r 2 0 (Z3 l r.i).text
 else if (Z3 l r.i).kind=0 then (false,r.err 80)
 else if (ofP (Z3 l r.i).text 1).2 then andThen (inner 9 r.adv) fun a=>(true,a.put ⟨(ofP (Z3 l r.i).text 1).1,0,[],a.last,-1,-1⟩)
 else if (Z3 l r.i).text=[40] then andThen (inner 1 r.adv) (Z5e l [41])
 else if (Z3 l r.i).text=wIf then Z6a l inner r
 else if (ofP (Z3 l r.i).text 0).2∧(Z3 l r.i).kind=3 then Zag r (ofP (Z3 l r.i).text 0).1 0 []
 else (false,r.err 80)
def Zoh (l:List Tk) (i:Nat):Option Nat:=if (Z3 l i).kind=0 then none else ofI (Z3 l i).text 2
def Z2b (l:List Tk) (inner:Inner) (n:Int):Nat→RS→Bool × RS
 | 0,r=>(true,r)
 | m+1,r=>match Zoh l r.i with
  | none=>(true,r)
  | some op=>if lvl op<n then (true,r) else andThen (inner (lvl op+1) r.adv) fun a=>Z2b l inner n m (a.put ⟨op,0,[],r.last,a.last,-1⟩)
def Zm (l:List Tk):Nat→Inner
 | 0,_,r=>(false,r)
 | f+1,n,r=>andThen (Zya l (Zm l f) r) (Z2b l (Zm l f) n (l.length+1))
def Zth:List UInt8→List UInt8
 | c::d::r=>if c=48 then Zth (d::r) else c::d::r
 | s=>s
def Zsj (r:RS) (t:List UInt8):Bool × RS:=if (Zrb (Zth t)).2≠0 then (false,r.err 60) else Zag r 1 (Zrb (Zth t)).1 []
def Zdp (l:List Tk) (w:List UInt8) (r:RS):Bool × RS:=if (Z3 l r.i).text≠w then (false,r.err 80) else (true,r.adv)
def Zne (l:List Tk) (inner:Inner) (r:RS):Bool × RS :=
 andThen (inner 1 r.adv) fun a=>andThen (Zdp l wThen a) fun r2=>andThen (inner 1 r2) fun b =>
 andThen (Zdp l wElse b) fun r3=>andThen (inner 1 r3) fun c=>andThen (Zdp l wEndif c) fun r4=>(true,r4.put ⟨22,0,[],a.last,b.last,c.last⟩)
def Zgw (l:List Tk) (inner:Inner) (r:RS):Bool × RS :=
 if (Z3 l r.i).text=[40] then andThen (inner 1 r.adv) (Zdp l [41])
 else if (Z3 l r.i).text=wIf then Zne l inner r
 else if (Z3 l r.i).text=[116,114,117,101] then Zag r 3 0 []
 else if (Z3 l r.i).text=[102,97,108,115,101] then Zag r 4 0 []
 else if (Z3 l r.i).text≠[]∧(Z3 l r.i).kind=1 then Zsj r (Z3 l r.i).text
 else if (Z3 l r.i).text≠[]∧(Z3 l r.i).kind=2 then Zag r 2 0 (Z3 l r.i).text
 else (false,r.err 80)
def unR (l:List Tk) (inner:Inner) (r:RS):Bool × RS :=
 if (Z3 l r.i).text=[45] then andThen (inner 9 r.adv) fun a=>(true,a.put ⟨5,0,[],a.last,-1,-1⟩)
 else if (Z3 l r.i).text=[110,111,116] then andThen (inner 9 r.adv) fun a=>(true,a.put ⟨6,0,[],a.last,-1,-1⟩)
 else Zgw l inner r
def Zny (l:List Tk) (n:Int) (i:Nat):Nat:=match ofI (Z3 l i).text 2 with | some op=>if lvl op=n then op else 0 | none=>0
def Zhg (l:List Tk) (inner:Inner) (n:Int):Nat→RS→Bool × RS
 | 0,r=>(true,r)
 | m+1,r=>if Zny l n r.i=0 then (true,r) else andThen (inner (n+1) r.adv) fun a=>Zhg l inner n m (a.put ⟨Zny l n r.i,0,[],r.last,a.last,-1⟩)
def Zpz (l:List Tk) (inner:Inner):Nat→RS→Bool × RS
 | 0,r=>unR l inner r
 | k+1,r=>andThen (Zpz l inner k r) (Zhg l inner (8-k) (l.length+1))
def Mono (inner:Inner):Prop:=∀ n r,r.i≤(inner n r).2.i
theorem Zqb {x:Bool × RS} {k:RS→Bool × RS} {a:Nat} (h:a≤x.2.i) (hk:∀ r,x.2.i≤r.i→r.i≤(k r).2.i):a≤(andThen x k).2.i:=by
 obtain ⟨b,r⟩:=x;cases b
 ·exact h
 ·exact Nat.le_trans h (hk r (Nat.le_refl _))
theorem Z9h (l:List Tk) (w:List UInt8) (r:RS):r.i≤(Z5e l w r).2.i:=by
 unfold Z5e;split
 ·exact Nat.le_refl _
 ·exact Nat.le_succ _
theorem Zam (r:RS) (op num:Int) (name:List UInt8):r.i≤(Zag r op num name).2.i:=Nat.le_succ _
theorem Znw (r:RS) (t:List UInt8):r.i≤(Z4c r t).2.i:=by
 unfold Z4c;split
 ·exact Nat.le_refl _
 ·exact Zam _ _ _ _
theorem Zjq {l:List Tk} {inner:Inner} (h:Mono inner) (r:RS):r.i≤(Z6a l inner r).2.i:=by
 unfold Z6a;refine Zqb (Z9h _ _ _) fun r1 _=>Zqb (h _ _) fun a _=>Zqb (Z9h _ _ _) fun r2 _=>Zqb (h _ _) fun b _=>Zqb (Z9h _ _ _) fun r3 _=>Zqb (h _ _) fun c _=>Zqb (Z9h _ _ _) fun r4 _=>Nat.le_refl _
theorem Z8z {l:List Tk} {inner:Inner} (h:Mono inner) (r:RS):r.i≤(Zya l inner r).2.i:=by
 have h1:r.i≤r.adv.i:=Nat.le_succ _;unfold Zya
 split
 ·exact Znw _ _
 split
 ·exact Zam _ _ _ _
 split
 ·exact Nat.le_refl _
 split
 ·exact Zqb (Nat.le_trans h1 (h _ _)) fun a _=>Nat.le_refl _
 split
 ·exact Zqb (Nat.le_trans h1 (h _ _)) fun a _=>Z9h _ _ _
 split
 ·exact Zjq h r
 split
 ·exact Zam _ _ _ _
 ·exact Nat.le_refl _
theorem Z8l {l:List Tk} {inner:Inner} (h:Mono inner) (n:Int):∀ (m:Nat) (r:RS),r.i≤(Z2b l inner n m r).2.i
 | 0,r=>Nat.le_refl _
 | m+1,r=>by
  rw [Z2b]
  split
  ·exact Nat.le_refl _
  ·split
   ·exact Nat.le_refl _
   ·exact Zqb (Nat.le_trans (Nat.le_succ _) (h _ r.adv)) fun a _=>Z8l h n m (a.put _)
theorem Zde (l:List Tk):∀ f,Mono (Zm l f)
 | 0=>fun _ _=>Nat.le_refl _
 | f+1=>fun n r=>by
  rw [Zm];exact Zqb (Z8z (Zde l f) r) fun a _=>Z8l (Zde l f) n _ a
def Zm8 (l:List Tk) (n:Int) (i:Nat):Prop:=∀ op,Zoh l i=some op→lvl op<n
theorem Z9f {l:List Tk} {i op:Nat} (h:Zoh l i=some op):i<l.length:=by
 unfold Zoh at h
 split at h
 ·cases h
 ·exact Z5f (by assumption)
theorem Zbr {l:List Tk} {inner:Inner} (h:Mono inner) (n:Int):∀ (m:Nat) (r:RS),l.length<m+r.i→(Z2b l inner n m r).1=true→Zm8 l n (Z2b l inner n m r).2.i
 | 0,r,hm,_=>fun op ho=>by have h2:r.i<l.length:=Z9f ho;omega
 | m+1,r,hm,hb=>by
  rw [Z2b] at hb ⊢
  cases ho:Zoh l r.i with
  | none =>
   intro op h2;have h2:Zoh l r.i=some op:=h2;rw [ho] at h2;cases h2
  | some op =>
   rw [ho] at hb;simp only at hb ⊢
   by_cases hl:lvl op<n
   ·rw [if_pos hl] at hb ⊢
    intro op' h2;have h2:Zoh l r.i=some op':=h2;rw [ho] at h2;cases h2;exact hl
   ·rw [if_neg hl] at hb ⊢
    have h3:=h (lvl op+1) r.adv;generalize inner (lvl op+1) r.adv=x at hb h3 ⊢;obtain ⟨b,a⟩:=x;cases b
    ·cases hb
    ·exact Zbr h n m _ (by have:r.i+1≤a.i:=h3;simp only [Zxe];omega) hb
theorem Z5j {l:List Tk} {f:Nat} {n:Int} {r:RS} (hb:(Zm l f n r).1=true):Zm8 l n (Zm l f n r).2.i:=by
 cases f with
 | zero=>cases hb
 | succ f =>
  rw [Zm] at hb ⊢;generalize Zya l (Zm l f) r=x at hb ⊢;obtain ⟨b,a⟩:=x;cases b
  ·cases hb
  ·exact Zbr (Zde l f) n _ a (by omega) hb
theorem Z5i {l:List Tk} {i:Nat}:Zoh l i=ofI (Z3 l i).text 2:=by
 unfold Zoh
 split
 ·rename_i h
  cases ho:ofI (Z3 l i).text 2 with
  | none=>rfl
  | some op =>
   have h1:=(Zts ho).2.2.2.2;have h2:=Z8g l i;rw [h] at h2;omega
 ·rfl
theorem Z3n {l:List Tk} {n:Int} {i:Nat} (h:Zoh l i=none):Zny l n i=0:=by
 unfold Zny;rw [← Z5i,h]
theorem Znv {l:List Tk} {n:Int} {i op:Nat} (h:Zoh l i=some op):Zny l n i=if lvl op=n then op else 0:=by
 unfold Zny;rw [← Z5i,h]
theorem Z5q {l:List Tk} {i op:Nat} (h:Zoh l i=some op):7≤op∧op≤21∧1≤lvl op∧lvl op≤8:=by
 rw [Z5i] at h;obtain ⟨h1,h2,h3,h4,_⟩:=Zts h;exact ⟨h1,h2,h3,h4⟩
theorem Zuq {l:List Tk} {inner:Inner} (h:Mono inner) (n:Int):∀ (m m':Nat) (r:RS),l.length<m+r.i→l.length<m'+r.i→Zhg l inner n m r=Zhg l inner n m' r
 | 0,m',r,h1,_=>by
  cases m' with
  | zero=>rfl
  | succ m' =>
   rw [Zhg,Zhg,if_pos];apply Z3n
   cases ho:Zoh l r.i with
   | none=>rfl
   | some op=>have:=Z9f ho;omega
 | m+1,0,r,_,h2=>by
  rw [Zhg,Zhg,if_pos];apply Z3n
  cases ho:Zoh l r.i with
  | none=>rfl
  | some op=>have:=Z9f ho;omega
 | m+1,m'+1,r,h1,h2=>by
  rw [Zhg,Zhg]
  split
  ·rfl
  ·refine Ztc fun _=>?_
   have h3:r.i+1≤_:=h (n+1) r.adv;exact Zuq h n m m' _ (by simp only [Zxe];omega) (by simp only [Zxe];omega)
theorem Z7l {l:List Tk} {inner:Inner} (h:Mono inner) (n:Int) (he:∀ r,(inner (n+1) r).1=true→Zm8 l (n+1) (inner (n+1) r).2.i) :
  ∀ (m:Nat) (r:RS),l.length<m+r.i→Z2b l inner n m r=andThen (Z2b l inner (n+1) m r) (Zhg l inner n m)
 | 0,r,hm=>rfl
 | m+1,r,hm=>by
  rw [Z2b,Z2b]
  cases ho:Zoh l r.i with
  | none =>
   simp only;rw [Zx,Zhg,if_pos (Z3n ho)]
  | some op =>
   have hop:=Z5q ho;simp only
   by_cases h1:lvl op<n
   ·rw [if_pos h1,if_pos (by omega),Zx,Zhg,if_pos (by rw [Znv ho,if_neg (by omega)])]
   ·rw [if_neg h1]
    by_cases h2:lvl op<n+1
    ·have h3:lvl op=n:=by omega
     have h4:Zny l n r.i=op:=by rw [Znv ho,if_pos h3]
     rw [if_pos h2,Zx,Zhg,h4,if_neg (by omega),h3];refine Ztc fun hb=>?_;have h5:=he r.adv hb;have h6:r.i+1≤_:=h (n+1) r.adv;generalize inner (n+1) r.adv=x at hb h5 h6 ⊢;obtain ⟨b,a⟩:=x;rw [Z7l h n he m _ (by simp only [Zxe];simp only at h6;omega)]
     have h7:Z2b l inner (n+1) m (a.put ⟨op,0,[],r.last,a.last,-1⟩)=(true,a.put ⟨op,0,[],r.last,a.last,-1⟩):=by
      cases m with
      | zero=>rfl
      | succ m =>
       rw [Z2b]
       cases ho2:Zoh l (a.put ⟨op,0,[],r.last,a.last,-1⟩).i with
       | none=>rfl
       | some op2=>simp only;rw [if_pos (h5 op2 ho2)]
     rw [h7,Zx]
    ·rw [if_neg h2,Zil]
     refine Ztc fun hb=>?_;have h6:r.i+1≤_:=h (lvl op+1) r.adv;generalize inner (lvl op+1) r.adv=x at hb h6 ⊢;obtain ⟨b,a⟩:=x;simp only at h6;rw [Z7l h n he m _ (by simp only [Zxe];omega)];refine Ztc fun _=>?_;have h8:a.i≤_:=Z8l (l:=l) h (n+1) m (a.put ⟨op,0,[],r.last,a.last,-1⟩)
     show Zhg l inner n m (Z2b l inner (n+1) m (a.put ⟨op,0,[],r.last,a.last,-1⟩)).2=_
     exact Zuq h n _ _ _ (by omega) (by omega)
theorem Z70:∀ {t:List UInt8},t≠[]→Zth t=Z3c t
 | [],h=>absurd rfl h
 | [c],_=>by
  unfold Z3c
  by_cases h:c=48
  ·subst h;rfl
  ·have:(c==48)=false:=by simpa using h
   simp [Zth,List.dropWhile,this]
 | c::d::r,_=>by
  rw [Zth]
  by_cases h:c=48
  ·subst h
   rw [if_pos rfl,Z70 (t:=d::r) (by simp)];unfold Z3c;rw [show (48::d::r:List UInt8).dropWhile (· == 48)=(d::r).dropWhile (· == 48) from rfl]
  ·have:(c==48)=false:=by simpa using h
   rw [if_neg h];unfold Z3c;simp [List.dropWhile,this]
theorem Z96 {t:List UInt8} (h:isP t=1):t≠[]∧t.all Zja=true:=by
 rw [Z6k] at h
 split at h
 ·cases h
 ·match t with
  | []=>cases h
  | c::r =>
   refine ⟨by simp,?_⟩
   rcases Zjl c with hc | ⟨_,hc⟩ | ⟨hc,_⟩
   ·rw [Zik hc] at h
    split at h
    ·assumption
    ·cases h
   ·rw [Zfn hc] at h
    split at h
    ·split at h<;>cases h
    ·cases h
   ·rw [Zzg hc] at h
    split at h<;>cases h
theorem Zhw {t:List UInt8} (h:t.all Zja=true):(Zrb (Z3c t)).2=0∨(Zrb (Z3c t)).2=60:=by
 have h1:(Z3c t).all Zja=true∧Z3c t≠[]∧((Z3c t).head? = some 48→(Z3c t).length=1):=by
  unfold Z3c
  split
  ·exact ⟨by decide,by simp,fun _=>rfl⟩
  ·rename_i hn
   refine ⟨?_,hn,fun h2=>?_⟩
   ·rw [List.all_eq_true] at h ⊢
    exact fun x hx=>h x ((List.dropWhile_sublist _).mem hx)
   ·have:=List.head?_dropWhile_not (· == (48:UInt8)) t
    rw [h2] at this;simp at this
 obtain ⟨h1,h2,h3⟩:=h1;generalize Z3c t=s at h1 h2 h3
 have hh:¬ (s.head? == some 45)=true:=by
  cases s with
  | nil=>exact absurd rfl h2
  | cons c r =>
   intro hc
   have hc:c=45:=by simpa using hc
   subst hc;rw [List.all_cons] at h1
   revert h1
   simp [Zja]
 have hh':(s.head? == some 45)=false:=by simpa using hh
 unfold Zrb;rw [hh'];simp only [Bool.false_eq_true,if_false,or_false];rw [if_neg]
 ·generalize ((val (s.reverse.map Zeh):Nat):Int)=x
  unfold Zdv
  split
  ·exact .inl rfl
  ·exact .inr rfl
 ·rintro (h | ⟨h,h'⟩ | h)
  ·exact h2 h
  ·have:=h3 h;omega
  ·rw [h1] at h;cases h
theorem Zk6 (r:RS) {t:List UInt8} (h:isP t=1):Zsj r t=Z4c r t:=by
 obtain ⟨h1,h2⟩:=Z96 h;unfold Zsj Z4c;rw [Z70 h1]
 rcases Zhw h2 with h3 | h3
 ·simp only [h3];rfl
 ·simp only [h3]
theorem Z4w (l:List Tk) {w:List UInt8} (hw:isP w≠0) (r:RS):Zdp l w r=Z5e l w r:=by
 unfold Zdp Z5e
 by_cases h:(Z3 l r.i).text=w
 ·have:=Z8g l r.i
  rw [h] at this;rw [if_neg (by simpa using h),if_neg];rintro (h2 | h2)
  ·omega
  ·exact h2 h
 ·rw [if_pos h,if_pos (.inr h)]
theorem eatP_if {l:List Tk} {r:RS} (h:(Z3 l r.i).text=wIf):Z5e l wIf r=(true,r.adv):=by
 have h1:=Z8g l r.i;rw [h] at h1
 have h2:isP wIf=3:=by decide
 unfold Z5e;rw [if_neg];rintro (h3 | h3)
 ·omega
 ·exact h3 h
theorem Z38 (l:List Tk) (inner:Inner) (r:RS):unR l inner r=Zya l inner r:=by
 have hk:=Z8g l r.i;have e41:=Z4w l (w:=[41]) (by decide);have eT:=Z4w l (w:=wThen) (by decide);have eE:=Z4w l (w:=wElse) (by decide);have eN:=Z4w l (w:=wEndif) (by decide)
 have hbr:(Z3 l r.i).text=wIf→Zne l inner r=Z6a l inner r:=fun h=>by
  unfold Zne Z6a;rw [eatP_if h,Zx];simp only [eT,eE,eN]
 have hpr:andThen (inner 1 r.adv) (Zdp l [41])=andThen (inner 1 r.adv) (Z5e l [41]):=Ztc fun _=>e41 _;unfold unR Zgw Zya;rw [hpr];generalize Z3 l r.i=t at hk hbr ⊢;obtain ⟨k,t,p⟩:=t;simp only at hk hbr ⊢
 by_cases c1:t=[45]
 ·subst c1
  have:k=4:=by rw [← hk];decide
  subst this;rfl
 rw [if_neg c1]
 by_cases c2:t=[110,111,116]
 ·subst c2
  have:k=3:=by rw [← hk];decide
  subst this;rfl
 rw [if_neg c2]
 by_cases c3:t=[40]
 ·subst c3
  have:k=4:=by rw [← hk];decide
  subst this;rfl
 rw [if_neg c3]
 by_cases c4:t=wIf
 ·subst c4
  have:k=3:=by rw [← hk];decide
  subst this;rw [if_pos rfl,hbr rfl];rfl
 rw [if_neg c4]
 by_cases c5:t=[116,114,117,101]
 ·subst c5
  have:k=3:=by rw [← hk];decide
  subst this;rfl
 rw [if_neg c5]
 by_cases c6:t=[102,97,108,115,101]
 ·subst c6
  have:k=3:=by rw [← hk];decide
  subst this;rfl
 rw [if_neg c6]
 have hne:k=1∨k=2→t≠[]:=by
  rintro h rfl;have:isP []=0:=rfl;omega
 by_cases k1:k=1
 ·rw [if_pos ⟨hne (.inl k1),k1⟩,if_pos k1]
  exact Zk6 r (by omega)
 rw [if_neg (fun h=>k1 h.2),if_neg k1]
 by_cases k2:k=2
 ·rw [if_pos ⟨hne (.inr k2),k2⟩,if_pos k2]
 rw [if_neg (fun h=>k2 h.2),if_neg k2]
 by_cases k0:k=0
 ·rw [if_pos k0]
 have o1:(ofP t 1).2=false:=by
  unfold ofP
  cases ho:ofI t 1 with
  | none=>rfl
  | some i =>
   rcases Zj6 ho with ⟨h,_⟩ | ⟨h,_⟩
   ·exact absurd h c1
   ·exact absurd h c2
 have o0:(ofP t 0).2=false:=by
  unfold ofP
  cases ho:ofI t 0 with
  | none=>rfl
  | some i =>
   rcases Zpn ho with ⟨h,_⟩ | ⟨h,_⟩
   ·exact absurd h c5
   ·exact absurd h c6
 rw [if_neg k0,o1,if_neg (by simp),if_neg c3,if_neg c4,o0,if_neg (by simp)]
theorem loop9 (l:List Tk) (inner:Inner) (m:Nat) (r:RS):Z2b l inner 9 m r=(true,r):=by
 cases m with
 | zero=>rfl
 | succ m =>
  rw [Z2b]
  cases ho:Zoh l r.i with
  | none=>rfl
  | some op=>simp only;rw [if_pos (by have:=Z5q ho;omega)]
theorem Z9l {l:List Tk} {inner:Inner} (h:Mono inner) (he:∀ n r,(inner n r).1=true→Zm8 l n (inner n r).2.i) :
  ∀ (k:Nat) (r:RS),Zpz l inner k r=andThen (Zya l inner r) (Z2b l inner (9-k) (l.length+1))
 | 0,r=>by
  rw [Zpz,Z38]
  have:∀ x:Bool × RS,x=andThen x (Z2b l inner (9-(0:Nat)) (l.length+1)):=by
   rintro ⟨b,a⟩;cases b
   ·rfl
   ·exact (loop9 l inner _ a).symm
  exact this _
 | k+1,r=>by
  rw [Zpz,Z9l h he k r,Zil];refine Ztc fun _=>?_;have hs:=Z7l (l:=l) h (8-k) (he _) (l.length+1) (Zya l inner r).2 (by omega)
  have e1:(9:Int)-(k:Nat)=8-k+1:=by omega
  have e2:(9:Int)-((k+1:Nat))=8-k:=by omega
  rw [e1,e2,hs]
end Go.Hs
end

section
namespace Go.Hs
open Go.Proofs
set_option maxRecDepth 100000
def Z2j (s:Sg):V := .agg [.str s.text,.int .i64 s.level,.int .i64 s.parts]
theorem Z8h (s:Sg):Z2j s = .agg [.str s.text,.int .i64 s.level,.int .i64 s.parts]:=rfl
theorem Zap (s:Sg):(Z2j s).cells.length=3:=rfl
def tabC:List V:=flat (tabL.map Z2j)
theorem Znk (op:Nat) (h:op<23) (k:Nat) (hk:k<3):tabC[op * 3+k]? = ((Z2j (tabL.getD op ⟨[],0,0⟩)).cells)[k]? := by
 match k,hk with
 | 0,_=>exact match op,h with
  | 0,_=>rfl
  | 1,_=>rfl
  | 2,_=>rfl
  | 3,_=>rfl
  | 4,_=>rfl
  | 5,_=>rfl
  | 6,_=>rfl
  | 7,_=>rfl
  | 8,_=>rfl
  | 9,_=>rfl
  | 10,_=>rfl
  | 11,_=>rfl
  | 12,_=>rfl
  | 13,_=>rfl
  | 14,_=>rfl
  | 15,_=>rfl
  | 16,_=>rfl
  | 17,_=>rfl
  | 18,_=>rfl
  | 19,_=>rfl
  | 20,_=>rfl
  | 21,_=>rfl
  | 22,_=>rfl
  | n+23,h=>absurd h (by omega)
 | 1,_=>exact match op,h with
  | 0,_=>rfl
  | 1,_=>rfl
  | 2,_=>rfl
  | 3,_=>rfl
  | 4,_=>rfl
  | 5,_=>rfl
  | 6,_=>rfl
  | 7,_=>rfl
  | 8,_=>rfl
  | 9,_=>rfl
  | 10,_=>rfl
  | 11,_=>rfl
  | 12,_=>rfl
  | 13,_=>rfl
  | 14,_=>rfl
  | 15,_=>rfl
  | 16,_=>rfl
  | 17,_=>rfl
  | 18,_=>rfl
  | 19,_=>rfl
  | 20,_=>rfl
  | 21,_=>rfl
  | 22,_=>rfl
  | n+23,h=>absurd h (by omega)
 | 2,_=>exact match op,h with
  | 0,_=>rfl
  | 1,_=>rfl
  | 2,_=>rfl
  | 3,_=>rfl
  | 4,_=>rfl
  | 5,_=>rfl
  | 6,_=>rfl
  | 7,_=>rfl
  | 8,_=>rfl
  | 9,_=>rfl
  | 10,_=>rfl
  | 11,_=>rfl
  | 12,_=>rfl
  | 13,_=>rfl
  | 14,_=>rfl
  | 15,_=>rfl
  | 16,_=>rfl
  | 17,_=>rfl
  | 18,_=>rfl
  | 19,_=>rfl
  | 20,_=>rfl
  | 21,_=>rfl
  | 22,_=>rfl
  | n+23,h=>absurd h (by omega)
theorem Ze9 (op:Nat) (h:op<23):tabC[op * 3+1]? = some (.int .i64 (lvl op)):=by rw [Znk op h 1 (by decide)]<;>rfl
theorem Zin:tabC.length=69:=rfl
theorem Zds (f:Col→Col):(V.agg tabC).recol f = .agg tabC:=by
 have:Z4a f tabC=tabC:=by
  rw [Zv]
  have:∀ v∈tabC,v.recol f=v:=by
   intro v hv;unfold tabC flat at hv;rw [List.mem_flatMap] at hv;obtain ⟨a,ha,hv⟩:=hv;obtain ⟨s,_,rfl⟩:=List.mem_map.1 ha;simp only [Z8h,V.cells,List.mem_cons,List.not_mem_nil,or_false] at hv
   rcases hv with rfl | rfl | rfl<;>rfl
  exact (List.map_congr_left this).trans (List.map_id _)
 rw [V.recol,this]
theorem Zis:∀ (c l:List V) (off:Nat),off+c.length≤l.length→Hs.setAt l off c=l.take off++c++l.drop (off+c.length)
 | [],l,off,_=>by simp [Hs.setAt]
 | v::r,l,off,h=>by
  simp only [List.length_cons] at h;rw [Hs.setAt,Zis r (l.set off v) (off+1) (by rw [List.length_set];omega)]
  have h1:(l.set off v).take (off+1)=l.take off++[v]:=by
   rw [List.take_add_one,List.getElem?_set_self (by omega),List.take_set_of_le (Nat.le_refl _)]<;>rfl
  have h2:(l.set off v).drop (off+1+r.length)=l.drop (off+(r.length+1)):=by
   rw [List.drop_set_of_lt (by omega)]
   congr 1;omega
  rw [h1,h2];simp
theorem Zzv {l c:List V} (h:c.length=l.length):Hs.setAt l 0 c=c:=by
 rw [Zis c l 0 (by omega),h];simp
theorem Zbo (l:List V) (h:l.length=69):Hs.setAt l 0 tabC=tabC:=Zzv (by rw [h]<;>rfl)
theorem Zxg (G:Nat→V) (hG:GOk G):Spec Tryz.prog G 159 [] Zl (fun v _=>v = .agg tabC):=by
 refine Zo 0 24 [.cell 0 225] Tryz.func159 fun X=>?_;refine Z1 ?_;intro g0;exact Zr
structure FnG (G:Nat→V) (f:FuncId) (cap:List V) (p:Sg→Bool):Prop where
 en:Zka Tryz.prog f=true
 rc:cap.map (V.recol Col.ent)=cap
 sp:∀ s:Sg,Spec Tryz.prog G f (Z2j s::cap) Zl (fun v _=>v = .bool (p s))
theorem Zq1 (f:Col→Col) (s:Sg):(Z2j s).recol f=Z2j s:=by simp only [Z8h,Zme,List.map_cons,List.map_nil,Zxd,Zlg]
theorem Zbn (G:Nat→V) (hG:GOk G) (c:Col) (s:Sl Sg) (hs:s.l.length<1000000) {f:FuncId} {cap:List V} {p:Sg→Bool} (hf:FnG G f cap p) :
  Spec Tryz.prog G 282 [Zd c 3 Z2j s,.func (.func f) [] cap] Zl (fun v _=>v = .int .i64 (Z34 p s.l)):=by
 refine Zo 0 19 [.tmp 4] Tryz.func282 fun X=>?_;refine Z1 ?_;refine Z1 ?_;refine AW.block ?_
 refine Zua s.l.length (fun k (_:Unit)=>st [(0,Zd c 3 Z2j s),(1,.func (.func f) [] cap),(7,.int .i64 s.l.length),(8,.int .i64 k)] []) (fun k _=>∀ y∈s.l.take k,p y=false) 0 () (Nat.zero_le _) (by simp)
  (Zb zp zp) ?_
 intro k _ hk hR L2 hL2;refine Z1 ?_;refine Zy ?_;refine Za rfl (fun h4=>?_) (fun h4=>?_)
 ·have hk1:k<s.l.length:=by simpa using h4
  have hg:=List.getElem?_eq_getElem hk1;generalize s.l[k]=x at hg;refine Z1 ?_;refine Z1f (zi hg @Z8h) ?_;refine CallA.pure hG hf.en ?_;simp only [List.map_cons,hf.rc,← Z8h,Zq1];refine (hf.sp x).mono ?_;rintro _ _ rfl;refine Zs ?_;refine Za rfl (fun h6=>?_) (fun h6=>?_)
  ·refine Z ?_
   rw [Z6o hg hR h6]
  ·refine Z1 ?_
   refine hL2 _ ⟨hk1,(),Zcs hg hR h6,Zb zw zp⟩
 ·have hk1:k=s.l.length:=by simp at h4;omega
  refine Z ?_;rw [hk1,List.take_length] at hR;rw [Z7o hR]
theorem Z54 (G:Nat→V) (hG:GOk G) (t:List UInt8) (p:Int) (s:Sg):Spec Tryz.prog G 283 [Z2j s,.view .old (.str t),.view .old (.int .i64 p)] Zl (fun v _=>v = .bool (sgIs t p s)):=by
 refine Zo 0 20 [.tmp 4] Tryz.func283 fun X=>?_;simp only [Z8h];refine Zh fun K hK=>AW.region (by kernel_rfl) ?_;refine Zs ?_;intro g3;refine hK _ ?_
 try clear hK K
 unfold sgIs
 cases h1:(s.text==t)<;>cases h2:(s.parts==p)<;>cases h3:(s.text==[])<;>((refine Zh fun K hK=>AW.region (by kernel_rfl) ?_;simp -implicitDefEqProofs only[go_sem,seval,↓reduceIte,bne,h1,h2,h3];refine hK _ ?_;clear hK K);(refine AW.ret ?_;simp -implicitDefEqProofs only[go_sem,seval,↓reduceIte];refine Zia ?_);rfl)
theorem fOf1 {G:Nat→V} (hG:GOk G) (t:List UInt8) (p:Int):FnG G 283 [.view .old (.str t),.view .old (.int .i64 p)] (sgIs t p):=⟨by kernel_rfl,rfl,Z54 G hG t p⟩
theorem Zqaa (t:List UInt8) (p:Int):Z34 (sgIs t p) tabL=match ofI t p with | some i=>(i:Int) | none => -1:=rfl
def encOf (o:Nat × Bool):V := .tuple [.int .u8 o.1,.bool o.2]
theorem Ztba {t:List UInt8} {p:Int} {i:Nat} (h:ofI t p=some i):i<23:=(List.findIdx?_eq_some_iff_getElem.1 h).1
theorem Z0r (G:Nat→V) (hG:GOk G) (t:List UInt8) (p:Int):Spec Tryz.prog G 267 [.str t,.int .i64 p] Zl (fun v _=>v=encOf (ofP t p)):=by
 refine Zo 0 17 [.tmp 4,.tmp 5] Tryz.func267 fun X=>?_;refine Z1 ?_;intro g2 g3;refine Z1 ?_;refine Zn hG ?_ (s:=(Zxg G hG));refine Zsf (zi @Zds (zi @Zin @Nat.le_refl)) ?_;intro g6;rw [Zbo _ ?hl]
 case hl=>rfl
 refine Zy <| Zuf 0 (by kernel_rfl) rfl rfl ?_
 simp -implicitDefEqProofs only[go_sem,seval,↓reduceIte,List.take_zero];refine ⟨_,Zpq Tryz.underlying225 (by kernel_rfl) (ob:=6) (g:=g6) (m:=3) (c := .new) (fz:=0) (cs:=tabC) zp zp (by decide),?_⟩;refine Z8c hG [Zd .old 3 Z2j (.mk false tabL),.func (.func 283) [] [.view .old (.str t),.view .old (.int .i64 p)]] (by kernel_rfl) ⟨?_,Zy2 ⟨?_,?_,trivial⟩,trivial⟩ ?_
 ·exact Rd.msl (off:=0) (n:=23) (l:=tabL) (f:=Z2j) (f':=Z2j) (g:=g6) (fz:=0) (c := .new) zp Zap (fun x y hy=>by
   simp only [Z8h,V.cells,List.mem_cons,List.not_mem_nil,or_false] at hy
   rcases hy with rfl | rfl | rfl
   ·exact .str _
   ·exact .int _ _
   ·exact .int _ _) (Zq1 _) (by decide)
 ·exact Rd.ptr (v := .str t) (c := .new) (fz:=0) zp (by intro y hy;simp [V.cells] at hy;subst hy;exact .str _) zp
 ·exact Rd.ptr (v := .int .i64 p) (c := .new) (fz:=0) zp (by intro y hy;simp [V.cells] at hy;subst hy;exact .int _ _) zp
 refine (Zbn G hG _ (.mk false tabL) (by decide) (fOf1 hG t p)).mono ?_;rintro _ _ rfl;refine ⟨.int _ _,?_⟩;refine Zs ?_;have hI:=Zqaa t p;unfold ofP
 show AW _ _ _ _ { τ := upd _ 7 (.int .i64 (Z34 (sgIs t p) tabL)),H:=_ }
 rw [hI]
 cases ho:ofI t p with
 | none =>
  exact Zr
 | some i =>
  have hi:=Ztba ho;refine AW.weak (Zb (l:=[(7,.int .i64 i)]) (m:=[]) zp zp) ?_
  have h0:((0:Int) > (i:Int))=False:=by rw [eq_iff_iff,iff_false];omega
  have hw:IntKind.u8.wrap (i:Int)=i:=by
   unfold IntKind.wrap;simp [IntKind.signed,IntKind.bits];omega
  have h1:decide ((i:Int)≥0)=true:=zT;exact Zq (zi h0 (zi hw h1))
end Go.Hs
end

section
namespace Go.Hs
open Go.Proofs
set_option maxRecDepth 10000
def Zca (n:XN):V := .agg [.int .u8 n.op,.int .i64 n.num,.str n.name,.int .i64 n.a,.int .i64 n.b,.int .i64 n.c]
theorem Zt (n:XN):Zca n = .agg [.int .u8 n.op,.int .i64 n.num,.str n.name,.int .i64 n.a,.int .i64 n.b,.int .i64 n.c]:=rfl
theorem Z5c (n:XN):(Zca n).cells.length=6:=rfl
theorem Zxb (t:Tk):Z8a t = .agg [.int .u8 t.kind,.str t.text,.int .i64 t.pos]:=rfl
theorem Zti (f:Col→Col) (n:XN):(Zca n).recol f=Zca n:=by simp only [Zt,Zme,List.map_cons,List.map_nil,Zxd,Zlg]
theorem Zu9 (f:Col→Col) (t:Tk):(Z8a t).recol f=Z8a t:=by simp only [Zxb,Zme,List.map_cons,List.map_nil,Zxd,Zlg]
@[go_sem] theorem Z2a (g:Col→Col) (c:Col) (s:Sl Tk):(Zd c 3 Z8a s).recol g=Zd (g c) 3 Z8a s:=Z1b g c 3 (Zu9 g) s
@[go_sem] theorem Z4 (g:Col→Col) (c:Col) (s:Sl XN):(Zd c 6 Zca s).recol g=Zd (g c) 6 Zca s:=Z1b g c 6 (Zti g) s
def rdO (NO:Nat) (tl:List V) (sl:Sl Tk) (g gx:Nat) (r:RS):AObj := .cells .any g 0 (Zd .any 3 Z8a sl :: .int .i64 r.i::grown NO gx 6 r.nodes :: .int .i64 r.e::tl)
def ndO (gx:Nat) (ns:List XN):AObj:=grownC .any gx Zca ns
theorem Zra (NO:Nat) (tl:List V) (sl:Sl Tk) (g gx:Nat) (r:RS):rdO NO tl sl g gx r = .cells .any g 0 (Zd .any 3 Z8a sl :: .int .i64 r.i::grown NO gx 6 r.nodes :: .int .i64 r.e::tl):=rfl
def RdS (NO:Nat) (tl:List V) (G:Nat→V) (f:FuncId) (args:List V) (sl:Sl Tk) (g:Nat) (r:RS) (v:V) (r':RS):Prop :=
 ∀ gx,Spec Tryz.prog G f (.ptr 8 g 0::args) (Zub Zl [(8,rdO NO tl sl g gx r),(NO,ndO gx r.nodes)]) (fun v0 H'=>v0=v∧∃ gx',H' 8=rdO NO tl sl g gx' r'∧H' NO=ndO gx' r'.nodes)
theorem RdS.call {NO:Nat} {tl:List V} {G:Nat→V} (hG:GOk G) {f:FuncId} {args args':List V} {sl:Sl Tk} {g gx:Nat} {r r':RS} {v:V} (h:RdS NO tl G f args' sl g r v r') {H:Heap} {K:V→Heap→Prop}
  (hen:Zka Tryz.prog f=true) (htl:∀ F:Col→Col,tl.map (V.recol F)=tl) (hne:8≠NO) (hargs:args.map (V.recol Col.ent)=args') (hv:v.recol Col.bk=v)
  (h8:H 8=rdO NO tl sl g gx r) (hN:H NO=ndO gx r.nodes)
  (hk:∀ gx',K v (Zub H [(8,rdO NO tl sl g gx' r'),(NO,ndO gx' r'.nodes)])) :
  CallA Tryz.prog G f (.ptr 8 g 0::args) H K:=by
 have e8:∀ (F:Col→Col) gx r,F .any = .any→(rdO NO tl sl g gx r).recol F=rdO NO tl sl g gx r:=by
  intro F gx r hF;simp only [Zra,recol_cells,List.map_cons,Zff,Z2a,Zxd,hF,htl]
 have eN:∀ (F:Col→Col) gx ns,F .any = .any→(ndO gx ns).recol F=ndO gx ns:=by
  intro F gx ns hF;rw [ndO,Zww F .any gx Zca Zca (Zti F),hF]
 refine Zzr hG [(8,rdO NO tl sl g gx r),(NO,ndO gx r.nodes)] hen ?_ ?_
 ·intro p hp
  simp only [List.mem_cons,List.not_mem_nil,or_false] at hp
  rcases hp with rfl | rfl
  ·rw [h8,e8 _ _ _ rfl]
  ·rw [hN,eN _ _ _ rfl]
 ·have ha:(V.ptr 8 g 0::args).map (V.recol Col.ent) = .ptr 8 g 0::args':=by rw [List.map_cons,Zuk,hargs]
  rw [ha];refine (h gx).mono ?_;rintro _ H' ⟨rfl,gx',q8,qN⟩;simp only [List.map_cons,List.map_nil,q8,qN,e8 _ _ _ Z87,eN _ _ _ Z87,hv];exact hk gx'
theorem Z8 {NO:Nat} {tl:List V} {G:Nat→V} (hG:GOk G) {f:FuncId} {args args':List V} {sl:Sl Tk} {g gx:Nat} {r r':RS} {v:V} (h:RdS NO tl G f args' sl g r v r') {H:Heap} {K:V→Heap→Prop}
  (hk:∀ gx',K v (Zub H [(8,rdO NO tl sl g gx' r'),(NO,ndO gx' r'.nodes)])) (hen:Zka Tryz.prog f=true:=by kernel_rfl) (htl:∀ F:Col→Col,tl.map (V.recol F)=tl:=by exact fun F=>rfl) (hne:8≠NO:=by decide)
  (hargs:args.map (V.recol Col.ent)=args':=by exact zx) (hv:v.recol Col.bk=v:=by exact zm) (h8:H 8=rdO NO tl sl g gx r:=by exact zr) (hN:H NO=ndO gx r.nodes:=by exact zr) :
  CallA Tryz.prog G f (.ptr 8 g 0::args) H K:=RdS.call hG h hen htl hne hargs hv h8 hN hk
structure TkOk (l:List Tk):Prop where
 len:l.length<100000
 text:∀ t∈l,t.text.length<100000
theorem Z8q {l:List Tk} {i:Nat} {t:Tk} (h:l[i]? = some t):Z3 l i=if (isP t.text:Int)=t.kind then t else ⟨0,[],0⟩:=by unfold Z3;rw [h]
theorem Z6l {l:List Tk} {i:Nat} (h:l.length≤i):Z3 l i=⟨0,[],0⟩:=by unfold Z3;rw [List.getElem?_eq_none h]
theorem Zql (G:Nat→V) (hE:GExp G) (sl:Sl Tk) (hT:TkOk sl.l) (g:Nat) (r:RS) (hr:r.i<1000000):RdS 1031 [.func (.func 256) [] []] G 266 [] sl g r (Z8a (Z3 sl.l r.i)) r:=by
 have hG:=hE.ok;intro gx;refine Zo 1000 50 [.cell 2 109] Tryz.func266 fun X=>?_;simp only [Zub,Zra];refine Z1 ?_;intro g2;refine Zy ?_
 by_cases hi:r.i<sl.l.length
 ·have h1:decide ((r.i:Int)<sl.l.length)=true:=zT
  have hg:=List.getElem?_eq_getElem hi;have hm:=hT.text _ (List.getElem_mem hi);generalize sl.l[r.i]=t at hg hm;have hP:=Z8q hg
  have p1:Zni Tryz.prog G 101 [.str t.text] (.int .u8 (isP t.text)):=⟨by kernel_rfl,by
   refine Zs ?_;refine (Zrn G hE t.text (by omega)).mono ?_;rintro _ _ rfl
   rfl⟩
  by_cases hk:(isP t.text:Int)=t.kind
  ·rw [if_pos hk] at hP
   have e1:((isP t.text:Int)==t.kind)=true:=by simpa using hk
   refine Zy <| Z5 ⟨fun i=>if i=22 then .int .u8 (isP t.text) else .top,fun _ => .pure⟩ (by kernel_rfl) hG (by kernel_rfl) (by kernel_rfl) ?_
   refine Zsf (zi h1 (zi hg (zi @Zxb e1))) ?_;refine ⟨p1,?_⟩;refine Za rfl (fun h2=>?_) (fun h2=>?_)
   ·refine ZTf (zi hg @Zxb) hG ?_
    refine Z ?_;exact ⟨by rw [hP]<;>rfl,gx,by simp -implicitDefEqProofs only[go_sem,seval,↓reduceIte],by simp -implicitDefEqProofs only[go_sem,seval,↓reduceIte]⟩
   ·cases h2
  ·rw [if_neg hk] at hP
   have e1:((isP t.text:Int)==t.kind)=false:=by simpa using hk
   refine Zy <| Z5 ⟨fun i=>if i=22 then .int .u8 (isP t.text) else .top,fun _ => .pure⟩ (by kernel_rfl) hG (by kernel_rfl) (by kernel_rfl) ?_
   refine Zsf (zi h1 (zi hg (zi @Zxb e1))) ?_;refine ⟨p1,?_⟩;refine Zta rfl ?_
   ·refine Z ?_
    exact ⟨by rw [hP]<;>rfl,gx,by simp -implicitDefEqProofs only[go_sem,seval,↓reduceIte],by simp -implicitDefEqProofs only[go_sem,seval,↓reduceIte]⟩
 ·have h1:decide ((r.i:Int)<sl.l.length)=false:=zF
  have hP:=Z6l (l:=sl.l) (i:=r.i) (by omega);refine ZTf h1 hG ?_;refine Zta rfl ?_
  ·refine Z ?_
   exact ⟨by rw [hP]<;>rfl,gx,by simp -implicitDefEqProofs only[go_sem,seval,↓reduceIte],by simp -implicitDefEqProofs only[go_sem,seval,↓reduceIte]⟩
theorem Zoi (G:Nat→V) (hG:GOk G) (sl:Sl Tk) (g:Nat) (r:RS) (hr:r.nodes.length<1000000):RdS 1031 [.func (.func 256) [] []] G 268 [] sl g r (.int .i64 r.last) r:=by
 intro gx;refine Zo 1000 9 [.tmp 2] Tryz.func268 fun X=>?_;simp only [Zub,Zra];refine Z ?_;exact ⟨by rw [w64 (by omega) (by omega)]<;>rfl,gx,by simp -implicitDefEqProofs only[go_sem,seval,↓reduceIte],by simp -implicitDefEqProofs only[go_sem,seval,↓reduceIte]⟩
theorem Zyv {l:List Int} (h:l.length≤3):setAt [V.int .i64 (-1),V.int .i64 (-1),V.int .i64 (-1)] 0 (l.map (V.int .i64))=[V.int .i64 (l.getD 0 (-1)),V.int .i64 (l.getD 1 (-1)),V.int .i64 (l.getD 2 (-1))]:=by
 match l,h with
 | [],_=>rfl
 | [_],_=>rfl
 | [_,_],_=>rfl
 | [_,_,_],_=>rfl
theorem Zlr (k:IntKind) (l:List Int):flat (l.map (V.int k))=l.map (V.int k):=by
 induction l with
 | nil=>rfl
 | cons x r ih=>unfold flat at ih ⊢;rw [List.map_cons,List.flatMap_cons,ih]<;>rfl
def Zs3 (n:XN) (ps:List Int):XN:={ n with a:=ps.getD 0 (-1),b:=ps.getD 1 (-1),c:=ps.getD 2 (-1) }
theorem Zhk (G:Nat→V) (hG:GOk G) (sl:Sl Tk) (g:Nat) (r:RS) (hr:r.nodes.length<1000000) (n:XN) (c:Col) (ps:Sl Int) (hps:ps.l.length≤3) :
  RdS 1031 [.func (.func 256) [] []] G 269 [Zca n,Zd c 1 (V.int .i64) ps] sl g r (.bool true) (r.put (Zs3 n ps.l)):=by
 intro gx;refine Zo 1000 34 [.tmp 6] Tryz.func269 fun X=>?_;simp only [Zub,Zra,Zt];refine Z1 ?_;intro g4;refine Z1 ?_;intro g8
 refine Zy <| Zz4 2 (by kernel_rfl) rfl rfl ?_
 simp -implicitDefEqProofs only[go_sem,seval,↓reduceIte,List.take_succ_cons,List.take_zero];refine ⟨_,_,GivesE.copy Tryz.underlying188 (by kernel_rfl) (ob:=1008) (g:=g8) (m:=1) (len:=3) (cs:=[.int .i64 (-1),.int .i64 (-1),.int .i64 (-1)]) (c := .new) (fz:=0) (off:=0) (n:=ps.l.length) (xc:=ps.l.map (V.int .i64)) zp zp (by simp -implicitDefEqProofs only[go_sem,seval,↓reduceIte];exact congrArg (fun x=>some (ps.l.length,x)) (Zlr _ _)) hps (Nat.le_refl _) (by simp;omega),?_⟩;rw [Zyv hps];simp -implicitDefEqProofs only[go_sem,seval,↓reduceIte,List.drop_succ_cons,List.drop_zero];have hn:Zs3 n ps.l={ n with a:=ps.l.getD 0 (-1),b:=ps.l.getD 1 (-1),c:=ps.l.getD 2 (-1) }:=rfl;generalize ps.l.getD 0 (-1)=x0 at hn ⊢;generalize ps.l.getD 1 (-1)=x1 at hn ⊢;generalize ps.l.getD 2 (-1)=x2 at hn ⊢
 refine AW.weak (Z2 (fun o=>o==1008) (l:=[(0,.ptr 8 g 0),(4,.ptr 1004 g4 0),(7,.slice .new false 1 [.int .i64 x0,.int .i64 x1,.int .i64 x2])])
  (m:=[(8,rdO 1031 [.func (.func 256) [] []] sl g gx r),(1031,ndO gx r.nodes),(1004,.cells .new g4 0 [.int .u8 n.op,.int .i64 n.num,.str n.name,.int .i64 n.a,.int .i64 n.b,.int .i64 n.c])]) ?_ ?_) ?_
 ·refine Zs ?_
  refine ⟨Ze _,Ze _,?_⟩;exact Fz.sl (f:=V.int .i64) (l:=[x0,x1,x2]) (m:=1) (g:=g8) (fz:=0) (c := .new) rfl zp (fun _=>rfl)
 ·simp only [Zp,Zz,and_true]
  exact ⟨FzO.keep rfl zp,FzO.keep rfl zp,FzO.keep rfl zp⟩
 refine Zy <| Z5 ⟨fun _ => .top,fun i=>if i=2 then .lend else if i=5 then .lend else if i=8 then .lend else .pure⟩ (by kernel_rfl) hG (by kernel_rfl) (by kernel_rfl) ?_
 refine Zsf @Zra ?_;refine AW.later ?_;refine ZT hG ?_;intro g30;refine Zur (f:=Zca) (l:=r.nodes) (l2:=[Zs3 n ps.l]) (g:=gx) Z5c rfl (by rw [hn]<;>rfl) rfl zp (Zda (by omega) (by simp;omega)) fun c2 g2=>?_;refine Zs ?_;refine Z1 ?_;refine AW.ret ?_;refine Zs ?_;refine ⟨st [(6,.bool true)] [(8,rdO 1031 [.func (.func 256) [] []] sl g g2 (r.put (Zs3 n ps.l))),(1031,ndO g2 (r.nodes++[Zs3 n ps.l]))],Z2 (fun _=>false) ?_ ?_,?_⟩
 ·refine Zs ?_
  exact Ze _
 ·simp only [Zp,Zz,and_true]
  exact ⟨FzO.keep rfl zp,Zyr (c:=c2) rfl zp⟩
 ·refine Zs ?_
  exact Zia ⟨rfl,g2,by simp -implicitDefEqProofs only[go_sem,seval,↓reduceIte];rfl,by simp -implicitDefEqProofs only[go_sem,seval,↓reduceIte];rfl⟩
end Go.Hs
end

section
namespace Go.Hs
open Go.Proofs
set_option maxRecDepth 10000
def Zvm (t:List UInt8) (below:Bool):Int × Int :=
 if t=[]∨(t.head? = some 48∧(t.length > 1∨below=true))∨t.all Zja=false then (0,2)
 else Zdv (if below then -(val (t.reverse.map Zeh):Int) else val (t.reverse.map Zeh))
theorem Zz9 (s:List UInt8):Zrb s=Zvm (if (s.head? == some 45)=true then s.drop 1 else s) (s.head? == some 45):=rfl
theorem u8_eq (c:UInt8) (n:Nat) (hn:n<256):((c.toNat:Int)==(n:Int))=(c==UInt8.ofNat n):=by
 by_cases h:c.toNat=n
 ·have h1:c=UInt8.ofNat n:=by
   apply UInt8.toNat_inj.1;rw [UInt8.toNat_ofNat',h];omega
  rw [h1];simp;omega
 ·have h1:¬ c=UInt8.ofNat n:=by
   intro e;apply h;rw [e,UInt8.toNat_ofNat'];omega
  have h2:¬ (c.toNat:Int)=(n:Int):=by omega
  rw [show (c==UInt8.ofNat n)=false by simpa using h1,show ((c.toNat:Int)==(n:Int))=false from beq_eq_false_iff_ne.2 h2]
theorem u8_45 (c:UInt8):((c.toNat:Int)==45)=(c==45):=u8_eq c 45 (by decide)
theorem Z68 (c:UInt8):((c.toNat:Int)==48)=(c==48):=u8_eq c 48 (by decide)
theorem Zaz (G:Nat→V) (hG:GOk G) (s:List UInt8) (hs:s.length<1000000):Spec Tryz.prog G 260 [.str s] Zl (fun v _=>v=encR (Zrb s)):=by
 rw [Zz9];generalize hb0:(s.head? == some 45)=b0;generalize ht0:(if b0=true then s.drop 1 else s)=t0;refine Zo 0 64 [.tmp 2,.tmp 3] Tryz.func260 fun X=>?_;refine Z1 ?_;refine Z9 (fun (_:Unit)=>st [(0,.str s),(4,.bool b0)] []) (fun _=>True) (fun K1 hK1=>?_) ?_
 ·cases s with
  | nil =>
   refine Z1 ?_;exact hK1 _ () trivial (Zb (by simp -implicitDefEqProofs only[go_sem,seval,↓reduceIte];rw [← hb0]<;>rfl) zp)
  | cons c r =>
   refine Z1f @u8_45 ?_;exact hK1 _ () trivial (Zb (by simp -implicitDefEqProofs only[go_sem,seval,↓reduceIte];rw [← hb0]<;>rfl) zp)
 intro _ _;refine Z9 (fun (_:Unit)=>st [(0,.str t0),(4,.bool b0)] []) (fun _=>True) (fun K2 hK2=>?_) ?_
 ·refine Z1 ?_
  refine Za rfl (fun h2=>?_) (fun h2=>?_)
  ·subst h2
   have h1:1≤s.length:=by
    cases s with
    | nil=>simp at hb0
    | cons _ _=>simp
   refine Z1f (zi h1 @Nat.le_refl) ?_;refine hK2 _ () trivial ?_;exact (Zb (by simp -implicitDefEqProofs only[go_sem,seval,↓reduceIte];rw [← ht0];simp;try exact List.take_of_length_le (by simp)) zp)
  ·subst h2
   refine Z0 ?_;exact hK2 _ () trivial (Zb (by simp -implicitDefEqProofs only[go_sem,seval,↓reduceIte];rw [← ht0];simp) zp)
 intro _ _
 have htl:t0.length≤s.length:=by rw [← ht0];split<;>simp
 try clear ht0 hb0
 refine Z9 (fun (_:Unit)=>st [(0,.str t0),(4,.bool b0)] []) (fun _=>t0≠[]∧¬ (t0.head? = some 48∧(t0.length > 1∨b0=true))) (fun K3 hK3=>?_) ?_
 ·cases t0 with
  | nil =>
   refine Z1 ?_;refine Za rfl (fun h4=>?_) (fun h4=>?_)
   ·refine Z ?_
    rw [Zvm,if_pos (.inl rfl)]
    try rfl
   ·cases h4
  | cons c r =>
   by_cases hc:c=48
   ·have hc1:(c==48)=true:=by simpa using hc
    by_cases hl:r.length=0
    ·have hl1:decide (((r.length+1:Nat):Int) > 1)=false:=zF
     cases b0 with
     | true =>
      refine Z1f (zi @Z68 (zi hc1 hl1)) ?_;refine Za rfl (fun h4=>?_) (fun h4=>?_)
      ·refine Z ?_
       rw [Zvm,if_pos (.inr (.inl ⟨by simp [hc],.inr rfl⟩))]
       try rfl
      ·cases h4
     | false =>
      refine Z1f (zi @Z68 (zi hc1 hl1)) ?_;refine Zta rfl ?_
      ·refine Z0 ?_
       exact hK3 _ () ⟨by simp,by simp [hl]⟩ (Zb zp zp)
    ·have hl1:decide (((r.length+1:Nat):Int) > 1)=true:=zT
     refine Z1f (zi @Z68 (zi hc1 hl1)) ?_;refine Za rfl (fun h4=>?_) (fun h4=>?_)
     ·refine Z ?_
      rw [Zvm,if_pos (.inr (.inl ⟨by simp [hc],.inl (by simp;omega)⟩))]
      try rfl
     ·cases h4
   ·have hc1:(c==48)=false:=by simpa using hc
    refine Z1f (zi @Z68 hc1) ?_;refine Zta rfl ?_
    ·refine Z0 ?_
     exact hK3 _ () ⟨by simp,by simp [hc]⟩ (Zb zp zp)
 rintro _ ⟨hne,hno⟩;refine Z1 ?_;refine Z1 ?_;refine AW.block ?_
 refine Zua t0.length (fun k (x:Nat)=>st [(0,.str t0),(4,.bool b0),(5,grown 56 x 1 (Z5o ((t0.drop (t0.length-k)).reverse.map Zeh))),(6,.int .i64 ((t0.length:Int)-1-k))] [(56,Zjb x (V.int .i64) (Z5o ((t0.drop (t0.length-k)).reverse.map Zeh)))])
  (fun k _=>(t0.drop (t0.length-k)).all Zja=true) 0 0 (Nat.zero_le _) (by rw [List.drop_eq_nil_of_le (by omega)]<;>rfl)
  (Zb (by rw [List.drop_eq_nil_of_le (by omega)];simp -implicitDefEqProofs only[go_sem,seval,↓reduceIte];exact ⟨rfl,congrArg _ (by rw [w64 (by omega) (by omega)];omega)⟩) (by rw [List.drop_eq_nil_of_le (by omega)];simp -implicitDefEqProofs only[go_sem,seval,↓reduceIte];try rfl)) ?_
 intro k gx hk hI L2 hL2;refine Z1 ?_;refine Za rfl (fun h4=>?_) (fun h4=>?_)
 ·have hk1:k<t0.length:=by have:=of_decide_eq_true h4;omega
  refine Z0 ?_;obtain ⟨i,hi⟩:∃ i,i=t0.length-1-k:=⟨_,rfl⟩
  have e0:((t0.length:Int)-1-k)=(i:Int):=by omega
  have hi1:i<t0.length:=by omega
  have g2:=List.getElem?_eq_getElem hi1;have hdr:t0.drop i=t0[i]::t0.drop (i+1):=List.drop_eq_getElem_cons hi1
  have hall:t0.all Zja=((t0.take i).all Zja && (Zja t0[i] && (t0.drop (i+1)).all Zja)):=by
   rw [← List.all_cons,← hdr,← List.all_append,List.take_append_drop]
  generalize t0[i]=c at g2 hdr hall;rw [show t0.length-k=i+1 by omega] at hI ⊢;rw [e0]
  have hlen:((t0.drop (i+1)).reverse.map Zeh).length<1000000:=by simp;omega
  refine Zy ?_;refine AW.block ?_;refine Zy ?_
  by_cases hc:Zja c=true
  ·have hc2:48≤c.toNat∧c.toNat≤57:=by unfold Zja at hc;simpa using hc
   have b1:decide ((c.toNat:Int)<48)=false:=zF;have b2:decide ((c.toNat:Int) > 57)=false:=zF
   have hdv:IntKind.i64.wrap ((c.toNat:Int)-48)=((Zeh c:Nat):Int):=by rw [w64 (by omega) (by omega)];unfold Zeh;omega
   have hwc:IntKind.i64.wrap (c.toNat:Int)=(c.toNat:Int):=w64 (by omega) (by omega);refine Z1f (zi g2 (zi b1 b2)) ?_;refine Zta rfl ?_
   ·refine Z1f (zi g2 (zi hwc hdv)) ?_
    intro g55;refine Zpb (f:=V.int .i64) (l:=Z5o ((t0.drop (i+1)).reverse.map Zeh)) (l2:=[((Zeh c:Nat):Int)]) (g:=gx) (fun _=>rfl) rfl rfl rfl rfl (Zda (by omega) (by simp;omega)) fun g56=>?_;refine Zs ?_;refine Z1 ?_
    have hnew:(t0.drop (t0.length-(k+1))).reverse.map Zeh=(t0.drop (i+1)).reverse.map Zeh++[Zeh c]:=by
     rw [show t0.length-(k+1)=i by omega,hdr];simp
    refine hL2 _ ⟨hk1,g56,?_,Zb (by rw [hnew];simp -implicitDefEqProofs only[go_sem,seval,↓reduceIte,Zun];exact ⟨rfl,congrArg _ (by rw [w64 (by omega) (by omega)];omega)⟩) (by rw [hnew];simp -implicitDefEqProofs only[go_sem,seval,↓reduceIte,Zun];try rfl)⟩
    rw [show t0.length-(k+1)=i by omega,hdr,List.all_cons,hc,hI]<;>rfl
  ·have hcf:Zja c=false:=by simpa using hc
   have hbad:t0.all Zja=false:=by rw [hall,hcf];simp
   have hc2:c.toNat<48∨57<c.toNat:=by
    rcases Nat.lt_or_ge c.toNat 48 with h | h
    ·exact .inl h
    ·rcases Nat.lt_or_ge 57 c.toNat with h1 | h1
     ·exact .inr h1
     ·exact absurd (by unfold Zja;simp [h,h1]) hc
   have hP:Zvm t0 b0=(0,2):=by rw [Zvm,if_pos (.inr (.inr hbad))]
   rcases hc2 with h | h
   ·have b1:decide ((c.toNat:Int)<48)=true:=zT
    refine Z1f (zi g2 b1) ?_;refine Za rfl (fun h7=>?_) (fun h7=>?_)
    ·refine Z ?_
     rw [hP]<;>rfl
    ·cases h7
   ·have b1:decide ((c.toNat:Int)<48)=false:=zF
    have b2:decide ((c.toNat:Int) > 57)=true:=zT;refine Z1f (zi g2 (zi b1 b2)) ?_;refine Za rfl (fun h7=>?_) (fun h7=>?_)
    ·refine Z ?_
     rw [hP]<;>rfl
    ·cases h7
 ·have hk1:k=t0.length:=by have:=of_decide_eq_false h4;omega
  subst hk1;rw [Nat.sub_self,List.drop_zero] at hI ⊢
  have hP:Zvm t0 b0=Zdv (sgn b0 (val (t0.reverse.map Zeh))):=by
   rw [Zvm,if_neg (by rw [hI];simp [hne,hno])]
   try rfl
  have hdig:Dig (t0.reverse.map Zeh):=by
   intro d hd;obtain ⟨c,h1,rfl⟩:=List.mem_map.1 hd;have:=List.all_eq_true.1 hI c (List.mem_reverse.1 h1);unfold Zja at this;unfold Zeh;simp at this;omega
  have hol:(t0.reverse.map Zeh).length<1000000:=by simp;omega
  generalize t0.reverse.map Zeh=out at hdig hol hP;refine Z0 ?_;refine AW.weak (Z2 (fun o=>o==56) (l:=[(4,.bool b0),(5,Zd .new 1 (V.int .i64) (slD (decide (out=[])) out))]) (m:=[]) ?_ trivial) ?_
  ·refine Zs ?_
   rw [← Zsz rfl];exact ⟨Ze _,Zyb rfl rfl (fun _=>rfl)⟩
  refine Z1 ?_;refine Zn hG ?_ (s:=(Zf5 G hG _ (decide (out=[])) out (by simp) (by omega)));rw [Z60 _ _ (Nat.le_refl _) hdig]
  have hnl:decide (out=[])=true→dg (val out)=[]:=by
   intro h;have:=of_decide_eq_true h;subst this;rfl
  have hvl:(dg (val out)).length<1000000:=by
   have:=Zl2 (Zfba hdig);omega
  refine Zs ?_;refine CallA.pure hG (by kernel_rfl) ?_;refine Zs ?_;rw [← encLong];refine (Zp3 G hG _ _ _ _ hnl (Zpr _) hvl).mono ?_;rintro _ _ rfl;rw [Z84];refine Zsf @encR.eq_1 ?_;refine Z ?_;rw [hP]
  try rfl
end Go.Hs
end

section
namespace Go.Hs
open Go.Proofs
set_option maxRecDepth 10000
theorem Zvi (G:Nat→V) (hG:GOk G) (sl:Sl Tk) (hT:TkOk sl.l) (g:Nat) (r:RS) (hr:r.i<1000000):RdS 1012 [] G 250 [] sl g r (.str (Z3 sl.l r.i).text) r:=by
 intro gx;refine Zo 1000 50 [.tmp 2] Tryz.func250 fun X=>?_;simp only [Zub,Zra];refine Z1 ?_;refine Zy ?_
 by_cases hi:r.i<sl.l.length
 ·have h1:decide ((r.i:Int)≥sl.l.length)=false:=zF
  have hg:=List.getElem?_eq_getElem hi;have hm:=hT.text _ (List.getElem_mem hi);generalize sl.l[r.i]=t at hg hm;have hP:=Z8q hg
  have p1:Zni Tryz.prog G 53 [.str t.text] (.int .u8 (isP t.text)):=⟨by kernel_rfl,by
   refine Zs ?_;refine (Zyi G hG t.text (by omega)).mono ?_;rintro _ _ rfl
   rfl⟩
  by_cases hk:(isP t.text:Int)=t.kind
  ·rw [if_pos hk] at hP
   have e1:((isP t.text:Int) != t.kind)=false:=by simpa using hk
   refine Zy <| Z5 ⟨fun i=>if i=22 then .int .u8 (isP t.text) else .top,fun _ => .pure⟩ (by kernel_rfl) hG (by kernel_rfl) (by kernel_rfl) ?_
   refine Zsf (zi h1 (zi hg (zi @Zxb e1))) ?_;refine ⟨p1,?_⟩;refine Zta rfl ?_
   ·refine Z0 ?_
    refine ZTf (zi hg @Zxb) hG ?_;refine Z ?_;exact ⟨by rw [hP],gx,by simp -implicitDefEqProofs only[go_sem,seval,↓reduceIte];try rfl,by simp -implicitDefEqProofs only[go_sem,seval,↓reduceIte];try rfl⟩
  ·rw [if_neg hk] at hP
   have e1:((isP t.text:Int) != t.kind)=true:=by simpa using hk
   refine Zy <| Z5 ⟨fun i=>if i=22 then .int .u8 (isP t.text) else .top,fun _ => .pure⟩ (by kernel_rfl) hG (by kernel_rfl) (by kernel_rfl) ?_
   refine Zsf (zi h1 (zi hg (zi @Zxb e1))) ?_;refine ⟨p1,?_⟩;refine Za rfl (fun h2=>?_) (fun h2=>?_)
   ·refine Z ?_
    exact ⟨by rw [hP],gx,by simp -implicitDefEqProofs only[go_sem,seval,↓reduceIte];try rfl,by simp -implicitDefEqProofs only[go_sem,seval,↓reduceIte];try rfl⟩
   ·cases h2
 ·have h1:decide ((r.i:Int)≥sl.l.length)=true:=zT
  have hP:=Z6l (l:=sl.l) (i:=r.i) (by omega);refine ZTf h1 hG ?_;refine Za rfl (fun h2=>?_) (fun h2=>?_)
  ·refine Z ?_
   exact ⟨by rw [hP],gx,by simp -implicitDefEqProofs only[go_sem,seval,↓reduceIte];try rfl,by simp -implicitDefEqProofs only[go_sem,seval,↓reduceIte];try rfl⟩
  ·cases h2
theorem Z0e (G:Nat→V) (hG:GOk G) (sl:Sl Tk) (g:Nat) (r:RS) (hr:r.nodes.length<1000000):RdS 1012 [] G 222 [] sl g r (.int .i64 r.last) r:=by
 intro gx;refine Zo 1000 9 [.tmp 2] Tryz.func222 fun X=>?_;simp only [Zub,Zra];refine Z ?_;exact ⟨by rw [w64 (by omega) (by omega)]<;>rfl,gx,by simp -implicitDefEqProofs only[go_sem,seval,↓reduceIte];try rfl,by simp -implicitDefEqProofs only[go_sem,seval,↓reduceIte];try rfl⟩
theorem Zui (G:Nat→V) (hG:GOk G) (sl:Sl Tk) (g:Nat) (r:RS) (hr:r.nodes.length<1000000) (n:XN) :
  RdS 1012 [] G 223 [Zca n] sl g r (.bool true) (r.put n):=by
 intro gx;refine Zo 1000 15 [.tmp 4] Tryz.func223 fun X=>?_;simp only [Zub,Zra,Zt];refine Z1 ?_;intro g3
 refine AW.weak (Z2 (fun o=>o==1003) (l:=[(0,.ptr 8 g 0),(3,.view .new (Zca n))])
  (m:=[(8,rdO 1012 [] sl g gx r),(1012,ndO gx r.nodes)]) ?_ ?_) ?_
 ·refine Zs ?_
  exact ⟨Ze _,Fz.ptr (v:=Zca n) (c := .new) (fz:=0) rfl zp⟩
 ·simp only [Zp,Zz,and_true]
  exact ⟨FzO.keep rfl zp,FzO.keep rfl zp⟩
 simp only [Zt];refine AW.later ?_;refine ZTf @Zra hG ?_;intro g11;refine Zur (f:=Zca) (l:=r.nodes) (l2:=[n]) (g:=gx) Z5c rfl rfl rfl zp (Zda (by omega) (by simp;omega)) fun c2 g2=>?_;refine Zs ?_;refine Z1 ?_;refine AW.ret ?_;refine Zs ?_;refine ⟨st [(4,.bool true)] [(8,rdO 1012 [] sl g g2 (r.put n)),(1012,ndO g2 (r.nodes++[n]))],Z2 (fun _=>false) ?_ ?_,?_⟩
 ·refine Zs ?_
  exact Ze _
 ·simp only [Zp,Zz,and_true]
  exact ⟨FzO.keep rfl zp,Zyr (c:=c2) rfl zp⟩
 ·refine Zs ?_
  exact Zia ⟨rfl,g2,by simp -implicitDefEqProofs only[go_sem,seval,↓reduceIte];rfl,by simp -implicitDefEqProofs only[go_sem,seval,↓reduceIte];rfl⟩
theorem Zwi (G:Nat→V) (hG:GOk G) (sl:Sl Tk) (g:Nat) (r:RS) (hi:r.i<1000000) (hr:r.nodes.length<1000000) (op num:Int) (name:List UInt8) (x y z:Int) :
  RdS 1012 [] G 253 [Zca ⟨op,num,name,x,y,z⟩] sl g r (.bool true) (Zag r op num name).2:=by
 intro gx;refine Zo 1000 18 [.tmp 4] Tryz.func253 fun X=>?_
 have hw:IntKind.i64.wrap ((r.i:Int)+1)=((r.i+1:Nat):Int):=by rw [w64 (by omega) (by omega)];omega
 simp only [Zub,Zra,Zt];refine Z1 ?_;intro g3;refine Z1f hw ?_;refine Z1 ?_;refine Z1 ?_;refine Z1 ?_;refine Z1 ?_;rw [← Zt ⟨op,num,name,-1,-1,-1⟩];refine Z8 hG (Zui G hG sl g r.adv hr ⟨op,num,name,-1,-1,-1⟩) (gx:=gx) fun gx'=>?_;refine Zu ?_;refine Z ?_;exact ⟨rfl,gx',by simp -implicitDefEqProofs only[go_sem,seval,↓reduceIte];rfl,by simp -implicitDefEqProofs only[go_sem,seval,↓reduceIte];rfl⟩
theorem Zzi (G:Nat→V) (hG:GOk G) (sl:Sl Tk) (hT:TkOk sl.l) (g:Nat) (r:RS) (hi:r.i<1000000) (w:List UInt8) :
  RdS 1012 [] G 251 [.str w] sl g r (.bool (Zdp sl.l w r).1) (Zdp sl.l w r).2:=by
 intro gx;refine Zo 1000 19 [.tmp 4] Tryz.func251 fun X=>?_
 have hw:IntKind.i64.wrap ((r.i:Int)+1)=((r.i+1:Nat):Int):=by rw [w64 (by omega) (by omega)];omega
 have hP:Zdp sl.l w r=if (Z3 sl.l r.i).text≠w then (false,r.err 80) else (true,r.adv):=rfl
 refine Z1 ?_;refine Z1 ?_;refine Z8 hG (Zvi G hG sl hT g r hi) (gx:=gx) fun gx'=>?_;refine Zu ?_;generalize Z3 sl.l r.i=t at hP ⊢
 by_cases ht:t.text=w
 ·rw [if_neg (by simpa using ht)] at hP
  refine Za rfl (fun h2=>?_) (fun h2=>?_)
  ·rw [ht] at h2;simp at h2
  ·refine Zf (zi @Zra hw) ?_
   rw [hP];exact ⟨rfl,gx',by simp -implicitDefEqProofs only[go_sem,seval,↓reduceIte];rfl,by simp -implicitDefEqProofs only[go_sem,seval,↓reduceIte];rfl⟩
 ·rw [if_pos ht] at hP
  refine Za rfl (fun h2=>?_) (fun h2=>?_)
  ·refine Zf @Zra ?_
   rw [hP];exact ⟨rfl,gx',by simp -implicitDefEqProofs only[go_sem,seval,↓reduceIte];rfl,by simp -implicitDefEqProofs only[go_sem,seval,↓reduceIte];rfl⟩
  ·have h2:t.text=w:=by simpa using h2
   exact absurd h2 ht
theorem Zov:∀ t:List UInt8,(Zth t).length≤t.length
 | []=>Nat.le_refl _
 | [c]=>Nat.le_refl _
 | c::d::r=>by
  rw [Zth]
  split
  ·have:=Zov (d::r)
   simp only [List.length_cons] at this ⊢;omega
  ·exact Nat.le_refl _
theorem Zd5 (c:UInt8):((c.toNat:Int)==48)=(c==48):=by
 have:=Z1n (fun c=>((c.toNat:Int)==48)==(c==48)) (by decide +kernel) c;simpa using this
theorem Zbw (G:Nat→V) (hG:GOk G) (sl:Sl Tk) (g:Nat) (r:RS) (hi:r.i<1000000) (hr:r.nodes.length<1000000) (t:List UInt8) (ht:t.length<100000) :
  RdS 1012 [] G 254 [.str t] sl g r (.bool (Zsj r t).1) (Zsj r t).2:=by
 intro gx;refine Zo 1000 31 [.tmp 4] Tryz.func254 fun X=>?_
 have hP:Zsj r t=if (Zrb (Zth t)).2≠0 then (false,r.err 60) else Zag r 1 (Zrb (Zth t)).1 []:=rfl
 have hl:=Zov t;refine Z1 ?_;refine Z9 (fun (_:Unit)=>st [(0,.ptr 8 g 0),(1,.str (Zth t))] [(8,rdO 1012 [] sl g gx r),(1012,ndO gx r.nodes)]) (fun _=>True) (fun K1 hK1=>?_) ?_
 ·refine AW.block ?_
  refine Zwc (fun (s:List UInt8)=>st [(0,.ptr 8 g 0),(1,.str s)] [(8,rdO 1012 [] sl g gx r),(1012,ndO gx r.nodes)])
   (fun s=>Zth s=Zth t∧s.length≤t.length) (fun s=>s.length) t ⟨rfl,Nat.le_refl _⟩ (Zb zp (by simp -implicitDefEqProofs only[go_sem,seval,↓reduceIte,Zub];try rfl)) ?_
  rintro s ⟨hs,hsl⟩ L2 hL2;refine Zy ?_
  by_cases hlen:s.length > 1
  rotate_left
  ·have h1:decide ((s.length:Int) > 1)=false:=zF
   have he:Zth s=s:=by
    match s,hlen with
    | [],_=>rfl
    | [c],_=>rfl
    | c::d::r,h=>simp at h
   refine Z1f h1 ?_;refine Z0 ?_;exact hK1 _ () trivial (Zb (by rw [← hs,he];simp -implicitDefEqProofs only[go_sem,seval,↓reduceIte];try rfl) zp)
  have h1:decide ((s.length:Int) > 1)=true:=zT
  obtain ⟨c,d,q,hq⟩:∃ c d q,s=c::d::q:=by
   match s,hlen with
   | c::d::q,_=>exact ⟨c,d,q,rfl⟩
  have hg:s[0]? = some c:=by rw [hq]<;>rfl
  have hdr:(s.drop 1).take (s.length-1)=d::q:=by rw [hq];simp
  have hT:Zth s=if c=48 then Zth (d::q) else s:=by rw [hq]<;>rfl
  have hll:(d::q).length+1=s.length:=by rw [hq];simp
  by_cases hc:c=48
  ·have e1:(c==48)=true:=by simpa using hc
   rw [if_pos hc] at hT;refine Z1f (zi h1 (zi hg (zi @Zd5 e1))) ?_;refine Z0 ?_;refine AW.block ?_
   have hb:1≤s.length:=by omega
   refine Z1f (zi hb (zi hdr @Nat.le_refl)) ?_;exact hL2 _ ⟨d::q,by omega,⟨by rw [← hT];exact hs,by omega⟩,Zb zp zp⟩
  ·have e1:(c==48)=false:=by simpa using hc
   rw [if_neg hc] at hT;refine Z1f (zi h1 (zi hg (zi @Zd5 e1))) ?_;refine Z0 ?_;exact hK1 _ () trivial (Zb (by rw [← hs,hT];simp -implicitDefEqProofs only[go_sem,seval,↓reduceIte];try rfl) zp)
 intro _ _;generalize Zth t=s at hP hl ⊢;refine Z1 ?_;refine Zn hG ?_ (s:=(Zaz G hG s (by omega)));generalize Zrb s=q at hP ⊢;obtain ⟨n,e⟩:=q;simp only at hP;refine Zsf @encR.eq_1 ?_;refine Zy ?_
 by_cases he:e=0
 ·have e1:(e==0)=true:=by simpa using he
  rw [if_neg (show ¬ e≠0 by simpa using he)] at hP;refine Zdc (by kernel_rfl) ?_;simp -implicitDefEqProofs only[go_sem,seval,↓reduceIte,bne,e1];refine Zta rfl ?_
  ·refine Z1 ?_
   rw [← Zt ⟨1,n,[],0,0,0⟩];refine Z8 hG (Zwi G hG sl g r hi hr 1 n [] 0 0 0) (gx:=gx) fun gx'=>?_;refine Zu ?_;refine Z ?_;rw [hP];exact ⟨rfl,gx',by simp -implicitDefEqProofs only[go_sem,seval,↓reduceIte];try rfl,by simp -implicitDefEqProofs only[go_sem,seval,↓reduceIte];try rfl⟩
 ·have e1:(e==0)=false:=by simpa using he
  rw [if_pos he] at hP;refine Zdc (by kernel_rfl) ?_;simp -implicitDefEqProofs only[go_sem,seval,↓reduceIte,bne,e1];refine Za rfl (fun h4=>?_) (fun h4=>?_)
  ·refine Zf @Zra ?_
   rw [hP];exact ⟨rfl,gx,by simp -implicitDefEqProofs only[go_sem,seval,↓reduceIte];try rfl,by simp -implicitDefEqProofs only[go_sem,seval,↓reduceIte];try rfl⟩
  ·cases h4
end Go.Hs
end

section
namespace Go.Hs
structure Bal (l:List Tk) (k:Nat) (r r':RS):Prop where
 up:r.i≤r'.i
 inn:r.i≤l.length→r'.i≤l.length
 cnt:r'.nodes.length+r.i+k≤r.nodes.length+r'.i
theorem Bal.refl (l:List Tk) (r:RS):Bal l 0 r r:=⟨Nat.le_refl _,id,Nat.le_refl _⟩
theorem Bal.trans {l:List Tk} {k k':Nat} {r r' r'':RS} (h:Bal l k r r') (h':Bal l k' r' r''):Bal l (k+k') r r'' :=
 ⟨Nat.le_trans h.up h'.up,fun x=>h'.inn (h.inn x),by have:=h.cnt;have:=h'.cnt;omega⟩
theorem Bal.weak {l:List Tk} {k k':Nat} {r r':RS} (h:Bal l k r r') (hk:k'≤k):Bal l k' r r':=⟨h.up,h.inn,by have:=h.cnt;omega⟩
theorem Bal.adv {l:List Tk} {r:RS} (h:r.i<l.length):Bal l 1 r r.adv:=⟨Nat.le_succ _,fun _=>h,by show r.nodes.length+r.i+1≤r.nodes.length+(r.i+1);omega⟩
theorem Bal.err (l:List Tk) (r:RS) (e:Int):Bal l 0 r (r.err e):=⟨Nat.le_refl _,id,Nat.le_refl _⟩
theorem Bal.put {l:List Tk} {k:Nat} {r r':RS} (h:Bal l (k+1) r r') (n:XN):Bal l k r (r'.put n) :=
 ⟨h.up,h.inn,by have:=h.cnt;show (r'.nodes++[n]).length+r.i+k≤_;rw [List.length_append,List.length_singleton];show _≤r.nodes.length+r'.i;omega⟩
def Bals (l:List Tk) (inner:Inner):Prop:=∀ n r,Bal l 0 r (inner n r).2
theorem Zjd {l:List Tk} {r:RS} {x:Bool × RS} {k:RS→Bool × RS} (h:Bal l 0 r x.2) (hk:x.1=true→Bal l 0 r (k x.2).2):Bal l 0 r (andThen x k).2:=by
 obtain ⟨b,r1⟩:=x;cases b
 ·exact h
 ·exact hk rfl
theorem Zgd (l:List Tk) (w:List UInt8) (r:RS):Bal l 0 r (Z5e l w r).2∧((Z5e l w r).1=true→Bal l 1 r (Z5e l w r).2):=by
 unfold Z5e
 split
 ·exact ⟨Bal.err _ _ _,fun h=>by cases h⟩
 ·rename_i h
  have hk:(Z3 l r.i).kind≠0:=fun hh=>h (.inl hh);have:=Bal.adv (Z5f hk);exact ⟨this.weak (Nat.zero_le _),fun _=>this⟩
theorem Z1o {l:List Tk} {r:RS} (h:(Z3 l r.i).kind≠0) (op num:Int) (name:List UInt8):Bal l 0 r (Zag r op num name).2:=(Bal.adv (Z5f h)).put _
theorem Zlz {l:List Tk} {r:RS} (h:(Z3 l r.i).kind≠0) (t:List UInt8):Bal l 0 r (Z4c r t).2:=by
 unfold Z4c
 split
 ·exact Bal.err _ _ _
 ·exact Z1o h _ _ _
theorem Zdt {l:List Tk} {inner:Inner} (h:Bals l inner) (r:RS):Bal l 0 r (Z6a l inner r).2:=by
 unfold Z6a;have e1:=Zgd l wIf r;refine Zjd e1.1 fun h1=>?_;have b1:=e1.2 h1;generalize (Z5e l wIf r).2=r1 at b1 ⊢;have b2:=b1.trans (h 1 r1);refine Zjd (b2.weak (Nat.zero_le _)) fun _=>?_;generalize (inner 1 r1).2=a at b2 ⊢;have e2:=Zgd l wThen a;refine Zjd ((b2.trans e2.1).weak (Nat.zero_le _)) fun h2=>?_;have b3:=b2.trans (e2.2 h2);generalize (Z5e l wThen a).2=r2 at b3 ⊢;have b4:=b3.trans (h 1 r2);refine Zjd (b4.weak (Nat.zero_le _)) fun _=>?_;generalize (inner 1 r2).2=b at b4 ⊢;have e3:=Zgd l wElse b;refine Zjd ((b4.trans e3.1).weak (Nat.zero_le _)) fun h3=>?_;have b5:=b4.trans (e3.2 h3);generalize (Z5e l wElse b).2=r3 at b5 ⊢;have b6:=b5.trans (h 1 r3);refine Zjd (b6.weak (Nat.zero_le _)) fun _=>?_;generalize (inner 1 r3).2=c at b6 ⊢;have e4:=Zgd l wEndif c;refine Zjd ((b6.trans e4.1).weak (Nat.zero_le _)) fun h4=>?_;have b7:=b6.trans (e4.2 h4);exact (b7.put _).weak (Nat.zero_le _)
theorem Zvg {l:List Tk} {inner:Inner} (h:Bals l inner) (r:RS):Bal l 0 r (Zya l inner r).2:=by
 unfold Zya
 split
 ·rename_i hk;exact Zlz (by rw [hk];decide) _
 split
 ·rename_i hk;exact Z1o (by rw [hk];decide) _ _ _
 split
 ·exact Bal.err _ _ _
 rename_i h0;have ba:=Bal.adv (Z5f h0)
 split
 ·have b1:=ba.trans (h 9 r.adv)
  exact Zjd (b1.weak (Nat.zero_le _)) fun _=>b1.put _
 split
 ·have b1:=ba.trans (h 1 r.adv)
  exact Zjd (b1.weak (Nat.zero_le _)) fun _=>(b1.trans (Zgd l [41] _).1).weak (Nat.zero_le _)
 split
 ·exact Zdt h r
 split
 ·exact Z1o h0 _ _ _
 ·exact Bal.err _ _ _
theorem Zwo {l:List Tk} {inner:Inner} (h:Bals l inner) (n:Int):∀ (m:Nat) (r:RS),Bal l 0 r (Z2b l inner n m r).2
 | 0,r=>Bal.refl l r
 | m+1,r=>by
  rw [Z2b]
  cases ho:Zoh l r.i with
  | none=>exact Bal.refl l r
  | some op =>
   simp only
   split
   ·exact Bal.refl l r
   ·have b1:=(Bal.adv (Z9f ho)).trans (h (lvl op+1) r.adv)
    exact Zjd (b1.weak (Nat.zero_le _)) fun _=>((b1.put _).trans (Zwo h n m _)).weak (Nat.zero_le _)
theorem Zjc (l:List Tk):∀ f,Bals l (Zm l f)
 | 0=>fun _ r=>Bal.refl l r
 | f+1=>fun n r=>by
  rw [Zm];have b1:=Zvg (Zjc l f) r;exact Zjd b1 fun _=>(b1.trans (Zwo (Zjc l f) n _ _)).weak (Nat.zero_le _)
def Zpl (l:List Tk) (r:RS):Prop:=r.i≤l.length∧r.nodes.length≤r.i
theorem Bal.ok {l:List Tk} {k:Nat} {r r':RS} (h:Bal l k r r') (hr:Zpl l r):Zpl l r':=⟨h.inn hr.1,by have:=h.cnt;have:=h.up;have:=hr.2;omega⟩
end Go.Hs
end

section
namespace Go.Hs
open Go.Proofs
set_option maxRecDepth 10000
structure InnR (G:Nat→V) (sl:Sl Tk) (g:Nat) (inner:Inner) (i0:Nat):Prop where
 lev:∀ n r,1≤n→n≤9→i0<r.i→Zpl sl.l r→RdS 1012 [] G 142 [.int .i64 n] sl g r (.bool (inner n r).1) (inner n r).2
 un:∀ r,i0<r.i→Zpl sl.l r→RdS 1012 [] G 220 [] sl g r (.bool (inner 9 r).1) (inner 9 r).2
theorem Z89 {l:List Tk} (hT:TkOk l) (i:Nat):(Z3 l i).text.length<100000:=by
 unfold Z3
 split
 ·rename_i t h
  split
  ·exact hT.text _ (List.mem_of_getElem? h)
  ·exact Nat.zero_lt_succ _
 ·exact Nat.zero_lt_succ _
theorem Z6s (l:List Tk) {w:List UInt8} (hw:isP w≠0) (r:RS):Bal l 0 r (Zdp l w r).2∧((Zdp l w r).1=true→Bal l 1 r (Zdp l w r).2)∧((Zdp l w r).1=true→(Zdp l w r).2=r.adv):=by
 rw [Z4w l hw];refine ⟨(Zgd l w r).1,(Zgd l w r).2,?_⟩;unfold Z5e
 split
 ·intro h;cases h
 ·exact fun _=>rfl
theorem Zcq (G:Nat→V) (hG:GOk G) (sl:Sl Tk) (hT:TkOk sl.l) (g:Nat) (r:RS) (hr:Zpl sl.l r) (hlt:r.i<sl.l.length) (inner:Inner) (hin:InnR G sl g inner r.i) (hb:Bals sl.l inner) :
  RdS 1012 [] G 252 [] sl g r (.bool (Zne sl.l inner r).1) (Zne sl.l inner r).2:=by
 have hTl:=hT.len;intro gx;refine Zo 1000 47 [.tmp 2] Tryz.func252 fun X=>?_
 have hP:Zne sl.l inner r=andThen (inner 1 r.adv) fun a=>andThen (Zdp sl.l wThen a) fun r2=>andThen (inner 1 r2) fun b =>
  andThen (Zdp sl.l wElse b) fun r3=>andThen (inner 1 r3) fun c=>andThen (Zdp sl.l wEndif c) fun r4=>(true,r4.put ⟨22,0,[],a.last,b.last,c.last⟩):=rfl
 generalize Zne sl.l inner r=res at hP ⊢;have had:Zpl sl.l r.adv:=(Bal.adv hlt).ok hr
 have hw:IntKind.i64.wrap ((r.i:Int)+1)=((r.i+1:Nat):Int):=by rw [w64 (by omega) (by omega)];omega
 have c1:=hin.lev 1 r.adv (by decide) (by decide) (Nat.lt_succ_self _) had;have b1:=hb 1 r.adv;generalize inner 1 r.adv=x1 at hP c1 b1;obtain ⟨t1,a⟩:=x1;simp only at c1 b1;have ha:=b1.ok had;have hau:r.i+1≤a.i:=b1.up;refine Z1 ?_;refine Z1f (zi @Zra hw) ?_;refine Zy ?_
 cases t1 with
 | false =>
  rw [Zqa] at hP;refine Z1f @Zra ?_;refine Z8 hG (c1) (gx:=gx) fun gx1=>?_;refine Zu ?_;refine Za rfl (fun h19=>?_) (fun h19=>?_)
  ·refine Z ?_
   rw [hP];exact ⟨rfl,gx1,zr,zr⟩
  ·cases h19
 | true =>
 rw [Zx] at hP
 have hai:a.i<1000000:=by have:=ha.1;omega
 have han:a.nodes.length<1000000:=by have:=ha.1;have:=ha.2;omega
 have c2:=Zzi G hG sl hT g a hai wThen;have b2:=Z6s sl.l (w:=wThen) (by decide +kernel) a;generalize Zdp sl.l wThen a=x2 at hP c2 b2;obtain ⟨t2,r2⟩:=x2;simp only at c2 b2
 cases t2 with
 | false =>
  rw [Zqa] at hP;refine Z1f @Zra ?_;refine Z8 hG (c1) (gx:=gx) fun gx1=>?_;refine Zu ?_;refine Zsf @Zra ?_;refine Z8 hG (c2) (gx:=gx1) fun gx2=>?_;refine Zu ?_;refine Za rfl (fun h19=>?_) (fun h19=>?_)
  ·refine Z ?_
   rw [hP];exact ⟨rfl,gx2,zr,zr⟩
  ·cases h19
 | true =>
 rw [Zx] at hP;have hr2:=(b2.2.1 rfl).ok ha;have e2:=b2.2.2 rfl
 have h2n:r2.nodes=a.nodes:=by rw [e2]<;>rfl
 have h2l:r2.last=a.last:=by rw [e2]<;>rfl
 have h2i:r2.i=a.i+1:=by rw [e2]<;>rfl
 have c3:=hin.lev 1 r2 (by decide) (by decide) (by omega) hr2;have b3:=hb 1 r2;generalize inner 1 r2=x3 at hP c3 b3;obtain ⟨t3,b⟩:=x3;simp only at c3 b3;have hbo:=b3.ok hr2;have hbu:r2.i≤b.i:=b3.up
 have hbi:b.i<1000000:=by have:=hbo.1;omega
 have hbn:b.nodes.length<1000000:=by have:=hbo.1;have:=hbo.2;omega
 refine Z1f @Zra ?_;refine Z8 hG (c1) (gx:=gx) fun gx1=>?_;refine Zu ?_;refine Zsf @Zra ?_;refine Z8 hG (c2) (gx:=gx1) fun gx2=>?_;refine Zu ?_;refine Z1f @Zra ?_
 have h2nn:r2.nodes.length<1000000:=by rw [h2n];exact han
 refine Z8 hG (Z0e G hG sl g r2 h2nn) (gx:=gx2) fun gx3=>?_;refine Zu ?_;rw [h2l];refine Zy ?_
 cases t3 with
 | false =>
  rw [Zqa] at hP;refine Z1f @Zra ?_;refine Z8 hG (c3) (gx:=gx3) fun gx4=>?_;refine Zu ?_;refine Za rfl (fun h29=>?_) (fun h29=>?_)
  ·refine Z ?_
   rw [hP];exact ⟨rfl,gx4,zr,zr⟩
  ·cases h29
 | true =>
 rw [Zx] at hP;have c4:=Zzi G hG sl hT g b hbi wElse;have b4:=Z6s sl.l (w:=wElse) (by decide +kernel) b;generalize Zdp sl.l wElse b=x4 at hP c4 b4;obtain ⟨t4,r3⟩:=x4;simp only at c4 b4
 cases t4 with
 | false =>
  rw [Zqa] at hP;refine Z1f @Zra ?_;refine Z8 hG (c3) (gx:=gx3) fun gx4=>?_;refine Zu ?_;refine Zsf @Zra ?_;refine Z8 hG (c4) (gx:=gx4) fun gx5=>?_;refine Zu ?_;refine Za rfl (fun h29=>?_) (fun h29=>?_)
  ·refine Z ?_
   rw [hP];exact ⟨rfl,gx5,zr,zr⟩
  ·cases h29
 | true =>
 rw [Zx] at hP;have hr3:=(b4.2.1 rfl).ok hbo;have e3:=b4.2.2 rfl
 have h3n:r3.nodes=b.nodes:=by rw [e3]<;>rfl
 have h3l:r3.last=b.last:=by rw [e3]<;>rfl
 have h3i:r3.i=b.i+1:=by rw [e3]<;>rfl
 have c5:=hin.lev 1 r3 (by decide) (by decide) (by omega) hr3;have b5:=hb 1 r3;generalize inner 1 r3=x5 at hP c5 b5;obtain ⟨t5,c⟩:=x5;simp only at c5 b5;have hco:=b5.ok hr3
 have hci:c.i<1000000:=by have:=hco.1;omega
 refine Z1f @Zra ?_;refine Z8 hG (c3) (gx:=gx3) fun gx4=>?_;refine Zu ?_;refine Zsf @Zra ?_;refine Z8 hG (c4) (gx:=gx4) fun gx5=>?_;refine Zu ?_;refine Z1f @Zra ?_
 have h3nn:r3.nodes.length<1000000:=by rw [h3n];exact hbn
 refine Z8 hG (Z0e G hG sl g r3 h3nn) (gx:=gx5) fun gx6=>?_;refine Zu ?_;rw [h3l]
 cases t5 with
 | false =>
  rw [Zqa] at hP;refine Z1f @Zra ?_;refine Z8 hG (c5) (gx:=gx6) fun gx7=>?_;refine Zu ?_;refine Z ?_;rw [hP];exact ⟨rfl,gx7,zr,zr⟩
 | true =>
 rw [Zx] at hP;have c6:=Zzi G hG sl hT g c hci wEndif;have b6:=Z6s sl.l (w:=wEndif) (by decide +kernel) c;generalize Zdp sl.l wEndif c=x6 at hP c6 b6;obtain ⟨t6,r4⟩:=x6;simp only at c6 b6
 cases t6 with
 | false =>
  rw [Zqa] at hP;refine Z1f @Zra ?_;refine Z8 hG (c5) (gx:=gx6) fun gx7=>?_;refine Zu ?_;refine Zsf @Zra ?_;refine Z8 hG (c6) (gx:=gx7) fun gx8=>?_;refine Zu ?_;refine Z ?_;rw [hP];exact ⟨rfl,gx8,zr,zr⟩
 | true =>
 rw [Zx] at hP;have hr4:=(b6.2.1 rfl).ok hco;have e4:=b6.2.2 rfl
 have h4l:r4.last=c.last:=by rw [e4]<;>rfl
 have h4n:r4.nodes.length<1000000:=by have:=hr4.1;have:=hr4.2;omega
 refine Z1f @Zra ?_;refine Z8 hG (c5) (gx:=gx6) fun gx7=>?_;refine Zu ?_;refine Zsf @Zra ?_;refine Z8 hG (c6) (gx:=gx7) fun gx8=>?_;refine Zu ?_;refine Zsf @Zra ?_;refine Z8 hG (Z0e G hG sl g r4 h4n) (gx:=gx8) fun gx9=>?_;refine Zu ?_;rw [h4l];refine Zsf @Zra ?_;rw [← Zt ⟨22,0,[],a.last,b.last,c.last⟩];refine Z8 hG (Zui G hG sl g r4 h4n ⟨22,0,[],a.last,b.last,c.last⟩) (gx:=gx9) fun gxa=>?_;refine Zu ?_;refine Z ?_;rw [hP];exact ⟨rfl,gxa,zr,zr⟩
theorem Zns (G:Nat→V) (hG:GOk G) (sl:Sl Tk) (hT:TkOk sl.l) (g:Nat) (r:RS) (hr:Zpl sl.l r) (inner:Inner) (hin:InnR G sl g inner r.i) (hb:Bals sl.l inner) :
  RdS 1012 [] G 219 [] sl g r (.bool (Zgw sl.l inner r).1) (Zgw sl.l inner r).2:=by
 have hTl:=hT.len
 have hri:r.i<1000000:=by have:=hr.1;omega
 have hrn:r.nodes.length<1000000:=by have:=hr.2;omega
 have hw:IntKind.i64.wrap ((r.i:Int)+1)=((r.i+1:Nat):Int):=by rw [w64 (by omega) (by omega)];omega
 intro gx;refine Zo 1000 83 [.tmp 2] Tryz.func219 fun X=>?_
 have hP:Zgw sl.l inner r=if (Z3 sl.l r.i).text=[40] then andThen (inner 1 r.adv) (Zdp sl.l [41])
  else if (Z3 sl.l r.i).text=wIf then Zne sl.l inner r
  else if (Z3 sl.l r.i).text=[116,114,117,101] then Zag r 3 0 []
  else if (Z3 sl.l r.i).text=[102,97,108,115,101] then Zag r 4 0 []
  else if (Z3 sl.l r.i).text≠[]∧(Z3 sl.l r.i).kind=1 then Zsj r (Z3 sl.l r.i).text
  else if (Z3 sl.l r.i).text≠[]∧(Z3 sl.l r.i).kind=2 then Zag r 2 0 (Z3 sl.l r.i).text
  else (false,r.err 80):=rfl
 have htl:=Z89 hT r.i;have hbr:=fun h=>Zcq G hG sl hT g r hr h inner hin hb
 have hne:(Z3 sl.l r.i).text≠[]→∃ t,sl.l[r.i]? = some t∧Z3 sl.l r.i=t∧r.i<sl.l.length:=by
  intro h;unfold Z3 at h ⊢
  cases hg:sl.l[r.i]? with
  | none=>rw [hg] at h;exact absurd rfl h
  | some t =>
   rw [hg] at h;simp only at h
   split at h
   ·rename_i q
    refine ⟨t,rfl,?_,(List.getElem?_eq_some_iff.1 hg).1⟩;simp only;rw [if_pos q]
   ·exact absurd rfl h
 have hadv:(Z3 sl.l r.i).text≠[]→Zpl sl.l r.adv:=fun h=>by
  obtain ⟨t,_,_,q⟩:=hne h;exact (Bal.adv q).ok hr
 generalize Zgw sl.l inner r=res at hP ⊢;refine Z1 ?_;refine Z1 ?_;refine Z8 hG (Zvi G hG sl hT g r hri) (gx:=gx) fun gx1=>?_;refine Zu ?_;generalize Z3 sl.l r.i=t at hP htl hadv hne ⊢;obtain ⟨k,t,p⟩:=t;simp only at hP htl hadv hne;refine Z9 (fun (_:Unit)=>st [(0,.ptr 8 g 0)] [(8,rdO 1012 [] sl g gx1 r),(1012,ndO gx1 r.nodes)]) (fun _=>res=(false,r.err 80)) (fun K1 hK1=>?_) ?_;rotate_left
 ·intro _ hP
  refine Zf @Zra ?_;rw [hP];exact ⟨rfl,gx1,zr,zr⟩
 refine AW.block ?_
 by_cases c1:t=[40]
 ·have e1:(t==[40])=true:=by simpa using c1
  have htn:t≠[]:=by rw [c1];simp
  rw [if_pos c1] at hP;have hc:=hin.lev 1 r.adv (by decide) (by decide) (Nat.lt_succ_self _) (hadv htn);have hbl:=(hb 1 r.adv).ok (hadv htn);generalize inner 1 r.adv=x at hc hP hbl;obtain ⟨b,a⟩:=x;simp only at hc hbl
  have hai:a.i<1000000:=by have:=hbl.1;omega
  refine Z1f e1 ?_;refine Z1f (zi @Zra hw) ?_
  cases b with
  | false =>
   rw [Zqa] at hP;refine Z1f @Zra ?_;refine Z8 hG (hc) (gx:=gx1) fun gx2=>?_;refine Zu ?_;refine Z ?_;rw [hP];exact ⟨rfl,gx2,zr,zr⟩
  | true =>
   rw [Zx] at hP;refine Z1f @Zra ?_;refine Z8 hG (hc) (gx:=gx1) fun gx2=>?_;refine Zu ?_;refine Zsf @Zra ?_;refine Z8 hG (Zzi G hG sl hT g a hai [41]) (gx:=gx2) fun gx3=>?_;refine Zu ?_;generalize Zdp sl.l [41] a=y at hP ⊢;obtain ⟨b,a2⟩:=y
   cases b with
   | true =>
    refine Zs ?_;refine Z ?_;rw [hP];exact ⟨rfl,gx3,zr,zr⟩
   | false =>
    refine Zs ?_;refine Z ?_;rw [hP];exact ⟨rfl,gx3,zr,zr⟩
 have e1:(t==[40])=false:=by simpa using c1
 rw [if_neg c1] at hP;refine Z1f e1 ?_;refine Zta rfl ?_
 try clear h2
 by_cases c2:t=wIf
 ·have e2:(t==[105,102])=true:=by rw [c2]<;>rfl
  have htn:t≠[]:=by rw [c2];decide
  obtain ⟨_,_,_,hlt⟩:=hne htn;rw [if_pos c2] at hP;refine Z1f e2 ?_;refine Z1 ?_;refine Z8 hG (hbr hlt) (gx:=gx1) fun gx2=>?_;refine Zu ?_;refine Z ?_;rw [hP];exact ⟨rfl,gx2,zr,zr⟩
 have e2:(t==[105,102])=false:=by rw [beq_eq_false_iff_ne];exact c2
 rw [if_neg c2] at hP;refine Z1f e2 ?_;refine Zta rfl ?_
 try clear h2
 by_cases c3:t=[116,114,117,101]
 ·have e3:(t==[116,114,117,101])=true:=by simpa using c3
  rw [if_pos c3] at hP;refine Z1f e3 ?_;refine Z1 ?_;rw [← Zt ⟨3,0,[],0,0,0⟩];refine Z8 hG (Zwi G hG sl g r hri hrn 3 0 [] 0 0 0) (gx:=gx1) fun gx2=>?_;refine Zu ?_;refine Z ?_;rw [hP];exact ⟨rfl,gx2,zr,zr⟩
 have e3:(t==[116,114,117,101])=false:=by simpa using c3
 rw [if_neg c3] at hP;refine Z1f e3 ?_;refine Zta rfl ?_
 try clear h2
 by_cases c4:t=[102,97,108,115,101]
 ·have e4:(t==[102,97,108,115,101])=true:=by simpa using c4
  rw [if_pos c4] at hP;refine Z1f e4 ?_;refine Z1 ?_;rw [← Zt ⟨4,0,[],0,0,0⟩];refine Z8 hG (Zwi G hG sl g r hri hrn 4 0 [] 0 0 0) (gx:=gx1) fun gx2=>?_;refine Zu ?_;refine Z ?_;rw [hP];exact ⟨rfl,gx2,zr,zr⟩
 have e4:(t==[102,97,108,115,101])=false:=by simpa using c4
 rw [if_neg c4] at hP;refine Z1f e4 ?_;refine Zta rfl ?_
 try clear h2
 by_cases c5:t=[]
 ·have e5:(t==[])=true:=by rw [c5]<;>rfl
  rw [if_neg (fun h=>h.1 c5),if_neg (fun h=>h.1 c5)] at hP;refine ZTf e5 hG ?_;refine Zta rfl ?_
  try clear h2
  refine ZTf e5 hG ?_;refine Z0 ?_;exact hK1 _ () hP (Zb zp zp)
 have e5:(t==[])=false:=by simpa using c5
 obtain ⟨t0,hg,ht0,hlt⟩:=hne c5
 have hgk:sl.l[r.i]? = some ⟨k,t,p⟩:=by rw [hg,ht0]
 by_cases k1:k=1
 ·have q1:(k==1)=true:=by simpa using k1
  rw [if_pos ⟨c5,k1⟩] at hP;refine ZTf (zi e5 (zi @Zra (zi hgk (zi @Zxb q1)))) hG ?_;refine Z1f @Zra ?_;refine Z8 hG (Zbw G hG sl g r hri hrn t htl) (gx:=gx1) fun gx2=>?_;refine Zu ?_;refine Z ?_;rw [hP];exact ⟨rfl,gx2,zr,zr⟩
 have q1:(k==1)=false:=by simpa using k1
 rw [if_neg (fun h=>k1 h.2)] at hP;refine ZTf (zi e5 (zi @Zra (zi hgk (zi @Zxb q1)))) hG ?_;refine Zta rfl ?_
 try clear h2
 by_cases k2:k=2
 ·have q2:(k==2)=true:=by simpa using k2
  rw [if_pos ⟨c5,k2⟩] at hP;refine ZTf (zi e5 (zi @Zra (zi hgk (zi @Zxb q2)))) hG ?_;refine Z1f @Zra ?_;rw [← Zt ⟨2,0,t,0,0,0⟩];refine Z8 hG (Zwi G hG sl g r hri hrn 2 0 t 0 0 0) (gx:=gx1) fun gx2=>?_;refine Zu ?_;refine Z ?_;rw [hP];exact ⟨rfl,gx2,zr,zr⟩
 have q2:(k==2)=false:=by simpa using k2
 rw [if_neg (fun h=>k2 h.2)] at hP;refine ZTf (zi e5 (zi @Zra (zi hgk (zi @Zxb q2)))) hG ?_;refine Z0 ?_;exact hK1 _ () hP (Zb zp (zpf @Zra))
end Go.Hs
end

section
namespace Go.Hs
inductive X where
 | leaf (op num:Int) (name:List UInt8)
 | un (op:Int) (a:X)
 | bin (op:Int) (a b:X)
 | ite (a b c:X)
 deriving DecidableEq,Inhabited
namespace X
def size:X→Nat
 | leaf .. => 1
 | un _ a=>a.size+1
 | bin _ a b=>a.size+b.size+1
 | ite a b c=>a.size+b.size+c.size+1
def depth:X→Nat
 | leaf .. => 1
 | un _ a=>a.depth+1
 | bin _ a b=>max a.depth b.depth+1
 | ite a b c=>max (max a.depth b.depth) c.depth+1
end X
def Ztd (n:XN):Bool :=
 if n.op<1∨n.op > 22∨n.num<0 then false else if n.op=2 then n.num==0 && isP n.name==2 else n.name==[] && (n.op==1 || n.num==0)
namespace X
def ok:X→Bool
 | leaf op num name=>Ztd ⟨op,num,name,-1,-1,-1⟩ && decide (op≤4)
 | un op a=>decide (5≤op) && decide (op≤6) && a.ok
 | bin op a b=>decide (7≤op) && decide (op≤21) && a.ok && b.ok
 | ite a b c=>a.ok && b.ok && c.ok
def row:X→Int→List XN
 | leaf op num name,_=>[⟨op,num,name,-1,-1,-1⟩]
 | un op a,k=>a.row k++[⟨op,0,[],k+a.size-1,-1,-1⟩]
 | bin op a b,k=>a.row k++b.row (k+a.size)++[⟨op,0,[],k+a.size-1,k+a.size+b.size-1,-1⟩]
 | ite a b c,k=>a.row k++b.row (k+a.size)++c.row (k+a.size+b.size)++[⟨22,0,[],k+a.size-1,k+a.size+b.size-1,k+a.size+b.size+c.size-1⟩]
theorem row_len:∀ (x:X) (k:Int),(x.row k).length=x.size
 | leaf ..,_=>rfl
 | un _ a,k=>by simp [row,size,row_len a]
 | bin _ a b,k=>by simp [row,size,row_len a,row_len b];omega
 | ite a b c,k=>by simp [row,size,row_len a,row_len b,row_len c];omega
theorem size_pos:∀ x:X,0<x.size
 | leaf .. => by simp [size]
 | un .. => by simp [size]
 | bin .. => by simp [size]
 | ite .. => by simp [size]
def top:X→Int→XN
 | leaf op num name,_=>⟨op,num,name,-1,-1,-1⟩
 | un op a,k=>⟨op,0,[],k+a.size-1,-1,-1⟩
 | bin op a b,k=>⟨op,0,[],k+a.size-1,k+a.size+b.size-1,-1⟩
 | ite a b c,k=>⟨22,0,[],k+a.size-1,k+a.size+b.size-1,k+a.size+b.size+c.size-1⟩
end X
theorem Z0g {op:Int} (h:3≤op∧op≤22) (a b c:Int):Ztd ⟨op,0,[],a,b,c⟩=true:=by
 unfold Ztd;rw [if_neg (by simp;omega),if_neg (by simp;omega)];simp
theorem Z30 {n:XN} (h:Ztd n=true) (h3:n.op≠1):n.num=0∧(n.op≠2→n.name=[])∧1≤n.op∧n.op≤22:=by
 unfold Ztd at h
 split at h
 ·cases h
 ·rename_i h0
  simp only [not_or,Int.not_lt] at h0
  split at h
  ·rename_i h2
   simp only [Bool.and_eq_true,beq_iff_eq] at h;exact ⟨h.1,fun hh=>absurd h2 hh,by omega,by omega⟩
  ·simp only [Bool.and_eq_true,beq_iff_eq,Bool.or_eq_true] at h
   exact ⟨h.2.resolve_left h3,fun _=>h.1,by omega,by omega⟩
theorem Zeg {n:XN} (h:Ztd n=true):1≤n.op∧n.op≤22:=by
 unfold Ztd at h
 split at h
 ·cases h
 ·rename_i h0
  simp only [not_or,Int.not_lt] at h0;omega
def Zi (op:Int):Nat:=if op≤4 then 0 else if op≤6 then 1 else if op≤21 then 2 else 3
def Z4b (l:List (Int × Int)):List Int:=[(l.map (·.1)).getD 0 (-1),(l.map (·.1)).getD 1 (-1),(l.map (·.1)).getD 2 (-1)]
def Zcc (l:List (Int × Int)):Int:=l.foldl (fun d p=>max d p.2) 0
def Znd (i:Int) (n:XN) (opn:List (Int × Int)):Option (List (Int × Int)) :=
 if Ztd n=false then none else if opn.length<Zi n.op then none
 else if Z4b (opn.drop (opn.length-Zi n.op))≠[n.a,n.b,n.c] then none
 else some (opn.take (opn.length-Zi n.op)++[(i,Zcc (opn.drop (opn.length-Zi n.op))+1)])
def Z0d:List XN→Int→List (Int × Int)→Option (List (Int × Int))
 | [],_,opn=>some opn
 | n::r,i,opn=>match Znd i n opn with
  | some o=>Z0d r (i+1) o
  | none=>none
def Zdb (l:List XN):Int:=match Z0d l 0 [] with
 | some [x]=>x.2
 | _=>0
def Zbq:Int→List X→List XN
 | _,[]=>[]
 | k,x::r=>x.row k++Zbq (k+x.size) r
def Zbf (F:List X):Nat:=(F.map X.size).sum
def Zzb:Int→List X→List (Int × Int)
 | _,[]=>[]
 | k,x::r=>(k+x.size-1,(x.depth:Int))::Zzb (k+x.size) r
theorem Zul (x:X) (r:List X):Zbf (x::r)=x.size+Zbf r:=by simp [Zbf]
theorem Zs5 (a b:List X):Zbf (a++b)=Zbf a+Zbf b:=by simp [Zbf]
theorem Zls:∀ (a b:List X) (k:Int),Zbq k (a++b)=Zbq k a++Zbq (k+Zbf a) b
 | [],b,k=>by simp [Zbq,Zbf]
 | x::a,b,k=>by
  rw [List.cons_append,Zbq,Zbq,Zls a b,List.append_assoc,Zul]
  congr 3;omega
theorem Z1i:∀ (a b:List X) (k:Int),Zzb k (a++b)=Zzb k a++Zzb (k+Zbf a) b
 | [],b,k=>by simp [Zzb,Zbf]
 | x::a,b,k=>by
  rw [List.cons_append,Zzb,Zzb,Z1i a b,List.cons_append,Zul]
  congr 3;omega
theorem Z0i:∀ (F:List X) (k:Int),(Zzb k F).length=F.length
 | [],_=>rfl
 | x::r,k=>by simp [Zzb,Z0i r]
theorem Znn:∀ (F:List X) (k:Int),(Zbq k F).length=Zbf F
 | [],_=>rfl
 | x::r,k=>by rw [Zbq,List.length_append,X.row_len,Znn r,Zul]
theorem Zc3 {F:List X} {p:Nat} (h:p≤F.length):∃ A B,F=A++B∧B.length=p:=⟨F.take (F.length-p),F.drop (F.length-p),(List.take_append_drop _ _).symm,by simp;omega⟩
theorem Z6w {F:List X} {n:XN} {o:List (Int × Int)} (hF:∀ x∈F,x.ok=true) (h:Znd (Zbf F) n (Zzb 0 F)=some o) :
  ∃ F',(∀ x∈F',x.ok=true)∧Zbq 0 F'=Zbq 0 F++[n]∧o=Zzb 0 F':=by
 unfold Znd at h;rw [Z0i] at h
 split at h
 ·cases h
 rename_i hw
 have hw:Ztd n=true:=by simpa using hw
 have hrg:=Zeg hw
 split at h
 ·cases h
 rename_i hlen;obtain ⟨A,B,rfl,hB⟩:=Zc3 (F:=F) (p:=Zi n.op) (by omega)
 have hAl:(A++B).length-Zi n.op=A.length:=by rw [List.length_append,hB];omega
 have hdrop:(Zzb 0 (A++B)).drop A.length=Zzb (Zbf A) B:=by
  rw [Z1i,List.drop_left' (Z0i _ _),Int.zero_add]
 have htake:(Zzb 0 (A++B)).take A.length=Zzb 0 A:=by
  rw [Z1i,List.take_left' (Z0i _ _)]
 rw [hAl,hdrop,htake] at h
 split at h
 ·cases h
 rename_i hpl;simp only [ne_eq,Decidable.not_not] at hpl;simp only [Option.some.injEq] at h;have hokA:∀ x∈A,x.ok=true:=fun x hx=>hF x (by simp [hx])
 have fin:∀ x:X,x.ok=true→x.row (Zbf A)=Zbq (Zbf A) B++[n]→(x.depth:Int)=Zcc (Zzb (Zbf A) B)+1 →
   ∃ F',(∀ x∈F',x.ok=true)∧Zbq 0 F'=Zbq 0 (A++B)++[n]∧o=Zzb 0 F':=by
  intro x hx hr hd;refine ⟨A++[x],fun y hy=>?_,?_,?_⟩
  ·rcases List.mem_append.1 hy with h1 | h1
   ·exact hokA y h1
   ·rw [List.mem_singleton.1 h1];exact hx
  ·rw [Zls,Zls,List.append_assoc,Int.zero_add,← hr]
   simp [Zbq]
  ·rw [← h,Z1i,Zzb,Zzb,hd]
   have h1:(x.row (Zbf A)).length=x.size:=X.row_len _ _;rw [hr,List.length_append,Znn,List.length_singleton] at h1;rw [Zs5]
   congr 4
   omega
 obtain ⟨op,num,name,a,b,c⟩:=n;simp only at hB hpl hrg;unfold Zi at hB
 split at hB
 ·rename_i h4
  obtain rfl:B=[]:=List.length_eq_zero_iff.1 hB;simp only [Z4b,Zzb,List.map_nil,List.getD_nil,List.cons.injEq,and_true] at hpl;obtain ⟨rfl,rfl,rfl⟩:=hpl;exact fin (.leaf op num name) (by unfold X.ok;rw [hw];simp;omega) rfl rfl
 rename_i h4;have hn:=Z30 hw (show op≠1 by omega);simp only at hn;obtain ⟨rfl,hnm,_⟩:=hn;obtain rfl:=hnm (by omega)
 split at hB
 ·rename_i h6
  obtain ⟨x,rfl⟩:=List.length_eq_one_iff.1 hB
  ·simp only [Z4b,Zzb,List.map_cons,List.map_nil,List.getD_cons_zero,List.getD_cons_succ,List.getD_nil,List.cons.injEq,and_true] at hpl
   obtain ⟨rfl,rfl,rfl⟩:=hpl;refine fin (.un op x) (by unfold X.ok;rw [hF x (by simp)];simp;omega) ?_ ?_
   ·simp [X.row,Zbq]
   ·simp [X.depth,Zzb,Zcc]
 rename_i h6
 split at hB
 ·rename_i h21
  obtain ⟨x,y,rfl⟩:∃ x y,B=[x,y]:=by
   match B,hB with
   | [x,y],_=>exact ⟨x,y,rfl⟩
  ·simp only [Z4b,Zzb,List.map_cons,List.map_nil,List.getD_cons_zero,List.getD_cons_succ,List.getD_nil,List.cons.injEq,and_true] at hpl
   obtain ⟨rfl,rfl,rfl⟩:=hpl;refine fin (.bin op x y) (by unfold X.ok;rw [hF x (by simp),hF y (by simp)];simp;omega) ?_ ?_
   ·simp [X.row,Zbq]
   ·simp [X.depth,Zzb,Zcc];omega
 ·rename_i h21
  obtain ⟨x,y,z,rfl⟩:∃ x y z,B=[x,y,z]:=by
   match B,hB with
   | [x,y,z],_=>exact ⟨x,y,z,rfl⟩
  ·simp only [Z4b,Zzb,List.map_cons,List.map_nil,List.getD_cons_zero,List.getD_cons_succ,List.cons.injEq,and_true] at hpl
   obtain ⟨rfl,rfl,rfl⟩:=hpl
   obtain rfl:op=22:=by omega
   refine fin (.ite x y z) (by unfold X.ok;rw [hF x (by simp),hF y (by simp),hF z (by simp)];rfl) ?_ ?_
   ·simp [X.row,Zbq]
   ·simp [X.depth,Zzb,Zcc];omega
theorem Zqr:∀ (l:List XN) (F:List X) (opn:List (Int × Int)),(∀ x∈F,x.ok=true)→Z0d l (Zbf F) (Zzb 0 F)=some opn →
  ∃ F',(∀ x∈F',x.ok=true)∧Zbq 0 F'=Zbq 0 F++l∧opn=Zzb 0 F'
 | [],F,opn,hF,h=>⟨F,hF,by simp,by simpa [Z0d] using h.symm⟩
 | n::r,F,opn,hF,h=>by
  rw [Z0d] at h
  cases hs:Znd (Zbf F) n (Zzb 0 F) with
  | none=>rw [hs] at h;cases h
  | some o =>
   rw [hs] at h;obtain ⟨F1,h1,h2,rfl⟩:=Z6w hF hs
   have hsz:(Zbf F:Int)+1=Zbf F1:=by
    have:=congrArg List.length h2;rw [List.length_append,Znn,Znn,List.length_singleton] at this;omega
   simp only at h;rw [hsz] at h;obtain ⟨F',h3,h4,h5⟩:=Zqr r F1 opn h1 h;exact ⟨F',h3,by rw [h4,h2];simp,h5⟩
theorem Zqf:∀ (l m:List XN) (i:Int) (opn:List (Int × Int)),Z0d (l++m) i opn=(Z0d l i opn).bind fun o=>Z0d m (i+l.length) o
 | [],m,i,opn=>by simp [Z0d]
 | n::r,m,i,opn=>by
  rw [List.cons_append,Z0d,Z0d]
  cases Znd i n opn with
  | none=>rfl
  | some o =>
   simp only;rw [Zqf r m]
   congr 1;funext o'
   congr 1
   simp only [List.length_cons];omega
theorem Zpf:∀ (x:X) (k:Int) (opn:List (Int × Int)),x.ok=true→Z0d (x.row k) k opn=some (opn++[(k+x.size-1,(x.depth:Int))])
 | .leaf op num name,k,opn,h=>by
  unfold X.ok at h;simp only [Bool.and_eq_true,decide_eq_true_eq] at h;simp only [X.row,Z0d]
  have hs:Znd k ⟨op,num,name,-1,-1,-1⟩ opn=some (opn++[(k,1)]):=by
   unfold Znd;rw [if_neg (by rw [h.1];simp)]
   have:Zi op=0:=by unfold Zi;rw [if_pos h.2]
   rw [this,if_neg (by omega),Nat.sub_zero,List.drop_length,List.take_length];rfl
  rw [hs];simp [Z0d,X.size,X.depth]
 | .un op a,k,opn,h=>by
  unfold X.ok at h;simp only [Bool.and_eq_true,decide_eq_true_eq] at h;rw [X.row,Zqf,Zpf a k opn h.2,Option.bind_some,X.row_len,Z0d]
  have hp:Zi op=1:=by unfold Zi;rw [if_neg (by omega),if_pos (by omega)]
  have hs:Znd (k+a.size) ⟨op,0,[],k+a.size-1,-1,-1⟩ (opn++[(k+a.size-1,(a.depth:Int))])=some (opn++[(k+a.size,(a.depth:Int)+1)]):=by
   unfold Znd
   have hl:(opn++[(k+(a.size:Int)-1,(a.depth:Int))]).length-1=opn.length:=by simp
   rw [if_neg (by rw [Z0g (by omega)];simp)];simp only [hp];rw [if_neg (by simp),hl,List.drop_left,List.take_left,if_neg (by simp [Z4b])]
   congr 4
   all_goals first | (simp [Zcc];done) | (simp [Zcc];omega)
  rw [hs];simp only [Z0d,X.size,X.depth]
  congr 4
  all_goals first | (simp;done) | (simp;omega) | omega
 | .bin op a b,k,opn,h=>by
  unfold X.ok at h;simp only [Bool.and_eq_true,decide_eq_true_eq] at h;rw [X.row,Zqf,Zqf,Zpf a k opn h.1.2,Option.bind_some,X.row_len,Zpf b _ _ h.2,Option.bind_some,Z0d]
  have hp:Zi op=2:=by unfold Zi;rw [if_neg (by omega),if_neg (by omega),if_pos (by omega)]
  have hlen:((a.row k++b.row (k+a.size)).length:Int)=a.size+b.size:=by rw [List.length_append,X.row_len,X.row_len];omega
  rw [hlen]
  have hs:Znd (k+(a.size+b.size)) ⟨op,0,[],k+a.size-1,k+a.size+b.size-1,-1⟩ (opn++[(k+a.size-1,(a.depth:Int))]++[(k+a.size+b.size-1,(b.depth:Int))])=some (opn++[(k+(a.size+b.size),max (a.depth:Int) b.depth+1)]):=by
   unfold Znd
   have hl:(opn++[(k+(a.size:Int)-1,(a.depth:Int))]++[(k+a.size+b.size-1,(b.depth:Int))]).length-2=opn.length:=by simp
   rw [if_neg (by rw [Z0g (by omega)];simp)];simp only [hp];rw [if_neg (by simp),hl,List.append_assoc,List.drop_left,List.take_left,if_neg (by simp [Z4b])]
   congr 4
   all_goals first | (simp [Zcc];done) | (simp [Zcc];omega)
  rw [hs];simp only [Z0d,X.size,X.depth]
  congr 4
  all_goals first | (simp;done) | (simp;omega) | omega
 | .ite a b c,k,opn,h=>by
  unfold X.ok at h;simp only [Bool.and_eq_true] at h;rw [X.row,Zqf,Zqf,Zqf,Zpf a k opn h.1.1,Option.bind_some,X.row_len,Zpf b _ _ h.1.2,Option.bind_some]
  have hlen1:k+((a.row k++b.row (k+a.size)).length:Int)=k+a.size+b.size:=by rw [List.length_append,X.row_len,X.row_len];omega
  rw [hlen1,Zpf c _ _ h.2,Option.bind_some,Z0d]
  have hlen:((a.row k++b.row (k+a.size)++c.row (k+a.size+b.size)).length:Int)=a.size+b.size+c.size:=by simp only [List.length_append,X.row_len];omega
  rw [hlen]
  have hs:Znd (k+(a.size+b.size+c.size)) ⟨22,0,[],k+a.size-1,k+a.size+b.size-1,k+a.size+b.size+c.size-1⟩ (opn++[(k+a.size-1,(a.depth:Int))]++[(k+a.size+b.size-1,(b.depth:Int))]++[(k+a.size+b.size+c.size-1,(c.depth:Int))])=some (opn++[(k+(a.size+b.size+c.size),max (max (a.depth:Int) b.depth) c.depth+1)]):=by
   unfold Znd;have hp:Zi 22=3:=rfl
   have hl:(opn++[(k+(a.size:Int)-1,(a.depth:Int))]++[(k+a.size+b.size-1,(b.depth:Int))]++[(k+a.size+b.size+c.size-1,(c.depth:Int))]).length-3=opn.length:=by simp
   rw [if_neg (by rw [Z0g (by omega)];simp)];simp only [hp];rw [if_neg (by simp),hl,List.append_assoc,List.append_assoc,List.drop_left,List.take_left,if_neg (by simp [Z4b])]
   congr 4
   all_goals first | (simp [Zcc];done) | (simp [Zcc];omega)
  rw [hs];simp only [Z0d,X.size,X.depth]
  congr 4
  all_goals first | (simp;done) | (simp;omega) | omega
theorem Zrg {x:X} (h:x.ok=true):Zdb (x.row 0)=x.depth:=by
 unfold Zdb;rw [Zpf x 0 [] h];rfl
theorem Zsg {l:List XN} (h:Zdb l≠0):∃ x:X,x.ok=true∧l=x.row 0:=by
 unfold Zdb at h
 split at h
 ·rename_i y hy
  obtain ⟨F,h1,h2,h3⟩:=Zqr l [] _ (by simp) (by simpa [Zbf,Zzb] using hy)
  match F,h3 with
  | [x],_=>exact ⟨x,h1 x (by simp),by simpa [Zbq] using h2.symm⟩
  | [],h3=>simp [Zzb] at h3
  | _::_::_,h3=>simp [Zzb] at h3
 ·exact absurd rfl h
theorem X.depth_pos:∀ x:X,0<x.depth
 | .leaf .. => by simp [depth]
 | .un .. => by simp [depth]
 | .bin .. => by simp [depth]
 | .ite .. => by simp [depth]
end Go.Hs
end

section
namespace Go.Hs
def sgT (op:Nat):List UInt8:=(tabL.getD op ⟨[],0,0⟩).text
def wNot:List UInt8:=[110,111,116]
def wTrue:List UInt8:=[116,114,117,101]
def wFalse:List UInt8:=[102,97,108,115,101]
inductive Gr:Int→List (List UInt8)→X→Prop where
 | num {n:Int} {t:List UInt8} {v:Int}:isP t=1→Zrb (Z3c t)=(v,0)→Gr n [t] (.leaf 1 v [])
 | name {n:Int} {t:List UInt8}:isP t=2→Gr n [t] (.leaf 2 0 t)
 | tr {n:Int}:Gr n [wTrue] (.leaf 3 0 [])
 | fa {n:Int}:Gr n [wFalse] (.leaf 4 0 [])
 | neg {n:Int} {ts:List (List UInt8)} {a:X}:n≤9→Gr 9 ts a→Gr n ([45]::ts) (.un 5 a)
 | not {n:Int} {ts:List (List UInt8)} {a:X}:n≤9→Gr 9 ts a→Gr n (wNot::ts) (.un 6 a)
 | par {n:Int} {ts:List (List UInt8)} {a:X}:Gr 1 ts a→Gr n ([40]::(ts++[[41]])) a
 | bin {n:Int} {op:Nat} {ta tb:List (List UInt8)} {a b:X}:7≤op→op≤21→n≤lvl op→Gr (lvl op) ta a→Gr (lvl op+1) tb b→Gr n (ta++sgT op::tb) (.bin op a b)
 | ite {n:Int} {ta tb tc:List (List UInt8)} {a b c:X}:Gr 1 ta a→Gr 1 tb b→Gr 1 tc c→Gr n (wIf::(ta++wThen::(tb++wElse::(tc++[wEndif])))) (.ite a b c)
theorem Gr.mono {n m:Int} {ts:List (List UInt8)} {x:X} (h:Gr n ts x) (hm:m≤n):Gr m ts x:=by
 cases h with
 | num h1 h2=>exact .num h1 h2
 | name h1=>exact .name h1
 | tr=>exact .tr
 | fa=>exact .fa
 | neg h1 h2=>exact .neg (by omega) h2
 | not h1 h2=>exact .not (by omega) h2
 | par h1=>exact .par h1
 | bin h1 h2 h3 h4 h5=>exact .bin h1 h2 (by omega) h4 h5
 | ite h1 h2 h3=>exact .ite h1 h2 h3
theorem Zvo:∀ op,7≤op→op≤21→1≤lvl op∧lvl op≤8∧ofI (sgT op) 2=some op∧isP (sgT op)≠0:=by
 have:((List.range 22).all fun op=>decide (7≤op→1≤lvl op∧lvl op≤8∧ofI (sgT op) 2=some op∧isP (sgT op)≠0))=true:=by decide +kernel
 intro op h1 h2;have:=List.all_eq_true.1 this op (List.mem_range.2 (by omega));simp only [decide_eq_true_eq] at this;exact this h1
theorem Gr.pos {n:Int} {ts:List (List UInt8)} {x:X} (h:Gr n ts x):0<ts.length:=by
 cases h<;>simp<;>omega
def Z4d (t:Tk):List UInt8:=if (isP t.text:Int)=t.kind then t.text else []
theorem Zn6 {l:List Tk} {i:Nat} {w:List UInt8} (h:(l.map Z4d)[i]? = some w):(Z3 l i).text=w∧(Z3 l i).kind=isP w:=by
 have hk:=Z8g l i
 have:(Z3 l i).text=w:=by
  rw [List.getElem?_map] at h;unfold Z3
  cases hg:l[i]? with
  | none=>rw [hg] at h;cases h
  | some t =>
   rw [hg] at h;simp only [Option.map_some,Option.some.injEq] at h;simp only;rw [← h];unfold Z4d
   split<;>rfl
 exact ⟨this,by rw [← hk,this]⟩
theorem Zo6 {l:List Tk} {i:Nat} (h:i<l.length):(l.map Z4d)[i]? = some (Z3 l i).text:=by
 have hg:(l.map Z4d)[i]? = some (Z4d l[i]):=by rw [List.getElem?_map,List.getElem?_eq_getElem h];rfl
 rw [hg,(Zn6 hg).1]
def Seg (l:List Tk) (i:Nat) (ts:List (List UInt8)):Prop:=∃ pre post,l.map Z4d=pre++(ts++post)∧pre.length=i
theorem Seg.left {l:List Tk} {i:Nat} {a b:List (List UInt8)} (h:Seg l i (a++b)):Seg l i a:=by
 obtain ⟨pre,post,e,hp⟩:=h;exact ⟨pre,b++post,by rw [e];simp,hp⟩
theorem Seg.right {l:List Tk} {i:Nat} {a b:List (List UInt8)} (h:Seg l i (a++b)):Seg l (i+a.length) b:=by
 obtain ⟨pre,post,e,hp⟩:=h;exact ⟨pre++a,post,by rw [e];simp,by simp [hp]⟩
theorem Seg.head {l:List Tk} {i:Nat} {w:List UInt8} {b:List (List UInt8)} (h:Seg l i (w::b)):(Z3 l i).text=w∧(Z3 l i).kind=isP w:=by
 obtain ⟨pre,post,e,hp⟩:=h;refine Zn6 ?_;rw [e,List.getElem?_append_right (by omega),hp,Nat.sub_self];rfl
theorem Seg.tail {l:List Tk} {i:Nat} {w:List UInt8} {b:List (List UInt8)} (h:Seg l i (w::b)):Seg l (i+1) b:=Seg.right (a:=[w]) h
theorem Seg.le {l:List Tk} {i:Nat} {b:List (List UInt8)} (h:Seg l i b):i+b.length≤l.length:=by
 obtain ⟨pre,post,e,hp⟩:=h;have:=congrArg List.length e;simp only [List.length_map,List.length_append] at this;omega
theorem Seg.app {l:List Tk} {i:Nat} {a b:List (List UInt8)} (h:Seg l i a) (h2:Seg l (i+a.length) b):Seg l i (a++b):=by
 obtain ⟨pre,post,e,hp⟩:=h;obtain ⟨pre2,post2,e2,hp2⟩:=h2;refine ⟨pre,post2,?_,hp⟩;rw [e] at e2
 have h1:pre++(a++post)=(pre++a)++post:=by simp
 rw [h1] at e2;obtain ⟨q1,q2⟩:=List.append_inj e2 (by simp [hp,hp2]);rw [e,q2];simp
theorem Seg.one {l:List Tk} {i:Nat} {w:List UInt8} (hi:i<l.length) (h:(Z3 l i).text=w):Seg l i [w]:=by
 have hg:=Zo6 hi;rw [h] at hg;obtain ⟨q1,q2⟩:=List.getElem?_eq_some_iff.1 hg;refine ⟨(l.map Z4d).take i,(l.map Z4d).drop (i+1),?_,?_⟩
 ·rw [← q2,List.singleton_append,← List.drop_eq_getElem_cons q1,List.take_append_drop]
 ·rw [List.length_take];omega
theorem Zar {l:List Tk} {inner:Inner} (h:Mono inner) (n:Int):∀ (m m':Nat) (r:RS),l.length<m+r.i→l.length<m'+r.i→Z2b l inner n m r=Z2b l inner n m' r
 | 0,m',r,h1,_=>by
  cases m' with
  | zero=>rfl
  | succ m' =>
   rw [Z2b,Z2b]
   cases ho:Zoh l r.i with
   | none=>rfl
   | some op=>have:=Z9f ho;omega
 | m+1,0,r,_,h2=>by
  rw [Z2b,Z2b]
  cases ho:Zoh l r.i with
  | none=>rfl
  | some op=>have:=Z9f ho;omega
 | m+1,m'+1,r,h1,h2=>by
  rw [Z2b,Z2b]
  cases ho:Zoh l r.i with
  | none=>rfl
  | some op =>
   simp only
   split
   ·rfl
   ·refine Ztc fun _=>?_
    have h3:r.i+1≤_:=h (lvl op+1) r.adv;exact Zar h n m m' _ (by simp only [Zxe];omega) (by simp only [Zxe];omega)
def after (r:RS) (k:Nat) (x:X):RS:=⟨r.i+k,r.nodes++x.row r.nodes.length,r.e⟩
theorem Zlc (r:RS) (k:Nat) (x:X):(after r k x).last=(r.nodes.length:Int)+x.size-1:=by
 show (((r.nodes++x.row r.nodes.length).length:Nat):Int)-1=_
 rw [List.length_append,X.row_len];omega
theorem Zrw {l:List Tk} {inner:Inner} {n:Int} {m:Nat} {r:RS} (h:Zm8 l n r.i):Z2b l inner n m r=(true,r):=by
 cases m with
 | zero=>rfl
 | succ m =>
  rw [Z2b]
  cases ho:Zoh l r.i with
  | none=>rfl
  | some op=>simp only;rw [if_pos (h op ho)]
theorem Zlw {l:List Tk} {i:Nat} {w:List UInt8} (h:(Z3 l i).text=w):Zoh l i=ofI w 2:=by rw [Z5i,h]
theorem Z7h {l:List Tk} {i:Nat} {w:List UInt8} (n:Int) (h:(Z3 l i).text=w) (hw:ofI w 2=none):Zm8 l n i:=by
 intro op ho;rw [Zlw h,hw] at ho;cases ho
theorem Z5w {l:List Tk} {r:RS} {w:List UInt8} (h:(Z3 l r.i).text=w∧(Z3 l r.i).kind=isP w) (hw:isP w≠0):Z5e l w r=(true,r.adv):=by
 unfold Z5e;rw [if_neg];rintro (q | q)
 ·rw [h.2] at q;omega
 ·exact q h.1
theorem Gr.climb {l:List Tk} {k:Int} {ts:List (List UInt8)} {x:X} (h:Gr k ts x):∀ (n:Int) (f M:Nat) (r:RS),Seg l r.i ts→n≤k→n≤9→l.length≤f+r.i→l.length<M+r.i →
  (∀ op,Zoh l (r.i+ts.length)=some op→lvl op≤k)→andThen (Zya l (Zm l f) r) (Z2b l (Zm l f) n M)=Z2b l (Zm l f) n M (after r ts.length x):=by
 have inner:∀ {k:Int} {ts:List (List UInt8)} {x:X},(∀ (n:Int) (f M:Nat) (r:RS),Seg l r.i ts→n≤k→n≤9→l.length≤f+r.i→l.length<M+r.i →
   (∀ op,Zoh l (r.i+ts.length)=some op→lvl op≤k)→andThen (Zya l (Zm l f) r) (Z2b l (Zm l f) n M)=Z2b l (Zm l f) n M (after r ts.length x)) →
   ∀ (f:Nat) (r:RS),Seg l r.i ts→k≤9→l.length+1≤f+r.i→Zm8 l k (r.i+ts.length)→Zm l f k r=(true,after r ts.length x):=by
  intro k ts x ih f r hs hk hf he
  cases f with
  | zero=>have:=hs.le;omega
  | succ f =>
   rw [Zm,ih k f (l.length+1) r hs (Int.le_refl _) hk (by omega) (by omega) (fun op ho=>by have:=he op ho;omega)];exact Zrw he
 have ends9:∀ i,Zm8 l 9 i:=fun i op ho=>by have:=Z5q ho;omega
 induction h with
 | @num k t v h1 h2 =>
  intro n f M r hs _ _ _ _ _;obtain ⟨e1,e2⟩:=hs.head
  have:Zya l (Zm l f) r=(true,after r 1 (.leaf 1 v [])):=by
   unfold Zya;rw [e2,e1,h1,if_pos (by decide)];unfold Z4c;rw [h2,if_neg (by simp)];rfl
  rw [this];rfl
 | @name k t h1 =>
  intro n f M r hs _ _ _ _ _;obtain ⟨e1,e2⟩:=hs.head
  have:Zya l (Zm l f) r=(true,after r 1 (.leaf 2 0 t)):=by
   unfold Zya;rw [e2,e1,h1,if_neg (by decide),if_pos (by decide)];rfl
  rw [this];rfl
 | @tr k =>
  intro n f M r hs _ _ _ _ _;obtain ⟨e1,e2⟩:=hs.head
  have:Zya l (Zm l f) r=(true,after r 1 (.leaf 3 0 [])):=by
   unfold Zya;rw [e2,e1];rfl
  rw [this];rfl
 | @fa k =>
  intro n f M r hs _ _ _ _ _;obtain ⟨e1,e2⟩:=hs.head
  have:Zya l (Zm l f) r=(true,after r 1 (.leaf 4 0 [])):=by
   unfold Zya;rw [e2,e1];rfl
  rw [this];rfl
 | @neg k ts a h1 h2 ih =>
  intro n f M r hs _ _ hf _ _;obtain ⟨e1,e2⟩:=hs.head;have hc:=inner ih f r.adv hs.tail (Int.le_refl _) (by show _≤f+(r.i+1);omega) (ends9 _)
  have:Zya l (Zm l f) r=(true,after r (ts.length+1) (.un 5 a)):=by
   have:Zya l (Zm l f) r=andThen (Zm l f 9 r.adv) fun a=>(true,a.put ⟨5,0,[],a.last,-1,-1⟩):=by
    unfold Zya;rw [e2,e1];rfl
   rw [this,hc,Zx,Zlc]
   show (true,RS.mk _ _ _)=(true,RS.mk _ _ _)
   congr 2
   ·show r.i+1+ts.length=r.i+(ts.length+1);omega
   ·show (r.nodes++_)++[_]=r.nodes++(_++[_])
    rw [List.append_assoc];rfl
  rw [this];rfl
 | @not k ts a h1 h2 ih =>
  intro n f M r hs _ _ hf _ _;obtain ⟨e1,e2⟩:=hs.head;have hc:=inner ih f r.adv hs.tail (Int.le_refl _) (by show _≤f+(r.i+1);omega) (ends9 _)
  have:Zya l (Zm l f) r=(true,after r (ts.length+1) (.un 6 a)):=by
   have:Zya l (Zm l f) r=andThen (Zm l f 9 r.adv) fun a=>(true,a.put ⟨6,0,[],a.last,-1,-1⟩):=by
    unfold Zya;rw [e2,e1];rfl
   rw [this,hc,Zx,Zlc]
   show (true,RS.mk _ _ _)=(true,RS.mk _ _ _)
   congr 2
   ·show r.i+1+ts.length=r.i+(ts.length+1);omega
   ·show (r.nodes++_)++[_]=r.nodes++(_++[_])
    rw [List.append_assoc];rfl
  rw [this];rfl
 | @par k ts a h1 ih =>
  intro n f M r hs _ _ hf _ _;obtain ⟨e1,e2⟩:=hs.head;have h41:=hs.tail.right.head;have hc:=inner ih f r.adv hs.tail.left (by decide) (by show _≤f+(r.i+1);omega) (Z7h 1 h41.1 (by decide +kernel))
  have:Zya l (Zm l f) r=(true,after r (ts.length+2) a):=by
   have:Zya l (Zm l f) r=andThen (Zm l f 1 r.adv) (Z5e l [41]):=by
    unfold Zya;rw [e2,e1];rfl
   rw [this,hc,Zx,Z5w h41 (by decide +kernel)]
   show (true,RS.mk _ _ _)=(true,RS.mk _ _ _)
   congr 2
   show r.i+1+ts.length+1=r.i+(ts.length+2);omega
  rw [this,Zx]
  congr 1
  show RS.mk _ _ _=RS.mk _ _ _
  congr 1
  simp only [List.length_cons,List.length_append,List.length_nil]
 | @bin k op ta tb a b h1 h2 h3 h4 h5 iha ihb =>
  intro n f M r hs hn hn9 hf hM ho;obtain ⟨l1,l2,l3,l4⟩:=Zvo op h1 h2;have hso:=hs.right.head
  have hop:Zoh l (r.i+ta.length)=some op:=by rw [Zlw hso.1,l3]
  rw [iha n f M r hs.left (by omega) hn9 hf hM (fun op' ho'=>by rw [hop] at ho';cases ho';exact Int.le_refl _)];have hle:=hs.le;simp only [List.length_append,List.length_cons] at hle;obtain ⟨M,rfl⟩:∃ m,M=m+1:=⟨M-1,by omega⟩;rw [Z2b];have:Zoh l (after r ta.length a).i=some op:=hop;rw [this];simp only;rw [if_neg (by omega)]
  have hend:Zm8 l (lvl op+1) (r.i+ta.length+1+tb.length):=by
   intro op' ho';have:=ho op' (by rw [← ho'];congr 1;simp only [List.length_append,List.length_cons];omega);omega
  have hc:=inner ihb f (after r ta.length a).adv hs.right.tail (by omega) (by show _≤f+(r.i+ta.length+1);omega) hend;rw [hc,Zx,Zlc,Zlc]
  have hL:l.length<M+(r.i+ta.length+1+tb.length):=by omega
  have he:RS.put (after (after r ta.length a).adv tb.length b) ⟨(op:Int),0,[],(r.nodes.length:Int)+a.size-1,((after r ta.length a).adv.nodes.length:Int)+b.size-1,-1⟩=after r (ta++sgT op::tb).length (.bin op a b):=by
   have hl:(after r ta.length a).adv.nodes=r.nodes++a.row r.nodes.length:=rfl
   show RS.mk _ _ _=RS.mk _ _ _
   congr 1
   ·show r.i+ta.length+1+tb.length=r.i+(ta++sgT op::tb).length
    simp only [List.length_append,List.length_cons];omega
   ·show (after r ta.length a).adv.nodes++b.row ((after r ta.length a).adv.nodes.length:Nat)++[_]=_
    rw [hl,List.length_append,X.row_len];simp only [X.row,List.append_assoc,Int.natCast_add]
  rw [he];exact Zar (Zde l f) n M (M+1) _ (by show _<M+(r.i+_);simp only [List.length_append,List.length_cons];omega) (by show _<M+1+(r.i+_);simp only [List.length_append,List.length_cons];omega)
 | @ite k ta tb tc a b c h1 h2 h3 iha ihb ihc =>
  intro n f M r hs _ _ hf _ _;obtain ⟨e1,e2⟩:=hs.head;have s1:=hs.tail;have s2:=s1.right;have s3:=s2.tail.right;have s4:=s3.tail.right;have c1:=inner iha f r.adv s1.left (by decide) (by show _≤f+(r.i+1);omega) (Z7h 1 s2.head.1 (by decide +kernel));have c2:=inner ihb f (after r.adv ta.length a).adv s2.tail.left (by decide) (by show _≤f+(r.i+1+ta.length+1);omega) (Z7h 1 s3.head.1 (by decide +kernel));have c3:=inner ihc f (after (after r.adv ta.length a).adv tb.length b).adv s3.tail.left (by decide) (by show _≤f+(r.i+1+ta.length+1+tb.length+1);omega) (Z7h 1 s4.head.1 (by decide +kernel))
  have:Zya l (Zm l f) r=(true,after r (wIf::(ta++wThen::(tb++wElse::(tc++[wEndif])))).length (.ite a b c)):=by
   have:Zya l (Zm l f) r=Z6a l (Zm l f) r:=by
    unfold Zya;rw [e2,e1];rfl
   rw [this];unfold Z6a
   rw [Z5w ⟨e1,e2⟩ (by decide +kernel),Zx,c1,Zx,Z5w s2.head (by decide +kernel),Zx,c2,Zx,Z5w s3.head (by decide +kernel),Zx,c3,Zx,
    Z5w s4.head (by decide +kernel),Zx,Zlc,Zlc,Zlc]
   show (true,RS.mk _ _ _)=(true,RS.mk _ _ _)
   congr 2
   ·show r.i+1+ta.length+1+tb.length+1+tc.length+1=_
    simp only [List.length_append,List.length_cons,List.length_nil];omega
   ·have q1:(after r.adv ta.length a).adv.nodes=r.nodes++a.row r.nodes.length:=rfl
    have q2:(after (after r.adv ta.length a).adv tb.length b).adv.nodes=(after r.adv ta.length a).adv.nodes++b.row ((after r.adv ta.length a).adv.nodes.length:Nat):=rfl
    show (after (after r.adv ta.length a).adv tb.length b).adv.nodes++c.row ((after (after r.adv ta.length a).adv tb.length b).adv.nodes.length:Nat)++[_]=_
    have q3:r.adv.nodes=r.nodes:=rfl;simp only [q2,q1,q3,List.length_append,X.row_len,X.row,List.append_assoc,Int.natCast_add,Int.add_assoc]
  rw [this];rfl
theorem Zd6 {t:List UInt8} (h:isP t=1):0≤(Zrb (Z3c t)).1:=by
 have hd:=(Z96 h).2
 have h1:(Z3c t).all Zja=true∧Z3c t≠[]:=by
  unfold Z3c
  split
  ·exact ⟨by decide,by simp⟩
  ·rename_i hn
   refine ⟨?_,hn⟩;rw [List.all_eq_true] at hd ⊢;exact fun x hx=>hd x ((List.dropWhile_sublist _).mem hx)
 obtain ⟨h1,h2⟩:=h1;generalize Z3c t=s at h1 h2
 have hh':(s.head? == some 45)=false:=by
  cases s with
  | nil=>exact absurd rfl h2
  | cons c r =>
   rw [beq_eq_false_iff_ne];intro hc
   have hc:c=45:=by simpa using hc
   subst hc;rw [List.all_cons] at h1
   revert h1
   simp [Zja]
 unfold Zrb;rw [hh'];simp only [Bool.false_eq_true,if_false,or_false]
 split
 ·exact Int.le_refl _
 ·unfold Zdv
  split
  ·exact Int.natCast_nonneg _
  ·exact Int.le_refl _
theorem Gr.ok {n:Int} {ts:List (List UInt8)} {x:X} (h:Gr n ts x):x.ok=true:=by
 induction h with
 | @num n t v h1 h2 =>
  have hp:=Zd6 h1;rw [h2] at hp;have hp:0≤v:=hp
  have:Ztd ⟨1,v,[],-1,-1,-1⟩=true:=by
   unfold Ztd;rw [if_neg (by simp;omega),if_neg (by simp)];rfl
  simp only [X.ok,this,Bool.true_and];rfl
 | @name n t h1 =>
  have:Ztd ⟨2,0,t,-1,-1,-1⟩=true:=by
   unfold Ztd;rw [if_neg (by simp),if_pos rfl,h1];rfl
  simp only [X.ok,this,Bool.true_and];rfl
 | tr=>rfl
 | fa=>rfl
 | neg _ _ ih=>simp only [X.ok,ih,Bool.and_true];rfl
 | not _ _ ih=>simp only [X.ok,ih,Bool.and_true];rfl
 | par _ ih=>exact ih
 | bin h1 h2 _ _ _ ih1 ih2 =>
  simp only [X.ok,ih1,ih2,Bool.and_true,Bool.and_eq_true,decide_eq_true_eq];omega
 | ite _ _ _ i1 i2 i3=>simp only [X.ok,i1,i2,i3];rfl
def Zvr (l:List Tk) (n:Int) (r r':RS):Prop:=∃ ts x,Gr n ts x∧Seg l r.i ts∧r'=after r ts.length x
theorem Zbp {l:List Tk} {w:List UInt8} {r:RS} (h:(Z5e l w r).1=true):Z5e l w r=(true,r.adv)∧Seg l r.i [w]:=by
 unfold Z5e at h ⊢
 split at h
 ·cases h
 ·rename_i hn
  rw [if_neg hn];simp only [not_or,Decidable.not_not] at hn;exact ⟨rfl,Seg.one (Z5f hn.1) hn.2⟩
theorem Zvd {x:Bool × RS} {k:RS→Bool × RS} (h:(andThen x k).1=true):x.1=true∧(k x.2).1=true∧andThen x k=k x.2:=by
 obtain ⟨b,r⟩:=x;cases b
 ·cases h
 ·exact ⟨rfl,h,rfl⟩
theorem Zfw (r:RS) (k:Nat) (x:X) (n:XN):(after r k x).put n=⟨r.i+k,r.nodes++(x.row r.nodes.length++[n]),r.e⟩:=by
 show RS.mk _ _ _=_
 congr 1
 show r.nodes++_++[n]=_
 rw [List.append_assoc]
theorem Zjba {t:List UInt8} {op:Nat} (h:ofI t 2=some op):sgT op=t:=by
 obtain ⟨s,h1,h2,_⟩:=Z2k h;unfold sgT;rw [List.getD_eq_getElem?_getD,h1];exact h2
theorem Ze8 {l:List Tk} {inner:Inner} (hin:∀ n r,n=1∨n=9→(inner n r).1=true→Zvr l n r (inner n r).2) {r:RS} (h:(Zya l inner r).1=true):Zvr l 9 r (Zya l inner r).2:=by
 have hk:=Z8g l r.i;have hlt:(Z3 l r.i).kind≠0→r.i<l.length:=Z5f
 have hP:Zya l inner r=if (Z3 l r.i).kind=1 then Z4c r (Z3 l r.i).text
  else if (Z3 l r.i).kind=2 then Zag r 2 0 (Z3 l r.i).text
  else if (Z3 l r.i).kind=0 then (false,r.err 80)
  else if (ofP (Z3 l r.i).text 1).2 then andThen (inner 9 r.adv) fun a=>(true,a.put ⟨(ofP (Z3 l r.i).text 1).1,0,[],a.last,-1,-1⟩)
  else if (Z3 l r.i).text=[40] then andThen (inner 1 r.adv) (Z5e l [41])
  else if (Z3 l r.i).text=wIf then Z6a l inner r
  else if (ofP (Z3 l r.i).text 0).2∧(Z3 l r.i).kind=3 then Zag r (ofP (Z3 l r.i).text 0).1 0 []
  else (false,r.err 80):=rfl
 generalize Zya l inner r=res at h hP ⊢
 by_cases k0:(Z3 l r.i).kind=0
 ·rw [k0] at hP
  rw [if_neg (by decide),if_neg (by decide),if_pos rfl] at hP;rw [hP] at h;cases h
 have hone:=Seg.one (l:=l) (i:=r.i) (hlt k0) rfl;generalize Z3 l r.i=t at hP hk hone k0;obtain ⟨k,t,p⟩:=t;simp only at hP hk hone k0
 by_cases k1:k=1
 ·rw [if_pos k1] at hP
  have ht:isP t=1:=by omega
  unfold Z4c at hP
  by_cases he:(Zrb (Z3c t)).2=0
  ·rw [if_neg (by simpa using he)] at hP
   refine ⟨[t],.leaf 1 (Zrb (Z3c t)).1 [],.num ht (by rw [← he]),hone,by rw [hP];rfl⟩
  ·rw [if_pos he] at hP
   rw [hP] at h;cases h
 rw [if_neg k1] at hP
 by_cases k2:k=2
 ·rw [if_pos k2] at hP
  exact ⟨[t],.leaf 2 0 t,.name (by omega),hone,by rw [hP];rfl⟩
 rw [if_neg k2,if_neg k0] at hP
 cases h1:ofI t 1 with
 | some op =>
  have e1:ofP t 1=(op,true):=by unfold ofP;rw [h1]
  rw [e1,if_pos rfl] at hP;rw [hP] at h;obtain ⟨q1,_,q3⟩:=Zvd h;obtain ⟨ts,x,g1,g2,g3⟩:=hin 9 r.adv (.inr rfl) q1;rw [q3] at hP;simp only at hP;rw [g3] at hP;have hs:Seg l r.i (t::ts):=hone.app (b:=ts) g2
  have hres:res.2=after r (ts.length+1) (.un op x):=by
   rw [hP,Zlc];simp only [Zfw]
   show RS.mk _ _ _=RS.mk _ _ _
   congr 1
   show r.i+1+ts.length=_
   omega
  rcases Zj6 h1 with ⟨rfl,rfl⟩ | ⟨rfl,rfl⟩
  ·exact ⟨_,_,.neg (Int.le_refl _) g1,hs,hres⟩
  ·exact ⟨_,_,.not (Int.le_refl _) g1,hs,hres⟩
 | none =>
 have e1:(ofP t 1).2=false:=by unfold ofP;rw [h1]
 rw [e1,if_neg (by simp)] at hP
 by_cases h2:t=[40]
 ·rw [if_pos h2] at hP
  subst h2;rw [hP] at h;obtain ⟨q1,q2,q3⟩:=Zvd h;obtain ⟨ts,x,g1,g2,g3⟩:=hin 1 r.adv (.inl rfl) q1;rw [q3,g3] at hP;rw [g3] at q2;obtain ⟨q4,q5⟩:=Zbp q2;rw [q4] at hP;refine ⟨_,_,.par g1,hone.app (b:=ts++[[41]]) (g2.app q5),?_⟩;rw [hP]
  show RS.mk _ _ _=RS.mk _ _ _
  congr 1
  show r.i+1+ts.length+1=_
  simp only [List.length_cons,List.length_append,List.length_nil];omega
 rw [if_neg h2] at hP
 by_cases h3:t=wIf
 ·rw [if_pos h3] at hP
  subst h3;unfold Z6a at hP;rw [hP] at h;obtain ⟨a1,a2,a3⟩:=Zvd h;obtain ⟨b1,b2⟩:=Zbp a1;rw [a3] at hP;rw [b1] at hP a2;simp only at hP a2;obtain ⟨c1,c2,c3⟩:=Zvd a2;obtain ⟨ta,xa,ga,sa,ra⟩:=hin 1 r.adv (.inl rfl) c1;rw [c3,ra] at hP;rw [ra] at c2;obtain ⟨d1,d2,d3⟩:=Zvd c2;obtain ⟨e1,e2⟩:=Zbp d1;rw [d3,e1] at hP;rw [e1] at d2;simp only at hP d2;obtain ⟨f1,f2,f3⟩:=Zvd d2;obtain ⟨tb,xb,gb,sb,rb⟩:=hin 1 _ (.inl rfl) f1;rw [f3,rb] at hP;rw [rb] at f2;obtain ⟨i1,i2,i3⟩:=Zvd f2;obtain ⟨j1,j2⟩:=Zbp i1;rw [i3,j1] at hP;rw [j1] at i2;simp only at hP i2;obtain ⟨k1,k2,k3⟩:=Zvd i2;obtain ⟨tc,xc,gc,sc,rc⟩:=hin 1 _ (.inl rfl) k1;rw [k3,rc] at hP;rw [rc] at k2;obtain ⟨m1,m2,m3⟩:=Zvd k2;obtain ⟨n1,n2⟩:=Zbp m1;rw [m3,n1] at hP;simp only [Zlc] at hP;refine ⟨_,_,.ite ga gb gc,?_,?_⟩
  ·exact hone.app (b:=_) (sa.app (e2.app (b:=_) (sb.app (j2.app (b:=_) (sc.app n2)))))
  ·rw [hP]
   show RS.mk _ _ _=RS.mk _ _ _
   congr 1
   ·show r.i+1+ta.length+1+tb.length+1+tc.length+1=_
    simp only [List.length_append,List.length_cons,List.length_nil];omega
   ·have q1:(after r.adv ta.length xa).adv.nodes=r.nodes++xa.row r.nodes.length:=rfl
    have q2:(after (after r.adv ta.length xa).adv tb.length xb).adv.nodes=(after r.adv ta.length xa).adv.nodes++xb.row ((after r.adv ta.length xa).adv.nodes.length:Nat):=rfl
    show (after (after r.adv ta.length xa).adv tb.length xb).adv.nodes++xc.row ((after (after r.adv ta.length xa).adv tb.length xb).adv.nodes.length:Nat)++[_]=_
    have q3:r.adv.nodes=r.nodes:=rfl;simp only [q2,q1,q3,List.length_append,X.row_len,X.row,List.append_assoc,Int.natCast_add,Int.add_assoc]
 rw [if_neg h3] at hP
 cases h4:ofI t 0 with
 | none =>
  have e0:(ofP t 0).2=false:=by unfold ofP;rw [h4]
  rw [e0,if_neg (by simp)] at hP;rw [hP] at h;cases h
 | some op =>
  have e0:ofP t 0=(op,true):=by unfold ofP;rw [h4]
  rw [e0] at hP
  have hk3:k=3:=by
   rcases Zpn h4 with ⟨rfl,_⟩ | ⟨rfl,_⟩
   ·rw [← hk];decide +kernel
   ·rw [← hk];decide +kernel
  rw [if_pos ⟨rfl,hk3⟩] at hP
  rcases Zpn h4 with ⟨rfl,rfl⟩ | ⟨rfl,rfl⟩
  ·exact ⟨_,_,.tr,hone,by rw [hP];rfl⟩
  ·exact ⟨_,_,.fa,hone,by rw [hP];rfl⟩
theorem Z31 {l:List Tk} {inner:Inner} (hin:∀ n r,1≤n→n≤9→(inner n r).1=true→Zvr l n r (inner n r).2∧Zm8 l n (inner n r).2.i) {n:Int} {r0:RS} :
  ∀ (m:Nat) (r:RS) (k:Int) (ts:List (List UInt8)) (x:X),Gr k ts x→Seg l r0.i ts→r=after r0 ts.length x→n≤k→(∀ op,Zoh l r.i=some op→lvl op≤k)→(Z2b l inner n m r).1=true→Zvr l n r0 (Z2b l inner n m r).2
 | 0,r,k,ts,x,g,s,e,hk,_,_=>⟨ts,x,g.mono hk,s,e⟩
 | m+1,r,k,ts,x,g,s,e,hk,ho,h=>by
  rw [Z2b] at h ⊢
  cases hop:Zoh l r.i with
  | none=>exact ⟨ts,x,g.mono hk,s,e⟩
  | some op =>
   rw [hop] at h;simp only at h ⊢
   by_cases hl:lvl op<n
   ·rw [if_pos hl];exact ⟨ts,x,g.mono hk,s,e⟩
   rw [if_neg hl] at h ⊢;obtain ⟨p1,p2,p3,p4⟩:=Z5q hop;obtain ⟨q1,q2,q3⟩:=Zvd h;obtain ⟨⟨tb,b,gb,sb,rb⟩,hend⟩:=hin (lvl op+1) r.adv (by omega) (by omega) q1;rw [q3];have hw:sgT op=(Z3 l r.i).text:=Zjba (by rw [← Z5i];exact hop);have hg2:Gr (lvl op) (ts++sgT op::tb) (.bin op x b) := .bin p1 p2 (Int.le_refl _) (g.mono (ho op hop)) gb
   have hri:r.i=r0.i+ts.length:=by rw [e];rfl
   have hone:Seg l r.i [sgT op]:=Seg.one (Z9f hop) hw.symm;have hs2:Seg l r0.i (ts++sgT op::tb):=s.app (by rw [← hri];exact hone.app (b:=tb) sb);rw [rb] at q2 hend ⊢
   have he2:(after r.adv tb.length b).put ⟨(op:Int),0,[],r.last,(after r.adv tb.length b).last,-1⟩=after r0 (ts++sgT op::tb).length (.bin op x b):=by
    rw [Zlc,Zfw,e,Zlc]
    show RS.mk _ _ _=RS.mk _ _ _
    congr 1
    ·show r0.i+ts.length+1+tb.length=_
     simp only [List.length_append,List.length_cons];omega
    ·have q1:(after r0 ts.length x).adv.nodes=r0.nodes++x.row r0.nodes.length:=rfl
     simp only [q1,List.length_append,X.row_len,X.row,List.append_assoc,Int.natCast_add]
   refine Z31 hin m _ (lvl op) _ _ hg2 hs2 he2 (by omega) ?_ q2;intro op' ho';have:=hend op' ho';omega
theorem Zbx {l:List Tk}:∀ (f:Nat) (n:Int) (r:RS),1≤n→n≤9→(Zm l f n r).1=true→Zvr l n r (Zm l f n r).2
 | 0,n,r,_,_,h=>by cases h
 | f+1,n,r,h1,h9,h=>by
  rw [Zm] at h ⊢;obtain ⟨q1,q2,q3⟩:=Zvd h;have hin:∀ n r,1≤n→n≤9→(Zm l f n r).1=true→Zvr l n r (Zm l f n r).2:=fun n r a b c=>Zbx f n r a b c;obtain ⟨ts,x,g,s,e⟩:=Ze8 (fun n r hn hb=>hin n r (by omega) (by omega) hb) q1;rw [q3];exact Z31 (fun n r a b c=>⟨hin n r a b c,Z5j c⟩) _ _ 9 ts x g s e h9 (fun op ho=>by have:=Z5q ho;omega) q2
end Go.Hs
end

section
namespace Go.Hs
open Go.Proofs
set_option maxRecDepth 10000
def Zl3:List (List UInt8):=[[],[],[],[],[],[45],[110,111,116],[42],[100,105,118],[109,111,100],[43],[45],[60],[60,61],[62],[62,61],[61],[60,62],[97,110,100],[111,114],[120,111,114],[105,109,112,108,105,101,115]]
theorem Zfs (op:Nat) (h:5≤op) (h2:op≤21):Zl3[op]? = some (sgT op):=by
 have:((List.range 22).all fun op=>decide (op<5) || Zl3[op]? == some (sgT op))=true:=by decide +kernel
 have:=List.all_eq_true.1 this op (List.mem_range.2 (by omega));simp only [Bool.or_eq_true,decide_eq_true_eq,beq_iff_eq] at this
 rcases this with h | h
 ·omega
 ·exact h
theorem Zlo (G:Nat→V) (hG:GOk G):Spec Tryz.prog G 167 [] Zl (fun v _=>v=Zd .new 1 V.str (.mk false Zl3)):=by
 refine Zo 0 2 [.tmp 0] Tryz.func167 fun X=>?_;refine Z1 ?_;refine Z1 ?_;intro g1;refine AW.weak (Z2 (fun o=>o==1) (l:=[(0,Zd .new 1 V.str (.mk false Zl3))]) (m:=[]) ?_ trivial) ?_
 ·refine Zs ?_
  exact Fz.sl (f:=V.str) (l:=Zl3) (m:=1) (g:=g1) (fz:=0) (c := .new) rfl zp (fun _=>rfl)
 exact Zr
def levL:List V:=[.int .i64 0,.int .i64 10,.int .i64 10,.int .i64 10,.int .i64 10,.int .i64 9,.int .i64 9,.int .i64 8,.int .i64 8,.int .i64 8,.int .i64 7,.int .i64 7,.int .i64 6,.int .i64 6,.int .i64 6,.int .i64 6,.int .i64 5,.int .i64 5,.int .i64 4,.int .i64 3,.int .i64 2,.int .i64 1,.int .i64 10]
theorem Zdaa (op:Nat) (h:op<23):levL[op]? = some (.int .i64 (lvl op)):=by
 match op,h with
 | 0,_=>rfl
 | 1,_=>rfl
 | 2,_=>rfl
 | 3,_=>rfl
 | 4,_=>rfl
 | 5,_=>rfl
 | 6,_=>rfl
 | 7,_=>rfl
 | 8,_=>rfl
 | 9,_=>rfl
 | 10,_=>rfl
 | 11,_=>rfl
 | 12,_=>rfl
 | 13,_=>rfl
 | 14,_=>rfl
 | 15,_=>rfl
 | 16,_=>rfl
 | 17,_=>rfl
 | 18,_=>rfl
 | 19,_=>rfl
 | 20,_=>rfl
 | 21,_=>rfl
 | 22,_=>rfl
 | n+23,h=>exact absurd h (by omega)
theorem Zcw (G:Nat→V) (hG:GOk G) (op:Nat) (hop:op<23):Spec Tryz.prog G 164 [.int .u8 op] Zl (fun v _=>v = .int .i64 (lvl op)):=by
 refine Zo 0 7 [.tmp 2] Tryz.func164 fun X=>?_;have hg:=Zdaa op hop;unfold levL at hg
 have h23:(op:Int)<23:=by omega
 refine Z1 ?_;refine Z1f (zi hg (zi h23 (zi @Int.natCast_nonneg (zi @Nat.mul_one @Nat.zero_add)))) ?_;intro g3;exact Zr
theorem Ze5 {t:List UInt8} {op:Nat} (h1:7≤op) (h2:op≤21):(t≠[]∧sgT op=t) ↔ ofI t 2=some op:=by
 constructor
 ·rintro ⟨_,rfl⟩
  exact (Zvo op h1 h2).2.2.1
 ·intro h
  exact ⟨(Z2k h).choose_spec.2.2.2,Zjba h⟩
theorem wu8R {z:Int} (h:0≤z) (h2:z<256):IntKind.u8.wrap z=z:=by
 unfold IntKind.wrap;simp [IntKind.signed,IntKind.bits];omega
theorem Zbz (G:Nat→V) (hG:GOk G) (sl:Sl Tk) (hT:TkOk sl.l) (g:Nat) (r:RS) (hr:r.i<1000000) (n:Int) :
  RdS 1012 [] G 221 [.int .i64 n] sl g r (.int .u8 (Zny sl.l n r.i)) r:=by
 intro gx;refine Zo 1000 32 [.tmp 4] Tryz.func221 fun X=>?_
 have hP:Zny sl.l n r.i=match ofI (Z3 sl.l r.i).text 2 with | some op=>if lvl op=n then op else 0 | none=>0:=rfl
 generalize Zny sl.l n r.i=res at hP ⊢;refine Z1 ?_;refine Z1 ?_;refine Z8 hG (Zvi G hG sl hT g r hr) (gx:=gx) fun gx1=>?_;refine Zu ?_;generalize (Z3 sl.l r.i).text=t at hP ⊢;refine Z1 ?_;refine Zc hG ?_ (s:=(Zlo G hG));refine Z1 ?_;refine AW.block ?_
 refine Zua 22 (fun k (_:Unit)=>st [(0,.ptr 8 g 0),(1,.int .i64 n),(5,.str t),(6,Zd .new 1 V.str (.mk false Zl3)),(7,.int .u8 k)] [(8,rdO 1012 [] sl g gx1 r),(1012,ndO gx1 r.nodes)])
  (fun k _=>7≤k∧∀ j,7≤j→j<k→¬ (ofI t 2=some j∧lvl j=n)) 7 () (by decide) ⟨Nat.le_refl _,fun j h1 h2=>by omega⟩
  (Zb zp zp) ?_
 rintro k _ hk ⟨hk7,hR⟩ L3 hL3;refine Z1 ?_;refine Za rfl (fun h12=>?_) (fun h12=>?_)
 ·have hk1:k≤21:=by have h12:decide ((k:Int)≤21)=true:=h12;simp at h12;omega
  have hg:=Zfs k (by omega) hk1
  have hnext:¬ (ofI t 2=some k∧lvl k=n)→∀ j,7≤j→j<k+1→¬ (ofI t 2=some j∧lvl j=n):=by
   intro h j h1 h2
   by_cases q:j=k
   ·subst q;exact h
   ·exact hR j h1 (by omega)
  have hwr:IntKind.u8.wrap ((k:Int)+1)=((k+1:Nat):Int):=by rw [wu8R (by omega) (by omega)];omega
  refine Z0 ?_;refine Zy ?_;refine AW.block ?_
  by_cases ht:t=[]
  ·have e1:(t==[])=true:=by rw [ht]<;>rfl
   refine Z1f e1 ?_;refine Z1f hwr ?_;exact hL3 _ ⟨by omega,(),⟨by omega,hnext (fun h=>(Ze5 hk7 hk1).2 h.1 |>.1 ht)⟩,Zb zp zp⟩
  have e1:(t==[])=false:=by simpa using ht
  by_cases hs:sgT k=t
  rotate_left
  ·have e2:(sgT k==t)=false:=by simpa using hs
   refine Z1f (zi e1 (zi hg e2)) ?_;refine Z1f hwr ?_;exact hL3 _ ⟨by omega,(),⟨by omega,hnext (fun h=>hs ((Ze5 hk7 hk1).2 h.1).2)⟩,Zb zp zp⟩
  have e2:(sgT k==t)=true:=by simpa using hs
  have ho:=(Ze5 hk7 hk1).1 ⟨ht,hs⟩;refine Z1f (zi e1 (zi hg e2)) ?_;refine Zc hG ?_ (s:=(Zcw G hG k (by omega)));rw [ho] at hP;simp only at hP
  by_cases hl:lvl k=n
  ·rw [if_pos hl] at hP
   have e3:(lvl k==n)=true:=by simpa using hl
   rw [e3];refine Z ?_;rw [hP];exact ⟨rfl,gx1,zr,zr⟩
  ·have e3:(lvl k==n)=false:=by simpa using hl
   rw [e3];refine Z1f hwr ?_;exact hL3 _ ⟨by omega,(),⟨by omega,hnext (fun h=>hl h.2)⟩,Zb zp zp⟩
 ·have hk1:k=22:=by have h12:decide ((k:Int)≤21)=false:=h12;simp at h12;omega
  refine Z0 ?_
  have hP:res=0:=by
   rw [hP]
   cases ho:ofI t 2 with
   | none=>rfl
   | some op =>
    simp only;rw [if_neg];intro hl;have:=Zts ho;exact hR op this.1 (by omega) ⟨ho,hl⟩
  refine Z ?_;rw [hP];exact ⟨rfl,gx1,zr,zr⟩
end Go.Hs
end

section
namespace Go.Hs
open Go.Proofs
set_option maxRecDepth 10000
theorem Z8y (G:Nat→V) (hG:GOk G) (sl:Sl Tk) (hT:TkOk sl.l) (g:Nat) (r:RS) (hr:Zpl sl.l r) (inner:Inner) (hin:InnR G sl g inner r.i) (hb:Bals sl.l inner) :
  RdS 1012 [] G 220 [] sl g r (.bool (unR sl.l inner r).1) (unR sl.l inner r).2:=by
 have hTl:=hT.len
 have hri:r.i<1000000:=by have:=hr.1;omega
 have hw:IntKind.i64.wrap ((r.i:Int)+1)=((r.i+1:Nat):Int):=by rw [w64 (by omega) (by omega)];omega
 intro gx;refine Zo 1000 29 [.tmp 2] Tryz.func220 fun X=>?_
 have hP:unR sl.l inner r=if (Z3 sl.l r.i).text=[45] then andThen (inner 9 r.adv) fun a=>(true,a.put ⟨5,0,[],a.last,-1,-1⟩)
  else if (Z3 sl.l r.i).text=[110,111,116] then andThen (inner 9 r.adv) fun a=>(true,a.put ⟨6,0,[],a.last,-1,-1⟩)
  else Zgw sl.l inner r:=rfl
 have hpr:=Zns G hG sl hT g r hr inner hin hb
 have hlt:(Z3 sl.l r.i).text≠[]→r.i<sl.l.length:=by
  intro h;rw [← Nat.not_le];intro h2;apply h;rw [Z6l h2]
 generalize unR sl.l inner r=res at hP ⊢;generalize Zgw sl.l inner r=pr at hP hpr;refine Z1 ?_;refine Z1 ?_;refine Z9 (fun (x:Nat × Int)=>st [(0,.ptr 8 g 0),(3,.int .u8 x.2)] [(8,rdO 1012 [] sl g x.1 r),(1012,ndO x.1 r.nodes)]) (fun x=>r.i<sl.l.length∧res=andThen (inner 9 r.adv) fun a=>(true,a.put ⟨x.2,0,[],a.last,-1,-1⟩)) (fun K1 hK1=>?_) ?_
 ·refine Z1 ?_
  refine Z8 hG (Zvi G hG sl hT g r hri) (gx:=gx) fun gx1=>?_;refine Zu ?_;generalize (Z3 sl.l r.i).text=t at hP hlt ⊢;refine AW.block ?_
  by_cases c1:t=[45]
  ·have e1:(t==[45])=true:=by simpa using c1
   rw [if_pos c1] at hP;refine Z1f e1 ?_;refine Z1 ?_;exact hK1 _ (gx1,5) ⟨hlt (by rw [c1];simp),hP⟩ (Zb zp zp)
  have e1:(t==[45])=false:=by simpa using c1
  rw [if_neg c1] at hP;refine Z1f e1 ?_;refine Zta rfl ?_
  try clear h2
  by_cases c2:t=[110,111,116]
  ·have e2:(t==[110,111,116])=true:=by simpa using c2
   rw [if_pos c2] at hP;refine Z1f e2 ?_;refine Z1 ?_;exact hK1 _ (gx1,6) ⟨hlt (by rw [c2];simp),hP⟩ (Zb zp zp)
  have e2:(t==[110,111,116])=false:=by simpa using c2
  rw [if_neg c2] at hP;refine Z1f e2 ?_;refine Z1 ?_;refine Z8 hG (hpr) (gx:=gx1) fun gx2=>?_;refine Zu ?_;refine Z ?_;rw [hP];exact ⟨rfl,gx2,zr,zr⟩
 rintro ⟨gx,op⟩ ⟨hl,hP⟩
 replace hP:res=andThen (inner 9 r.adv) fun a=>(true,a.put ⟨op,0,[],a.last,-1,-1⟩):=hP
 have had:Zpl sl.l r.adv:=(Bal.adv hl).ok hr;have hc:=hin.un r.adv (Nat.lt_succ_self _) had;have hbl:=(hb 9 r.adv).ok had;generalize inner 9 r.adv=x at hc hP hbl;obtain ⟨b,a⟩:=x;simp only at hc hbl
 have han:a.nodes.length<1000000:=by have:=hbl.1;have:=hbl.2;omega
 refine Z1f (zi @Zra hw) ?_
 cases b with
 | false =>
  rw [Zqa] at hP;refine Z1f @Zra ?_;refine Z8 hG (hc) (gx:=gx) fun gx2=>?_;refine Zu ?_;refine Z ?_;rw [hP];exact ⟨rfl,gx2,zr,zr⟩
 | true =>
  rw [Zx] at hP;refine Z1f @Zra ?_;refine Z8 hG (hc) (gx:=gx) fun gx2=>?_;refine Zu ?_;refine Zsf @Zra ?_;refine Z8 hG (Z0e G hG sl g a han) (gx:=gx2) fun gx3=>?_;refine Zu ?_;refine Zsf @Zra ?_;rw [← Zt ⟨op,0,[],a.last,-1,-1⟩];refine Z8 hG (Zui G hG sl g a han ⟨op,0,[],a.last,-1,-1⟩) (gx:=gx3) fun gx4=>?_;refine Zu ?_;refine Z ?_;rw [hP];exact ⟨rfl,gx4,zr,zr⟩
theorem Zeaa {l:List Tk} {f:Nat} (k:Nat) (r:RS):Bal l 0 r (Zpz l (Zm l f) k r).2:=by
 rw [Z9l (Zde l f) (fun _ _=>Z5j)];exact Zjd (Zvg (Zjc l f) r) fun _=>(Zvg (Zjc l f) r).trans (Zwo (Zjc l f) _ _ _)
theorem Z62 (l:List Tk) (inner:Inner) (n:Int) (m:Nat) (r:RS):Zhg l inner n (m+1) r=if Zny l n r.i=0 then (true,r) else andThen (inner (n+1) r.adv) fun a=>Zhg l inner n m (a.put ⟨Zny l n r.i,0,[],r.last,a.last,-1⟩):=rfl
theorem twoR_op {l:List Tk} {n:Int} {i:Nat} (h:Zny l n i≠0):i<l.length∧Zny l n i≤21:=by
 unfold Zny at h ⊢
 cases ho:ofI (Z3 l i).text 2 with
 | none=>rw [ho] at h;exact absurd rfl h
 | some op =>
  have h2:=Zts ho
  have:Zoh l i=some op:=by rw [Z5i,ho]
  refine ⟨Z9f this,?_⟩;simp only
  split<;>omega
theorem Zcz (G:Nat→V) (hG:GOk G) (sl:Sl Tk) (hT:TkOk sl.l) (g:Nat):∀ (f:Nat) (r:RS),sl.l.length<f+r.i→Zpl sl.l r →
  (∀ n,1≤n→n≤9→RdS 1012 [] G 142 [.int .i64 n] sl g r (.bool (Zm sl.l f n r).1) (Zm sl.l f n r).2) ∧
  RdS 1012 [] G 220 [] sl g r (.bool (Zm sl.l f 9 r).1) (Zm sl.l f 9 r).2:=by
 have hTl:=hT.len;intro f
 induction f with
 | zero=>intro r hf hr;have:=hr.1;omega
 | succ f ih =>
 intro r hf hr;have hin:InnR G sl g (Zm sl.l f) r.i:=⟨fun n r' h1 h9 hi hr'=>(ih r' (by omega) hr').1 n h1 h9,fun r' hi hr'=>(ih r' (by omega) hr').2⟩;have hbs:=Zjc sl.l f;have hun:=Z8y G hG sl hT g r hr _ hin hbs
 have hcl:∀ k:Nat,Zm sl.l (f+1) (9-k) r=Zpz sl.l (Zm sl.l f) k r:=by
  intro k
  rw [Z9l (Zde sl.l f) (fun _ _=>Z5j)]<;>rfl
 have h9:Zm sl.l (f+1) 9 r=unR sl.l (Zm sl.l f) r:=hcl 0;rw [h9];refine ⟨?_,hun⟩
 suffices h:∀ k:Nat,k≤8→RdS 1012 [] G 142 [.int .i64 (9-k)] sl g r (.bool (Zpz sl.l (Zm sl.l f) k r).1) (Zpz sl.l (Zm sl.l f) k r).2 by
  intro n h1 hn9;have:=h (9-n).toNat (by omega);rw [← hcl,show (9:Int)-((9-n).toNat:Nat)=n by omega] at this;exact this
 intro k
 induction k with
 | zero =>
  intro _ gx;refine Zo 1000 46 [.tmp 4] Tryz.func142 fun X=>?_;have hP:Zpz sl.l (Zm sl.l f) 0 r=unR sl.l (Zm sl.l f) r:=rfl;generalize Zpz sl.l (Zm sl.l f) 0 r=res at hP ⊢;generalize unR sl.l (Zm sl.l f) r=y at hP hun;refine Z1 ?_;refine Z1 ?_;refine Z1 ?_;refine Z1 ?_;refine Z8 hG (hun) (gx:=gx) fun gx1=>?_;refine Zu ?_;refine Z ?_;rw [hP];exact ⟨rfl,gx1,zr,zr⟩
 | succ k ihk =>
  intro hk gx;have ihk:=ihk (by omega);obtain ⟨n,hn⟩:∃ n:Int,n=8-k:=⟨_,rfl⟩
  have e9:(9:Int)-((k+1:Nat):Int)=n:=by omega
  have e9k:(9:Int)-(k:Int)=n+1:=by omega
  have hn1:1≤n∧n≤8:=by omega
  rw [e9];rw [e9k] at ihk;refine Zo 1000 46 [.tmp 4] Tryz.func142 fun X=>?_
  have hP:Zpz sl.l (Zm sl.l f) (k+1) r=andThen (Zpz sl.l (Zm sl.l f) k r) (Zhg sl.l (Zm sl.l f) n (sl.l.length+1)):=by rw [Zpz,hn]
  have hlb:=Zeaa (l:=sl.l) (f:=f) k r;generalize Zpz sl.l (Zm sl.l f) (k+1) r=res at hP ⊢;generalize Zpz sl.l (Zm sl.l f) k r=y at hP ihk hlb;obtain ⟨b,q0⟩:=y;simp only at ihk hlb
  have q10:(n==10)=false:=by rw [beq_eq_false_iff_ne];omega
  have q9:(n==9)=false:=by rw [beq_eq_false_iff_ne];omega
  have hw1:IntKind.i64.wrap (n+1)=n+1:=w64 (by omega) (by omega);refine Z1 ?_;refine Z1f q10 ?_;refine Z1f q9 ?_;refine Z0 ?_;refine Zy ?_
  cases b with
  | false =>
   rw [Zqa] at hP;refine Z1f hw1 ?_;refine Z8 hG (ihk) (gx:=gx) fun gx1=>?_;refine Zu ?_;refine Z ?_;rw [hP];exact ⟨rfl,gx1,zr,zr⟩
  | true =>
  rw [Zx] at hP;have hq0:=hlb.ok hr;refine Z1f hw1 ?_;refine Z8 hG (ihk) (gx:=gx) fun gx1=>?_;refine Zu ?_;refine Z0 ?_;refine AW.block ?_
  refine Zwc (fun (x:Nat × Nat × RS)=>st [(0,.ptr 8 g 0),(1,.int .i64 n)] [(8,rdO 1012 [] sl g x.1 x.2.2),(1012,ndO x.1 x.2.2.nodes)])
   (fun x=>res=Zhg sl.l (Zm sl.l f) n x.2.1 x.2.2∧Zpl sl.l x.2.2∧r.i≤x.2.2.i∧sl.l.length<x.2.1+x.2.2.i) (fun x=>x.2.1) (gx1,sl.l.length+1,q0) ⟨hP,hq0,hlb.up,Nat.lt_add_right _ (Nat.lt_succ_self _)⟩
   (Zb zp zp) ?_
  try clear hP
  rintro ⟨gy,m,q⟩ ⟨hP,hq,hqi,hm⟩ L3 hL3
  replace hP:res=Zhg sl.l (Zm sl.l f) n m q:=hP
  replace hq:Zpl sl.l q:=hq
  replace hqi:r.i≤q.i:=hqi
  replace hm:sl.l.length<m+q.i:=hm
  obtain ⟨m,rfl⟩:∃ m',m=m'+1:=⟨m-1,by have:=hq.1;omega⟩
  have hqI:q.i<1000000:=by have:=hq.1;omega
  have hqn:q.nodes.length<1000000:=by have:=hq.1;have:=hq.2;omega
  rw [Z62] at hP;have htw:=twoR_op (l:=sl.l) (n:=n) (i:=q.i);refine Z1 ?_;refine Z8 hG (Zbz G hG sl hT g q hqI n) (gx:=gy) fun gz=>?_;refine Zu ?_;generalize Zny sl.l n q.i=op at hP htw ⊢;refine Z1 ?_
  by_cases ho:op=0
  ·have e1:(((op:Nat):Int)==0)=true:=by rw [ho]<;>rfl
   rw [if_pos ho] at hP;rw [e1];refine Z ?_;rw [hP];exact ⟨rfl,gz,zr,zr⟩
  have e1:(((op:Nat):Int)==0)=false:=by rw [beq_eq_false_iff_ne];omega
  rw [if_neg ho] at hP;rw [e1];refine Z0 ?_;obtain ⟨hil,hop21⟩:=htw ho
  have hw:IntKind.i64.wrap ((q.i:Int)+1)=((q.i+1:Nat):Int):=by rw [w64 (by omega) (by omega)];omega
  have hadv:Zpl sl.l q.adv:=(Bal.adv hil).ok hq;have hc:=hin.lev (n+1) q.adv (by omega) (by omega) (by show r.i<q.i+1;omega) hadv;have hcb:=hbs (n+1) q.adv;generalize Zm sl.l f (n+1) q.adv=z at hP hc hcb;obtain ⟨b,a⟩:=z;simp only at hc hcb;have ha:=hcb.ok hadv;have haup:q.i+1≤a.i:=hcb.up
  have han:a.nodes.length<1000000:=by have:=ha.1;have:=ha.2;omega
  refine Z1 ?_;refine Z8 hG (Z0e G hG sl g q hqn) (gx:=gz) fun gz1=>?_;refine Zu ?_;refine Z1f (zi @Zra hw) ?_;refine Zy ?_
  cases b with
  | false =>
   rw [Zqa] at hP;refine Z1f (zi @Zra hw1) ?_;refine Z8 hG (hc) (gx:=gz1) fun gz2=>?_;refine Zu ?_;refine Za rfl (fun h11=>?_) (fun h11=>?_)
   ·refine Z ?_
    rw [hP];exact ⟨rfl,gz2,zr,zr⟩
   ·cases h11
  | true =>
   rw [Zx] at hP;refine Z1f (zi @Zra hw1) ?_;refine Z8 hG (hc) (gx:=gz1) fun gz2=>?_;refine Zu ?_;refine Z1 ?_;refine Z8 hG (Z0e G hG sl g a han) (gx:=gz2) fun gz3=>?_;refine Zu ?_;refine Zsf @Zra ?_;rw [← Zt ⟨op,0,[],q.last,a.last,-1⟩];refine Z8 hG (Zui G hG sl g a han ⟨op,0,[],q.last,a.last,-1⟩) (gx:=gz3) fun gz4=>?_;refine Zu ?_
   have hres:Zpl sl.l (a.put ⟨op,0,[],q.last,a.last,-1⟩):=⟨ha.1,by
    have h1:=hcb.cnt;have h2:=hq.2
    show (a.nodes++[_]).length≤a.i
    rw [List.length_append,List.length_singleton];have h3:a.nodes.length+(q.i+1)+0≤q.nodes.length+a.i:=h1
    omega⟩
   refine hL3 _ ⟨(gz4,m,a.put ⟨op,0,[],q.last,a.last,-1⟩),Nat.lt_succ_self _,⟨hP,hres,?_,?_⟩,Zb zp (by simp -implicitDefEqProofs only[go_sem,seval,↓reduceIte];try exact ⟨rfl,rfl⟩)⟩
   ·show r.i≤a.i
    omega
   ·show sl.l.length<m+a.i
    omega
end Go.Hs
end

section
namespace Go.Hs
open Go.Proofs
set_option maxRecDepth 10000
theorem Z7r (G:Nat→V) (s:List UInt8):Spec Tryz.prog G 290 [.str s,.str [48]] Zl (fun v _=>v = .str (s.dropWhile (· == 48))):=by
 refine Zvc fun X cargs _ _ hA=>?_;obtain ⟨x,y,rfl,hx,hy⟩:=hA.two;obtain ⟨s',rfl,rfl⟩:=hx.str_inv;obtain ⟨p',rfl,hp⟩:=hy.str_inv
 obtain rfl:p'=⟨#[48]⟩:=by
  obtain ⟨⟨l⟩⟩:=p';simp at hp;rw [hp]
 refine (show Calls Tryz.prog 290 _ _ _ from Any.strings_TrimLeft_one Zm0 s' 48 (by decide) X.w).mono ?_;rintro e w' ⟨rfl,rfl⟩;exact ⟨_,_,rfl,RowKit.Below.refl _ _,.str _ _ rfl,by simp [Lib.trimLeftB]⟩
theorem Zrl (G:Nat→V) (hG:GOk G) (sl:Sl Tk) (g:Nat) (r:RS) (hi:r.i<1000000) (hr:r.nodes.length<1000000) (op num:Int) (name:List UInt8) (x y z:Int) :
  RdS 1031 [.func (.func 256) [] []] G 279 [Zca ⟨op,num,name,x,y,z⟩] sl g r (.bool true) (Zag r op num name).2:=by
 intro gx;refine Zo 1000 15 [.tmp 4] Tryz.func279 fun X=>?_
 have hw:IntKind.i64.wrap ((r.i:Int)+1)=((r.i+1:Nat):Int):=by rw [w64 (by omega) (by omega)];omega
 simp only [Zub,Zra,Zt];refine Z1 ?_;intro g3;refine Z1f hw ?_;refine Z1 ?_;rw [← Zt ⟨op,num,name,x,y,z⟩];refine Z8 hG (Zhk G hG sl g r.adv hr ⟨op,num,name,x,y,z⟩ .any .nil (by decide)) (gx:=gx) fun gx'=>?_;refine Zu ?_;refine Z ?_;exact ⟨rfl,gx',by simp -implicitDefEqProofs only[go_sem,seval,↓reduceIte];rfl,by simp -implicitDefEqProofs only[go_sem,seval,↓reduceIte];rfl⟩
theorem Zxn (G:Nat→V) (hE:GExp G) (sl:Sl Tk) (hT:TkOk sl.l) (g:Nat) (r:RS) (hi:r.i<1000000) (w:List UInt8) :
  RdS 1031 [.func (.func 256) [] []] G 280 [.str w] sl g r (.bool (Z5e sl.l w r).1) (Z5e sl.l w r).2:=by
 have hG:=hE.ok;intro gx;refine Zo 1000 27 [.tmp 4] Tryz.func280 fun X=>?_
 have hw:IntKind.i64.wrap ((r.i:Int)+1)=((r.i+1:Nat):Int):=by rw [w64 (by omega) (by omega)];omega
 refine Z1 ?_;refine Z1 ?_;refine Z8 hG (Zql G hE sl hT g r hi) (gx:=gx) fun gx'=>?_;refine Zu ?_;refine Zsf @Zxb ?_;intro g5
 have hP:Z5e sl.l w r=if (Z3 sl.l r.i).kind=0∨(Z3 sl.l r.i).text≠w then (false,r.err 80) else (true,r.adv):=rfl
 generalize Z3 sl.l r.i=t at hP ⊢;obtain ⟨k,t,p⟩:=t;simp only at hP
 by_cases hk:k=0
 ·have e1:(k==0)=true:=by simpa using hk
  rw [if_pos (.inl hk)] at hP;refine Z1f e1 ?_;refine Za rfl (fun h2=>?_) (fun h2=>?_)
  ·refine Zf @Zra ?_
   rw [hP];exact ⟨rfl,gx',by simp -implicitDefEqProofs only[go_sem,seval,↓reduceIte];rfl,by simp -implicitDefEqProofs only[go_sem,seval,↓reduceIte];rfl⟩
  ·cases h2
 ·have e1:(k==0)=false:=by simpa using hk
  by_cases ht:t=w
  ·have e2:(t==w)=true:=by simpa using ht
   rw [if_neg (by rintro (h | h);exact hk h;exact h ht)] at hP;refine Zdc (by kernel_rfl) ?_;simp -implicitDefEqProofs only[go_sem,seval,↓reduceIte,e1,bne,e2];refine Zta rfl ?_
   ·refine Zf (zi @Zra hw) ?_
    rw [hP];exact ⟨rfl,gx',by simp -implicitDefEqProofs only[go_sem,seval,↓reduceIte];rfl,by simp -implicitDefEqProofs only[go_sem,seval,↓reduceIte];rfl⟩
  ·have e2:(t==w)=false:=by simpa using ht
   rw [if_pos (.inr ht)] at hP;refine Zdc (by kernel_rfl) ?_;simp -implicitDefEqProofs only[go_sem,seval,↓reduceIte,e1,bne,e2];refine Za rfl (fun h2=>?_) (fun h2=>?_)
   ·refine Zf @Zra ?_
    rw [hP];exact ⟨rfl,gx',by simp -implicitDefEqProofs only[go_sem,seval,↓reduceIte];rfl,by simp -implicitDefEqProofs only[go_sem,seval,↓reduceIte];rfl⟩
   ·cases h2
theorem Zh5 (t:List UInt8):(Z3c t).length≤t.length+1:=by
 unfold Z3c
 split
 ·simp
 ·exact Nat.le_trans ((List.dropWhile_sublist _).length_le) (Nat.le_succ _)
theorem Zgv (G:Nat→V) (hE:GExp G) (sl:Sl Tk) (g:Nat) (r:RS) (hi:r.i<1000000) (hr:r.nodes.length<1000000) (t:List UInt8) (ht:t.length<100000) :
  RdS 1031 [.func (.func 256) [] []] G 278 [.str t] sl g r (.bool (Z4c r t).1) (Z4c r t).2:=by
 have hG:=hE.ok;intro gx;refine Zo 1000 26 [.tmp 4] Tryz.func278 fun X=>?_;refine Z1 ?_;refine Z1 ?_;refine Zc hG ?_ (s:=(Z7r G t))
 have hT0:Z3c t=if t.dropWhile (· == 48)=[] then [48] else t.dropWhile (· == 48):=rfl
 have hP:Z4c r t=if (Zrb (Z3c t)).2≠0 then (false,r.err (Zrb (Z3c t)).2) else Zag r 1 (Zrb (Z3c t)).1 []:=rfl
 have hl:=Zh5 t;refine Z9 (fun (_:Unit)=>st [(0,.ptr 8 g 0),(1,.str (Z3c t))] [(8,rdO 1031 [.func (.func 256) [] []] sl g gx r),(1031,ndO gx r.nodes)]) (fun _=>True) (fun K1 hK1=>?_) ?_
 ·rw [hT0] at hK1
  refine Z1 ?_;refine Za rfl (fun h2=>?_) (fun h2=>?_)
  ·have h2:t.dropWhile (· == 48)=[]:=by simpa using h2
   rw [if_pos h2] at hK1;refine Z1 ?_;exact hK1 _ () trivial (Zb zp (by simp -implicitDefEqProofs only[go_sem,seval,↓reduceIte,Zub]))
  ·have h2:¬ t.dropWhile (· == 48)=[]:=by simpa using h2
   rw [if_neg h2] at hK1;refine Z0 ?_;exact hK1 _ () trivial (Zb zp (by simp -implicitDefEqProofs only[go_sem,seval,↓reduceIte,Zub]))
 intro _ _;generalize Z3c t=s at hl hP ⊢;refine Z1 ?_;refine Zn hG ?_ (s:=(Znz G hE.toGNum s (by omega)));generalize Zrb s=q at hP ⊢;obtain ⟨n,e⟩:=q;simp only at hP;refine Zsf @encR.eq_1 ?_;refine Zy ?_
 by_cases he:e=0
 ·have e1:(e==0)=true:=by simpa using he
  rw [if_neg (show ¬ e≠0 by simpa using he)] at hP;refine Zdc (by kernel_rfl) ?_;simp -implicitDefEqProofs only[go_sem,seval,↓reduceIte,bne,e1];refine Zta rfl ?_
  ·refine Z1 ?_
   rw [← Zt ⟨1,n,[],0,0,0⟩];refine Z8 hG (Zrl G hG sl g r hi hr 1 n [] 0 0 0) (gx:=gx) fun gx'=>?_;refine Zu ?_;refine Z ?_;rw [hP];exact ⟨rfl,gx',by simp -implicitDefEqProofs only[go_sem,seval,↓reduceIte],by simp -implicitDefEqProofs only[go_sem,seval,↓reduceIte]⟩
 ·have e1:(e==0)=false:=by simpa using he
  rw [if_pos he] at hP;refine Zdc (by kernel_rfl) ?_;simp -implicitDefEqProofs only[go_sem,seval,↓reduceIte,bne,e1];refine Za rfl (fun h4=>?_) (fun h4=>?_)
  ·refine Zf @Zra ?_
   rw [hP];exact ⟨rfl,gx,by simp -implicitDefEqProofs only[go_sem,seval,↓reduceIte];rfl,by simp -implicitDefEqProofs only[go_sem,seval,↓reduceIte];rfl⟩
  ·cases h4
end Go.Hs
end

section
namespace Go.Hs
open Go.Proofs
set_option maxRecDepth 10000
def Zk8 (G:Nat→V) (sl:Sl Tk) (g:Nat) (inner:Inner) (i0:Nat):Prop :=
 ∀ n r,1≤n→n≤9→i0<r.i→Zpl sl.l r→RdS 1031 [.func (.func 256) [] []] G 256 [.int .i64 n] sl g r (.bool (inner n r).1) (inner n r).2
theorem Zuo {l:List Tk} (hT:TkOk l) (i:Nat):(Z3 l i).text.length<100000:=by
 unfold Z3
 split
 ·rename_i t h
  split
  ·exact hT.text _ (List.mem_of_getElem? h)
  ·exact Nat.zero_lt_succ _
 ·exact Nat.zero_lt_succ _
theorem Zv7 (l:List Tk) (w:List UInt8) (r:RS):(Z5e l w r).1=true→(Z5e l w r).2=r.adv:=by
 unfold Z5e
 split
 ·intro h;cases h
 ·exact fun _=>rfl
def Zm3 (l:List Tk) (inner:Inner):List (List UInt8)→List Int→RS→Bool × RS
 | [],parts,r=>andThen (Z5e l wEndif r) fun r4=>(true,r4.put (Zs3 ⟨22,0,[],0,0,0⟩ parts))
 | w::ws,parts,r=>andThen (Z5e l w r) fun r1=>andThen (inner 1 r1) fun a=>Zm3 l inner ws (parts++[a.last]) a
theorem Zct (l:List Tk) (inner:Inner) (r:RS):Z6a l inner r=Zm3 l inner [wIf,wThen,wElse] [] r:=rfl
def brW:List (List UInt8):=[wIf,wThen,wElse]
theorem Z8p (G:Nat→V) (hE:GExp G) (sl:Sl Tk) (hT:TkOk sl.l) (g:Nat) (r:RS) (hr:Zpl sl.l r) (inner:Inner) (hin:Zk8 G sl g inner r.i) (hb:Bals sl.l inner) :
  RdS 1031 [.func (.func 256) [] []] G 281 [] sl g r (.bool (Z6a sl.l inner r).1) (Z6a sl.l inner r).2:=by
 have hG:=hE.ok;have hTl:=hT.len;intro gx;refine Zo 1000 37 [.tmp 2] Tryz.func281 fun X=>?_;refine Z1 ?_;refine Z1 ?_;refine Z1 ?_;refine AW.block ?_
 refine Zua 3 (fun k (x:Nat × Nat × List Int × RS)=>st [(0,.ptr 8 g 0),(3,grown 1027 x.1 1 x.2.2.1),(6,.agg (brW.map V.str)),(7,.int .i64 k)] [(1027,Zjb x.1 (V.int .i64) x.2.2.1),(8,rdO 1031 [.func (.func 256) [] []] sl g x.2.1 x.2.2.2),(1031,ndO x.2.1 x.2.2.2.nodes)])
  (fun k x=>Z6a sl.l inner r=Zm3 sl.l inner (brW.drop k) x.2.2.1 x.2.2.2∧Zpl sl.l x.2.2.2∧r.i≤x.2.2.2.i∧x.2.2.1.length=k) 0 (0,gx,[],r) (Nat.zero_le _) ⟨Zct _ _ _,hr,Nat.le_refl _,rfl⟩
  (Zb (by simp -implicitDefEqProofs only[go_sem,seval,↓reduceIte,List.map_cons,List.map_nil];exact ⟨rfl,rfl⟩) (by simp -implicitDefEqProofs only[go_sem,seval,↓reduceIte,Zub];try rfl)) ?_
 rintro k ⟨gp,gy,parts,q⟩ hk ⟨hP,hq,hqi,hpl⟩ L2 hL2;have hP:Z6a sl.l inner r=Zm3 sl.l inner (brW.drop k) parts q:=hP;have hq:Zpl sl.l q:=hq;have hqi:r.i≤q.i:=hqi;have hpl:parts.length=k:=hpl
 have hqI:q.i<1000000:=by have:=hq.1;omega
 refine Z1 ?_;refine Zy ?_;refine Za rfl (fun h4=>?_) (fun h4=>?_)
 ·have hk1:k<3:=by have h4:decide ((k:Int)<3)=true:=h4;simp at h4;omega
  refine Z0 ?_;refine Zy ?_;refine AW.block ?_
  obtain ⟨w,hw1,hw2⟩:∃ w,(brW.map V.str)[k]? = some (.str w)∧brW.drop k=w::brW.drop (k+1):=by
   have hkl:k<brW.length:=hk1;exact ⟨brW[k],by rw [List.getElem?_map,List.getElem?_eq_getElem hkl]<;>rfl,List.drop_eq_getElem_cons hkl⟩
  have hk1':(k:Int)<3:=by omega
  rw [hw2,Zm3] at hP;have heb:=Zgd sl.l w q;have het:=Zv7 sl.l w q;have hes:=Zxn G hE sl hT g q hqI w;generalize Z5e sl.l w q=y at hP heb hes het;obtain ⟨b,q1⟩:=y;simp only at heb hes het;refine Z1f (zi hw1 (zi hk1' (zi @Int.natCast_nonneg @Nat.mul_one))) ?_;refine Zy ?_
  cases b with
  | false =>
   rw [Zqa] at hP;refine Z1 ?_;refine Z8 hG (hes) (gx:=gy) fun gz=>?_;refine Zu ?_;refine Za rfl (fun h7=>?_) (fun h7=>?_)
   ·refine Z ?_
    rw [hP];exact ⟨rfl,gz,zr,zr⟩
   ·cases h7
  | true =>
   rw [Zx] at hP;have hb1:=heb.2 rfl;have hq1:=hb1.ok hq
   have hlt:r.i<q1.i:=by rw [het rfl];show r.i<q.i+1;omega
   have hc:=hin 1 q1 (by decide) (by decide) hlt hq1;have hb2:=hb 1 q1;generalize inner 1 q1=z at hP hc hb2;obtain ⟨b,a⟩:=z;simp only at hc hb2;have ha:=hb2.ok hq1
   have han:a.nodes.length<1000000:=by have:=ha.1;have:=ha.2;omega
   cases b with
   | false =>
    rw [Zqa] at hP;refine Z1f @Zra ?_;refine Z8 hG (hes) (gx:=gy) fun gz=>?_;refine Zu ?_;refine Zsf @Zra ?_;refine Z8 hG (hc) (gx:=gz) fun gz2=>?_;refine Zu ?_;refine Za rfl (fun h7=>?_) (fun h7=>?_)
    ·refine Z ?_
     rw [hP];exact ⟨rfl,gz2,zr,zr⟩
    ·cases h7
   | true =>
    rw [Zx] at hP;refine Z1f @Zra ?_;refine Z8 hG (hes) (gx:=gy) fun gz=>?_;refine Zu ?_;refine Zsf @Zra ?_;refine Z8 hG (hc) (gx:=gz) fun gz2=>?_;refine Zu ?_;refine Zta rfl ?_
    ·refine Z1 ?_
     refine Z8 hG (Zoi G hG sl g a han) (gx:=gz2) fun gz3=>?_;refine Zu ?_;intro g26;refine Zpb (f:=V.int .i64) (l:=parts) (l2:=[a.last]) (g:=gp) (fun _=>rfl) rfl rfl rfl zp (Zda (by omega) (by simp;omega)) fun g27=>?_;refine Zs ?_;refine Z1 ?_;refine hL2 _ ⟨hk1,(g27,gz3,parts++[a.last],a),⟨hP,ha,?_,?_⟩,Zb zw zp⟩
     ·show r.i≤a.i
      have:=hb2.up;omega
     ·show (parts++[a.last]).length=k+1
      rw [List.length_append,List.length_singleton,hpl]
 ·have hk1:k=3:=by have h4:decide ((k:Int)<3)=false:=h4;simp at h4;omega
  refine Z0 ?_;rw [hk1,show brW.drop 3=[] from rfl,Zm3] at hP;have heb:=Zgd sl.l wEndif q;have hes:=Zxn G hE sl hT g q hqI wEndif;generalize Z5e sl.l wEndif q=y at hP heb hes;obtain ⟨b,q1⟩:=y;simp only at heb hes;have hq1:=(heb.1).ok hq
  have hqn:q1.nodes.length<1000000:=by have:=hq1.1;have:=hq1.2;omega
  cases b with
  | false =>
   rw [Zqa] at hP;refine Z1 ?_;refine Z8 hG (hes) (gx:=gy) fun gz=>?_;refine Zu ?_;refine Z ?_;rw [hP];exact ⟨rfl,gz,zr,zr⟩
  | true =>
   rw [Zx] at hP;refine Z1 ?_;refine Z8 hG (hes) (gx:=gy) fun gz=>?_;refine Zu ?_;refine Z1c (fun o=>o==1027) [.ptr 8 g 0,Zca ⟨22,0,[],0,0,0⟩,Zd .new 1 (V.int .i64) (Zea parts)] [(8,rdO 1031 [.func (.func 256) [] []] sl g gz q1),(1031,ndO gz q1.nodes)] ⟨Ze _,Ze _,?_,trivial⟩ ?_ ?_
   ·exact Zyb (g:=gp) rfl zp (fun _=>rfl)
   ·simp only [Zp,Zz,and_true]
    exact ⟨FzO.keep rfl zp,FzO.keep rfl zp⟩
   have hp3:(Zea parts).l.length≤3:=by rw [Zza];omega
   refine Z8 hG (Zhk G hG sl g q1 hqn ⟨22,0,[],0,0,0⟩ .old (Zea parts) hp3) (gx:=gz) fun gz2=>?_;refine Zu ?_;refine Z ?_;rw [hP];exact ⟨rfl,gz2,zr,zr⟩
theorem Zsy (G:Nat→V) (hE:GExp G) (sl:Sl Tk) (hT:TkOk sl.l) (g:Nat) (r:RS) (hr:Zpl sl.l r) (inner:Inner) (hin:Zk8 G sl g inner r.i) (hb:Bals sl.l inner) :
  RdS 1031 [.func (.func 256) [] []] G 265 [] sl g r (.bool (Zya sl.l inner r).1) (Zya sl.l inner r).2:=by
 have hG:=hE.ok;have hTl:=hT.len
 have hri:r.i<1000000:=by have:=hr.1;omega
 have hrn:r.nodes.length<1000000:=by have:=hr.2;omega
 have hw:IntKind.i64.wrap ((r.i:Int)+1)=((r.i+1:Nat):Int):=by rw [w64 (by omega) (by omega)];omega
 intro gx;refine Zo 1000 107 [.tmp 2] Tryz.func265 fun X=>?_
 have hP:Zya sl.l inner r=if (Z3 sl.l r.i).kind=1 then Z4c r (Z3 sl.l r.i).text
  else if (Z3 sl.l r.i).kind=2 then Zag r 2 0 (Z3 sl.l r.i).text
  else if (Z3 sl.l r.i).kind=0 then (false,r.err 80)
  else if (ofP (Z3 sl.l r.i).text 1).2 then andThen (inner 9 r.adv) fun a=>(true,a.put ⟨(ofP (Z3 sl.l r.i).text 1).1,0,[],a.last,-1,-1⟩)
  else if (Z3 sl.l r.i).text=[40] then andThen (inner 1 r.adv) (Z5e sl.l [41])
  else if (Z3 sl.l r.i).text=wIf then Z6a sl.l inner r
  else if (ofP (Z3 sl.l r.i).text 0).2∧(Z3 sl.l r.i).kind=3 then Zag r (ofP (Z3 sl.l r.i).text 0).1 0 []
  else (false,r.err 80):=rfl
 have htl:=Zuo hT r.i;have hadv:(Z3 sl.l r.i).kind≠0→Zpl sl.l r.adv:=fun h=>(Bal.adv (Z5f h)).ok hr
 have hno0:(Z3 sl.l r.i).kind=0→(ofP (Z3 sl.l r.i).text 0).2=false:=fun h=>by
  unfold ofP
  cases ho:ofI (Z3 sl.l r.i).text 0 with
  | none=>rfl
  | some i =>
   have hk:=Z8g sl.l r.i;rw [h] at hk
   rcases Zpn ho with ⟨h,_⟩ | ⟨h,_⟩
   ·rw [h] at hk;exact absurd hk (by decide)
   ·rw [h] at hk;exact absurd hk (by decide)
 refine Z1 ?_;refine Z1 ?_;refine Z8 hG (Zql G hE sl hT g r hri) (gx:=gx) fun gx1=>?_;refine Zu ?_;refine Zsf @Zxb ?_;intro g3;generalize Z3 sl.l r.i=t at hP htl hadv hno0 ⊢;obtain ⟨k,t,p⟩:=t;simp only at hP htl hadv hno0;refine Z1 ?_;refine Zn hG ?_ (s:=(Z0r G hG t 1));generalize ofP t 1=o1 at hP ⊢;obtain ⟨op1,one⟩:=o1;simp only at hP;refine Zsf @encOf.eq_1 ?_
 refine Z9 (fun (_:Unit)=>st [(0,.ptr 8 g 0),(3,.ptr 1003 g3 0)] [(1003,.cells .new g3 0 [.int .u8 k,.str t,.int .i64 p]),(8,rdO 1031 [.func (.func 256) [] []] sl g gx1 r),(1031,ndO gx1 r.nodes)])
  (fun _=>(k=0∨(k≠0∧k≠1∧k≠2∧one=false∧t≠[40]∧t≠wIf))) (fun K1 hK1=>?_) ?_
 ·refine AW.block ?_
  by_cases k1:k=1
  ·have e1:(k==1)=true:=by simpa using k1
   rw [if_pos k1] at hP;refine Z1f e1 ?_;refine Za rfl (fun h2=>?_) (fun h2=>?_)
   ·refine Z1 ?_
    refine Z8 hG (Zgv G hE sl g r hri hrn t htl) (gx:=gx1) fun gx2=>?_;refine Zu ?_;refine Z ?_;rw [hP];exact ⟨rfl,gx2,zr,zr⟩
   ·cases h2
  have e1:(k==1)=false:=by simpa using k1
  rw [if_neg k1] at hP;refine Z1f e1 ?_;refine Zta rfl ?_
  try clear h2
  by_cases k2:k=2
  ·have e2:(k==2)=true:=by simpa using k2
   rw [if_pos k2] at hP;refine Z1f e2 ?_;refine Za rfl (fun h2=>?_) (fun h2=>?_)
   ·refine Z1 ?_
    rw [← Zt ⟨2,0,t,0,0,0⟩];refine Z8 hG (Zrl G hG sl g r hri hrn 2 0 t 0 0 0) (gx:=gx1) fun gx2=>?_;refine Zu ?_;refine Z ?_;rw [hP];exact ⟨rfl,gx2,zr,zr⟩
   ·cases h2
  have e2:(k==2)=false:=by simpa using k2
  rw [if_neg k2] at hP;refine Z1f e2 ?_;refine Zta rfl ?_
  try clear h2
  by_cases k0:k=0
  ·have e0:(k==0)=true:=by simpa using k0
   refine Z1f e0 ?_;refine Za rfl (fun h2=>?_) (fun h2=>?_)
   ·refine Z0 ?_
    exact hK1 _ () (.inl k0) (Zb zp zp)
   ·cases h2
  have e0:(k==0)=false:=by simpa using k0
  rw [if_neg k0] at hP;have had:=hadv k0;refine Z1f e0 ?_;refine Zta rfl ?_
  try clear h2
  refine Z1 ?_;refine Za rfl (fun h3=>?_) (fun h3=>?_)
  ·subst h3
   rw [if_pos rfl] at hP;have hc:=hin 9 r.adv (by decide) (by decide) (Nat.lt_succ_self _) had;have hbl:=(hb 9 r.adv).ok had;generalize inner 9 r.adv=x at hc hP hbl;obtain ⟨b,a⟩:=x;simp only at hc hbl
   have han:a.nodes.length<1000000:=by have:=hbl.1;have:=hbl.2;omega
   refine Z1f (zi @Zra hw) ?_
   cases b with
   | false =>
    refine Z1f @Zra ?_;refine Z8 hG (hc) (gx:=gx1) fun gx2=>?_;refine Zu ?_;refine Z ?_;rw [hP];exact ⟨rfl,gx2,zr,zr⟩
   | true =>
    refine Z1f @Zra ?_;refine Z8 hG (hc) (gx:=gx1) fun gx2=>?_;refine Zu ?_;refine Z8 hG (Zoi G hG sl g a han) (gx:=gx2) fun gx3=>?_;refine Zu ?_;intro g58;refine Z1c (fun o=>o==1058) [.ptr 8 g 0,Zca ⟨op1,0,[],0,0,0⟩,.slice .new false 1 [.int .i64 a.last]] [(8,rdO 1031 [.func (.func 256) [] []] sl g gx3 a),(1031,ndO gx3 a.nodes)] ⟨Ze _,Ze _,?_,trivial⟩ ?_ ?_
    ·exact Fz.sl (f:=V.int .i64) (l:=[a.last]) (m:=1) (g:=g58) (fz:=0) (c := .new) rfl zp (fun _=>rfl)
    ·simp only [Zp,Zz,and_true]
     exact ⟨FzO.keep rfl zp,FzO.keep rfl zp⟩
    refine Z8 hG (Zhk G hG sl g a han ⟨op1,0,[],0,0,0⟩ .old (.mk false [a.last]) (Nat.le_of_ble_eq_true rfl)) (gx:=gx3) fun gx4=>?_;refine Zu ?_;refine Z ?_;rw [hP];exact ⟨rfl,gx4,zr,zr⟩
  ·subst h3
   rw [if_neg (by simp)] at hP;refine Z1 ?_;refine Za rfl (fun h4=>?_) (fun h4=>?_)
   ·have h4:t=[40]:=by simpa using h4
    rw [if_pos h4] at hP;have hc:=hin 1 r.adv (by decide) (by decide) (Nat.lt_succ_self _) had;have hbl:=(hb 1 r.adv).ok had;generalize inner 1 r.adv=x at hc hP hbl;obtain ⟨b,a⟩:=x;simp only at hc hbl
    have hai:a.i<1000000:=by have:=hbl.1;omega
    refine Z1f (zi @Zra hw) ?_
    cases b with
    | false =>
     refine Z1f @Zra ?_;refine Z8 hG (hc) (gx:=gx1) fun gx2=>?_;refine Zu ?_;refine Z ?_;rw [hP];exact ⟨rfl,gx2,zr,zr⟩
    | true =>
     rw [Zx] at hP;refine Z1f @Zra ?_;refine Z8 hG (hc) (gx:=gx1) fun gx2=>?_;refine Zu ?_;refine Z8 hG (Zxn G hE sl hT g a hai [41]) (gx:=gx2) fun gx3=>?_;refine Zu ?_;generalize Z5e sl.l [41] a=y at hP ⊢;obtain ⟨b,a2⟩:=y
     cases b with
     | true =>
      refine Zs ?_;refine Z ?_;rw [hP];exact ⟨rfl,gx3,zr,zr⟩
     | false =>
      refine Zs ?_;refine Z ?_;rw [hP];exact ⟨rfl,gx3,zr,zr⟩
   ·have h4:¬ t=[40]:=by simpa using h4
    rw [if_neg h4] at hP;refine Z1 ?_;refine Za rfl (fun h5=>?_) (fun h5=>?_)
    ·have h5:t=wIf:=by
      have h5:(t==[105,102])=true:=h5;exact eq_of_beq h5
     rw [if_pos h5] at hP;refine Z1 ?_;refine Z8 hG (Z8p G hE sl hT g r hr inner hin hb) (gx:=gx1) fun gx2=>?_;refine Zu ?_;refine Z ?_;rw [hP];exact ⟨rfl,gx2,zr,zr⟩
    ·have h5:¬ t=wIf:=by
      have h5:(t==[105,102])=false:=h5;exact beq_eq_false_iff_ne.1 h5
     refine Z0 ?_;exact hK1 _ () (.inr ⟨k0,k1,k2,rfl,h4,h5⟩) (Zb zp zp)
 rintro _ hcase
 have hP2:Zya sl.l inner r=if (ofP t 0).2∧k=3 then Zag r (ofP t 0).1 0 [] else (false,r.err 80):=by
  rw [hP]
  rcases hcase with k0 | ⟨k0,k1,k2,k3,k4,k5⟩
  ·have:=hno0 k0
   subst k0;rw [if_neg (by decide),if_neg (by decide),if_pos rfl,this,if_neg (by simp)]
  ·rw [if_neg k1,if_neg k2,if_neg k0,k3,if_neg (by simp),if_neg k4,if_neg k5]
 try clear hP
 have hP:=hP2
 try clear hP2 hno0 hcase
 refine Z1 ?_;refine Zn hG ?_ (s:=(Z0r G hG t 0));generalize ofP t 0=o0 at hP ⊢;obtain ⟨op0,ok⟩:=o0;simp only at hP;refine Zsf @encOf.eq_1 ?_
 cases ok with
 | false =>
  rw [if_neg (by simp)] at hP;refine Z1 ?_;refine Zta rfl ?_
  ·refine Zf @Zra ?_
   rw [hP];exact ⟨rfl,gx1,zr,zr⟩
 | true =>
  by_cases k3:k=3
  ·have e3:(k==3)=true:=by simpa using k3
   rw [if_pos ⟨rfl,k3⟩] at hP;refine Z1f e3 ?_;refine Za rfl (fun h7=>?_) (fun h7=>?_)
   ·refine Z1 ?_
    rw [← Zt ⟨op0,0,[],0,0,0⟩];refine Z8 hG (Zrl G hG sl g r hri hrn op0 0 [] 0 0 0) (gx:=gx1) fun gx2=>?_;refine Zu ?_;refine Z ?_;rw [hP];exact ⟨rfl,gx2,zr,zr⟩
   ·cases h7
  ·have e3:(k==3)=false:=by simpa using k3
   rw [if_neg (fun h=>k3 h.2)] at hP;refine Z1f e3 ?_;refine Zta rfl ?_
   ·refine Zf @Zra ?_
    rw [hP];exact ⟨rfl,gx1,zr,zr⟩
end Go.Hs
end

section
namespace Go.Hs
open Go.Proofs
set_option maxRecDepth 10000
theorem Zz3 (l:List Tk) (inner:Inner) (n:Int) (m:Nat) (r:RS):Z2b l inner n (m+1) r=match Zoh l r.i with
  | none=>(true,r)
  | some op=>if lvl op<n then (true,r) else andThen (inner (lvl op+1) r.adv) fun a=>Z2b l inner n m (a.put ⟨op,0,[],r.last,a.last,-1⟩):=rfl
theorem Z69 {l:List Tk} {i:Nat}:((Z3 l i).kind=0∨(ofP (Z3 l i).text 2).2=false→Zoh l i=none)∧((Z3 l i).kind≠0→(ofP (Z3 l i).text 2).2=true→Zoh l i=some (ofP (Z3 l i).text 2).1):=by
 unfold Zoh ofP
 constructor
 ·rintro (h | h)
  ·rw [if_pos h]
  ·split
   ·rfl
   ·cases ho:ofI (Z3 l i).text 2 with
    | none=>rfl
    | some op=>rw [ho] at h;cases h
 ·intro h h2
  rw [if_neg h]
  cases ho:ofI (Z3 l i).text 2 with
  | none=>rw [ho] at h2;cases h2
  | some op=>rfl
theorem ofP_lt (t:List UInt8) (p:Int):(ofP t p).1<23:=by
 unfold ofP
 split
 ·rename_i h;exact Ztba h
 ·decide
theorem Zry (G:Nat→V) (hE:GExp G) (sl:Sl Tk) (hT:TkOk sl.l) (g:Nat):∀ (f:Nat) (n:Int) (r:RS),1≤n→n≤9→sl.l.length<f+r.i→Zpl sl.l r →
  RdS 1031 [.func (.func 256) [] []] G 256 [.int .i64 n] sl g r (.bool (Zm sl.l f n r).1) (Zm sl.l f n r).2:=by
 have hG:=hE.ok;have hTl:=hT.len;intro f
 induction f with
 | zero=>intro n r _ _ hf hr;have:=hr.1;omega
 | succ f ih =>
 intro n r hn1 hn9 hf hr gx;have hin:∀ i0,r.i≤i0→Zk8 G sl g (Zm sl.l f) i0:=fun i0 hi0 n' r' h1 h9 hi hr'=>ih n' r' h1 h9 (by omega) hr';have hbs:=Zjc sl.l f;have hP:Zm sl.l (f+1) n r=andThen (Zya sl.l (Zm sl.l f) r) (Z2b sl.l (Zm sl.l f) n (sl.l.length+1)):=rfl;generalize Zm sl.l (f+1) n r=res at hP ⊢;refine Zo 1000 65 [.tmp 4] Tryz.func256 fun X=>?_;have hah:=Zsy G hE sl hT g r hr _ (hin r.i (Nat.le_refl _)) hbs;have hab:=Zvg hbs r;generalize Zya sl.l (Zm sl.l f) r=y at hP hah hab;obtain ⟨b,q0⟩:=y;simp only at hah hab;refine Z1 ?_;refine Zy ?_
 cases b with
 | false =>
  rw [Zqa] at hP;refine Z1 ?_;refine Z8 hG (hah) (gx:=gx) fun gx1=>?_;refine Zu ?_;refine Za rfl (fun h2=>?_) (fun h2=>?_)
  ·refine Z ?_
   rw [hP];exact ⟨rfl,gx1,zr,zr⟩
  ·cases h2
 | true =>
 rw [Zx] at hP;have hq0:=hab.ok hr;refine Z1 ?_;refine Z8 hG (hah) (gx:=gx) fun gx1=>?_;refine Zu ?_;refine Z1 ?_;refine Zn hG ?_ (s:=(Zxg G hG));refine Zsf (zi @Zds (zi @Zin @Nat.le_refl)) ?_;intro g5;rw [Zbo _ ?hl]
 case hl=>rfl
 refine AW.block ?_
 refine Zwc (fun (x:Nat × Nat × RS)=>st [(0,.ptr 8 g 0),(1,.int .i64 n),(5,.ptr 1005 g5 0)] [(1005,.cells .new g5 0 tabC),(8,rdO 1031 [.func (.func 256) [] []] sl g x.1 x.2.2),(1031,ndO x.1 x.2.2.nodes)])
  (fun x=>res=Z2b sl.l (Zm sl.l f) n x.2.1 x.2.2∧Zpl sl.l x.2.2∧r.i≤x.2.2.i∧sl.l.length<x.2.1+x.2.2.i) (fun x=>x.2.1) (gx1,sl.l.length+1,q0) ⟨hP,hq0,hab.up,Nat.lt_add_right _ (Nat.lt_succ_self _)⟩
  (Zb zp zp) ?_
 try clear hP
 rintro ⟨gy,m,q⟩ ⟨hP,hq,hqi,hm⟩ L3 hL3
 replace hP:res=Z2b sl.l (Zm sl.l f) n m q:=hP
 replace hq:Zpl sl.l q:=hq
 replace hqi:r.i≤q.i:=hqi
 replace hm:sl.l.length<m+q.i:=hm
 obtain ⟨m,rfl⟩:∃ m',m=m'+1:=⟨m-1,by have:=hq.1;omega⟩
 have hqI:q.i<1000000:=by have:=hq.1;omega
 have hqn:q.nodes.length<1000000:=by have:=hq.1;have:=hq.2;omega
 rw [Zz3] at hP;have hop:=Z69 (l:=sl.l) (i:=q.i);have hlt23:=ofP_lt (Z3 sl.l q.i).text 2;have htl:=Zuo hT q.i
 have hbnd:∀ op,Zoh sl.l q.i=some op→1≤lvl op∧lvl op≤8:=fun op h=>by have:=Z5q h;exact ⟨this.2.2.1,this.2.2.2⟩
 have hilt:∀ op,Zoh sl.l q.i=some op→q.i<sl.l.length:=fun op h=>Z9f h;refine Z1 ?_;refine Z8 hG (Zql G hE sl hT g q hqI) (gx:=gy) fun gz=>?_;refine Zu ?_;refine Zsf @Zxb ?_;intro g6;generalize Zoh sl.l q.i=oa at hP hop hbnd hilt;generalize Z3 sl.l q.i=t at hop hlt23 htl ⊢;obtain ⟨k,t,p⟩:=t;simp only at hop hlt23 htl;refine Z1 ?_;refine Zn hG ?_ (s:=(Z0r G hG t 2));generalize ofP t 2=o2 at hop hlt23 ⊢;obtain ⟨op,ok⟩:=o2;simp only at hop hlt23;refine Zsf @encOf.eq_1 ?_;have hlv:=Ze9 op hlt23
 have hi23:(op:Int)<23:=by omega
 refine Z1f (zi hi23 (zi @Int.natCast_nonneg (zi hlv @Nat.zero_add))) ?_;refine Zy ?_
 cases ok with
 | false =>
  rw [hop.1 (.inr rfl)] at hP;refine Z1 ?_;refine Za rfl (fun h9=>?_) (fun h9=>?_)
  ·refine Z ?_
   rw [hP];exact ⟨rfl,gz,zr,zr⟩
  ·cases h9
 | true =>
 by_cases hk:k=0
 ·have e1:(k==0)=true:=by simpa using hk
  rw [hop.1 (.inl hk)] at hP;refine Z1f e1 ?_;refine Za rfl (fun h9=>?_) (fun h9=>?_)
  ·refine Z ?_
   rw [hP];exact ⟨rfl,gz,zr,zr⟩
  ·cases h9
 have e1:(k==0)=false:=by simpa using hk
 have hoa:=hop.2 hk rfl;rw [hoa] at hP;simp only at hP;obtain ⟨hl1,hl8⟩:=hbnd op hoa;have hil:=hilt op hoa;generalize lvl op=lv at hP hl1 hl8 ⊢
 by_cases hlt:lv<n
 ·have e2:decide (lv<n)=true:=by simpa using hlt
  rw [if_pos hlt] at hP;refine Z1f (zi e1 e2) ?_;refine Za rfl (fun h9=>?_) (fun h9=>?_)
  ·refine Z ?_
   rw [hP];exact ⟨rfl,gz,zr,zr⟩
  ·cases h9
 have e2:decide (lv<n)=false:=by simpa using hlt
 rw [if_neg hlt] at hP;refine Z1f (zi e1 e2) ?_;refine Z0 ?_
 have hw:IntKind.i64.wrap ((q.i:Int)+1)=((q.i+1:Nat):Int):=by rw [w64 (by omega) (by omega)];omega
 have hw2:IntKind.i64.wrap (lv+1)=lv+1:=w64 (by omega) (by omega);have hadv:Zpl sl.l q.adv:=(Bal.adv hil).ok hq;have hc:=ih (lv+1) q.adv (by omega) (by omega) (by show sl.l.length<f+(q.i+1);omega) hadv;have hcb:=hbs (lv+1) q.adv;generalize Zm sl.l f (lv+1) q.adv=z at hP hc hcb;obtain ⟨b,a⟩:=z;simp only at hc hcb;have ha:=hcb.ok hadv;have haup:q.i+1≤a.i:=hcb.up
 have han:a.nodes.length<1000000:=by have:=ha.1;have:=ha.2;omega
 refine Z1 ?_;refine Z8 hG (Zoi G hG sl g q hqn) (gx:=gz) fun gz1=>?_;refine Zu ?_;refine Z1f (zi @Zra hw) ?_;refine Zy ?_
 cases b with
 | false =>
  rw [Zqa] at hP;refine Z1f (zi @Zra hw2) ?_;refine Z8 hG (hc) (gx:=gz1) fun gz2=>?_;refine Zu ?_;refine Za rfl (fun h11=>?_) (fun h11=>?_)
  ·refine Z ?_
   rw [hP];exact ⟨rfl,gz2,zr,zr⟩
  ·cases h11
 | true =>
  rw [Zx] at hP;refine Z1f (zi @Zra hw2) ?_;refine Z8 hG (hc) (gx:=gz1) fun gz2=>?_;refine Zu ?_;refine Z1 ?_;refine Z8 hG (Zoi G hG sl g a han) (gx:=gz2) fun gz3=>?_;refine Zu ?_;intro g63;refine Z1c (fun o=>o==1063) [.ptr 8 g 0,Zca ⟨op,0,[],0,0,0⟩,.slice .new false 1 [.int .i64 q.last,.int .i64 a.last]] [(8,rdO 1031 [.func (.func 256) [] []] sl g gz3 a),(1031,ndO gz3 a.nodes),(1005,.cells .new g5 0 tabC)] ⟨Ze _,Ze _,?_,trivial⟩ ?_ ?_
  ·exact Fz.sl (f:=V.int .i64) (l:=[q.last,a.last]) (m:=1) (g:=g63) (fz:=0) (c := .new) rfl zp (fun _=>rfl)
  ·simp only [Zp,Zz,and_true]
   exact ⟨FzO.keep rfl zp,FzO.keep rfl zp,FzO.keep rfl zp⟩
  refine Z8 hG (Zhk G hG sl g a han ⟨op,0,[],0,0,0⟩ .old (.mk false [q.last,a.last]) (Nat.le_of_ble_eq_true rfl)) (gx:=gz3) fun gz4=>?_;refine Zu ?_
  have hres:Zpl sl.l (a.put ⟨op,0,[],q.last,a.last,-1⟩):=⟨ha.1,by
   have h1:=hcb.cnt;have h2:=hq.2
   show (a.nodes++[_]).length≤a.i
   rw [List.length_append,List.length_singleton];have h3:a.nodes.length+(q.i+1)+0≤q.nodes.length+a.i:=h1
   omega⟩
  refine hL3 _ ⟨(gz4,m,a.put ⟨op,0,[],q.last,a.last,-1⟩),Nat.lt_succ_self _,⟨hP,hres,?_,?_⟩,Zb zp (by simp -implicitDefEqProofs only[go_sem,seval,↓reduceIte];exact ⟨rfl,rfl⟩)⟩
  ·show r.i≤a.i
   omega
  ·show sl.l.length<m+a.i
   omega
end Go.Hs
end

section
namespace Go.Hs
def Z9a (rec:Int→Int) (has:Bool) (place last:Int):Option Int :=
 if has=false then (if place ≠ -1 then none else some last)
 else if place≠last then none else if rec last<0 then none else some (rec last-1)
def Zow (l:List XN) (i:Int):Option XN:=if i<0 then none else l[i.toNat]?
def Zhh (l:List XN):Nat→Int→Int
 | 0,_ => -1
 | f+1,i=>match Zow l i with
  | none => -1
  | some n=>bif Ztd n then
   match Z9a (Zhh l f) (Nat.blt 2 (Zi n.op)) n.c (i-1) with
   | none => -1
   | some l2=>match Z9a (Zhh l f) (Nat.blt 1 (Zi n.op)) n.b l2 with
    | none => -1
    | some l1=>match Z9a (Zhh l f) (Nat.blt 0 (Zi n.op)) n.a l1 with
     | none => -1
     | some l0=>l0+1
   else -1
theorem Zb8 (l:List XN):∀ f i,-1≤Zhh l f i
 | 0,_=>by simp [Zhh]
 | f+1,i=>by
  have ih:=Zb8 l f
  have hs:∀ has place last q,Z9a (Zhh l f) has place last=some q→q=last ∨ -1≤q:=by
   intro has place last q h;unfold Z9a at h
   split at h
   ·split at h
    ·cases h
    ·cases h;exact .inl rfl
   ·split at h
    ·cases h
    ·split at h
     ·cases h
     ·cases h;right;omega
  rw [Zhh]
  cases hn:Zow l i with
  | none=>simp
  | some n =>
   simp only
   have hi:0≤i:=by unfold Zow at hn;split at hn;cases hn;omega
   cases Ztd n with
   | false=>simp
   | true =>
    simp only [cond_true]
    cases h2:Z9a (Zhh l f) (Nat.blt 2 (Zi n.op)) n.c (i-1) with
    | none=>simp
    | some l2 =>
     simp only
     cases h1:Z9a (Zhh l f) (Nat.blt 1 (Zi n.op)) n.b l2 with
     | none=>simp
     | some l1 =>
      simp only
      cases h0:Z9a (Zhh l f) (Nat.blt 0 (Zi n.op)) n.a l1 with
      | none=>simp
      | some l0 =>
       simp only;have a2:=hs _ _ _ _ h2;have a1:=hs _ _ _ _ h1;have a0:=hs _ _ _ _ h0;omega
def At (l:List XN) (x:X) (b:Nat):Prop:=∃ pre post,l=pre++x.row b++post∧pre.length=b
theorem X.row_top:∀ (x:X) (k:Int),∃ body,x.row k=body++[x.top k]∧body.length+1=x.size
 | .leaf op num name,k=>⟨[],rfl,rfl⟩
 | .un op a,k=>⟨a.row k,rfl,by rw [X.row_len];rfl⟩
 | .bin op a b,k=>⟨a.row k++b.row (k+a.size),rfl,by rw [List.length_append,X.row_len,X.row_len];rfl⟩
 | .ite a b c,k=>⟨a.row k++b.row (k+a.size)++c.row (k+a.size+b.size),rfl,by rw [List.length_append,List.length_append,X.row_len,X.row_len,X.row_len];rfl⟩
theorem At.top {l:List XN} {x:X} {b:Nat} (h:At l x b):Zow l ((b:Int)+x.size-1)=some (x.top b):=by
 obtain ⟨pre,post,rfl,hb⟩:=h;obtain ⟨body,h1,h2⟩:=x.row_top b;unfold Zow;rw [if_neg (by omega)]
 have:((b:Int)+x.size-1).toNat=(pre++body).length:=by rw [List.length_append];omega
 rw [this,h1,show pre++(body++[x.top b])++post=(pre++body)++(x.top b::post) by simp];rw [List.getElem?_append_right (Nat.le_refl _)];simp
theorem At.get {l:List XN} {x:X} {b:Nat} (h:At l x b):l[b+x.size-1]? = some (x.top b):=by
 have:=h.top;unfold Zow at this;have hp:=x.size_pos;rw [if_neg (by omega)] at this;rw [← this];congr 1;omega
theorem At.un {l:List XN} {op:Int} {a:X} {b:Nat} (h:At l (.un op a) b):At l a b:=by
 obtain ⟨pre,post,rfl,hb⟩:=h;exact ⟨pre,_,by simp only [X.row,List.append_assoc];rfl,hb⟩
theorem At.bin {l:List XN} {op:Int} {x y:X} {b:Nat} (h:At l (.bin op x y) b):At l x b∧At l y (b+x.size):=by
 obtain ⟨pre,post,rfl,hb⟩:=h;refine ⟨⟨pre,y.row (b+x.size)++[X.top (.bin op x y) b]++post,by simp only [X.row,List.append_assoc];rfl,hb⟩,⟨pre++x.row b,[X.top (.bin op x y) b]++post,?_,by rw [List.length_append,X.row_len,hb]⟩⟩;simp only [X.row,List.append_assoc];rfl
theorem At.ite {l:List XN} {x y z:X} {b:Nat} (h:At l (.ite x y z) b):At l x b∧At l y (b+x.size)∧At l z (b+x.size+y.size):=by
 obtain ⟨pre,post,rfl,hb⟩:=h;refine ⟨⟨pre,y.row (b+x.size)++z.row (b+x.size+y.size)++[X.top (.ite x y z) b]++post,by simp only [X.row,List.append_assoc];rfl,hb⟩,⟨pre++x.row b,z.row (b+x.size+y.size)++[X.top (.ite x y z) b]++post,?_,by rw [List.length_append,X.row_len,hb]⟩,⟨pre++x.row b++y.row (b+x.size),[X.top (.ite x y z) b]++post,?_,by rw [List.length_append,List.length_append,X.row_len,X.row_len,hb]⟩⟩
 ·simp only [X.row,List.append_assoc];rfl
 ·simp only [X.row,List.append_assoc];rfl
theorem Zim (rec:Int→Int) (last:Int):Z9a rec false (-1) last=some last:=rfl
theorem Zee {rec:Int→Int} {last:Int} (h:0≤rec last):Z9a rec true last last=some (rec last-1):=by
 unfold Z9a;rw [if_neg (by simp),if_neg (by simp),if_neg (by omega)]
theorem Z7j:∀ (x:X) (l:List XN) (b f:Nat),x.ok=true→At l x b→x.size≤f→Zhh l f ((b:Int)+x.size-1)=b
 | .leaf op num name,l,b,f,hok,h,hf=>by
  unfold X.ok at hok;simp only [Bool.and_eq_true,decide_eq_true_eq] at hok;obtain ⟨f,rfl⟩:∃ f',f=f'+1:=⟨f-1,by simp only [X.size] at hf;omega⟩;rw [Zhh,h.top];simp only [X.top]
  have hp:Zi op=0:=by unfold Zi;rw [if_pos hok.2]
  rw [hok.1,hp,cond_true];simp only [show Nat.blt 2 0=false from rfl,show Nat.blt 1 0=false from rfl,show Nat.blt 0 0=false from rfl,Zim,X.size];omega
 | .un op a,l,b,f,hok,h,hf=>by
  unfold X.ok at hok;simp only [Bool.and_eq_true,decide_eq_true_eq] at hok;simp only [X.size] at hf;obtain ⟨f,rfl⟩:∃ f',f=f'+1:=⟨f-1,by omega⟩;have ia:=Z7j a l b f hok.2 h.un (by omega);rw [Zhh,h.top];simp only [X.top]
  have hp:Zi op=1:=by unfold Zi;rw [if_neg (by omega),if_pos (by omega)]
  rw [Z0g (by omega),hp,cond_true]
  have e:(b:Int)+(X.un op a).size-1-1=b+a.size-1:=by simp only [X.size];omega
  simp only [show Nat.blt 2 1=false from rfl,show Nat.blt 1 1=false from rfl,show Nat.blt 0 1=true from rfl,Zim,e];rw [Zee (by rw [ia];omega),ia];simp
 | .bin op x y,l,b,f,hok,h,hf=>by
  unfold X.ok at hok;simp only [Bool.and_eq_true,decide_eq_true_eq] at hok;simp only [X.size] at hf;obtain ⟨f,rfl⟩:∃ f',f=f'+1:=⟨f-1,by omega⟩;have ix:=Z7j x l b f hok.1.2 h.bin.1 (by omega);have iy:=Z7j y l (b+x.size) f hok.2 h.bin.2 (by omega);rw [Zhh,h.top];simp only [X.top]
  have hp:Zi op=2:=by unfold Zi;rw [if_neg (by omega),if_neg (by omega),if_pos (by omega)]
  rw [Z0g (by omega),hp,cond_true]
  have e:(b:Int)+(X.bin op x y).size-1-1=b+x.size+y.size-1:=by simp only [X.size];omega
  have ey:((b+x.size:Nat):Int)=b+x.size:=by omega
  rw [ey] at iy;simp only [show Nat.blt 2 2=false from rfl,show Nat.blt 1 2=true from rfl,show Nat.blt 0 2=true from rfl,Zim,e];rw [Zee (by rw [iy];omega),iy];simp only;rw [Zee (by rw [ix];omega),ix];simp
 | .ite x y z,l,b,f,hok,h,hf=>by
  unfold X.ok at hok;simp only [Bool.and_eq_true] at hok;simp only [X.size] at hf;obtain ⟨f,rfl⟩:∃ f',f=f'+1:=⟨f-1,by omega⟩;have ix:=Z7j x l b f hok.1.1 h.ite.1 (by omega);have iy:=Z7j y l (b+x.size) f hok.1.2 h.ite.2.1 (by omega);have iz:=Z7j z l (b+x.size+y.size) f hok.2 h.ite.2.2 (by omega);rw [Zhh,h.top];simp only [X.top];rw [Z0g (by omega),show Zi 22=3 from rfl,cond_true]
  have e:(b:Int)+(X.ite x y z).size-1-1=b+x.size+y.size+z.size-1:=by simp only [X.size];omega
  have ey:((b+x.size:Nat):Int)=b+x.size:=by omega
  have ez:((b+x.size+y.size:Nat):Int)=b+x.size+y.size:=by omega
  rw [ey] at iy;rw [ez] at iz;simp only [show Nat.blt 2 3=true from rfl,show Nat.blt 1 3=true from rfl,show Nat.blt 0 3=true from rfl,e];rw [Zee (by rw [iz];omega),iz];simp only;rw [Zee (by rw [iy];omega),iy];simp only;rw [Zee (by rw [ix];omega),ix];simp
theorem Ztb {rec:Int→Int} {has:Bool} {place last q:Int} (h:Z9a rec has place last=some q):has=false∧place = -1∧q=last∨has=true∧place=last∧0≤rec last∧q=rec last-1:=by
 unfold Z9a at h
 split at h
 ·rename_i h1
  split at h
  ·cases h
  ·rename_i h2;cases h;exact .inl ⟨h1,by simpa using h2,rfl⟩
 ·rename_i h1
  split at h
  ·cases h
  ·rename_i h2
   split at h
   ·cases h
   ·rename_i h3;cases h;exact .inr ⟨by simpa using h1,by simpa using h2,by omega,rfl⟩
theorem At.glue {l:List XN} {x:X} {b:Nat} (h:At l x b):∃ pre,l.take (b+x.size)=pre++x.row b∧pre.length=b:=by
 obtain ⟨pre,post,rfl,hb⟩:=h;refine ⟨pre,?_,hb⟩;rw [List.take_append_of_le_length (by rw [List.length_append,X.row_len];omega),List.take_of_length_le (by rw [List.length_append,X.row_len];omega)]
theorem Zaj {l:List XN} {x:X} {b:Nat} {pre:List XN} (h:l.take (b+x.size)=pre++x.row b) (hb:pre.length=b):At l x b :=
 ⟨pre,l.drop (b+x.size),by rw [← h,List.take_append_drop],hb⟩
theorem Zl6 {l:List XN} {i:Int} {n:XN} (h:Zow l i=some n):0≤i∧l[i.toNat]? = some n∧i.toNat<l.length:=by
 unfold Zow at h
 split at h
 ·cases h
 ·have:=List.getElem?_eq_some_iff.1 h
  exact ⟨by omega,h,this.1⟩
theorem Zoe (l:List XN):∀ (f:Nat) (i:Int),0≤Zhh l f i→∃ (x:X) (b:Nat),x.ok=true∧At l x b∧Zhh l f i=b∧(b:Int)+x.size=i+1
 | 0,i,h=>by simp [Zhh] at h
 | f+1,i,h=>by
  rw [Zhh] at h ⊢
  cases hn:Zow l i with
  | none=>rw [hn] at h;simp at h
  | some n =>
   rw [hn] at h;obtain ⟨hi,hg,hlt⟩:=Zl6 hn;simp only at h ⊢
   cases hw:Ztd n with
   | false=>rw [hw] at h;simp at h
   | true =>
   rw [hw,cond_true] at h;rw [cond_true];have hrg:=Zeg hw
   have htk:l.take (i.toNat+1)=l.take i.toNat++[n]:=by rw [List.take_add_one,hg];rfl
   cases h2:Z9a (Zhh l f) (Nat.blt 2 (Zi n.op)) n.c (i-1) with
   | none=>rw [h2] at h;simp at h
   | some l2 =>
   rw [h2] at h;simp only at h ⊢
   cases h1:Z9a (Zhh l f) (Nat.blt 1 (Zi n.op)) n.b l2 with
   | none=>rw [h1] at h;simp at h
   | some l1 =>
   rw [h1] at h;simp only at h ⊢
   cases h0:Z9a (Zhh l f) (Nat.blt 0 (Zi n.op)) n.a l1 with
   | none=>rw [h0] at h;simp at h
   | some l0 =>
   rw [h0] at h;simp only at h ⊢;obtain ⟨op,num,name,a,b,c⟩:=n;simp only at h2 h1 h0 hrg
   by_cases h4:op≤4
   ·have hp:Zi op=0:=by unfold Zi;rw [if_pos h4]
    rw [hp] at h2 h1 h0
    obtain ⟨_,rfl,rfl⟩ | ⟨hh,_⟩:=Ztb h2
    rotate_left
    ·exact absurd hh (by decide)
    obtain ⟨_,rfl,rfl⟩ | ⟨hh,_⟩:=Ztb h1
    rotate_left
    ·exact absurd hh (by decide)
    obtain ⟨_,rfl,rfl⟩ | ⟨hh,_⟩:=Ztb h0
    rotate_left
    ·exact absurd hh (by decide)
    refine ⟨.leaf op num name,i.toNat,by unfold X.ok;rw [hw];simp;omega,Zaj (pre:=l.take i.toNat) (by rw [X.size,htk];rfl) (by rw [List.length_take];omega),by omega,by simp only [X.size];omega⟩
   have hnn:=Z30 hw (show op≠1 by omega);simp only at hnn;obtain ⟨rfl,hnm,_⟩:=hnn;obtain rfl:=hnm (by omega)
   by_cases h6:op≤6
   ·have hp:Zi op=1:=by unfold Zi;rw [if_neg h4,if_pos h6]
    rw [hp] at h2 h1 h0
    obtain ⟨_,rfl,rfl⟩ | ⟨hh,_⟩:=Ztb h2
    rotate_left
    ·exact absurd hh (by decide)
    obtain ⟨_,rfl,rfl⟩ | ⟨hh,_⟩:=Ztb h1
    rotate_left
    ·exact absurd hh (by decide)
    obtain ⟨hh,_⟩ | ⟨_,rfl,hr,rfl⟩:=Ztb h0
    ·exact absurd hh (by decide)
    obtain ⟨x,bx,ok1,at1,e1,s1⟩:=Zoe l f _ hr;obtain ⟨pre,g1,g2⟩:=at1.glue;refine ⟨.un op x,bx,by unfold X.ok;rw [ok1];simp;omega,Zaj (pre:=pre) ?_ g2,by omega,by simp only [X.size];omega⟩;rw [show bx+(X.un op x).size=i.toNat+1 by simp only [X.size];omega,htk,show i.toNat=bx+x.size by omega,g1,X.row,List.append_assoc]
    congr 4;omega
   by_cases h21:op≤21
   ·have hp:Zi op=2:=by unfold Zi;rw [if_neg h4,if_neg h6,if_pos h21]
    rw [hp] at h2 h1 h0
    obtain ⟨_,rfl,rfl⟩ | ⟨hh,_⟩:=Ztb h2
    rotate_left
    ·exact absurd hh (by decide)
    obtain ⟨hh,_⟩ | ⟨_,rfl,hr1,rfl⟩:=Ztb h1
    ·exact absurd hh (by decide)
    obtain ⟨hh,_⟩ | ⟨_,rfl,hr0,rfl⟩:=Ztb h0
    ·exact absurd hh (by decide)
    obtain ⟨y,by',ok1,at1,e1,s1⟩:=Zoe l f _ hr1;rw [e1] at hr0 h0 h ⊢;obtain ⟨x,bx,ok0,at0,e0,s0⟩:=Zoe l f _ hr0;obtain ⟨prey,gy1,gy2⟩:=at1.glue;obtain ⟨prex,gx1,gx2⟩:=at0.glue
    have eby:by'=bx+x.size:=by omega
    have hpy:prey=prex++x.row bx:=by
     have:(l.take (by'+y.size)).take by'=prey:=by rw [gy1,List.take_left' gy2]
     rw [← this,List.take_take,Nat.min_eq_left (by omega),eby,gx1]
    refine ⟨.bin op x y,bx,by unfold X.ok;rw [ok1,ok0];simp;omega,Zaj (pre:=prex) ?_ gx2,by omega,by simp only [X.size];omega⟩;rw [show bx+(X.bin op x y).size=i.toNat+1 by simp only [X.size];omega,htk,show i.toNat=by'+y.size by omega,gy1,hpy,X.row,eby];simp only [List.append_assoc]
    congr 5<;>omega
   ·have hp:Zi op=3:=by unfold Zi;rw [if_neg h4,if_neg h6,if_neg h21]
    obtain rfl:op=22:=by omega
    rw [hp] at h2 h1 h0
    obtain ⟨hh,_⟩ | ⟨_,rfl,hr2,rfl⟩:=Ztb h2
    ·exact absurd hh (by decide)
    obtain ⟨z,bz,ok2,at2,e2,s2⟩:=Zoe l f _ hr2;rw [e2] at h1
    obtain ⟨hh,_⟩ | ⟨_,rfl,hr1,rfl⟩:=Ztb h1
    ·exact absurd hh (by decide)
    obtain ⟨y,by',ok1,at1,e1,s1⟩:=Zoe l f _ hr1;rw [e1] at h0
    obtain ⟨hh,_⟩ | ⟨_,rfl,hr0,rfl⟩:=Ztb h0
    ·exact absurd hh (by decide)
    obtain ⟨x,bx,ok0,at0,e0,s0⟩:=Zoe l f _ hr0;obtain ⟨prez,gz1,gz2⟩:=at2.glue;obtain ⟨prey,gy1,gy2⟩:=at1.glue;obtain ⟨prex,gx1,gx2⟩:=at0.glue
    have eby:by'=bx+x.size:=by omega
    have ebz:bz=bx+x.size+y.size:=by omega
    have hpy:prey=prex++x.row bx:=by
     have:(l.take (by'+y.size)).take by'=prey:=by rw [gy1,List.take_left' gy2]
     rw [← this,List.take_take,Nat.min_eq_left (by omega),eby,gx1]
    have hpz:prez=prey++y.row by':=by
     have:(l.take (bz+z.size)).take bz=prez:=by rw [gz1,List.take_left' gz2]
     rw [← this,List.take_take,Nat.min_eq_left (by omega),show bz=by'+y.size by omega,gy1]
    refine ⟨.ite x y z,bx,by unfold X.ok;rw [ok2,ok1,ok0];rfl,Zaj (pre:=prex) ?_ gx2,by omega,by simp only [X.size];omega⟩;rw [show bx+(X.ite x y z).size=i.toNat+1 by simp only [X.size];omega,htk,show i.toNat=bz+z.size by omega,gz1,hpz,hpy,X.row,ebz,eby];simp only [List.append_assoc]
    congr 6<;>omega
def Z5v (l:List XN):Bool:=Zhh l l.length ((l.length:Int)-1)==0
theorem Zlh (x:X):At (x.row 0) x 0:=⟨[],[],by simp,rfl⟩
theorem Zyq {l:List XN}:Z5v l=true ↔ ∃ x:X,x.ok=true∧l=x.row 0:=by
 unfold Z5v;rw [beq_iff_eq]
 constructor
 ·intro h
  obtain ⟨x,b,h1,h2,h3,h4⟩:=Zoe l l.length ((l.length:Int)-1) (by omega)
  obtain rfl:b=0:=by omega
  obtain ⟨pre,post,rfl,hb⟩:=h2;obtain rfl:=List.length_eq_zero_iff.1 hb
  have hl:post.length=0:=by
   simp only [List.nil_append,List.length_append,X.row_len] at h4;omega
  obtain rfl:=List.length_eq_zero_iff.1 hl;exact ⟨x,h1,by simp⟩
 ·rintro ⟨x,hx,rfl⟩
  have:=Z7j x (x.row 0) 0 (x.row 0).length hx (Zlh x) (by rw [X.row_len];exact Nat.le_refl _);rw [X.row_len] at this ⊢;simpa using this
theorem Zfo (l:List XN):Z5v l=decide (Zdb l≠0):=by
 rw [Bool.eq_iff_iff,Zyq,decide_eq_true_iff]
 constructor
 ·rintro ⟨x,hx,rfl⟩
  rw [Zrg hx];have:=x.depth_pos;omega
 ·exact Zsg
end Go.Hs
end

section
namespace Go.Hs
open Go.Proofs
set_option maxRecDepth 10000
theorem Z3y (G:Nat→V) (hG:GOk G) (ca cb:Col) (a b:Sl Int) (ha:a.l.length<1000000000) :
  Spec Tryz.prog G 230 [Zd ca 1 (V.int .i64) a,Zd cb 1 (V.int .i64) b] Zl (fun v _=>v = .bool (a.l==b.l)):=by
 refine Zo 0 26 [.tmp 4] Tryz.func230 fun X=>?_;refine Z1 ?_;refine Z1 ?_;refine Za rfl (fun h2=>?_) (fun h2=>?_)
 ·
  refine Z ?_;simp at h2 ⊢;intro e;rw [e] at h2;exact h2 rfl
 ·
  refine Z0 ?_
  have hl:a.l.length=b.l.length:=by simp at h2;omega
  refine Z1 ?_;refine AW.block ?_
  refine Zua a.l.length (fun k (_:Unit)=>st [(0,Zd ca 1 (V.int .i64) a),(1,Zd cb 1 (V.int .i64) b),(12,.int .i64 a.l.length),(13,.int .i64 k)] []) (fun k _=>a.l.take k=b.l.take k) 0 () (Nat.zero_le _) (by simp)
   (Zb (by simp -implicitDefEqProofs only[go_sem,seval,↓reduceIte];try simp) zp) ?_
  intro k _ hk hR L4 hL4;refine Z1 ?_;refine Zy ?_;refine Za rfl (fun h6=>?_) (fun h6=>?_)
  ·
   refine Z0 ?_
   have hk1:k<a.l.length:=by simpa using h6
   have hk2:k<b.l.length:=by omega
   refine Z1 ?_
   refine Zy <| Z5 ⟨fun _ => .top,fun _ => .pure⟩ (by kernel_rfl) hG (by kernel_rfl) (by kernel_rfl) ?_
   simp -implicitDefEqProofs only[go_sem,seval,↓reduceIte,List.getElem?_eq_getElem hk1,List.getElem?_eq_getElem hk2];refine Za rfl (fun h8=>?_) (fun h8=>?_)
   ·
    refine Z ?_;simp at h8;simp;intro e;simp [e] at h8
   ·
    refine Z0 ?_
    have h3':a.l[k]=b.l[k]:=by simpa using h8
    refine Z1 ?_;refine hL4 _ ⟨hk1,(),?_,Zb (by simp -implicitDefEqProofs only[go_sem,seval,↓reduceIte];simp;exact w64 (by omega) (by omega)) zp⟩;rw [List.take_succ_eq_append_getElem hk1,List.take_succ_eq_append_getElem hk2,hR,h3']
  ·
   refine Z0 ?_
   have hk1:k=a.l.length:=by simp at h6;omega
   refine Z ?_;subst hk1;rw [List.take_length,hl,List.take_length] at hR;simp [hR]
theorem Z12 (G:Nat→V) (hE:GExp G) (n:XN) (hn:n.name.length<100000):Spec Tryz.prog G 229 [Zca n] Zl (fun v _=>v = .bool (Ztd n)):=by
 have hG:=hE.ok;refine Zo 0 43 [.tmp 2] Tryz.func229 fun X=>?_
 have hW:Ztd n=if n.op<1∨n.op > 22∨n.num<0 then false else if n.op=2 then n.num==0 && isP n.name==2 else n.name==[] && (n.op==1 || n.num==0):=rfl
 obtain ⟨op,num,name,a,b,c⟩:=n;simp only at hn hW;simp only [Zt];refine Zh fun K hK=>AW.region (by kernel_rfl) ?_;refine Zs ?_;intro g1;refine hK _ ?_
 try clear hK K
 refine Z9 (fun (_:Unit)=>st [(1,.ptr 1 g1 0)] [(1,.cells .new g1 0 [.int .u8 op,.int .i64 num,.str name,.int .i64 a,.int .i64 b,.int .i64 c])]) (fun _=>¬ (op<1∨op > 22∨num<0)∧op≠2) (fun K1 hK1=>?_) ?_
 ·refine AW.block ?_
  by_cases h0:op<1∨op > 22∨num<0
  ·rw [if_pos h0] at hW
   have key:∀ K:AS→Prop,(K (st [(1,.ptr 1 g1 0),(3,.bool true)] [(1,.cells .new g1 0 [.int .u8 op,.int .i64 num,.str name,.int .i64 a,.int .i64 b,.int .i64 c])]))→True:=fun _ _=>trivial
   cases h1:decide (op<1)<;>cases h2:decide (op > 22)<;>cases h3:decide (num<0)
   ·simp only [decide_eq_false_iff_not] at h1 h2 h3
    rcases h0 with h | h | h
    ·exact absurd h h1
    ·exact absurd h h2
    ·exact absurd h h3
   all_goals
    (refine Zh fun K hK=>AW.region (by kernel_rfl) ?_;simp -implicitDefEqProofs only[go_sem,seval,↓reduceIte,h1,h2,h3];refine hK _ ?_;clear hK K)
    refine Za (b:=true) zp (fun _=>?_) (fun h=>by cases h)
    (refine Zh fun K hK=>AW.region (by kernel_rfl) ?_;simp -implicitDefEqProofs only[go_sem,seval,↓reduceIte];refine hK _ ?_;clear hK K)
    (refine AW.ret ?_;simp -implicitDefEqProofs only[go_sem,seval,↓reduceIte];refine Zia ?_)
    rw [hW]
  ·have h1:decide (op<1)=false:=by rw [decide_eq_false_iff_not];exact fun h=>h0 (.inl h)
   have h2:decide (op > 22)=false:=by rw [decide_eq_false_iff_not];exact fun h=>h0 (.inr (.inl h))
   have h3:decide (num<0)=false:=by rw [decide_eq_false_iff_not];exact fun h=>h0 (.inr (.inr h))
   rw [if_neg h0] at hW;refine Zh fun K hK=>AW.region (by kernel_rfl) ?_;refine Zsf (zi h1 (zi h2 h3)) ?_;refine hK _ ?_
   try clear hK K
   refine Zta rfl ?_
   try clear h4
   refine Zh fun K hK=>AW.region (by kernel_rfl) ?_;refine Zs ?_;refine hK _ ?_
   try clear hK K
   refine Za rfl (fun h5=>?_) (fun h5=>?_)
   ·have h5:op=2:=by simpa using h5
    rw [if_pos h5] at hW
    cases h6:(num==0) with
    | false =>
     refine Zh fun K hK=>AW.region (by kernel_rfl) ?_;refine Zsf h6 ?_;refine hK _ ?_
     try clear hK K
     refine Z ?_
     rw [hW,h6]<;>rfl
    | true =>
     refine Zh fun K hK=>AW.region (by kernel_rfl) ?_;refine Zsf h6 ?_;refine Zc hG ?_ (s:=(Zrn G hE name (by omega)));refine hK _ ?_
     try clear hK K
     refine Z ?_;rw [hW,h6,Bool.true_and];generalize isP name=z
     cases hz:(z==2) with
     | true =>
      have:((z:Int)==2)=true:=by rw [beq_iff_eq] at hz ⊢;omega
      rw [this]
     | false =>
      have:((z:Int)==2)=false:=by rw [beq_eq_false_iff_ne] at hz ⊢;omega
      rw [this]
   ·have h5:¬ op=2:=by simpa using h5
    refine Z0 ?_;exact hK1 _ () ⟨h0,h5⟩ (Zb zp zp)
 rintro _ ⟨h0,h5⟩;rw [if_neg h0,if_neg h5] at hW
 cases h1:(name==[])<;>cases h2:(op==1)<;>cases h3:(num==0)<;>((refine Zh fun K hK=>AW.region (by kernel_rfl) ?_;simp -implicitDefEqProofs only[go_sem,seval,↓reduceIte,h1,h2,h3];refine hK _ ?_;clear hK K);(refine AW.ret ?_;simp -implicitDefEqProofs only[go_sem,seval,↓reduceIte];refine Zia ?_);rw [hW,h1,h2,h3]<;>rfl)
end Go.Hs
end

section
namespace Go.Hs
open Go.Proofs
set_option maxRecDepth 10000
def Zbg (p:Int × Int):V := .agg [.int .i64 p.1,.int .i64 p.2]
theorem Z3j (p:Int × Int):(Zbg p).cells.length=2:=rfl
theorem Za4 {l:List XN} {k:Nat} {n:XN} (h:l[k]? = some n) (i:Int) (opn:List (Int × Int)):Z0d (l.drop k) i opn=match Znd i n opn with | some o=>Z0d (l.drop (k+1)) (i+1) o | none=>none:=by
 obtain ⟨h1,h2⟩:=List.getElem?_eq_some_iff.1 h
 rw [List.drop_eq_getElem_cons h1,h2]<;>rfl
theorem Zb6 {op:Int} (h1:1≤op) (h2:op≤22):tabC[op.toNat * 3+2]? = some (.int .i64 (Zi op:Nat)):=by
 obtain ⟨n,rfl⟩:∃ n:Nat,op=n:=⟨op.toNat,by omega⟩;rw [Int.toNat_natCast,Znk n (by omega) 2 (by decide)]
 have:∀ n:Nat,n<23→1≤n→(tabL.getD n ⟨[],0,0⟩).parts=(Zi n:Nat):=by decide +kernel
 rw [← this n (by omega) (by omega)]<;>rfl
theorem Zl7:∀ (l:List (Int × Int)) (i:Nat) (x:Int × Int),l[i]? = some x→((flat (l.map Zbg)).drop (i * 2)).take 2=[.int .i64 x.1,.int .i64 x.2]
 | [],i,x,h=>by simp at h
 | y::r,0,x,h=>by
  have:y=x:=by simpa using h
  subst this;rfl
 | y::r,i+1,x,h=>by
  have ih:=Zl7 r i x (by simpa using h);rw [← ih,List.map_cons];have:flat (Zbg y::r.map Zbg) = .int .i64 y.1 :: .int .i64 y.2::flat (r.map Zbg):=rfl;rw [this,show (i+1) * 2=i * 2+1+1 by omega,List.drop_succ_cons,List.drop_succ_cons]
def plC (l:List (Int × Int)):List V:=(Z4b l).map (V.int .i64)
theorem plC_set:∀ (l:List (Int × Int)) (j:Nat) (x:Int × Int),l[j]? = some x→j<3→Hs.setAt (plC (l.take j)) j [.int .i64 x.1]=plC (l.take (j+1)):=by
 intro l j x h hj
 match l,j,h,hj with
 | a::r,0,h,_ =>
  have:a=x:=by simpa using h
  subst this;rfl
 | a::b::r,1,h,_ =>
  have:b=x:=by simpa using h
  subst this;rfl
 | a::b::c::r,2,h,_ =>
  have:c=x:=by simpa using h
  subst this;rfl
theorem Z7w (l:List (Int × Int)) (j:Nat) (x:Int × Int) (h:l[j]? = some x):Zcc (l.take (j+1))=max (Zcc (l.take j)) x.2:=by
 unfold Zcc
 rw [List.take_add_one,h,List.foldl_append]<;>rfl
theorem plC_len (l:List (Int × Int)):(plC l).length=3:=rfl
theorem Zt3 (op:Int):Zi op≤3:=by
 unfold Zi
 split
 ·omega
 ·split
  ·omega
  ·split<;>omega
theorem Zb4 {l:List (Int × Int)} {k:Int} (hk:0≤k) (h:∀ y∈l,(0:Int)≤y.2∧y.2≤k):0≤Zcc l∧Zcc l≤k:=by
 have:∀ (l:List (Int × Int)) (d:Int),0≤d→d≤k→(∀ y∈l,(0:Int)≤y.2∧y.2≤k)→0≤l.foldl (fun d p=>max d p.2) d∧l.foldl (fun d p=>max d p.2) d≤k:=by
  intro l
  induction l with
  | nil=>intro d h1 h2 _;exact ⟨h1,h2⟩
  | cons y r ih =>
   intro d h1 h2 h3;have:=h3 y (by simp);exact ih (max d y.2) (by omega) (by omega) fun z hz=>h3 z (by simp [hz])
 exact this l 0 (Int.le_refl _) hk h
theorem Zk7 (l:List (Int × Int)) (n:Nat):(flat (l.map Zbg)).take (n * 2)=flat ((l.take n).map Zbg):=by
 induction l generalizing n with
 | nil=>simp [flat]
 | cons y r ih =>
  cases n with
  | zero=>simp [flat]
  | succ n =>
   have e:flat ((y::r).map Zbg) = .int .i64 y.1 :: .int .i64 y.2::flat (r.map Zbg):=rfl
   rw [e,List.take_succ_cons,List.map_cons,show (n+1) * 2=n * 2+1+1 by omega,List.take_succ_cons,List.take_succ_cons,ih]<;>rfl
theorem Zyn (G:Nat→V) (hE:GExp G) (c:Col) (s:Sl XN) (hs:s.l.length<1000000) (hnm:∀ n∈s.l,n.name.length<100000) :
  Spec Tryz.prog G 158 [.agg [Zd c 6 Zca s]] Zl (fun v _=>v = .int .i64 (Zdb s.l)):=by
 have hG:=hE.ok;refine Zo 0 81 [.tmp 2] Tryz.func158 fun X=>?_
 have hD:Zdb s.l=match Z0d s.l 0 [] with | some [x]=>x.2 | _=>0:=rfl
 have hnone:Z0d s.l 0 []=none→Zdb s.l=0:=fun h=>by rw [hD,h]
 refine Z1 ?_;intro g1;refine Z1 ?_;refine Zn hG ?_ (s:=(Zxg G hG));refine Zsf (zi @Zds (zi @Zin @Nat.le_refl)) ?_;intro g3;rw [Zbo _ ?hl]
 case hl=>rfl
 refine Z1 ?_;refine Z1 ?_;refine AW.block ?_
 refine Zua s.l.length (fun k (x:Nat × List (Int × Int))=>st [(3,.ptr 3 g3 0),(4,grown 72 x.1 2 x.2),(14,Zd c 6 Zca s),(15,.int .i64 s.l.length),(16,.int .i64 k)] [(3,.cells .new g3 0 tabC),(72,Zjb x.1 Zbg x.2)])
  (fun k x=>Z0d s.l 0 []=Z0d (s.l.drop k) k x.2∧x.2.length≤k∧∀ y∈x.2,(0:Int)≤y.2∧y.2≤k) 0 (0,[]) (Nat.zero_le _) ⟨by simp,Nat.le_refl _,by simp⟩
  (Zb zp zp) ?_
 rintro k ⟨gx,opn⟩ hk ⟨hR,hol,hdp⟩ L2 hL2
 replace hR:Z0d s.l 0 []=Z0d (s.l.drop k) k opn:=hR
 replace hol:opn.length≤k:=hol
 replace hdp:∀ y∈opn,(0:Int)≤y.2∧y.2≤k:=hdp
 refine Z1 ?_;refine Zy ?_;refine Za rfl (fun h4=>?_) (fun h4=>?_)
 ·have hk1:k<s.l.length:=by simpa using h4
  have hg:=List.getElem?_eq_getElem hk1;have hnn:=hnm _ (List.getElem_mem hk1);generalize s.l[k]=n at hg hnn;rw [Za4 hg] at hR;refine Z1f (zi hg @Zt) ?_;intro g6;refine Z1 ?_;rw [← Zt];refine Zcf @Zti hG ?_ (s:=(Z12 G hE n hnn))
  have hst:Znd k n opn=if Ztd n=false then none else if opn.length<Zi n.op then none
   else if Z4b (opn.drop (opn.length-Zi n.op))≠[n.a,n.b,n.c] then none
   else some (opn.take (opn.length-Zi n.op)++[((k:Int),Zcc (opn.drop (opn.length-Zi n.op))+1)]):=rfl
  cases hw:Ztd n with
  | false =>
   rw [if_pos hw] at hst;rw [hst] at hR;refine Za rfl (fun h7=>?_) (fun h7=>?_)
   ·refine Z ?_
    rw [hnone hR]
   ·cases h7
  | true =>
  rw [if_neg (by rw [hw];simp)] at hst;refine Z0 ?_;have hrg:=Zeg hw;have hpt:=Zb6 hrg.1 hrg.2;have hp3:Zi n.op≤3:=Zt3 _;generalize hpd:Zi n.op=p at hst hpt hp3
  have hop0:(0:Int)≤n.op:=by omega
  have hop23:n.op<23:=by omega
  have hsub:IntKind.i64.wrap ((opn.length:Int)-(p:Int))=(opn.length:Int)-p:=w64 (by omega) (by omega);refine Z1f (zi hop0 (zi hop23 (zi hpt (zi hsub @Nat.zero_add)))) ?_;refine Zy ?_
  by_cases hlt:opn.length<p
  ·have e1:decide ((opn.length:Int)-p<0)=true:=zT
   rw [if_pos hlt] at hst;rw [hst] at hR;refine Z1f e1 ?_;refine Za rfl (fun h9=>?_) (fun h9=>?_)
   ·refine Z ?_
    rw [hnone hR]
   ·cases h9
  have e1:decide ((opn.length:Int)-p<0)=false:=zF;rw [if_neg hlt] at hst;refine Z1f e1 ?_;refine Z0 ?_;obtain ⟨kk,hkk⟩:∃ kk:Nat,kk=opn.length-p:=⟨_,rfl⟩;rw [← hkk] at hst
  have hkd:(opn.length:Int)-p=(kk:Int):=by omega
  rw [hkd];refine Z1 ?_;intro g34
  have hkl:kk+p=opn.length:=by omega
  refine Z9 (fun (_:Unit)=>st [(3,.ptr 3 g3 0),(4,grown 72 gx 2 opn),(5,.int .i64 k),(6,.ptr 6 g6 0),(7,.int .i64 kk),(8,.msl 34 g34 0 3 1),(9,.int .i64 (Zcc (opn.drop kk))),(14,Zd c 6 Zca s),(15,.int .i64 s.l.length),(16,.int .i64 k)]
    [(3,.cells .new g3 0 tabC),(72,Zjb gx Zbg opn),(6,.cells .new g6 0 [.int .u8 n.op,.int .i64 n.num,.str n.name,.int .i64 n.a,.int .i64 n.b,.int .i64 n.c]),(34,.cells .new g34 0 (plC (opn.drop kk)))])
   (fun _=>True) (fun K10 hK10=>?_) ?_
  ·by_cases hp0:p=0
   ·have hdn:opn.drop kk=[]:=List.drop_eq_nil_of_le (by omega)
    rw [hdn] at hK10;subst hp0
    have hkle:kk≤opn.length:=by omega
    have hnlt:¬ kk<opn.length:=by omega
    by_cases hne:opn=[]
    ·subst hne
     have hk0:kk=0:=by simpa using hkl
     subst hk0;refine Zdc (by kernel_rfl) ?_;simp -implicitDefEqProofs only[go_sem,seval,↓reduceIte,Zdd,Zce,and_self];refine AW.block ?_
     refine Zua 0 (fun j (_:Unit)=>st [(3,.ptr 3 g3 0),(5,.int .i64 k),(4,.nils),(6,.ptr 6 g6 0),(7,.int .i64 (0:Nat)),(8,.msl 34 g34 0 3 1),(9,.int .i64 0),(14,Zd c 6 Zca s),(15,.int .i64 s.l.length),(16,.int .i64 k),(38,.int .i64 0),(39,.int .i64 j)]
       [(3,.cells .new g3 0 tabC),(6,.cells .new g6 0 [.int .u8 n.op,.int .i64 n.num,.str n.name,.int .i64 n.a,.int .i64 n.b,.int .i64 n.c]),(34,.cells .new g34 0 (plC []))])
      (fun j _=>True) 0 () (Nat.zero_le _) trivial (Zb zp zp) ?_
     intro j _ hj _ L11 hL11
     obtain rfl:j=0:=by omega
     refine Z1 ?_;refine Z0 ?_
     ·refine Z0 ?_
      exact hK10 _ () trivial (Zb (zpf @Zdd) (zpf @Zce))
    ·have hk0:¬ kk=0:=by
      intro h
      have:opn.length=0:=by omega
      exact hne (List.length_eq_zero_iff.1 this)
     refine Zdc (by kernel_rfl) ?_;simp -implicitDefEqProofs only[go_sem,seval,↓reduceIte,Z8b 72 gx 2 hne,hkle,Nat.le_refl,and_self,hk0,hnlt];refine AW.block ?_
     refine Zua 0 (fun j (_:Unit)=>st [(3,.ptr 3 g3 0),(4,grown 72 gx 2 opn),(5,.int .i64 k),(6,.ptr 6 g6 0),(7,.int .i64 kk),(8,.msl 34 g34 0 3 1),(9,.int .i64 0),(14,Zd c 6 Zca s),(15,.int .i64 s.l.length),(16,.int .i64 k),(38,.int .i64 0),(39,.int .i64 j)]
       [(3,.cells .new g3 0 tabC),(72,Zjb gx Zbg opn),(6,.cells .new g6 0 [.int .u8 n.op,.int .i64 n.num,.str n.name,.int .i64 n.a,.int .i64 n.b,.int .i64 n.c]),(34,.cells .new g34 0 (plC []))])
      (fun j _=>True) 0 () (Nat.zero_le _) trivial (Zb (by simp -implicitDefEqProofs only[go_sem,seval,↓reduceIte];rw [Z8b 72 gx 2 hne];try exact ⟨rfl,rfl⟩) zp) ?_
     intro j _ hj _ L11 hL11
     obtain rfl:j=0:=by omega
     refine Z1 ?_;refine Z0 ?_
     ·refine Z0 ?_
      exact hK10 _ () trivial (Zb zp zp)
   ·have hne:opn≠[]:=by intro e;rw [e] at hkl;simp at hkl;omega
    have hsl:(if kk=0 then V.msl 72 gx 0 opn.length 2 else if kk<opn.length then V.msl 72 gx (kk * 2) (opn.length-kk) 2 else V.slice .any false 2 []) = .msl 72 gx (kk * 2) p 2:=by
     by_cases h0:kk=0
     ·rw [if_pos h0];congr 1<;>omega
     ·rw [if_neg h0,if_pos (by omega)];congr 1;omega
    have hkle:kk≤opn.length:=by omega
    refine Zdc (by kernel_rfl) ?_;simp -implicitDefEqProofs only[go_sem,seval,↓reduceIte,Z8b 72 gx 2 hne,hkle,Nat.le_refl,and_self,hsl,Nat.zero_add];refine AW.block ?_
    refine Zua p (fun j (_:Unit)=>st [(3,.ptr 3 g3 0),(4,grown 72 gx 2 opn),(5,.int .i64 k),(6,.ptr 6 g6 0),(7,.int .i64 kk),(8,.msl 34 g34 0 3 1),(9,.int .i64 (Zcc ((opn.drop kk).take j))),(14,Zd c 6 Zca s),(15,.int .i64 s.l.length),(16,.int .i64 k),(37,.msl 72 gx (kk * 2) p 2),(38,.int .i64 p),(39,.int .i64 j)]
      [(3,.cells .new g3 0 tabC),(72,Zjb gx Zbg opn),(6,.cells .new g6 0 [.int .u8 n.op,.int .i64 n.num,.str n.name,.int .i64 n.a,.int .i64 n.b,.int .i64 n.c]),(34,.cells .new g34 0 (plC ((opn.drop kk).take j)))])
     (fun j _=>True) 0 () (Nat.zero_le _) trivial
     (Zb (by simp -implicitDefEqProofs only[go_sem,seval,↓reduceIte];rw [Z8b 72 gx 2 hne];exact ⟨rfl,rfl⟩) zp) ?_
    intro j _ hj _ L11 hL11;refine Z1 ?_;refine Zy ?_;refine Za rfl (fun h13=>?_) (fun h13=>?_)
    ·have hj1:j<p:=zL h13
     refine Z0 ?_;refine Zy ?_;refine AW.block ?_;obtain ⟨x,hx⟩:∃ x,opn[kk+j]? = some x:=⟨_,List.getElem?_eq_getElem (by omega)⟩
     have hxd:(opn.drop kk)[j]? = some x:=by rw [List.getElem?_drop];exact hx
     have hfp:=Zl7 opn (kk+j) x hx;rw [show (kk+j) * 2=kk * 2+j * 2 by omega] at hfp
     have hfl:kk * 2+j * 2+2≤(flat (opn.map Zbg)).length:=by rw [Z9b (m:=2) Z3j];omega
     have hps:=plC_set (opn.drop kk) j x hxd (by omega);have hds:=Z7w (opn.drop kk) j x hxd;have hpl:=plC_len ((opn.drop kk).take j);generalize plC ((opn.drop kk).take j)=pc at hps hpl ⊢;generalize Zcc ((opn.drop kk).take j)=dd at hds ⊢
     have hj3:(j:Int)<3:=by omega
     refine Zdc (by kernel_rfl) ?_;simp -implicitDefEqProofs only[go_sem,seval,↓reduceIte,Zic gx Zbg hne,hfp,hfl,Int.natCast_nonneg,hj1,Int.ofNat_lt];intro g11
     refine AW.weak (Z2 (fun o=>o==11) (l:=[(3,.ptr 3 g3 0),(4,grown 72 gx 2 opn),(5,.int .i64 k),(6,.ptr 6 g6 0),(7,.int .i64 kk),(8,.msl 34 g34 0 3 1),(9,.int .i64 dd),(10,.int .i64 j),(11,.view .new (.agg [.int .i64 x.1,.int .i64 x.2])),(14,Zd c 6 Zca s),(15,.int .i64 s.l.length),(16,.int .i64 k),(37,.msl 72 gx (kk * 2) p 2),(38,.int .i64 p),(39,.int .i64 j)])
      (m:=[(3,.cells .new g3 0 tabC),(72,Zjb gx Zbg opn),(6,.cells .new g6 0 [.int .u8 n.op,.int .i64 n.num,.str n.name,.int .i64 n.a,.int .i64 n.b,.int .i64 n.c]),(34,.cells .new g34 0 pc)]) ?_ ?_) ?_
     ·refine Zs ?_
      refine ⟨Ze _,Ze _,Ze _,Ze _,Ze _,Ze _,Ze _,Ze _,?_,Ze _,Ze _,Ze _,Ze _,Ze _,Ze _⟩;exact Fz.ptr (v := .agg [.int .i64 x.1,.int .i64 x.2]) (c := .new) (fz:=0) rfl zp
     ·simp only [Zp,Zz,and_true]
      exact ⟨FzO.keep rfl zp,FzO.keep rfl (by first | rfl | (rw [Zic gx Zbg hne]<;>rfl) | (simp -implicitDefEqProofs only[go_sem,seval,↓reduceIte];try rfl)),FzO.keep rfl zp,FzO.keep rfl zp⟩
     refine Z5 ⟨fun _ => .top,fun i=>if i=3 then .lend else if i=6 then .lend else .pure⟩ (by kernel_rfl) hG (by kernel_rfl) (by kernel_rfl) ?_
     have hjl:j+1≤pc.length:=by omega
     have hset:pc.set j (.int .i64 x.1)=plC ((opn.drop kk).take (j+1)):=hps
     have hmx:(if x.2 > dd then x.2 else dd)=max dd x.2:=by
      rw [Int.max_def];split<;>split<;>omega
     simp -implicitDefEqProofs only[go_sem,seval,↓reduceIte,hj3,Int.natCast_nonneg,Nat.mul_one,Nat.zero_le,hjl,hset,hmx,← hds];refine Z1 ?_;refine hL11 _ ⟨hj1,(),trivial,Zb zw zp⟩
    ·have hj1:j=p:=by have:=zN h13;omega
     have htk:(opn.drop kk).take j=opn.drop kk:=List.take_of_length_le (by rw [List.length_drop];omega);rw [htk];refine Z0 ?_;exact hK10 _ () trivial (Zb zp zp)
  intro _ _;refine Zy ?_;have hpl:Z4b (opn.drop kk)=[(Z4b (opn.drop kk)).getD 0 0,(Z4b (opn.drop kk)).getD 1 0,(Z4b (opn.drop kk)).getD 2 0]:=rfl;refine Z1 ?_;intro g61;refine Z8c hG [Zd .old 1 (V.int .i64) (.mk false (Z4b (opn.drop kk))),Zd .old 1 (V.int .i64) (.mk false [n.a,n.b,n.c])] (by kernel_rfl) ⟨?_,?_,trivial⟩ ?_
  ·exact Rd.msl (off:=0) (n:=3) (l:=Z4b (opn.drop kk)) (f:=V.int .i64) (f':=V.int .i64) (g:=g34) (fz:=0) (c := .new) (by simp -implicitDefEqProofs only[go_sem,seval,↓reduceIte];exact congrArg (AObj.cells Col.new g34 0) (Zlr _ _).symm) (fun _=>rfl) (fun x y hy=>by simp [V.cells] at hy;subst hy;exact .int _ _) (fun _=>rfl) (by simp [Z4b])
  ·exact Rd.msl (off:=0) (n:=3) (l:=[n.a,n.b,n.c]) (f:=V.int .i64) (f':=V.int .i64) (g:=g61) (fz:=0) (c := .new) zp (fun _=>rfl) (fun x y hy=>by simp [V.cells] at hy;subst hy;exact .int _ _) (fun _=>rfl) (by simp)
  refine (Z3y G hG _ _ (.mk false (Z4b (opn.drop kk))) (.mk false [n.a,n.b,n.c]) (by simp [Z4b,Sl.l])).mono ?_;rintro _ _ rfl;refine ⟨.bool _,?_⟩;refine Zs ?_
  cases heq:(Z4b (opn.drop kk)==[n.a,n.b,n.c]) with
  | false =>
   have heq2:Z4b (opn.drop kk)≠[n.a,n.b,n.c]:=by simpa using heq
   rw [if_pos heq2] at hst;rw [hst] at hR;refine Za rfl (fun h12=>?_) (fun h12=>?_)
   ·refine Z ?_
    rw [hnone hR]
   ·cases h12
  | true =>
  have heq2:¬ Z4b (opn.drop kk)≠[n.a,n.b,n.c]:=by simpa using heq
  rw [if_neg heq2] at hst;rw [hst] at hR;refine Z0 ?_;have hdb:=Zb4 (l:=opn.drop kk) (k:=k) (by omega) fun y hy=>hdp y (List.mem_of_mem_drop hy);generalize Zcc (opn.drop kk)=dd at hR hdb ⊢;have hwd:IntKind.i64.wrap (dd+1)=dd+1:=w64 (by omega) (by omega)
  have hne2:opn.take kk++[((k:Int),dd+1)]≠[]:=by simp
  have hlen2:(opn.take kk++[((k:Int),dd+1)]).length=kk+1:=by rw [List.length_append,List.length_take];simp;omega
  have hdp2:∀ y∈opn.take kk++[((k:Int),dd+1)],(0:Int)≤y.2∧y.2≤(k+1:Nat):=by
   intro y hy
   rcases List.mem_append.1 hy with h | h
   ·have:=hdp y (List.mem_of_mem_take h);omega
   ·rw [List.mem_singleton.1 h];show 0≤dd+1∧dd+1≤_;omega
  by_cases hne:opn=[]
  ·subst hne
   have hk0:kk=0:=by simpa using hkk
   subst hk0;refine AW.region (by kernel_rfl) ?_;simp -implicitDefEqProofs only[go_sem,seval,↓reduceIte,Zdd,Zce,and_self,hwd];intro g71;refine Zpb (f:=Zbg) (l:=([]:List (Int × Int))) (l2:=[((k:Int),dd+1)]) (g:=gx) Z3j rfl rfl rfl rfl (Zda (by omega) (by simp)) fun g2=>?_;refine Zs ?_;refine Z1 ?_;refine hL2 _ ⟨hk1,(g2,[((k:Int),dd+1)]),⟨hR,?_,hdp2⟩,Zb zw zp⟩
   show 1≤k+1
   omega
  ·have hkle:kk≤opn.length:=by omega
   refine AW.region (by kernel_rfl) ?_;simp -implicitDefEqProofs only[go_sem,seval,↓reduceIte,Z8b 72 gx 2 hne,Nat.zero_le,hkle,and_self,hwd,Zic gx Zbg hne];intro g71;refine ⟨Zda (by omega) (by omega),by rw [Z9b (m:=2) Z3j];omega,fun g2=>?_⟩;refine Z1 ?_;refine hL2 _ ⟨hk1,(g2,opn.take kk++[((k:Int),dd+1)]),⟨hR,?_,hdp2⟩,Zb (by simp -implicitDefEqProofs only[go_sem,seval,↓reduceIte];exact ⟨by rw [Z8b _ _ _ hne2,hlen2],congrArg _ (w64 (by omega) (by omega))⟩) (by simp -implicitDefEqProofs only[go_sem,seval,↓reduceIte];rw [Zic _ _ hne2,List.map_append,Zte,← Zk7]<;>rfl)⟩
   show (opn.take kk++[_]).length≤k+1
   rw [hlen2];omega
 ·have hk1:k=s.l.length:=by simp at h4;omega
  refine Z0 ?_;rw [hk1,List.drop_length,Z0d] at hR;rw [hR] at hD;refine Zy ?_
  match opn,hD with
  | [],hD =>
   refine Z1f @Zdd ?_;refine Za rfl (fun h7=>?_) (fun h7=>?_)
   ·refine Z ?_
    rw [hD]
   ·cases h7
  | [x],hD =>
   have hne:[x]≠([]:List (Int × Int)):=by simp
   refine Z1 ?_;refine Z0 ?_;have hfx:flat ([x].map Zbg)=[.int .i64 x.1,.int .i64 x.2]:=rfl;refine Zdc (by kernel_rfl) ?_;simp -implicitDefEqProofs only[go_sem,seval,↓reduceIte,Z8b 72 gx 2 hne,Zic gx Zbg hne,hfx];refine Z ?_;rw [hD]
  | x::y::r,hD =>
   have e1:(((x::y::r).length:Int) != 1)=true:=by simp;omega
   refine Z1f e1 ?_;refine Za rfl (fun h7=>?_) (fun h7=>?_)
   ·refine Z ?_
    rw [hD]
   ·cases h7
end Go.Hs
end

section
namespace Go.Hs
open Go.Proofs
set_option maxRecDepth 10000
theorem Zwk (G:Nat→V) (hG:GOk G) (op:Int):Spec Tryz.prog G 165 [.int .u8 op] Zl (fun v _=>v = .int .i64 (Zi op:Nat)):=by
 refine Zo 0 12 [.tmp 2] Tryz.func165 fun X=>?_
 have hP:Zi op=if op≤4 then 0 else if op≤6 then 1 else if op≤21 then 2 else 3:=rfl
 refine Z1 ?_;refine Z9 (fun (_:Unit)=>st [] []) (fun _=>¬ op≤4∧¬ op≤6∧¬ op≤21) (fun K1 hK1=>?_) ?_
 ·refine Z1 ?_
  refine Za rfl (fun h1=>?_) (fun h1=>?_)
  ·refine Z ?_
   rw [hP,if_pos (by simpa using h1)]<;>rfl
  refine Z1 ?_;refine Za rfl (fun h2=>?_) (fun h2=>?_)
  ·refine Z ?_
   rw [hP,if_neg (by simpa using h1),if_pos (by simpa using h2)]<;>rfl
  refine Z1 ?_;refine Za rfl (fun h3=>?_) (fun h3=>?_)
  ·refine Z ?_
   rw [hP,if_neg (by simpa using h1),if_neg (by simpa using h2),if_pos (by simpa using h3)]<;>rfl
  ·refine Z0 ?_
   exact hK1 _ () ⟨by simpa using h1,by simpa using h2,by simpa using h3⟩ (Zb zp zp)
 rintro _ ⟨h1,h2,h3⟩;refine Z ?_
 rw [hP,if_neg h1,if_neg h2,if_neg h3]<;>rfl
theorem Z9v (G:Nat→V) (hG:GOk G) (n:XN) (hn:n.name.length<100000):Spec Tryz.prog G 237 [Zca n] Zl (fun v _=>v = .bool (Ztd n)):=by
 refine Zo 0 36 [.tmp 2] Tryz.func237 fun X=>?_
 have hW:Ztd n=if n.op<1∨n.op > 22∨n.num<0 then false else if n.op=2 then n.num==0 && isP n.name==2 else n.name==[] && (n.op==1 || n.num==0):=rfl
 obtain ⟨op,num,name,a,b,c⟩:=n;simp only at hn hW;simp only [Zt];refine Zh fun K hK=>AW.region (by kernel_rfl) ?_;refine Zs ?_;intro g1;refine hK _ ?_
 try clear hK K
 refine Z9 (fun (_:Unit)=>st [(1,.ptr 1 g1 0)] [(1,.cells .new g1 0 [.int .u8 op,.int .i64 num,.str name,.int .i64 a,.int .i64 b,.int .i64 c])]) (fun _=>Ztd ⟨op,num,name,a,b,c⟩=if op=2 then isP name==2 else name==[]) (fun K1 hK1=>?_) ?_
 ·have hK2:(op<1)=False→(op > 22)=False→(num<0)=False→(op=1∨num=0)→Ztd ⟨op,num,name,a,b,c⟩=if op=2 then isP name==2 else name==[]:=by
   intro h1 h2 h3 h4;rw [hW,if_neg (by rintro (h | h | h);exact h1 ▸ h;exact h2 ▸ h;exact h3 ▸ h)]
   by_cases ho:op=2
   ·have:num=0:=h4.resolve_left (by omega)
    rw [if_pos ho,if_pos ho,this]<;>rfl
   ·rw [if_neg ho,if_neg ho]
    rcases h4 with h | h
    ·rw [h];simp
    ·rw [h];simp
  have hK3:(op<1∨op > 22∨num<0∨(op≠1∧num≠0))→Ztd ⟨op,num,name,a,b,c⟩=false:=by
   intro h;rw [hW]
   split
   ·rfl
   ·rename_i h0
    simp only [not_or] at h0
    obtain ⟨q1,q2⟩:op≠1∧num≠0:=by
     rcases h with h | h | h | h
     ·exact absurd h h0.1
     ·exact absurd h h0.2.1
     ·exact absurd h h0.2.2
     ·exact h
    have e1:(op==1)=false:=by simpa using q1
    have e2:(num==0)=false:=by simpa using q2
    rw [e1,e2];simp
  by_cases q1:op<1
  ·have h1:decide (op<1)=true:=by simpa using q1
   (refine Zh fun K hK=>AW.region (by kernel_rfl) ?_;simp -implicitDefEqProofs only[go_sem,seval,↓reduceIte,h1];refine hK _ ?_;clear hK K)
   refine Za (b:=true) zp (fun _=>?_) (fun h=>by cases h)
   (refine Zh fun K hK=>AW.region (by kernel_rfl) ?_;simp -implicitDefEqProofs only[go_sem,seval,↓reduceIte];refine hK _ ?_;clear hK K)
   (refine AW.ret ?_;simp -implicitDefEqProofs only[go_sem,seval,↓reduceIte];refine Zia ?_)
   rw [hK3 (.inl q1)]
  have h1:decide (op<1)=false:=by simpa using q1
  by_cases q2:op > 22
  ·have h2:decide (op > 22)=true:=by simpa using q2
   (refine Zh fun K hK=>AW.region (by kernel_rfl) ?_;simp -implicitDefEqProofs only[go_sem,seval,↓reduceIte,h1,h2];refine hK _ ?_;clear hK K)
   refine Za (b:=true) zp (fun _=>?_) (fun h=>by cases h)
   (refine Zh fun K hK=>AW.region (by kernel_rfl) ?_;simp -implicitDefEqProofs only[go_sem,seval,↓reduceIte];refine hK _ ?_;clear hK K)
   (refine AW.ret ?_;simp -implicitDefEqProofs only[go_sem,seval,↓reduceIte];refine Zia ?_)
   rw [hK3 (.inr (.inl q2))]
  have h2:decide (op > 22)=false:=by simpa using q2
  by_cases q4:op=1
  ·have h4:(op != 1)=false:=by simpa using q4
   by_cases q3:num<0
   ·have h3:decide (num<0)=true:=by simpa using q3
    (refine Zh fun K hK=>AW.region (by kernel_rfl) ?_;simp -implicitDefEqProofs only[go_sem,seval,↓reduceIte,h1,h2,h3,h4];refine hK _ ?_;clear hK K)
    refine Za (b:=true) zp (fun _=>?_) (fun h=>by cases h)
    (refine Zh fun K hK=>AW.region (by kernel_rfl) ?_;simp -implicitDefEqProofs only[go_sem,seval,↓reduceIte];refine hK _ ?_;clear hK K)
    (refine AW.ret ?_;simp -implicitDefEqProofs only[go_sem,seval,↓reduceIte];refine Zia ?_)
    rw [hK3 (.inr (.inr (.inl q3)))]
   have h3:decide (num<0)=false:=by simpa using q3
   (refine Zh fun K hK=>AW.region (by kernel_rfl) ?_;simp -implicitDefEqProofs only[go_sem,seval,↓reduceIte,h1,h2,h3,h4];refine hK _ ?_;clear hK K)
   refine Za (b:=false) zp (fun h=>by cases h) (fun _=>?_);refine Z0 ?_;exact hK1 _ () (hK2 (eq_false q1) (eq_false q2) (eq_false q3) (.inl q4)) (Zb zp zp)
  have h4:(op != 1)=true:=by simpa using q4
  by_cases q5:num=0
  ·have h5:(num != 0)=false:=by simpa using q5
   have q3:¬ num<0:=by omega
   have h3:decide (num<0)=false:=by simpa using q3
   (refine Zh fun K hK=>AW.region (by kernel_rfl) ?_;simp -implicitDefEqProofs only[go_sem,seval,↓reduceIte,h1,h2,h3,h4,h5];refine hK _ ?_;clear hK K)
   refine Za (b:=false) zp (fun h=>by cases h) (fun _=>?_);refine Z0 ?_;exact hK1 _ () (hK2 (eq_false q1) (eq_false q2) (eq_false q3) (.inr q5)) (Zb zp zp)
  have h5:(num != 0)=true:=by simpa using q5
  (refine Zh fun K hK=>AW.region (by kernel_rfl) ?_;simp -implicitDefEqProofs only[go_sem,seval,↓reduceIte,h1,h2,h4,h5];refine hK _ ?_;clear hK K)
  refine Za (b:=true) zp (fun _=>?_) (fun h=>by cases h)
  (refine Zh fun K hK=>AW.region (by kernel_rfl) ?_;simp -implicitDefEqProofs only[go_sem,seval,↓reduceIte];refine hK _ ?_;clear hK K)
  (refine AW.ret ?_;simp -implicitDefEqProofs only[go_sem,seval,↓reduceIte];refine Zia ?_)
  rw [hK3 (.inr (.inr (.inr ⟨q4,q5⟩)))]
 rintro _ hW2;refine Zh fun K2 hK2=>?_;refine Zh fun K hK=>AW.region (by kernel_rfl) ?_;refine Zs ?_;refine hK _ ?_
 try clear hK K
 refine Za rfl (fun h5=>?_) (fun h5=>?_)
 ·have h5:op=2:=by simpa using h5
  rw [if_pos h5] at hW2;refine Zh fun K hK=>AW.region (by kernel_rfl) ?_;refine Zs ?_;refine Zc hG ?_ (s:=(Zyi G hG name (by omega)));refine hK _ ?_
  try clear hK K
  refine Z ?_;rw [hW2];generalize isP name=z
  cases hz:(z==2) with
  | true =>
   have:((z:Int)==2)=true:=by rw [beq_iff_eq] at hz ⊢;omega
   rw [this]
  | false =>
   have:((z:Int)==2)=false:=by rw [beq_eq_false_iff_ne] at hz ⊢;omega
   rw [this]
 ·have h5:¬ op=2:=by simpa using h5
  rw [if_neg h5] at hW2;refine Z0 ?_;refine hK2 _ ?_;refine Zh fun K hK=>AW.region (by kernel_rfl) ?_;refine Zs ?_;refine hK _ ?_
  try clear hK K
  refine Z ?_;rw [hW2]
def Zrs (n:XN):Nat→Int
 | 0=>n.a
 | 1=>n.b
 | _=>n.c
def Zjm (rec:Int→Int) (n:XN):Nat→Int→Option Int
 | 0,last=>some last
 | k+1,last=>match Z9a rec (Nat.blt k (Zi n.op)) (Zrs n k) last with
  | none=>none
  | some q=>Zjm rec n k q
theorem Za8 (l:List XN) (f:Nat) (i:Int):Zhh l (f+1) i=match Zow l i with
  | none => -1
  | some n=>bif Ztd n then (match Zjm (Zhh l f) n 3 (i-1) with | none => -1 | some q=>q+1) else -1:=by
 rw [Zhh]
 cases Zow l i with
 | none=>rfl
 | some n =>
  simp only
  cases Ztd n with
  | false=>rfl
  | true =>
   simp only [cond_true,Zjm,Zrs]
   cases Z9a (Zhh l f) (Nat.blt 2 (Zi n.op)) n.c (i-1) with
   | none=>rfl
   | some l2 =>
    simp only
    cases Z9a (Zhh l f) (Nat.blt 1 (Zi n.op)) n.b l2 with
    | none=>rfl
    | some l1 =>
     simp only
     cases Z9a (Zhh l f) (Nat.blt 0 (Zi n.op)) n.a l1 with
     | none=>rfl
     | some l0=>rfl
theorem Zi4 {rec:Int→Int} {pl last:Int} (h:¬ pl=last):Z9a rec true pl last=none:=by simp [Z9a,h]
theorem Z0z {rec:Int→Int} {pl last:Int} (h:pl=last) (h2:rec last<0):Z9a rec true pl last=none:=by simp [Z9a,h,h2]
theorem Zzz {rec:Int→Int} {pl last:Int} (h:pl=last) (h2:¬ rec last<0):Z9a rec true pl last=some (rec last-1):=by simp [Z9a,h,h2]
theorem bsNo {rec:Int→Int} {pl last:Int} (h:¬ pl = -1):Z9a rec false pl last=none:=by simp [Z9a,h]
theorem bsNone {rec:Int→Int} {pl last:Int} (h:pl = -1):Z9a rec false pl last=some last:=by simp [Z9a,h]
theorem begR_le (l:List XN) (f:Nat) (i:Int) (h:0≤Zhh l f i):Zhh l f i≤i:=by
 obtain ⟨x,b,_,_,h3,h4⟩:=Zoe l f i h;have:=x.size_pos;omega
theorem Zdz (G:Nat→V) (hG:GOk G) (s:Sl XN) (hs:s.l.length<1000000) (hnm:∀ n∈s.l,n.name.length<100000):∀ (f:Nat) (c:Col) (i:Int),-1≤i→i<f→i<1000000 →
  Spec Tryz.prog G 169 [Zd c 6 Zca s,.int .i64 i] Zl (fun v _=>v = .int .i64 (Zhh s.l f i)):=by
 intro f
 induction f with
 | zero =>
  intro c i h1 h2 _
  obtain rfl:i = -1:=by omega
  refine Zo 0 68 [.tmp 4] Tryz.func169 fun X=>?_;refine Z1 ?_;refine Z1 ?_;refine Za rfl (fun h2=>?_) (fun h2=>?_)
  ·exact Zr
  ·cases h2
 | succ f ih =>
 intro c i h1 h2 h3;refine Zo 0 68 [.tmp 4] Tryz.func169 fun X=>?_;have hB:=Za8 s.l f i;generalize Zhh s.l (f+1) i=res at hB ⊢;refine Z1 ?_;refine Zy ?_
 by_cases hi:i<0
 ·have e1:decide (i<0)=true:=by simpa using hi
  have hno:Zow s.l i=none:=by unfold Zow;rw [if_pos hi]
  rw [hno] at hB;refine Z1f e1 ?_;refine Za rfl (fun h4=>?_) (fun h4=>?_)
  ·refine Z ?_
   rw [hB]
  ·cases h4
 have e1:decide (i<0)=false:=by simpa using hi
 obtain ⟨m,rfl⟩:∃ m:Nat,i=m:=⟨i.toNat,by omega⟩
 by_cases hm:m≥s.l.length
 ·have e2:decide ((m:Int)≥s.l.length)=true:=zT
  have hno:Zow s.l m=none:=by unfold Zow;rw [if_neg hi];exact List.getElem?_eq_none (by simpa using hm)
  rw [hno] at hB;refine Z1f (zi e1 e2) ?_;refine Za rfl (fun h4=>?_) (fun h4=>?_)
  ·refine Z ?_
   rw [hB]
  ·cases h4
 have e2:decide ((m:Int)≥s.l.length)=false:=zF;have hg:=List.getElem?_eq_getElem (Nat.lt_of_not_le hm);have hnn:=hnm _ (List.getElem_mem (Nat.lt_of_not_le hm));generalize s.l[m]=n at hg hnn
 have hno:Zow s.l m=some n:=by unfold Zow;rw [if_neg hi];exact hg
 rw [hno] at hB;simp only at hB;refine Z1f (zi e1 (zi e2 (zi hg @Zt))) ?_;rw [← Zt];refine Zcf @Zti hG ?_ (s:=(Z9v G hG n hnn))
 cases hw:Ztd n with
 | false =>
  rw [hw,cond_false] at hB;refine Za rfl (fun h4=>?_) (fun h4=>?_)
  ·refine Z ?_
   rw [hB]
  ·cases h4
 | true =>
 rw [hw,cond_true] at hB;refine Z1f (zi hg @Zt) ?_;intro g5;refine Z1 ?_;intro g36;have hw1:IntKind.i64.wrap ((m:Int)-1)=(m:Int)-1:=w64 (by omega) (by omega);refine Z1f hw1 ?_;refine Z1 ?_;refine AW.block ?_
 refine Zwc (fun (x:Nat × Int)=>st [(0,Zd c 6 Zca s),(5,.ptr 5 g5 0),(6,.msl 36 g36 0 3 1),(7,.int .i64 x.2),(8,.int .i64 ((x.1:Int)-1))] [(5,.cells .new g5 0 [.int .u8 n.op,.int .i64 n.num,.str n.name,.int .i64 n.a,.int .i64 n.b,.int .i64 n.c]),(36,.cells .new g36 0 [.int .i64 n.a,.int .i64 n.b,.int .i64 n.c])])
  (fun x=>(res=match Zjm (Zhh s.l f) n x.1 x.2 with | none => -1 | some q=>q+1)∧x.1≤3 ∧ -1≤x.2∧x.2≤(m:Int)-1) (fun x=>x.1) (3,(m:Int)-1) ⟨hB,Nat.le_refl _,by show -1≤(m:Int)-1;omega,Int.le_refl _⟩
  (Zb zp zp) ?_
 try clear hB
 rintro ⟨k,last⟩ ⟨hB,hk3,hl1,hl2⟩ L6 hL6
 replace hB:res=match Zjm (Zhh s.l f) n k last with | none => -1 | some q=>q+1:=hB
 replace hk3:k≤3:=hk3
 replace hl1 : -1≤last:=hl1
 replace hl2:last≤(m:Int)-1:=hl2
 refine Z1 ?_
 cases k with
 | zero =>
  refine Z ?_
  rw [hB,w64 (by omega) (by omega)]<;>rfl
 | succ k =>
 have e8:decide (((k+1:Nat):Int)-1≥0)=true:=zT;rw [Zjm] at hB;refine Za rfl (fun h8=>?_) (fun h8=>?_);rotate_left
 ·rw [e8] at h8;cases h8
 refine Z0 ?_
 have ek:((k+1:Nat):Int)-1=(k:Int):=by omega
 rw [ek];have hwk:IntKind.i64.wrap ((k:Int)-1)=(k:Int)-1:=w64 (by omega) (by omega)
 have hpl:([.int .i64 n.a,.int .i64 n.b,.int .i64 n.c]:List V)[k]? = some (.int .i64 (Zrs n k)):=by
  match k,hk3 with
  | 0,_=>rfl
  | 1,_=>rfl
  | 2,_=>rfl
 have hklt:(k:Int)<3:=by omega
 generalize Zrs n k=pl at hB hpl;refine Z1 ?_;refine Zc hG ?_ (s:=(Zwk G hG n.op));generalize hpo:Zi n.op=po at hB ⊢
 by_cases hkp:k<po
 ·have e5:decide ((k:Int)≥(po:Int))=false:=zF
  have hbs:Nat.blt k po=true:=by simpa using hkp
  rw [hbs] at hB;refine Za rfl (fun h11=>?_) (fun h11=>?_)
  ·rw [e5] at h11;cases h11
  refine Z0 ?_;refine Zy ?_
  by_cases hpe:pl=last
  rotate_left
  ·have e6:(pl != last)=true:=by simpa using hpe
   rw [Zi4 hpe] at hB;refine Z1f (zi @Nat.mul_one (zi hpl (zi hklt (zi @Int.natCast_nonneg e6)))) ?_;refine Za rfl (fun h13=>?_) (fun h13=>?_)
   ·refine Z ?_
    rw [hB]
   ·cases h13
  have e6:(pl != last)=false:=by simpa using hpe
  refine Z1f (zi @Nat.mul_one (zi hpl (zi hklt (zi @Int.natCast_nonneg e6)))) ?_;refine Z1 ?_;refine Zcf @Z4 hG ?_ (s:=(ih c.ent last (by omega) (by omega) (by omega)));have hge:=Zb8 s.l f last;have hle:=begR_le s.l f last;refine Zy ?_
  by_cases hr0:Zhh s.l f last<0
  ·have e7:decide (Zhh s.l f last<0)=true:=by simpa using hr0
   rw [Z0z hpe hr0] at hB;refine Z1f e7 ?_;refine Za rfl (fun h15=>?_) (fun h15=>?_)
   ·refine Z ?_
    rw [hB]
   ·cases h15
  have e7:decide (Zhh s.l f last<0)=false:=by simpa using hr0
  rw [Zzz hpe hr0] at hB;refine Z1f e7 ?_;refine Z0 ?_;have hle2:=hle (by omega);generalize Zhh s.l f last=r at hB hge hle2 hr0 ⊢;have hwr:IntKind.i64.wrap (r-1)=r-1:=w64 (by omega) (by omega);refine Z1f hwr ?_;refine Z1f hwk ?_;refine hL6 _ ⟨(k,r-1),by show k<k+1;omega,⟨hB,by show k≤3;omega,by show -1≤r-1;omega,by show r-1≤(m:Int)-1;omega⟩,Zb zp zp⟩
 ·have e5:decide ((k:Int)≥(po:Int))=true:=zT
  have hbs:Nat.blt k po=false:=by
   rw [Bool.eq_false_iff];simpa using hkp
  rw [hbs] at hB;refine Za rfl (fun h11=>?_) (fun h11=>?_);rotate_left
  ·rw [e5] at h11;cases h11
  refine Zy ?_
  by_cases hpe:pl = -1
  rotate_left
  ·have e6:(pl != -1)=true:=by simpa using hpe
   rw [bsNo hpe] at hB;refine Z1f (zi @Nat.mul_one (zi hpl (zi hklt (zi @Int.natCast_nonneg e6)))) ?_;refine Za rfl (fun h13=>?_) (fun h13=>?_)
   ·refine Z ?_
    rw [hB]
   ·cases h13
  have e6:(pl != -1)=false:=by simpa using hpe
  rw [bsNone hpe] at hB;refine Z1f (zi @Nat.mul_one (zi hpl (zi hklt (zi @Int.natCast_nonneg e6)))) ?_;refine Z1f hwk ?_;refine hL6 _ ⟨(k,last),by show k<k+1;omega,⟨hB,by show k≤3;omega,hl1,hl2⟩,Zb zp zp⟩
def dep0 (s:Sl XN) (G:Nat→V) (i d:Int):Prop:=∀ c,Spec Tryz.prog G 170 [Zd c 6 Zca s,.int .i64 i] Zl (fun v _=>v = .int .i64 d)
theorem Z1e (G:Nat→V) (hG:GOk G) (s:Sl XN):dep0 s G (-1) 0:=by
 intro c;refine Zo 0 30 [.tmp 4] Tryz.func170 fun X=>?_;refine Z1 ?_;refine Z1 ?_;refine Za rfl (fun h2=>?_) (fun h2=>?_)
 ·exact Zr
 ·cases h2
theorem Z6g (G:Nat→V) (hG:GOk G) (s:Sl XN) (m:Nat) (n:XN) (hg:s.l[m]? = some n) (d0 d1 d2:Int) (h0:dep0 s G n.a d0) (h1:dep0 s G n.b d1) (h2:dep0 s G n.c d2) (hb:(0≤d0∧d0<1000000)∧(0≤d1∧d1<1000000)∧(0≤d2∧d2<1000000)) :
  dep0 s G m (max (max d0 d1) d2+1):=by
 intro c;refine Zo 0 30 [.tmp 4] Tryz.func170 fun X=>?_;refine Z1 ?_;refine Zy ?_;have e1:decide ((m:Int)<0)=false:=zF;refine Z1f e1 ?_;refine Z0 ?_
 have pc:∀ i d,dep0 s G i d→Zni Tryz.prog G 170 [Zd c 6 Zca s,.int .i64 i] (.int .i64 d):=fun i d h=>⟨by kernel_rfl,by
  simp only [List.map_cons,List.map_nil,Z4,Zxd];refine (h c.ent).mono ?_;rintro _ _ rfl
  rfl⟩
 have hmx:(if d2 > (if d1 > d0 then d1 else d0) then d2 else (if d1 > d0 then d1 else d0))=max (max d0 d1) d2:=by
  rw [Int.max_def,Int.max_def]
  split<;>split<;>split<;>omega
 have hw:IntKind.i64.wrap (1+max (max d0 d1) d2)=max (max d0 d1) d2+1:=by rw [w64 (by omega) (by omega)];omega
 refine Zy <| Z5 ⟨fun i=>if i=6 then .int .i64 d0 else if i=13 then .int .i64 d1 else if i=20 then .int .i64 d2 else .top,fun _ => .pure⟩ (by kernel_rfl) hG (by kernel_rfl) (by kernel_rfl) ?_
 refine Zsf (zi hg (zi @Zt (zi hmx hw))) ?_;refine ⟨pc _ _ h0,pc _ _ h1,pc _ _ h2,?_⟩;exact Zr
theorem Zhd:∀ x:X,x.depth≤x.size
 | .leaf .. => Nat.le_refl _
 | .un _ a=>by have:=Zhd a;simp only [X.depth,X.size];omega
 | .bin _ a b=>by have:=Zhd a;have:=Zhd b;simp only [X.depth,X.size];omega
 | .ite a b c=>by have:=Zhd a;have:=Zhd b;have:=Zhd c;simp only [X.depth,X.size];omega
theorem Zom {l:List XN} {x:X} {b:Nat} (h:At l x b):b+x.size≤l.length:=by
 obtain ⟨pre,post,rfl,hb⟩:=h;rw [List.length_append,List.length_append,X.row_len];omega
theorem Zhf (G:Nat→V) (hG:GOk G) (s:Sl XN) (hs:s.l.length<1000000):∀ (x:X) (b:Nat),At s.l x b→dep0 s G ((b:Int)+x.size-1) x.depth
 | .leaf op num name,b,h=>by
  have:=Z6g G hG s b _ h.get 0 0 0 (Z1e G hG s) (Z1e G hG s) (Z1e G hG s) ⟨by decide,by decide,by decide⟩
  have e:(b:Int)+(X.leaf op num name).size-1=(b:Nat):=by simp only [X.size];omega
  rw [e];exact this
 | .un op a,b,h=>by
  have ha:=h.un;have ih:=Zhf G hG s hs a b ha;have hz:=Zom h;have hd:=Zhd a;have hp:=a.size_pos;have:=Z6g G hG s _ _ h.get _ 0 0 ih (Z1e G hG s) (Z1e G hG s) ⟨⟨by omega,by simp only [X.size] at hz;omega⟩,by decide,by decide⟩
  have e:(b:Int)+(X.un op a).size-1=((b+(X.un op a).size-1:Nat):Int):=by simp only [X.size];omega
  rw [e]
  have e2:((X.un op a).depth:Int)=max (max (a.depth:Int) 0) 0+1:=by simp only [X.depth];omega
  rw [e2];exact this
 | .bin op x y,b,h=>by
  obtain ⟨hx,hy⟩:=h.bin;have ihx:=Zhf G hG s hs x b hx;have ihy:=Zhf G hG s hs y (b+x.size) hy;have hz:=Zom h;have hd1:=Zhd x;have hd2:=Zhd y;have hp1:=x.size_pos;have hp2:=y.size_pos
  have e3:((b+x.size:Nat):Int)+y.size-1=(b:Int)+x.size+y.size-1:=by omega
  rw [e3] at ihy;simp only [X.size] at hz;have:=Z6g G hG s _ _ h.get _ _ 0 ihx ihy (Z1e G hG s) ⟨⟨by omega,by omega⟩,⟨by omega,by omega⟩,by decide⟩
  have e:(b:Int)+(X.bin op x y).size-1=((b+(X.bin op x y).size-1:Nat):Int):=by simp only [X.size];omega
  rw [e]
  have e2:((X.bin op x y).depth:Int)=max (max (x.depth:Int) y.depth) 0+1:=by simp only [X.depth];omega
  rw [e2];exact this
 | .ite x y z,b,h=>by
  obtain ⟨hx,hy,hz'⟩:=h.ite;have ihx:=Zhf G hG s hs x b hx;have ihy:=Zhf G hG s hs y (b+x.size) hy;have ihz:=Zhf G hG s hs z (b+x.size+y.size) hz';have hz:=Zom h;have hd1:=Zhd x;have hd2:=Zhd y;have hd3:=Zhd z;have hp1:=x.size_pos;have hp2:=y.size_pos;have hp3:=z.size_pos
  have e3:((b+x.size:Nat):Int)+y.size-1=(b:Int)+x.size+y.size-1:=by omega
  rw [e3] at ihy
  have e4:((b+x.size+y.size:Nat):Int)+z.size-1=(b:Int)+x.size+y.size+z.size-1:=by omega
  rw [e4] at ihz;simp only [X.size] at hz;have:=Z6g G hG s _ _ h.get _ _ _ ihx ihy ihz ⟨⟨by omega,by omega⟩,⟨by omega,by omega⟩,⟨by omega,by omega⟩⟩
  have e:(b:Int)+(X.ite x y z).size-1=((b+(X.ite x y z).size-1:Nat):Int):=by simp only [X.size];omega
  rw [e]
  have e2:((X.ite x y z).depth:Int)=max (max (x.depth:Int) y.depth) z.depth+1:=by simp only [X.depth];omega
  rw [e2];exact this
end Go.Hs
end

section
namespace Go.Hs
open Go.Proofs
set_option maxRecDepth 10000
theorem Zmo (G:Nat→V) (hG:GOk G) (c:Col) (s:Sl XN) (hs:s.l.length<1000000) (hnm:∀ n∈s.l,n.name.length<100000) :
  Spec Tryz.prog G 102 [Zd c 6 Zca s] Zl (fun v _=>v = .bool (Z5v s.l)):=by
 refine Zo 0 9 [.tmp 2] Tryz.func102 fun X=>?_;have hw:IntKind.i64.wrap ((s.l.length:Int)-1)=(s.l.length:Int)-1:=w64 (by omega) (by omega);refine Z1 ?_;refine Z1f hw ?_;refine Zcf @Z4 hG ?_ (s:=(Zdz G hG s hs hnm s.l.length c.ent ((s.l.length:Int)-1) (by omega) (by omega) (by omega)));exact Zr
theorem Zum (G:Nat→V) (hG:GOk G) (c:Col) (s:Sl XN) (hs:s.l.length<1000000) (hnm:∀ n∈s.l,n.name.length<100000) :
  Spec Tryz.prog G 103 [Zd c 6 Zca s] Zl (fun v _=>v = .int .i64 (Zdb s.l)):=by
 refine Zo 0 11 [.tmp 2] Tryz.func103 fun X=>?_;have hw:IntKind.i64.wrap ((s.l.length:Int)-1)=(s.l.length:Int)-1:=w64 (by omega) (by omega);refine Z1 ?_;refine Z1 ?_;refine Zcf @Z4 hG ?_ (s:=(Zmo G hG c.ent s hs hnm))
 cases hr:Z5v s.l with
 | false =>
  have hd:Zdb s.l=0:=by
   have:=Zfo s.l;rw [hr] at this;have h2:=of_decide_eq_false this.symm;exact Classical.byContradiction h2
  refine Za rfl (fun h6=>?_) (fun h6=>?_)
  ·refine Z ?_
   rw [hd]
  ·cases h6
 | true =>
 refine Z0 ?_;obtain ⟨x,hx,hl⟩:=Zyq.1 hr;have hat:At s.l x 0:=hl ▸ Zlh x
 have hdep:Zdb s.l=x.depth:=by rw [hl,Zrg hx]
 have hlen:s.l.length=x.size:=by rw [hl,Go.Hs.X.row_len]
 have hsp:=Zhf G hG s hs x 0 hat;rw [show ((0:Nat):Int)+x.size-1=(s.l.length:Int)-1 by omega] at hsp;refine Z1f hw ?_;refine Zcf @Z4 hG ?_ (s:=(hsp c.ent));refine Z ?_;rw [hdep]
def Zma (l:List XN):Int:=if Zdb l=0 then 2 else if Zdb l > 64 then 3 else 0
theorem Zqj (G:Nat→V) (hG:GOk G) (c:Col) (s:Sl XN) (hs:s.l.length<1000000) (hnm:∀ n∈s.l,n.name.length<100000) :
  Spec Tryz.prog G 54 [Zd c 6 Zca s] Zl (fun v _=>v = .int .i64 (Zma s.l)):=by
 refine Zo 0 9 [.tmp 2] Tryz.func54 fun X=>?_
 have hC:Zma s.l=if Zdb s.l=0 then 2 else if Zdb s.l > 64 then 3 else 0:=rfl
 generalize Zma s.l=res at hC ⊢;refine Z1 ?_;refine Z1 ?_;refine Zcf @Z4 hG ?_ (s:=(Zmo G hG c.ent s hs hnm));rw [Zfo]
 by_cases hd:Zdb s.l=0
 ·rw [if_pos hd] at hC
  have e1:decide (Zdb s.l≠0)=false:=by simpa using hd
  rw [e1];refine Za rfl (fun h6=>?_) (fun h6=>?_)
  ·refine Z ?_
   rw [hC]
  ·cases h6
 have e1:decide (Zdb s.l≠0)=true:=by simpa using hd
 rw [if_neg hd] at hC;rw [e1];refine Z1 ?_;refine Zcf @Z4 hG ?_ (s:=(Zum G hG c.ent s hs hnm));refine Za rfl (fun h7=>?_) (fun h7=>?_)
 ·have h7:Zdb s.l > 64:=by simpa using h7
  rw [if_pos h7] at hC;refine Z ?_;rw [hC]
 ·have h7:¬ Zdb s.l > 64:=by simpa using h7
  rw [if_neg h7] at hC;refine Z ?_;rw [hC]
theorem Zyg (G:Nat→V) (hE:GExp G) (c:Col) (s:Sl XN) (hs:s.l.length<1000000) (hnm:∀ n∈s.l,n.name.length<100000) :
  Spec Tryz.prog G 93 [.agg [Zd c 6 Zca s]] Zl (fun v _=>v = .int .i64 (Zma s.l)):=by
 have hG:=hE.ok;refine Zo 0 12 [.tmp 2] Tryz.func93 fun X=>?_
 have hC:Zma s.l=if Zdb s.l=0 then 2 else if Zdb s.l > 64 then 3 else 0:=rfl
 generalize Zma s.l=res at hC ⊢;refine Z1 ?_;intro g1;refine Z1 ?_;refine Zcf @Z4 hG ?_ (s:=(Zyn G hE c.ent s hs hnm));refine Z1 ?_;refine Za rfl (fun h6=>?_) (fun h6=>?_)
 ·have h6:Zdb s.l=0:=by simpa using h6
  rw [if_pos h6] at hC;refine Z ?_;rw [hC]
 have h6:¬ Zdb s.l=0:=by simpa using h6
 rw [if_neg h6] at hC;refine Z1 ?_;refine Za rfl (fun h7=>?_) (fun h7=>?_)
 ·have h7:Zdb s.l > 64:=by simpa using h7
  rw [if_pos h7] at hC;refine Z ?_;rw [hC]
 ·have h7:¬ Zdb s.l > 64:=by simpa using h7
  rw [if_neg h7] at hC;refine Z ?_;rw [hC]
end Go.Hs
end

section
namespace Go.Hs
def NmQ (Q:List UInt8→Prop) (r:RS):Prop:=∀ n∈r.nodes,Q n.name
def NmI (Q:List UInt8→Prop) (inner:Inner):Prop:=∀ n r,NmQ Q r→NmQ Q (inner n r).2
theorem NmQ.put {Q:List UInt8→Prop} {r:RS} {n:XN} (h:NmQ Q r) (hn:Q n.name):NmQ Q (r.put n):=by
 intro m hm
 rcases List.mem_append.1 hm with h1 | h1
 ·exact h m h1
 ·rw [List.mem_singleton.1 h1];exact hn
theorem Zkc {Q:List UInt8→Prop} {x:Bool × RS} {k:RS→Bool × RS} (h:NmQ Q x.2) (hk:∀ r,NmQ Q r→NmQ Q (k r).2):NmQ Q (andThen x k).2:=by
 obtain ⟨b,r⟩:=x;cases b
 ·exact h
 ·exact hk r h
theorem Zep {Q:List UInt8→Prop} (l:List Tk) (w:List UInt8) {r:RS} (h:NmQ Q r):NmQ Q (Z5e l w r).2:=by
 unfold Z5e;split<;>exact h
theorem Zw3 {Q:List UInt8→Prop} (h0:Q []) (t:List UInt8) {r:RS} (h:NmQ Q r):NmQ Q (Z4c r t).2:=by
 unfold Z4c;split
 ·exact h
 ·exact NmQ.put (n:=⟨1,_,[],-1,-1,-1⟩) h h0
theorem Zfx {Q:List UInt8→Prop} {l:List Tk} {inner:Inner} (h0:Q []) (hi:NmI Q inner) {r:RS} (h:NmQ Q r):NmQ Q (Z6a l inner r).2:=by
 unfold Z6a;refine Zkc (Zep _ _ h) fun r1 h1=>Zkc (hi _ _ h1) fun a h2=>Zkc (Zep _ _ h2) fun r2 h3=>Zkc (hi _ _ h3) fun b h4=>Zkc (Zep _ _ h4) fun r3 h5=>Zkc (hi _ _ h5) fun c h6=>Zkc (Zep _ _ h6) fun r4 h7=>?_;exact NmQ.put h7 h0
theorem Zf8 {Q:List UInt8→Prop} {l:List Tk} {inner:Inner} (h0:Q []) (hq:∀ i,(Z3 l i).kind=2→Q (Z3 l i).text) (hi:NmI Q inner) {r:RS} (h:NmQ Q r):NmQ Q (Zya l inner r).2:=by
 unfold Zya
 split
 ·exact Zw3 h0 _ h
 split
 ·rename_i hk;exact NmQ.put (n:=⟨2,0,(Z3 l r.i).text,-1,-1,-1⟩) h (hq _ hk)
 split
 ·exact h
 split
 ·exact Zkc (hi _ _ h) fun a ha=>NmQ.put ha h0
 split
 ·exact Zkc (hi _ _ h) fun a ha=>Zep _ _ ha
 split
 ·exact Zfx h0 hi h
 split
 ·exact NmQ.put (n:=⟨_,0,[],-1,-1,-1⟩) h h0
 ·exact h
theorem Z41 {Q:List UInt8→Prop} {l:List Tk} {inner:Inner} (h0:Q []) (hi:NmI Q inner) (n:Int):∀ (m:Nat) (r:RS),NmQ Q r→NmQ Q (Z2b l inner n m r).2
 | 0,r,h=>h
 | m+1,r,h=>by
  rw [Z2b]
  split
  ·exact h
  ·split
   ·exact h
   ·exact Zkc (hi _ r.adv h) fun a ha=>Z41 h0 hi n m (a.put _) (NmQ.put ha h0)
theorem Zgp {Q:List UInt8→Prop} (l:List Tk) (h0:Q []) (hq:∀ i,(Z3 l i).kind=2→Q (Z3 l i).text):∀ f,NmI Q (Zm l f)
 | 0=>fun _ _ h=>h
 | f+1=>fun n r h=>by
  rw [Zm];exact Zkc (Zf8 h0 hq (Zgp l h0 hq f) h) fun a ha=>Z41 h0 (Zgp l h0 hq f) n _ a ha
end Go.Hs
end

section
namespace Go.Hs
def Z9c (l:List Tk):List XN × Int × Int:=if (Zm l (l.length+1) 1 ⟨0,[],0⟩).1=false then ([],(Zm l (l.length+1) 1 ⟨0,[],0⟩).2.i,(Zm l (l.length+1) 1 ⟨0,[],0⟩).2.e)
 else if Zdb (Zm l (l.length+1) 1 ⟨0,[],0⟩).2.nodes > 64 then ([],0,3) else ((Zm l (l.length+1) 1 ⟨0,[],0⟩).2.nodes,(Zm l (l.length+1) 1 ⟨0,[],0⟩).2.i,0)
theorem Z5h {l:List Tk}:0≤(Z9c l).2.1∧(Z9c l).2.1≤(l.length:Nat):=by
 have hok:=((Zjc l (l.length+1) 1 ⟨0,[],0⟩).ok ⟨Nat.zero_le _,Nat.le_refl _⟩).1;unfold Z9c
 split
 ·exact ⟨Int.natCast_nonneg _,Int.ofNat_le.2 hok⟩
 ·split
  ·exact ⟨Int.le_refl _,Int.natCast_nonneg _⟩
  ·exact ⟨Int.natCast_nonneg _,Int.ofNat_le.2 hok⟩
end Go.Hs
end

section
namespace Go.Hs
open Go.Proofs
set_option maxRecDepth 10000
theorem Zgy {NO:Nat} {tl:List V} {G:Nat→V} (hG:GOk G) {f:FuncId} {args args':List V} {sl:Sl Tk} {g:Nat} {r r':RS} {v:V} (h:RdS NO tl G f args' sl g r v r') {H:Heap} {K:V→Heap→Prop}
  (hen:Zka Tryz.prog f=true) (htl:∀ F:Col→Col,tl.map (V.recol F)=tl) (hargs:args.map (V.recol Col.ent)=args') (hv:v.recol Col.bk=v) (hr:r.nodes=[])
  (cs:List V) (h8:H 8 = .cells .new g 0 cs) (hcs:Z4a Col.ent cs=(Zd .any 3 Z8a sl :: .int .i64 r.i :: .nils :: .int .i64 r.e::tl)) (hN:H NO = .dead)
  (hk:∀ gx',K v (Zub H [(8,.cells .new g 0 (Zd .any 3 Z8a sl :: .int .i64 r'.i::grown NO gx' 6 r'.nodes :: .int .i64 r'.e::tl)),(NO,Zjb gx' Zca r'.nodes)])) :
  CallA Tryz.prog G f (.ptr 8 g 0::args) H K:=by
 refine Z00 hG [(8,rdO NO tl sl g 0 r),(NO,ndO 0 r.nodes)] hen ?_ ?_ ?_
 ·intro p hp
  simp only [List.mem_cons,List.not_mem_nil,or_false] at hp
  rcases hp with rfl | rfl
  ·simp only [h8,AObj.toAny,hcs,Zra,hr];rfl
  ·simp only [hN,AObj.toAny,hr];rfl
 ·intro p hp c g' fz cs' ho
  simp only [List.mem_cons,List.not_mem_nil,or_false] at hp
  rcases hp with rfl | rfl
  ·simp only [h8,AObj.cells.injEq] at ho;exact ho.1.symm
  ·simp only [hN] at ho;cases ho
 ·have ha:(V.ptr 8 g 0::args).map (V.recol Col.ent) = .ptr 8 g 0::args':=by rw [List.map_cons,Zuk,hargs]
  rw [ha];refine (h 0).mono ?_;rintro _ H' ⟨rfl,gx',q8,qN⟩
  have b8:(rdO NO tl sl g gx' r').backNew = .cells .new g 0 (Zd .any 3 Z8a sl :: .int .i64 r'.i::grown NO gx' 6 r'.nodes :: .int .i64 r'.e::tl):=by
   simp only [Zra,AObj.backNew,Zv,List.map_cons,Z2a,Zxd,Zff,htl];rfl
  have bN:(ndO gx' r'.nodes).backNew=Zjb gx' Zca r'.nodes:=by
   unfold ndO
   cases hn:r'.nodes with
   | nil=>rfl
   | cons x t =>
    rw [Z9k _ _ _ (by simp),Zic _ _ (by simp)];simp only [AObj.backNew,Zv];rw [← Z4e,List.map_map];have he:(x::t).map (V.recol Col.bk ∘ Zca)=(x::t).map Zca:=List.map_congr_left fun y _=>Zti _ y
    first | done | rw [he]
  simp only [List.map_cons,List.map_nil,q8,qN,b8,bN,hv];exact hk gx'
def encXs (c:Col) (l:List XN):V:=Zd c 6 Zca (Zea l)
def encFr (c:Col) (p:List XN × Int × Int):V := .tuple [.agg [encXs c p.1],.int .i64 p.2.1,.int .i64 p.2.2]
theorem Zfp {l:List Tk} (hT:TkOk l):∀ n∈(Zm l (l.length+1) 1 ⟨0,[],0⟩).2.nodes,n.name.length<100000 :=
 Zgp (Q:=fun s=>s.length<100000) l (Nat.zero_lt_succ _) (fun i _=>Zuo hT i) _ _ _ (fun n hn=>by cases hn)
theorem Z32 (G:Nat→V) (hE:GExp G) (c:Col) (sl:Sl Tk) (hT:TkOk sl.l):Spec Tryz.prog G 226 [Zd c 3 Z8a sl] Zl (fun v _=>v=encFr .new (Z9c sl.l)):=by
 have hG:=hE.ok;have hTl:=hT.len;refine Zo 0 44 [.cell 2 53,.tmp 3,.tmp 4] Tryz.func226 fun X=>?_
 have hP:Z9c sl.l=if (Zm sl.l (sl.l.length+1) 1 ⟨0,[],0⟩).1=false then (([]:List XN),((Zm sl.l (sl.l.length+1) 1 ⟨0,[],0⟩).2.i:Int),(Zm sl.l (sl.l.length+1) 1 ⟨0,[],0⟩).2.e)
  else if Zdb (Zm sl.l (sl.l.length+1) 1 ⟨0,[],0⟩).2.nodes > 64 then ([],0,3) else ((Zm sl.l (sl.l.length+1) 1 ⟨0,[],0⟩).2.nodes,((Zm sl.l (sl.l.length+1) 1 ⟨0,[],0⟩).2.i:Int),(0:Int)):=rfl
 have hr0:Zpl sl.l ⟨0,[],0⟩:=⟨Nat.zero_le _,Nat.le_refl _⟩;have hcl:=fun g=>Zry G hE sl hT g (sl.l.length+1) 1 ⟨0,[],0⟩ (by decide) (by decide) (Nat.lt_succ_self _) hr0;have hnm2:=Zfp hT;have hok:=(Zjc sl.l (sl.l.length+1) 1 ⟨0,[],0⟩);generalize Z9c sl.l=res at hP ⊢;generalize Zm sl.l (sl.l.length+1) 1 ⟨0,[],0⟩=y at hP hcl hok hnm2;obtain ⟨b,r⟩:=y;simp only at hP hcl hok hnm2;refine Z1 ?_;intro g2;refine Z1 ?_;intro g8;refine Zy ?_;refine AW.block ?_;refine AW.weak (Z2 (fun _=>false) (l:=[(5,.ptr 8 g8 0),(2,.ptr 2 g2 0)]) (m:=[(2,.cells .new g2 0 [.nils]),(8,.cells .new g8 0 [Zd .any 3 Z8a sl,.int .i64 0,.nils,.int .i64 0,.func (.func 256) [] []])]) ?_ ?_) ?_
 ·refine Zs ?_
  exact ⟨Ze _,Ze _⟩
 ·simp only [Zp,Zz,and_true]
  exact ⟨FzO.keep rfl zp,Zol (c := .new) (fz:=0) (cs:=[Zd c 3 Z8a sl,.int .i64 0,.nils,.int .i64 0,.func (.func 256) [] []]) rfl zp ⟨Fz.any (Z2a _ _ _),Ze _,Ze _,Ze _,Ze _,trivial⟩⟩
 refine Z1 ?_;refine Zgy hG (hcl g8) (by kernel_rfl) (fun F=>rfl) rfl rfl rfl _ zp (by simp only [Zv,List.map_cons,List.map_nil,Z2a];rfl) zp fun gx=>?_;refine Zu ?_
 cases b with
 | false =>
  refine Zpe rfl ?_;refine AW.weak (Z2 (fun o=>o==8) (l:=[(5,.view .new (.agg [Zd .any 3 Z8a sl,.int .i64 r.i,grown 1031 gx 6 r.nodes,.int .i64 r.e,.func (.func 256) [] []])),(2,.ptr 2 g2 0)]) (m:=[(2,.cells .new g2 0 [.nils])]) ?_ ?_) ?_
  ·refine Zs ?_
   exact ⟨Fz.ptr (v := .agg [Zd .any 3 Z8a sl,.int .i64 r.i,grown 1031 gx 6 r.nodes,.int .i64 r.e,.func (.func 256) [] []]) (c := .new) (fz:=0) rfl zp,Ze _⟩
  ·simp only [Zp,Zz,and_true]
   exact FzO.keep rfl zp
  refine Zy ?_;refine Z5 ⟨fun _ => .top,fun i=>if i=4 then .lend else if i=8 then .lend else .pure⟩ (by kernel_rfl) hG (by kernel_rfl) (by kernel_rfl) ?_;refine Zs ?_;refine Z ?_
  rw [hP]<;>rfl
 | true =>
 refine Zta rfl ?_;refine AW.weak (Z2 (fun o=>o==1031) (l:=[(5,.ptr 8 g8 0),(2,.ptr 2 g2 0)]) (m:=[(2,.cells .new g2 0 [.nils]),(8,.cells .new g8 0 [Zd .any 3 Z8a sl,.int .i64 r.i,encXs .new r.nodes,.int .i64 r.e,.func (.func 256) [] []])]) ?_ ?_) ?_
 ·refine Zs ?_
  exact ⟨Ze _,Ze _⟩
 ·simp only [Zp,Zz,and_true]
  exact ⟨FzO.keep rfl zp,Zol (c := .new) (fz:=0) (cs:=[Zd .any 3 Z8a sl,.int .i64 r.i,grown 1031 gx 6 r.nodes,.int .i64 r.e,.func (.func 256) [] []]) rfl zp ⟨Ze _,Ze _,Zyb rfl zp Z5c,Ze _,Ze _,trivial⟩⟩
 have hrl:r.nodes.length<1000000:=by have:=(hok.ok hr0);have h1:=this.1;have h2:=this.2;omega
 rw [if_neg (by simp)] at hP;refine Z1f @encXs.eq_1 ?_;refine Zcf @Z4 hG ?_ (s:=(Zyn G hE Col.new.ent (Zea r.nodes) (by rw [Zza];exact hrl) (by rw [Zza];exact hnm2)));refine Za rfl (fun h26=>?_) (fun h26=>?_)
 ·have h26:Zdb r.nodes > 64:=by simpa using h26
  rw [if_pos h26] at hP;refine Z ?_
  rw [hP]<;>rfl
 have h26:¬ Zdb r.nodes > 64:=by simpa using h26
 rw [if_neg h26] at hP;refine Z0 ?_;refine AW.weak (Z2 (fun o=>o==8) (l:=[(5,.view .new (.agg [Zd .any 3 Z8a sl,.int .i64 r.i,encXs .new r.nodes,.int .i64 r.e,.func (.func 256) [] []])),(2,.ptr 2 g2 0)]) (m:=[(2,.cells .new g2 0 [.nils])]) ?_ ?_) ?_
 ·refine Zs ?_
  exact ⟨Fz.ptr (v := .agg [Zd .any 3 Z8a sl,.int .i64 r.i,encXs .new r.nodes,.int .i64 r.e,.func (.func 256) [] []]) (c := .new) (fz:=0) rfl zp,Ze _⟩
 ·simp only [Zp,Zz,and_true]
  exact FzO.keep rfl zp
 refine Zy ?_;refine Z5 ⟨fun _ => .top,fun i=>if i=3 then .lend else if i=8 then .lend else .pure⟩ (by kernel_rfl) hG (by kernel_rfl) (by kernel_rfl) ?_;refine Zsf @encXs.eq_1 ?_;refine Z ?_
 rw [hP]<;>rfl
end Go.Hs
end

section
namespace Go.Hs
open Go.Proofs
set_option maxRecDepth 10000
theorem Zsq:∀ (f:Nat) (s:List UInt8) (i:Nat) (acc:List Tk),(∀ t∈acc,t.text.length≤s.length)→∀ t∈(Z3b f s i acc).1,t.text.length≤s.length
 | 0,s,i,acc,h=>by rw [Z3b];exact h
 | f+1,s,i,acc,h=>by
  rw [Z3b]
  split
  ·split
   ·intro t ht;cases ht
   ·refine Zsq f s _ _ ?_
    intro t ht
    rcases List.mem_append.1 ht with h1 | h1
    ·exact h t h1
    ·rw [List.mem_singleton.1 h1]
     show ((s.drop i).take _).length≤s.length
     rw [List.length_take,List.length_drop];omega
  ·exact h
theorem Zvy {s:List UInt8} (hs:s.length<100000):TkOk (Zbb s).1:=by
 unfold Zbb
 split
 ·exact ⟨Nat.zero_lt_succ _,fun t ht=>by cases ht⟩
 refine ⟨?_,?_⟩
 ·have:=Zsv (s.length+1) s (blk s) []
  have h0:([]:List Tk).length=0:=rfl;omega
 ·intro t ht
  have:=Zsq (s.length+1) s (blk s) [] (fun t ht=>by cases ht) t ht;omega
end Go.Hs
end

section
namespace Go.Hs
open Go.Proofs
set_option maxRecDepth 10000
def encRr (c:Col) (p:List XN × Int × Int):V := .tuple [encXs c p.1,.int .i64 p.2.1,.int .i64 p.2.2]
theorem Zq3 (G:Nat→V) (hG:GOk G) (c:Col) (sl:Sl Tk) (hT:TkOk sl.l):Spec Tryz.prog G 85 [Zd c 3 Z8a sl] Zl (fun v _=>v=encRr .new (Z9c sl.l)):=by
 have hTl:=hT.len;refine Zo 0 34 [.tmp 2,.tmp 3,.tmp 4] Tryz.func85 fun X=>?_
 have hP:Z9c sl.l=if (Zm sl.l (sl.l.length+1) 1 ⟨0,[],0⟩).1=false then (([]:List XN),((Zm sl.l (sl.l.length+1) 1 ⟨0,[],0⟩).2.i:Int),(Zm sl.l (sl.l.length+1) 1 ⟨0,[],0⟩).2.e)
  else if Zdb (Zm sl.l (sl.l.length+1) 1 ⟨0,[],0⟩).2.nodes > 64 then ([],0,3) else ((Zm sl.l (sl.l.length+1) 1 ⟨0,[],0⟩).2.nodes,((Zm sl.l (sl.l.length+1) 1 ⟨0,[],0⟩).2.i:Int),(0:Int)):=rfl
 have hr0:Zpl sl.l ⟨0,[],0⟩:=⟨Nat.zero_le _,Nat.le_refl _⟩;have hcl:=fun g=>(Zcz G hG sl hT g (sl.l.length+1) ⟨0,[],0⟩ (Nat.lt_succ_self _) hr0).1 1 (by decide) (by decide);have hnm2:=Zfp hT;have hok:=(Zjc sl.l (sl.l.length+1) 1 ⟨0,[],0⟩);generalize Z9c sl.l=res at hP ⊢;generalize Zm sl.l (sl.l.length+1) 1 ⟨0,[],0⟩=y at hP hcl hok hnm2;obtain ⟨b,r⟩:=y;simp only at hP hcl hok hnm2
 have hrl:r.nodes.length<1000000:=by have:=(hok.ok hr0);have h1:=this.1;have h2:=this.2;omega
 refine Z1 ?_;refine Z1 ?_;intro g8;refine AW.weak (Z2 (fun _=>false) (l:=[(5,.ptr 8 g8 0)]) (m:=[(8,.cells .new g8 0 [Zd .any 3 Z8a sl,.int .i64 0,.nils,.int .i64 0])]) ?_ ?_) ?_
 ·refine Zs ?_
  exact Ze _
 ·simp only [Zp,Zz,and_true]
  exact Zol (c := .new) (fz:=0) (cs:=[Zd c 3 Z8a sl,.int .i64 0,.nils,.int .i64 0]) rfl zp ⟨Fz.any (Z2a _ _ _),Ze _,Ze _,Ze _,trivial⟩
 refine Z1 ?_;refine Zgy hG (hcl g8) (by kernel_rfl) (fun F=>rfl) rfl rfl rfl _ zp (by simp only [Zv,List.map_cons,List.map_nil,Z2a];rfl) zp fun gx=>?_;refine Zu ?_
 cases b with
 | false =>
  refine Zpe rfl ?_;refine AW.weak (Z2 (fun o=>o==8) (l:=[(5,.view .new (.agg [Zd .any 3 Z8a sl,.int .i64 r.i,grown 1012 gx 6 r.nodes,.int .i64 r.e]))]) (m:=[]) ?_ trivial) ?_
  ·refine Zs ?_
   exact Fz.ptr (v := .agg [Zd .any 3 Z8a sl,.int .i64 r.i,grown 1012 gx 6 r.nodes,.int .i64 r.e]) (c := .new) (fz:=0) rfl zp
  refine ZT hG ?_;refine Z ?_
  rw [hP]<;>rfl
 | true =>
 refine Z0 ?_;refine AW.weak (Z2 (fun o=>o==1012) (l:=[(5,.ptr 8 g8 0)]) (m:=[(8,.cells .new g8 0 [Zd .any 3 Z8a sl,.int .i64 r.i,encXs .new r.nodes,.int .i64 r.e])]) ?_ ?_) ?_
 ·refine Zs ?_
  exact Ze _
 ·simp only [Zp,Zz,and_true]
  exact Zol (c := .new) (fz:=0) (cs:=[Zd .any 3 Z8a sl,.int .i64 r.i,grown 1012 gx 6 r.nodes,.int .i64 r.e]) rfl zp ⟨Ze _,Ze _,Zyb rfl zp Z5c,Ze _,trivial⟩
 rw [if_neg (by simp)] at hP;refine Z1f @encXs.eq_1 ?_;refine Znf @Z4 hG ?_ (s:=(Zum G hG _ (Zea r.nodes) (by rw [Zza];exact hrl) (by rw [Zza];exact hnm2)));rw [Zza];refine Zs ?_;refine Za rfl (fun h26=>?_) (fun h26=>?_)
 ·have h26:Zdb r.nodes > 64:=by simpa using h26
  rw [if_pos h26] at hP;refine Z ?_
  rw [hP]<;>rfl
 have h26:¬ Zdb r.nodes > 64:=by simpa using h26
 rw [if_neg h26] at hP;refine Z0 ?_;refine AW.weak (Z2 (fun o=>o==8) (l:=[(5,.view .new (.agg [Zd .any 3 Z8a sl,.int .i64 r.i,encXs .new r.nodes,.int .i64 r.e]))]) (m:=[]) ?_ trivial) ?_
 ·refine Zs ?_
  exact Fz.ptr (v := .agg [Zd .any 3 Z8a sl,.int .i64 r.i,encXs .new r.nodes,.int .i64 r.e]) (c := .new) (fz:=0) rfl zp
 refine ZTf @encXs.eq_1 hG ?_;refine Z ?_
 rw [hP]<;>rfl
end Go.Hs
end

section
namespace Go.Hs
theorem Zzw {l:List Tk} (h:(Z9c l).2.2≠0):(Z9c l).1=[]:=by
 unfold Z9c at h ⊢
 split
 ·rfl
 ·split
  ·rfl
  ·rename_i h1 h2
   rw [if_neg h1,if_neg h2] at h;exact absurd rfl h
structure ASt where
 kind:Int
 name:List UInt8
 x:List XN
 deriving DecidableEq,Inhabited
def Zmd:List UInt8:=[101,109,105,116]
def Znb (l:List Tk) (i:Nat):List UInt8:=match l[i]? with | some t=>t.text | none=>[]
def Zng (l:List Tk) (i:Nat):Bool:=match l[i]? with | some t=>t.kind==2 | none=>false
theorem Z9e {l:List Tk} {i:Nat} {t:Tk} (h:l[i]? = some t):Znb l i=t.text:=by unfold Znb;rw [h]
theorem Zsh {l:List Tk} {i:Nat} (h:l.length≤i):Znb l i=[]:=by unfold Znb;rw [List.getElem?_eq_none h]
theorem Zmg {l:List Tk} {i:Nat} {t:Tk} (h:l[i]? = some t):Zng l i=(t.kind==2):=by unfold Zng;rw [h]
theorem Z2e {l:List Tk} {i:Nat} (h:l.length≤i):Zng l i=false:=by unfold Zng;rw [List.getElem?_eq_none h]
def Zwb (l:List Tk):List (List UInt8)→Nat→Bool × Nat
 | [],i=>(true,i)
 | w::r,i=>if Znb l i=w then Zwb l r (i+1) else (false,i)
def Z3g (l:List Tk) (s:ASt) (ws:List (List UInt8)) (i:Nat):ASt × Int × Int :=
 ((s,((Zwb l ws i).2:Int),if (Zwb l ws i).1=true then 0 else 110))
def Z1j (l:List Tk) (k:Int) (nm:List UInt8) (ws:List (List UInt8)) (i:Nat):ASt × Int × Int :=
 if (Z9c (l.drop i)).2.2≠0 then (⟨k,nm,[]⟩,(i:Int)+(Z9c (l.drop i)).2.1,(Z9c (l.drop i)).2.2)
 else Z3g l ⟨k,nm,(Z9c (l.drop i)).1⟩ ws (i+(Z9c (l.drop i)).2.1.toNat)
def Z5d (l:List Tk) (k:Int) (w:List UInt8) (ws:List (List UInt8)) (i:Nat):ASt × Int × Int :=
 if Zng l i=false then (⟨k,[],[]⟩,(i:Int),110)
 else if Znb l (i+1)≠w then (⟨k,Znb l i,[]⟩,((i+1:Nat):Int),110)
 else if k=2∧Znb l (i+2)=[41] then Z3g l ⟨k,Znb l i,[]⟩ ws (i+2)
 else Z1j l k (Znb l i) ws (i+2)
def Zoc (l:List Tk) (i:Nat):ASt × Int × Int :=
 if Znb l i=Zmd then Z5d l 2 [40] [[41],[59]] (i+1) else Z5d l 1 [58,61] [[59]] i
theorem Zd1 {l:List Tk}:∀ (ws:List (List UInt8)) (i:Nat),i≤(Zwb l ws i).2
 | [],i=>Nat.le_refl _
 | w::r,i=>by
  rw [Zwb]
  split
  ·exact Nat.le_trans (Nat.le_succ i) (Zd1 r (i+1))
  ·exact Nat.le_refl _
theorem Z7d {l:List Tk} {i:Nat} (h:Znb l i≠[]):i<l.length:=by
 refine Classical.byContradiction fun h2=>h (Zsh (by omega))
theorem Zc1 {l:List Tk}:∀ (ws:List (List UInt8)) (i:Nat),(∀ w∈ws,w≠[])→(Zwb l ws i).1=true→(Zwb l ws i).2=i+ws.length∧(ws≠[]→(Zwb l ws i).2≤l.length)
 | [],i,_,_=>⟨rfl,fun h=>absurd rfl h⟩
 | w::r,i,hw,h=>by
  rw [Zwb] at h ⊢
  split at h
  ·rename_i h1
   rw [if_pos h1];obtain ⟨h2,h3⟩:=Zc1 r (i+1) (fun x hx=>hw x (List.mem_cons_of_mem _ hx)) h;refine ⟨by rw [h2,List.length_cons];omega,fun _=>?_⟩;have h4:=Z7d (l:=l) (i:=i) (by rw [h1];exact hw w (List.mem_cons_self ..))
   cases r with
   | nil=>rw [h2];exact h4
   | cons a b=>exact h3 (by simp)
  ·cases h
structure StB (l:List Tk) (i:Nat) (r:ASt × Int × Int):Prop where
 ge:(i:Int)≤r.2.1
 ok:r.2.2=0→(i:Int)<r.2.1∧r.2.1≤l.length
theorem Zt5 {l:List Tk} {s:ASt} {ws:List (List UInt8)} {i j:Nat} (hw:∀ w∈ws,w≠[]) (hn:ws≠[]) (hij:i≤j):StB l i (Z3g l s ws j):=by
 have h1:=Zd1 (l:=l) ws j;refine ⟨by show (i:Int)≤((Zwb l ws j).2:Int);omega,fun h=>?_⟩
 have ht:(Zwb l ws j).1=true:=by
  refine Classical.byContradiction fun h2=>?_;have h:(if (Zwb l ws j).1=true then (0:Int) else 110)=0:=h;rw [if_neg h2] at h;cases h
 obtain ⟨h3,h4⟩:=Zc1 ws j hw ht;have h5:=h4 hn;have h6:0<ws.length:=List.length_pos_iff.2 hn
 show (i:Int)<((Zwb l ws j).2:Int)∧((Zwb l ws j).2:Int)≤l.length
 omega
theorem exprS_b {l:List Tk} {k:Int} {nm:List UInt8} {ws:List (List UInt8)} {i j:Nat} (hw:∀ w∈ws,w≠[]) (hn:ws≠[]) (hij:i≤j):StB l i (Z1j l k nm ws j):=by
 unfold Z1j;have hb:=(Z5h (l:=l.drop j)).1
 split
 ·rename_i h
  exact ⟨by show (i:Int)≤(j:Int)+(Z9c (l.drop j)).2.1;omega,fun h2=>absurd h2 h⟩
 ·exact Zt5 hw hn (by omega)
theorem Zq5 {l:List Tk} {k:Int} {w:List UInt8} {ws:List (List UInt8)} {i j:Nat} (hw:∀ w∈ws,w≠[]) (hn:ws≠[]) (hij:i≤j):StB l i (Z5d l k w ws j):=by
 unfold Z5d
 split
 ·exact ⟨by show (i:Int)≤(j:Int);omega,fun h=>by cases h⟩
 split
 ·exact ⟨by show (i:Int)≤((j+1:Nat):Int);omega,fun h=>by cases h⟩
 split
 ·exact Zt5 hw hn (by omega)
 ·exact exprS_b hw hn (by omega)
theorem Z7n (l:List Tk) (i:Nat):StB l i (Zoc l i):=by
 unfold Zoc
 split
 ·exact Zq5 (by decide) (by decide) (by omega)
 ·exact Zq5 (by decide) (by decide) (Nat.le_refl _)
def Zxk (l:List Tk) (n:Nat) (i:Int):Int:=if i<l.length then (l.getD i.toNat ⟨0,[],0⟩).pos else n
def Z1d (l:List Tk) (n:Nat):Nat→Nat→List ASt→List ASt × Int × Int
 | 0,_,acc=>(acc,0,0)
 | f+1,i,acc =>
  if l.length≤i then (acc,0,0)
  else if acc.length=512 then ([],Zxk l n i,3)
  else if (Zoc l i).2.2≠0 then ([],Zxk l n (Zoc l i).2.1,(Zoc l i).2.2)
  else Z1d l n f (Zoc l i).2.1.toNat (acc++[(Zoc l i).1])
def Z0b (s:List UInt8):List ASt × Int × Int :=
 if (Zbb s).2.2≠0 then ([],(Zbb s).2.1,(Zbb s).2.2) else Z1d (Zbb s).1 s.length ((Zbb s).1.length+1) 0 []
end Go.Hs
end
