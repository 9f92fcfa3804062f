/- Part 38 of a proof; no condition. -/
import Derived.Test.YtnjcehngoajnnaaGreatDoorPart36
import Derived.Test.YtnjcehngoajnnaaGreatDoorPart37
set_option linter.unusedSimpArgs false
set_option linter.unusedVariables false
section
namespace Go.Hs
open Go
structure XN where
 op:Int
 num:Int
 name:List UInt8
 a:Int
 b:Int
 c:Int
 deriving DecidableEq,Inhabited
structure Sg where
 text:List UInt8
 level:Int
 parts:Int
 deriving DecidableEq,Inhabited
def tabL:List Sg:=[⟨[],0,0⟩,⟨[],10,0⟩,⟨[],10,0⟩,⟨[116,114,117,101],10,0⟩,⟨[102,97,108,115,101],10,0⟩,⟨[45],9,1⟩,⟨[110,111,116],9,1⟩,
 ⟨[42],8,2⟩,⟨[100,105,118],8,2⟩,⟨[109,111,100],8,2⟩,⟨[43],7,2⟩,⟨[45],7,2⟩,⟨[60],6,2⟩,⟨[60,61],6,2⟩,⟨[62],6,2⟩,⟨[62,61],6,2⟩,⟨[61],5,2⟩,⟨[60,62],5,2⟩,
 ⟨[97,110,100],4,2⟩,⟨[111,114],3,2⟩,⟨[120,111,114],2,2⟩,⟨[105,109,112,108,105,101,115],1,2⟩,⟨[105,102],10,3⟩]
def sgIs (t:List UInt8) (p:Int) (s:Sg):Bool:=s.text==t && s.parts==p && !(s.text==[])
def ofI (t:List UInt8) (p:Int):Option Nat:=tabL.findIdx? (sgIs t p)
def ofP (t:List UInt8) (p:Int):Nat × Bool:=match ofI t p with | some i=>(i,true) | none=>(0,false)
def lvl (op:Nat):Int:=(tabL.getD op ⟨[],0,0⟩).level
theorem Z1l {t:List UInt8} {p:Int} {i:Nat} (h:ofI t p=some i):∃ s,tabL[i]? = some s∧s.text=t∧s.parts=p∧t≠[]:=by
 obtain ⟨h1,h2,_⟩:=List.findIdx?_eq_some_iff_getElem.1 h;refine ⟨tabL[i],List.getElem?_eq_getElem h1,?_⟩;unfold sgIs at h2;simp only [Bool.and_eq_true,beq_iff_eq,Bool.not_eq_true',beq_eq_false_iff_ne] at h2;exact ⟨h2.1.1,h2.1.2,by rw [← h2.1.1];exact h2.2⟩
theorem Zz8 {t:List UInt8} {i:Nat} (h:ofI t 1=some i):t=[45]∧i=5∨t=[110,111,116]∧i=6:=by
 obtain ⟨s,h1,h2,h3,_⟩:=Z1l h
 have hi:i<23:=by rw [List.getElem?_eq_some_iff] at h1;exact h1.1
 have key:∀ i,i<23→∀ s,tabL[i]? = some s→s.parts=1→s.text=[45]∧i=5∨s.text=[110,111,116]∧i=6:=by
  intro i hi s h1 h3
  have:∀ i,i<23→(tabL[i]?.map (·.parts))=some 1→(tabL[i]?.map (·.text))=some [45]∧i=5∨(tabL[i]?.map (·.text))=some [110,111,116]∧i=6:=by decide +kernel
  have:=this i hi (by rw [h1];simp [h3]);rw [h1] at this;simpa using this
 rw [← h2];exact key i hi s h1 h3
theorem Zno {t:List UInt8} {i:Nat} (h:ofI t 0=some i):t=[116,114,117,101]∧i=3∨t=[102,97,108,115,101]∧i=4:=by
 obtain ⟨s,h1,h2,h3,h4⟩:=Z1l h
 have hi:i<23:=by rw [List.getElem?_eq_some_iff] at h1;exact h1.1
 have key:∀ i,i<23→∀ s,tabL[i]? = some s→s.parts=0→s.text≠[]→s.text=[116,114,117,101]∧i=3∨s.text=[102,97,108,115,101]∧i=4:=by
  intro i hi s h1 h3
  have:((List.range 23).all fun i=>match tabL[i]? with | some s => !(s.parts==0) || s.text==[] || (s.text==[116,114,117,101] && i==3) || (s.text==[102,97,108,115,101] && i==4) | none=>true)=true:=by decide +kernel
  have:=List.all_eq_true.1 this i (List.mem_range.2 hi);intro h4;rw [h1] at this;simp only [h3,Bool.or_eq_true,Bool.and_eq_true,beq_iff_eq,h4,or_false] at this;simpa using this
 rw [← h2];exact key i hi s h1 h3 (by rw [h2];exact h4)
theorem Z8t {t:List UInt8} {i:Nat} (h:ofI t 2=some i):7≤i∧i≤21∧1≤lvl i∧lvl i≤8∧isP t≠0:=by
 obtain ⟨s,h1,h2,h3,_⟩:=Z1l h
 have hi:i<23:=by rw [List.getElem?_eq_some_iff] at h1;exact h1.1
 have key:∀ i,i<23→(tabL[i]?.map (·.parts))=some 2→7≤i∧i≤21∧1≤lvl i∧lvl i≤8∧(tabL[i]?.map fun s=>isP s.text)≠some 0:=by decide +kernel
 have:=key i hi (by rw [h1];simp [h3]);rw [h1] at this;rw [← h2];simpa using this
def Z7 (l:List Tk) (i:Nat):Tk:=match l[i]? with
 | some t=>if (isP t.text:Int)=t.kind then t else ⟨0,[],0⟩
 | none=>⟨0,[],0⟩
theorem Z4h (l:List Tk) (i:Nat):(isP (Z7 l i).text:Int)=(Z7 l i).kind:=by
 unfold Z7
 split
 ·split
  ·assumption
  ·rfl
 ·rfl
theorem Zug {l:List Tk} {i:Nat} (h:(Z7 l i).kind≠0):i<l.length:=by
 rw [← Nat.not_le];intro h2;apply h;unfold Z7;rw [List.getElem?_eq_none h2]
structure RS where
 i:Nat
 nodes:List XN
 e:Int
 deriving DecidableEq,Inhabited
def RS.put (r:RS) (n:XN):RS:={ r with nodes:=r.nodes++[n] }
def RS.last (r:RS):Int:=(r.nodes.length:Int)-1
def RS.adv (r:RS):RS:={ r with i:=r.i+1 }
def RS.err (r:RS) (e:Int):RS:={ r with e:=e }
@[simp] theorem Zif (r:RS) (n:XN):(r.put n).i=r.i:=rfl
@[simp] theorem RS.adv_i (r:RS):r.adv.i=r.i+1:=rfl
@[simp] theorem RS.err_i (r:RS) (e:Int):(r.err e).i=r.i:=rfl
abbrev Inner:=Int→RS→Bool × RS
def andThen (x:Bool × RS) (k:RS→Bool × RS):Bool × RS:=if x.1 then k x.2 else (false,x.2)
theorem Z6 (r:RS) (k:RS→Bool × RS):andThen (true,r) k=k r:=rfl
theorem Zya (r:RS) (k:RS→Bool × RS):andThen (false,r) k=(false,r):=rfl
theorem Zjm (x:Bool × RS) (k k':RS→Bool × RS):andThen (andThen x k) k'=andThen x fun r=>andThen (k r) k':=by
 obtain ⟨b,r⟩:=x
 cases b<;>rfl
theorem Zxc {x:Bool × RS} {k k':RS→Bool × RS} (h:x.1=true→k x.2=k' x.2):andThen x k=andThen x k':=by
 obtain ⟨b,r⟩:=x;cases b
 ·rfl
 ·exact h rfl
def Ztf (l:List Tk) (w:List UInt8) (r:RS):Bool × RS:=if (Z7 l r.i).kind=0∨(Z7 l r.i).text≠w then (false,r.err 80) else (true,r.adv)
def Z1g (r:RS) (op num:Int) (name:List UInt8):Bool × RS:=(true,r.adv.put ⟨op,num,name,-1,-1,-1⟩)
def Znd (t:List UInt8):List UInt8:=if t.dropWhile (· == 48)=[] then [48] else t.dropWhile (· == 48)
def Zcd (r:RS) (t:List UInt8):Bool × RS:=if (Z7b (Znd t)).2≠0 then (false,r.err (Z7b (Znd t)).2) else Z1g r 1 (Z7b (Znd t)).1 []
def wIf:List UInt8:=[105,102]
def Z4j:List UInt8:=[116,104,101,110]
def Z5j:List UInt8:=[101,108,115,101]
def Zyf:List UInt8:=[101,110,100,105,102]
def Zab (l:List Tk) (inner:Inner) (r:RS):Bool × RS :=
 andThen (Ztf l wIf r) fun r1=>andThen (inner 1 r1) fun a=>andThen (Ztf l Z4j a) fun r2=>andThen (inner 1 r2) fun b =>
 andThen (Ztf l Z5j b) fun r3=>andThen (inner 1 r3) fun c=>andThen (Ztf l Zyf c) fun r4=>(true,r4.put ⟨22,0,[],a.last,b.last,c.last⟩)
def Z5a (l:List Tk) (inner:Inner) (r:RS):Bool × RS :=
 if (Z7 l r.i).kind=1 then Zcd r (Z7 l r.i).text
 else if (Z7 l r.i).kind=2 then Z1g r 2 0 (Z7 l r.i).text
 else if (Z7 l r.i).kind=0 then (false,r.err 80)
 else if (ofP (Z7 l r.i).text 1).2 then andThen (inner 9 r.adv) fun a=>(true,a.put ⟨(ofP (Z7 l r.i).text 1).1,0,[],a.last,-1,-1⟩)
 else if (Z7 l r.i).text=[40] then andThen (inner 1 r.adv) (Ztf l [41])
 else if (Z7 l r.i).text=wIf then Zab l inner r
 else if (ofP (Z7 l r.i).text 0).2∧(Z7 l r.i).kind=3 then Z1g r (ofP (Z7 l r.i).text 0).1 0 []
 else (false,r.err 80)
def Zdi (l:List Tk) (i:Nat):Option Nat:=if (Z7 l i).kind=0 then none else ofI (Z7 l i).text 2
def Z8b (l:List Tk) (inner:Inner) (n:Int):Nat→RS→Bool × RS
 | 0,r=>(true,r)
 | m+1,r=>match Zdi l r.i with
  | none=>(true,r)
  | some op=>if lvl op<n then (true,r) else andThen (inner (lvl op+1) r.adv) fun a=>Z8b l inner n m (a.put ⟨op,0,[],r.last,a.last,-1⟩)
def Z3 (l:List Tk):Nat→Inner
 | 0,_,r=>(false,r)
 | f+1,n,r=>andThen (Z5a l (Z3 l f) r) (Z8b l (Z3 l f) n (l.length+1))
def Zii:List UInt8→List UInt8
 | c::d::r=>if c=48 then Zii (d::r) else c::d::r
 | s=>s
def Zsk (r:RS) (t:List UInt8):Bool × RS:=if (Z7b (Zii t)).2≠0 then (false,r.err 60) else Z1g r 1 (Z7b (Zii t)).1 []
def Ziq (l:List Tk) (w:List UInt8) (r:RS):Bool × RS:=if (Z7 l r.i).text≠w then (false,r.err 80) else (true,r.adv)
def Z4e (l:List Tk) (inner:Inner) (r:RS):Bool × RS :=
 andThen (inner 1 r.adv) fun a=>andThen (Ziq l Z4j a) fun r2=>andThen (inner 1 r2) fun b =>
 andThen (Ziq l Z5j b) fun r3=>andThen (inner 1 r3) fun c=>andThen (Ziq l Zyf c) fun r4=>(true,r4.put ⟨22,0,[],a.last,b.last,c.last⟩)
def Z6x (l:List Tk) (inner:Inner) (r:RS):Bool × RS :=
 if (Z7 l r.i).text=[40] then andThen (inner 1 r.adv) (Ziq l [41])
 else if (Z7 l r.i).text=wIf then Z4e l inner r
 else if (Z7 l r.i).text=[116,114,117,101] then Z1g r 3 0 []
 else if (Z7 l r.i).text=[102,97,108,115,101] then Z1g r 4 0 []
 else if (Z7 l r.i).text≠[]∧(Z7 l r.i).kind=1 then Zsk r (Z7 l r.i).text
 else if (Z7 l r.i).text≠[]∧(Z7 l r.i).kind=2 then Z1g r 2 0 (Z7 l r.i).text
 else (false,r.err 80)
def unR (l:List Tk) (inner:Inner) (r:RS):Bool × RS :=
 if (Z7 l r.i).text=[45] then andThen (inner 9 r.adv) fun a=>(true,a.put ⟨5,0,[],a.last,-1,-1⟩)
 else if (Z7 l r.i).text=[110,111,116] then andThen (inner 9 r.adv) fun a=>(true,a.put ⟨6,0,[],a.last,-1,-1⟩)
 else Z6x l inner r
def Zz0 (l:List Tk) (n:Int) (i:Nat):Nat:=match ofI (Z7 l i).text 2 with | some op=>if lvl op=n then op else 0 | none=>0
def Zah (l:List Tk) (inner:Inner) (n:Int):Nat→RS→Bool × RS
 | 0,r=>(true,r)
 | m+1,r=>if Zz0 l n r.i=0 then (true,r) else andThen (inner (n+1) r.adv) fun a=>Zah l inner n m (a.put ⟨Zz0 l n r.i,0,[],r.last,a.last,-1⟩)
def Z31 (l:List Tk) (inner:Inner):Nat→RS→Bool × RS
 | 0,r=>unR l inner r
 | k+1,r=>andThen (Z31 l inner k r) (Zah l inner (8-k) (l.length+1))
def Mono (inner:Inner):Prop:=∀ n r,r.i≤(inner n r).2.i
theorem Zub {x:Bool × RS} {k:RS→Bool × RS} {a:Nat} (h:a≤x.2.i) (hk:∀ r,x.2.i≤r.i→r.i≤(k r).2.i):a≤(andThen x k).2.i:=by
 obtain ⟨b,r⟩:=x;cases b
 ·exact h
 ·exact Nat.le_trans h (hk r (Nat.le_refl _))
theorem Z0i (l:List Tk) (w:List UInt8) (r:RS):r.i≤(Ztf l w r).2.i:=by
 unfold Ztf;split
 ·exact Nat.le_refl _
 ·exact Nat.le_succ _
theorem Zbn (r:RS) (op num:Int) (name:List UInt8):r.i≤(Z1g r op num name).2.i:=Nat.le_succ _
theorem Zby (r:RS) (t:List UInt8):r.i≤(Zcd r t).2.i:=by
 unfold Zcd;split
 ·exact Nat.le_refl _
 ·exact Zbn _ _ _ _
theorem Z2r {l:List Tk} {inner:Inner} (h:Mono inner) (r:RS):r.i≤(Zab l inner r).2.i:=by
 unfold Zab;refine Zub (Z0i _ _ _) fun r1 _=>Zub (h _ _) fun a _=>Zub (Z0i _ _ _) fun r2 _=>Zub (h _ _) fun b _=>Zub (Z0i _ _ _) fun r3 _=>Zub (h _ _) fun c _=>Zub (Z0i _ _ _) fun r4 _=>Nat.le_refl _
theorem Zm2 {l:List Tk} {inner:Inner} (h:Mono inner) (r:RS):r.i≤(Z5a l inner r).2.i:=by
 have h1:r.i≤r.adv.i:=Nat.le_succ _;unfold Z5a
 split
 ·exact Zby _ _
 split
 ·exact Zbn _ _ _ _
 split
 ·exact Nat.le_refl _
 split
 ·exact Zub (Nat.le_trans h1 (h _ _)) fun a _=>Nat.le_refl _
 split
 ·exact Zub (Nat.le_trans h1 (h _ _)) fun a _=>Z0i _ _ _
 split
 ·exact Z2r h r
 split
 ·exact Zbn _ _ _ _
 ·exact Nat.le_refl _
theorem Z8m {l:List Tk} {inner:Inner} (h:Mono inner) (n:Int):∀ (m:Nat) (r:RS),r.i≤(Z8b l inner n m r).2.i
 | 0,r=>Nat.le_refl _
 | m+1,r=>by
  rw [Z8b]
  split
  ·exact Nat.le_refl _
  ·split
   ·exact Nat.le_refl _
   ·exact Zub (Nat.le_trans (Nat.le_succ _) (h _ r.adv)) fun a _=>Z8m h n m (a.put _)
theorem Zse (l:List Tk):∀ f,Mono (Z3 l f)
 | 0=>fun _ _=>Nat.le_refl _
 | f+1=>fun n r=>by
  rw [Z3];exact Zub (Zm2 (Zse l f) r) fun a _=>Z8m (Zse l f) n _ a
def Ends (l:List Tk) (n:Int) (i:Nat):Prop:=∀ op,Zdi l i=some op→lvl op<n
theorem Z0g {l:List Tk} {i op:Nat} (h:Zdi l i=some op):i<l.length:=by
 unfold Zdi at h
 split at h
 ·cases h
 ·exact Zug (by assumption)
theorem Zxs {l:List Tk} {inner:Inner} (h:Mono inner) (n:Int):∀ (m:Nat) (r:RS),l.length<m+r.i→(Z8b l inner n m r).1=true→Ends l n (Z8b l inner n m r).2.i
 | 0,r,hm,_=>fun op ho=>by have h2:r.i<l.length:=Z0g ho;omega
 | m+1,r,hm,hb=>by
  rw [Z8b] at hb ⊢
  cases ho:Zdi l r.i with
  | none =>
   intro op h2;have h2:Zdi l r.i=some op:=h2;rw [ho] at h2;cases h2
  | some op =>
   rw [ho] at hb;simp only at hb ⊢
   by_cases hl:lvl op<n
   ·rw [if_pos hl] at hb ⊢
    intro op' h2;have h2:Zdi l r.i=some op':=h2;rw [ho] at h2;cases h2;exact hl
   ·rw [if_neg hl] at hb ⊢
    have h3:=h (lvl op+1) r.adv;generalize inner (lvl op+1) r.adv=x at hb h3 ⊢;obtain ⟨b,a⟩:=x;cases b
    ·cases hb
    ·exact Zxs h n m _ (by have:r.i+1≤a.i:=h3;simp only [Zif];omega) hb
theorem Z3k {l:List Tk} {f:Nat} {n:Int} {r:RS} (hb:(Z3 l f n r).1=true):Ends l n (Z3 l f n r).2.i:=by
 cases f with
 | zero=>cases hb
 | succ f =>
  rw [Z3] at hb ⊢;generalize Z5a l (Z3 l f) r=x at hb ⊢;obtain ⟨b,a⟩:=x;cases b
  ·cases hb
  ·exact Zxs (Zse l f) n _ a (by omega) hb
theorem Zqj {l:List Tk} {i:Nat}:Zdi l i=ofI (Z7 l i).text 2:=by
 unfold Zdi
 split
 ·rename_i h
  cases ho:ofI (Z7 l i).text 2 with
  | none=>rfl
  | some op =>
   have h1:=(Z8t ho).2.2.2.2;have h2:=Z4h l i;rw [h] at h2;omega
 ·rfl
theorem Z2o {l:List Tk} {n:Int} {i:Nat} (h:Zdi l i=none):Zz0 l n i=0:=by
 unfold Zz0;rw [← Zqj,h]
theorem Zex {l:List Tk} {n:Int} {i op:Nat} (h:Zdi l i=some op):Zz0 l n i=if lvl op=n then op else 0:=by
 unfold Zz0;rw [← Zqj,h]
theorem Zrs {l:List Tk} {i op:Nat} (h:Zdi l i=some op):7≤op∧op≤21∧1≤lvl op∧lvl op≤8:=by
 rw [Zqj] at h;obtain ⟨h1,h2,h3,h4,_⟩:=Z8t h;exact ⟨h1,h2,h3,h4⟩
theorem Zes {l:List Tk} {inner:Inner} (h:Mono inner) (n:Int):∀ (m m':Nat) (r:RS),l.length<m+r.i→l.length<m'+r.i→Zah l inner n m r=Zah l inner n m' r
 | 0,m',r,h1,_=>by
  cases m' with
  | zero=>rfl
  | succ m' =>
   rw [Zah,Zah,if_pos];apply Z2o
   cases ho:Zdi l r.i with
   | none=>rfl
   | some op=>have:=Z0g ho;omega
 | m+1,0,r,_,h2=>by
  rw [Zah,Zah,if_pos];apply Z2o
  cases ho:Zdi l r.i with
  | none=>rfl
  | some op=>have:=Z0g ho;omega
 | m+1,m'+1,r,h1,h2=>by
  rw [Zah,Zah]
  split
  ·rfl
  ·refine Zxc fun _=>?_
   have h3:r.i+1≤_:=h (n+1) r.adv;exact Zes h n m m' _ (by simp only [Zif];omega) (by simp only [Zif];omega)
theorem Z7m {l:List Tk} {inner:Inner} (h:Mono inner) (n:Int) (he:∀ r,(inner (n+1) r).1=true→Ends l (n+1) (inner (n+1) r).2.i) :
  ∀ (m:Nat) (r:RS),l.length<m+r.i→Z8b l inner n m r=andThen (Z8b l inner (n+1) m r) (Zah l inner n m)
 | 0,r,hm=>rfl
 | m+1,r,hm=>by
  rw [Z8b,Z8b]
  cases ho:Zdi l r.i with
  | none =>
   simp only;rw [Z6,Zah,if_pos (Z2o ho)]
  | some op =>
   have hop:=Zrs ho;simp only
   by_cases h1:lvl op<n
   ·rw [if_pos h1,if_pos (by omega),Z6,Zah,if_pos (by rw [Zex ho,if_neg (by omega)])]
   ·rw [if_neg h1]
    by_cases h2:lvl op<n+1
    ·have h3:lvl op=n:=by omega
     have h4:Zz0 l n r.i=op:=by rw [Zex ho,if_pos h3]
     rw [if_pos h2,Z6,Zah,h4,if_neg (by omega),h3];refine Zxc fun hb=>?_;have h5:=he r.adv hb;have h6:r.i+1≤_:=h (n+1) r.adv;generalize inner (n+1) r.adv=x at hb h5 h6 ⊢;obtain ⟨b,a⟩:=x;rw [Z7m h n he m _ (by simp only [Zif];simp only at h6;omega)]
     have h7:Z8b l inner (n+1) m (a.put ⟨op,0,[],r.last,a.last,-1⟩)=(true,a.put ⟨op,0,[],r.last,a.last,-1⟩):=by
      cases m with
      | zero=>rfl
      | succ m =>
       rw [Z8b]
       cases ho2:Zdi l (a.put ⟨op,0,[],r.last,a.last,-1⟩).i with
       | none=>rfl
       | some op2=>simp only;rw [if_pos (h5 op2 ho2)]
     rw [h7,Z6]
    ·rw [if_neg h2,Zjm]
     refine Zxc fun hb=>?_;have h6:r.i+1≤_:=h (lvl op+1) r.adv;generalize inner (lvl op+1) r.adv=x at hb h6 ⊢;obtain ⟨b,a⟩:=x;simp only at h6;rw [Z7m h n he m _ (by simp only [Zif];omega)];refine Zxc fun _=>?_;have h8:a.i≤_:=Z8m (l:=l) h (n+1) m (a.put ⟨op,0,[],r.last,a.last,-1⟩)
     show Zah l inner n m (Z8b l inner (n+1) m (a.put ⟨op,0,[],r.last,a.last,-1⟩)).2=_
     exact Zes h n _ _ _ (by omega) (by omega)
theorem Zf3:∀ {t:List UInt8},t≠[]→Zii t=Znd t
 | [],h=>absurd rfl h
 | [c],_=>by
  unfold Znd
  by_cases h:c=48
  ·subst h;rfl
  ·have:(c==48)=false:=by simpa using h
   simp [Zii,List.dropWhile,this]
 | c::d::r,_=>by
  rw [Zii]
  by_cases h:c=48
  ·subst h
   rw [if_pos rfl,Zf3 (t:=d::r) (by simp)];unfold Znd;rw [show (48::d::r:List UInt8).dropWhile (· == 48)=(d::r).dropWhile (· == 48) from rfl]
  ·have:(c==48)=false:=by simpa using h
   rw [if_neg h];unfold Znd;simp [List.dropWhile,this]
theorem Zy9 {t:List UInt8} (h:isP t=1):t≠[]∧t.all Zna=true:=by
 rw [Zaq] at h
 split at h
 ·cases h
 ·match t with
  | []=>cases h
  | c::r =>
   refine ⟨by simp,?_⟩
   rcases Zxo c with hc | ⟨_,hc⟩ | ⟨hc,_⟩
   ·rw [Zdo hc] at h
    split at h
    ·assumption
    ·cases h
   ·rw [Zco hc] at h
    split at h
    ·split at h<;>cases h
    ·cases h
   ·rw [Zph hc] at h
    split at h<;>cases h
theorem Z7x {t:List UInt8} (h:t.all Zna=true):(Z7b (Znd t)).2=0∨(Z7b (Znd t)).2=60:=by
 have h1:(Znd t).all Zna=true∧Znd t≠[]∧((Znd t).head? = some 48→(Znd t).length=1):=by
  unfold Znd
  split
  ·exact ⟨by decide,by simp,fun _=>rfl⟩
  ·rename_i hn
   refine ⟨?_,hn,fun h2=>?_⟩
   ·rw [List.all_eq_true] at h ⊢
    exact fun x hx=>h x ((List.dropWhile_sublist _).mem hx)
   ·have:=List.head?_dropWhile_not (· == (48:UInt8)) t
    rw [h2] at this;simp at this
 obtain ⟨h1,h2,h3⟩:=h1;generalize Znd t=s at h1 h2 h3
 have hh:¬ (s.head? == some 45)=true:=by
  cases s with
  | nil=>exact absurd rfl h2
  | cons c r =>
   intro hc
   have hc:c=45:=by simpa using hc
   subst hc;rw [List.all_cons] at h1
   revert h1
   simp [Zna]
 have hh':(s.head? == some 45)=false:=by simpa using hh
 unfold Z7b;rw [hh'];simp only [Bool.false_eq_true,if_false,or_false];rw [if_neg]
 ·generalize ((val (s.reverse.map Zzj):Nat):Int)=x
  unfold told
  split
  ·exact .inl rfl
  ·exact .inr rfl
 ·rintro (h | ⟨h,h'⟩ | h)
  ·exact h2 h
  ·have:=h3 h;omega
  ·rw [h1] at h;cases h
theorem Z18 (r:RS) {t:List UInt8} (h:isP t=1):Zsk r t=Zcd r t:=by
 obtain ⟨h1,h2⟩:=Zy9 h;unfold Zsk Zcd;rw [Zf3 h1]
 rcases Z7x h2 with h3 | h3
 ·simp only [h3];rfl
 ·simp only [h3]
theorem Zuy (l:List Tk) {w:List UInt8} (hw:isP w≠0) (r:RS):Ziq l w r=Ztf l w r:=by
 unfold Ziq Ztf
 by_cases h:(Z7 l r.i).text=w
 ·have:=Z4h l r.i
  rw [h] at this;rw [if_neg (by simpa using h),if_neg];rintro (h2 | h2)
  ·omega
  ·exact h2 h
 ·rw [if_pos h,if_pos (.inr h)]
theorem eatP_if {l:List Tk} {r:RS} (h:(Z7 l r.i).text=wIf):Ztf l wIf r=(true,r.adv):=by
 have h1:=Z4h l r.i;rw [h] at h1
 have h2:isP wIf=3:=by decide
 unfold Ztf;rw [if_neg];rintro (h3 | h3)
 ·omega
 ·exact h3 h
theorem Zxba (l:List Tk) (inner:Inner) (r:RS):unR l inner r=Z5a l inner r:=by
 have hk:=Z4h l r.i;have e41:=Zuy l (w:=[41]) (by decide);have eT:=Zuy l (w:=Z4j) (by decide);have eE:=Zuy l (w:=Z5j) (by decide);have eN:=Zuy l (w:=Zyf) (by decide)
 have hbr:(Z7 l r.i).text=wIf→Z4e l inner r=Zab l inner r:=fun h=>by
  unfold Z4e Zab;rw [eatP_if h,Z6];simp only [eT,eE,eN]
 have hpr:andThen (inner 1 r.adv) (Ziq l [41])=andThen (inner 1 r.adv) (Ztf l [41]):=Zxc fun _=>e41 _;unfold unR Z6x Z5a;rw [hpr];generalize Z7 l r.i=t at hk hbr ⊢;obtain ⟨k,t,p⟩:=t;simp only at hk hbr ⊢
 by_cases c1:t=[45]
 ·subst c1
  have:k=4:=by rw [← hk];decide
  subst this;rfl
 rw [if_neg c1]
 by_cases c2:t=[110,111,116]
 ·subst c2
  have:k=3:=by rw [← hk];decide
  subst this;rfl
 rw [if_neg c2]
 by_cases c3:t=[40]
 ·subst c3
  have:k=4:=by rw [← hk];decide
  subst this;rfl
 rw [if_neg c3]
 by_cases c4:t=wIf
 ·subst c4
  have:k=3:=by rw [← hk];decide
  subst this;rw [if_pos rfl,hbr rfl];rfl
 rw [if_neg c4]
 by_cases c5:t=[116,114,117,101]
 ·subst c5
  have:k=3:=by rw [← hk];decide
  subst this;rfl
 rw [if_neg c5]
 by_cases c6:t=[102,97,108,115,101]
 ·subst c6
  have:k=3:=by rw [← hk];decide
  subst this;rfl
 rw [if_neg c6]
 have hne:k=1∨k=2→t≠[]:=by
  rintro h rfl;have:isP []=0:=rfl;omega
 by_cases k1:k=1
 ·rw [if_pos ⟨hne (.inl k1),k1⟩,if_pos k1]
  exact Z18 r (by omega)
 rw [if_neg (fun h=>k1 h.2),if_neg k1]
 by_cases k2:k=2
 ·rw [if_pos ⟨hne (.inr k2),k2⟩,if_pos k2]
 rw [if_neg (fun h=>k2 h.2),if_neg k2]
 by_cases k0:k=0
 ·rw [if_pos k0]
 have o1:(ofP t 1).2=false:=by
  unfold ofP
  cases ho:ofI t 1 with
  | none=>rfl
  | some i =>
   rcases Zz8 ho with ⟨h,_⟩ | ⟨h,_⟩
   ·exact absurd h c1
   ·exact absurd h c2
 have o0:(ofP t 0).2=false:=by
  unfold ofP
  cases ho:ofI t 0 with
  | none=>rfl
  | some i =>
   rcases Zno ho with ⟨h,_⟩ | ⟨h,_⟩
   ·exact absurd h c5
   ·exact absurd h c6
 rw [if_neg k0,o1,if_neg (by simp),if_neg c3,if_neg c4,o0,if_neg (by simp)]
theorem loop9 (l:List Tk) (inner:Inner) (m:Nat) (r:RS):Z8b l inner 9 m r=(true,r):=by
 cases m with
 | zero=>rfl
 | succ m =>
  rw [Z8b]
  cases ho:Zdi l r.i with
  | none=>rfl
  | some op=>simp only;rw [if_pos (by have:=Zrs ho;omega)]
theorem Z9m {l:List Tk} {inner:Inner} (h:Mono inner) (he:∀ n r,(inner n r).1=true→Ends l n (inner n r).2.i) :
  ∀ (k:Nat) (r:RS),Z31 l inner k r=andThen (Z5a l inner r) (Z8b l inner (9-k) (l.length+1))
 | 0,r=>by
  rw [Z31,Zxba]
  have:∀ x:Bool × RS,x=andThen x (Z8b l inner (9-(0:Nat)) (l.length+1)):=by
   rintro ⟨b,a⟩;cases b
   ·rfl
   ·exact (loop9 l inner _ a).symm
  exact this _
 | k+1,r=>by
  rw [Z31,Z9m h he k r,Zjm];refine Zxc fun _=>?_;have hs:=Z7m (l:=l) h (8-k) (he _) (l.length+1) (Z5a l inner r).2 (by omega)
  have e1:(9:Int)-(k:Nat)=8-k+1:=by omega
  have e2:(9:Int)-((k+1:Nat))=8-k:=by omega
  rw [e1,e2,hs]
end Go.Hs
end

section
namespace Go.Hs
open Go.Proofs
set_option maxRecDepth 100000
def Zgn (s:Sg):V := .agg [.str s.text,.int .i64 s.level,.int .i64 s.parts]
theorem Zfn (s:Sg):Zgn s = .agg [.str s.text,.int .i64 s.level,.int .i64 s.parts]:=rfl
theorem Z91 (s:Sg):(Zgn s).cells.length=3:=rfl
def tabC:List V:=flat (tabL.map Zgn)
theorem Zk3 (op:Nat) (h:op<23) (k:Nat) (hk:k<3):tabC[op * 3+k]? = ((Zgn (tabL.getD op ⟨[],0,0⟩)).cells)[k]? := by
 match k,hk with
 | 0,_=>exact match op,h with
  | 0,_=>rfl
  | 1,_=>rfl
  | 2,_=>rfl
  | 3,_=>rfl
  | 4,_=>rfl
  | 5,_=>rfl
  | 6,_=>rfl
  | 7,_=>rfl
  | 8,_=>rfl
  | 9,_=>rfl
  | 10,_=>rfl
  | 11,_=>rfl
  | 12,_=>rfl
  | 13,_=>rfl
  | 14,_=>rfl
  | 15,_=>rfl
  | 16,_=>rfl
  | 17,_=>rfl
  | 18,_=>rfl
  | 19,_=>rfl
  | 20,_=>rfl
  | 21,_=>rfl
  | 22,_=>rfl
  | n+23,h=>absurd h (by omega)
 | 1,_=>exact match op,h with
  | 0,_=>rfl
  | 1,_=>rfl
  | 2,_=>rfl
  | 3,_=>rfl
  | 4,_=>rfl
  | 5,_=>rfl
  | 6,_=>rfl
  | 7,_=>rfl
  | 8,_=>rfl
  | 9,_=>rfl
  | 10,_=>rfl
  | 11,_=>rfl
  | 12,_=>rfl
  | 13,_=>rfl
  | 14,_=>rfl
  | 15,_=>rfl
  | 16,_=>rfl
  | 17,_=>rfl
  | 18,_=>rfl
  | 19,_=>rfl
  | 20,_=>rfl
  | 21,_=>rfl
  | 22,_=>rfl
  | n+23,h=>absurd h (by omega)
 | 2,_=>exact match op,h with
  | 0,_=>rfl
  | 1,_=>rfl
  | 2,_=>rfl
  | 3,_=>rfl
  | 4,_=>rfl
  | 5,_=>rfl
  | 6,_=>rfl
  | 7,_=>rfl
  | 8,_=>rfl
  | 9,_=>rfl
  | 10,_=>rfl
  | 11,_=>rfl
  | 12,_=>rfl
  | 13,_=>rfl
  | 14,_=>rfl
  | 15,_=>rfl
  | 16,_=>rfl
  | 17,_=>rfl
  | 18,_=>rfl
  | 19,_=>rfl
  | 20,_=>rfl
  | 21,_=>rfl
  | 22,_=>rfl
  | n+23,h=>absurd h (by omega)
theorem Z6ba (op:Nat) (h:op<23):tabC[op * 3+1]? = some (.int .i64 (lvl op)):=by rw [Zk3 op h 1 (by decide)]<;>rfl
theorem Zrt:tabC.length=69:=rfl
theorem Z70 (f:Col→Col):(V.agg tabC).recol f = .agg tabC:=by
 have:Z6a f tabC=tabC:=by
  rw [Z4]
  have:∀ v∈tabC,v.recol f=v:=by
   intro v hv;unfold tabC flat at hv;rw [List.mem_flatMap] at hv;obtain ⟨a,ha,hv⟩:=hv;obtain ⟨s,_,rfl⟩:=List.mem_map.1 ha;simp only [Zfn,V.cells,List.mem_cons,List.not_mem_nil,or_false] at hv
   rcases hv with rfl | rfl | rfl<;>rfl
  exact (List.map_congr_left this).trans (List.map_id _)
 rw [V.recol,this]
theorem Zut:∀ (c l:List V) (off:Nat),off+c.length≤l.length→Hs.setAt l off c=l.take off++c++l.drop (off+c.length)
 | [],l,off,_=>by simp [Hs.setAt]
 | v::r,l,off,h=>by
  simp only [List.length_cons] at h;rw [Hs.setAt,Zut r (l.set off v) (off+1) (by rw [List.length_set];omega)]
  have h1:(l.set off v).take (off+1)=l.take off++[v]:=by
   rw [List.take_add_one,List.getElem?_set_self (by omega),List.take_set_of_le (Nat.le_refl _)]<;>rfl
  have h2:(l.set off v).drop (off+1+r.length)=l.drop (off+(r.length+1)):=by
   rw [List.drop_set_of_lt (by omega)]
   congr 1;omega
  rw [h1,h2];simp
theorem Zpx {l c:List V} (h:c.length=l.length):Hs.setAt l 0 c=c:=by
 rw [Zut c l 0 (by omega),h];simp
theorem Zbp (l:List V) (h:l.length=69):Hs.setAt l 0 tabC=tabC:=Zpx (by rw [h]<;>rfl)
theorem Zkk (G:Nat→V) (hG:GOk G):Spec Tryz.prog G 41 [] Zm (fun v _=>v = .agg tabC):=by
 refine Zo 0 24 [.cell 0 100] Tryz.func41 fun X=>?_;refine Z1 ?_;intro g0;exact Zr
structure FnG (G:Nat→V) (f:FuncId) (cap:List V) (p:Sg→Bool):Prop where
 en:Zfa Tryz.prog f=true
 rc:cap.map (V.recol Col.ent)=cap
 sp:∀ s:Sg,Spec Tryz.prog G f (Zgn s::cap) Zm (fun v _=>v = .bool (p s))
theorem Zx3 (f:Col→Col) (s:Sg):(Zgn s).recol f=Zgn s:=by simp only [Zfn,Zmi,List.map_cons,List.map_nil,Zze,Zli]
theorem Z8n (G:Nat→V) (hG:GOk G) (c:Col) (s:Sl Sg) (hs:s.l.length<1000000) {f:FuncId} {cap:List V} {p:Sg→Bool} (hf:FnG G f cap p) :
  Spec Tryz.prog G 146 [Za c 3 Zgn s,.func (.func f) [] cap] Zm (fun v _=>v = .int .i64 (Znr p s.l)):=by
 refine Zo 0 19 [.tmp 4] Tryz.func146 fun X=>?_;refine Z1 ?_;refine Z1 ?_;refine AW.block ?_
 refine Zwa s.l.length (fun k (_:Unit)=>st [(0,Za c 3 Zgn s),(1,.func (.func f) [] cap),(7,.int .i64 s.l.length),(8,.int .i64 k)] []) (fun k _=>∀ y∈s.l.take k,p y=false) 0 () (Nat.zero_le _) (by simp)
  (Zb zp zp) ?_
 intro k _ hk hR L2 hL2;refine Z1 ?_;refine Z5 ?_;refine Ze rfl (fun h4=>?_) (fun h4=>?_)
 ·have hk1:k<s.l.length:=by simpa using h4
  have hg:=List.getElem?_eq_getElem hk1;generalize s.l[k]=x at hg;refine Z1 ?_;refine Z1f (zi hg @Zfn) ?_;refine CallA.pure hG hf.en ?_;simp only [List.map_cons,hf.rc,← Zfn,Zx3];refine (hf.sp x).mono ?_;rintro _ _ rfl;refine Zs ?_;refine Ze rfl (fun h6=>?_) (fun h6=>?_)
  ·refine Z ?_
   rw [Zui hg hR h6]
  ·refine Z1 ?_
   refine hL2 _ ⟨hk1,(),Zjl hg hR h6,Zb zw zp⟩
 ·have hk1:k=s.l.length:=by simp at h4;omega
  refine Z ?_;rw [hk1,List.take_length] at hR;rw [Zvi hR]
theorem Zf7 (G:Nat→V) (hG:GOk G) (t:List UInt8) (p:Int) (s:Sg):Spec Tryz.prog G 147 [Zgn s,.view .old (.str t),.view .old (.int .i64 p)] Zm (fun v _=>v = .bool (sgIs t p s)):=by
 refine Zo 0 20 [.tmp 4] Tryz.func147 fun X=>?_;simp only [Zfn];refine Zx fun K hK=>AW.region zk ?_;refine Zs ?_;intro g3;refine hK _ ?_
 try clear hK K
 unfold sgIs
 cases h1:(s.text==t)<;>cases h2:(s.parts==p)<;>cases h3:(s.text==[])<;>((refine Zx fun K hK=>AW.region zk ?_;simp -implicitDefEqProofs only[go_sem,seval,bne,h1,h2,h3];refine hK _ ?_;clear hK K);(refine AW.ret ?_;simp -implicitDefEqProofs only[go_sem,seval];refine Zmb ?_);rfl)
theorem fOf1 {G:Nat→V} (hG:GOk G) (t:List UInt8) (p:Int):FnG G 147 [.view .old (.str t),.view .old (.int .i64 p)] (sgIs t p):=⟨by kernel_rfl,rfl,Zf7 G hG t p⟩
theorem Zoda (t:List UInt8) (p:Int):Znr (sgIs t p) tabL=match ofI t p with | some i=>(i:Int) | none => -1:=rfl
def encOf (o:Nat × Bool):V := .tuple [.int .u8 o.1,.bool o.2]
theorem Zwea {t:List UInt8} {p:Int} {i:Nat} (h:ofI t p=some i):i<23:=(List.findIdx?_eq_some_iff_getElem.1 h).1
theorem Zjt (G:Nat→V) (hG:GOk G) (t:List UInt8) (p:Int):Spec Tryz.prog G 116 [.str t,.int .i64 p] Zm (fun v _=>v=encOf (ofP t p)):=by
 refine Zo 0 17 [.tmp 4,.tmp 5] Tryz.func116 fun X=>?_;refine Z1 ?_;intro g2 g3;refine Z1 ?_;refine Zn hG ?_ (s:=(Zkk G hG));refine Zsf (zi @Z70 (zi @Zrt @Nat.le_refl)) ?_;intro g6;rw [Zbp _ ?hl]
 case hl=>rfl
 refine Z5 <| Zkg 0 zk rfl rfl ?_
 simp -implicitDefEqProofs only[go_sem,seval,List.take_zero];refine ⟨_,Z6r Tryz.underlying100 zk (ob:=6) (g:=g6) (m:=3) (c := .new) (fz:=0) (cs:=tabC) zp zp (by decide),?_⟩;refine Ztc hG [Za .old 3 Zgn (.mk false tabL),.func (.func 147) [] [.view .old (.str t),.view .old (.int .i64 p)]] zk ⟨?_,Zvw ⟨?_,?_,trivial⟩,trivial⟩ ?_
 ·exact Rd.msl (off:=0) (n:=23) (l:=tabL) (f:=Zgn) (f':=Zgn) (g:=g6) (fz:=0) (c := .new) zp Z91 (fun x y hy=>by
   simp only [Zfn,V.cells,List.mem_cons,List.not_mem_nil,or_false] at hy
   rcases hy with rfl | rfl | rfl
   ·exact .str _
   ·exact .int _ _
   ·exact .int _ _) (Zx3 _) (by decide)
 ·exact Rd.ptr (v := .str t) (c := .new) (fz:=0) zp (by intro y hy;simp [V.cells] at hy;subst hy;exact .str _) zp
 ·exact Rd.ptr (v := .int .i64 p) (c := .new) (fz:=0) zp (by intro y hy;simp [V.cells] at hy;subst hy;exact .int _ _) zp
 refine (Z8n G hG _ (.mk false tabL) (by decide) (fOf1 hG t p)).mono ?_;rintro _ _ rfl;refine ⟨.int _ _,?_⟩;refine Zs ?_;have hI:=Zoda t p;unfold ofP
 show AW _ _ _ _ { τ := upd _ 7 (.int .i64 (Znr (sgIs t p) tabL)),H:=_ }
 rw [hI]
 cases ho:ofI t p with
 | none =>
  exact Zr
 | some i =>
  have hi:=Zwea ho;refine AW.weak (Zb (l:=[(7,.int .i64 i)]) (m:=[]) zp zp) ?_
  have h0:((0:Int) > (i:Int))=False:=by rw [eq_iff_iff,iff_false];omega
  have hw:IntKind.u8.wrap (i:Int)=i:=by
   unfold IntKind.wrap;simp [IntKind.signed,IntKind.bits];omega
  have h1:decide ((i:Int)≥0)=true:=zT;exact Zq (zi h0 (zi hw h1))
end Go.Hs
end

section
namespace Go.Hs
open Go.Proofs
set_option maxRecDepth 10000
def Z8 (n:XN):V := .agg [.int .u8 n.op,.int .i64 n.num,.str n.name,.int .i64 n.a,.int .i64 n.b,.int .i64 n.c]
theorem Zp (n:XN):Z8 n = .agg [.int .u8 n.op,.int .i64 n.num,.str n.name,.int .i64 n.a,.int .i64 n.b,.int .i64 n.c]:=rfl
theorem Zre (n:XN):(Z8 n).cells.length=6:=rfl
theorem Z3b (t:Tk):Zib t = .agg [.int .u8 t.kind,.str t.text,.int .i64 t.pos]:=rfl
theorem Zhj (f:Col→Col) (n:XN):(Z8 n).recol f=Z8 n:=by simp only [Zp,Zmi,List.map_cons,List.map_nil,Zze,Zli]
theorem Zlca (f:Col→Col) (t:Tk):(Zib t).recol f=Zib t:=by simp only [Z3b,Zmi,List.map_cons,List.map_nil,Zze,Zli]
@[go_sem] theorem Zeb (g:Col→Col) (c:Col) (s:Sl Tk):(Za c 3 Zib s).recol g=Za (g c) 3 Zib s:=Z6f g c 3 (Zlca g) s
@[go_sem] theorem Zk (g:Col→Col) (c:Col) (s:Sl XN):(Za c 6 Z8 s).recol g=Za (g c) 6 Z8 s:=Z6f g c 6 (Zhj g) s
def rdO (NO:Nat) (tl:List V) (sl:Sl Tk) (g gx:Nat) (r:RS):AObj := .cells .any g 0 (Za .any 3 Zib sl :: .int .i64 r.i::grown NO gx 6 r.nodes :: .int .i64 r.e::tl)
def ndO (gx:Nat) (ns:List XN):AObj:=grownC .any gx Z8 ns
theorem Z0a (NO:Nat) (tl:List V) (sl:Sl Tk) (g gx:Nat) (r:RS):rdO NO tl sl g gx r = .cells .any g 0 (Za .any 3 Zib sl :: .int .i64 r.i::grown NO gx 6 r.nodes :: .int .i64 r.e::tl):=rfl
def RdS (NO:Nat) (tl:List V) (G:Nat→V) (f:FuncId) (args:List V) (sl:Sl Tk) (g:Nat) (r:RS) (v:V) (r':RS):Prop :=
 ∀ gx,Spec Tryz.prog G f (.ptr 8 g 0::args) (Zcb Zm [(8,rdO NO tl sl g gx r),(NO,ndO gx r.nodes)]) (fun v0 H'=>v0=v∧∃ gx',H' 8=rdO NO tl sl g gx' r'∧H' NO=ndO gx' r'.nodes)
theorem RdS.call {NO:Nat} {tl:List V} {G:Nat→V} (hG:GOk G) {f:FuncId} {args args':List V} {sl:Sl Tk} {g gx:Nat} {r r':RS} {v:V} (h:RdS NO tl G f args' sl g r v r') {H:Heap} {K:V→Heap→Prop}
  (hen:Zfa Tryz.prog f=true) (htl:∀ F:Col→Col,tl.map (V.recol F)=tl) (hne:8≠NO) (hargs:args.map (V.recol Col.ent)=args') (hv:v.recol Col.bk=v)
  (h8:H 8=rdO NO tl sl g gx r) (hN:H NO=ndO gx r.nodes)
  (hk:∀ gx',K v (Zcb H [(8,rdO NO tl sl g gx' r'),(NO,ndO gx' r'.nodes)])) :
  CallA Tryz.prog G f (.ptr 8 g 0::args) H K:=by
 have e8:∀ (F:Col→Col) gx r,F .any = .any→(rdO NO tl sl g gx r).recol F=rdO NO tl sl g gx r:=by
  intro F gx r hF;simp only [Z0a,recol_cells,List.map_cons,Z5f,Zeb,Zze,hF,htl]
 have eN:∀ (F:Col→Col) gx ns,F .any = .any→(ndO gx ns).recol F=ndO gx ns:=by
  intro F gx ns hF;rw [ndO,Zoy F .any gx Z8 Z8 (Zhj F),hF]
 refine Zht hG [(8,rdO NO tl sl g gx r),(NO,ndO gx r.nodes)] hen ?_ ?_
 ·intro p hp
  simp only [List.mem_cons,List.not_mem_nil,or_false] at hp
  rcases hp with rfl | rfl
  ·rw [h8,e8 _ _ _ rfl]
  ·rw [hN,eN _ _ _ rfl]
 ·have ha:(V.ptr 8 g 0::args).map (V.recol Col.ent) = .ptr 8 g 0::args':=by rw [List.map_cons,Zul,hargs]
  rw [ha];refine (h gx).mono ?_;rintro _ H' ⟨rfl,gx',q8,qN⟩;simp only [List.map_cons,List.map_nil,q8,qN,e8 _ _ _ Zsaa,eN _ _ _ Zsaa,hv];exact hk gx'
theorem Zaa {NO:Nat} {tl:List V} {G:Nat→V} (hG:GOk G) {f:FuncId} {args args':List V} {sl:Sl Tk} {g gx:Nat} {r r':RS} {v:V} (h:RdS NO tl G f args' sl g r v r') {H:Heap} {K:V→Heap→Prop}
  (hk:∀ gx',K v (Zcb H [(8,rdO NO tl sl g gx' r'),(NO,ndO gx' r'.nodes)])) (hen:Zfa Tryz.prog f=true:=by kernel_rfl) (htl:∀ F:Col→Col,tl.map (V.recol F)=tl:=by exact fun F=>rfl) (hne:8≠NO:=by decide)
  (hargs:args.map (V.recol Col.ent)=args':=by exact zx) (hv:v.recol Col.bk=v:=by exact zm) (h8:H 8=rdO NO tl sl g gx r:=by exact zr) (hN:H NO=ndO gx r.nodes:=by exact zr) :
  CallA Tryz.prog G f (.ptr 8 g 0::args) H K:=RdS.call hG h hen htl hne hargs hv h8 hN hk
structure TkOk (l:List Tk):Prop where
 len:l.length<100000
 text:∀ t∈l,t.text.length<100000
theorem Zus {l:List Tk} {i:Nat} {t:Tk} (h:l[i]? = some t):Z7 l i=if (isP t.text:Int)=t.kind then t else ⟨0,[],0⟩:=by unfold Z7;rw [h]
theorem Z6m {l:List Tk} {i:Nat} (h:l.length≤i):Z7 l i=⟨0,[],0⟩:=by unfold Z7;rw [List.getElem?_eq_none h]
theorem Zsm (G:Nat→V) (hE:GExp G) (sl:Sl Tk) (hT:TkOk sl.l) (g:Nat) (r:RS) (hr:r.i<1000000):RdS 1031 [.func (.func 78) [] []] G 115 [] sl g r (Zib (Z7 sl.l r.i)) r:=by
 have hG:=hE.ok;intro gx;refine Zo 1000 50 [.cell 2 121] Tryz.func115 fun X=>?_;simp only [Zcb,Z0a];refine Z1 ?_;intro g2;refine Z5 ?_
 by_cases hi:r.i<sl.l.length
 ·have h1:decide ((r.i:Int)<sl.l.length)=true:=zT
  have hg:=List.getElem?_eq_getElem hi;have hm:=hT.text _ (List.getElem_mem hi);generalize sl.l[r.i]=t at hg hm;have hP:=Zus hg
  have p1:Z5g Tryz.prog G 64 [.str t.text] (.int .u8 (isP t.text)):=⟨by kernel_rfl,by
   refine Zs ?_;refine (Zqo G hE t.text (by omega)).mono ?_;rintro _ _ rfl
   rfl⟩
  by_cases hk:(isP t.text:Int)=t.kind
  ·rw [if_pos hk] at hP
   have e1:((isP t.text:Int)==t.kind)=true:=by simpa using hk
   refine Z5 <| Zy ⟨fun i=>if i=22 then .int .u8 (isP t.text) else .top,fun _ => .pure⟩ zk hG zk zk ?_
   refine Zsf (zi h1 (zi hg (zi @Z3b e1))) ?_;refine ⟨p1,?_⟩;refine Ze rfl (fun h2=>?_) (fun h2=>?_)
   ·refine ZTf (zi hg @Z3b) hG ?_
    refine Z ?_;exact ⟨by rw [hP]<;>rfl,gx,zp,zp⟩
   ·cases h2
  ·rw [if_neg hk] at hP
   have e1:((isP t.text:Int)==t.kind)=false:=by simpa using hk
   refine Z5 <| Zy ⟨fun i=>if i=22 then .int .u8 (isP t.text) else .top,fun _ => .pure⟩ zk hG zk zk ?_
   refine Zsf (zi h1 (zi hg (zi @Z3b e1))) ?_;refine ⟨p1,?_⟩;refine Zkc rfl ?_
   ·refine Z ?_
    exact ⟨by rw [hP]<;>rfl,gx,zp,zp⟩
 ·have h1:decide ((r.i:Int)<sl.l.length)=false:=zF
  have hP:=Z6m (l:=sl.l) (i:=r.i) (by omega);refine ZTf h1 hG ?_;refine Zkc rfl ?_
  ·refine Z ?_
   exact ⟨by rw [hP]<;>rfl,gx,zp,zp⟩
theorem Zaj (G:Nat→V) (hG:GOk G) (sl:Sl Tk) (g:Nat) (r:RS) (hr:r.nodes.length<1000000):RdS 1031 [.func (.func 78) [] []] G 117 [] sl g r (.int .i64 r.last) r:=by
 intro gx;refine Zo 1000 9 [.tmp 2] Tryz.func117 fun X=>?_;simp only [Zcb,Z0a];refine Z ?_;exact ⟨by rw [w64 (by omega) (by omega)]<;>rfl,gx,zp,zp⟩
theorem Zox {l:List Int} (h:l.length≤3):setAt [V.int .i64 (-1),V.int .i64 (-1),V.int .i64 (-1)] 0 (l.map (V.int .i64))=[V.int .i64 (l.getD 0 (-1)),V.int .i64 (l.getD 1 (-1)),V.int .i64 (l.getD 2 (-1))]:=by
 match l,h with
 | [],_=>rfl
 | [_],_=>rfl
 | [_,_],_=>rfl
 | [_,_,_],_=>rfl
theorem Z2s (k:IntKind) (l:List Int):flat (l.map (V.int k))=l.map (V.int k):=by
 induction l with
 | nil=>rfl
 | cons x r ih=>unfold flat at ih ⊢;rw [List.map_cons,List.flatMap_cons,ih]<;>rfl
def Zt5 (n:XN) (ps:List Int):XN:={ n with a:=ps.getD 0 (-1),b:=ps.getD 1 (-1),c:=ps.getD 2 (-1) }
theorem Zel (G:Nat→V) (hG:GOk G) (sl:Sl Tk) (g:Nat) (r:RS) (hr:r.nodes.length<1000000) (n:XN) (c:Col) (ps:Sl Int) (hps:ps.l.length≤3) :
  RdS 1031 [.func (.func 78) [] []] G 118 [Z8 n,Za c 1 (V.int .i64) ps] sl g r (.bool true) (r.put (Zt5 n ps.l)):=by
 intro gx;refine Zo 1000 34 [.tmp 6] Tryz.func118 fun X=>?_;simp only [Zcb,Z0a,Zp];refine Z1 ?_;intro g4;refine Z1 ?_;intro g8
 refine Z5 <| Zd7 2 zk rfl rfl ?_
 simp -implicitDefEqProofs only[go_sem,seval,List.take_succ_cons,List.take_zero];refine ⟨_,_,GivesE.copy Tryz.underlying104 zk (ob:=1008) (g:=g8) (m:=1) (len:=3) (cs:=[.int .i64 (-1),.int .i64 (-1),.int .i64 (-1)]) (c := .new) (fz:=0) (off:=0) (n:=ps.l.length) (xc:=ps.l.map (V.int .i64)) zp zp (by simp -implicitDefEqProofs only[go_sem,seval];exact congrArg (fun x=>some (ps.l.length,x)) (Z2s _ _)) hps (Nat.le_refl _) (by simp;omega),?_⟩;rw [Zox hps];simp -implicitDefEqProofs only[go_sem,seval,List.drop_succ_cons,List.drop_zero];have hn:Zt5 n ps.l={ n with a:=ps.l.getD 0 (-1),b:=ps.l.getD 1 (-1),c:=ps.l.getD 2 (-1) }:=rfl;generalize ps.l.getD 0 (-1)=x0 at hn ⊢;generalize ps.l.getD 1 (-1)=x1 at hn ⊢;generalize ps.l.getD 2 (-1)=x2 at hn ⊢
 refine AW.weak (Zz (fun o=>o==1008) (l:=[(0,.ptr 8 g 0),(4,.ptr 1004 g4 0),(7,.slice .new false 1 [.int .i64 x0,.int .i64 x1,.int .i64 x2])])
  (m:=[(8,rdO 1031 [.func (.func 78) [] []] sl g gx r),(1031,ndO gx r.nodes),(1004,.cells .new g4 0 [.int .u8 n.op,.int .i64 n.num,.str n.name,.int .i64 n.a,.int .i64 n.b,.int .i64 n.c])]) ?_ ?_) ?_
 ·refine Zs ?_
  refine ⟨Zd _,Zd _,?_⟩;exact Zaf (f:=V.int .i64) (l:=[x0,x1,x2]) (m:=1) (g:=g8) (fz:=0) (c := .new) rfl zp (fun _=>rfl)
 ·simp only [Zl,Zt,and_true]
  exact ⟨FzO.keep rfl zp,FzO.keep rfl zp,FzO.keep rfl zp⟩
 refine Z5 <| Zy ⟨fun _ => .top,fun i=>if i=2 then .lend else if i=5 then .lend else if i=8 then .lend else .pure⟩ zk hG zk zk ?_
 refine Zsf @Z0a ?_;refine AW.later ?_;refine ZT hG ?_;intro g30;refine Z9s (f:=Z8) (l:=r.nodes) (l2:=[Zt5 n ps.l]) (g:=gx) Zre rfl (by rw [hn]<;>rfl) rfl zp (Zca (by omega) (by simp;omega)) fun c2 g2=>?_;refine Zs ?_;refine Z1 ?_;refine AW.ret ?_;refine Zs ?_;refine ⟨st [(6,.bool true)] [(8,rdO 1031 [.func (.func 78) [] []] sl g g2 (r.put (Zt5 n ps.l))),(1031,ndO g2 (r.nodes++[Zt5 n ps.l]))],Zz (fun _=>false) ?_ ?_,?_⟩
 ·refine Zs ?_
  exact Zd _
 ·simp only [Zl,Zt,and_true]
  exact ⟨FzO.keep rfl zp,Zgt (c:=c2) rfl zp⟩
 ·refine Zs ?_
  exact Zmb ⟨rfl,g2,zp,zp⟩
def Zvn (t:List UInt8) (below:Bool):Int × Int :=
 if t=[]∨(t.head? = some 48∧(t.length > 1∨below=true))∨t.all Zna=false then (0,2)
 else told (if below then -(val (t.reverse.map Zzj):Int) else val (t.reverse.map Zzj))
theorem Zwca (s:List UInt8):Z7b s=Zvn (if (s.head? == some 45)=true then s.drop 1 else s) (s.head? == some 45):=rfl
theorem u8_eq (c:UInt8) (n:Nat) (hn:n<256):((c.toNat:Int)==(n:Int))=(c==UInt8.ofNat n):=by
 by_cases h:c.toNat=n
 ·have h1:c=UInt8.ofNat n:=by
   apply UInt8.toNat_inj.1;rw [UInt8.toNat_ofNat',h];omega
  rw [h1];simp;omega
 ·have h1:¬ c=UInt8.ofNat n:=by
   intro e;apply h;rw [e,UInt8.toNat_ofNat'];omega
  have h2:¬ (c.toNat:Int)=(n:Int):=by omega
  rw [show (c==UInt8.ofNat n)=false by simpa using h1,show ((c.toNat:Int)==(n:Int))=false from beq_eq_false_iff_ne.2 h2]
theorem u8_45 (c:UInt8):((c.toNat:Int)==45)=(c==45):=u8_eq c 45 (by decide)
theorem Z0ba (c:UInt8):((c.toNat:Int)==48)=(c==48):=u8_eq c 48 (by decide)
theorem Zm1 (G:Nat→V) (hG:GOk G) (s:List UInt8) (hs:s.length<1000000):Spec Tryz.prog G 207 [.str s] Zm (fun v _=>v=encR (Z7b s)):=by
 rw [Zwca];generalize hb0:(s.head? == some 45)=b0;generalize ht0:(if b0=true then s.drop 1 else s)=t0;refine Zo 0 64 [.tmp 2,.tmp 3] Tryz.func207 fun X=>?_;refine Z1 ?_;refine Zha (fun (_:Unit)=>st [(0,.str s),(4,.bool b0)] []) (fun _=>True) (fun K1 hK1=>?_) ?_
 ·cases s with
  | nil =>
   refine Z1 ?_;exact hK1 _ () trivial (Zb (by simp -implicitDefEqProofs only[go_sem,seval];rw [← hb0]<;>rfl) zp)
  | cons c r =>
   refine Z1f @u8_45 ?_;exact hK1 _ () trivial (Zb (by simp -implicitDefEqProofs only[go_sem,seval];rw [← hb0]<;>rfl) zp)
 intro _ _;refine Zha (fun (_:Unit)=>st [(0,.str t0),(4,.bool b0)] []) (fun _=>True) (fun K2 hK2=>?_) ?_
 ·refine Z1 ?_
  refine Ze rfl (fun h2=>?_) (fun h2=>?_)
  ·subst h2
   have h1:1≤s.length:=by
    cases s with
    | nil=>simp at hb0
    | cons _ _=>simp
   refine Z1f (zi h1 @Nat.le_refl) ?_;refine hK2 _ () trivial ?_;exact (Zb (by simp -implicitDefEqProofs only[go_sem,seval];rw [← ht0];simp;try exact List.take_of_length_le (by simp)) zp)
  ·subst h2
   refine Z0 ?_;exact hK2 _ () trivial (Zb (by simp -implicitDefEqProofs only[go_sem,seval];rw [← ht0];simp) zp)
 intro _ _
 have htl:t0.length≤s.length:=by rw [← ht0];split<;>simp
 try clear ht0 hb0
 refine Zha (fun (_:Unit)=>st [(0,.str t0),(4,.bool b0)] []) (fun _=>t0≠[]∧¬ (t0.head? = some 48∧(t0.length > 1∨b0=true))) (fun K3 hK3=>?_) ?_
 ·cases t0 with
  | nil =>
   refine Z1 ?_;refine Ze rfl (fun h4=>?_) (fun h4=>?_)
   ·refine Z ?_
    rw [Zvn,if_pos (.inl rfl)]
    try rfl
   ·cases h4
  | cons c r =>
   by_cases hc:c=48
   ·have hc1:(c==48)=true:=by simpa using hc
    by_cases hl:r.length=0
    ·have hl1:decide (((r.length+1:Nat):Int) > 1)=false:=zF
     cases b0 with
     | true =>
      refine Z1f (zi @Z0ba (zi hc1 hl1)) ?_;refine Ze rfl (fun h4=>?_) (fun h4=>?_)
      ·refine Z ?_
       rw [Zvn,if_pos (.inr (.inl ⟨by simp [hc],.inr rfl⟩))]
       try rfl
      ·cases h4
     | false =>
      refine Z1f (zi @Z0ba (zi hc1 hl1)) ?_;refine Zkc rfl ?_
      ·refine Z0 ?_
       exact hK3 _ () ⟨by simp,by simp [hl]⟩ (Zb zp zp)
    ·have hl1:decide (((r.length+1:Nat):Int) > 1)=true:=zT
     refine Z1f (zi @Z0ba (zi hc1 hl1)) ?_;refine Ze rfl (fun h4=>?_) (fun h4=>?_)
     ·refine Z ?_
      rw [Zvn,if_pos (.inr (.inl ⟨by simp [hc],.inl (by simp;omega)⟩))]
      try rfl
     ·cases h4
   ·have hc1:(c==48)=false:=by simpa using hc
    refine Z1f (zi @Z0ba hc1) ?_;refine Zkc rfl ?_
    ·refine Z0 ?_
     exact hK3 _ () ⟨by simp,by simp [hc]⟩ (Zb zp zp)
 rintro _ ⟨hne,hno⟩;refine Z1 ?_;refine Z1 ?_;refine AW.block ?_
 refine Zwa t0.length (fun k (x:Nat)=>st [(0,.str t0),(4,.bool b0),(5,grown 56 x 1 (Zae ((t0.drop (t0.length-k)).reverse.map Zzj))),(6,.int .i64 ((t0.length:Int)-1-k))] [(56,Zua x (V.int .i64) (Zae ((t0.drop (t0.length-k)).reverse.map Zzj)))])
  (fun k _=>(t0.drop (t0.length-k)).all Zna=true) 0 0 (Nat.zero_le _) (by rw [List.drop_eq_nil_of_le (by omega)]<;>rfl)
  (Zb (by rw [List.drop_eq_nil_of_le (by omega)];simp -implicitDefEqProofs only[go_sem,seval];exact ⟨rfl,congrArg _ (by rw [w64 (by omega) (by omega)];omega)⟩) (by rw [List.drop_eq_nil_of_le (by omega)];simp -implicitDefEqProofs only[go_sem,seval];try rfl)) ?_
 intro k gx hk hI L2 hL2;refine Z1 ?_;refine Ze rfl (fun h4=>?_) (fun h4=>?_)
 ·have hk1:k<t0.length:=by have:=of_decide_eq_true h4;omega
  refine Z0 ?_;obtain ⟨i,hi⟩:∃ i,i=t0.length-1-k:=⟨_,rfl⟩
  have e0:((t0.length:Int)-1-k)=(i:Int):=by omega
  have hi1:i<t0.length:=by omega
  have g2:=List.getElem?_eq_getElem hi1;have hdr:t0.drop i=t0[i]::t0.drop (i+1):=List.drop_eq_getElem_cons hi1
  have hall:t0.all Zna=((t0.take i).all Zna && (Zna t0[i] && (t0.drop (i+1)).all Zna)):=by
   rw [← List.all_cons,← hdr,← List.all_append,List.take_append_drop]
  generalize t0[i]=c at g2 hdr hall;rw [show t0.length-k=i+1 by omega] at hI ⊢;rw [e0]
  have hlen:((t0.drop (i+1)).reverse.map Zzj).length<1000000:=by simp;omega
  refine Z5 ?_;refine AW.block ?_;refine Z5 ?_
  by_cases hc:Zna c=true
  ·have hc2:48≤c.toNat∧c.toNat≤57:=by unfold Zna at hc;simpa using hc
   have b1:decide ((c.toNat:Int)<48)=false:=zF;have b2:decide ((c.toNat:Int) > 57)=false:=zF
   have hdv:IntKind.i64.wrap ((c.toNat:Int)-48)=((Zzj c:Nat):Int):=by rw [w64 (by omega) (by omega)];unfold Zzj;omega
   have hwc:IntKind.i64.wrap (c.toNat:Int)=(c.toNat:Int):=w64 (by omega) (by omega);refine Z1f (zi g2 (zi b1 b2)) ?_;refine Zkc rfl ?_
   ·refine Z1f (zi g2 (zi hwc hdv)) ?_
    intro g55;refine Zza (f:=V.int .i64) (l:=Zae ((t0.drop (i+1)).reverse.map Zzj)) (l2:=[((Zzj c:Nat):Int)]) (g:=gx) (fun _=>rfl) rfl rfl rfl rfl (Zca (by omega) (by simp;omega)) fun g56=>?_;refine Zs ?_;refine Z1 ?_
    have hnew:(t0.drop (t0.length-(k+1))).reverse.map Zzj=(t0.drop (i+1)).reverse.map Zzj++[Zzj c]:=by
     rw [show t0.length-(k+1)=i by omega,hdr];simp
    refine hL2 _ ⟨hk1,g56,?_,Zb (by rw [hnew];simp -implicitDefEqProofs only[go_sem,seval,Zgf];exact ⟨rfl,congrArg _ (by rw [w64 (by omega) (by omega)];omega)⟩) (by rw [hnew];simp -implicitDefEqProofs only[go_sem,seval,Zgf];try rfl)⟩
    rw [show t0.length-(k+1)=i by omega,hdr,List.all_cons,hc,hI]<;>rfl
  ·have hcf:Zna c=false:=by simpa using hc
   have hbad:t0.all Zna=false:=by rw [hall,hcf];simp
   have hc2:c.toNat<48∨57<c.toNat:=by
    rcases Nat.lt_or_ge c.toNat 48 with h | h
    ·exact .inl h
    ·rcases Nat.lt_or_ge 57 c.toNat with h1 | h1
     ·exact .inr h1
     ·exact absurd (by unfold Zna;simp [h,h1]) hc
   have hP:Zvn t0 b0=(0,2):=by rw [Zvn,if_pos (.inr (.inr hbad))]
   rcases hc2 with h | h
   ·have b1:decide ((c.toNat:Int)<48)=true:=zT
    refine Z1f (zi g2 b1) ?_;refine Ze rfl (fun h7=>?_) (fun h7=>?_)
    ·refine Z ?_
     rw [hP]<;>rfl
    ·cases h7
   ·have b1:decide ((c.toNat:Int)<48)=false:=zF
    have b2:decide ((c.toNat:Int) > 57)=true:=zT;refine Z1f (zi g2 (zi b1 b2)) ?_;refine Ze rfl (fun h7=>?_) (fun h7=>?_)
    ·refine Z ?_
     rw [hP]<;>rfl
    ·cases h7
 ·have hk1:k=t0.length:=by have:=of_decide_eq_false h4;omega
  subst hk1;rw [Nat.sub_self,List.drop_zero] at hI ⊢
  have hP:Zvn t0 b0=told (sgn b0 (val (t0.reverse.map Zzj))):=by
   rw [Zvn,if_neg (by rw [hI];simp [hne,hno])]
   try rfl
  have hdig:Dig (t0.reverse.map Zzj):=by
   intro d hd;obtain ⟨c,h1,rfl⟩:=List.mem_map.1 hd;have:=List.all_eq_true.1 hI c (List.mem_reverse.1 h1);unfold Zna at this;unfold Zzj;simp at this;omega
  have hol:(t0.reverse.map Zzj).length<1000000:=by simp;omega
  generalize t0.reverse.map Zzj=out at hdig hol hP;refine Z0 ?_;refine AW.weak (Zz (fun o=>o==56) (l:=[(4,.bool b0),(5,Za .new 1 (V.int .i64) (slD (decide (out=[])) out))]) (m:=[]) ?_ trivial) ?_
  ·refine Zs ?_
   rw [← Zyk rfl];exact ⟨Zd _,Z1a rfl rfl (fun _=>rfl)⟩
  refine Z1 ?_;refine Zn hG ?_ (s:=(Z8g G hG _ (decide (out=[])) out (by simp) (by omega)));rw [Zuh _ _ (Nat.le_refl _) hdig]
  have hnl:decide (out=[])=true→dg (val out)=[]:=by
   intro h;have:=of_decide_eq_true h;subst this;rfl
  have hvl:(dg (val out)).length<1000000:=by
   have:=Zik (Zcx hdig);omega
  refine Zs ?_;refine CallA.pure hG zk ?_;refine Zs ?_;rw [← encLong];refine (Zpe G hG _ _ _ _ hnl (Zsd _) hvl).mono ?_;rintro _ _ rfl;rw [Z6c];refine Zsf @encR.eq_1 ?_;refine Z ?_;rw [hP]
  try rfl
theorem Zjj (G:Nat→V) (hG:GOk G) (sl:Sl Tk) (hT:TkOk sl.l) (g:Nat) (r:RS) (hr:r.i<1000000):RdS 1012 [] G 190 [] sl g r (.str (Z7 sl.l r.i).text) r:=by
 intro gx;refine Zo 1000 50 [.tmp 2] Tryz.func190 fun X=>?_;simp only [Zcb,Z0a];refine Z1 ?_;refine Z5 ?_
 by_cases hi:r.i<sl.l.length
 ·have h1:decide ((r.i:Int)≥sl.l.length)=false:=zF
  have hg:=List.getElem?_eq_getElem hi;have hm:=hT.text _ (List.getElem_mem hi);generalize sl.l[r.i]=t at hg hm;have hP:=Zus hg
  have p1:Z5g Tryz.prog G 81 [.str t.text] (.int .u8 (isP t.text)):=⟨by kernel_rfl,by
   refine Zs ?_;refine (Zlj G hG t.text (by omega)).mono ?_;rintro _ _ rfl
   rfl⟩
  by_cases hk:(isP t.text:Int)=t.kind
  ·rw [if_pos hk] at hP
   have e1:((isP t.text:Int) != t.kind)=false:=by simpa using hk
   refine Z5 <| Zy ⟨fun i=>if i=22 then .int .u8 (isP t.text) else .top,fun _ => .pure⟩ zk hG zk zk ?_
   refine Zsf (zi h1 (zi hg (zi @Z3b e1))) ?_;refine ⟨p1,?_⟩;refine Zkc rfl ?_
   ·refine Z0 ?_
    refine ZTf (zi hg @Z3b) hG ?_;refine Z ?_;exact ⟨by rw [hP],gx,zp,zp⟩
  ·rw [if_neg hk] at hP
   have e1:((isP t.text:Int) != t.kind)=true:=by simpa using hk
   refine Z5 <| Zy ⟨fun i=>if i=22 then .int .u8 (isP t.text) else .top,fun _ => .pure⟩ zk hG zk zk ?_
   refine Zsf (zi h1 (zi hg (zi @Z3b e1))) ?_;refine ⟨p1,?_⟩;refine Ze rfl (fun h2=>?_) (fun h2=>?_)
   ·refine Z ?_
    exact ⟨by rw [hP],gx,zp,zp⟩
   ·cases h2
 ·have h1:decide ((r.i:Int)≥sl.l.length)=true:=zT
  have hP:=Z6m (l:=sl.l) (i:=r.i) (by omega);refine ZTf h1 hG ?_;refine Ze rfl (fun h2=>?_) (fun h2=>?_)
  ·refine Z ?_
   exact ⟨by rw [hP],gx,zp,zp⟩
  ·cases h2
theorem Zlf (G:Nat→V) (hG:GOk G) (sl:Sl Tk) (g:Nat) (r:RS) (hr:r.nodes.length<1000000):RdS 1012 [] G 173 [] sl g r (.int .i64 r.last) r:=by
 intro gx;refine Zo 1000 9 [.tmp 2] Tryz.func173 fun X=>?_;simp only [Zcb,Z0a];refine Z ?_;exact ⟨by rw [w64 (by omega) (by omega)]<;>rfl,gx,zp,zp⟩
theorem Zij (G:Nat→V) (hG:GOk G) (sl:Sl Tk) (g:Nat) (r:RS) (hr:r.nodes.length<1000000) (n:XN) :
  RdS 1012 [] G 174 [Z8 n] sl g r (.bool true) (r.put n):=by
 intro gx;refine Zo 1000 15 [.tmp 4] Tryz.func174 fun X=>?_;simp only [Zcb,Z0a,Zp];refine Z1 ?_;intro g3
 refine AW.weak (Zz (fun o=>o==1003) (l:=[(0,.ptr 8 g 0),(3,.view .new (Z8 n))])
  (m:=[(8,rdO 1012 [] sl g gx r),(1012,ndO gx r.nodes)]) ?_ ?_) ?_
 ·refine Zs ?_
  exact ⟨Zd _,Fz.ptr (v:=Z8 n) (c := .new) (fz:=0) rfl zp⟩
 ·simp only [Zl,Zt,and_true]
  exact ⟨FzO.keep rfl zp,FzO.keep rfl zp⟩
 simp only [Zp];refine AW.later ?_;refine ZTf @Z0a hG ?_;intro g11;refine Z9s (f:=Z8) (l:=r.nodes) (l2:=[n]) (g:=gx) Zre rfl rfl rfl zp (Zca (by omega) (by simp;omega)) fun c2 g2=>?_;refine Zs ?_;refine Z1 ?_;refine AW.ret ?_;refine Zs ?_;refine ⟨st [(4,.bool true)] [(8,rdO 1012 [] sl g g2 (r.put n)),(1012,ndO g2 (r.nodes++[n]))],Zz (fun _=>false) ?_ ?_,?_⟩
 ·refine Zs ?_
  exact Zd _
 ·simp only [Zl,Zt,and_true]
  exact ⟨FzO.keep rfl zp,Zgt (c:=c2) rfl zp⟩
 ·refine Zs ?_
  exact Zmb ⟨rfl,g2,zp,zp⟩
theorem Zkj (G:Nat→V) (hG:GOk G) (sl:Sl Tk) (g:Nat) (r:RS) (hi:r.i<1000000) (hr:r.nodes.length<1000000) (op num:Int) (name:List UInt8) (x y z:Int) :
  RdS 1012 [] G 193 [Z8 ⟨op,num,name,x,y,z⟩] sl g r (.bool true) (Z1g r op num name).2:=by
 intro gx;refine Zo 1000 18 [.tmp 4] Tryz.func193 fun X=>?_
 have hw:IntKind.i64.wrap ((r.i:Int)+1)=((r.i+1:Nat):Int):=by rw [w64 (by omega) (by omega)];omega
 simp only [Zcb,Z0a,Zp];refine Z1 ?_;intro g3;refine Z1f hw ?_;refine Z1 ?_;refine Z1 ?_;refine Z1 ?_;refine Z1 ?_;rw [← Zp ⟨op,num,name,-1,-1,-1⟩];refine Zaa hG (Zij G hG sl g r.adv hr ⟨op,num,name,-1,-1,-1⟩) (gx:=gx) fun gx'=>?_;refine Zu ?_;refine Z ?_;exact ⟨rfl,gx',zp,zp⟩
theorem Zmj (G:Nat→V) (hG:GOk G) (sl:Sl Tk) (hT:TkOk sl.l) (g:Nat) (r:RS) (hi:r.i<1000000) (w:List UInt8) :
  RdS 1012 [] G 191 [.str w] sl g r (.bool (Ziq sl.l w r).1) (Ziq sl.l w r).2:=by
 intro gx;refine Zo 1000 19 [.tmp 4] Tryz.func191 fun X=>?_
 have hw:IntKind.i64.wrap ((r.i:Int)+1)=((r.i+1:Nat):Int):=by rw [w64 (by omega) (by omega)];omega
 have hP:Ziq sl.l w r=if (Z7 sl.l r.i).text≠w then (false,r.err 80) else (true,r.adv):=rfl
 refine Z1 ?_;refine Z1 ?_;refine Zaa hG (Zjj G hG sl hT g r hi) (gx:=gx) fun gx'=>?_;refine Zu ?_;generalize Z7 sl.l r.i=t at hP ⊢
 by_cases ht:t.text=w
 ·rw [if_neg (by simpa using ht)] at hP
  refine Ze rfl (fun h2=>?_) (fun h2=>?_)
  ·rw [ht] at h2;simp at h2
  ·refine Zf (zi @Z0a hw) ?_
   rw [hP];exact ⟨rfl,gx',zp,zp⟩
 ·rw [if_pos ht] at hP
  refine Ze rfl (fun h2=>?_) (fun h2=>?_)
  ·refine Zf @Z0a ?_
   rw [hP];exact ⟨rfl,gx',zp,zp⟩
  ·have h2:t.text=w:=by simpa using h2
   exact absurd h2 ht
theorem Zfx:∀ t:List UInt8,(Zii t).length≤t.length
 | []=>Nat.le_refl _
 | [c]=>Nat.le_refl _
 | c::d::r=>by
  rw [Zii]
  split
  ·have:=Zfx (d::r)
   simp only [List.length_cons] at this ⊢;omega
  ·exact Nat.le_refl _
theorem Zs7 (c:UInt8):((c.toNat:Int)==48)=(c==48):=by
 have:=Zdx (fun c=>((c.toNat:Int)==48)==(c==48)) (by decide +kernel) c;simpa using this
theorem Z3x (G:Nat→V) (hG:GOk G) (sl:Sl Tk) (g:Nat) (r:RS) (hi:r.i<1000000) (hr:r.nodes.length<1000000) (t:List UInt8) (ht:t.length<100000) :
  RdS 1012 [] G 194 [.str t] sl g r (.bool (Zsk r t).1) (Zsk r t).2:=by
 intro gx;refine Zo 1000 31 [.tmp 4] Tryz.func194 fun X=>?_
 have hP:Zsk r t=if (Z7b (Zii t)).2≠0 then (false,r.err 60) else Z1g r 1 (Z7b (Zii t)).1 []:=rfl
 have hl:=Zfx t;refine Z1 ?_;refine Zha (fun (_:Unit)=>st [(0,.ptr 8 g 0),(1,.str (Zii t))] [(8,rdO 1012 [] sl g gx r),(1012,ndO gx r.nodes)]) (fun _=>True) (fun K1 hK1=>?_) ?_
 ·refine AW.block ?_
  refine Zhc (fun (s:List UInt8)=>st [(0,.ptr 8 g 0),(1,.str s)] [(8,rdO 1012 [] sl g gx r),(1012,ndO gx r.nodes)])
   (fun s=>Zii s=Zii t∧s.length≤t.length) (fun s=>s.length) t ⟨rfl,Nat.le_refl _⟩ (Zb zp (by simp -implicitDefEqProofs only[go_sem,seval,Zcb];try rfl)) ?_
  rintro s ⟨hs,hsl⟩ L2 hL2;refine Z5 ?_
  by_cases hlen:s.length > 1
  rotate_left
  ·have h1:decide ((s.length:Int) > 1)=false:=zF
   have he:Zii s=s:=by
    match s,hlen with
    | [],_=>rfl
    | [c],_=>rfl
    | c::d::r,h=>simp at h
   refine Z1f h1 ?_;refine Z0 ?_;exact hK1 _ () trivial (Zb (by rw [← hs,he];simp -implicitDefEqProofs only[go_sem,seval];try rfl) zp)
  have h1:decide ((s.length:Int) > 1)=true:=zT
  obtain ⟨c,d,q,hq⟩:∃ c d q,s=c::d::q:=by
   match s,hlen with
   | c::d::q,_=>exact ⟨c,d,q,rfl⟩
  have hg:s[0]? = some c:=by rw [hq]<;>rfl
  have hdr:(s.drop 1).take (s.length-1)=d::q:=by rw [hq];simp
  have hT:Zii s=if c=48 then Zii (d::q) else s:=by rw [hq]<;>rfl
  have hll:(d::q).length+1=s.length:=by rw [hq];simp
  by_cases hc:c=48
  ·have e1:(c==48)=true:=by simpa using hc
   rw [if_pos hc] at hT;refine Z1f (zi h1 (zi hg (zi @Zs7 e1))) ?_;refine Z0 ?_;refine AW.block ?_
   have hb:1≤s.length:=by omega
   refine Z1f (zi hb (zi hdr @Nat.le_refl)) ?_;exact hL2 _ ⟨d::q,by omega,⟨by rw [← hT];exact hs,by omega⟩,Zb zp zp⟩
  ·have e1:(c==48)=false:=by simpa using hc
   rw [if_neg hc] at hT;refine Z1f (zi h1 (zi hg (zi @Zs7 e1))) ?_;refine Z0 ?_;exact hK1 _ () trivial (Zb (by rw [← hs,hT];simp -implicitDefEqProofs only[go_sem,seval];try rfl) zp)
 intro _ _;generalize Zii t=s at hP hl ⊢;refine Z1 ?_;refine Zn hG ?_ (s:=(Zm1 G hG s (by omega)));generalize Z7b s=q at hP ⊢;obtain ⟨n,e⟩:=q;simp only at hP;refine Zsf @encR.eq_1 ?_;refine Z5 ?_
 by_cases he:e=0
 ·have e1:(e==0)=true:=by simpa using he
  rw [if_neg (show ¬ e≠0 by simpa using he)] at hP;refine Z5c zk ?_;simp -implicitDefEqProofs only[go_sem,seval,bne,e1];refine Zkc rfl ?_
  ·refine Z1 ?_
   rw [← Zp ⟨1,n,[],0,0,0⟩];refine Zaa hG (Zkj G hG sl g r hi hr 1 n [] 0 0 0) (gx:=gx) fun gx'=>?_;refine Zu ?_;refine Z ?_;rw [hP];exact ⟨rfl,gx',zp,zp⟩
 ·have e1:(e==0)=false:=by simpa using he
  rw [if_pos he] at hP;refine Z5c zk ?_;simp -implicitDefEqProofs only[go_sem,seval,bne,e1];refine Ze rfl (fun h4=>?_) (fun h4=>?_)
  ·refine Zf @Z0a ?_
   rw [hP];exact ⟨rfl,gx,zp,zp⟩
  ·cases h4
end Go.Hs
end

section
namespace Go.Hs
structure Bal (l:List Tk) (k:Nat) (r r':RS):Prop where
 up:r.i≤r'.i
 inn:r.i≤l.length→r'.i≤l.length
 cnt:r'.nodes.length+r.i+k≤r.nodes.length+r'.i
theorem Bal.refl (l:List Tk) (r:RS):Bal l 0 r r:=⟨Nat.le_refl _,id,Nat.le_refl _⟩
theorem Bal.trans {l:List Tk} {k k':Nat} {r r' r'':RS} (h:Bal l k r r') (h':Bal l k' r' r''):Bal l (k+k') r r'' :=
 ⟨Nat.le_trans h.up h'.up,fun x=>h'.inn (h.inn x),by have:=h.cnt;have:=h'.cnt;omega⟩
theorem Bal.weak {l:List Tk} {k k':Nat} {r r':RS} (h:Bal l k r r') (hk:k'≤k):Bal l k' r r':=⟨h.up,h.inn,by have:=h.cnt;omega⟩
theorem Bal.adv {l:List Tk} {r:RS} (h:r.i<l.length):Bal l 1 r r.adv:=⟨Nat.le_succ _,fun _=>h,by show r.nodes.length+r.i+1≤r.nodes.length+(r.i+1);omega⟩
theorem Bal.err (l:List Tk) (r:RS) (e:Int):Bal l 0 r (r.err e):=⟨Nat.le_refl _,id,Nat.le_refl _⟩
theorem Bal.put {l:List Tk} {k:Nat} {r r':RS} (h:Bal l (k+1) r r') (n:XN):Bal l k r (r'.put n) :=
 ⟨h.up,h.inn,by have:=h.cnt;show (r'.nodes++[n]).length+r.i+k≤_;rw [List.length_append,List.length_singleton];show _≤r.nodes.length+r'.i;omega⟩
def Bals (l:List Tk) (inner:Inner):Prop:=∀ n r,Bal l 0 r (inner n r).2
theorem Zxd {l:List Tk} {r:RS} {x:Bool × RS} {k:RS→Bool × RS} (h:Bal l 0 r x.2) (hk:x.1=true→Bal l 0 r (k x.2).2):Bal l 0 r (andThen x k).2:=by
 obtain ⟨b,r1⟩:=x;cases b
 ·exact h
 ·exact hk rfl
theorem Zvd (l:List Tk) (w:List UInt8) (r:RS):Bal l 0 r (Ztf l w r).2∧((Ztf l w r).1=true→Bal l 1 r (Ztf l w r).2):=by
 unfold Ztf
 split
 ·exact ⟨Bal.err _ _ _,fun h=>by cases h⟩
 ·rename_i h
  have hk:(Z7 l r.i).kind≠0:=fun hh=>h (.inl hh);have:=Bal.adv (Zug hk);exact ⟨this.weak (Nat.zero_le _),fun _=>this⟩
theorem Z7p {l:List Tk} {r:RS} (h:(Z7 l r.i).kind≠0) (op num:Int) (name:List UInt8):Bal l 0 r (Z1g r op num name).2:=(Bal.adv (Zug h)).put _
theorem Zx1 {l:List Tk} {r:RS} (h:(Z7 l r.i).kind≠0) (t:List UInt8):Bal l 0 r (Zcd r t).2:=by
 unfold Zcd
 split
 ·exact Bal.err _ _ _
 ·exact Z7p h _ _ _
theorem Zsu {l:List Tk} {inner:Inner} (h:Bals l inner) (r:RS):Bal l 0 r (Zab l inner r).2:=by
 unfold Zab;have e1:=Zvd l wIf r;refine Zxd e1.1 fun h1=>?_;have b1:=e1.2 h1;generalize (Ztf l wIf r).2=r1 at b1 ⊢;have b2:=b1.trans (h 1 r1);refine Zxd (b2.weak (Nat.zero_le _)) fun _=>?_;generalize (inner 1 r1).2=a at b2 ⊢;have e2:=Zvd l Z4j a;refine Zxd ((b2.trans e2.1).weak (Nat.zero_le _)) fun h2=>?_;have b3:=b2.trans (e2.2 h2);generalize (Ztf l Z4j a).2=r2 at b3 ⊢;have b4:=b3.trans (h 1 r2);refine Zxd (b4.weak (Nat.zero_le _)) fun _=>?_;generalize (inner 1 r2).2=b at b4 ⊢;have e3:=Zvd l Z5j b;refine Zxd ((b4.trans e3.1).weak (Nat.zero_le _)) fun h3=>?_;have b5:=b4.trans (e3.2 h3);generalize (Ztf l Z5j b).2=r3 at b5 ⊢;have b6:=b5.trans (h 1 r3);refine Zxd (b6.weak (Nat.zero_le _)) fun _=>?_;generalize (inner 1 r3).2=c at b6 ⊢;have e4:=Zvd l Zyf c;refine Zxd ((b6.trans e4.1).weak (Nat.zero_le _)) fun h4=>?_;have b7:=b6.trans (e4.2 h4);exact (b7.put _).weak (Nat.zero_le _)
theorem Zkh {l:List Tk} {inner:Inner} (h:Bals l inner) (r:RS):Bal l 0 r (Z5a l inner r).2:=by
 unfold Z5a
 split
 ·rename_i hk;exact Zx1 (by rw [hk];decide) _
 split
 ·rename_i hk;exact Z7p (by rw [hk];decide) _ _ _
 split
 ·exact Bal.err _ _ _
 rename_i h0;have ba:=Bal.adv (Zug h0)
 split
 ·have b1:=ba.trans (h 9 r.adv)
  exact Zxd (b1.weak (Nat.zero_le _)) fun _=>b1.put _
 split
 ·have b1:=ba.trans (h 1 r.adv)
  exact Zxd (b1.weak (Nat.zero_le _)) fun _=>(b1.trans (Zvd l [41] _).1).weak (Nat.zero_le _)
 split
 ·exact Zsu h r
 split
 ·exact Z7p h0 _ _ _
 ·exact Bal.err _ _ _
theorem Z2p {l:List Tk} {inner:Inner} (h:Bals l inner) (n:Int):∀ (m:Nat) (r:RS),Bal l 0 r (Z8b l inner n m r).2
 | 0,r=>Bal.refl l r
 | m+1,r=>by
  rw [Z8b]
  cases ho:Zdi l r.i with
  | none=>exact Bal.refl l r
  | some op =>
   simp only
   split
   ·exact Bal.refl l r
   ·have b1:=(Bal.adv (Z0g ho)).trans (h (lvl op+1) r.adv)
    exact Zxd (b1.weak (Nat.zero_le _)) fun _=>((b1.put _).trans (Z2p h n m _)).weak (Nat.zero_le _)
theorem Zqc (l:List Tk):∀ f,Bals l (Z3 l f)
 | 0=>fun _ r=>Bal.refl l r
 | f+1=>fun n r=>by
  rw [Z3];have b1:=Zkh (Zqc l f) r;exact Zxd b1 fun _=>(b1.trans (Z2p (Zqc l f) n _ _)).weak (Nat.zero_le _)
def Zrm (l:List Tk) (r:RS):Prop:=r.i≤l.length∧r.nodes.length≤r.i
theorem Bal.ok {l:List Tk} {k:Nat} {r r':RS} (h:Bal l k r r') (hr:Zrm l r):Zrm l r':=⟨h.inn hr.1,by have:=h.cnt;have:=h.up;have:=hr.2;omega⟩
end Go.Hs
end

section
namespace Go.Hs
open Go.Proofs
set_option maxRecDepth 10000
structure InnR (G:Nat→V) (sl:Sl Tk) (g:Nat) (inner:Inner) (i0:Nat):Prop where
 lev:∀ n r,1≤n→n≤9→i0<r.i→Zrm sl.l r→RdS 1012 [] G 152 [.int .i64 n] sl g r (.bool (inner n r).1) (inner n r).2
 un:∀ r,i0<r.i→Zrm sl.l r→RdS 1012 [] G 171 [] sl g r (.bool (inner 9 r).1) (inner 9 r).2
theorem Z6ca {l:List Tk} (hT:TkOk l) (i:Nat):(Z7 l i).text.length<100000:=by
 unfold Z7
 split
 ·rename_i t h
  split
  ·exact hT.text _ (List.mem_of_getElem? h)
  ·exact Nat.zero_lt_succ _
 ·exact Nat.zero_lt_succ _
theorem Zku (l:List Tk) {w:List UInt8} (hw:isP w≠0) (r:RS):Bal l 0 r (Ziq l w r).2∧((Ziq l w r).1=true→Bal l 1 r (Ziq l w r).2)∧((Ziq l w r).1=true→(Ziq l w r).2=r.adv):=by
 rw [Zuy l hw];refine ⟨(Zvd l w r).1,(Zvd l w r).2,?_⟩;unfold Ztf
 split
 ·intro h;cases h
 ·exact fun _=>rfl
theorem Zur (G:Nat→V) (hG:GOk G) (sl:Sl Tk) (hT:TkOk sl.l) (g:Nat) (r:RS) (hr:Zrm sl.l r) (hlt:r.i<sl.l.length) (inner:Inner) (hin:InnR G sl g inner r.i) (hb:Bals sl.l inner) :
  RdS 1012 [] G 192 [] sl g r (.bool (Z4e sl.l inner r).1) (Z4e sl.l inner r).2:=by
 have hTl:=hT.len;intro gx;refine Zo 1000 47 [.tmp 2] Tryz.func192 fun X=>?_
 have hP:Z4e sl.l inner r=andThen (inner 1 r.adv) fun a=>andThen (Ziq sl.l Z4j a) fun r2=>andThen (inner 1 r2) fun b =>
  andThen (Ziq sl.l Z5j b) fun r3=>andThen (inner 1 r3) fun c=>andThen (Ziq sl.l Zyf c) fun r4=>(true,r4.put ⟨22,0,[],a.last,b.last,c.last⟩):=rfl
 generalize Z4e sl.l inner r=res at hP ⊢;have had:Zrm sl.l r.adv:=(Bal.adv hlt).ok hr
 have hw:IntKind.i64.wrap ((r.i:Int)+1)=((r.i+1:Nat):Int):=by rw [w64 (by omega) (by omega)];omega
 have c1:=hin.lev 1 r.adv (by decide) (by decide) (Nat.lt_succ_self _) had;have b1:=hb 1 r.adv;generalize inner 1 r.adv=x1 at hP c1 b1;obtain ⟨t1,a⟩:=x1;simp only at c1 b1;have ha:=b1.ok had;have hau:r.i+1≤a.i:=b1.up;refine Z1 ?_;refine Z1f (zi @Z0a hw) ?_;refine Z5 ?_
 cases t1 with
 | false =>
  rw [Zya] at hP;refine Z1f @Z0a ?_;refine Zaa hG (c1) (gx:=gx) fun gx1=>?_;refine Zu ?_;refine Ze rfl (fun h19=>?_) (fun h19=>?_)
  ·refine Z ?_
   rw [hP];exact ⟨rfl,gx1,zr,zr⟩
  ·cases h19
 | true =>
 rw [Z6] at hP
 have hai:a.i<1000000:=by have:=ha.1;omega
 have han:a.nodes.length<1000000:=by have:=ha.1;have:=ha.2;omega
 have c2:=Zmj G hG sl hT g a hai Z4j;have b2:=Zku sl.l (w:=Z4j) (by decide +kernel) a;generalize Ziq sl.l Z4j a=x2 at hP c2 b2;obtain ⟨t2,r2⟩:=x2;simp only at c2 b2
 cases t2 with
 | false =>
  rw [Zya] at hP;refine Z1f @Z0a ?_;refine Zaa hG (c1) (gx:=gx) fun gx1=>?_;refine Zu ?_;refine Zsf @Z0a ?_;refine Zaa hG (c2) (gx:=gx1) fun gx2=>?_;refine Zu ?_;refine Ze rfl (fun h19=>?_) (fun h19=>?_)
  ·refine Z ?_
   rw [hP];exact ⟨rfl,gx2,zr,zr⟩
  ·cases h19
 | true =>
 rw [Z6] at hP;have hr2:=(b2.2.1 rfl).ok ha;have e2:=b2.2.2 rfl
 have h2n:r2.nodes=a.nodes:=by rw [e2]<;>rfl
 have h2l:r2.last=a.last:=by rw [e2]<;>rfl
 have h2i:r2.i=a.i+1:=by rw [e2]<;>rfl
 have c3:=hin.lev 1 r2 (by decide) (by decide) (by omega) hr2;have b3:=hb 1 r2;generalize inner 1 r2=x3 at hP c3 b3;obtain ⟨t3,b⟩:=x3;simp only at c3 b3;have hbo:=b3.ok hr2;have hbu:r2.i≤b.i:=b3.up
 have hbi:b.i<1000000:=by have:=hbo.1;omega
 have hbn:b.nodes.length<1000000:=by have:=hbo.1;have:=hbo.2;omega
 refine Z1f @Z0a ?_;refine Zaa hG (c1) (gx:=gx) fun gx1=>?_;refine Zu ?_;refine Zsf @Z0a ?_;refine Zaa hG (c2) (gx:=gx1) fun gx2=>?_;refine Zu ?_;refine Z1f @Z0a ?_
 have h2nn:r2.nodes.length<1000000:=by rw [h2n];exact han
 refine Zaa hG (Zlf G hG sl g r2 h2nn) (gx:=gx2) fun gx3=>?_;refine Zu ?_;rw [h2l];refine Z5 ?_
 cases t3 with
 | false =>
  rw [Zya] at hP;refine Z1f @Z0a ?_;refine Zaa hG (c3) (gx:=gx3) fun gx4=>?_;refine Zu ?_;refine Ze rfl (fun h29=>?_) (fun h29=>?_)
  ·refine Z ?_
   rw [hP];exact ⟨rfl,gx4,zr,zr⟩
  ·cases h29
 | true =>
 rw [Z6] at hP;have c4:=Zmj G hG sl hT g b hbi Z5j;have b4:=Zku sl.l (w:=Z5j) (by decide +kernel) b;generalize Ziq sl.l Z5j b=x4 at hP c4 b4;obtain ⟨t4,r3⟩:=x4;simp only at c4 b4
 cases t4 with
 | false =>
  rw [Zya] at hP;refine Z1f @Z0a ?_;refine Zaa hG (c3) (gx:=gx3) fun gx4=>?_;refine Zu ?_;refine Zsf @Z0a ?_;refine Zaa hG (c4) (gx:=gx4) fun gx5=>?_;refine Zu ?_;refine Ze rfl (fun h29=>?_) (fun h29=>?_)
  ·refine Z ?_
   rw [hP];exact ⟨rfl,gx5,zr,zr⟩
  ·cases h29
 | true =>
 rw [Z6] at hP;have hr3:=(b4.2.1 rfl).ok hbo;have e3:=b4.2.2 rfl
 have h3n:r3.nodes=b.nodes:=by rw [e3]<;>rfl
 have h3l:r3.last=b.last:=by rw [e3]<;>rfl
 have h3i:r3.i=b.i+1:=by rw [e3]<;>rfl
 have c5:=hin.lev 1 r3 (by decide) (by decide) (by omega) hr3;have b5:=hb 1 r3;generalize inner 1 r3=x5 at hP c5 b5;obtain ⟨t5,c⟩:=x5;simp only at c5 b5;have hco:=b5.ok hr3
 have hci:c.i<1000000:=by have:=hco.1;omega
 refine Z1f @Z0a ?_;refine Zaa hG (c3) (gx:=gx3) fun gx4=>?_;refine Zu ?_;refine Zsf @Z0a ?_;refine Zaa hG (c4) (gx:=gx4) fun gx5=>?_;refine Zu ?_;refine Z1f @Z0a ?_
 have h3nn:r3.nodes.length<1000000:=by rw [h3n];exact hbn
 refine Zaa hG (Zlf G hG sl g r3 h3nn) (gx:=gx5) fun gx6=>?_;refine Zu ?_;rw [h3l]
 cases t5 with
 | false =>
  rw [Zya] at hP;refine Z1f @Z0a ?_;refine Zaa hG (c5) (gx:=gx6) fun gx7=>?_;refine Zu ?_;refine Z ?_;rw [hP];exact ⟨rfl,gx7,zr,zr⟩
 | true =>
 rw [Z6] at hP;have c6:=Zmj G hG sl hT g c hci Zyf;have b6:=Zku sl.l (w:=Zyf) (by decide +kernel) c;generalize Ziq sl.l Zyf c=x6 at hP c6 b6;obtain ⟨t6,r4⟩:=x6;simp only at c6 b6
 cases t6 with
 | false =>
  rw [Zya] at hP;refine Z1f @Z0a ?_;refine Zaa hG (c5) (gx:=gx6) fun gx7=>?_;refine Zu ?_;refine Zsf @Z0a ?_;refine Zaa hG (c6) (gx:=gx7) fun gx8=>?_;refine Zu ?_;refine Z ?_;rw [hP];exact ⟨rfl,gx8,zr,zr⟩
 | true =>
 rw [Z6] at hP;have hr4:=(b6.2.1 rfl).ok hco;have e4:=b6.2.2 rfl
 have h4l:r4.last=c.last:=by rw [e4]<;>rfl
 have h4n:r4.nodes.length<1000000:=by have:=hr4.1;have:=hr4.2;omega
 refine Z1f @Z0a ?_;refine Zaa hG (c5) (gx:=gx6) fun gx7=>?_;refine Zu ?_;refine Zsf @Z0a ?_;refine Zaa hG (c6) (gx:=gx7) fun gx8=>?_;refine Zu ?_;refine Zsf @Z0a ?_;refine Zaa hG (Zlf G hG sl g r4 h4n) (gx:=gx8) fun gx9=>?_;refine Zu ?_;rw [h4l];refine Zsf @Z0a ?_;rw [← Zp ⟨22,0,[],a.last,b.last,c.last⟩];refine Zaa hG (Zij G hG sl g r4 h4n ⟨22,0,[],a.last,b.last,c.last⟩) (gx:=gx9) fun gxa=>?_;refine Zu ?_;refine Z ?_;rw [hP];exact ⟨rfl,gxa,zr,zr⟩
theorem Z1t (G:Nat→V) (hG:GOk G) (sl:Sl Tk) (hT:TkOk sl.l) (g:Nat) (r:RS) (hr:Zrm sl.l r) (inner:Inner) (hin:InnR G sl g inner r.i) (hb:Bals sl.l inner) :
  RdS 1012 [] G 170 [] sl g r (.bool (Z6x sl.l inner r).1) (Z6x sl.l inner r).2:=by
 have hTl:=hT.len
 have hri:r.i<1000000:=by have:=hr.1;omega
 have hrn:r.nodes.length<1000000:=by have:=hr.2;omega
 have hw:IntKind.i64.wrap ((r.i:Int)+1)=((r.i+1:Nat):Int):=by rw [w64 (by omega) (by omega)];omega
 intro gx;refine Zo 1000 83 [.tmp 2] Tryz.func170 fun X=>?_
 have hP:Z6x sl.l inner r=if (Z7 sl.l r.i).text=[40] then andThen (inner 1 r.adv) (Ziq sl.l [41])
  else if (Z7 sl.l r.i).text=wIf then Z4e sl.l inner r
  else if (Z7 sl.l r.i).text=[116,114,117,101] then Z1g r 3 0 []
  else if (Z7 sl.l r.i).text=[102,97,108,115,101] then Z1g r 4 0 []
  else if (Z7 sl.l r.i).text≠[]∧(Z7 sl.l r.i).kind=1 then Zsk r (Z7 sl.l r.i).text
  else if (Z7 sl.l r.i).text≠[]∧(Z7 sl.l r.i).kind=2 then Z1g r 2 0 (Z7 sl.l r.i).text
  else (false,r.err 80):=rfl
 have htl:=Z6ca hT r.i;have hbr:=fun h=>Zur G hG sl hT g r hr h inner hin hb
 have hne:(Z7 sl.l r.i).text≠[]→∃ t,sl.l[r.i]? = some t∧Z7 sl.l r.i=t∧r.i<sl.l.length:=by
  intro h;unfold Z7 at h ⊢
  cases hg:sl.l[r.i]? with
  | none=>rw [hg] at h;exact absurd rfl h
  | some t =>
   rw [hg] at h;simp only at h
   split at h
   ·rename_i q
    refine ⟨t,rfl,?_,(List.getElem?_eq_some_iff.1 hg).1⟩;simp only;rw [if_pos q]
   ·exact absurd rfl h
 have hadv:(Z7 sl.l r.i).text≠[]→Zrm sl.l r.adv:=fun h=>by
  obtain ⟨t,_,_,q⟩:=hne h;exact (Bal.adv q).ok hr
 generalize Z6x sl.l inner r=res at hP ⊢;refine Z1 ?_;refine Z1 ?_;refine Zaa hG (Zjj G hG sl hT g r hri) (gx:=gx) fun gx1=>?_;refine Zu ?_;generalize Z7 sl.l r.i=t at hP htl hadv hne ⊢;obtain ⟨k,t,p⟩:=t;simp only at hP htl hadv hne;refine Zha (fun (_:Unit)=>st [(0,.ptr 8 g 0)] [(8,rdO 1012 [] sl g gx1 r),(1012,ndO gx1 r.nodes)]) (fun _=>res=(false,r.err 80)) (fun K1 hK1=>?_) ?_;rotate_left
 ·intro _ hP
  refine Zf @Z0a ?_;rw [hP];exact ⟨rfl,gx1,zr,zr⟩
 refine AW.block ?_
 by_cases c1:t=[40]
 ·have e1:(t==[40])=true:=by simpa using c1
  have htn:t≠[]:=by rw [c1];simp
  rw [if_pos c1] at hP;have hc:=hin.lev 1 r.adv (by decide) (by decide) (Nat.lt_succ_self _) (hadv htn);have hbl:=(hb 1 r.adv).ok (hadv htn);generalize inner 1 r.adv=x at hc hP hbl;obtain ⟨b,a⟩:=x;simp only at hc hbl
  have hai:a.i<1000000:=by have:=hbl.1;omega
  refine Z1f e1 ?_;refine Z1f (zi @Z0a hw) ?_
  cases b with
  | false =>
   rw [Zya] at hP;refine Z1f @Z0a ?_;refine Zaa hG (hc) (gx:=gx1) fun gx2=>?_;refine Zu ?_;refine Z ?_;rw [hP];exact ⟨rfl,gx2,zr,zr⟩
  | true =>
   rw [Z6] at hP;refine Z1f @Z0a ?_;refine Zaa hG (hc) (gx:=gx1) fun gx2=>?_;refine Zu ?_;refine Zsf @Z0a ?_;refine Zaa hG (Zmj G hG sl hT g a hai [41]) (gx:=gx2) fun gx3=>?_;refine Zu ?_;generalize Ziq sl.l [41] a=y at hP ⊢;obtain ⟨b,a2⟩:=y
   cases b with
   | true =>
    refine Zs ?_;refine Z ?_;rw [hP];exact ⟨rfl,gx3,zr,zr⟩
   | false =>
    refine Zs ?_;refine Z ?_;rw [hP];exact ⟨rfl,gx3,zr,zr⟩
 have e1:(t==[40])=false:=by simpa using c1
 rw [if_neg c1] at hP;refine Z1f e1 ?_;refine Zkc rfl ?_
 try clear h2
 by_cases c2:t=wIf
 ·have e2:(t==[105,102])=true:=by rw [c2]<;>rfl
  have htn:t≠[]:=by rw [c2];decide
  obtain ⟨_,_,_,hlt⟩:=hne htn;rw [if_pos c2] at hP;refine Z1f e2 ?_;refine Z1 ?_;refine Zaa hG (hbr hlt) (gx:=gx1) fun gx2=>?_;refine Zu ?_;refine Z ?_;rw [hP];exact ⟨rfl,gx2,zr,zr⟩
 have e2:(t==[105,102])=false:=by rw [beq_eq_false_iff_ne];exact c2
 rw [if_neg c2] at hP;refine Z1f e2 ?_;refine Zkc rfl ?_
 try clear h2
 by_cases c3:t=[116,114,117,101]
 ·have e3:(t==[116,114,117,101])=true:=by simpa using c3
  rw [if_pos c3] at hP;refine Z1f e3 ?_;refine Z1 ?_;rw [← Zp ⟨3,0,[],0,0,0⟩];refine Zaa hG (Zkj G hG sl g r hri hrn 3 0 [] 0 0 0) (gx:=gx1) fun gx2=>?_;refine Zu ?_;refine Z ?_;rw [hP];exact ⟨rfl,gx2,zr,zr⟩
 have e3:(t==[116,114,117,101])=false:=by simpa using c3
 rw [if_neg c3] at hP;refine Z1f e3 ?_;refine Zkc rfl ?_
 try clear h2
 by_cases c4:t=[102,97,108,115,101]
 ·have e4:(t==[102,97,108,115,101])=true:=by simpa using c4
  rw [if_pos c4] at hP;refine Z1f e4 ?_;refine Z1 ?_;rw [← Zp ⟨4,0,[],0,0,0⟩];refine Zaa hG (Zkj G hG sl g r hri hrn 4 0 [] 0 0 0) (gx:=gx1) fun gx2=>?_;refine Zu ?_;refine Z ?_;rw [hP];exact ⟨rfl,gx2,zr,zr⟩
 have e4:(t==[102,97,108,115,101])=false:=by simpa using c4
 rw [if_neg c4] at hP;refine Z1f e4 ?_;refine Zkc rfl ?_
 try clear h2
 by_cases c5:t=[]
 ·have e5:(t==[])=true:=by rw [c5]<;>rfl
  rw [if_neg (fun h=>h.1 c5),if_neg (fun h=>h.1 c5)] at hP;refine ZTf e5 hG ?_;refine Zkc rfl ?_
  try clear h2
  refine ZTf e5 hG ?_;refine Z0 ?_;exact hK1 _ () hP (Zb zp zp)
 have e5:(t==[])=false:=by simpa using c5
 obtain ⟨t0,hg,ht0,hlt⟩:=hne c5
 have hgk:sl.l[r.i]? = some ⟨k,t,p⟩:=by rw [hg,ht0]
 by_cases k1:k=1
 ·have q1:(k==1)=true:=by simpa using k1
  rw [if_pos ⟨c5,k1⟩] at hP;refine ZTf (zi e5 (zi @Z0a (zi hgk (zi @Z3b q1)))) hG ?_;refine Z1f @Z0a ?_;refine Zaa hG (Z3x G hG sl g r hri hrn t htl) (gx:=gx1) fun gx2=>?_;refine Zu ?_;refine Z ?_;rw [hP];exact ⟨rfl,gx2,zr,zr⟩
 have q1:(k==1)=false:=by simpa using k1
 rw [if_neg (fun h=>k1 h.2)] at hP;refine ZTf (zi e5 (zi @Z0a (zi hgk (zi @Z3b q1)))) hG ?_;refine Zkc rfl ?_
 try clear h2
 by_cases k2:k=2
 ·have q2:(k==2)=true:=by simpa using k2
  rw [if_pos ⟨c5,k2⟩] at hP;refine ZTf (zi e5 (zi @Z0a (zi hgk (zi @Z3b q2)))) hG ?_;refine Z1f @Z0a ?_;rw [← Zp ⟨2,0,t,0,0,0⟩];refine Zaa hG (Zkj G hG sl g r hri hrn 2 0 t 0 0 0) (gx:=gx1) fun gx2=>?_;refine Zu ?_;refine Z ?_;rw [hP];exact ⟨rfl,gx2,zr,zr⟩
 have q2:(k==2)=false:=by simpa using k2
 rw [if_neg (fun h=>k2 h.2)] at hP;refine ZTf (zi e5 (zi @Z0a (zi hgk (zi @Z3b q2)))) hG ?_;refine Z0 ?_;exact hK1 _ () hP (Zb zp (zpf @Z0a))
end Go.Hs
end

section
namespace Go.Hs
inductive X where
 | leaf (op num:Int) (name:List UInt8)
 | un (op:Int) (a:X)
 | bin (op:Int) (a b:X)
 | ite (a b c:X)
 deriving DecidableEq,Inhabited
namespace X
def size:X→Nat
 | leaf .. => 1
 | un _ a=>a.size+1
 | bin _ a b=>a.size+b.size+1
 | ite a b c=>a.size+b.size+c.size+1
def depth:X→Nat
 | leaf .. => 1
 | un _ a=>a.depth+1
 | bin _ a b=>max a.depth b.depth+1
 | ite a b c=>max (max a.depth b.depth) c.depth+1
end X
def Zod (n:XN):Bool :=
 if n.op<1∨n.op > 22∨n.num<0 then false else if n.op=2 then n.num==0 && isP n.name==2 else n.name==[] && (n.op==1 || n.num==0)
namespace X
def ok:X→Bool
 | leaf op num name=>Zod ⟨op,num,name,-1,-1,-1⟩ && decide (op≤4)
 | un op a=>decide (5≤op) && decide (op≤6) && a.ok
 | bin op a b=>decide (7≤op) && decide (op≤21) && a.ok && b.ok
 | ite a b c=>a.ok && b.ok && c.ok
def row:X→Int→List XN
 | leaf op num name,_=>[⟨op,num,name,-1,-1,-1⟩]
 | un op a,k=>a.row k++[⟨op,0,[],k+a.size-1,-1,-1⟩]
 | bin op a b,k=>a.row k++b.row (k+a.size)++[⟨op,0,[],k+a.size-1,k+a.size+b.size-1,-1⟩]
 | ite a b c,k=>a.row k++b.row (k+a.size)++c.row (k+a.size+b.size)++[⟨22,0,[],k+a.size-1,k+a.size+b.size-1,k+a.size+b.size+c.size-1⟩]
theorem row_len:∀ (x:X) (k:Int),(x.row k).length=x.size
 | leaf ..,_=>rfl
 | un _ a,k=>by simp [row,size,row_len a]
 | bin _ a b,k=>by simp [row,size,row_len a,row_len b];omega
 | ite a b c,k=>by simp [row,size,row_len a,row_len b,row_len c];omega
theorem size_pos:∀ x:X,0<x.size
 | leaf .. => by simp [size]
 | un .. => by simp [size]
 | bin .. => by simp [size]
 | ite .. => by simp [size]
def top:X→Int→XN
 | leaf op num name,_=>⟨op,num,name,-1,-1,-1⟩
 | un op a,k=>⟨op,0,[],k+a.size-1,-1,-1⟩
 | bin op a b,k=>⟨op,0,[],k+a.size-1,k+a.size+b.size-1,-1⟩
 | ite a b c,k=>⟨22,0,[],k+a.size-1,k+a.size+b.size-1,k+a.size+b.size+c.size-1⟩
end X
theorem Zqh {op:Int} (h:3≤op∧op≤22) (a b c:Int):Zod ⟨op,0,[],a,b,c⟩=true:=by
 unfold Zod;rw [if_neg (by simp;omega),if_neg (by simp;omega)];simp
theorem Zd3 {n:XN} (h:Zod n=true) (h3:n.op≠1):n.num=0∧(n.op≠2→n.name=[])∧1≤n.op∧n.op≤22:=by
 unfold Zod at h
 split at h
 ·cases h
 ·rename_i h0
  simp only [not_or,Int.not_lt] at h0
  split at h
  ·rename_i h2
   simp only [Bool.and_eq_true,beq_iff_eq] at h;exact ⟨h.1,fun hh=>absurd h2 hh,by omega,by omega⟩
  ·simp only [Bool.and_eq_true,beq_iff_eq,Bool.or_eq_true] at h
   exact ⟨h.2.resolve_left h3,fun _=>h.1,by omega,by omega⟩
theorem Zke {n:XN} (h:Zod n=true):1≤n.op∧n.op≤22:=by
 unfold Zod at h
 split at h
 ·cases h
 ·rename_i h0
  simp only [not_or,Int.not_lt] at h0;omega
def Zw (op:Int):Nat:=if op≤4 then 0 else if op≤6 then 1 else if op≤21 then 2 else 3
def Zcc (l:List (Int × Int)):List Int:=[(l.map (·.1)).getD 0 (-1),(l.map (·.1)).getD 1 (-1),(l.map (·.1)).getD 2 (-1)]
def Zjc (l:List (Int × Int)):Int:=l.foldl (fun d p=>max d p.2) 0
def Z2d (i:Int) (n:XN) (opn:List (Int × Int)):Option (List (Int × Int)) :=
 if Zod n=false then none else if opn.length<Zw n.op then none
 else if Zcc (opn.drop (opn.length-Zw n.op))≠[n.a,n.b,n.c] then none
 else some (opn.take (opn.length-Zw n.op)++[(i,Zjc (opn.drop (opn.length-Zw n.op))+1)])
def Zee:List XN→Int→List (Int × Int)→Option (List (Int × Int))
 | [],_,opn=>some opn
 | n::r,i,opn=>match Z2d i n opn with
  | some o=>Zee r (i+1) o
  | none=>none
def Znb (l:List XN):Int:=match Zee l 0 [] with
 | some [x]=>x.2
 | _=>0
def Ztr:Int→List X→List XN
 | _,[]=>[]
 | k,x::r=>x.row k++Ztr (k+x.size) r
def Z0f (F:List X):Nat:=(F.map X.size).sum
def Z4b:Int→List X→List (Int × Int)
 | _,[]=>[]
 | k,x::r=>(k+x.size-1,(x.depth:Int))::Z4b (k+x.size) r
theorem Zwm (x:X) (r:List X):Z0f (x::r)=x.size+Z0f r:=by simp [Z0f]
theorem Z77 (a b:List X):Z0f (a++b)=Z0f a+Z0f b:=by simp [Z0f]
theorem Zyt:∀ (a b:List X) (k:Int),Ztr k (a++b)=Ztr k a++Ztr (k+Z0f a) b
 | [],b,k=>by simp [Ztr,Z0f]
 | x::a,b,k=>by
  rw [List.cons_append,Ztr,Ztr,Zyt a b,List.append_assoc,Zwm]
  congr 3;omega
theorem Zoj:∀ (a b:List X) (k:Int),Z4b k (a++b)=Z4b k a++Z4b (k+Z0f a) b
 | [],b,k=>by simp [Z4b,Z0f]
 | x::a,b,k=>by
  rw [List.cons_append,Z4b,Z4b,Zoj a b,List.cons_append,Zwm]
  congr 3;omega
theorem Znj:∀ (F:List X) (k:Int),(Z4b k F).length=F.length
 | [],_=>rfl
 | x::r,k=>by simp [Z4b,Znj r]
theorem Zko:∀ (F:List X) (k:Int),(Ztr k F).length=Z0f F
 | [],_=>rfl
 | x::r,k=>by rw [Ztr,List.length_append,X.row_len,Zko r,Zwm]
theorem Zb5 {F:List X} {p:Nat} (h:p≤F.length):∃ A B,F=A++B∧B.length=p:=⟨F.take (F.length-p),F.drop (F.length-p),(List.take_append_drop _ _).symm,by simp;omega⟩
theorem Zwy {F:List X} {n:XN} {o:List (Int × Int)} (hF:∀ x∈F,x.ok=true) (h:Z2d (Z0f F) n (Z4b 0 F)=some o) :
  ∃ F',(∀ x∈F',x.ok=true)∧Ztr 0 F'=Ztr 0 F++[n]∧o=Z4b 0 F':=by
 unfold Z2d at h;rw [Znj] at h
 split at h
 ·cases h
 rename_i hw
 have hw:Zod n=true:=by simpa using hw
 have hrg:=Zke hw
 split at h
 ·cases h
 rename_i hlen;obtain ⟨A,B,rfl,hB⟩:=Zb5 (F:=F) (p:=Zw n.op) (by omega)
 have hAl:(A++B).length-Zw n.op=A.length:=by rw [List.length_append,hB];omega
 have hdrop:(Z4b 0 (A++B)).drop A.length=Z4b (Z0f A) B:=by
  rw [Zoj,List.drop_left' (Znj _ _),Int.zero_add]
 have htake:(Z4b 0 (A++B)).take A.length=Z4b 0 A:=by
  rw [Zoj,List.take_left' (Znj _ _)]
 rw [hAl,hdrop,htake] at h
 split at h
 ·cases h
 rename_i hpl;simp only [ne_eq,Decidable.not_not] at hpl;simp only [Option.some.injEq] at h;have hokA:∀ x∈A,x.ok=true:=fun x hx=>hF x (by simp [hx])
 have fin:∀ x:X,x.ok=true→x.row (Z0f A)=Ztr (Z0f A) B++[n]→(x.depth:Int)=Zjc (Z4b (Z0f A) B)+1 →
   ∃ F',(∀ x∈F',x.ok=true)∧Ztr 0 F'=Ztr 0 (A++B)++[n]∧o=Z4b 0 F':=by
  intro x hx hr hd;refine ⟨A++[x],fun y hy=>?_,?_,?_⟩
  ·rcases List.mem_append.1 hy with h1 | h1
   ·exact hokA y h1
   ·rw [List.mem_singleton.1 h1];exact hx
  ·rw [Zyt,Zyt,List.append_assoc,Int.zero_add,← hr]
   simp [Ztr]
  ·rw [← h,Zoj,Z4b,Z4b,hd]
   have h1:(x.row (Z0f A)).length=x.size:=X.row_len _ _;rw [hr,List.length_append,Zko,List.length_singleton] at h1;rw [Z77]
   congr 4
   omega
 obtain ⟨op,num,name,a,b,c⟩:=n;simp only at hB hpl hrg;unfold Zw at hB
 split at hB
 ·rename_i h4
  obtain rfl:B=[]:=List.length_eq_zero_iff.1 hB;simp only [Zcc,Z4b,List.map_nil,List.getD_nil,List.cons.injEq,and_true] at hpl;obtain ⟨rfl,rfl,rfl⟩:=hpl;exact fin (.leaf op num name) (by unfold X.ok;rw [hw];simp;omega) rfl rfl
 rename_i h4;have hn:=Zd3 hw (show op≠1 by omega);simp only at hn;obtain ⟨rfl,hnm,_⟩:=hn;obtain rfl:=hnm (by omega)
 split at hB
 ·rename_i h6
  obtain ⟨x,rfl⟩:=List.length_eq_one_iff.1 hB
  ·simp only [Zcc,Z4b,List.map_cons,List.map_nil,List.getD_cons_zero,List.getD_cons_succ,List.getD_nil,List.cons.injEq,and_true] at hpl
   obtain ⟨rfl,rfl,rfl⟩:=hpl;refine fin (.un op x) (by unfold X.ok;rw [hF x (by simp)];simp;omega) ?_ ?_
   ·simp [X.row,Ztr]
   ·simp [X.depth,Z4b,Zjc]
 rename_i h6
 split at hB
 ·rename_i h21
  obtain ⟨x,y,rfl⟩:∃ x y,B=[x,y]:=by
   match B,hB with
   | [x,y],_=>exact ⟨x,y,rfl⟩
  ·simp only [Zcc,Z4b,List.map_cons,List.map_nil,List.getD_cons_zero,List.getD_cons_succ,List.getD_nil,List.cons.injEq,and_true] at hpl
   obtain ⟨rfl,rfl,rfl⟩:=hpl;refine fin (.bin op x y) (by unfold X.ok;rw [hF x (by simp),hF y (by simp)];simp;omega) ?_ ?_
   ·simp [X.row,Ztr]
   ·simp [X.depth,Z4b,Zjc];omega
 ·rename_i h21
  obtain ⟨x,y,z,rfl⟩:∃ x y z,B=[x,y,z]:=by
   match B,hB with
   | [x,y,z],_=>exact ⟨x,y,z,rfl⟩
  ·simp only [Zcc,Z4b,List.map_cons,List.map_nil,List.getD_cons_zero,List.getD_cons_succ,List.cons.injEq,and_true] at hpl
   obtain ⟨rfl,rfl,rfl⟩:=hpl
   obtain rfl:op=22:=by omega
   refine fin (.ite x y z) (by unfold X.ok;rw [hF x (by simp),hF y (by simp),hF z (by simp)];rfl) ?_ ?_
   ·simp [X.row,Ztr]
   ·simp [X.depth,Z4b,Zjc];omega
theorem Z5s:∀ (l:List XN) (F:List X) (opn:List (Int × Int)),(∀ x∈F,x.ok=true)→Zee l (Z0f F) (Z4b 0 F)=some opn →
  ∃ F',(∀ x∈F',x.ok=true)∧Ztr 0 F'=Ztr 0 F++l∧opn=Z4b 0 F'
 | [],F,opn,hF,h=>⟨F,hF,by simp,by simpa [Zee] using h.symm⟩
 | n::r,F,opn,hF,h=>by
  rw [Zee] at h
  cases hs:Z2d (Z0f F) n (Z4b 0 F) with
  | none=>rw [hs] at h;cases h
  | some o =>
   rw [hs] at h;obtain ⟨F1,h1,h2,rfl⟩:=Zwy hF hs
   have hsz:(Z0f F:Int)+1=Z0f F1:=by
    have:=congrArg List.length h2;rw [List.length_append,Zko,Zko,List.length_singleton] at this;omega
   simp only at h;rw [hsz] at h;obtain ⟨F',h3,h4,h5⟩:=Z5s r F1 opn h1 h;exact ⟨F',h3,by rw [h4,h2];simp,h5⟩
theorem Zgg:∀ (l m:List XN) (i:Int) (opn:List (Int × Int)),Zee (l++m) i opn=(Zee l i opn).bind fun o=>Zee m (i+l.length) o
 | [],m,i,opn=>by simp [Zee]
 | n::r,m,i,opn=>by
  rw [List.cons_append,Zee,Zee]
  cases Z2d i n opn with
  | none=>rfl
  | some o =>
   simp only;rw [Zgg r m]
   congr 1;funext o'
   congr 1
   simp only [List.length_cons];omega
theorem Zfg:∀ (x:X) (k:Int) (opn:List (Int × Int)),x.ok=true→Zee (x.row k) k opn=some (opn++[(k+x.size-1,(x.depth:Int))])
 | .leaf op num name,k,opn,h=>by
  unfold X.ok at h;simp only [Bool.and_eq_true,decide_eq_true_eq] at h;simp only [X.row,Zee]
  have hs:Z2d k ⟨op,num,name,-1,-1,-1⟩ opn=some (opn++[(k,1)]):=by
   unfold Z2d;rw [if_neg (by rw [h.1];simp)]
   have:Zw op=0:=by unfold Zw;rw [if_pos h.2]
   rw [this,if_neg (by omega),Nat.sub_zero,List.drop_length,List.take_length];rfl
  rw [hs];simp [Zee,X.size,X.depth]
 | .un op a,k,opn,h=>by
  unfold X.ok at h;simp only [Bool.and_eq_true,decide_eq_true_eq] at h;rw [X.row,Zgg,Zfg a k opn h.2,Option.bind_some,X.row_len,Zee]
  have hp:Zw op=1:=by unfold Zw;rw [if_neg (by omega),if_pos (by omega)]
  have hs:Z2d (k+a.size) ⟨op,0,[],k+a.size-1,-1,-1⟩ (opn++[(k+a.size-1,(a.depth:Int))])=some (opn++[(k+a.size,(a.depth:Int)+1)]):=by
   unfold Z2d
   have hl:(opn++[(k+(a.size:Int)-1,(a.depth:Int))]).length-1=opn.length:=by simp
   rw [if_neg (by rw [Zqh (by omega)];simp)];simp only [hp];rw [if_neg (by simp),hl,List.drop_left,List.take_left,if_neg (by simp [Zcc])]
   congr 4
   all_goals first | (simp [Zjc];done) | (simp [Zjc];omega)
  rw [hs];simp only [Zee,X.size,X.depth]
  congr 4
  all_goals first | (simp;done) | (simp;omega) | omega
 | .bin op a b,k,opn,h=>by
  unfold X.ok at h;simp only [Bool.and_eq_true,decide_eq_true_eq] at h;rw [X.row,Zgg,Zgg,Zfg a k opn h.1.2,Option.bind_some,X.row_len,Zfg b _ _ h.2,Option.bind_some,Zee]
  have hp:Zw op=2:=by unfold Zw;rw [if_neg (by omega),if_neg (by omega),if_pos (by omega)]
  have hlen:((a.row k++b.row (k+a.size)).length:Int)=a.size+b.size:=by rw [List.length_append,X.row_len,X.row_len];omega
  rw [hlen]
  have hs:Z2d (k+(a.size+b.size)) ⟨op,0,[],k+a.size-1,k+a.size+b.size-1,-1⟩ (opn++[(k+a.size-1,(a.depth:Int))]++[(k+a.size+b.size-1,(b.depth:Int))])=some (opn++[(k+(a.size+b.size),max (a.depth:Int) b.depth+1)]):=by
   unfold Z2d
   have hl:(opn++[(k+(a.size:Int)-1,(a.depth:Int))]++[(k+a.size+b.size-1,(b.depth:Int))]).length-2=opn.length:=by simp
   rw [if_neg (by rw [Zqh (by omega)];simp)];simp only [hp];rw [if_neg (by simp),hl,List.append_assoc,List.drop_left,List.take_left,if_neg (by simp [Zcc])]
   congr 4
   all_goals first | (simp [Zjc];done) | (simp [Zjc];omega)
  rw [hs];simp only [Zee,X.size,X.depth]
  congr 4
  all_goals first | (simp;done) | (simp;omega) | omega
 | .ite a b c,k,opn,h=>by
  unfold X.ok at h;simp only [Bool.and_eq_true] at h;rw [X.row,Zgg,Zgg,Zgg,Zfg a k opn h.1.1,Option.bind_some,X.row_len,Zfg b _ _ h.1.2,Option.bind_some]
  have hlen1:k+((a.row k++b.row (k+a.size)).length:Int)=k+a.size+b.size:=by rw [List.length_append,X.row_len,X.row_len];omega
  rw [hlen1,Zfg c _ _ h.2,Option.bind_some,Zee]
  have hlen:((a.row k++b.row (k+a.size)++c.row (k+a.size+b.size)).length:Int)=a.size+b.size+c.size:=by simp only [List.length_append,X.row_len];omega
  rw [hlen]
  have hs:Z2d (k+(a.size+b.size+c.size)) ⟨22,0,[],k+a.size-1,k+a.size+b.size-1,k+a.size+b.size+c.size-1⟩ (opn++[(k+a.size-1,(a.depth:Int))]++[(k+a.size+b.size-1,(b.depth:Int))]++[(k+a.size+b.size+c.size-1,(c.depth:Int))])=some (opn++[(k+(a.size+b.size+c.size),max (max (a.depth:Int) b.depth) c.depth+1)]):=by
   unfold Z2d;have hp:Zw 22=3:=rfl
   have hl:(opn++[(k+(a.size:Int)-1,(a.depth:Int))]++[(k+a.size+b.size-1,(b.depth:Int))]++[(k+a.size+b.size+c.size-1,(c.depth:Int))]).length-3=opn.length:=by simp
   rw [if_neg (by rw [Zqh (by omega)];simp)];simp only [hp];rw [if_neg (by simp),hl,List.append_assoc,List.append_assoc,List.drop_left,List.take_left,if_neg (by simp [Zcc])]
   congr 4
   all_goals first | (simp [Zjc];done) | (simp [Zjc];omega)
  rw [hs];simp only [Zee,X.size,X.depth]
  congr 4
  all_goals first | (simp;done) | (simp;omega) | omega
theorem Zgm {x:X} (h:x.ok=true):Znb (x.row 0)=x.depth:=by
 unfold Znb;rw [Zfg x 0 [] h];rfl
theorem Zin {l:List XN} (h:Znb l≠0):∃ x:X,x.ok=true∧l=x.row 0:=by
 unfold Znb at h
 split at h
 ·rename_i y hy
  obtain ⟨F,h1,h2,h3⟩:=Z5s l [] _ (by simp) (by simpa [Z0f,Z4b] using hy)
  match F,h3 with
  | [x],_=>exact ⟨x,h1 x (by simp),by simpa [Ztr] using h2.symm⟩
  | [],h3=>simp [Z4b] at h3
  | _::_::_,h3=>simp [Z4b] at h3
 ·exact absurd rfl h
theorem X.depth_pos:∀ x:X,0<x.depth
 | .leaf .. => by simp [depth]
 | .un .. => by simp [depth]
 | .bin .. => by simp [depth]
 | .ite .. => by simp [depth]
def sgT (op:Nat):List UInt8:=(tabL.getD op ⟨[],0,0⟩).text
def wNot:List UInt8:=[110,111,116]
def wTrue:List UInt8:=[116,114,117,101]
def wFalse:List UInt8:=[102,97,108,115,101]
inductive Gr:Int→List (List UInt8)→X→Prop where
 | num {n:Int} {t:List UInt8} {v:Int}:isP t=1→Z7b (Znd t)=(v,0)→Gr n [t] (.leaf 1 v [])
 | name {n:Int} {t:List UInt8}:isP t=2→Gr n [t] (.leaf 2 0 t)
 | tr {n:Int}:Gr n [wTrue] (.leaf 3 0 [])
 | fa {n:Int}:Gr n [wFalse] (.leaf 4 0 [])
 | neg {n:Int} {ts:List (List UInt8)} {a:X}:n≤9→Gr 9 ts a→Gr n ([45]::ts) (.un 5 a)
 | not {n:Int} {ts:List (List UInt8)} {a:X}:n≤9→Gr 9 ts a→Gr n (wNot::ts) (.un 6 a)
 | par {n:Int} {ts:List (List UInt8)} {a:X}:Gr 1 ts a→Gr n ([40]::(ts++[[41]])) a
 | bin {n:Int} {op:Nat} {ta tb:List (List UInt8)} {a b:X}:7≤op→op≤21→n≤lvl op→Gr (lvl op) ta a→Gr (lvl op+1) tb b→Gr n (ta++sgT op::tb) (.bin op a b)
 | ite {n:Int} {ta tb tc:List (List UInt8)} {a b c:X}:Gr 1 ta a→Gr 1 tb b→Gr 1 tc c→Gr n (wIf::(ta++Z4j::(tb++Z5j::(tc++[Zyf])))) (.ite a b c)
theorem Gr.mono {n m:Int} {ts:List (List UInt8)} {x:X} (h:Gr n ts x) (hm:m≤n):Gr m ts x:=by
 cases h with
 | num h1 h2=>exact .num h1 h2
 | name h1=>exact .name h1
 | tr=>exact .tr
 | fa=>exact .fa
 | neg h1 h2=>exact .neg (by omega) h2
 | not h1 h2=>exact .not (by omega) h2
 | par h1=>exact .par h1
 | bin h1 h2 h3 h4 h5=>exact .bin h1 h2 (by omega) h4 h5
 | ite h1 h2 h3=>exact .ite h1 h2 h3
theorem Zj9:∀ op,7≤op→op≤21→1≤lvl op∧lvl op≤8∧ofI (sgT op) 2=some op∧isP (sgT op)≠0:=by
 have:((List.range 22).all fun op=>decide (7≤op→1≤lvl op∧lvl op≤8∧ofI (sgT op) 2=some op∧isP (sgT op)≠0))=true:=by decide +kernel
 intro op h1 h2;have:=List.all_eq_true.1 this op (List.mem_range.2 (by omega));simp only [decide_eq_true_eq] at this;exact this h1
theorem Gr.pos {n:Int} {ts:List (List UInt8)} {x:X} (h:Gr n ts x):0<ts.length:=by
 cases h<;>simp<;>omega
def Z6g (t:Tk):List UInt8:=if (isP t.text:Int)=t.kind then t.text else []
theorem Z58 {l:List Tk} {i:Nat} {w:List UInt8} (h:(l.map Z6g)[i]? = some w):(Z7 l i).text=w∧(Z7 l i).kind=isP w:=by
 have hk:=Z4h l i
 have:(Z7 l i).text=w:=by
  rw [List.getElem?_map] at h;unfold Z7
  cases hg:l[i]? with
  | none=>rw [hg] at h;cases h
  | some t =>
   rw [hg] at h;simp only [Option.map_some,Option.some.injEq] at h;simp only;rw [← h];unfold Z6g
   split<;>rfl
 exact ⟨this,by rw [← hk,this]⟩
theorem Z68 {l:List Tk} {i:Nat} (h:i<l.length):(l.map Z6g)[i]? = some (Z7 l i).text:=by
 have hg:(l.map Z6g)[i]? = some (Z6g l[i]):=by rw [List.getElem?_map,List.getElem?_eq_getElem h];rfl
 rw [hg,(Z58 hg).1]
def Seg (l:List Tk) (i:Nat) (ts:List (List UInt8)):Prop:=∃ pre post,l.map Z6g=pre++(ts++post)∧pre.length=i
theorem Seg.left {l:List Tk} {i:Nat} {a b:List (List UInt8)} (h:Seg l i (a++b)):Seg l i a:=by
 obtain ⟨pre,post,e,hp⟩:=h;exact ⟨pre,b++post,by rw [e];simp,hp⟩
theorem Seg.right {l:List Tk} {i:Nat} {a b:List (List UInt8)} (h:Seg l i (a++b)):Seg l (i+a.length) b:=by
 obtain ⟨pre,post,e,hp⟩:=h;exact ⟨pre++a,post,by rw [e];simp,by simp [hp]⟩
theorem Seg.head {l:List Tk} {i:Nat} {w:List UInt8} {b:List (List UInt8)} (h:Seg l i (w::b)):(Z7 l i).text=w∧(Z7 l i).kind=isP w:=by
 obtain ⟨pre,post,e,hp⟩:=h;refine Z58 ?_;rw [e,List.getElem?_append_right (by omega),hp,Nat.sub_self];rfl
theorem Seg.tail {l:List Tk} {i:Nat} {w:List UInt8} {b:List (List UInt8)} (h:Seg l i (w::b)):Seg l (i+1) b:=Seg.right (a:=[w]) h
theorem Seg.le {l:List Tk} {i:Nat} {b:List (List UInt8)} (h:Seg l i b):i+b.length≤l.length:=by
 obtain ⟨pre,post,e,hp⟩:=h;have:=congrArg List.length e;simp only [List.length_map,List.length_append] at this;omega
theorem Seg.app {l:List Tk} {i:Nat} {a b:List (List UInt8)} (h:Seg l i a) (h2:Seg l (i+a.length) b):Seg l i (a++b):=by
 obtain ⟨pre,post,e,hp⟩:=h;obtain ⟨pre2,post2,e2,hp2⟩:=h2;refine ⟨pre,post2,?_,hp⟩;rw [e] at e2
 have h1:pre++(a++post)=(pre++a)++post:=by simp
 rw [h1] at e2;obtain ⟨q1,q2⟩:=List.append_inj e2 (by simp [hp,hp2]);rw [e,q2];simp
theorem Seg.one {l:List Tk} {i:Nat} {w:List UInt8} (hi:i<l.length) (h:(Z7 l i).text=w):Seg l i [w]:=by
 have hg:=Z68 hi;rw [h] at hg;obtain ⟨q1,q2⟩:=List.getElem?_eq_some_iff.1 hg;refine ⟨(l.map Z6g).take i,(l.map Z6g).drop (i+1),?_,?_⟩
 ·rw [← q2,List.singleton_append,← List.drop_eq_getElem_cons q1,List.take_append_drop]
 ·rw [List.length_take];omega
theorem Zws {l:List Tk} {inner:Inner} (h:Mono inner) (n:Int):∀ (m m':Nat) (r:RS),l.length<m+r.i→l.length<m'+r.i→Z8b l inner n m r=Z8b l inner n m' r
 | 0,m',r,h1,_=>by
  cases m' with
  | zero=>rfl
  | succ m' =>
   rw [Z8b,Z8b]
   cases ho:Zdi l r.i with
   | none=>rfl
   | some op=>have:=Z0g ho;omega
 | m+1,0,r,_,h2=>by
  rw [Z8b,Z8b]
  cases ho:Zdi l r.i with
  | none=>rfl
  | some op=>have:=Z0g ho;omega
 | m+1,m'+1,r,h1,h2=>by
  rw [Z8b,Z8b]
  cases ho:Zdi l r.i with
  | none=>rfl
  | some op =>
   simp only
   split
   ·rfl
   ·refine Zxc fun _=>?_
    have h3:r.i+1≤_:=h (lvl op+1) r.adv;exact Zws h n m m' _ (by simp only [Zif];omega) (by simp only [Zif];omega)
def after (r:RS) (k:Nat) (x:X):RS:=⟨r.i+k,r.nodes++x.row r.nodes.length,r.e⟩
theorem Zsc (r:RS) (k:Nat) (x:X):(after r k x).last=(r.nodes.length:Int)+x.size-1:=by
 show (((r.nodes++x.row r.nodes.length).length:Nat):Int)-1=_
 rw [List.length_append,X.row_len];omega
theorem Zgy {l:List Tk} {inner:Inner} {n:Int} {m:Nat} {r:RS} (h:Ends l n r.i):Z8b l inner n m r=(true,r):=by
 cases m with
 | zero=>rfl
 | succ m =>
  rw [Z8b]
  cases ho:Zdi l r.i with
  | none=>rfl
  | some op=>simp only;rw [if_pos (h op ho)]
theorem Zay {l:List Tk} {i:Nat} {w:List UInt8} (h:(Z7 l i).text=w):Zdi l i=ofI w 2:=by rw [Zqj,h]
theorem Zzi {l:List Tk} {i:Nat} {w:List UInt8} (n:Int) (h:(Z7 l i).text=w) (hw:ofI w 2=none):Ends l n i:=by
 intro op ho;rw [Zay h,hw] at ho;cases ho
theorem Zvy {l:List Tk} {r:RS} {w:List UInt8} (h:(Z7 l r.i).text=w∧(Z7 l r.i).kind=isP w) (hw:isP w≠0):Ztf l w r=(true,r.adv):=by
 unfold Ztf;rw [if_neg];rintro (q | q)
 ·rw [h.2] at q;omega
 ·exact q h.1
theorem Gr.climb {l:List Tk} {k:Int} {ts:List (List UInt8)} {x:X} (h:Gr k ts x):∀ (n:Int) (f M:Nat) (r:RS),Seg l r.i ts→n≤k→n≤9→l.length≤f+r.i→l.length<M+r.i →
  (∀ op,Zdi l (r.i+ts.length)=some op→lvl op≤k)→andThen (Z5a l (Z3 l f) r) (Z8b l (Z3 l f) n M)=Z8b l (Z3 l f) n M (after r ts.length x):=by
 have inner:∀ {k:Int} {ts:List (List UInt8)} {x:X},(∀ (n:Int) (f M:Nat) (r:RS),Seg l r.i ts→n≤k→n≤9→l.length≤f+r.i→l.length<M+r.i →
   (∀ op,Zdi l (r.i+ts.length)=some op→lvl op≤k)→andThen (Z5a l (Z3 l f) r) (Z8b l (Z3 l f) n M)=Z8b l (Z3 l f) n M (after r ts.length x)) →
   ∀ (f:Nat) (r:RS),Seg l r.i ts→k≤9→l.length+1≤f+r.i→Ends l k (r.i+ts.length)→Z3 l f k r=(true,after r ts.length x):=by
  intro k ts x ih f r hs hk hf he
  cases f with
  | zero=>have:=hs.le;omega
  | succ f =>
   rw [Z3,ih k f (l.length+1) r hs (Int.le_refl _) hk (by omega) (by omega) (fun op ho=>by have:=he op ho;omega)];exact Zgy he
 have ends9:∀ i,Ends l 9 i:=fun i op ho=>by have:=Zrs ho;omega
 induction h with
 | @num k t v h1 h2 =>
  intro n f M r hs _ _ _ _ _;obtain ⟨e1,e2⟩:=hs.head
  have:Z5a l (Z3 l f) r=(true,after r 1 (.leaf 1 v [])):=by
   unfold Z5a;rw [e2,e1,h1,if_pos (by decide)];unfold Zcd;rw [h2,if_neg (by simp)];rfl
  rw [this];rfl
 | @name k t h1 =>
  intro n f M r hs _ _ _ _ _;obtain ⟨e1,e2⟩:=hs.head
  have:Z5a l (Z3 l f) r=(true,after r 1 (.leaf 2 0 t)):=by
   unfold Z5a;rw [e2,e1,h1,if_neg (by decide),if_pos (by decide)];rfl
  rw [this];rfl
 | @tr k =>
  intro n f M r hs _ _ _ _ _;obtain ⟨e1,e2⟩:=hs.head
  have:Z5a l (Z3 l f) r=(true,after r 1 (.leaf 3 0 [])):=by
   unfold Z5a;rw [e2,e1];rfl
  rw [this];rfl
 | @fa k =>
  intro n f M r hs _ _ _ _ _;obtain ⟨e1,e2⟩:=hs.head
  have:Z5a l (Z3 l f) r=(true,after r 1 (.leaf 4 0 [])):=by
   unfold Z5a;rw [e2,e1];rfl
  rw [this];rfl
 | @neg k ts a h1 h2 ih =>
  intro n f M r hs _ _ hf _ _;obtain ⟨e1,e2⟩:=hs.head;have hc:=inner ih f r.adv hs.tail (Int.le_refl _) (by show _≤f+(r.i+1);omega) (ends9 _)
  have:Z5a l (Z3 l f) r=(true,after r (ts.length+1) (.un 5 a)):=by
   have:Z5a l (Z3 l f) r=andThen (Z3 l f 9 r.adv) fun a=>(true,a.put ⟨5,0,[],a.last,-1,-1⟩):=by
    unfold Z5a;rw [e2,e1];rfl
   rw [this,hc,Z6,Zsc]
   show (true,RS.mk _ _ _)=(true,RS.mk _ _ _)
   congr 2
   ·show r.i+1+ts.length=r.i+(ts.length+1);omega
   ·show (r.nodes++_)++[_]=r.nodes++(_++[_])
    rw [List.append_assoc];rfl
  rw [this];rfl
 | @not k ts a h1 h2 ih =>
  intro n f M r hs _ _ hf _ _;obtain ⟨e1,e2⟩:=hs.head;have hc:=inner ih f r.adv hs.tail (Int.le_refl _) (by show _≤f+(r.i+1);omega) (ends9 _)
  have:Z5a l (Z3 l f) r=(true,after r (ts.length+1) (.un 6 a)):=by
   have:Z5a l (Z3 l f) r=andThen (Z3 l f 9 r.adv) fun a=>(true,a.put ⟨6,0,[],a.last,-1,-1⟩):=by
    unfold Z5a;rw [e2,e1];rfl
   rw [this,hc,Z6,Zsc]
   show (true,RS.mk _ _ _)=(true,RS.mk _ _ _)
   congr 2
   ·show r.i+1+ts.length=r.i+(ts.length+1);omega
   ·show (r.nodes++_)++[_]=r.nodes++(_++[_])
    rw [List.append_assoc];rfl
  rw [this];rfl
 | @par k ts a h1 ih =>
  intro n f M r hs _ _ hf _ _;obtain ⟨e1,e2⟩:=hs.head;have h41:=hs.tail.right.head;have hc:=inner ih f r.adv hs.tail.left (by decide) (by show _≤f+(r.i+1);omega) (Zzi 1 h41.1 (by decide +kernel))
  have:Z5a l (Z3 l f) r=(true,after r (ts.length+2) a):=by
   have:Z5a l (Z3 l f) r=andThen (Z3 l f 1 r.adv) (Ztf l [41]):=by
    unfold Z5a;rw [e2,e1];rfl
   rw [this,hc,Z6,Zvy h41 (by decide +kernel)]
   show (true,RS.mk _ _ _)=(true,RS.mk _ _ _)
   congr 2
   show r.i+1+ts.length+1=r.i+(ts.length+2);omega
  rw [this,Z6]
  congr 1
  show RS.mk _ _ _=RS.mk _ _ _
  congr 1
  simp only [List.length_cons,List.length_append,List.length_nil]
 | @bin k op ta tb a b h1 h2 h3 h4 h5 iha ihb =>
  intro n f M r hs hn hn9 hf hM ho;obtain ⟨l1,l2,l3,l4⟩:=Zj9 op h1 h2;have hso:=hs.right.head
  have hop:Zdi l (r.i+ta.length)=some op:=by rw [Zay hso.1,l3]
  rw [iha n f M r hs.left (by omega) hn9 hf hM (fun op' ho'=>by rw [hop] at ho';cases ho';exact Int.le_refl _)];have hle:=hs.le;simp only [List.length_append,List.length_cons] at hle;obtain ⟨M,rfl⟩:∃ m,M=m+1:=⟨M-1,by omega⟩;rw [Z8b];have:Zdi l (after r ta.length a).i=some op:=hop;rw [this];simp only;rw [if_neg (by omega)]
  have hend:Ends l (lvl op+1) (r.i+ta.length+1+tb.length):=by
   intro op' ho';have:=ho op' (by rw [← ho'];congr 1;simp only [List.length_append,List.length_cons];omega);omega
  have hc:=inner ihb f (after r ta.length a).adv hs.right.tail (by omega) (by show _≤f+(r.i+ta.length+1);omega) hend;rw [hc,Z6,Zsc,Zsc]
  have hL:l.length<M+(r.i+ta.length+1+tb.length):=by omega
  have he:RS.put (after (after r ta.length a).adv tb.length b) ⟨(op:Int),0,[],(r.nodes.length:Int)+a.size-1,((after r ta.length a).adv.nodes.length:Int)+b.size-1,-1⟩=after r (ta++sgT op::tb).length (.bin op a b):=by
   have hl:(after r ta.length a).adv.nodes=r.nodes++a.row r.nodes.length:=rfl
   show RS.mk _ _ _=RS.mk _ _ _
   congr 1
   ·show r.i+ta.length+1+tb.length=r.i+(ta++sgT op::tb).length
    simp only [List.length_append,List.length_cons];omega
   ·show (after r ta.length a).adv.nodes++b.row ((after r ta.length a).adv.nodes.length:Nat)++[_]=_
    rw [hl,List.length_append,X.row_len];simp only [X.row,List.append_assoc,Int.natCast_add]
  rw [he];exact Zws (Zse l f) n M (M+1) _ (by show _<M+(r.i+_);simp only [List.length_append,List.length_cons];omega) (by show _<M+1+(r.i+_);simp only [List.length_append,List.length_cons];omega)
 | @ite k ta tb tc a b c h1 h2 h3 iha ihb ihc =>
  intro n f M r hs _ _ hf _ _;obtain ⟨e1,e2⟩:=hs.head;have s1:=hs.tail;have s2:=s1.right;have s3:=s2.tail.right;have s4:=s3.tail.right;have c1:=inner iha f r.adv s1.left (by decide) (by show _≤f+(r.i+1);omega) (Zzi 1 s2.head.1 (by decide +kernel));have c2:=inner ihb f (after r.adv ta.length a).adv s2.tail.left (by decide) (by show _≤f+(r.i+1+ta.length+1);omega) (Zzi 1 s3.head.1 (by decide +kernel));have c3:=inner ihc f (after (after r.adv ta.length a).adv tb.length b).adv s3.tail.left (by decide) (by show _≤f+(r.i+1+ta.length+1+tb.length+1);omega) (Zzi 1 s4.head.1 (by decide +kernel))
  have:Z5a l (Z3 l f) r=(true,after r (wIf::(ta++Z4j::(tb++Z5j::(tc++[Zyf])))).length (.ite a b c)):=by
   have:Z5a l (Z3 l f) r=Zab l (Z3 l f) r:=by
    unfold Z5a;rw [e2,e1];rfl
   rw [this];unfold Zab
   rw [Zvy ⟨e1,e2⟩ (by decide +kernel),Z6,c1,Z6,Zvy s2.head (by decide +kernel),Z6,c2,Z6,Zvy s3.head (by decide +kernel),Z6,c3,Z6,
    Zvy s4.head (by decide +kernel),Z6,Zsc,Zsc,Zsc]
   show (true,RS.mk _ _ _)=(true,RS.mk _ _ _)
   congr 2
   ·show r.i+1+ta.length+1+tb.length+1+tc.length+1=_
    simp only [List.length_append,List.length_cons,List.length_nil];omega
   ·have q1:(after r.adv ta.length a).adv.nodes=r.nodes++a.row r.nodes.length:=rfl
    have q2:(after (after r.adv ta.length a).adv tb.length b).adv.nodes=(after r.adv ta.length a).adv.nodes++b.row ((after r.adv ta.length a).adv.nodes.length:Nat):=rfl
    show (after (after r.adv ta.length a).adv tb.length b).adv.nodes++c.row ((after (after r.adv ta.length a).adv tb.length b).adv.nodes.length:Nat)++[_]=_
    have q3:r.adv.nodes=r.nodes:=rfl;simp only [q2,q1,q3,List.length_append,X.row_len,X.row,List.append_assoc,Int.natCast_add,Int.add_assoc]
  rw [this];rfl
theorem Zt8 {t:List UInt8} (h:isP t=1):0≤(Z7b (Znd t)).1:=by
 have hd:=(Zy9 h).2
 have h1:(Znd t).all Zna=true∧Znd t≠[]:=by
  unfold Znd
  split
  ·exact ⟨by decide,by simp⟩
  ·rename_i hn
   refine ⟨?_,hn⟩;rw [List.all_eq_true] at hd ⊢;exact fun x hx=>hd x ((List.dropWhile_sublist _).mem hx)
 obtain ⟨h1,h2⟩:=h1;generalize Znd t=s at h1 h2
 have hh':(s.head? == some 45)=false:=by
  cases s with
  | nil=>exact absurd rfl h2
  | cons c r =>
   rw [beq_eq_false_iff_ne];intro hc
   have hc:c=45:=by simpa using hc
   subst hc;rw [List.all_cons] at h1
   revert h1
   simp [Zna]
 unfold Z7b;rw [hh'];simp only [Bool.false_eq_true,if_false,or_false]
 split
 ·exact Int.le_refl _
 ·unfold told
  split
  ·exact Int.natCast_nonneg _
  ·exact Int.le_refl _
theorem Gr.ok {n:Int} {ts:List (List UInt8)} {x:X} (h:Gr n ts x):x.ok=true:=by
 induction h with
 | @num n t v h1 h2 =>
  have hp:=Zt8 h1;rw [h2] at hp;have hp:0≤v:=hp
  have:Zod ⟨1,v,[],-1,-1,-1⟩=true:=by
   unfold Zod;rw [if_neg (by simp;omega),if_neg (by simp)];rfl
  simp only [X.ok,this,Bool.true_and];rfl
 | @name n t h1 =>
  have:Zod ⟨2,0,t,-1,-1,-1⟩=true:=by
   unfold Zod;rw [if_neg (by simp),if_pos rfl,h1];rfl
  simp only [X.ok,this,Bool.true_and];rfl
 | tr=>rfl
 | fa=>rfl
 | neg _ _ ih=>simp only [X.ok,ih,Bool.and_true];rfl
 | not _ _ ih=>simp only [X.ok,ih,Bool.and_true];rfl
 | par _ ih=>exact ih
 | bin h1 h2 _ _ _ ih1 ih2 =>
  simp only [X.ok,ih1,ih2,Bool.and_true,Bool.and_eq_true,decide_eq_true_eq];omega
 | ite _ _ _ i1 i2 i3=>simp only [X.ok,i1,i2,i3];rfl
def Zct (l:List Tk) (n:Int) (r r':RS):Prop:=∃ ts x,Gr n ts x∧Seg l r.i ts∧r'=after r ts.length x
theorem Zgq {l:List Tk} {w:List UInt8} {r:RS} (h:(Ztf l w r).1=true):Ztf l w r=(true,r.adv)∧Seg l r.i [w]:=by
 unfold Ztf at h ⊢
 split at h
 ·cases h
 ·rename_i hn
  rw [if_neg hn];simp only [not_or,Decidable.not_not] at hn;exact ⟨rfl,Seg.one (Zug hn.1) hn.2⟩
theorem Zbe {x:Bool × RS} {k:RS→Bool × RS} (h:(andThen x k).1=true):x.1=true∧(k x.2).1=true∧andThen x k=k x.2:=by
 obtain ⟨b,r⟩:=x;cases b
 ·cases h
 ·exact ⟨rfl,h,rfl⟩
theorem Z5x (r:RS) (k:Nat) (x:X) (n:XN):(after r k x).put n=⟨r.i+k,r.nodes++(x.row r.nodes.length++[n]),r.e⟩:=by
 show RS.mk _ _ _=_
 congr 1
 show r.nodes++_++[n]=_
 rw [List.append_assoc]
theorem Zmea {t:List UInt8} {op:Nat} (h:ofI t 2=some op):sgT op=t:=by
 obtain ⟨s,h1,h2,_⟩:=Z1l h;unfold sgT;rw [List.getD_eq_getElem?_getD,h1];exact h2
theorem Zzaa {l:List Tk} {inner:Inner} (hin:∀ n r,n=1∨n=9→(inner n r).1=true→Zct l n r (inner n r).2) {r:RS} (h:(Z5a l inner r).1=true):Zct l 9 r (Z5a l inner r).2:=by
 have hk:=Z4h l r.i;have hlt:(Z7 l r.i).kind≠0→r.i<l.length:=Zug
 have hP:Z5a l inner r=if (Z7 l r.i).kind=1 then Zcd r (Z7 l r.i).text
  else if (Z7 l r.i).kind=2 then Z1g r 2 0 (Z7 l r.i).text
  else if (Z7 l r.i).kind=0 then (false,r.err 80)
  else if (ofP (Z7 l r.i).text 1).2 then andThen (inner 9 r.adv) fun a=>(true,a.put ⟨(ofP (Z7 l r.i).text 1).1,0,[],a.last,-1,-1⟩)
  else if (Z7 l r.i).text=[40] then andThen (inner 1 r.adv) (Ztf l [41])
  else if (Z7 l r.i).text=wIf then Zab l inner r
  else if (ofP (Z7 l r.i).text 0).2∧(Z7 l r.i).kind=3 then Z1g r (ofP (Z7 l r.i).text 0).1 0 []
  else (false,r.err 80):=rfl
 generalize Z5a l inner r=res at h hP ⊢
 by_cases k0:(Z7 l r.i).kind=0
 ·rw [k0] at hP
  rw [if_neg (by decide),if_neg (by decide),if_pos rfl] at hP;rw [hP] at h;cases h
 have hone:=Seg.one (l:=l) (i:=r.i) (hlt k0) rfl;generalize Z7 l r.i=t at hP hk hone k0;obtain ⟨k,t,p⟩:=t;simp only at hP hk hone k0
 by_cases k1:k=1
 ·rw [if_pos k1] at hP
  have ht:isP t=1:=by omega
  unfold Zcd at hP
  by_cases he:(Z7b (Znd t)).2=0
  ·rw [if_neg (by simpa using he)] at hP
   refine ⟨[t],.leaf 1 (Z7b (Znd t)).1 [],.num ht (by rw [← he]),hone,by rw [hP];rfl⟩
  ·rw [if_pos he] at hP
   rw [hP] at h;cases h
 rw [if_neg k1] at hP
 by_cases k2:k=2
 ·rw [if_pos k2] at hP
  exact ⟨[t],.leaf 2 0 t,.name (by omega),hone,by rw [hP];rfl⟩
 rw [if_neg k2,if_neg k0] at hP
 cases h1:ofI t 1 with
 | some op =>
  have e1:ofP t 1=(op,true):=by unfold ofP;rw [h1]
  rw [e1,if_pos rfl] at hP;rw [hP] at h;obtain ⟨q1,_,q3⟩:=Zbe h;obtain ⟨ts,x,g1,g2,g3⟩:=hin 9 r.adv (.inr rfl) q1;rw [q3] at hP;simp only at hP;rw [g3] at hP;have hs:Seg l r.i (t::ts):=hone.app (b:=ts) g2
  have hres:res.2=after r (ts.length+1) (.un op x):=by
   rw [hP,Zsc];simp only [Z5x]
   show RS.mk _ _ _=RS.mk _ _ _
   congr 1
   show r.i+1+ts.length=_
   omega
  rcases Zz8 h1 with ⟨rfl,rfl⟩ | ⟨rfl,rfl⟩
  ·exact ⟨_,_,.neg (Int.le_refl _) g1,hs,hres⟩
  ·exact ⟨_,_,.not (Int.le_refl _) g1,hs,hres⟩
 | none =>
 have e1:(ofP t 1).2=false:=by unfold ofP;rw [h1]
 rw [e1,if_neg (by simp)] at hP
 by_cases h2:t=[40]
 ·rw [if_pos h2] at hP
  subst h2;rw [hP] at h;obtain ⟨q1,q2,q3⟩:=Zbe h;obtain ⟨ts,x,g1,g2,g3⟩:=hin 1 r.adv (.inl rfl) q1;rw [q3,g3] at hP;rw [g3] at q2;obtain ⟨q4,q5⟩:=Zgq q2;rw [q4] at hP;refine ⟨_,_,.par g1,hone.app (b:=ts++[[41]]) (g2.app q5),?_⟩;rw [hP]
  show RS.mk _ _ _=RS.mk _ _ _
  congr 1
  show r.i+1+ts.length+1=_
  simp only [List.length_cons,List.length_append,List.length_nil];omega
 rw [if_neg h2] at hP
 by_cases h3:t=wIf
 ·rw [if_pos h3] at hP
  subst h3;unfold Zab at hP;rw [hP] at h;obtain ⟨a1,a2,a3⟩:=Zbe h;obtain ⟨b1,b2⟩:=Zgq a1;rw [a3] at hP;rw [b1] at hP a2;simp only at hP a2;obtain ⟨c1,c2,c3⟩:=Zbe a2;obtain ⟨ta,xa,ga,sa,ra⟩:=hin 1 r.adv (.inl rfl) c1;rw [c3,ra] at hP;rw [ra] at c2;obtain ⟨d1,d2,d3⟩:=Zbe c2;obtain ⟨e1,e2⟩:=Zgq d1;rw [d3,e1] at hP;rw [e1] at d2;simp only at hP d2;obtain ⟨f1,f2,f3⟩:=Zbe d2;obtain ⟨tb,xb,gb,sb,rb⟩:=hin 1 _ (.inl rfl) f1;rw [f3,rb] at hP;rw [rb] at f2;obtain ⟨i1,i2,i3⟩:=Zbe f2;obtain ⟨j1,j2⟩:=Zgq i1;rw [i3,j1] at hP;rw [j1] at i2;simp only at hP i2;obtain ⟨k1,k2,k3⟩:=Zbe i2;obtain ⟨tc,xc,gc,sc,rc⟩:=hin 1 _ (.inl rfl) k1;rw [k3,rc] at hP;rw [rc] at k2;obtain ⟨m1,m2,m3⟩:=Zbe k2;obtain ⟨n1,n2⟩:=Zgq m1;rw [m3,n1] at hP;simp only [Zsc] at hP;refine ⟨_,_,.ite ga gb gc,?_,?_⟩
  ·exact hone.app (b:=_) (sa.app (e2.app (b:=_) (sb.app (j2.app (b:=_) (sc.app n2)))))
  ·rw [hP]
   show RS.mk _ _ _=RS.mk _ _ _
   congr 1
   ·show r.i+1+ta.length+1+tb.length+1+tc.length+1=_
    simp only [List.length_append,List.length_cons,List.length_nil];omega
   ·have q1:(after r.adv ta.length xa).adv.nodes=r.nodes++xa.row r.nodes.length:=rfl
    have q2:(after (after r.adv ta.length xa).adv tb.length xb).adv.nodes=(after r.adv ta.length xa).adv.nodes++xb.row ((after r.adv ta.length xa).adv.nodes.length:Nat):=rfl
    show (after (after r.adv ta.length xa).adv tb.length xb).adv.nodes++xc.row ((after (after r.adv ta.length xa).adv tb.length xb).adv.nodes.length:Nat)++[_]=_
    have q3:r.adv.nodes=r.nodes:=rfl;simp only [q2,q1,q3,List.length_append,X.row_len,X.row,List.append_assoc,Int.natCast_add,Int.add_assoc]
 rw [if_neg h3] at hP
 cases h4:ofI t 0 with
 | none =>
  have e0:(ofP t 0).2=false:=by unfold ofP;rw [h4]
  rw [e0,if_neg (by simp)] at hP;rw [hP] at h;cases h
 | some op =>
  have e0:ofP t 0=(op,true):=by unfold ofP;rw [h4]
  rw [e0] at hP
  have hk3:k=3:=by
   rcases Zno h4 with ⟨rfl,_⟩ | ⟨rfl,_⟩
   ·rw [← hk];decide +kernel
   ·rw [← hk];decide +kernel
  rw [if_pos ⟨rfl,hk3⟩] at hP
  rcases Zno h4 with ⟨rfl,rfl⟩ | ⟨rfl,rfl⟩
  ·exact ⟨_,_,.tr,hone,by rw [hP];rfl⟩
  ·exact ⟨_,_,.fa,hone,by rw [hP];rfl⟩
theorem Z63 {l:List Tk} {inner:Inner} (hin:∀ n r,1≤n→n≤9→(inner n r).1=true→Zct l n r (inner n r).2∧Ends l n (inner n r).2.i) {n:Int} {r0:RS} :
  ∀ (m:Nat) (r:RS) (k:Int) (ts:List (List UInt8)) (x:X),Gr k ts x→Seg l r0.i ts→r=after r0 ts.length x→n≤k→(∀ op,Zdi l r.i=some op→lvl op≤k)→(Z8b l inner n m r).1=true→Zct l n r0 (Z8b l inner n m r).2
 | 0,r,k,ts,x,g,s,e,hk,_,_=>⟨ts,x,g.mono hk,s,e⟩
 | m+1,r,k,ts,x,g,s,e,hk,ho,h=>by
  rw [Z8b] at h ⊢
  cases hop:Zdi l r.i with
  | none=>exact ⟨ts,x,g.mono hk,s,e⟩
  | some op =>
   rw [hop] at h;simp only at h ⊢
   by_cases hl:lvl op<n
   ·rw [if_pos hl];exact ⟨ts,x,g.mono hk,s,e⟩
   rw [if_neg hl] at h ⊢;obtain ⟨p1,p2,p3,p4⟩:=Zrs hop;obtain ⟨q1,q2,q3⟩:=Zbe h;obtain ⟨⟨tb,b,gb,sb,rb⟩,hend⟩:=hin (lvl op+1) r.adv (by omega) (by omega) q1;rw [q3];have hw:sgT op=(Z7 l r.i).text:=Zmea (by rw [← Zqj];exact hop);have hg2:Gr (lvl op) (ts++sgT op::tb) (.bin op x b) := .bin p1 p2 (Int.le_refl _) (g.mono (ho op hop)) gb
   have hri:r.i=r0.i+ts.length:=by rw [e];rfl
   have hone:Seg l r.i [sgT op]:=Seg.one (Z0g hop) hw.symm;have hs2:Seg l r0.i (ts++sgT op::tb):=s.app (by rw [← hri];exact hone.app (b:=tb) sb);rw [rb] at q2 hend ⊢
   have he2:(after r.adv tb.length b).put ⟨(op:Int),0,[],r.last,(after r.adv tb.length b).last,-1⟩=after r0 (ts++sgT op::tb).length (.bin op x b):=by
    rw [Zsc,Z5x,e,Zsc]
    show RS.mk _ _ _=RS.mk _ _ _
    congr 1
    ·show r0.i+ts.length+1+tb.length=_
     simp only [List.length_append,List.length_cons];omega
    ·have q1:(after r0 ts.length x).adv.nodes=r0.nodes++x.row r0.nodes.length:=rfl
     simp only [q1,List.length_append,X.row_len,X.row,List.append_assoc,Int.natCast_add]
   refine Z63 hin m _ (lvl op) _ _ hg2 hs2 he2 (by omega) ?_ q2;intro op' ho';have:=hend op' ho';omega
theorem Zzy {l:List Tk}:∀ (f:Nat) (n:Int) (r:RS),1≤n→n≤9→(Z3 l f n r).1=true→Zct l n r (Z3 l f n r).2
 | 0,n,r,_,_,h=>by cases h
 | f+1,n,r,h1,h9,h=>by
  rw [Z3] at h ⊢;obtain ⟨q1,q2,q3⟩:=Zbe h;have hin:∀ n r,1≤n→n≤9→(Z3 l f n r).1=true→Zct l n r (Z3 l f n r).2:=fun n r a b c=>Zzy f n r a b c;obtain ⟨ts,x,g,s,e⟩:=Zzaa (fun n r hn hb=>hin n r (by omega) (by omega) hb) q1;rw [q3];exact Z63 (fun n r a b c=>⟨hin n r a b c,Z3k c⟩) _ _ 9 ts x g s e h9 (fun op ho=>by have:=Zrs ho;omega) q2
end Go.Hs
end

section
namespace Go.Hs
open Go.Proofs
set_option maxRecDepth 10000
def sgnR:List (List UInt8):=[[],[],[],[],[],[45],[110,111,116],[42],[100,105,118],[109,111,100],[43],[45],[60],[60,61],[62],[62,61],[61],[60,62],[97,110,100],[111,114],[120,111,114],[105,109,112,108,105,101,115]]
theorem Zfca (op:Nat) (h:5≤op) (h2:op≤21):sgnR[op]? = some (sgT op):=by
 have:((List.range 22).all fun op=>decide (op<5) || sgnR[op]? == some (sgT op))=true:=by decide +kernel
 have:=List.all_eq_true.1 this op (List.mem_range.2 (by omega));simp only [Bool.or_eq_true,decide_eq_true_eq,beq_iff_eq] at this
 rcases this with h | h
 ·omega
 ·exact h
theorem Zl1 (G:Nat→V) (hG:GOk G):Spec Tryz.prog G 195 [] Zm (fun v _=>v=Za .new 1 V.str (.mk false sgnR)):=by
 refine Zo 0 2 [.tmp 0] Tryz.func195 fun X=>?_;refine Z1 ?_;refine Z1 ?_;intro g1;refine AW.weak (Zz (fun o=>o==1) (l:=[(0,Za .new 1 V.str (.mk false sgnR))]) (m:=[]) ?_ trivial) ?_
 ·refine Zs ?_
  exact Zaf (f:=V.str) (l:=sgnR) (m:=1) (g:=g1) (fz:=0) (c := .new) rfl zp (fun _=>rfl)
 exact Zr
def levL:List V:=[.int .i64 0,.int .i64 10,.int .i64 10,.int .i64 10,.int .i64 10,.int .i64 9,.int .i64 9,.int .i64 8,.int .i64 8,.int .i64 8,.int .i64 7,.int .i64 7,.int .i64 6,.int .i64 6,.int .i64 6,.int .i64 6,.int .i64 5,.int .i64 5,.int .i64 4,.int .i64 3,.int .i64 2,.int .i64 1,.int .i64 10]
theorem Zbda (op:Nat) (h:op<23):levL[op]? = some (.int .i64 (lvl op)):=by
 match op,h with
 | 0,_=>rfl
 | 1,_=>rfl
 | 2,_=>rfl
 | 3,_=>rfl
 | 4,_=>rfl
 | 5,_=>rfl
 | 6,_=>rfl
 | 7,_=>rfl
 | 8,_=>rfl
 | 9,_=>rfl
 | 10,_=>rfl
 | 11,_=>rfl
 | 12,_=>rfl
 | 13,_=>rfl
 | 14,_=>rfl
 | 15,_=>rfl
 | 16,_=>rfl
 | 17,_=>rfl
 | 18,_=>rfl
 | 19,_=>rfl
 | 20,_=>rfl
 | 21,_=>rfl
 | 22,_=>rfl
 | n+23,h=>exact absurd h (by omega)
theorem Zp8 (G:Nat→V) (hG:GOk G) (op:Nat) (hop:op<23):Spec Tryz.prog G 196 [.int .u8 op] Zm (fun v _=>v = .int .i64 (lvl op)):=by
 refine Zo 0 7 [.tmp 2] Tryz.func196 fun X=>?_;have hg:=Zbda op hop;unfold levL at hg
 have h23:(op:Int)<23:=by omega
 refine Z1 ?_;refine Z1f (zi hg (zi h23 (zi @Int.natCast_nonneg (zi @Nat.mul_one @Nat.zero_add)))) ?_;intro g3;exact Zr
theorem Zt7 {t:List UInt8} {op:Nat} (h1:7≤op) (h2:op≤21):(t≠[]∧sgT op=t) ↔ ofI t 2=some op:=by
 constructor
 ·rintro ⟨_,rfl⟩
  exact (Zj9 op h1 h2).2.2.1
 ·intro h
  exact ⟨(Z1l h).choose_spec.2.2.2,Zmea h⟩
theorem wu8R {z:Int} (h:0≤z) (h2:z<256):IntKind.u8.wrap z=z:=by
 unfold IntKind.wrap;simp [IntKind.signed,IntKind.bits];omega
theorem Zn1 (G:Nat→V) (hG:GOk G) (sl:Sl Tk) (hT:TkOk sl.l) (g:Nat) (r:RS) (hr:r.i<1000000) (n:Int) :
  RdS 1012 [] G 172 [.int .i64 n] sl g r (.int .u8 (Zz0 sl.l n r.i)) r:=by
 intro gx;refine Zo 1000 32 [.tmp 4] Tryz.func172 fun X=>?_
 have hP:Zz0 sl.l n r.i=match ofI (Z7 sl.l r.i).text 2 with | some op=>if lvl op=n then op else 0 | none=>0:=rfl
 generalize Zz0 sl.l n r.i=res at hP ⊢;refine Z1 ?_;refine Z1 ?_;refine Zaa hG (Zjj G hG sl hT g r hr) (gx:=gx) fun gx1=>?_;refine Zu ?_;generalize (Z7 sl.l r.i).text=t at hP ⊢;refine Z1 ?_;refine Zc hG ?_ (s:=(Zl1 G hG));refine Z1 ?_;refine AW.block ?_
 refine Zwa 22 (fun k (_:Unit)=>st [(0,.ptr 8 g 0),(1,.int .i64 n),(5,.str t),(6,Za .new 1 V.str (.mk false sgnR)),(7,.int .u8 k)] [(8,rdO 1012 [] sl g gx1 r),(1012,ndO gx1 r.nodes)])
  (fun k _=>7≤k∧∀ j,7≤j→j<k→¬ (ofI t 2=some j∧lvl j=n)) 7 () (by decide) ⟨Nat.le_refl _,fun j h1 h2=>by omega⟩
  (Zb zp zp) ?_
 rintro k _ hk ⟨hk7,hR⟩ L3 hL3;refine Z1 ?_;refine Ze rfl (fun h12=>?_) (fun h12=>?_)
 ·have hk1:k≤21:=by have h12:decide ((k:Int)≤21)=true:=h12;simp at h12;omega
  have hg:=Zfca k (by omega) hk1
  have hnext:¬ (ofI t 2=some k∧lvl k=n)→∀ j,7≤j→j<k+1→¬ (ofI t 2=some j∧lvl j=n):=by
   intro h j h1 h2
   by_cases q:j=k
   ·subst q;exact h
   ·exact hR j h1 (by omega)
  have hwr:IntKind.u8.wrap ((k:Int)+1)=((k+1:Nat):Int):=by rw [wu8R (by omega) (by omega)];omega
  refine Z0 ?_;refine Z5 ?_;refine AW.block ?_
  by_cases ht:t=[]
  ·have e1:(t==[])=true:=by rw [ht]<;>rfl
   refine Z1f e1 ?_;refine Z1f hwr ?_;exact hL3 _ ⟨by omega,(),⟨by omega,hnext (fun h=>(Zt7 hk7 hk1).2 h.1 |>.1 ht)⟩,Zb zp zp⟩
  have e1:(t==[])=false:=by simpa using ht
  by_cases hs:sgT k=t
  rotate_left
  ·have e2:(sgT k==t)=false:=by simpa using hs
   refine Z1f (zi e1 (zi hg e2)) ?_;refine Z1f hwr ?_;exact hL3 _ ⟨by omega,(),⟨by omega,hnext (fun h=>hs ((Zt7 hk7 hk1).2 h.1).2)⟩,Zb zp zp⟩
  have e2:(sgT k==t)=true:=by simpa using hs
  have ho:=(Zt7 hk7 hk1).1 ⟨ht,hs⟩;refine Z1f (zi e1 (zi hg e2)) ?_;refine Zc hG ?_ (s:=(Zp8 G hG k (by omega)));rw [ho] at hP;simp only at hP
  by_cases hl:lvl k=n
  ·rw [if_pos hl] at hP
   have e3:(lvl k==n)=true:=by simpa using hl
   rw [e3];refine Z ?_;rw [hP];exact ⟨rfl,gx1,zr,zr⟩
  ·have e3:(lvl k==n)=false:=by simpa using hl
   rw [e3];refine Z1f hwr ?_;exact hL3 _ ⟨by omega,(),⟨by omega,hnext (fun h=>hl h.2)⟩,Zb zp zp⟩
 ·have hk1:k=22:=by have h12:decide ((k:Int)≤21)=false:=h12;simp at h12;omega
  refine Z0 ?_
  have hP:res=0:=by
   rw [hP]
   cases ho:ofI t 2 with
   | none=>rfl
   | some op =>
    simp only;rw [if_neg];intro hl;have:=Z8t ho;exact hR op this.1 (by omega) ⟨ho,hl⟩
  refine Z ?_;rw [hP];exact ⟨rfl,gx1,zr,zr⟩
theorem Zj1 (G:Nat→V) (hG:GOk G) (sl:Sl Tk) (hT:TkOk sl.l) (g:Nat) (r:RS) (hr:Zrm sl.l r) (inner:Inner) (hin:InnR G sl g inner r.i) (hb:Bals sl.l inner) :
  RdS 1012 [] G 171 [] sl g r (.bool (unR sl.l inner r).1) (unR sl.l inner r).2:=by
 have hTl:=hT.len
 have hri:r.i<1000000:=by have:=hr.1;omega
 have hw:IntKind.i64.wrap ((r.i:Int)+1)=((r.i+1:Nat):Int):=by rw [w64 (by omega) (by omega)];omega
 intro gx;refine Zo 1000 29 [.tmp 2] Tryz.func171 fun X=>?_
 have hP:unR sl.l inner r=if (Z7 sl.l r.i).text=[45] then andThen (inner 9 r.adv) fun a=>(true,a.put ⟨5,0,[],a.last,-1,-1⟩)
  else if (Z7 sl.l r.i).text=[110,111,116] then andThen (inner 9 r.adv) fun a=>(true,a.put ⟨6,0,[],a.last,-1,-1⟩)
  else Z6x sl.l inner r:=rfl
 have hpr:=Z1t G hG sl hT g r hr inner hin hb
 have hlt:(Z7 sl.l r.i).text≠[]→r.i<sl.l.length:=by
  intro h;rw [← Nat.not_le];intro h2;apply h;rw [Z6m h2]
 generalize unR sl.l inner r=res at hP ⊢;generalize Z6x sl.l inner r=pr at hP hpr;refine Z1 ?_;refine Z1 ?_;refine Zha (fun (x:Nat × Int)=>st [(0,.ptr 8 g 0),(3,.int .u8 x.2)] [(8,rdO 1012 [] sl g x.1 r),(1012,ndO x.1 r.nodes)]) (fun x=>r.i<sl.l.length∧res=andThen (inner 9 r.adv) fun a=>(true,a.put ⟨x.2,0,[],a.last,-1,-1⟩)) (fun K1 hK1=>?_) ?_
 ·refine Z1 ?_
  refine Zaa hG (Zjj G hG sl hT g r hri) (gx:=gx) fun gx1=>?_;refine Zu ?_;generalize (Z7 sl.l r.i).text=t at hP hlt ⊢;refine AW.block ?_
  by_cases c1:t=[45]
  ·have e1:(t==[45])=true:=by simpa using c1
   rw [if_pos c1] at hP;refine Z1f e1 ?_;refine Z1 ?_;exact hK1 _ (gx1,5) ⟨hlt (by rw [c1];simp),hP⟩ (Zb zp zp)
  have e1:(t==[45])=false:=by simpa using c1
  rw [if_neg c1] at hP;refine Z1f e1 ?_;refine Zkc rfl ?_
  try clear h2
  by_cases c2:t=[110,111,116]
  ·have e2:(t==[110,111,116])=true:=by simpa using c2
   rw [if_pos c2] at hP;refine Z1f e2 ?_;refine Z1 ?_;exact hK1 _ (gx1,6) ⟨hlt (by rw [c2];simp),hP⟩ (Zb zp zp)
  have e2:(t==[110,111,116])=false:=by simpa using c2
  rw [if_neg c2] at hP;refine Z1f e2 ?_;refine Z1 ?_;refine Zaa hG (hpr) (gx:=gx1) fun gx2=>?_;refine Zu ?_;refine Z ?_;rw [hP];exact ⟨rfl,gx2,zr,zr⟩
 rintro ⟨gx,op⟩ ⟨hl,hP⟩
 replace hP:res=andThen (inner 9 r.adv) fun a=>(true,a.put ⟨op,0,[],a.last,-1,-1⟩):=hP
 have had:Zrm sl.l r.adv:=(Bal.adv hl).ok hr;have hc:=hin.un r.adv (Nat.lt_succ_self _) had;have hbl:=(hb 9 r.adv).ok had;generalize inner 9 r.adv=x at hc hP hbl;obtain ⟨b,a⟩:=x;simp only at hc hbl
 have han:a.nodes.length<1000000:=by have:=hbl.1;have:=hbl.2;omega
 refine Z1f (zi @Z0a hw) ?_
 cases b with
 | false =>
  rw [Zya] at hP;refine Z1f @Z0a ?_;refine Zaa hG (hc) (gx:=gx) fun gx2=>?_;refine Zu ?_;refine Z ?_;rw [hP];exact ⟨rfl,gx2,zr,zr⟩
 | true =>
  rw [Z6] at hP;refine Z1f @Z0a ?_;refine Zaa hG (hc) (gx:=gx) fun gx2=>?_;refine Zu ?_;refine Zsf @Z0a ?_;refine Zaa hG (Zlf G hG sl g a han) (gx:=gx2) fun gx3=>?_;refine Zu ?_;refine Zsf @Z0a ?_;rw [← Zp ⟨op,0,[],a.last,-1,-1⟩];refine Zaa hG (Zij G hG sl g a han ⟨op,0,[],a.last,-1,-1⟩) (gx:=gx3) fun gx4=>?_;refine Zu ?_;refine Z ?_;rw [hP];exact ⟨rfl,gx4,zr,zr⟩
theorem Zcda {l:List Tk} {f:Nat} (k:Nat) (r:RS):Bal l 0 r (Z31 l (Z3 l f) k r).2:=by
 rw [Z9m (Zse l f) (fun _ _=>Z3k)];exact Zxd (Zkh (Zqc l f) r) fun _=>(Zkh (Zqc l f) r).trans (Z2p (Zqc l f) _ _ _)
theorem Z34 (l:List Tk) (inner:Inner) (n:Int) (m:Nat) (r:RS):Zah l inner n (m+1) r=if Zz0 l n r.i=0 then (true,r) else andThen (inner (n+1) r.adv) fun a=>Zah l inner n m (a.put ⟨Zz0 l n r.i,0,[],r.last,a.last,-1⟩):=rfl
theorem twoR_op {l:List Tk} {n:Int} {i:Nat} (h:Zz0 l n i≠0):i<l.length∧Zz0 l n i≤21:=by
 unfold Zz0 at h ⊢
 cases ho:ofI (Z7 l i).text 2 with
 | none=>rw [ho] at h;exact absurd rfl h
 | some op =>
  have h2:=Z8t ho
  have:Zdi l i=some op:=by rw [Zqj,ho]
  refine ⟨Z0g this,?_⟩;simp only
  split<;>omega
theorem Zo1 (G:Nat→V) (hG:GOk G) (sl:Sl Tk) (hT:TkOk sl.l) (g:Nat):∀ (f:Nat) (r:RS),sl.l.length<f+r.i→Zrm sl.l r →
  (∀ n,1≤n→n≤9→RdS 1012 [] G 152 [.int .i64 n] sl g r (.bool (Z3 sl.l f n r).1) (Z3 sl.l f n r).2) ∧
  RdS 1012 [] G 171 [] sl g r (.bool (Z3 sl.l f 9 r).1) (Z3 sl.l f 9 r).2:=by
 have hTl:=hT.len;intro f
 induction f with
 | zero=>intro r hf hr;have:=hr.1;omega
 | succ f ih =>
 intro r hf hr;have hin:InnR G sl g (Z3 sl.l f) r.i:=⟨fun n r' h1 h9 hi hr'=>(ih r' (by omega) hr').1 n h1 h9,fun r' hi hr'=>(ih r' (by omega) hr').2⟩;have hbs:=Zqc sl.l f;have hun:=Zj1 G hG sl hT g r hr _ hin hbs
 have hcl:∀ k:Nat,Z3 sl.l (f+1) (9-k) r=Z31 sl.l (Z3 sl.l f) k r:=by
  intro k
  rw [Z9m (Zse sl.l f) (fun _ _=>Z3k)]<;>rfl
 have h9:Z3 sl.l (f+1) 9 r=unR sl.l (Z3 sl.l f) r:=hcl 0;rw [h9];refine ⟨?_,hun⟩
 suffices h:∀ k:Nat,k≤8→RdS 1012 [] G 152 [.int .i64 (9-k)] sl g r (.bool (Z31 sl.l (Z3 sl.l f) k r).1) (Z31 sl.l (Z3 sl.l f) k r).2 by
  intro n h1 hn9;have:=h (9-n).toNat (by omega);rw [← hcl,show (9:Int)-((9-n).toNat:Nat)=n by omega] at this;exact this
 intro k
 induction k with
 | zero =>
  intro _ gx;refine Zo 1000 46 [.tmp 4] Tryz.func152 fun X=>?_;have hP:Z31 sl.l (Z3 sl.l f) 0 r=unR sl.l (Z3 sl.l f) r:=rfl;generalize Z31 sl.l (Z3 sl.l f) 0 r=res at hP ⊢;generalize unR sl.l (Z3 sl.l f) r=y at hP hun;refine Z1 ?_;refine Z1 ?_;refine Z1 ?_;refine Z1 ?_;refine Zaa hG (hun) (gx:=gx) fun gx1=>?_;refine Zu ?_;refine Z ?_;rw [hP];exact ⟨rfl,gx1,zr,zr⟩
 | succ k ihk =>
  intro hk gx;have ihk:=ihk (by omega);obtain ⟨n,hn⟩:∃ n:Int,n=8-k:=⟨_,rfl⟩
  have e9:(9:Int)-((k+1:Nat):Int)=n:=by omega
  have e9k:(9:Int)-(k:Int)=n+1:=by omega
  have hn1:1≤n∧n≤8:=by omega
  rw [e9];rw [e9k] at ihk;refine Zo 1000 46 [.tmp 4] Tryz.func152 fun X=>?_
  have hP:Z31 sl.l (Z3 sl.l f) (k+1) r=andThen (Z31 sl.l (Z3 sl.l f) k r) (Zah sl.l (Z3 sl.l f) n (sl.l.length+1)):=by rw [Z31,hn]
  have hlb:=Zcda (l:=sl.l) (f:=f) k r;generalize Z31 sl.l (Z3 sl.l f) (k+1) r=res at hP ⊢;generalize Z31 sl.l (Z3 sl.l f) k r=y at hP ihk hlb;obtain ⟨b,q0⟩:=y;simp only at ihk hlb
  have q10:(n==10)=false:=by rw [beq_eq_false_iff_ne];omega
  have q9:(n==9)=false:=by rw [beq_eq_false_iff_ne];omega
  have hw1:IntKind.i64.wrap (n+1)=n+1:=w64 (by omega) (by omega);refine Z1 ?_;refine Z1f q10 ?_;refine Z1f q9 ?_;refine Z0 ?_;refine Z5 ?_
  cases b with
  | false =>
   rw [Zya] at hP;refine Z1f hw1 ?_;refine Zaa hG (ihk) (gx:=gx) fun gx1=>?_;refine Zu ?_;refine Z ?_;rw [hP];exact ⟨rfl,gx1,zr,zr⟩
  | true =>
  rw [Z6] at hP;have hq0:=hlb.ok hr;refine Z1f hw1 ?_;refine Zaa hG (ihk) (gx:=gx) fun gx1=>?_;refine Zu ?_;refine Z0 ?_;refine AW.block ?_
  refine Zhc (fun (x:Nat × Nat × RS)=>st [(0,.ptr 8 g 0),(1,.int .i64 n)] [(8,rdO 1012 [] sl g x.1 x.2.2),(1012,ndO x.1 x.2.2.nodes)])
   (fun x=>res=Zah sl.l (Z3 sl.l f) n x.2.1 x.2.2∧Zrm sl.l x.2.2∧r.i≤x.2.2.i∧sl.l.length<x.2.1+x.2.2.i) (fun x=>x.2.1) (gx1,sl.l.length+1,q0) ⟨hP,hq0,hlb.up,Nat.lt_add_right _ (Nat.lt_succ_self _)⟩
   (Zb zp zp) ?_
  try clear hP
  rintro ⟨gy,m,q⟩ ⟨hP,hq,hqi,hm⟩ L3 hL3
  replace hP:res=Zah sl.l (Z3 sl.l f) n m q:=hP
  replace hq:Zrm sl.l q:=hq
  replace hqi:r.i≤q.i:=hqi
  replace hm:sl.l.length<m+q.i:=hm
  obtain ⟨m,rfl⟩:∃ m',m=m'+1:=⟨m-1,by have:=hq.1;omega⟩
  have hqI:q.i<1000000:=by have:=hq.1;omega
  have hqn:q.nodes.length<1000000:=by have:=hq.1;have:=hq.2;omega
  rw [Z34] at hP;have htw:=twoR_op (l:=sl.l) (n:=n) (i:=q.i);refine Z1 ?_;refine Zaa hG (Zn1 G hG sl hT g q hqI n) (gx:=gy) fun gz=>?_;refine Zu ?_;generalize Zz0 sl.l n q.i=op at hP htw ⊢;refine Z1 ?_
  by_cases ho:op=0
  ·have e1:(((op:Nat):Int)==0)=true:=by rw [ho]<;>rfl
   rw [if_pos ho] at hP;rw [e1];refine Z ?_;rw [hP];exact ⟨rfl,gz,zr,zr⟩
  have e1:(((op:Nat):Int)==0)=false:=by rw [beq_eq_false_iff_ne];omega
  rw [if_neg ho] at hP;rw [e1];refine Z0 ?_;obtain ⟨hil,hop21⟩:=htw ho
  have hw:IntKind.i64.wrap ((q.i:Int)+1)=((q.i+1:Nat):Int):=by rw [w64 (by omega) (by omega)];omega
  have hadv:Zrm sl.l q.adv:=(Bal.adv hil).ok hq;have hc:=hin.lev (n+1) q.adv (by omega) (by omega) (by show r.i<q.i+1;omega) hadv;have hcb:=hbs (n+1) q.adv;generalize Z3 sl.l f (n+1) q.adv=z at hP hc hcb;obtain ⟨b,a⟩:=z;simp only at hc hcb;have ha:=hcb.ok hadv;have haup:q.i+1≤a.i:=hcb.up
  have han:a.nodes.length<1000000:=by have:=ha.1;have:=ha.2;omega
  refine Z1 ?_;refine Zaa hG (Zlf G hG sl g q hqn) (gx:=gz) fun gz1=>?_;refine Zu ?_;refine Z1f (zi @Z0a hw) ?_;refine Z5 ?_
  cases b with
  | false =>
   rw [Zya] at hP;refine Z1f (zi @Z0a hw1) ?_;refine Zaa hG (hc) (gx:=gz1) fun gz2=>?_;refine Zu ?_;refine Ze rfl (fun h11=>?_) (fun h11=>?_)
   ·refine Z ?_
    rw [hP];exact ⟨rfl,gz2,zr,zr⟩
   ·cases h11
  | true =>
   rw [Z6] at hP;refine Z1f (zi @Z0a hw1) ?_;refine Zaa hG (hc) (gx:=gz1) fun gz2=>?_;refine Zu ?_;refine Z1 ?_;refine Zaa hG (Zlf G hG sl g a han) (gx:=gz2) fun gz3=>?_;refine Zu ?_;refine Zsf @Z0a ?_;rw [← Zp ⟨op,0,[],q.last,a.last,-1⟩];refine Zaa hG (Zij G hG sl g a han ⟨op,0,[],q.last,a.last,-1⟩) (gx:=gz3) fun gz4=>?_;refine Zu ?_
   have hres:Zrm sl.l (a.put ⟨op,0,[],q.last,a.last,-1⟩):=⟨ha.1,by
    have h1:=hcb.cnt;have h2:=hq.2
    show (a.nodes++[_]).length≤a.i
    rw [List.length_append,List.length_singleton];have h3:a.nodes.length+(q.i+1)+0≤q.nodes.length+a.i:=h1
    omega⟩
   refine hL3 _ ⟨(gz4,m,a.put ⟨op,0,[],q.last,a.last,-1⟩),Nat.lt_succ_self _,⟨hP,hres,?_,?_⟩,Zb zp (by simp -implicitDefEqProofs only[go_sem,seval];try exact ⟨rfl,rfl⟩)⟩
   ·show r.i≤a.i
    omega
   ·show sl.l.length<m+a.i
    omega
theorem Zot (G:Nat→V) (s:List UInt8):Spec Tryz.prog G 168 [.str s,.str [48]] Zm (fun v _=>v = .str (s.dropWhile (· == 48))):=by
 refine Zhe fun X cargs _ _ hA=>?_;obtain ⟨x,y,rfl,hx,hy⟩:=hA.two;obtain ⟨s',rfl,rfl⟩:=hx.str_inv;obtain ⟨p',rfl,hp⟩:=hy.str_inv
 obtain rfl:p'=⟨#[48]⟩:=by
  obtain ⟨⟨l⟩⟩:=p';simp at hp;rw [hp]
 refine (show Calls Tryz.prog 168 _ _ _ from Any.strings_TrimLeft_one Zy2 s' 48 (by decide) X.w).mono ?_;rintro e w' ⟨rfl,rfl⟩;exact ⟨_,_,rfl,RowKit.Below.refl _ _,.str _ _ rfl,by simp [Lib.trimLeftB]⟩
theorem Ztm (G:Nat→V) (hG:GOk G) (sl:Sl Tk) (g:Nat) (r:RS) (hi:r.i<1000000) (hr:r.nodes.length<1000000) (op num:Int) (name:List UInt8) (x y z:Int) :
  RdS 1031 [.func (.func 78) [] []] G 143 [Z8 ⟨op,num,name,x,y,z⟩] sl g r (.bool true) (Z1g r op num name).2:=by
 intro gx;refine Zo 1000 15 [.tmp 4] Tryz.func143 fun X=>?_
 have hw:IntKind.i64.wrap ((r.i:Int)+1)=((r.i+1:Nat):Int):=by rw [w64 (by omega) (by omega)];omega
 simp only [Zcb,Z0a,Zp];refine Z1 ?_;intro g3;refine Z1f hw ?_;refine Z1 ?_;rw [← Zp ⟨op,num,name,x,y,z⟩];refine Zaa hG (Zel G hG sl g r.adv hr ⟨op,num,name,x,y,z⟩ .any .nil (by decide)) (gx:=gx) fun gx'=>?_;refine Zu ?_;refine Z ?_;exact ⟨rfl,gx',zp,zp⟩
theorem Zyo (G:Nat→V) (hE:GExp G) (sl:Sl Tk) (hT:TkOk sl.l) (g:Nat) (r:RS) (hi:r.i<1000000) (w:List UInt8) :
  RdS 1031 [.func (.func 78) [] []] G 144 [.str w] sl g r (.bool (Ztf sl.l w r).1) (Ztf sl.l w r).2:=by
 have hG:=hE.ok;intro gx;refine Zo 1000 27 [.tmp 4] Tryz.func144 fun X=>?_
 have hw:IntKind.i64.wrap ((r.i:Int)+1)=((r.i+1:Nat):Int):=by rw [w64 (by omega) (by omega)];omega
 refine Z1 ?_;refine Z1 ?_;refine Zaa hG (Zsm G hE sl hT g r hi) (gx:=gx) fun gx'=>?_;refine Zu ?_;refine Zsf @Z3b ?_;intro g5
 have hP:Ztf sl.l w r=if (Z7 sl.l r.i).kind=0∨(Z7 sl.l r.i).text≠w then (false,r.err 80) else (true,r.adv):=rfl
 generalize Z7 sl.l r.i=t at hP ⊢;obtain ⟨k,t,p⟩:=t;simp only at hP
 by_cases hk:k=0
 ·have e1:(k==0)=true:=by simpa using hk
  rw [if_pos (.inl hk)] at hP;refine Z1f e1 ?_;refine Ze rfl (fun h2=>?_) (fun h2=>?_)
  ·refine Zf @Z0a ?_
   rw [hP];exact ⟨rfl,gx',zp,zp⟩
  ·cases h2
 ·have e1:(k==0)=false:=by simpa using hk
  by_cases ht:t=w
  ·have e2:(t==w)=true:=by simpa using ht
   rw [if_neg (by rintro (h | h);exact hk h;exact h ht)] at hP;refine Z5c zk ?_;simp -implicitDefEqProofs only[go_sem,seval,e1,bne,e2];refine Zkc rfl ?_
   ·refine Zf (zi @Z0a hw) ?_
    rw [hP];exact ⟨rfl,gx',zp,zp⟩
  ·have e2:(t==w)=false:=by simpa using ht
   rw [if_pos (.inr ht)] at hP;refine Z5c zk ?_;simp -implicitDefEqProofs only[go_sem,seval,e1,bne,e2];refine Ze rfl (fun h2=>?_) (fun h2=>?_)
   ·refine Zf @Z0a ?_
    rw [hP];exact ⟨rfl,gx',zp,zp⟩
   ·cases h2
theorem Zv7 (t:List UInt8):(Znd t).length≤t.length+1:=by
 unfold Znd
 split
 ·simp
 ·exact Nat.le_trans ((List.dropWhile_sublist _).length_le) (Nat.le_succ _)
theorem Z4w (G:Nat→V) (hE:GExp G) (sl:Sl Tk) (g:Nat) (r:RS) (hi:r.i<1000000) (hr:r.nodes.length<1000000) (t:List UInt8) (ht:t.length<100000) :
  RdS 1031 [.func (.func 78) [] []] G 142 [.str t] sl g r (.bool (Zcd r t).1) (Zcd r t).2:=by
 have hG:=hE.ok;intro gx;refine Zo 1000 26 [.tmp 4] Tryz.func142 fun X=>?_;refine Z1 ?_;refine Z1 ?_;refine Zc hG ?_ (s:=(Zot G t))
 have hT0:Znd t=if t.dropWhile (· == 48)=[] then [48] else t.dropWhile (· == 48):=rfl
 have hP:Zcd r t=if (Z7b (Znd t)).2≠0 then (false,r.err (Z7b (Znd t)).2) else Z1g r 1 (Z7b (Znd t)).1 []:=rfl
 have hl:=Zv7 t;refine Zha (fun (_:Unit)=>st [(0,.ptr 8 g 0),(1,.str (Znd t))] [(8,rdO 1031 [.func (.func 78) [] []] sl g gx r),(1031,ndO gx r.nodes)]) (fun _=>True) (fun K1 hK1=>?_) ?_
 ·rw [hT0] at hK1
  refine Z1 ?_;refine Ze rfl (fun h2=>?_) (fun h2=>?_)
  ·have h2:t.dropWhile (· == 48)=[]:=by simpa using h2
   rw [if_pos h2] at hK1;refine Z1 ?_;exact hK1 _ () trivial (Zb zp (by simp -implicitDefEqProofs only[go_sem,seval,Zcb]))
  ·have h2:¬ t.dropWhile (· == 48)=[]:=by simpa using h2
   rw [if_neg h2] at hK1;refine Z0 ?_;exact hK1 _ () trivial (Zb zp (by simp -implicitDefEqProofs only[go_sem,seval,Zcb]))
 intro _ _;generalize Znd t=s at hl hP ⊢;refine Z1 ?_;refine Zn hG ?_ (s:=(Zz1 G hE.toGNum s (by omega)));generalize Z7b s=q at hP ⊢;obtain ⟨n,e⟩:=q;simp only at hP;refine Zsf @encR.eq_1 ?_;refine Z5 ?_
 by_cases he:e=0
 ·have e1:(e==0)=true:=by simpa using he
  rw [if_neg (show ¬ e≠0 by simpa using he)] at hP;refine Z5c zk ?_;simp -implicitDefEqProofs only[go_sem,seval,bne,e1];refine Zkc rfl ?_
  ·refine Z1 ?_
   rw [← Zp ⟨1,n,[],0,0,0⟩];refine Zaa hG (Ztm G hG sl g r hi hr 1 n [] 0 0 0) (gx:=gx) fun gx'=>?_;refine Zu ?_;refine Z ?_;rw [hP];exact ⟨rfl,gx',zp,zp⟩
 ·have e1:(e==0)=false:=by simpa using he
  rw [if_pos he] at hP;refine Z5c zk ?_;simp -implicitDefEqProofs only[go_sem,seval,bne,e1];refine Ze rfl (fun h4=>?_) (fun h4=>?_)
  ·refine Zf @Z0a ?_
   rw [hP];exact ⟨rfl,gx,zp,zp⟩
  ·cases h4
def Z6aa (G:Nat→V) (sl:Sl Tk) (g:Nat) (inner:Inner) (i0:Nat):Prop :=
 ∀ n r,1≤n→n≤9→i0<r.i→Zrm sl.l r→RdS 1031 [.func (.func 78) [] []] G 78 [.int .i64 n] sl g r (.bool (inner n r).1) (inner n r).2
theorem Z0p {l:List Tk} (hT:TkOk l) (i:Nat):(Z7 l i).text.length<100000:=by
 unfold Z7
 split
 ·rename_i t h
  split
  ·exact hT.text _ (List.mem_of_getElem? h)
  ·exact Nat.zero_lt_succ _
 ·exact Nat.zero_lt_succ _
theorem Zeaa (l:List Tk) (w:List UInt8) (r:RS):(Ztf l w r).1=true→(Ztf l w r).2=r.adv:=by
 unfold Ztf
 split
 ·intro h;cases h
 ·exact fun _=>rfl
def Zg5 (l:List Tk) (inner:Inner):List (List UInt8)→List Int→RS→Bool × RS
 | [],parts,r=>andThen (Ztf l Zyf r) fun r4=>(true,r4.put (Zt5 ⟨22,0,[],0,0,0⟩ parts))
 | w::ws,parts,r=>andThen (Ztf l w r) fun r1=>andThen (inner 1 r1) fun a=>Zg5 l inner ws (parts++[a.last]) a
theorem Zru (l:List Tk) (inner:Inner) (r:RS):Zab l inner r=Zg5 l inner [wIf,Z4j,Z5j] [] r:=rfl
def brW:List (List UInt8):=[wIf,Z4j,Z5j]
theorem Zqr (G:Nat→V) (hE:GExp G) (sl:Sl Tk) (hT:TkOk sl.l) (g:Nat) (r:RS) (hr:Zrm sl.l r) (inner:Inner) (hin:Z6aa G sl g inner r.i) (hb:Bals sl.l inner) :
  RdS 1031 [.func (.func 78) [] []] G 145 [] sl g r (.bool (Zab sl.l inner r).1) (Zab sl.l inner r).2:=by
 have hG:=hE.ok;have hTl:=hT.len;intro gx;refine Zo 1000 37 [.tmp 2] Tryz.func145 fun X=>?_;refine Z1 ?_;refine Z1 ?_;refine Z1 ?_;refine AW.block ?_
 refine Zwa 3 (fun k (x:Nat × Nat × List Int × RS)=>st [(0,.ptr 8 g 0),(3,grown 1027 x.1 1 x.2.2.1),(6,.agg (brW.map V.str)),(7,.int .i64 k)] [(1027,Zua x.1 (V.int .i64) x.2.2.1),(8,rdO 1031 [.func (.func 78) [] []] sl g x.2.1 x.2.2.2),(1031,ndO x.2.1 x.2.2.2.nodes)])
  (fun k x=>Zab sl.l inner r=Zg5 sl.l inner (brW.drop k) x.2.2.1 x.2.2.2∧Zrm sl.l x.2.2.2∧r.i≤x.2.2.2.i∧x.2.2.1.length=k) 0 (0,gx,[],r) (Nat.zero_le _) ⟨Zru _ _ _,hr,Nat.le_refl _,rfl⟩
  (Zb (by simp -implicitDefEqProofs only[go_sem,seval,List.map_cons,List.map_nil];exact ⟨rfl,rfl⟩) (by simp -implicitDefEqProofs only[go_sem,seval,Zcb];try rfl)) ?_
 rintro k ⟨gp,gy,parts,q⟩ hk ⟨hP,hq,hqi,hpl⟩ L2 hL2;have hP:Zab sl.l inner r=Zg5 sl.l inner (brW.drop k) parts q:=hP;have hq:Zrm sl.l q:=hq;have hqi:r.i≤q.i:=hqi;have hpl:parts.length=k:=hpl
 have hqI:q.i<1000000:=by have:=hq.1;omega
 refine Z1 ?_;refine Z5 ?_;refine Ze rfl (fun h4=>?_) (fun h4=>?_)
 ·have hk1:k<3:=by have h4:decide ((k:Int)<3)=true:=h4;simp at h4;omega
  refine Z0 ?_;refine Z5 ?_;refine AW.block ?_
  obtain ⟨w,hw1,hw2⟩:∃ w,(brW.map V.str)[k]? = some (.str w)∧brW.drop k=w::brW.drop (k+1):=by
   have hkl:k<brW.length:=hk1;exact ⟨brW[k],by rw [List.getElem?_map,List.getElem?_eq_getElem hkl]<;>rfl,List.drop_eq_getElem_cons hkl⟩
  have hk1':(k:Int)<3:=by omega
  rw [hw2,Zg5] at hP;have heb:=Zvd sl.l w q;have het:=Zeaa sl.l w q;have hes:=Zyo G hE sl hT g q hqI w;generalize Ztf sl.l w q=y at hP heb hes het;obtain ⟨b,q1⟩:=y;simp only at heb hes het;refine Z1f (zi hw1 (zi hk1' (zi @Int.natCast_nonneg @Nat.mul_one))) ?_;refine Z5 ?_
  cases b with
  | false =>
   rw [Zya] at hP;refine Z1 ?_;refine Zaa hG (hes) (gx:=gy) fun gz=>?_;refine Zu ?_;refine Ze rfl (fun h7=>?_) (fun h7=>?_)
   ·refine Z ?_
    rw [hP];exact ⟨rfl,gz,zr,zr⟩
   ·cases h7
  | true =>
   rw [Z6] at hP;have hb1:=heb.2 rfl;have hq1:=hb1.ok hq
   have hlt:r.i<q1.i:=by rw [het rfl];show r.i<q.i+1;omega
   have hc:=hin 1 q1 (by decide) (by decide) hlt hq1;have hb2:=hb 1 q1;generalize inner 1 q1=z at hP hc hb2;obtain ⟨b,a⟩:=z;simp only at hc hb2;have ha:=hb2.ok hq1
   have han:a.nodes.length<1000000:=by have:=ha.1;have:=ha.2;omega
   cases b with
   | false =>
    rw [Zya] at hP;refine Z1f @Z0a ?_;refine Zaa hG (hes) (gx:=gy) fun gz=>?_;refine Zu ?_;refine Zsf @Z0a ?_;refine Zaa hG (hc) (gx:=gz) fun gz2=>?_;refine Zu ?_;refine Ze rfl (fun h7=>?_) (fun h7=>?_)
    ·refine Z ?_
     rw [hP];exact ⟨rfl,gz2,zr,zr⟩
    ·cases h7
   | true =>
    rw [Z6] at hP;refine Z1f @Z0a ?_;refine Zaa hG (hes) (gx:=gy) fun gz=>?_;refine Zu ?_;refine Zsf @Z0a ?_;refine Zaa hG (hc) (gx:=gz) fun gz2=>?_;refine Zu ?_;refine Zkc rfl ?_
    ·refine Z1 ?_
     refine Zaa hG (Zaj G hG sl g a han) (gx:=gz2) fun gz3=>?_;refine Zu ?_;intro g26;refine Zza (f:=V.int .i64) (l:=parts) (l2:=[a.last]) (g:=gp) (fun _=>rfl) rfl rfl rfl zp (Zca (by omega) (by simp;omega)) fun g27=>?_;refine Zs ?_;refine Z1 ?_;refine hL2 _ ⟨hk1,(g27,gz3,parts++[a.last],a),⟨hP,ha,?_,?_⟩,Zb zw zp⟩
     ·show r.i≤a.i
      have:=hb2.up;omega
     ·show (parts++[a.last]).length=k+1
      rw [List.length_append,List.length_singleton,hpl]
 ·have hk1:k=3:=by have h4:decide ((k:Int)<3)=false:=h4;simp at h4;omega
  refine Z0 ?_;rw [hk1,show brW.drop 3=[] from rfl,Zg5] at hP;have heb:=Zvd sl.l Zyf q;have hes:=Zyo G hE sl hT g q hqI Zyf;generalize Ztf sl.l Zyf q=y at hP heb hes;obtain ⟨b,q1⟩:=y;simp only at heb hes;have hq1:=(heb.1).ok hq
  have hqn:q1.nodes.length<1000000:=by have:=hq1.1;have:=hq1.2;omega
  cases b with
  | false =>
   rw [Zya] at hP;refine Z1 ?_;refine Zaa hG (hes) (gx:=gy) fun gz=>?_;refine Zu ?_;refine Z ?_;rw [hP];exact ⟨rfl,gz,zr,zr⟩
  | true =>
   rw [Z6] at hP;refine Z1 ?_;refine Zaa hG (hes) (gx:=gy) fun gz=>?_;refine Zu ?_;refine Zdc (fun o=>o==1027) [.ptr 8 g 0,Z8 ⟨22,0,[],0,0,0⟩,Za .new 1 (V.int .i64) (Zv parts)] [(8,rdO 1031 [.func (.func 78) [] []] sl g gz q1),(1031,ndO gz q1.nodes)] ⟨Zd _,Zd _,?_,trivial⟩ ?_ ?_
   ·exact Z1a (g:=gp) rfl zp (fun _=>rfl)
   ·simp only [Zl,Zt,and_true]
    exact ⟨FzO.keep rfl zp,FzO.keep rfl zp⟩
   have hp3:(Zv parts).l.length≤3:=by rw [Zea];omega
   refine Zaa hG (Zel G hG sl g q1 hqn ⟨22,0,[],0,0,0⟩ .old (Zv parts) hp3) (gx:=gz) fun gz2=>?_;refine Zu ?_;refine Z ?_;rw [hP];exact ⟨rfl,gz2,zr,zr⟩
theorem Z10 (G:Nat→V) (hE:GExp G) (sl:Sl Tk) (hT:TkOk sl.l) (g:Nat) (r:RS) (hr:Zrm sl.l r) (inner:Inner) (hin:Z6aa G sl g inner r.i) (hb:Bals sl.l inner) :
  RdS 1031 [.func (.func 78) [] []] G 114 [] sl g r (.bool (Z5a sl.l inner r).1) (Z5a sl.l inner r).2:=by
 have hG:=hE.ok;have hTl:=hT.len
 have hri:r.i<1000000:=by have:=hr.1;omega
 have hrn:r.nodes.length<1000000:=by have:=hr.2;omega
 have hw:IntKind.i64.wrap ((r.i:Int)+1)=((r.i+1:Nat):Int):=by rw [w64 (by omega) (by omega)];omega
 intro gx;refine Zo 1000 107 [.tmp 2] Tryz.func114 fun X=>?_
 have hP:Z5a sl.l inner r=if (Z7 sl.l r.i).kind=1 then Zcd r (Z7 sl.l r.i).text
  else if (Z7 sl.l r.i).kind=2 then Z1g r 2 0 (Z7 sl.l r.i).text
  else if (Z7 sl.l r.i).kind=0 then (false,r.err 80)
  else if (ofP (Z7 sl.l r.i).text 1).2 then andThen (inner 9 r.adv) fun a=>(true,a.put ⟨(ofP (Z7 sl.l r.i).text 1).1,0,[],a.last,-1,-1⟩)
  else if (Z7 sl.l r.i).text=[40] then andThen (inner 1 r.adv) (Ztf sl.l [41])
  else if (Z7 sl.l r.i).text=wIf then Zab sl.l inner r
  else if (ofP (Z7 sl.l r.i).text 0).2∧(Z7 sl.l r.i).kind=3 then Z1g r (ofP (Z7 sl.l r.i).text 0).1 0 []
  else (false,r.err 80):=rfl
 have htl:=Z0p hT r.i;have hadv:(Z7 sl.l r.i).kind≠0→Zrm sl.l r.adv:=fun h=>(Bal.adv (Zug h)).ok hr
 have hno0:(Z7 sl.l r.i).kind=0→(ofP (Z7 sl.l r.i).text 0).2=false:=fun h=>by
  unfold ofP
  cases ho:ofI (Z7 sl.l r.i).text 0 with
  | none=>rfl
  | some i =>
   have hk:=Z4h sl.l r.i;rw [h] at hk
   rcases Zno ho with ⟨h,_⟩ | ⟨h,_⟩
   ·rw [h] at hk;exact absurd hk (by decide)
   ·rw [h] at hk;exact absurd hk (by decide)
 refine Z1 ?_;refine Z1 ?_;refine Zaa hG (Zsm G hE sl hT g r hri) (gx:=gx) fun gx1=>?_;refine Zu ?_;refine Zsf @Z3b ?_;intro g3;generalize Z7 sl.l r.i=t at hP htl hadv hno0 ⊢;obtain ⟨k,t,p⟩:=t;simp only at hP htl hadv hno0;refine Z1 ?_;refine Zn hG ?_ (s:=(Zjt G hG t 1));generalize ofP t 1=o1 at hP ⊢;obtain ⟨op1,one⟩:=o1;simp only at hP;refine Zsf @encOf.eq_1 ?_
 refine Zha (fun (_:Unit)=>st [(0,.ptr 8 g 0),(3,.ptr 1003 g3 0)] [(1003,.cells .new g3 0 [.int .u8 k,.str t,.int .i64 p]),(8,rdO 1031 [.func (.func 78) [] []] sl g gx1 r),(1031,ndO gx1 r.nodes)])
  (fun _=>(k=0∨(k≠0∧k≠1∧k≠2∧one=false∧t≠[40]∧t≠wIf))) (fun K1 hK1=>?_) ?_
 ·refine AW.block ?_
  by_cases k1:k=1
  ·have e1:(k==1)=true:=by simpa using k1
   rw [if_pos k1] at hP;refine Z1f e1 ?_;refine Ze rfl (fun h2=>?_) (fun h2=>?_)
   ·refine Z1 ?_
    refine Zaa hG (Z4w G hE sl g r hri hrn t htl) (gx:=gx1) fun gx2=>?_;refine Zu ?_;refine Z ?_;rw [hP];exact ⟨rfl,gx2,zr,zr⟩
   ·cases h2
  have e1:(k==1)=false:=by simpa using k1
  rw [if_neg k1] at hP;refine Z1f e1 ?_;refine Zkc rfl ?_
  try clear h2
  by_cases k2:k=2
  ·have e2:(k==2)=true:=by simpa using k2
   rw [if_pos k2] at hP;refine Z1f e2 ?_;refine Ze rfl (fun h2=>?_) (fun h2=>?_)
   ·refine Z1 ?_
    rw [← Zp ⟨2,0,t,0,0,0⟩];refine Zaa hG (Ztm G hG sl g r hri hrn 2 0 t 0 0 0) (gx:=gx1) fun gx2=>?_;refine Zu ?_;refine Z ?_;rw [hP];exact ⟨rfl,gx2,zr,zr⟩
   ·cases h2
  have e2:(k==2)=false:=by simpa using k2
  rw [if_neg k2] at hP;refine Z1f e2 ?_;refine Zkc rfl ?_
  try clear h2
  by_cases k0:k=0
  ·have e0:(k==0)=true:=by simpa using k0
   refine Z1f e0 ?_;refine Ze rfl (fun h2=>?_) (fun h2=>?_)
   ·refine Z0 ?_
    exact hK1 _ () (.inl k0) (Zb zp zp)
   ·cases h2
  have e0:(k==0)=false:=by simpa using k0
  rw [if_neg k0] at hP;have had:=hadv k0;refine Z1f e0 ?_;refine Zkc rfl ?_
  try clear h2
  refine Z1 ?_;refine Ze rfl (fun h3=>?_) (fun h3=>?_)
  ·subst h3
   rw [if_pos rfl] at hP;have hc:=hin 9 r.adv (by decide) (by decide) (Nat.lt_succ_self _) had;have hbl:=(hb 9 r.adv).ok had;generalize inner 9 r.adv=x at hc hP hbl;obtain ⟨b,a⟩:=x;simp only at hc hbl
   have han:a.nodes.length<1000000:=by have:=hbl.1;have:=hbl.2;omega
   refine Z1f (zi @Z0a hw) ?_
   cases b with
   | false =>
    refine Z1f @Z0a ?_;refine Zaa hG (hc) (gx:=gx1) fun gx2=>?_;refine Zu ?_;refine Z ?_;rw [hP];exact ⟨rfl,gx2,zr,zr⟩
   | true =>
    refine Z1f @Z0a ?_;refine Zaa hG (hc) (gx:=gx1) fun gx2=>?_;refine Zu ?_;refine Zaa hG (Zaj G hG sl g a han) (gx:=gx2) fun gx3=>?_;refine Zu ?_;intro g58;refine Zdc (fun o=>o==1058) [.ptr 8 g 0,Z8 ⟨op1,0,[],0,0,0⟩,.slice .new false 1 [.int .i64 a.last]] [(8,rdO 1031 [.func (.func 78) [] []] sl g gx3 a),(1031,ndO gx3 a.nodes)] ⟨Zd _,Zd _,?_,trivial⟩ ?_ ?_
    ·exact Zaf (f:=V.int .i64) (l:=[a.last]) (m:=1) (g:=g58) (fz:=0) (c := .new) rfl zp (fun _=>rfl)
    ·simp only [Zl,Zt,and_true]
     exact ⟨FzO.keep rfl zp,FzO.keep rfl zp⟩
    refine Zaa hG (Zel G hG sl g a han ⟨op1,0,[],0,0,0⟩ .old (.mk false [a.last]) (Nat.le_of_ble_eq_true rfl)) (gx:=gx3) fun gx4=>?_;refine Zu ?_;refine Z ?_;rw [hP];exact ⟨rfl,gx4,zr,zr⟩
  ·subst h3
   rw [if_neg (by simp)] at hP;refine Z1 ?_;refine Ze rfl (fun h4=>?_) (fun h4=>?_)
   ·have h4:t=[40]:=by simpa using h4
    rw [if_pos h4] at hP;have hc:=hin 1 r.adv (by decide) (by decide) (Nat.lt_succ_self _) had;have hbl:=(hb 1 r.adv).ok had;generalize inner 1 r.adv=x at hc hP hbl;obtain ⟨b,a⟩:=x;simp only at hc hbl
    have hai:a.i<1000000:=by have:=hbl.1;omega
    refine Z1f (zi @Z0a hw) ?_
    cases b with
    | false =>
     refine Z1f @Z0a ?_;refine Zaa hG (hc) (gx:=gx1) fun gx2=>?_;refine Zu ?_;refine Z ?_;rw [hP];exact ⟨rfl,gx2,zr,zr⟩
    | true =>
     rw [Z6] at hP;refine Z1f @Z0a ?_;refine Zaa hG (hc) (gx:=gx1) fun gx2=>?_;refine Zu ?_;refine Zaa hG (Zyo G hE sl hT g a hai [41]) (gx:=gx2) fun gx3=>?_;refine Zu ?_;generalize Ztf sl.l [41] a=y at hP ⊢;obtain ⟨b,a2⟩:=y
     cases b with
     | true =>
      refine Zs ?_;refine Z ?_;rw [hP];exact ⟨rfl,gx3,zr,zr⟩
     | false =>
      refine Zs ?_;refine Z ?_;rw [hP];exact ⟨rfl,gx3,zr,zr⟩
   ·have h4:¬ t=[40]:=by simpa using h4
    rw [if_neg h4] at hP;refine Z1 ?_;refine Ze rfl (fun h5=>?_) (fun h5=>?_)
    ·have h5:t=wIf:=by
      have h5:(t==[105,102])=true:=h5;exact eq_of_beq h5
     rw [if_pos h5] at hP;refine Z1 ?_;refine Zaa hG (Zqr G hE sl hT g r hr inner hin hb) (gx:=gx1) fun gx2=>?_;refine Zu ?_;refine Z ?_;rw [hP];exact ⟨rfl,gx2,zr,zr⟩
    ·have h5:¬ t=wIf:=by
      have h5:(t==[105,102])=false:=h5;exact beq_eq_false_iff_ne.1 h5
     refine Z0 ?_;exact hK1 _ () (.inr ⟨k0,k1,k2,rfl,h4,h5⟩) (Zb zp zp)
 rintro _ hcase
 have hP2:Z5a sl.l inner r=if (ofP t 0).2∧k=3 then Z1g r (ofP t 0).1 0 [] else (false,r.err 80):=by
  rw [hP]
  rcases hcase with k0 | ⟨k0,k1,k2,k3,k4,k5⟩
  ·have:=hno0 k0
   subst k0;rw [if_neg (by decide),if_neg (by decide),if_pos rfl,this,if_neg (by simp)]
  ·rw [if_neg k1,if_neg k2,if_neg k0,k3,if_neg (by simp),if_neg k4,if_neg k5]
 try clear hP
 have hP:=hP2
 try clear hP2 hno0 hcase
 refine Z1 ?_;refine Zn hG ?_ (s:=(Zjt G hG t 0));generalize ofP t 0=o0 at hP ⊢;obtain ⟨op0,ok⟩:=o0;simp only at hP;refine Zsf @encOf.eq_1 ?_
 cases ok with
 | false =>
  rw [if_neg (by simp)] at hP;refine Z1 ?_;refine Zkc rfl ?_
  ·refine Zf @Z0a ?_
   rw [hP];exact ⟨rfl,gx1,zr,zr⟩
 | true =>
  by_cases k3:k=3
  ·have e3:(k==3)=true:=by simpa using k3
   rw [if_pos ⟨rfl,k3⟩] at hP;refine Z1f e3 ?_;refine Ze rfl (fun h7=>?_) (fun h7=>?_)
   ·refine Z1 ?_
    rw [← Zp ⟨op0,0,[],0,0,0⟩];refine Zaa hG (Ztm G hG sl g r hri hrn op0 0 [] 0 0 0) (gx:=gx1) fun gx2=>?_;refine Zu ?_;refine Z ?_;rw [hP];exact ⟨rfl,gx2,zr,zr⟩
   ·cases h7
  ·have e3:(k==3)=false:=by simpa using k3
   rw [if_neg (fun h=>k3 h.2)] at hP;refine Z1f e3 ?_;refine Zkc rfl ?_
   ·refine Zf @Z0a ?_
    rw [hP];exact ⟨rfl,gx1,zr,zr⟩
theorem Z35 (l:List Tk) (inner:Inner) (n:Int) (m:Nat) (r:RS):Z8b l inner n (m+1) r=match Zdi l r.i with
  | none=>(true,r)
  | some op=>if lvl op<n then (true,r) else andThen (inner (lvl op+1) r.adv) fun a=>Z8b l inner n m (a.put ⟨op,0,[],r.last,a.last,-1⟩):=rfl
theorem Z3ca {l:List Tk} {i:Nat}:((Z7 l i).kind=0∨(ofP (Z7 l i).text 2).2=false→Zdi l i=none)∧((Z7 l i).kind≠0→(ofP (Z7 l i).text 2).2=true→Zdi l i=some (ofP (Z7 l i).text 2).1):=by
 unfold Zdi ofP
 constructor
 ·rintro (h | h)
  ·rw [if_pos h]
  ·split
   ·rfl
   ·cases ho:ofI (Z7 l i).text 2 with
    | none=>rfl
    | some op=>rw [ho] at h;cases h
 ·intro h h2
  rw [if_neg h]
  cases ho:ofI (Z7 l i).text 2 with
  | none=>rw [ho] at h2;cases h2
  | some op=>rfl
theorem ofP_lt (t:List UInt8) (p:Int):(ofP t p).1<23:=by
 unfold ofP
 split
 ·rename_i h;exact Zwea h
 ·decide
theorem Z00 (G:Nat→V) (hE:GExp G) (sl:Sl Tk) (hT:TkOk sl.l) (g:Nat):∀ (f:Nat) (n:Int) (r:RS),1≤n→n≤9→sl.l.length<f+r.i→Zrm sl.l r →
  RdS 1031 [.func (.func 78) [] []] G 78 [.int .i64 n] sl g r (.bool (Z3 sl.l f n r).1) (Z3 sl.l f n r).2:=by
 have hG:=hE.ok;have hTl:=hT.len;intro f
 induction f with
 | zero=>intro n r _ _ hf hr;have:=hr.1;omega
 | succ f ih =>
 intro n r hn1 hn9 hf hr gx;have hin:∀ i0,r.i≤i0→Z6aa G sl g (Z3 sl.l f) i0:=fun i0 hi0 n' r' h1 h9 hi hr'=>ih n' r' h1 h9 (by omega) hr';have hbs:=Zqc sl.l f;have hP:Z3 sl.l (f+1) n r=andThen (Z5a sl.l (Z3 sl.l f) r) (Z8b sl.l (Z3 sl.l f) n (sl.l.length+1)):=rfl;generalize Z3 sl.l (f+1) n r=res at hP ⊢;refine Zo 1000 65 [.tmp 4] Tryz.func78 fun X=>?_;have hah:=Z10 G hE sl hT g r hr _ (hin r.i (Nat.le_refl _)) hbs;have hab:=Zkh hbs r;generalize Z5a sl.l (Z3 sl.l f) r=y at hP hah hab;obtain ⟨b,q0⟩:=y;simp only at hah hab;refine Z1 ?_;refine Z5 ?_
 cases b with
 | false =>
  rw [Zya] at hP;refine Z1 ?_;refine Zaa hG (hah) (gx:=gx) fun gx1=>?_;refine Zu ?_;refine Ze rfl (fun h2=>?_) (fun h2=>?_)
  ·refine Z ?_
   rw [hP];exact ⟨rfl,gx1,zr,zr⟩
  ·cases h2
 | true =>
 rw [Z6] at hP;have hq0:=hab.ok hr;refine Z1 ?_;refine Zaa hG (hah) (gx:=gx) fun gx1=>?_;refine Zu ?_;refine Z1 ?_;refine Zn hG ?_ (s:=(Zkk G hG));refine Zsf (zi @Z70 (zi @Zrt @Nat.le_refl)) ?_;intro g5;rw [Zbp _ ?hl]
 case hl=>rfl
 refine AW.block ?_
 refine Zhc (fun (x:Nat × Nat × RS)=>st [(0,.ptr 8 g 0),(1,.int .i64 n),(5,.ptr 1005 g5 0)] [(1005,.cells .new g5 0 tabC),(8,rdO 1031 [.func (.func 78) [] []] sl g x.1 x.2.2),(1031,ndO x.1 x.2.2.nodes)])
  (fun x=>res=Z8b sl.l (Z3 sl.l f) n x.2.1 x.2.2∧Zrm sl.l x.2.2∧r.i≤x.2.2.i∧sl.l.length<x.2.1+x.2.2.i) (fun x=>x.2.1) (gx1,sl.l.length+1,q0) ⟨hP,hq0,hab.up,Nat.lt_add_right _ (Nat.lt_succ_self _)⟩
  (Zb zp zp) ?_
 try clear hP
 rintro ⟨gy,m,q⟩ ⟨hP,hq,hqi,hm⟩ L3 hL3
 replace hP:res=Z8b sl.l (Z3 sl.l f) n m q:=hP
 replace hq:Zrm sl.l q:=hq
 replace hqi:r.i≤q.i:=hqi
 replace hm:sl.l.length<m+q.i:=hm
 obtain ⟨m,rfl⟩:∃ m',m=m'+1:=⟨m-1,by have:=hq.1;omega⟩
 have hqI:q.i<1000000:=by have:=hq.1;omega
 have hqn:q.nodes.length<1000000:=by have:=hq.1;have:=hq.2;omega
 rw [Z35] at hP;have hop:=Z3ca (l:=sl.l) (i:=q.i);have hlt23:=ofP_lt (Z7 sl.l q.i).text 2;have htl:=Z0p hT q.i
 have hbnd:∀ op,Zdi sl.l q.i=some op→1≤lvl op∧lvl op≤8:=fun op h=>by have:=Zrs h;exact ⟨this.2.2.1,this.2.2.2⟩
 have hilt:∀ op,Zdi sl.l q.i=some op→q.i<sl.l.length:=fun op h=>Z0g h;refine Z1 ?_;refine Zaa hG (Zsm G hE sl hT g q hqI) (gx:=gy) fun gz=>?_;refine Zu ?_;refine Zsf @Z3b ?_;intro g6;generalize Zdi sl.l q.i=oa at hP hop hbnd hilt;generalize Z7 sl.l q.i=t at hop hlt23 htl ⊢;obtain ⟨k,t,p⟩:=t;simp only at hop hlt23 htl;refine Z1 ?_;refine Zn hG ?_ (s:=(Zjt G hG t 2));generalize ofP t 2=o2 at hop hlt23 ⊢;obtain ⟨op,ok⟩:=o2;simp only at hop hlt23;refine Zsf @encOf.eq_1 ?_;have hlv:=Z6ba op hlt23
 have hi23:(op:Int)<23:=by omega
 refine Z1f (zi hi23 (zi @Int.natCast_nonneg (zi hlv @Nat.zero_add))) ?_;refine Z5 ?_
 cases ok with
 | false =>
  rw [hop.1 (.inr rfl)] at hP;refine Z1 ?_;refine Ze rfl (fun h9=>?_) (fun h9=>?_)
  ·refine Z ?_
   rw [hP];exact ⟨rfl,gz,zr,zr⟩
  ·cases h9
 | true =>
 by_cases hk:k=0
 ·have e1:(k==0)=true:=by simpa using hk
  rw [hop.1 (.inl hk)] at hP;refine Z1f e1 ?_;refine Ze rfl (fun h9=>?_) (fun h9=>?_)
  ·refine Z ?_
   rw [hP];exact ⟨rfl,gz,zr,zr⟩
  ·cases h9
 have e1:(k==0)=false:=by simpa using hk
 have hoa:=hop.2 hk rfl;rw [hoa] at hP;simp only at hP;obtain ⟨hl1,hl8⟩:=hbnd op hoa;have hil:=hilt op hoa;generalize lvl op=lv at hP hl1 hl8 ⊢
 by_cases hlt:lv<n
 ·have e2:decide (lv<n)=true:=by simpa using hlt
  rw [if_pos hlt] at hP;refine Z1f (zi e1 e2) ?_;refine Ze rfl (fun h9=>?_) (fun h9=>?_)
  ·refine Z ?_
   rw [hP];exact ⟨rfl,gz,zr,zr⟩
  ·cases h9
 have e2:decide (lv<n)=false:=by simpa using hlt
 rw [if_neg hlt] at hP;refine Z1f (zi e1 e2) ?_;refine Z0 ?_
 have hw:IntKind.i64.wrap ((q.i:Int)+1)=((q.i+1:Nat):Int):=by rw [w64 (by omega) (by omega)];omega
 have hw2:IntKind.i64.wrap (lv+1)=lv+1:=w64 (by omega) (by omega);have hadv:Zrm sl.l q.adv:=(Bal.adv hil).ok hq;have hc:=ih (lv+1) q.adv (by omega) (by omega) (by show sl.l.length<f+(q.i+1);omega) hadv;have hcb:=hbs (lv+1) q.adv;generalize Z3 sl.l f (lv+1) q.adv=z at hP hc hcb;obtain ⟨b,a⟩:=z;simp only at hc hcb;have ha:=hcb.ok hadv;have haup:q.i+1≤a.i:=hcb.up
 have han:a.nodes.length<1000000:=by have:=ha.1;have:=ha.2;omega
 refine Z1 ?_;refine Zaa hG (Zaj G hG sl g q hqn) (gx:=gz) fun gz1=>?_;refine Zu ?_;refine Z1f (zi @Z0a hw) ?_;refine Z5 ?_
 cases b with
 | false =>
  rw [Zya] at hP;refine Z1f (zi @Z0a hw2) ?_;refine Zaa hG (hc) (gx:=gz1) fun gz2=>?_;refine Zu ?_;refine Ze rfl (fun h11=>?_) (fun h11=>?_)
  ·refine Z ?_
   rw [hP];exact ⟨rfl,gz2,zr,zr⟩
  ·cases h11
 | true =>
  rw [Z6] at hP;refine Z1f (zi @Z0a hw2) ?_;refine Zaa hG (hc) (gx:=gz1) fun gz2=>?_;refine Zu ?_;refine Z1 ?_;refine Zaa hG (Zaj G hG sl g a han) (gx:=gz2) fun gz3=>?_;refine Zu ?_;intro g63;refine Zdc (fun o=>o==1063) [.ptr 8 g 0,Z8 ⟨op,0,[],0,0,0⟩,.slice .new false 1 [.int .i64 q.last,.int .i64 a.last]] [(8,rdO 1031 [.func (.func 78) [] []] sl g gz3 a),(1031,ndO gz3 a.nodes),(1005,.cells .new g5 0 tabC)] ⟨Zd _,Zd _,?_,trivial⟩ ?_ ?_
  ·exact Zaf (f:=V.int .i64) (l:=[q.last,a.last]) (m:=1) (g:=g63) (fz:=0) (c := .new) rfl zp (fun _=>rfl)
  ·simp only [Zl,Zt,and_true]
   exact ⟨FzO.keep rfl zp,FzO.keep rfl zp,FzO.keep rfl zp⟩
  refine Zaa hG (Zel G hG sl g a han ⟨op,0,[],0,0,0⟩ .old (.mk false [q.last,a.last]) (Nat.le_of_ble_eq_true rfl)) (gx:=gz3) fun gz4=>?_;refine Zu ?_
  have hres:Zrm sl.l (a.put ⟨op,0,[],q.last,a.last,-1⟩):=⟨ha.1,by
   have h1:=hcb.cnt;have h2:=hq.2
   show (a.nodes++[_]).length≤a.i
   rw [List.length_append,List.length_singleton];have h3:a.nodes.length+(q.i+1)+0≤q.nodes.length+a.i:=h1
   omega⟩
  refine hL3 _ ⟨(gz4,m,a.put ⟨op,0,[],q.last,a.last,-1⟩),Nat.lt_succ_self _,⟨hP,hres,?_,?_⟩,Zb zp (by simp -implicitDefEqProofs only[go_sem,seval];exact ⟨rfl,rfl⟩)⟩
  ·show r.i≤a.i
   omega
  ·show sl.l.length<m+a.i
   omega
end Go.Hs
end

section
namespace Go.Hs
def Zbb (rec:Int→Int) (has:Bool) (place last:Int):Option Int :=
 if has=false then (if place ≠ -1 then none else some last)
 else if place≠last then none else if rec last<0 then none else some (rec last-1)
def Zcy (l:List XN) (i:Int):Option XN:=if i<0 then none else l[i.toNat]?
def Z7h (l:List XN):Nat→Int→Int
 | 0,_ => -1
 | f+1,i=>match Zcy l i with
  | none => -1
  | some n=>bif Zod n then
   match Zbb (Z7h l f) (Nat.blt 2 (Zw n.op)) n.c (i-1) with
   | none => -1
   | some l2=>match Zbb (Z7h l f) (Nat.blt 1 (Zw n.op)) n.b l2 with
    | none => -1
    | some l1=>match Zbb (Z7h l f) (Nat.blt 0 (Zw n.op)) n.a l1 with
     | none => -1
     | some l0=>l0+1
   else -1
theorem Zvaa (l:List XN):∀ f i,-1≤Z7h l f i
 | 0,_=>by simp [Z7h]
 | f+1,i=>by
  have ih:=Zvaa l f
  have hs:∀ has place last q,Zbb (Z7h l f) has place last=some q→q=last ∨ -1≤q:=by
   intro has place last q h;unfold Zbb at h
   split at h
   ·split at h
    ·cases h
    ·cases h;exact .inl rfl
   ·split at h
    ·cases h
    ·split at h
     ·cases h
     ·cases h;right;omega
  rw [Z7h]
  cases hn:Zcy l i with
  | none=>simp
  | some n =>
   simp only
   have hi:0≤i:=by unfold Zcy at hn;split at hn;cases hn;omega
   cases Zod n with
   | false=>simp
   | true =>
    simp only [cond_true]
    cases h2:Zbb (Z7h l f) (Nat.blt 2 (Zw n.op)) n.c (i-1) with
    | none=>simp
    | some l2 =>
     simp only
     cases h1:Zbb (Z7h l f) (Nat.blt 1 (Zw n.op)) n.b l2 with
     | none=>simp
     | some l1 =>
      simp only
      cases h0:Zbb (Z7h l f) (Nat.blt 0 (Zw n.op)) n.a l1 with
      | none=>simp
      | some l0 =>
       simp only;have a2:=hs _ _ _ _ h2;have a1:=hs _ _ _ _ h1;have a0:=hs _ _ _ _ h0;omega
def At (l:List XN) (x:X) (b:Nat):Prop:=∃ pre post,l=pre++x.row b++post∧pre.length=b
theorem X.row_top:∀ (x:X) (k:Int),∃ body,x.row k=body++[x.top k]∧body.length+1=x.size
 | .leaf op num name,k=>⟨[],rfl,rfl⟩
 | .un op a,k=>⟨a.row k,rfl,by rw [X.row_len];rfl⟩
 | .bin op a b,k=>⟨a.row k++b.row (k+a.size),rfl,by rw [List.length_append,X.row_len,X.row_len];rfl⟩
 | .ite a b c,k=>⟨a.row k++b.row (k+a.size)++c.row (k+a.size+b.size),rfl,by rw [List.length_append,List.length_append,X.row_len,X.row_len,X.row_len];rfl⟩
theorem At.top {l:List XN} {x:X} {b:Nat} (h:At l x b):Zcy l ((b:Int)+x.size-1)=some (x.top b):=by
 obtain ⟨pre,post,rfl,hb⟩:=h;obtain ⟨body,h1,h2⟩:=x.row_top b;unfold Zcy;rw [if_neg (by omega)]
 have:((b:Int)+x.size-1).toNat=(pre++body).length:=by rw [List.length_append];omega
 rw [this,h1,show pre++(body++[x.top b])++post=(pre++body)++(x.top b::post) by simp];rw [List.getElem?_append_right (Nat.le_refl _)];simp
theorem At.get {l:List XN} {x:X} {b:Nat} (h:At l x b):l[b+x.size-1]? = some (x.top b):=by
 have:=h.top;unfold Zcy at this;have hp:=x.size_pos;rw [if_neg (by omega)] at this;rw [← this];congr 1;omega
theorem At.un {l:List XN} {op:Int} {a:X} {b:Nat} (h:At l (.un op a) b):At l a b:=by
 obtain ⟨pre,post,rfl,hb⟩:=h;exact ⟨pre,_,by simp only [X.row,List.append_assoc];rfl,hb⟩
theorem At.bin {l:List XN} {op:Int} {x y:X} {b:Nat} (h:At l (.bin op x y) b):At l x b∧At l y (b+x.size):=by
 obtain ⟨pre,post,rfl,hb⟩:=h;refine ⟨⟨pre,y.row (b+x.size)++[X.top (.bin op x y) b]++post,by simp only [X.row,List.append_assoc];rfl,hb⟩,⟨pre++x.row b,[X.top (.bin op x y) b]++post,?_,by rw [List.length_append,X.row_len,hb]⟩⟩;simp only [X.row,List.append_assoc];rfl
theorem At.ite {l:List XN} {x y z:X} {b:Nat} (h:At l (.ite x y z) b):At l x b∧At l y (b+x.size)∧At l z (b+x.size+y.size):=by
 obtain ⟨pre,post,rfl,hb⟩:=h;refine ⟨⟨pre,y.row (b+x.size)++z.row (b+x.size+y.size)++[X.top (.ite x y z) b]++post,by simp only [X.row,List.append_assoc];rfl,hb⟩,⟨pre++x.row b,z.row (b+x.size+y.size)++[X.top (.ite x y z) b]++post,?_,by rw [List.length_append,X.row_len,hb]⟩,⟨pre++x.row b++y.row (b+x.size),[X.top (.ite x y z) b]++post,?_,by rw [List.length_append,List.length_append,X.row_len,X.row_len,hb]⟩⟩
 ·simp only [X.row,List.append_assoc];rfl
 ·simp only [X.row,List.append_assoc];rfl
theorem Zjn (rec:Int→Int) (last:Int):Zbb rec false (-1) last=some last:=rfl
theorem Zte {rec:Int→Int} {last:Int} (h:0≤rec last):Zbb rec true last last=some (rec last-1):=by
 unfold Zbb;rw [if_neg (by simp),if_neg (by simp),if_neg (by omega)]
theorem Z5k:∀ (x:X) (l:List XN) (b f:Nat),x.ok=true→At l x b→x.size≤f→Z7h l f ((b:Int)+x.size-1)=b
 | .leaf op num name,l,b,f,hok,h,hf=>by
  unfold X.ok at hok;simp only [Bool.and_eq_true,decide_eq_true_eq] at hok;obtain ⟨f,rfl⟩:∃ f',f=f'+1:=⟨f-1,by simp only [X.size] at hf;omega⟩;rw [Z7h,h.top];simp only [X.top]
  have hp:Zw op=0:=by unfold Zw;rw [if_pos hok.2]
  rw [hok.1,hp,cond_true];simp only [show Nat.blt 2 0=false from rfl,show Nat.blt 1 0=false from rfl,show Nat.blt 0 0=false from rfl,Zjn,X.size];omega
 | .un op a,l,b,f,hok,h,hf=>by
  unfold X.ok at hok;simp only [Bool.and_eq_true,decide_eq_true_eq] at hok;simp only [X.size] at hf;obtain ⟨f,rfl⟩:∃ f',f=f'+1:=⟨f-1,by omega⟩;have ia:=Z5k a l b f hok.2 h.un (by omega);rw [Z7h,h.top];simp only [X.top]
  have hp:Zw op=1:=by unfold Zw;rw [if_neg (by omega),if_pos (by omega)]
  rw [Zqh (by omega),hp,cond_true]
  have e:(b:Int)+(X.un op a).size-1-1=b+a.size-1:=by simp only [X.size];omega
  simp only [show Nat.blt 2 1=false from rfl,show Nat.blt 1 1=false from rfl,show Nat.blt 0 1=true from rfl,Zjn,e];rw [Zte (by rw [ia];omega),ia];simp
 | .bin op x y,l,b,f,hok,h,hf=>by
  unfold X.ok at hok;simp only [Bool.and_eq_true,decide_eq_true_eq] at hok;simp only [X.size] at hf;obtain ⟨f,rfl⟩:∃ f',f=f'+1:=⟨f-1,by omega⟩;have ix:=Z5k x l b f hok.1.2 h.bin.1 (by omega);have iy:=Z5k y l (b+x.size) f hok.2 h.bin.2 (by omega);rw [Z7h,h.top];simp only [X.top]
  have hp:Zw op=2:=by unfold Zw;rw [if_neg (by omega),if_neg (by omega),if_pos (by omega)]
  rw [Zqh (by omega),hp,cond_true]
  have e:(b:Int)+(X.bin op x y).size-1-1=b+x.size+y.size-1:=by simp only [X.size];omega
  have ey:((b+x.size:Nat):Int)=b+x.size:=by omega
  rw [ey] at iy;simp only [show Nat.blt 2 2=false from rfl,show Nat.blt 1 2=true from rfl,show Nat.blt 0 2=true from rfl,Zjn,e];rw [Zte (by rw [iy];omega),iy];simp only;rw [Zte (by rw [ix];omega),ix];simp
 | .ite x y z,l,b,f,hok,h,hf=>by
  unfold X.ok at hok;simp only [Bool.and_eq_true] at hok;simp only [X.size] at hf;obtain ⟨f,rfl⟩:∃ f',f=f'+1:=⟨f-1,by omega⟩;have ix:=Z5k x l b f hok.1.1 h.ite.1 (by omega);have iy:=Z5k y l (b+x.size) f hok.1.2 h.ite.2.1 (by omega);have iz:=Z5k z l (b+x.size+y.size) f hok.2 h.ite.2.2 (by omega);rw [Z7h,h.top];simp only [X.top];rw [Zqh (by omega),show Zw 22=3 from rfl,cond_true]
  have e:(b:Int)+(X.ite x y z).size-1-1=b+x.size+y.size+z.size-1:=by simp only [X.size];omega
  have ey:((b+x.size:Nat):Int)=b+x.size:=by omega
  have ez:((b+x.size+y.size:Nat):Int)=b+x.size+y.size:=by omega
  rw [ey] at iy;rw [ez] at iz;simp only [show Nat.blt 2 3=true from rfl,show Nat.blt 1 3=true from rfl,show Nat.blt 0 3=true from rfl,e];rw [Zte (by rw [iz];omega),iz];simp only;rw [Zte (by rw [iy];omega),iy];simp only;rw [Zte (by rw [ix];omega),ix];simp
theorem Z0b {rec:Int→Int} {has:Bool} {place last q:Int} (h:Zbb rec has place last=some q):has=false∧place = -1∧q=last∨has=true∧place=last∧0≤rec last∧q=rec last-1:=by
 unfold Zbb at h
 split at h
 ·rename_i h1
  split at h
  ·cases h
  ·rename_i h2;cases h;exact .inl ⟨h1,by simpa using h2,rfl⟩
 ·rename_i h1
  split at h
  ·cases h
  ·rename_i h2
   split at h
   ·cases h
   ·rename_i h3;cases h;exact .inr ⟨by simpa using h1,by simpa using h2,by omega,rfl⟩
theorem At.glue {l:List XN} {x:X} {b:Nat} (h:At l x b):∃ pre,l.take (b+x.size)=pre++x.row b∧pre.length=b:=by
 obtain ⟨pre,post,rfl,hb⟩:=h;refine ⟨pre,?_,hb⟩;rw [List.take_append_of_le_length (by rw [List.length_append,X.row_len];omega),List.take_of_length_le (by rw [List.length_append,X.row_len];omega)]
theorem Z3j {l:List XN} {x:X} {b:Nat} {pre:List XN} (h:l.take (b+x.size)=pre++x.row b) (hb:pre.length=b):At l x b :=
 ⟨pre,l.drop (b+x.size),by rw [← h,List.take_append_drop],hb⟩
theorem Z28 {l:List XN} {i:Int} {n:XN} (h:Zcy l i=some n):0≤i∧l[i.toNat]? = some n∧i.toNat<l.length:=by
 unfold Zcy at h
 split at h
 ·cases h
 ·have:=List.getElem?_eq_some_iff.1 h
  exact ⟨by omega,h,this.1⟩
theorem Z6e (l:List XN):∀ (f:Nat) (i:Int),0≤Z7h l f i→∃ (x:X) (b:Nat),x.ok=true∧At l x b∧Z7h l f i=b∧(b:Int)+x.size=i+1
 | 0,i,h=>by simp [Z7h] at h
 | f+1,i,h=>by
  rw [Z7h] at h ⊢
  cases hn:Zcy l i with
  | none=>rw [hn] at h;simp at h
  | some n =>
   rw [hn] at h;obtain ⟨hi,hg,hlt⟩:=Z28 hn;simp only at h ⊢
   cases hw:Zod n with
   | false=>rw [hw] at h;simp at h
   | true =>
   rw [hw,cond_true] at h;rw [cond_true];have hrg:=Zke hw
   have htk:l.take (i.toNat+1)=l.take i.toNat++[n]:=by rw [List.take_add_one,hg];rfl
   cases h2:Zbb (Z7h l f) (Nat.blt 2 (Zw n.op)) n.c (i-1) with
   | none=>rw [h2] at h;simp at h
   | some l2 =>
   rw [h2] at h;simp only at h ⊢
   cases h1:Zbb (Z7h l f) (Nat.blt 1 (Zw n.op)) n.b l2 with
   | none=>rw [h1] at h;simp at h
   | some l1 =>
   rw [h1] at h;simp only at h ⊢
   cases h0:Zbb (Z7h l f) (Nat.blt 0 (Zw n.op)) n.a l1 with
   | none=>rw [h0] at h;simp at h
   | some l0 =>
   rw [h0] at h;simp only at h ⊢;obtain ⟨op,num,name,a,b,c⟩:=n;simp only at h2 h1 h0 hrg
   by_cases h4:op≤4
   ·have hp:Zw op=0:=by unfold Zw;rw [if_pos h4]
    rw [hp] at h2 h1 h0
    obtain ⟨_,rfl,rfl⟩ | ⟨hh,_⟩:=Z0b h2
    rotate_left
    ·exact absurd hh (by decide)
    obtain ⟨_,rfl,rfl⟩ | ⟨hh,_⟩:=Z0b h1
    rotate_left
    ·exact absurd hh (by decide)
    obtain ⟨_,rfl,rfl⟩ | ⟨hh,_⟩:=Z0b h0
    rotate_left
    ·exact absurd hh (by decide)
    refine ⟨.leaf op num name,i.toNat,by unfold X.ok;rw [hw];simp;omega,Z3j (pre:=l.take i.toNat) (by rw [X.size,htk];rfl) (by rw [List.length_take];omega),by omega,by simp only [X.size];omega⟩
   have hnn:=Zd3 hw (show op≠1 by omega);simp only at hnn;obtain ⟨rfl,hnm,_⟩:=hnn;obtain rfl:=hnm (by omega)
   by_cases h6:op≤6
   ·have hp:Zw op=1:=by unfold Zw;rw [if_neg h4,if_pos h6]
    rw [hp] at h2 h1 h0
    obtain ⟨_,rfl,rfl⟩ | ⟨hh,_⟩:=Z0b h2
    rotate_left
    ·exact absurd hh (by decide)
    obtain ⟨_,rfl,rfl⟩ | ⟨hh,_⟩:=Z0b h1
    rotate_left
    ·exact absurd hh (by decide)
    obtain ⟨hh,_⟩ | ⟨_,rfl,hr,rfl⟩:=Z0b h0
    ·exact absurd hh (by decide)
    obtain ⟨x,bx,ok1,at1,e1,s1⟩:=Z6e l f _ hr;obtain ⟨pre,g1,g2⟩:=at1.glue;refine ⟨.un op x,bx,by unfold X.ok;rw [ok1];simp;omega,Z3j (pre:=pre) ?_ g2,by omega,by simp only [X.size];omega⟩;rw [show bx+(X.un op x).size=i.toNat+1 by simp only [X.size];omega,htk,show i.toNat=bx+x.size by omega,g1,X.row,List.append_assoc]
    congr 4;omega
   by_cases h21:op≤21
   ·have hp:Zw op=2:=by unfold Zw;rw [if_neg h4,if_neg h6,if_pos h21]
    rw [hp] at h2 h1 h0
    obtain ⟨_,rfl,rfl⟩ | ⟨hh,_⟩:=Z0b h2
    rotate_left
    ·exact absurd hh (by decide)
    obtain ⟨hh,_⟩ | ⟨_,rfl,hr1,rfl⟩:=Z0b h1
    ·exact absurd hh (by decide)
    obtain ⟨hh,_⟩ | ⟨_,rfl,hr0,rfl⟩:=Z0b h0
    ·exact absurd hh (by decide)
    obtain ⟨y,by',ok1,at1,e1,s1⟩:=Z6e l f _ hr1;rw [e1] at hr0 h0 h ⊢;obtain ⟨x,bx,ok0,at0,e0,s0⟩:=Z6e l f _ hr0;obtain ⟨prey,gy1,gy2⟩:=at1.glue;obtain ⟨prex,gx1,gx2⟩:=at0.glue
    have eby:by'=bx+x.size:=by omega
    have hpy:prey=prex++x.row bx:=by
     have:(l.take (by'+y.size)).take by'=prey:=by rw [gy1,List.take_left' gy2]
     rw [← this,List.take_take,Nat.min_eq_left (by omega),eby,gx1]
    refine ⟨.bin op x y,bx,by unfold X.ok;rw [ok1,ok0];simp;omega,Z3j (pre:=prex) ?_ gx2,by omega,by simp only [X.size];omega⟩;rw [show bx+(X.bin op x y).size=i.toNat+1 by simp only [X.size];omega,htk,show i.toNat=by'+y.size by omega,gy1,hpy,X.row,eby];simp only [List.append_assoc]
    congr 5<;>omega
   ·have hp:Zw op=3:=by unfold Zw;rw [if_neg h4,if_neg h6,if_neg h21]
    obtain rfl:op=22:=by omega
    rw [hp] at h2 h1 h0
    obtain ⟨hh,_⟩ | ⟨_,rfl,hr2,rfl⟩:=Z0b h2
    ·exact absurd hh (by decide)
    obtain ⟨z,bz,ok2,at2,e2,s2⟩:=Z6e l f _ hr2;rw [e2] at h1
    obtain ⟨hh,_⟩ | ⟨_,rfl,hr1,rfl⟩:=Z0b h1
    ·exact absurd hh (by decide)
    obtain ⟨y,by',ok1,at1,e1,s1⟩:=Z6e l f _ hr1;rw [e1] at h0
    obtain ⟨hh,_⟩ | ⟨_,rfl,hr0,rfl⟩:=Z0b h0
    ·exact absurd hh (by decide)
    obtain ⟨x,bx,ok0,at0,e0,s0⟩:=Z6e l f _ hr0;obtain ⟨prez,gz1,gz2⟩:=at2.glue;obtain ⟨prey,gy1,gy2⟩:=at1.glue;obtain ⟨prex,gx1,gx2⟩:=at0.glue
    have eby:by'=bx+x.size:=by omega
    have ebz:bz=bx+x.size+y.size:=by omega
    have hpy:prey=prex++x.row bx:=by
     have:(l.take (by'+y.size)).take by'=prey:=by rw [gy1,List.take_left' gy2]
     rw [← this,List.take_take,Nat.min_eq_left (by omega),eby,gx1]
    have hpz:prez=prey++y.row by':=by
     have:(l.take (bz+z.size)).take bz=prez:=by rw [gz1,List.take_left' gz2]
     rw [← this,List.take_take,Nat.min_eq_left (by omega),show bz=by'+y.size by omega,gy1]
    refine ⟨.ite x y z,bx,by unfold X.ok;rw [ok2,ok1,ok0];rfl,Z3j (pre:=prex) ?_ gx2,by omega,by simp only [X.size];omega⟩;rw [show bx+(X.ite x y z).size=i.toNat+1 by simp only [X.size];omega,htk,show i.toNat=bz+z.size by omega,gz1,hpz,hpy,X.row,ebz,eby];simp only [List.append_assoc]
    congr 6<;>omega
def Zxx (l:List XN):Bool:=Z7h l l.length ((l.length:Int)-1)==0
theorem Z9h (x:X):At (x.row 0) x 0:=⟨[],[],by simp,rfl⟩
theorem Zzm {l:List XN}:Zxx l=true ↔ ∃ x:X,x.ok=true∧l=x.row 0:=by
 unfold Zxx;rw [beq_iff_eq]
 constructor
 ·intro h
  obtain ⟨x,b,h1,h2,h3,h4⟩:=Z6e l l.length ((l.length:Int)-1) (by omega)
  obtain rfl:b=0:=by omega
  obtain ⟨pre,post,rfl,hb⟩:=h2;obtain rfl:=List.length_eq_zero_iff.1 hb
  have hl:post.length=0:=by
   simp only [List.nil_append,List.length_append,X.row_len] at h4;omega
  obtain rfl:=List.length_eq_zero_iff.1 hl;exact ⟨x,h1,by simp⟩
 ·rintro ⟨x,hx,rfl⟩
  have:=Z5k x (x.row 0) 0 (x.row 0).length hx (Z9h x) (by rw [X.row_len];exact Nat.le_refl _);rw [X.row_len] at this ⊢;simpa using this
theorem Zpk (l:List XN):Zxx l=decide (Znb l≠0):=by
 rw [Bool.eq_iff_iff,Zzm,decide_eq_true_iff]
 constructor
 ·rintro ⟨x,hx,rfl⟩
  rw [Zgm hx];have:=x.depth_pos;omega
 ·exact Zin
end Go.Hs
end

section
namespace Go.Hs
open Go.Proofs
set_option maxRecDepth 10000
theorem Zf1 (G:Nat→V) (hG:GOk G) (ca cb:Col) (a b:Sl Int) (ha:a.l.length<1000000000) :
  Spec Tryz.prog G 43 [Za ca 1 (V.int .i64) a,Za cb 1 (V.int .i64) b] Zm (fun v _=>v = .bool (a.l==b.l)):=by
 refine Zo 0 26 [.tmp 4] Tryz.func43 fun X=>?_;refine Z1 ?_;refine Z1 ?_;refine Ze rfl (fun h2=>?_) (fun h2=>?_)
 ·
  refine Z ?_;simp at h2 ⊢;intro e;rw [e] at h2;exact h2 rfl
 ·
  refine Z0 ?_
  have hl:a.l.length=b.l.length:=by simp at h2;omega
  refine Z1 ?_;refine AW.block ?_
  refine Zwa a.l.length (fun k (_:Unit)=>st [(0,Za ca 1 (V.int .i64) a),(1,Za cb 1 (V.int .i64) b),(12,.int .i64 a.l.length),(13,.int .i64 k)] []) (fun k _=>a.l.take k=b.l.take k) 0 () (Nat.zero_le _) (by simp)
   (Zb (by simp -implicitDefEqProofs only[go_sem,seval];try simp) zp) ?_
  intro k _ hk hR L4 hL4;refine Z1 ?_;refine Z5 ?_;refine Ze rfl (fun h6=>?_) (fun h6=>?_)
  ·
   refine Z0 ?_
   have hk1:k<a.l.length:=by simpa using h6
   have hk2:k<b.l.length:=by omega
   refine Z1 ?_
   refine Z5 <| Zy ⟨fun _ => .top,fun _ => .pure⟩ zk hG zk zk ?_
   simp -implicitDefEqProofs only[go_sem,seval,List.getElem?_eq_getElem hk1,List.getElem?_eq_getElem hk2];refine Ze rfl (fun h8=>?_) (fun h8=>?_)
   ·
    refine Z ?_;simp at h8;simp;intro e;simp [e] at h8
   ·
    refine Z0 ?_
    have h3':a.l[k]=b.l[k]:=by simpa using h8
    refine Z1 ?_;refine hL4 _ ⟨hk1,(),?_,Zb (by simp -implicitDefEqProofs only[go_sem,seval];simp;exact w64 (by omega) (by omega)) zp⟩;rw [List.take_succ_eq_append_getElem hk1,List.take_succ_eq_append_getElem hk2,hR,h3']
  ·
   refine Z0 ?_
   have hk1:k=a.l.length:=by simp at h6;omega
   refine Z ?_;subst hk1;rw [List.take_length,hl,List.take_length] at hR;simp [hR]
theorem Zx4 (G:Nat→V) (hE:GExp G) (n:XN) (hn:n.name.length<100000):Spec Tryz.prog G 42 [Z8 n] Zm (fun v _=>v = .bool (Zod n)):=by
 have hG:=hE.ok;refine Zo 0 43 [.tmp 2] Tryz.func42 fun X=>?_
 have hW:Zod n=if n.op<1∨n.op > 22∨n.num<0 then false else if n.op=2 then n.num==0 && isP n.name==2 else n.name==[] && (n.op==1 || n.num==0):=rfl
 obtain ⟨op,num,name,a,b,c⟩:=n;simp only at hn hW;simp only [Zp];refine Zx fun K hK=>AW.region zk ?_;refine Zs ?_;intro g1;refine hK _ ?_
 try clear hK K
 refine Zha (fun (_:Unit)=>st [(1,.ptr 1 g1 0)] [(1,.cells .new g1 0 [.int .u8 op,.int .i64 num,.str name,.int .i64 a,.int .i64 b,.int .i64 c])]) (fun _=>¬ (op<1∨op > 22∨num<0)∧op≠2) (fun K1 hK1=>?_) ?_
 ·refine AW.block ?_
  by_cases h0:op<1∨op > 22∨num<0
  ·rw [if_pos h0] at hW
   have key:∀ K:AS→Prop,(K (st [(1,.ptr 1 g1 0),(3,.bool true)] [(1,.cells .new g1 0 [.int .u8 op,.int .i64 num,.str name,.int .i64 a,.int .i64 b,.int .i64 c])]))→True:=fun _ _=>trivial
   cases h1:decide (op<1)<;>cases h2:decide (op > 22)<;>cases h3:decide (num<0)
   ·simp only [decide_eq_false_iff_not] at h1 h2 h3
    rcases h0 with h | h | h
    ·exact absurd h h1
    ·exact absurd h h2
    ·exact absurd h h3
   all_goals
    (refine Zx fun K hK=>AW.region zk ?_;simp -implicitDefEqProofs only[go_sem,seval,h1,h2,h3];refine hK _ ?_;clear hK K)
    refine Ze (b:=true) zp (fun _=>?_) (fun h=>by cases h)
    (refine Zx fun K hK=>AW.region zk ?_;simp -implicitDefEqProofs only[go_sem,seval];refine hK _ ?_;clear hK K)
    (refine AW.ret ?_;simp -implicitDefEqProofs only[go_sem,seval];refine Zmb ?_)
    rw [hW]
  ·have h1:decide (op<1)=false:=by rw [decide_eq_false_iff_not];exact fun h=>h0 (.inl h)
   have h2:decide (op > 22)=false:=by rw [decide_eq_false_iff_not];exact fun h=>h0 (.inr (.inl h))
   have h3:decide (num<0)=false:=by rw [decide_eq_false_iff_not];exact fun h=>h0 (.inr (.inr h))
   rw [if_neg h0] at hW;refine Zx fun K hK=>AW.region zk ?_;refine Zsf (zi h1 (zi h2 h3)) ?_;refine hK _ ?_
   try clear hK K
   refine Zkc rfl ?_
   try clear h4
   refine Zx fun K hK=>AW.region zk ?_;refine Zs ?_;refine hK _ ?_
   try clear hK K
   refine Ze rfl (fun h5=>?_) (fun h5=>?_)
   ·have h5:op=2:=by simpa using h5
    rw [if_pos h5] at hW
    cases h6:(num==0) with
    | false =>
     refine Zx fun K hK=>AW.region zk ?_;refine Zsf h6 ?_;refine hK _ ?_
     try clear hK K
     refine Z ?_
     rw [hW,h6]<;>rfl
    | true =>
     refine Zx fun K hK=>AW.region zk ?_;refine Zsf h6 ?_;refine Zc hG ?_ (s:=(Zqo G hE name (by omega)));refine hK _ ?_
     try clear hK K
     refine Z ?_;rw [hW,h6,Bool.true_and];generalize isP name=z
     cases hz:(z==2) with
     | true =>
      have:((z:Int)==2)=true:=by rw [beq_iff_eq] at hz ⊢;omega
      rw [this]
     | false =>
      have:((z:Int)==2)=false:=by rw [beq_eq_false_iff_ne] at hz ⊢;omega
      rw [this]
   ·have h5:¬ op=2:=by simpa using h5
    refine Z0 ?_;exact hK1 _ () ⟨h0,h5⟩ (Zb zp zp)
 rintro _ ⟨h0,h5⟩;rw [if_neg h0,if_neg h5] at hW
 cases h1:(name==[])<;>cases h2:(op==1)<;>cases h3:(num==0)<;>((refine Zx fun K hK=>AW.region zk ?_;simp -implicitDefEqProofs only[go_sem,seval,h1,h2,h3];refine hK _ ?_;clear hK K);(refine AW.ret ?_;simp -implicitDefEqProofs only[go_sem,seval];refine Zmb ?_);rw [hW,h1,h2,h3]<;>rfl)
def Z3g (p:Int × Int):V := .agg [.int .i64 p.1,.int .i64 p.2]
theorem Z0k (p:Int × Int):(Z3g p).cells.length=2:=rfl
theorem Zi6 {l:List XN} {k:Nat} {n:XN} (h:l[k]? = some n) (i:Int) (opn:List (Int × Int)):Zee (l.drop k) i opn=match Z2d i n opn with | some o=>Zee (l.drop (k+1)) (i+1) o | none=>none:=by
 obtain ⟨h1,h2⟩:=List.getElem?_eq_some_iff.1 h
 rw [List.drop_eq_getElem_cons h1,h2]<;>rfl
theorem Zs8 {op:Int} (h1:1≤op) (h2:op≤22):tabC[op.toNat * 3+2]? = some (.int .i64 (Zw op:Nat)):=by
 obtain ⟨n,rfl⟩:∃ n:Nat,op=n:=⟨op.toNat,by omega⟩;rw [Int.toNat_natCast,Zk3 n (by omega) 2 (by decide)]
 have:∀ n:Nat,n<23→1≤n→(tabL.getD n ⟨[],0,0⟩).parts=(Zw n:Nat):=by decide +kernel
 rw [← this n (by omega) (by omega)]<;>rfl
theorem Z49:∀ (l:List (Int × Int)) (i:Nat) (x:Int × Int),l[i]? = some x→((flat (l.map Z3g)).drop (i * 2)).take 2=[.int .i64 x.1,.int .i64 x.2]
 | [],i,x,h=>by simp at h
 | y::r,0,x,h=>by
  have:y=x:=by simpa using h
  subst this;rfl
 | y::r,i+1,x,h=>by
  have ih:=Z49 r i x (by simpa using h);rw [← ih,List.map_cons];have:flat (Z3g y::r.map Z3g) = .int .i64 y.1 :: .int .i64 y.2::flat (r.map Z3g):=rfl;rw [this,show (i+1) * 2=i * 2+1+1 by omega,List.drop_succ_cons,List.drop_succ_cons]
def plC (l:List (Int × Int)):List V:=(Zcc l).map (V.int .i64)
theorem plC_set:∀ (l:List (Int × Int)) (j:Nat) (x:Int × Int),l[j]? = some x→j<3→Hs.setAt (plC (l.take j)) j [.int .i64 x.1]=plC (l.take (j+1)):=by
 intro l j x h hj
 match l,j,h,hj with
 | a::r,0,h,_ =>
  have:a=x:=by simpa using h
  subst this;rfl
 | a::b::r,1,h,_ =>
  have:b=x:=by simpa using h
  subst this;rfl
 | a::b::c::r,2,h,_ =>
  have:c=x:=by simpa using h
  subst this;rfl
theorem Zxy (l:List (Int × Int)) (j:Nat) (x:Int × Int) (h:l[j]? = some x):Zjc (l.take (j+1))=max (Zjc (l.take j)) x.2:=by
 unfold Zjc
 rw [List.take_add_one,h,List.foldl_append]<;>rfl
theorem plC_len (l:List (Int × Int)):(plC l).length=3:=rfl
theorem Zw5 (op:Int):Zw op≤3:=by
 unfold Zw
 split
 ·omega
 ·split
  ·omega
  ·split<;>omega
theorem Zj6 {l:List (Int × Int)} {k:Int} (hk:0≤k) (h:∀ y∈l,(0:Int)≤y.2∧y.2≤k):0≤Zjc l∧Zjc l≤k:=by
 have:∀ (l:List (Int × Int)) (d:Int),0≤d→d≤k→(∀ y∈l,(0:Int)≤y.2∧y.2≤k)→0≤l.foldl (fun d p=>max d p.2) d∧l.foldl (fun d p=>max d p.2) d≤k:=by
  intro l
  induction l with
  | nil=>intro d h1 h2 _;exact ⟨h1,h2⟩
  | cons y r ih =>
   intro d h1 h2 h3;have:=h3 y (by simp);exact ih (max d y.2) (by omega) (by omega) fun z hz=>h3 z (by simp [hz])
 exact this l 0 (Int.le_refl _) hk h
theorem Z39 (l:List (Int × Int)) (n:Nat):(flat (l.map Z3g)).take (n * 2)=flat ((l.take n).map Z3g):=by
 induction l generalizing n with
 | nil=>simp [flat]
 | cons y r ih =>
  cases n with
  | zero=>simp [flat]
  | succ n =>
   have e:flat ((y::r).map Z3g) = .int .i64 y.1 :: .int .i64 y.2::flat (r.map Z3g):=rfl
   rw [e,List.take_succ_cons,List.map_cons,show (n+1) * 2=n * 2+1+1 by omega,List.take_succ_cons,List.take_succ_cons,ih]<;>rfl
theorem Zzo (G:Nat→V) (hE:GExp G) (c:Col) (s:Sl XN) (hs:s.l.length<1000000) (hnm:∀ n∈s.l,n.name.length<100000) :
  Spec Tryz.prog G 15 [.agg [Za c 6 Z8 s]] Zm (fun v _=>v = .int .i64 (Znb s.l)):=by
 have hG:=hE.ok;refine Zo 0 81 [.tmp 2] Tryz.func15 fun X=>?_
 have hD:Znb s.l=match Zee s.l 0 [] with | some [x]=>x.2 | _=>0:=rfl
 have hnone:Zee s.l 0 []=none→Znb s.l=0:=fun h=>by rw [hD,h]
 refine Z1 ?_;intro g1;refine Z1 ?_;refine Zn hG ?_ (s:=(Zkk G hG));refine Zsf (zi @Z70 (zi @Zrt @Nat.le_refl)) ?_;intro g3;rw [Zbp _ ?hl]
 case hl=>rfl
 refine Z1 ?_;refine Z1 ?_;refine AW.block ?_
 refine Zwa s.l.length (fun k (x:Nat × List (Int × Int))=>st [(3,.ptr 3 g3 0),(4,grown 72 x.1 2 x.2),(14,Za c 6 Z8 s),(15,.int .i64 s.l.length),(16,.int .i64 k)] [(3,.cells .new g3 0 tabC),(72,Zua x.1 Z3g x.2)])
  (fun k x=>Zee s.l 0 []=Zee (s.l.drop k) k x.2∧x.2.length≤k∧∀ y∈x.2,(0:Int)≤y.2∧y.2≤k) 0 (0,[]) (Nat.zero_le _) ⟨by simp,Nat.le_refl _,by simp⟩
  (Zb zp zp) ?_
 rintro k ⟨gx,opn⟩ hk ⟨hR,hol,hdp⟩ L2 hL2
 replace hR:Zee s.l 0 []=Zee (s.l.drop k) k opn:=hR
 replace hol:opn.length≤k:=hol
 replace hdp:∀ y∈opn,(0:Int)≤y.2∧y.2≤k:=hdp
 refine Z1 ?_;refine Z5 ?_;refine Ze rfl (fun h4=>?_) (fun h4=>?_)
 ·have hk1:k<s.l.length:=by simpa using h4
  have hg:=List.getElem?_eq_getElem hk1;have hnn:=hnm _ (List.getElem_mem hk1);generalize s.l[k]=n at hg hnn;rw [Zi6 hg] at hR;refine Z1f (zi hg @Zp) ?_;intro g6;refine Z1 ?_;rw [← Zp];refine Zcf @Zhj hG ?_ (s:=(Zx4 G hE n hnn))
  have hst:Z2d k n opn=if Zod n=false then none else if opn.length<Zw n.op then none
   else if Zcc (opn.drop (opn.length-Zw n.op))≠[n.a,n.b,n.c] then none
   else some (opn.take (opn.length-Zw n.op)++[((k:Int),Zjc (opn.drop (opn.length-Zw n.op))+1)]):=rfl
  cases hw:Zod n with
  | false =>
   rw [if_pos hw] at hst;rw [hst] at hR;refine Ze rfl (fun h7=>?_) (fun h7=>?_)
   ·refine Z ?_
    rw [hnone hR]
   ·cases h7
  | true =>
  rw [if_neg (by rw [hw];simp)] at hst;refine Z0 ?_;have hrg:=Zke hw;have hpt:=Zs8 hrg.1 hrg.2;have hp3:Zw n.op≤3:=Zw5 _;generalize hpd:Zw n.op=p at hst hpt hp3
  have hop0:(0:Int)≤n.op:=by omega
  have hop23:n.op<23:=by omega
  have hsub:IntKind.i64.wrap ((opn.length:Int)-(p:Int))=(opn.length:Int)-p:=w64 (by omega) (by omega);refine Z1f (zi hop0 (zi hop23 (zi hpt (zi hsub @Nat.zero_add)))) ?_;refine Z5 ?_
  by_cases hlt:opn.length<p
  ·have e1:decide ((opn.length:Int)-p<0)=true:=zT
   rw [if_pos hlt] at hst;rw [hst] at hR;refine Z1f e1 ?_;refine Ze rfl (fun h9=>?_) (fun h9=>?_)
   ·refine Z ?_
    rw [hnone hR]
   ·cases h9
  have e1:decide ((opn.length:Int)-p<0)=false:=zF;rw [if_neg hlt] at hst;refine Z1f e1 ?_;refine Z0 ?_;obtain ⟨kk,hkk⟩:∃ kk:Nat,kk=opn.length-p:=⟨_,rfl⟩;rw [← hkk] at hst
  have hkd:(opn.length:Int)-p=(kk:Int):=by omega
  rw [hkd];refine Z1 ?_;intro g34
  have hkl:kk+p=opn.length:=by omega
  refine Zha (fun (_:Unit)=>st [(3,.ptr 3 g3 0),(4,grown 72 gx 2 opn),(5,.int .i64 k),(6,.ptr 6 g6 0),(7,.int .i64 kk),(8,.msl 34 g34 0 3 1),(9,.int .i64 (Zjc (opn.drop kk))),(14,Za c 6 Z8 s),(15,.int .i64 s.l.length),(16,.int .i64 k)]
    [(3,.cells .new g3 0 tabC),(72,Zua gx Z3g opn),(6,.cells .new g6 0 [.int .u8 n.op,.int .i64 n.num,.str n.name,.int .i64 n.a,.int .i64 n.b,.int .i64 n.c]),(34,.cells .new g34 0 (plC (opn.drop kk)))])
   (fun _=>True) (fun K10 hK10=>?_) ?_
  ·by_cases hp0:p=0
   ·have hdn:opn.drop kk=[]:=List.drop_eq_nil_of_le (by omega)
    rw [hdn] at hK10;subst hp0
    have hkle:kk≤opn.length:=by omega
    have hnlt:¬ kk<opn.length:=by omega
    by_cases hne:opn=[]
    ·subst hne
     have hk0:kk=0:=by simpa using hkl
     subst hk0;refine Z5c zk ?_;simp -implicitDefEqProofs only[go_sem,seval,Zed,Z8d,and_self];refine AW.block ?_
     refine Zwa 0 (fun j (_:Unit)=>st [(3,.ptr 3 g3 0),(5,.int .i64 k),(4,.nils),(6,.ptr 6 g6 0),(7,.int .i64 (0:Nat)),(8,.msl 34 g34 0 3 1),(9,.int .i64 0),(14,Za c 6 Z8 s),(15,.int .i64 s.l.length),(16,.int .i64 k),(38,.int .i64 0),(39,.int .i64 j)]
       [(3,.cells .new g3 0 tabC),(6,.cells .new g6 0 [.int .u8 n.op,.int .i64 n.num,.str n.name,.int .i64 n.a,.int .i64 n.b,.int .i64 n.c]),(34,.cells .new g34 0 (plC []))])
      (fun j _=>True) 0 () (Nat.zero_le _) trivial (Zb zp zp) ?_
     intro j _ hj _ L11 hL11
     obtain rfl:j=0:=by omega
     refine Z1 ?_;refine Z0 ?_
     ·refine Z0 ?_
      exact hK10 _ () trivial (Zb (zpf @Zed) (zpf @Z8d))
    ·have hk0:¬ kk=0:=by
      intro h
      have:opn.length=0:=by omega
      exact hne (List.length_eq_zero_iff.1 this)
     refine Z5c zk ?_;simp -implicitDefEqProofs only[go_sem,seval,Z1b 72 gx 2 hne,hkle,Nat.le_refl,and_self,hk0,hnlt];refine AW.block ?_
     refine Zwa 0 (fun j (_:Unit)=>st [(3,.ptr 3 g3 0),(4,grown 72 gx 2 opn),(5,.int .i64 k),(6,.ptr 6 g6 0),(7,.int .i64 kk),(8,.msl 34 g34 0 3 1),(9,.int .i64 0),(14,Za c 6 Z8 s),(15,.int .i64 s.l.length),(16,.int .i64 k),(38,.int .i64 0),(39,.int .i64 j)]
       [(3,.cells .new g3 0 tabC),(72,Zua gx Z3g opn),(6,.cells .new g6 0 [.int .u8 n.op,.int .i64 n.num,.str n.name,.int .i64 n.a,.int .i64 n.b,.int .i64 n.c]),(34,.cells .new g34 0 (plC []))])
      (fun j _=>True) 0 () (Nat.zero_le _) trivial (Zb (by simp -implicitDefEqProofs only[go_sem,seval];rw [Z1b 72 gx 2 hne];try exact ⟨rfl,rfl⟩) zp) ?_
     intro j _ hj _ L11 hL11
     obtain rfl:j=0:=by omega
     refine Z1 ?_;refine Z0 ?_
     ·refine Z0 ?_
      exact hK10 _ () trivial (Zb zp zp)
   ·have hne:opn≠[]:=by intro e;rw [e] at hkl;simp at hkl;omega
    have hsl:(if kk=0 then V.msl 72 gx 0 opn.length 2 else if kk<opn.length then V.msl 72 gx (kk * 2) (opn.length-kk) 2 else V.slice .any false 2 []) = .msl 72 gx (kk * 2) p 2:=by
     by_cases h0:kk=0
     ·rw [if_pos h0];congr 1<;>omega
     ·rw [if_neg h0,if_pos (by omega)];congr 1;omega
    have hkle:kk≤opn.length:=by omega
    refine Z5c zk ?_;simp -implicitDefEqProofs only[go_sem,seval,Z1b 72 gx 2 hne,hkle,Nat.le_refl,and_self,hsl,Nat.zero_add];refine AW.block ?_
    refine Zwa p (fun j (_:Unit)=>st [(3,.ptr 3 g3 0),(4,grown 72 gx 2 opn),(5,.int .i64 k),(6,.ptr 6 g6 0),(7,.int .i64 kk),(8,.msl 34 g34 0 3 1),(9,.int .i64 (Zjc ((opn.drop kk).take j))),(14,Za c 6 Z8 s),(15,.int .i64 s.l.length),(16,.int .i64 k),(37,.msl 72 gx (kk * 2) p 2),(38,.int .i64 p),(39,.int .i64 j)]
      [(3,.cells .new g3 0 tabC),(72,Zua gx Z3g opn),(6,.cells .new g6 0 [.int .u8 n.op,.int .i64 n.num,.str n.name,.int .i64 n.a,.int .i64 n.b,.int .i64 n.c]),(34,.cells .new g34 0 (plC ((opn.drop kk).take j)))])
     (fun j _=>True) 0 () (Nat.zero_le _) trivial
     (Zb (by simp -implicitDefEqProofs only[go_sem,seval];rw [Z1b 72 gx 2 hne];exact ⟨rfl,rfl⟩) zp) ?_
    intro j _ hj _ L11 hL11;refine Z1 ?_;refine Z5 ?_;refine Ze rfl (fun h13=>?_) (fun h13=>?_)
    ·have hj1:j<p:=zL h13
     refine Z0 ?_;refine Z5 ?_;refine AW.block ?_;obtain ⟨x,hx⟩:∃ x,opn[kk+j]? = some x:=⟨_,List.getElem?_eq_getElem (by omega)⟩
     have hxd:(opn.drop kk)[j]? = some x:=by rw [List.getElem?_drop];exact hx
     have hfp:=Z49 opn (kk+j) x hx;rw [show (kk+j) * 2=kk * 2+j * 2 by omega] at hfp
     have hfl:kk * 2+j * 2+2≤(flat (opn.map Z3g)).length:=by rw [Zqb (m:=2) Z0k];omega
     have hps:=plC_set (opn.drop kk) j x hxd (by omega);have hds:=Zxy (opn.drop kk) j x hxd;have hpl:=plC_len ((opn.drop kk).take j);generalize plC ((opn.drop kk).take j)=pc at hps hpl ⊢;generalize Zjc ((opn.drop kk).take j)=dd at hds ⊢
     have hj3:(j:Int)<3:=by omega
     refine Z5c zk ?_;simp -implicitDefEqProofs only[go_sem,seval,Z9b gx Z3g hne,hfp,hfl,Int.natCast_nonneg,hj1,Int.ofNat_lt];intro g11
     refine AW.weak (Zz (fun o=>o==11) (l:=[(3,.ptr 3 g3 0),(4,grown 72 gx 2 opn),(5,.int .i64 k),(6,.ptr 6 g6 0),(7,.int .i64 kk),(8,.msl 34 g34 0 3 1),(9,.int .i64 dd),(10,.int .i64 j),(11,.view .new (.agg [.int .i64 x.1,.int .i64 x.2])),(14,Za c 6 Z8 s),(15,.int .i64 s.l.length),(16,.int .i64 k),(37,.msl 72 gx (kk * 2) p 2),(38,.int .i64 p),(39,.int .i64 j)])
      (m:=[(3,.cells .new g3 0 tabC),(72,Zua gx Z3g opn),(6,.cells .new g6 0 [.int .u8 n.op,.int .i64 n.num,.str n.name,.int .i64 n.a,.int .i64 n.b,.int .i64 n.c]),(34,.cells .new g34 0 pc)]) ?_ ?_) ?_
     ·refine Zs ?_
      refine ⟨Zd _,Zd _,Zd _,Zd _,Zd _,Zd _,Zd _,Zd _,?_,Zd _,Zd _,Zd _,Zd _,Zd _,Zd _⟩;exact Fz.ptr (v := .agg [.int .i64 x.1,.int .i64 x.2]) (c := .new) (fz:=0) rfl zp
     ·simp only [Zl,Zt,and_true]
      exact ⟨FzO.keep rfl zp,FzO.keep rfl (by first | rfl | (rw [Z9b gx Z3g hne]<;>rfl) | (simp -implicitDefEqProofs only[go_sem,seval];try rfl)),FzO.keep rfl zp,FzO.keep rfl zp⟩
     refine Zy ⟨fun _ => .top,fun i=>if i=3 then .lend else if i=6 then .lend else .pure⟩ zk hG zk zk ?_
     have hjl:j+1≤pc.length:=by omega
     have hset:pc.set j (.int .i64 x.1)=plC ((opn.drop kk).take (j+1)):=hps
     have hmx:(if x.2 > dd then x.2 else dd)=max dd x.2:=by
      rw [Int.max_def];split<;>split<;>omega
     simp -implicitDefEqProofs only[go_sem,seval,hj3,Int.natCast_nonneg,Nat.mul_one,Nat.zero_le,hjl,hset,hmx,← hds];refine Z1 ?_;refine hL11 _ ⟨hj1,(),trivial,Zb zw zp⟩
    ·have hj1:j=p:=by have:=zN h13;omega
     have htk:(opn.drop kk).take j=opn.drop kk:=List.take_of_length_le (by rw [List.length_drop];omega);rw [htk];refine Z0 ?_;exact hK10 _ () trivial (Zb zp zp)
  intro _ _;refine Z5 ?_;have hpl:Zcc (opn.drop kk)=[(Zcc (opn.drop kk)).getD 0 0,(Zcc (opn.drop kk)).getD 1 0,(Zcc (opn.drop kk)).getD 2 0]:=rfl;refine Z1 ?_;intro g61;refine Ztc hG [Za .old 1 (V.int .i64) (.mk false (Zcc (opn.drop kk))),Za .old 1 (V.int .i64) (.mk false [n.a,n.b,n.c])] zk ⟨?_,?_,trivial⟩ ?_
  ·exact Rd.msl (off:=0) (n:=3) (l:=Zcc (opn.drop kk)) (f:=V.int .i64) (f':=V.int .i64) (g:=g34) (fz:=0) (c := .new) (by simp -implicitDefEqProofs only[go_sem,seval];exact congrArg (AObj.cells Col.new g34 0) (Z2s _ _).symm) (fun _=>rfl) (fun x y hy=>by simp [V.cells] at hy;subst hy;exact .int _ _) (fun _=>rfl) (by simp [Zcc])
  ·exact Rd.msl (off:=0) (n:=3) (l:=[n.a,n.b,n.c]) (f:=V.int .i64) (f':=V.int .i64) (g:=g61) (fz:=0) (c := .new) zp (fun _=>rfl) (fun x y hy=>by simp [V.cells] at hy;subst hy;exact .int _ _) (fun _=>rfl) (by simp)
  refine (Zf1 G hG _ _ (.mk false (Zcc (opn.drop kk))) (.mk false [n.a,n.b,n.c]) (by simp [Zcc,Sl.l])).mono ?_;rintro _ _ rfl;refine ⟨.bool _,?_⟩;refine Zs ?_
  cases heq:(Zcc (opn.drop kk)==[n.a,n.b,n.c]) with
  | false =>
   have heq2:Zcc (opn.drop kk)≠[n.a,n.b,n.c]:=by simpa using heq
   rw [if_pos heq2] at hst;rw [hst] at hR;refine Ze rfl (fun h12=>?_) (fun h12=>?_)
   ·refine Z ?_
    rw [hnone hR]
   ·cases h12
  | true =>
  have heq2:¬ Zcc (opn.drop kk)≠[n.a,n.b,n.c]:=by simpa using heq
  rw [if_neg heq2] at hst;rw [hst] at hR;refine Z0 ?_;have hdb:=Zj6 (l:=opn.drop kk) (k:=k) (by omega) fun y hy=>hdp y (List.mem_of_mem_drop hy);generalize Zjc (opn.drop kk)=dd at hR hdb ⊢;have hwd:IntKind.i64.wrap (dd+1)=dd+1:=w64 (by omega) (by omega)
  have hne2:opn.take kk++[((k:Int),dd+1)]≠[]:=by simp
  have hlen2:(opn.take kk++[((k:Int),dd+1)]).length=kk+1:=by rw [List.length_append,List.length_take];simp;omega
  have hdp2:∀ y∈opn.take kk++[((k:Int),dd+1)],(0:Int)≤y.2∧y.2≤(k+1:Nat):=by
   intro y hy
   rcases List.mem_append.1 hy with h | h
   ·have:=hdp y (List.mem_of_mem_take h);omega
   ·rw [List.mem_singleton.1 h];show 0≤dd+1∧dd+1≤_;omega
  by_cases hne:opn=[]
  ·subst hne
   have hk0:kk=0:=by simpa using hkk
   subst hk0;refine AW.region zk ?_;simp -implicitDefEqProofs only[go_sem,seval,Zed,Z8d,and_self,hwd];intro g71;refine Zza (f:=Z3g) (l:=([]:List (Int × Int))) (l2:=[((k:Int),dd+1)]) (g:=gx) Z0k rfl rfl rfl rfl (Zca (by omega) (by simp)) fun g2=>?_;refine Zs ?_;refine Z1 ?_;refine hL2 _ ⟨hk1,(g2,[((k:Int),dd+1)]),⟨hR,?_,hdp2⟩,Zb zw zp⟩
   show 1≤k+1
   omega
  ·have hkle:kk≤opn.length:=by omega
   refine AW.region zk ?_;simp -implicitDefEqProofs only[go_sem,seval,Z1b 72 gx 2 hne,Nat.zero_le,hkle,and_self,hwd,Z9b gx Z3g hne];intro g71;refine ⟨Zca (by omega) (by omega),by rw [Zqb (m:=2) Z0k];omega,fun g2=>?_⟩;refine Z1 ?_;refine hL2 _ ⟨hk1,(g2,opn.take kk++[((k:Int),dd+1)]),⟨hR,?_,hdp2⟩,Zb (by simp -implicitDefEqProofs only[go_sem,seval];exact ⟨by rw [Z1b _ _ _ hne2,hlen2],congrArg _ (w64 (by omega) (by omega))⟩) (by simp -implicitDefEqProofs only[go_sem,seval];rw [Z9b _ _ hne2,List.map_append,Zxg,← Z39]<;>rfl)⟩
   show (opn.take kk++[_]).length≤k+1
   rw [hlen2];omega
 ·have hk1:k=s.l.length:=by simp at h4;omega
  refine Z0 ?_;rw [hk1,List.drop_length,Zee] at hR;rw [hR] at hD;refine Z5 ?_
  match opn,hD with
  | [],hD =>
   refine Z1f @Zed ?_;refine Ze rfl (fun h7=>?_) (fun h7=>?_)
   ·refine Z ?_
    rw [hD]
   ·cases h7
  | [x],hD =>
   have hne:[x]≠([]:List (Int × Int)):=by simp
   refine Z1 ?_;refine Z0 ?_;have hfx:flat ([x].map Z3g)=[.int .i64 x.1,.int .i64 x.2]:=rfl;refine Z5c zk ?_;simp -implicitDefEqProofs only[go_sem,seval,Z1b 72 gx 2 hne,Z9b gx Z3g hne,hfx];refine Z ?_;rw [hD]
  | x::y::r,hD =>
   have e1:(((x::y::r).length:Int) != 1)=true:=by simp;omega
   refine Z1f e1 ?_;refine Ze rfl (fun h7=>?_) (fun h7=>?_)
   ·refine Z ?_
    rw [hD]
   ·cases h7
theorem Z2t (G:Nat→V) (hG:GOk G) (op:Int):Spec Tryz.prog G 135 [.int .u8 op] Zm (fun v _=>v = .int .i64 (Zw op:Nat)):=by
 refine Zo 0 12 [.tmp 2] Tryz.func135 fun X=>?_
 have hP:Zw op=if op≤4 then 0 else if op≤6 then 1 else if op≤21 then 2 else 3:=rfl
 refine Z1 ?_;refine Zha (fun (_:Unit)=>st [] []) (fun _=>¬ op≤4∧¬ op≤6∧¬ op≤21) (fun K1 hK1=>?_) ?_
 ·refine Z1 ?_
  refine Ze rfl (fun h1=>?_) (fun h1=>?_)
  ·refine Z ?_
   rw [hP,if_pos (by simpa using h1)]<;>rfl
  refine Z1 ?_;refine Ze rfl (fun h2=>?_) (fun h2=>?_)
  ·refine Z ?_
   rw [hP,if_neg (by simpa using h1),if_pos (by simpa using h2)]<;>rfl
  refine Z1 ?_;refine Ze rfl (fun h3=>?_) (fun h3=>?_)
  ·refine Z ?_
   rw [hP,if_neg (by simpa using h1),if_neg (by simpa using h2),if_pos (by simpa using h3)]<;>rfl
  ·refine Z0 ?_
   exact hK1 _ () ⟨by simpa using h1,by simpa using h2,by simpa using h3⟩ (Zb zp zp)
 rintro _ ⟨h1,h2,h3⟩;refine Z ?_
 rw [hP,if_neg h1,if_neg h2,if_neg h3]<;>rfl
theorem Z2x (G:Nat→V) (hG:GOk G) (n:XN) (hn:n.name.length<100000):Spec Tryz.prog G 134 [Z8 n] Zm (fun v _=>v = .bool (Zod n)):=by
 refine Zo 0 36 [.tmp 2] Tryz.func134 fun X=>?_
 have hW:Zod n=if n.op<1∨n.op > 22∨n.num<0 then false else if n.op=2 then n.num==0 && isP n.name==2 else n.name==[] && (n.op==1 || n.num==0):=rfl
 obtain ⟨op,num,name,a,b,c⟩:=n;simp only at hn hW;simp only [Zp];refine Zx fun K hK=>AW.region zk ?_;refine Zs ?_;intro g1;refine hK _ ?_
 try clear hK K
 refine Zha (fun (_:Unit)=>st [(1,.ptr 1 g1 0)] [(1,.cells .new g1 0 [.int .u8 op,.int .i64 num,.str name,.int .i64 a,.int .i64 b,.int .i64 c])]) (fun _=>Zod ⟨op,num,name,a,b,c⟩=if op=2 then isP name==2 else name==[]) (fun K1 hK1=>?_) ?_
 ·have hK2:(op<1)=False→(op > 22)=False→(num<0)=False→(op=1∨num=0)→Zod ⟨op,num,name,a,b,c⟩=if op=2 then isP name==2 else name==[]:=by
   intro h1 h2 h3 h4;rw [hW,if_neg (by rintro (h | h | h);exact h1 ▸ h;exact h2 ▸ h;exact h3 ▸ h)]
   by_cases ho:op=2
   ·have:num=0:=h4.resolve_left (by omega)
    rw [if_pos ho,if_pos ho,this]<;>rfl
   ·rw [if_neg ho,if_neg ho]
    rcases h4 with h | h
    ·rw [h];simp
    ·rw [h];simp
  have hK3:(op<1∨op > 22∨num<0∨(op≠1∧num≠0))→Zod ⟨op,num,name,a,b,c⟩=false:=by
   intro h;rw [hW]
   split
   ·rfl
   ·rename_i h0
    simp only [not_or] at h0
    obtain ⟨q1,q2⟩:op≠1∧num≠0:=by
     rcases h with h | h | h | h
     ·exact absurd h h0.1
     ·exact absurd h h0.2.1
     ·exact absurd h h0.2.2
     ·exact h
    have e1:(op==1)=false:=by simpa using q1
    have e2:(num==0)=false:=by simpa using q2
    rw [e1,e2];simp
  by_cases q1:op<1
  ·have h1:decide (op<1)=true:=by simpa using q1
   (refine Zx fun K hK=>AW.region zk ?_;simp -implicitDefEqProofs only[go_sem,seval,h1];refine hK _ ?_;clear hK K)
   refine Ze (b:=true) zp (fun _=>?_) (fun h=>by cases h)
   (refine Zx fun K hK=>AW.region zk ?_;simp -implicitDefEqProofs only[go_sem,seval];refine hK _ ?_;clear hK K)
   (refine AW.ret ?_;simp -implicitDefEqProofs only[go_sem,seval];refine Zmb ?_)
   rw [hK3 (.inl q1)]
  have h1:decide (op<1)=false:=by simpa using q1
  by_cases q2:op > 22
  ·have h2:decide (op > 22)=true:=by simpa using q2
   (refine Zx fun K hK=>AW.region zk ?_;simp -implicitDefEqProofs only[go_sem,seval,h1,h2];refine hK _ ?_;clear hK K)
   refine Ze (b:=true) zp (fun _=>?_) (fun h=>by cases h)
   (refine Zx fun K hK=>AW.region zk ?_;simp -implicitDefEqProofs only[go_sem,seval];refine hK _ ?_;clear hK K)
   (refine AW.ret ?_;simp -implicitDefEqProofs only[go_sem,seval];refine Zmb ?_)
   rw [hK3 (.inr (.inl q2))]
  have h2:decide (op > 22)=false:=by simpa using q2
  by_cases q4:op=1
  ·have h4:(op != 1)=false:=by simpa using q4
   by_cases q3:num<0
   ·have h3:decide (num<0)=true:=by simpa using q3
    (refine Zx fun K hK=>AW.region zk ?_;simp -implicitDefEqProofs only[go_sem,seval,h1,h2,h3,h4];refine hK _ ?_;clear hK K)
    refine Ze (b:=true) zp (fun _=>?_) (fun h=>by cases h)
    (refine Zx fun K hK=>AW.region zk ?_;simp -implicitDefEqProofs only[go_sem,seval];refine hK _ ?_;clear hK K)
    (refine AW.ret ?_;simp -implicitDefEqProofs only[go_sem,seval];refine Zmb ?_)
    rw [hK3 (.inr (.inr (.inl q3)))]
   have h3:decide (num<0)=false:=by simpa using q3
   (refine Zx fun K hK=>AW.region zk ?_;simp -implicitDefEqProofs only[go_sem,seval,h1,h2,h3,h4];refine hK _ ?_;clear hK K)
   refine Ze (b:=false) zp (fun h=>by cases h) (fun _=>?_);refine Z0 ?_;exact hK1 _ () (hK2 (eq_false q1) (eq_false q2) (eq_false q3) (.inl q4)) (Zb zp zp)
  have h4:(op != 1)=true:=by simpa using q4
  by_cases q5:num=0
  ·have h5:(num != 0)=false:=by simpa using q5
   have q3:¬ num<0:=by omega
   have h3:decide (num<0)=false:=by simpa using q3
   (refine Zx fun K hK=>AW.region zk ?_;simp -implicitDefEqProofs only[go_sem,seval,h1,h2,h3,h4,h5];refine hK _ ?_;clear hK K)
   refine Ze (b:=false) zp (fun h=>by cases h) (fun _=>?_);refine Z0 ?_;exact hK1 _ () (hK2 (eq_false q1) (eq_false q2) (eq_false q3) (.inr q5)) (Zb zp zp)
  have h5:(num != 0)=true:=by simpa using q5
  (refine Zx fun K hK=>AW.region zk ?_;simp -implicitDefEqProofs only[go_sem,seval,h1,h2,h4,h5];refine hK _ ?_;clear hK K)
  refine Ze (b:=true) zp (fun _=>?_) (fun h=>by cases h)
  (refine Zx fun K hK=>AW.region zk ?_;simp -implicitDefEqProofs only[go_sem,seval];refine hK _ ?_;clear hK K)
  (refine AW.ret ?_;simp -implicitDefEqProofs only[go_sem,seval];refine Zmb ?_)
  rw [hK3 (.inr (.inr (.inr ⟨q4,q5⟩)))]
 rintro _ hW2;refine Zx fun K2 hK2=>?_;refine Zx fun K hK=>AW.region zk ?_;refine Zs ?_;refine hK _ ?_
 try clear hK K
 refine Ze rfl (fun h5=>?_) (fun h5=>?_)
 ·have h5:op=2:=by simpa using h5
  rw [if_pos h5] at hW2;refine Zx fun K hK=>AW.region zk ?_;refine Zs ?_;refine Zc hG ?_ (s:=(Zlj G hG name (by omega)));refine hK _ ?_
  try clear hK K
  refine Z ?_;rw [hW2];generalize isP name=z
  cases hz:(z==2) with
  | true =>
   have:((z:Int)==2)=true:=by rw [beq_iff_eq] at hz ⊢;omega
   rw [this]
  | false =>
   have:((z:Int)==2)=false:=by rw [beq_eq_false_iff_ne] at hz ⊢;omega
   rw [this]
 ·have h5:¬ op=2:=by simpa using h5
  rw [if_neg h5] at hW2;refine Z0 ?_;refine hK2 _ ?_;refine Zx fun K hK=>AW.region zk ?_;refine Zs ?_;refine hK _ ?_
  try clear hK K
  refine Z ?_;rw [hW2]
def Z5t (n:XN):Nat→Int
 | 0=>n.a
 | 1=>n.b
 | _=>n.c
def Zkn (rec:Int→Int) (n:XN):Nat→Int→Option Int
 | 0,last=>some last
 | k+1,last=>match Zbb rec (Nat.blt k (Zw n.op)) (Z5t n k) last with
  | none=>none
  | some q=>Zkn rec n k q
theorem Zuaa (l:List XN) (f:Nat) (i:Int):Z7h l (f+1) i=match Zcy l i with
  | none => -1
  | some n=>bif Zod n then (match Zkn (Z7h l f) n 3 (i-1) with | none => -1 | some q=>q+1) else -1:=by
 rw [Z7h]
 cases Zcy l i with
 | none=>rfl
 | some n =>
  simp only
  cases Zod n with
  | false=>rfl
  | true =>
   simp only [cond_true,Zkn,Z5t]
   cases Zbb (Z7h l f) (Nat.blt 2 (Zw n.op)) n.c (i-1) with
   | none=>rfl
   | some l2 =>
    simp only
    cases Zbb (Z7h l f) (Nat.blt 1 (Zw n.op)) n.b l2 with
    | none=>rfl
    | some l1 =>
     simp only
     cases Zbb (Z7h l f) (Nat.blt 0 (Zw n.op)) n.a l1 with
     | none=>rfl
     | some l0=>rfl
theorem Zp6 {rec:Int→Int} {pl last:Int} (h:¬ pl=last):Zbb rec true pl last=none:=by simp [Zbb,h]
theorem Zf2 {rec:Int→Int} {pl last:Int} (h:pl=last) (h2:rec last<0):Zbb rec true pl last=none:=by simp [Zbb,h,h2]
theorem Ze2 {rec:Int→Int} {pl last:Int} (h:pl=last) (h2:¬ rec last<0):Zbb rec true pl last=some (rec last-1):=by simp [Zbb,h,h2]
theorem bsNo {rec:Int→Int} {pl last:Int} (h:¬ pl = -1):Zbb rec false pl last=none:=by simp [Zbb,h]
theorem bsNone {rec:Int→Int} {pl last:Int} (h:pl = -1):Zbb rec false pl last=some last:=by simp [Zbb,h]
theorem begR_le (l:List XN) (f:Nat) (i:Int) (h:0≤Z7h l f i):Z7h l f i≤i:=by
 obtain ⟨x,b,_,_,h3,h4⟩:=Z6e l f i h;have:=x.size_pos;omega
theorem Zp1 (G:Nat→V) (hG:GOk G) (s:Sl XN) (hs:s.l.length<1000000) (hnm:∀ n∈s.l,n.name.length<100000):∀ (f:Nat) (c:Col) (i:Int),-1≤i→i<f→i<1000000 →
  Spec Tryz.prog G 94 [Za c 6 Z8 s,.int .i64 i] Zm (fun v _=>v = .int .i64 (Z7h s.l f i)):=by
 intro f
 induction f with
 | zero =>
  intro c i h1 h2 _
  obtain rfl:i = -1:=by omega
  refine Zo 0 68 [.tmp 4] Tryz.func94 fun X=>?_;refine Z1 ?_;refine Z1 ?_;refine Ze rfl (fun h2=>?_) (fun h2=>?_)
  ·exact Zr
  ·cases h2
 | succ f ih =>
 intro c i h1 h2 h3;refine Zo 0 68 [.tmp 4] Tryz.func94 fun X=>?_;have hB:=Zuaa s.l f i;generalize Z7h s.l (f+1) i=res at hB ⊢;refine Z1 ?_;refine Z5 ?_
 by_cases hi:i<0
 ·have e1:decide (i<0)=true:=by simpa using hi
  have hno:Zcy s.l i=none:=by unfold Zcy;rw [if_pos hi]
  rw [hno] at hB;refine Z1f e1 ?_;refine Ze rfl (fun h4=>?_) (fun h4=>?_)
  ·refine Z ?_
   rw [hB]
  ·cases h4
 have e1:decide (i<0)=false:=by simpa using hi
 obtain ⟨m,rfl⟩:∃ m:Nat,i=m:=⟨i.toNat,by omega⟩
 by_cases hm:m≥s.l.length
 ·have e2:decide ((m:Int)≥s.l.length)=true:=zT
  have hno:Zcy s.l m=none:=by unfold Zcy;rw [if_neg hi];exact List.getElem?_eq_none (by simpa using hm)
  rw [hno] at hB;refine Z1f (zi e1 e2) ?_;refine Ze rfl (fun h4=>?_) (fun h4=>?_)
  ·refine Z ?_
   rw [hB]
  ·cases h4
 have e2:decide ((m:Int)≥s.l.length)=false:=zF;have hg:=List.getElem?_eq_getElem (Nat.lt_of_not_le hm);have hnn:=hnm _ (List.getElem_mem (Nat.lt_of_not_le hm));generalize s.l[m]=n at hg hnn
 have hno:Zcy s.l m=some n:=by unfold Zcy;rw [if_neg hi];exact hg
 rw [hno] at hB;simp only at hB;refine Z1f (zi e1 (zi e2 (zi hg @Zp))) ?_;rw [← Zp];refine Zcf @Zhj hG ?_ (s:=(Z2x G hG n hnn))
 cases hw:Zod n with
 | false =>
  rw [hw,cond_false] at hB;refine Ze rfl (fun h4=>?_) (fun h4=>?_)
  ·refine Z ?_
   rw [hB]
  ·cases h4
 | true =>
 rw [hw,cond_true] at hB;refine Z1f (zi hg @Zp) ?_;intro g5;refine Z1 ?_;intro g36;have hw1:IntKind.i64.wrap ((m:Int)-1)=(m:Int)-1:=w64 (by omega) (by omega);refine Z1f hw1 ?_;refine Z1 ?_;refine AW.block ?_
 refine Zhc (fun (x:Nat × Int)=>st [(0,Za c 6 Z8 s),(5,.ptr 5 g5 0),(6,.msl 36 g36 0 3 1),(7,.int .i64 x.2),(8,.int .i64 ((x.1:Int)-1))] [(5,.cells .new g5 0 [.int .u8 n.op,.int .i64 n.num,.str n.name,.int .i64 n.a,.int .i64 n.b,.int .i64 n.c]),(36,.cells .new g36 0 [.int .i64 n.a,.int .i64 n.b,.int .i64 n.c])])
  (fun x=>(res=match Zkn (Z7h s.l f) n x.1 x.2 with | none => -1 | some q=>q+1)∧x.1≤3 ∧ -1≤x.2∧x.2≤(m:Int)-1) (fun x=>x.1) (3,(m:Int)-1) ⟨hB,Nat.le_refl _,by show -1≤(m:Int)-1;omega,Int.le_refl _⟩
  (Zb zp zp) ?_
 try clear hB
 rintro ⟨k,last⟩ ⟨hB,hk3,hl1,hl2⟩ L6 hL6
 replace hB:res=match Zkn (Z7h s.l f) n k last with | none => -1 | some q=>q+1:=hB
 replace hk3:k≤3:=hk3
 replace hl1 : -1≤last:=hl1
 replace hl2:last≤(m:Int)-1:=hl2
 refine Z1 ?_
 cases k with
 | zero =>
  refine Z ?_
  rw [hB,w64 (by omega) (by omega)]<;>rfl
 | succ k =>
 have e8:decide (((k+1:Nat):Int)-1≥0)=true:=zT;rw [Zkn] at hB;refine Ze rfl (fun h8=>?_) (fun h8=>?_);rotate_left
 ·rw [e8] at h8;cases h8
 refine Z0 ?_
 have ek:((k+1:Nat):Int)-1=(k:Int):=by omega
 rw [ek];have hwk:IntKind.i64.wrap ((k:Int)-1)=(k:Int)-1:=w64 (by omega) (by omega)
 have hpl:([.int .i64 n.a,.int .i64 n.b,.int .i64 n.c]:List V)[k]? = some (.int .i64 (Z5t n k)):=by
  match k,hk3 with
  | 0,_=>rfl
  | 1,_=>rfl
  | 2,_=>rfl
 have hklt:(k:Int)<3:=by omega
 generalize Z5t n k=pl at hB hpl;refine Z1 ?_;refine Zc hG ?_ (s:=(Z2t G hG n.op));generalize hpo:Zw n.op=po at hB ⊢
 by_cases hkp:k<po
 ·have e5:decide ((k:Int)≥(po:Int))=false:=zF
  have hbs:Nat.blt k po=true:=by simpa using hkp
  rw [hbs] at hB;refine Ze rfl (fun h11=>?_) (fun h11=>?_)
  ·rw [e5] at h11;cases h11
  refine Z0 ?_;refine Z5 ?_
  by_cases hpe:pl=last
  rotate_left
  ·have e6:(pl != last)=true:=by simpa using hpe
   rw [Zp6 hpe] at hB;refine Z1f (zi @Nat.mul_one (zi hpl (zi hklt (zi @Int.natCast_nonneg e6)))) ?_;refine Ze rfl (fun h13=>?_) (fun h13=>?_)
   ·refine Z ?_
    rw [hB]
   ·cases h13
  have e6:(pl != last)=false:=by simpa using hpe
  refine Z1f (zi @Nat.mul_one (zi hpl (zi hklt (zi @Int.natCast_nonneg e6)))) ?_;refine Z1 ?_;refine Zcf @Zk hG ?_ (s:=(ih c.ent last (by omega) (by omega) (by omega)));have hge:=Zvaa s.l f last;have hle:=begR_le s.l f last;refine Z5 ?_
  by_cases hr0:Z7h s.l f last<0
  ·have e7:decide (Z7h s.l f last<0)=true:=by simpa using hr0
   rw [Zf2 hpe hr0] at hB;refine Z1f e7 ?_;refine Ze rfl (fun h15=>?_) (fun h15=>?_)
   ·refine Z ?_
    rw [hB]
   ·cases h15
  have e7:decide (Z7h s.l f last<0)=false:=by simpa using hr0
  rw [Ze2 hpe hr0] at hB;refine Z1f e7 ?_;refine Z0 ?_;have hle2:=hle (by omega);generalize Z7h s.l f last=r at hB hge hle2 hr0 ⊢;have hwr:IntKind.i64.wrap (r-1)=r-1:=w64 (by omega) (by omega);refine Z1f hwr ?_;refine Z1f hwk ?_;refine hL6 _ ⟨(k,r-1),by show k<k+1;omega,⟨hB,by show k≤3;omega,by show -1≤r-1;omega,by show r-1≤(m:Int)-1;omega⟩,Zb zp zp⟩
 ·have e5:decide ((k:Int)≥(po:Int))=true:=zT
  have hbs:Nat.blt k po=false:=by
   rw [Bool.eq_false_iff];simpa using hkp
  rw [hbs] at hB;refine Ze rfl (fun h11=>?_) (fun h11=>?_);rotate_left
  ·rw [e5] at h11;cases h11
  refine Z5 ?_
  by_cases hpe:pl = -1
  rotate_left
  ·have e6:(pl != -1)=true:=by simpa using hpe
   rw [bsNo hpe] at hB;refine Z1f (zi @Nat.mul_one (zi hpl (zi hklt (zi @Int.natCast_nonneg e6)))) ?_;refine Ze rfl (fun h13=>?_) (fun h13=>?_)
   ·refine Z ?_
    rw [hB]
   ·cases h13
  have e6:(pl != -1)=false:=by simpa using hpe
  rw [bsNone hpe] at hB;refine Z1f (zi @Nat.mul_one (zi hpl (zi hklt (zi @Int.natCast_nonneg e6)))) ?_;refine Z1f hwk ?_;refine hL6 _ ⟨(k,last),by show k<k+1;omega,⟨hB,by show k≤3;omega,hl1,hl2⟩,Zb zp zp⟩
def dep0 (s:Sl XN) (G:Nat→V) (i d:Int):Prop:=∀ c,Spec Tryz.prog G 95 [Za c 6 Z8 s,.int .i64 i] Zm (fun v _=>v = .int .i64 d)
theorem Zmf (G:Nat→V) (hG:GOk G) (s:Sl XN):dep0 s G (-1) 0:=by
 intro c;refine Zo 0 30 [.tmp 4] Tryz.func95 fun X=>?_;refine Z1 ?_;refine Z1 ?_;refine Ze rfl (fun h2=>?_) (fun h2=>?_)
 ·exact Zr
 ·cases h2
theorem Zzh (G:Nat→V) (hG:GOk G) (s:Sl XN) (m:Nat) (n:XN) (hg:s.l[m]? = some n) (d0 d1 d2:Int) (h0:dep0 s G n.a d0) (h1:dep0 s G n.b d1) (h2:dep0 s G n.c d2) (hb:(0≤d0∧d0<1000000)∧(0≤d1∧d1<1000000)∧(0≤d2∧d2<1000000)) :
  dep0 s G m (max (max d0 d1) d2+1):=by
 intro c;refine Zo 0 30 [.tmp 4] Tryz.func95 fun X=>?_;refine Z1 ?_;refine Z5 ?_;have e1:decide ((m:Int)<0)=false:=zF;refine Z1f e1 ?_;refine Z0 ?_
 have pc:∀ i d,dep0 s G i d→Z5g Tryz.prog G 95 [Za c 6 Z8 s,.int .i64 i] (.int .i64 d):=fun i d h=>⟨by kernel_rfl,by
  simp only [List.map_cons,List.map_nil,Zk,Zze];refine (h c.ent).mono ?_;rintro _ _ rfl
  rfl⟩
 have hmx:(if d2 > (if d1 > d0 then d1 else d0) then d2 else (if d1 > d0 then d1 else d0))=max (max d0 d1) d2:=by
  rw [Int.max_def,Int.max_def]
  split<;>split<;>split<;>omega
 have hw:IntKind.i64.wrap (1+max (max d0 d1) d2)=max (max d0 d1) d2+1:=by rw [w64 (by omega) (by omega)];omega
 refine Z5 <| Zy ⟨fun i=>if i=6 then .int .i64 d0 else if i=13 then .int .i64 d1 else if i=20 then .int .i64 d2 else .top,fun _ => .pure⟩ zk hG zk zk ?_
 refine Zsf (zi hg (zi @Zp (zi hmx hw))) ?_;refine ⟨pc _ _ h0,pc _ _ h1,pc _ _ h2,?_⟩;exact Zr
theorem Zwd:∀ x:X,x.depth≤x.size
 | .leaf .. => Nat.le_refl _
 | .un _ a=>by have:=Zwd a;simp only [X.depth,X.size];omega
 | .bin _ a b=>by have:=Zwd a;have:=Zwd b;simp only [X.depth,X.size];omega
 | .ite a b c=>by have:=Zwd a;have:=Zwd b;have:=Zwd c;simp only [X.depth,X.size];omega
theorem Zon {l:List XN} {x:X} {b:Nat} (h:At l x b):b+x.size≤l.length:=by
 obtain ⟨pre,post,rfl,hb⟩:=h;rw [List.length_append,List.length_append,X.row_len];omega
theorem Z7f (G:Nat→V) (hG:GOk G) (s:Sl XN) (hs:s.l.length<1000000):∀ (x:X) (b:Nat),At s.l x b→dep0 s G ((b:Int)+x.size-1) x.depth
 | .leaf op num name,b,h=>by
  have:=Zzh G hG s b _ h.get 0 0 0 (Zmf G hG s) (Zmf G hG s) (Zmf G hG s) ⟨by decide,by decide,by decide⟩
  have e:(b:Int)+(X.leaf op num name).size-1=(b:Nat):=by simp only [X.size];omega
  rw [e];exact this
 | .un op a,b,h=>by
  have ha:=h.un;have ih:=Z7f G hG s hs a b ha;have hz:=Zon h;have hd:=Zwd a;have hp:=a.size_pos;have:=Zzh G hG s _ _ h.get _ 0 0 ih (Zmf G hG s) (Zmf G hG s) ⟨⟨by omega,by simp only [X.size] at hz;omega⟩,by decide,by decide⟩
  have e:(b:Int)+(X.un op a).size-1=((b+(X.un op a).size-1:Nat):Int):=by simp only [X.size];omega
  rw [e]
  have e2:((X.un op a).depth:Int)=max (max (a.depth:Int) 0) 0+1:=by simp only [X.depth];omega
  rw [e2];exact this
 | .bin op x y,b,h=>by
  obtain ⟨hx,hy⟩:=h.bin;have ihx:=Z7f G hG s hs x b hx;have ihy:=Z7f G hG s hs y (b+x.size) hy;have hz:=Zon h;have hd1:=Zwd x;have hd2:=Zwd y;have hp1:=x.size_pos;have hp2:=y.size_pos
  have e3:((b+x.size:Nat):Int)+y.size-1=(b:Int)+x.size+y.size-1:=by omega
  rw [e3] at ihy;simp only [X.size] at hz;have:=Zzh G hG s _ _ h.get _ _ 0 ihx ihy (Zmf G hG s) ⟨⟨by omega,by omega⟩,⟨by omega,by omega⟩,by decide⟩
  have e:(b:Int)+(X.bin op x y).size-1=((b+(X.bin op x y).size-1:Nat):Int):=by simp only [X.size];omega
  rw [e]
  have e2:((X.bin op x y).depth:Int)=max (max (x.depth:Int) y.depth) 0+1:=by simp only [X.depth];omega
  rw [e2];exact this
 | .ite x y z,b,h=>by
  obtain ⟨hx,hy,hz'⟩:=h.ite;have ihx:=Z7f G hG s hs x b hx;have ihy:=Z7f G hG s hs y (b+x.size) hy;have ihz:=Z7f G hG s hs z (b+x.size+y.size) hz';have hz:=Zon h;have hd1:=Zwd x;have hd2:=Zwd y;have hd3:=Zwd z;have hp1:=x.size_pos;have hp2:=y.size_pos;have hp3:=z.size_pos
  have e3:((b+x.size:Nat):Int)+y.size-1=(b:Int)+x.size+y.size-1:=by omega
  rw [e3] at ihy
  have e4:((b+x.size+y.size:Nat):Int)+z.size-1=(b:Int)+x.size+y.size+z.size-1:=by omega
  rw [e4] at ihz;simp only [X.size] at hz;have:=Zzh G hG s _ _ h.get _ _ _ ihx ihy ihz ⟨⟨by omega,by omega⟩,⟨by omega,by omega⟩,⟨by omega,by omega⟩⟩
  have e:(b:Int)+(X.ite x y z).size-1=((b+(X.ite x y z).size-1:Nat):Int):=by simp only [X.size];omega
  rw [e]
  have e2:((X.ite x y z).depth:Int)=max (max (x.depth:Int) y.depth) z.depth+1:=by simp only [X.depth];omega
  rw [e2];exact this
theorem Zpp (G:Nat→V) (hG:GOk G) (c:Col) (s:Sl XN) (hs:s.l.length<1000000) (hnm:∀ n∈s.l,n.name.length<100000) :
  Spec Tryz.prog G 68 [Za c 6 Z8 s] Zm (fun v _=>v = .bool (Zxx s.l)):=by
 refine Zo 0 9 [.tmp 2] Tryz.func68 fun X=>?_;have hw:IntKind.i64.wrap ((s.l.length:Int)-1)=(s.l.length:Int)-1:=w64 (by omega) (by omega);refine Z1 ?_;refine Z1f hw ?_;refine Zcf @Zk hG ?_ (s:=(Zp1 G hG s hs hnm s.l.length c.ent ((s.l.length:Int)-1) (by omega) (by omega) (by omega)));exact Zr
theorem Zun (G:Nat→V) (hG:GOk G) (c:Col) (s:Sl XN) (hs:s.l.length<1000000) (hnm:∀ n∈s.l,n.name.length<100000) :
  Spec Tryz.prog G 69 [Za c 6 Z8 s] Zm (fun v _=>v = .int .i64 (Znb s.l)):=by
 refine Zo 0 11 [.tmp 2] Tryz.func69 fun X=>?_;have hw:IntKind.i64.wrap ((s.l.length:Int)-1)=(s.l.length:Int)-1:=w64 (by omega) (by omega);refine Z1 ?_;refine Z1 ?_;refine Zcf @Zk hG ?_ (s:=(Zpp G hG c.ent s hs hnm))
 cases hr:Zxx s.l with
 | false =>
  have hd:Znb s.l=0:=by
   have:=Zpk s.l;rw [hr] at this;have h2:=of_decide_eq_false this.symm;exact Classical.byContradiction h2
  refine Ze rfl (fun h6=>?_) (fun h6=>?_)
  ·refine Z ?_
   rw [hd]
  ·cases h6
 | true =>
 refine Z0 ?_;obtain ⟨x,hx,hl⟩:=Zzm.1 hr;have hat:At s.l x 0:=hl ▸ Z9h x
 have hdep:Znb s.l=x.depth:=by rw [hl,Zgm hx]
 have hlen:s.l.length=x.size:=by rw [hl,Go.Hs.X.row_len]
 have hsp:=Z7f G hG s hs x 0 hat;rw [show ((0:Nat):Int)+x.size-1=(s.l.length:Int)-1 by omega] at hsp;refine Z1f hw ?_;refine Zcf @Zk hG ?_ (s:=(hsp c.ent));refine Z ?_;rw [hdep]
def Zra (l:List XN):Int:=if Znb l=0 then 2 else if Znb l > 64 then 3 else 0
theorem Zrk (G:Nat→V) (hG:GOk G) (c:Col) (s:Sl XN) (hs:s.l.length<1000000) (hnm:∀ n∈s.l,n.name.length<100000) :
  Spec Tryz.prog G 45 [Za c 6 Z8 s] Zm (fun v _=>v = .int .i64 (Zra s.l)):=by
 refine Zo 0 9 [.tmp 2] Tryz.func45 fun X=>?_
 have hC:Zra s.l=if Znb s.l=0 then 2 else if Znb s.l > 64 then 3 else 0:=rfl
 generalize Zra s.l=res at hC ⊢;refine Z1 ?_;refine Z1 ?_;refine Zcf @Zk hG ?_ (s:=(Zpp G hG c.ent s hs hnm));rw [Zpk]
 by_cases hd:Znb s.l=0
 ·rw [if_pos hd] at hC
  have e1:decide (Znb s.l≠0)=false:=by simpa using hd
  rw [e1];refine Ze rfl (fun h6=>?_) (fun h6=>?_)
  ·refine Z ?_
   rw [hC]
  ·cases h6
 have e1:decide (Znb s.l≠0)=true:=by simpa using hd
 rw [if_neg hd] at hC;rw [e1];refine Z1 ?_;refine Zcf @Zk hG ?_ (s:=(Zun G hG c.ent s hs hnm));refine Ze rfl (fun h7=>?_) (fun h7=>?_)
 ·have h7:Znb s.l > 64:=by simpa using h7
  rw [if_pos h7] at hC;refine Z ?_;rw [hC]
 ·have h7:¬ Znb s.l > 64:=by simpa using h7
  rw [if_neg h7] at hC;refine Z ?_;rw [hC]
theorem Zoh (G:Nat→V) (hE:GExp G) (c:Col) (s:Sl XN) (hs:s.l.length<1000000) (hnm:∀ n∈s.l,n.name.length<100000) :
  Spec Tryz.prog G 65 [.agg [Za c 6 Z8 s]] Zm (fun v _=>v = .int .i64 (Zra s.l)):=by
 have hG:=hE.ok;refine Zo 0 12 [.tmp 2] Tryz.func65 fun X=>?_
 have hC:Zra s.l=if Znb s.l=0 then 2 else if Znb s.l > 64 then 3 else 0:=rfl
 generalize Zra s.l=res at hC ⊢;refine Z1 ?_;intro g1;refine Z1 ?_;refine Zcf @Zk hG ?_ (s:=(Zzo G hE c.ent s hs hnm));refine Z1 ?_;refine Ze rfl (fun h6=>?_) (fun h6=>?_)
 ·have h6:Znb s.l=0:=by simpa using h6
  rw [if_pos h6] at hC;refine Z ?_;rw [hC]
 have h6:¬ Znb s.l=0:=by simpa using h6
 rw [if_neg h6] at hC;refine Z1 ?_;refine Ze rfl (fun h7=>?_) (fun h7=>?_)
 ·have h7:Znb s.l > 64:=by simpa using h7
  rw [if_pos h7] at hC;refine Z ?_;rw [hC]
 ·have h7:¬ Znb s.l > 64:=by simpa using h7
  rw [if_neg h7] at hC;refine Z ?_;rw [hC]
end Go.Hs
end

section
namespace Go.Hs
def NmQ (Q:List UInt8→Prop) (r:RS):Prop:=∀ n∈r.nodes,Q n.name
def NmI (Q:List UInt8→Prop) (inner:Inner):Prop:=∀ n r,NmQ Q r→NmQ Q (inner n r).2
theorem NmQ.put {Q:List UInt8→Prop} {r:RS} {n:XN} (h:NmQ Q r) (hn:Q n.name):NmQ Q (r.put n):=by
 intro m hm
 rcases List.mem_append.1 hm with h1 | h1
 ·exact h m h1
 ·rw [List.mem_singleton.1 h1];exact hn
theorem Zrc {Q:List UInt8→Prop} {x:Bool × RS} {k:RS→Bool × RS} (h:NmQ Q x.2) (hk:∀ r,NmQ Q r→NmQ Q (k r).2):NmQ Q (andThen x k).2:=by
 obtain ⟨b,r⟩:=x;cases b
 ·exact h
 ·exact hk r h
theorem Zjq {Q:List UInt8→Prop} (l:List Tk) (w:List UInt8) {r:RS} (h:NmQ Q r):NmQ Q (Ztf l w r).2:=by
 unfold Ztf;split<;>exact h
theorem Zz5 {Q:List UInt8→Prop} (h0:Q []) (t:List UInt8) {r:RS} (h:NmQ Q r):NmQ Q (Zcd r t).2:=by
 unfold Zcd;split
 ·exact h
 ·exact NmQ.put (n:=⟨1,_,[],-1,-1,-1⟩) h h0
theorem Z1y {Q:List UInt8→Prop} {l:List Tk} {inner:Inner} (h0:Q []) (hi:NmI Q inner) {r:RS} (h:NmQ Q r):NmQ Q (Zab l inner r).2:=by
 unfold Zab;refine Zrc (Zjq _ _ h) fun r1 h1=>Zrc (hi _ _ h1) fun a h2=>Zrc (Zjq _ _ h2) fun r2 h3=>Zrc (hi _ _ h3) fun b h4=>Zrc (Zjq _ _ h4) fun r3 h5=>Zrc (hi _ _ h5) fun c h6=>Zrc (Zjq _ _ h6) fun r4 h7=>?_;exact NmQ.put h7 h0
theorem Z0aa {Q:List UInt8→Prop} {l:List Tk} {inner:Inner} (h0:Q []) (hq:∀ i,(Z7 l i).kind=2→Q (Z7 l i).text) (hi:NmI Q inner) {r:RS} (h:NmQ Q r):NmQ Q (Z5a l inner r).2:=by
 unfold Z5a
 split
 ·exact Zz5 h0 _ h
 split
 ·rename_i hk;exact NmQ.put (n:=⟨2,0,(Z7 l r.i).text,-1,-1,-1⟩) h (hq _ hk)
 split
 ·exact h
 split
 ·exact Zrc (hi _ _ h) fun a ha=>NmQ.put ha h0
 split
 ·exact Zrc (hi _ _ h) fun a ha=>Zjq _ _ ha
 split
 ·exact Z1y h0 hi h
 split
 ·exact NmQ.put (n:=⟨_,0,[],-1,-1,-1⟩) h h0
 ·exact h
theorem Z73 {Q:List UInt8→Prop} {l:List Tk} {inner:Inner} (h0:Q []) (hi:NmI Q inner) (n:Int):∀ (m:Nat) (r:RS),NmQ Q r→NmQ Q (Z8b l inner n m r).2
 | 0,r,h=>h
 | m+1,r,h=>by
  rw [Z8b]
  split
  ·exact h
  ·split
   ·exact h
   ·exact Zrc (hi _ r.adv h) fun a ha=>Z73 h0 hi n m (a.put _) (NmQ.put ha h0)
theorem Znq {Q:List UInt8→Prop} (l:List Tk) (h0:Q []) (hq:∀ i,(Z7 l i).kind=2→Q (Z7 l i).text):∀ f,NmI Q (Z3 l f)
 | 0=>fun _ _ h=>h
 | f+1=>fun n r h=>by
  rw [Z3];exact Zrc (Z0aa h0 hq (Znq l h0 hq f) h) fun a ha=>Z73 h0 (Znq l h0 hq f) n _ a ha
def Zkd (l:List Tk):List XN × Int × Int:=if (Z3 l (l.length+1) 1 ⟨0,[],0⟩).1=false then ([],(Z3 l (l.length+1) 1 ⟨0,[],0⟩).2.i,(Z3 l (l.length+1) 1 ⟨0,[],0⟩).2.e)
 else if Znb (Z3 l (l.length+1) 1 ⟨0,[],0⟩).2.nodes > 64 then ([],0,3) else ((Z3 l (l.length+1) 1 ⟨0,[],0⟩).2.nodes,(Z3 l (l.length+1) 1 ⟨0,[],0⟩).2.i,0)
theorem Zxi {l:List Tk}:0≤(Zkd l).2.1∧(Zkd l).2.1≤(l.length:Nat):=by
 have hok:=((Zqc l (l.length+1) 1 ⟨0,[],0⟩).ok ⟨Nat.zero_le _,Nat.le_refl _⟩).1;unfold Zkd
 split
 ·exact ⟨Int.natCast_nonneg _,Int.ofNat_le.2 hok⟩
 ·split
  ·exact ⟨Int.le_refl _,Int.natCast_nonneg _⟩
  ·exact ⟨Int.natCast_nonneg _,Int.ofNat_le.2 hok⟩
end Go.Hs
end

section
namespace Go.Hs
open Go.Proofs
set_option maxRecDepth 10000
theorem Zt0 {NO:Nat} {tl:List V} {G:Nat→V} (hG:GOk G) {f:FuncId} {args args':List V} {sl:Sl Tk} {g:Nat} {r r':RS} {v:V} (h:RdS NO tl G f args' sl g r v r') {H:Heap} {K:V→Heap→Prop}
  (hen:Zfa Tryz.prog f=true) (htl:∀ F:Col→Col,tl.map (V.recol F)=tl) (hargs:args.map (V.recol Col.ent)=args') (hv:v.recol Col.bk=v) (hr:r.nodes=[])
  (cs:List V) (h8:H 8 = .cells .new g 0 cs) (hcs:Z6a Col.ent cs=(Za .any 3 Zib sl :: .int .i64 r.i :: .nils :: .int .i64 r.e::tl)) (hN:H NO = .dead)
  (hk:∀ gx',K v (Zcb H [(8,.cells .new g 0 (Za .any 3 Zib sl :: .int .i64 r'.i::grown NO gx' 6 r'.nodes :: .int .i64 r'.e::tl)),(NO,Zua gx' Z8 r'.nodes)])) :
  CallA Tryz.prog G f (.ptr 8 g 0::args) H K:=by
 refine Zb3 hG [(8,rdO NO tl sl g 0 r),(NO,ndO 0 r.nodes)] hen ?_ ?_ ?_
 ·intro p hp
  simp only [List.mem_cons,List.not_mem_nil,or_false] at hp
  rcases hp with rfl | rfl
  ·simp only [h8,AObj.toAny,hcs,Z0a,hr];rfl
  ·simp only [hN,AObj.toAny,hr];rfl
 ·intro p hp c g' fz cs' ho
  simp only [List.mem_cons,List.not_mem_nil,or_false] at hp
  rcases hp with rfl | rfl
  ·simp only [h8,AObj.cells.injEq] at ho;exact ho.1.symm
  ·simp only [hN] at ho;cases ho
 ·have ha:(V.ptr 8 g 0::args).map (V.recol Col.ent) = .ptr 8 g 0::args':=by rw [List.map_cons,Zul,hargs]
  rw [ha];refine (h 0).mono ?_;rintro _ H' ⟨rfl,gx',q8,qN⟩
  have b8:(rdO NO tl sl g gx' r').backNew = .cells .new g 0 (Za .any 3 Zib sl :: .int .i64 r'.i::grown NO gx' 6 r'.nodes :: .int .i64 r'.e::tl):=by
   simp only [Z0a,AObj.backNew,Z4,List.map_cons,Zeb,Zze,Z5f,htl];rfl
  have bN:(ndO gx' r'.nodes).backNew=Zua gx' Z8 r'.nodes:=by
   unfold ndO
   cases hn:r'.nodes with
   | nil=>rfl
   | cons x t =>
    rw [Zbm _ _ _ (by simp),Z9b _ _ (by simp)];simp only [AObj.backNew,Z4];rw [← Zrf,List.map_map];have he:(x::t).map (V.recol Col.bk ∘ Z8)=(x::t).map Z8:=List.map_congr_left fun y _=>Zhj _ y
    first | done | rw [he]
  simp only [List.map_cons,List.map_nil,q8,qN,b8,bN,hv];exact hk gx'
def encXs (c:Col) (l:List XN):V:=Za c 6 Z8 (Zv l)
def encFr (c:Col) (p:List XN × Int × Int):V := .tuple [.agg [encXs c p.1],.int .i64 p.2.1,.int .i64 p.2.2]
theorem Zmq {l:List Tk} (hT:TkOk l):∀ n∈(Z3 l (l.length+1) 1 ⟨0,[],0⟩).2.nodes,n.name.length<100000 :=
 Znq (Q:=fun s=>s.length<100000) l (Nat.zero_lt_succ _) (fun i _=>Z0p hT i) _ _ _ (fun n hn=>by cases hn)
theorem Zy4 (G:Nat→V) (hE:GExp G) (c:Col) (sl:Sl Tk) (hT:TkOk sl.l):Spec Tryz.prog G 50 [Za c 3 Zib sl] Zm (fun v _=>v=encFr .new (Zkd sl.l)):=by
 have hG:=hE.ok;have hTl:=hT.len;refine Zo 0 44 [.cell 2 24,.tmp 3,.tmp 4] Tryz.func50 fun X=>?_
 have hP:Zkd sl.l=if (Z3 sl.l (sl.l.length+1) 1 ⟨0,[],0⟩).1=false then (([]:List XN),((Z3 sl.l (sl.l.length+1) 1 ⟨0,[],0⟩).2.i:Int),(Z3 sl.l (sl.l.length+1) 1 ⟨0,[],0⟩).2.e)
  else if Znb (Z3 sl.l (sl.l.length+1) 1 ⟨0,[],0⟩).2.nodes > 64 then ([],0,3) else ((Z3 sl.l (sl.l.length+1) 1 ⟨0,[],0⟩).2.nodes,((Z3 sl.l (sl.l.length+1) 1 ⟨0,[],0⟩).2.i:Int),(0:Int)):=rfl
 have hr0:Zrm sl.l ⟨0,[],0⟩:=⟨Nat.zero_le _,Nat.le_refl _⟩;have hcl:=fun g=>Z00 G hE sl hT g (sl.l.length+1) 1 ⟨0,[],0⟩ (by decide) (by decide) (Nat.lt_succ_self _) hr0;have hnm2:=Zmq hT;have hok:=(Zqc sl.l (sl.l.length+1) 1 ⟨0,[],0⟩);generalize Zkd sl.l=res at hP ⊢;generalize Z3 sl.l (sl.l.length+1) 1 ⟨0,[],0⟩=y at hP hcl hok hnm2;obtain ⟨b,r⟩:=y;simp only at hP hcl hok hnm2;refine Z1 ?_;intro g2;refine Z1 ?_;intro g8;refine Z5 ?_;refine AW.block ?_;refine AW.weak (Zz (fun _=>false) (l:=[(5,.ptr 8 g8 0),(2,.ptr 2 g2 0)]) (m:=[(2,.cells .new g2 0 [.nils]),(8,.cells .new g8 0 [Za .any 3 Zib sl,.int .i64 0,.nils,.int .i64 0,.func (.func 78) [] []])]) ?_ ?_) ?_
 ·refine Zs ?_
  exact ⟨Zd _,Zd _⟩
 ·simp only [Zl,Zt,and_true]
  exact ⟨FzO.keep rfl zp,Zlh (c := .new) (fz:=0) (cs:=[Za c 3 Zib sl,.int .i64 0,.nils,.int .i64 0,.func (.func 78) [] []]) rfl zp ⟨Fz.any (Zeb _ _ _),Zd _,Zd _,Zd _,Zd _,trivial⟩⟩
 refine Z1 ?_;refine Zt0 hG (hcl g8) zk (fun F=>rfl) rfl rfl rfl _ zp (by simp only [Z4,List.map_cons,List.map_nil,Zeb];rfl) zp fun gx=>?_;refine Zu ?_
 cases b with
 | false =>
  refine Zog rfl ?_;refine AW.weak (Zz (fun o=>o==8) (l:=[(5,.view .new (.agg [Za .any 3 Zib sl,.int .i64 r.i,grown 1031 gx 6 r.nodes,.int .i64 r.e,.func (.func 78) [] []])),(2,.ptr 2 g2 0)]) (m:=[(2,.cells .new g2 0 [.nils])]) ?_ ?_) ?_
  ·refine Zs ?_
   exact ⟨Fz.ptr (v := .agg [Za .any 3 Zib sl,.int .i64 r.i,grown 1031 gx 6 r.nodes,.int .i64 r.e,.func (.func 78) [] []]) (c := .new) (fz:=0) rfl zp,Zd _⟩
  ·simp only [Zl,Zt,and_true]
   exact FzO.keep rfl zp
  refine Z5 ?_;refine Zy ⟨fun _ => .top,fun i=>if i=4 then .lend else if i=8 then .lend else .pure⟩ zk hG zk zk ?_;refine Zs ?_;refine Z ?_
  rw [hP]<;>rfl
 | true =>
 refine Zkc rfl ?_;refine AW.weak (Zz (fun o=>o==1031) (l:=[(5,.ptr 8 g8 0),(2,.ptr 2 g2 0)]) (m:=[(2,.cells .new g2 0 [.nils]),(8,.cells .new g8 0 [Za .any 3 Zib sl,.int .i64 r.i,encXs .new r.nodes,.int .i64 r.e,.func (.func 78) [] []])]) ?_ ?_) ?_
 ·refine Zs ?_
  exact ⟨Zd _,Zd _⟩
 ·simp only [Zl,Zt,and_true]
  exact ⟨FzO.keep rfl zp,Zlh (c := .new) (fz:=0) (cs:=[Za .any 3 Zib sl,.int .i64 r.i,grown 1031 gx 6 r.nodes,.int .i64 r.e,.func (.func 78) [] []]) rfl zp ⟨Zd _,Zd _,Z1a rfl zp Zre,Zd _,Zd _,trivial⟩⟩
 have hrl:r.nodes.length<1000000:=by have:=(hok.ok hr0);have h1:=this.1;have h2:=this.2;omega
 rw [if_neg (by simp)] at hP;refine Z1f @encXs.eq_1 ?_;refine Zcf @Zk hG ?_ (s:=(Zzo G hE Col.new.ent (Zv r.nodes) (by rw [Zea];exact hrl) (by rw [Zea];exact hnm2)));refine Ze rfl (fun h26=>?_) (fun h26=>?_)
 ·have h26:Znb r.nodes > 64:=by simpa using h26
  rw [if_pos h26] at hP;refine Z ?_
  rw [hP]<;>rfl
 have h26:¬ Znb r.nodes > 64:=by simpa using h26
 rw [if_neg h26] at hP;refine Z0 ?_;refine AW.weak (Zz (fun o=>o==8) (l:=[(5,.view .new (.agg [Za .any 3 Zib sl,.int .i64 r.i,encXs .new r.nodes,.int .i64 r.e,.func (.func 78) [] []])),(2,.ptr 2 g2 0)]) (m:=[(2,.cells .new g2 0 [.nils])]) ?_ ?_) ?_
 ·refine Zs ?_
  exact ⟨Fz.ptr (v := .agg [Za .any 3 Zib sl,.int .i64 r.i,encXs .new r.nodes,.int .i64 r.e,.func (.func 78) [] []]) (c := .new) (fz:=0) rfl zp,Zd _⟩
 ·simp only [Zl,Zt,and_true]
  exact FzO.keep rfl zp
 refine Z5 ?_;refine Zy ⟨fun _ => .top,fun i=>if i=3 then .lend else if i=8 then .lend else .pure⟩ zk hG zk zk ?_;refine Zsf @encXs.eq_1 ?_;refine Z ?_
 rw [hP]<;>rfl
theorem Zbs:∀ (f:Nat) (s:List UInt8) (i:Nat) (acc:List Tk),(∀ t∈acc,t.text.length≤s.length)→∀ t∈(Z2c f s i acc).1,t.text.length≤s.length
 | 0,s,i,acc,h=>by rw [Z2c];exact h
 | f+1,s,i,acc,h=>by
  rw [Z2c]
  split
  ·split
   ·intro t ht;cases ht
   ·refine Zbs f s _ _ ?_
    intro t ht
    rcases List.mem_append.1 ht with h1 | h1
    ·exact h t h1
    ·rw [List.mem_singleton.1 h1]
     show ((s.drop i).take _).length≤s.length
     rw [List.length_take,List.length_drop];omega
  ·exact h
theorem Zx7 {s:List UInt8} (hs:s.length<100000):TkOk (Zac s).1:=by
 unfold Zac
 split
 ·exact ⟨Nat.zero_lt_succ _,fun t ht=>by cases ht⟩
 refine ⟨?_,?_⟩
 ·have:=Zjx (s.length+1) s (blk s) []
  have h0:([]:List Tk).length=0:=rfl;omega
 ·intro t ht
  have:=Zbs (s.length+1) s (blk s) [] (fun t ht=>by cases ht) t ht;omega
def encRr (c:Col) (p:List XN × Int × Int):V := .tuple [encXs c p.1,.int .i64 p.2.1,.int .i64 p.2.2]
theorem Zp5 (G:Nat→V) (hG:GOk G) (c:Col) (sl:Sl Tk) (hT:TkOk sl.l):Spec Tryz.prog G 125 [Za c 3 Zib sl] Zm (fun v _=>v=encRr .new (Zkd sl.l)):=by
 have hTl:=hT.len;refine Zo 0 34 [.tmp 2,.tmp 3,.tmp 4] Tryz.func125 fun X=>?_
 have hP:Zkd sl.l=if (Z3 sl.l (sl.l.length+1) 1 ⟨0,[],0⟩).1=false then (([]:List XN),((Z3 sl.l (sl.l.length+1) 1 ⟨0,[],0⟩).2.i:Int),(Z3 sl.l (sl.l.length+1) 1 ⟨0,[],0⟩).2.e)
  else if Znb (Z3 sl.l (sl.l.length+1) 1 ⟨0,[],0⟩).2.nodes > 64 then ([],0,3) else ((Z3 sl.l (sl.l.length+1) 1 ⟨0,[],0⟩).2.nodes,((Z3 sl.l (sl.l.length+1) 1 ⟨0,[],0⟩).2.i:Int),(0:Int)):=rfl
 have hr0:Zrm sl.l ⟨0,[],0⟩:=⟨Nat.zero_le _,Nat.le_refl _⟩;have hcl:=fun g=>(Zo1 G hG sl hT g (sl.l.length+1) ⟨0,[],0⟩ (Nat.lt_succ_self _) hr0).1 1 (by decide) (by decide);have hnm2:=Zmq hT;have hok:=(Zqc sl.l (sl.l.length+1) 1 ⟨0,[],0⟩);generalize Zkd sl.l=res at hP ⊢;generalize Z3 sl.l (sl.l.length+1) 1 ⟨0,[],0⟩=y at hP hcl hok hnm2;obtain ⟨b,r⟩:=y;simp only at hP hcl hok hnm2
 have hrl:r.nodes.length<1000000:=by have:=(hok.ok hr0);have h1:=this.1;have h2:=this.2;omega
 refine Z1 ?_;refine Z1 ?_;intro g8;refine AW.weak (Zz (fun _=>false) (l:=[(5,.ptr 8 g8 0)]) (m:=[(8,.cells .new g8 0 [Za .any 3 Zib sl,.int .i64 0,.nils,.int .i64 0])]) ?_ ?_) ?_
 ·refine Zs ?_
  exact Zd _
 ·simp only [Zl,Zt,and_true]
  exact Zlh (c := .new) (fz:=0) (cs:=[Za c 3 Zib sl,.int .i64 0,.nils,.int .i64 0]) rfl zp ⟨Fz.any (Zeb _ _ _),Zd _,Zd _,Zd _,trivial⟩
 refine Z1 ?_;refine Zt0 hG (hcl g8) zk (fun F=>rfl) rfl rfl rfl _ zp (by simp only [Z4,List.map_cons,List.map_nil,Zeb];rfl) zp fun gx=>?_;refine Zu ?_
 cases b with
 | false =>
  refine Zog rfl ?_;refine AW.weak (Zz (fun o=>o==8) (l:=[(5,.view .new (.agg [Za .any 3 Zib sl,.int .i64 r.i,grown 1012 gx 6 r.nodes,.int .i64 r.e]))]) (m:=[]) ?_ trivial) ?_
  ·refine Zs ?_
   exact Fz.ptr (v := .agg [Za .any 3 Zib sl,.int .i64 r.i,grown 1012 gx 6 r.nodes,.int .i64 r.e]) (c := .new) (fz:=0) rfl zp
  refine ZT hG ?_;refine Z ?_
  rw [hP]<;>rfl
 | true =>
 refine Z0 ?_;refine AW.weak (Zz (fun o=>o==1012) (l:=[(5,.ptr 8 g8 0)]) (m:=[(8,.cells .new g8 0 [Za .any 3 Zib sl,.int .i64 r.i,encXs .new r.nodes,.int .i64 r.e])]) ?_ ?_) ?_
 ·refine Zs ?_
  exact Zd _
 ·simp only [Zl,Zt,and_true]
  exact Zlh (c := .new) (fz:=0) (cs:=[Za .any 3 Zib sl,.int .i64 r.i,grown 1012 gx 6 r.nodes,.int .i64 r.e]) rfl zp ⟨Zd _,Zd _,Z1a rfl zp Zre,Zd _,trivial⟩
 rw [if_neg (by simp)] at hP;refine Z1f @encXs.eq_1 ?_;refine Znf @Zk hG ?_ (s:=(Zun G hG _ (Zv r.nodes) (by rw [Zea];exact hrl) (by rw [Zea];exact hnm2)));rw [Zea];refine Zs ?_;refine Ze rfl (fun h26=>?_) (fun h26=>?_)
 ·have h26:Znb r.nodes > 64:=by simpa using h26
  rw [if_pos h26] at hP;refine Z ?_
  rw [hP]<;>rfl
 have h26:¬ Znb r.nodes > 64:=by simpa using h26
 rw [if_neg h26] at hP;refine Z0 ?_;refine AW.weak (Zz (fun o=>o==8) (l:=[(5,.view .new (.agg [Za .any 3 Zib sl,.int .i64 r.i,encXs .new r.nodes,.int .i64 r.e]))]) (m:=[]) ?_ trivial) ?_
 ·refine Zs ?_
  exact Fz.ptr (v := .agg [Za .any 3 Zib sl,.int .i64 r.i,encXs .new r.nodes,.int .i64 r.e]) (c := .new) (fz:=0) rfl zp
 refine ZTf @encXs.eq_1 hG ?_;refine Z ?_
 rw [hP]<;>rfl
end Go.Hs
end

section
namespace Go.Hs
theorem Zqy {l:List Tk} (h:(Zkd l).2.2≠0):(Zkd l).1=[]:=by
 unfold Zkd at h ⊢
 split
 ·rfl
 ·split
  ·rfl
  ·rename_i h1 h2
   rw [if_neg h1,if_neg h2] at h;exact absurd rfl h
structure ASt where
 kind:Int
 name:List UInt8
 x:List XN
 deriving DecidableEq,Inhabited
def Zih:List UInt8:=[101,109,105,116]
def Zxb (l:List Tk) (i:Nat):List UInt8:=match l[i]? with | some t=>t.text | none=>[]
def Zgh (l:List Tk) (i:Nat):Bool:=match l[i]? with | some t=>t.kind==2 | none=>false
theorem Zzf {l:List Tk} {i:Nat} {t:Tk} (h:l[i]? = some t):Zxb l i=t.text:=by unfold Zxb;rw [h]
theorem Zgi {l:List Tk} {i:Nat} (h:l.length≤i):Zxb l i=[]:=by unfold Zxb;rw [List.getElem?_eq_none h]
theorem Zfh {l:List Tk} {i:Nat} {t:Tk} (h:l[i]? = some t):Zgh l i=(t.kind==2):=by unfold Zgh;rw [h]
theorem Zpf {l:List Tk} {i:Nat} (h:l.length≤i):Zgh l i=false:=by unfold Zgh;rw [List.getElem?_eq_none h]
def Zbc (l:List Tk):List (List UInt8)→Nat→Bool × Nat
 | [],i=>(true,i)
 | w::r,i=>if Zxb l i=w then Zbc l r (i+1) else (false,i)
def Zci (l:List Tk) (s:ASt) (ws:List (List UInt8)) (i:Nat):ASt × Int × Int :=
 ((s,((Zbc l ws i).2:Int),if (Zbc l ws i).1=true then 0 else 110))
def Zzk (l:List Tk) (k:Int) (nm:List UInt8) (ws:List (List UInt8)) (i:Nat):ASt × Int × Int :=
 if (Zkd (l.drop i)).2.2≠0 then (⟨k,nm,[]⟩,(i:Int)+(Zkd (l.drop i)).2.1,(Zkd (l.drop i)).2.2)
 else Zci l ⟨k,nm,(Zkd (l.drop i)).1⟩ ws (i+(Zkd (l.drop i)).2.1.toNat)
def Zme (l:List Tk) (k:Int) (w:List UInt8) (ws:List (List UInt8)) (i:Nat):ASt × Int × Int :=
 if Zgh l i=false then (⟨k,[],[]⟩,(i:Int),110)
 else if Zxb l (i+1)≠w then (⟨k,Zxb l i,[]⟩,((i+1:Nat):Int),110)
 else if k=2∧Zxb l (i+2)=[41] then Zci l ⟨k,Zxb l i,[]⟩ ws (i+2)
 else Zzk l k (Zxb l i) ws (i+2)
def Z3c (l:List Tk) (i:Nat):ASt × Int × Int :=
 if Zxb l i=Zih then Zme l 2 [40] [[41],[59]] (i+1) else Zme l 1 [58,61] [[59]] i
theorem Zj3 {l:List Tk}:∀ (ws:List (List UInt8)) (i:Nat),i≤(Zbc l ws i).2
 | [],i=>Nat.le_refl _
 | w::r,i=>by
  rw [Zbc]
  split
  ·exact Nat.le_trans (Nat.le_succ i) (Zj3 r (i+1))
  ·exact Nat.le_refl _
theorem Zle {l:List Tk} {i:Nat} (h:Zxb l i≠[]):i<l.length:=by
 refine Classical.byContradiction fun h2=>h (Zgi (by omega))
theorem Zi3 {l:List Tk}:∀ (ws:List (List UInt8)) (i:Nat),(∀ w∈ws,w≠[])→(Zbc l ws i).1=true→(Zbc l ws i).2=i+ws.length∧(ws≠[]→(Zbc l ws i).2≤l.length)
 | [],i,_,_=>⟨rfl,fun h=>absurd rfl h⟩
 | w::r,i,hw,h=>by
  rw [Zbc] at h ⊢
  split at h
  ·rename_i h1
   rw [if_pos h1];obtain ⟨h2,h3⟩:=Zi3 r (i+1) (fun x hx=>hw x (List.mem_cons_of_mem _ hx)) h;refine ⟨by rw [h2,List.length_cons];omega,fun _=>?_⟩;have h4:=Zle (l:=l) (i:=i) (by rw [h1];exact hw w (List.mem_cons_self ..))
   cases r with
   | nil=>rw [h2];exact h4
   | cons a b=>exact h3 (by simp)
  ·cases h
structure StB (l:List Tk) (i:Nat) (r:ASt × Int × Int):Prop where
 ge:(i:Int)≤r.2.1
 ok:r.2.2=0→(i:Int)<r.2.1∧r.2.1≤l.length
theorem Z87 {l:List Tk} {s:ASt} {ws:List (List UInt8)} {i j:Nat} (hw:∀ w∈ws,w≠[]) (hn:ws≠[]) (hij:i≤j):StB l i (Zci l s ws j):=by
 have h1:=Zj3 (l:=l) ws j;refine ⟨by show (i:Int)≤((Zbc l ws j).2:Int);omega,fun h=>?_⟩
 have ht:(Zbc l ws j).1=true:=by
  refine Classical.byContradiction fun h2=>?_;have h:(if (Zbc l ws j).1=true then (0:Int) else 110)=0:=h;rw [if_neg h2] at h;cases h
 obtain ⟨h3,h4⟩:=Zi3 ws j hw ht;have h5:=h4 hn;have h6:0<ws.length:=List.length_pos_iff.2 hn
 show (i:Int)<((Zbc l ws j).2:Int)∧((Zbc l ws j).2:Int)≤l.length
 omega
theorem exprS_b {l:List Tk} {k:Int} {nm:List UInt8} {ws:List (List UInt8)} {i j:Nat} (hw:∀ w∈ws,w≠[]) (hn:ws≠[]) (hij:i≤j):StB l i (Zzk l k nm ws j):=by
 unfold Zzk;have hb:=(Zxi (l:=l.drop j)).1
 split
 ·rename_i h
  exact ⟨by show (i:Int)≤(j:Int)+(Zkd (l.drop j)).2.1;omega,fun h2=>absurd h2 h⟩
 ·exact Z87 hw hn (by omega)
theorem Z47 {l:List Tk} {k:Int} {w:List UInt8} {ws:List (List UInt8)} {i j:Nat} (hw:∀ w∈ws,w≠[]) (hn:ws≠[]) (hij:i≤j):StB l i (Zme l k w ws j):=by
 unfold Zme
 split
 ·exact ⟨by show (i:Int)≤(j:Int);omega,fun h=>by cases h⟩
 split
 ·exact ⟨by show (i:Int)≤((j+1:Nat):Int);omega,fun h=>by cases h⟩
 split
 ·exact Z87 hw hn (by omega)
 ·exact exprS_b hw hn (by omega)
theorem Z8o (l:List Tk) (i:Nat):StB l i (Z3c l i):=by
 unfold Z3c
 split
 ·exact Z47 (by decide) (by decide) (by omega)
 ·exact Z47 (by decide) (by decide) (Nat.le_refl _)
def Zup (l:List Tk) (n:Nat) (i:Int):Int:=if i<l.length then (l.getD i.toNat ⟨0,[],0⟩).pos else n
def Zhg (l:List Tk) (n:Nat):Nat→Nat→List ASt→List ASt × Int × Int
 | 0,_,acc=>(acc,0,0)
 | f+1,i,acc =>
  if l.length≤i then (acc,0,0)
  else if acc.length=512 then ([],Zup l n i,3)
  else if (Z3c l i).2.2≠0 then ([],Zup l n (Z3c l i).2.1,(Z3c l i).2.2)
  else Zhg l n f (Z3c l i).2.1.toNat (acc++[(Z3c l i).1])
def Zzc (s:List UInt8):List ASt × Int × Int :=
 if (Zac s).2.2≠0 then ([],(Zac s).2.1,(Zac s).2.2) else Zhg (Zac s).1 s.length ((Zac s).1.length+1) 0 []
end Go.Hs
end
