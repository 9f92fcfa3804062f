/- Part 32 of the proof of a statement of seat YtohdjmgdaaipaaaGreatDoor: HsNumLaw HsLexLaw HsLexLaw2 HsNumParseLaw HsNumBits HsHLex1 HsHNumBase HsHNumRef1 HsHNumRef2 HsHNumRef3 HsHNumShelf. -/
import Derived.Lib.ParseIntB
import Derived.Lib.ItoaNum
import Derived.Lib.Strings
import Derived.Lib.Index
import Derived.Lib.IndexMore
import Derived.Lib.ParseIntBCases
import Derived.Test.YtohdjmgdaaipaaaGreatDoorPart30
import Derived.Test.YtohdjmgdaaipaaaGreatDoorPart18
import Derived.Test.YtohdjmgdaaipaaaGreatDoorPart20
import Derived.Test.YtohdjmgdaaipaaaGreatDoorPart31
import Derived.Test.YtohdjmgdaaipaaaGreatDoorPart24
import Derived.Lib.Mul64
import Derived.Test.YtohdjmgdaaipaaaGreatDoorChecked
import Derived.Shelf.Strconv.ParseIntPublic10
import Derived.Shelf.Strconv.ErrVarParseInt
import Derived.Shelf.Strconv.Itoa4
import Derived.Shelf.Strings.Prefix
import Derived.Ground.NamesProg
set_option linter.unusedSimpArgs false
set_option linter.unusedVariables false
section
namespace Go.Hs
def dgF:Nat→Nat→List Nat
 | 0,_=>[]
 | f+1,n=>if n=0 then [] else (n % 10)::dgF f (n / 10)
def dg (n:Nat):List Nat:=dgF n n
theorem dgF_eq:∀ (f f' n:Nat),n≤f→n≤f'→dgF f n=dgF f' n
 | 0,f',n,h,_=>by
  have:n=0:=by omega
  subst this
  cases f'<;>simp [dgF]
 | f+1,0,n,_,h=>by
  have:n=0:=by omega
  subst this;simp [dgF]
 | f+1,f'+1,n,h,h'=>by
  simp only [dgF]
  split
  ·rfl
  ·rw [dgF_eq f f' (n / 10) (by omega) (by omega)]
theorem dg_zero:dg 0=[]:=rfl
theorem dg_pos {n:Nat} (h:0<n):dg n=(n % 10)::dg (n / 10):=by
 obtain ⟨k,rfl⟩:∃ k,n=k+1:=⟨n-1,by omega⟩
 show dgF (k+1) (k+1)=_
 rw [dgF,if_neg (by omega),dgF_eq k ((k+1) / 10) _ (by omega) (Nat.le_refl _)];rfl
def val:List Nat→Nat
 | []=>0
 | d::r=>d+10 * val r
theorem val_app:∀ (a b:List Nat),val (a++b)=val a+10 ^ a.length * val b
 | [],b=>by simp [val]
 | d::a,b=>by
  rw [List.cons_append,val,val_app a b,val,List.length_cons,Nat.pow_succ];rw [Nat.mul_add,← Nat.mul_assoc,Nat.mul_comm 10 (10 ^ a.length)];omega
def Dig (l:List Nat):Prop:=∀ d∈l,d<10
theorem Dig.app {a b:List Nat}:Dig (a++b) ↔ Dig a∧Dig b:=by
 constructor
 ·exact fun h=>⟨fun d hd=>h d (by simp [hd]),fun d hd=>h d (by simp [hd])⟩
 ·rintro ⟨h1,h2⟩ d hd
  rcases List.mem_append.1 hd with h | h
  ·exact h1 d h
  ·exact h2 d h
theorem Dig.one {d:Nat} (h:d<10):Dig [d]:=by intro x hx;simp at hx;omega
theorem val_dg (n:Nat):val (dg n)=n:=by
 induction n using Nat.strongRecOn with
 | _ n ih =>
  rcases Nat.eq_zero_or_pos n with h | h
  ·subst h;rfl
  ·rw [dg_pos h,val,ih (n / 10) (by omega)]
   omega
theorem dig_dg (n:Nat):Dig (dg n):=by
 induction n using Nat.strongRecOn with
 | _ n ih =>
  rcases Nat.eq_zero_or_pos n with h | h
  ·subst h;intro d hd;simp [dg_zero] at hd
  ·rw [dg_pos h]
   intro d hd
   rcases List.mem_cons.1 hd with rfl | hd
   ·omega
   ·exact ih (n / 10) (by omega) d hd
theorem dg_last (n:Nat):∀ d,(dg n).getLast? = some d→d≠0:=by
 induction n using Nat.strongRecOn with
 | _ n ih =>
  intro d hd
  rcases Nat.eq_zero_or_pos n with h | h
  ·subst h;simp [dg_zero] at hd
  ·rw [dg_pos h] at hd
   rcases Nat.eq_zero_or_pos (n / 10) with h2 | h2
   ·rw [h2,dg_zero] at hd
    simp at hd;omega
   ·have hne:dg (n / 10)≠[]:=by rw [dg_pos h2];simp
    rw [List.getLast?_cons_of_ne_nil hne] at hd;exact ih (n / 10) (by omega) d hd
theorem dg_len {n k:Nat} (h:n<10 ^ k):(dg n).length≤k:=by
 induction k generalizing n with
 | zero =>
  have:n=0:=by simp at h;exact h
  subst this;simp [dg_zero]
 | succ k ih =>
  rcases Nat.eq_zero_or_pos n with h0 | h0
  ·subst h0;simp [dg_zero]
  ·rw [dg_pos h0,List.length_cons]
   have:=ih (n:=n / 10) (by rw [Nat.pow_succ] at h;omega);omega
theorem dg_ne {n:Nat}:dg n=[] ↔ n=0:=by
 constructor
 ·intro h;have:=val_dg n;rw [h] at this;exact this.symm
 ·rintro rfl;rfl
def fits (x:Int):Bool:=decide (-9223372036854775808≤x∧x≤9223372036854775807)
def told (x:Int):Int × Int:=if fits x then (x,0) else (0,60)
def isDig (c:UInt8):Bool:=48≤c.toNat && c.toNat≤57
def dval (c:UInt8):Nat:=c.toNat-48
def parseR (s:List UInt8):Int × Int :=
 let below:=s.head? == some 45
 let t:=if below then s.drop 1 else s
 if t=[]∨(t.head? = some 48∧(t.length > 1∨below=true))∨t.all isDig=false then (0,2)
 else told (if below then -(val (t.reverse.map dval):Int) else val (t.reverse.map dval))
def putR (n:Int):List UInt8:=Lib.itoa n
end Go.Hs
end

section
namespace Go.Hs
open Go
structure Tk where
 kind:Int
 text:List UInt8
 pos:Int
 deriving DecidableEq,Inhabited
def isLt (c:UInt8):Bool:=c==95 || (decide (97≤(c.toNat ||| 32)) && decide ((c.toNat ||| 32)≤122))
def isAl (c:UInt8):Bool:=isLt c || isDig c
def isBl (c:UInt8):Bool:=c==32 || (decide (9≤c.toNat) && decide (c.toNat≤10)) || c==13
def noNl (c:UInt8):Bool := !(c==10)
def runL (p:UInt8→Bool):List UInt8→Nat
 | []=>0
 | c::r=>if p c then runL p r+1 else 0
theorem runL_cons (p:UInt8→Bool) (c:UInt8) (r:List UInt8):runL p (c::r)=if p c then runL p r+1 else 0:=rfl
theorem runL_le (p:UInt8→Bool):∀ s,runL p s≤s.length
 | []=>Nat.le_refl _
 | c::r=>by
  have:=runL_le p r;unfold runL
  split
  ·simp only [List.length_cons];omega
  ·exact Nat.zero_le _
def hasPre (p s:List UInt8):Bool:=p.isPrefixOf s
theorem hasPre_nil (s:List UInt8):hasPre [] s=true:=by cases s<;>rfl
theorem hasPre_end (a:UInt8) (p:List UInt8):hasPre (a::p) []=false:=rfl
theorem hasPre_cons (a c:UInt8) (p s:List UInt8):hasPre (a::p) (c::s)=(a==c && hasPre p s):=rfl
def blkF:Nat→List UInt8→Nat
 | 0,_=>0
 | _+1,[]=>0
 | f+1,c::r=>if isBl c then blkF f r+1 else if hasPre [45,45] (c::r) then runL noNl (c::r)+blkF f ((c::r).drop (runL noNl (c::r))) else 0
def blk (s:List UInt8):Nat:=blkF s.length s
theorem noNl_pre {s:List UInt8} (h:hasPre [45,45] s=true):2≤runL noNl s∧2≤s.length:=by
 match s with
 | []=>simp [hasPre] at h
 | [_]=>simp [hasPre] at h
 | a::b::r =>
  simp [hasPre] at h;obtain ⟨rfl,rfl⟩:=h;simp [runL,noNl]
theorem blkF_eq:∀ (f f':Nat) (s:List UInt8),s.length≤f→s.length≤f'→blkF f s=blkF f' s
 | 0,f',s,h,_=>by
  have:s=[]:=List.length_eq_zero_iff.1 (by omega);subst this
  cases f'<;>rfl
 | f+1,0,s,_,h=>by
  have:s=[]:=List.length_eq_zero_iff.1 (by omega);subst this;rfl
 | f+1,f'+1,[],_,_=>rfl
 | f+1,f'+1,c::r,h,h'=>by
  simp only [List.length_cons] at h h';unfold blkF
  split
  ·rw [blkF_eq f f' r (by omega) (by omega)]
  ·split
   ·rename_i hp
    have:=noNl_pre hp;rw [blkF_eq f f' _ (by simp only [List.length_drop,List.length_cons];omega) (by simp only [List.length_drop,List.length_cons];omega)]
   ·rfl
theorem blk_nil:blk []=0:=rfl
theorem blk_bl {c:UInt8} {r:List UInt8} (h:isBl c=true):blk (c::r)=blk r+1:=by
 unfold blk;rw [List.length_cons,blkF,if_pos h]
theorem blk_rem {s:List UInt8} (h:hasPre [45,45] s=true):blk s=runL noNl s+blk (s.drop (runL noNl s)):=by
 match s with
 | []=>simp [hasPre] at h
 | c::r =>
  have hc:isBl c=false:=by
   cases r with
   | nil=>simp [hasPre] at h
   | cons d r=>simp [hasPre] at h;rw [← h.1];decide
  have:=noNl_pre h;unfold blk;rw [List.length_cons,blkF,if_neg (by simp [hc]),if_pos h];rw [blkF_eq r.length _ _ (by simp only [List.length_drop,List.length_cons];omega) (Nat.le_refl _)]
theorem blk_no {c:UInt8} {r:List UInt8} (h:isBl c=false) (h2:hasPre [45,45] (c::r)=false):blk (c::r)=0:=by
 unfold blk;rw [List.length_cons,blkF,if_neg (by simp [h]),if_neg (by simp [h2])]
theorem blk_le (s:List UInt8):blk s≤s.length:=by
 have key:∀ (n:Nat) (s:List UInt8),s.length≤n→blk s≤s.length:=by
  intro n
  induction n with
  | zero =>
   intro s h;have:s=[]:=List.length_eq_zero_iff.1 (by omega);subst this;exact Nat.le_refl _
  | succ n ih =>
   intro s h
   match s with
   | []=>exact Nat.le_refl _
   | c::r =>
    cases hb:isBl c with
    | true =>
     rw [blk_bl hb];have:=ih r (by simp only [List.length_cons] at h;omega);simp only [List.length_cons];omega
    | false =>
     cases hp:hasPre [45,45] (c::r) with
     | false=>rw [blk_no hb hp];exact Nat.zero_le _
     | true =>
      have h1:=noNl_pre hp;have h2:=runL_le noNl (c::r);rw [blk_rem hp];have:=ih ((c::r).drop (runL noNl (c::r))) (by rw [List.length_drop];omega);rw [List.length_drop] at this;omega
 exact key s.length s (Nat.le_refl _)
def clear' (s:List UInt8):Prop:=∀ c r,s=c::r→isBl c=false∧hasPre [45,45] s=false
theorem blk_clear (s:List UInt8):clear' (s.drop (blk s)):=by
 have key:∀ (n:Nat) (s:List UInt8),s.length≤n→clear' (s.drop (blk s)):=by
  intro n
  induction n with
  | zero =>
   intro s h;have:s=[]:=List.length_eq_zero_iff.1 (by omega);subst this;intro c r hh;simp [blk_nil] at hh
  | succ n ih =>
   intro s h
   match s with
   | []=>intro c r hh;simp [blk_nil] at hh
   | c::r =>
    cases hb:isBl c with
    | true =>
     rw [blk_bl hb,List.drop_succ_cons];exact ih r (by simp only [List.length_cons] at h;omega)
    | false =>
     cases hp:hasPre [45,45] (c::r) with
     | false =>
      rw [blk_no hb hp,List.drop_zero];intro c' r' hh;cases hh;exact ⟨hb,hp⟩
     | true =>
      have h1:=noNl_pre hp;have h2:=runL_le noNl (c::r);rw [blk_rem hp,← List.drop_drop];exact ih _ (by rw [List.length_drop];omega)
 exact key s.length s (Nat.le_refl _)
def signsL:List (List UInt8):=[[58,61],[60,62],[60,61],[62,61],[60],[62],[61],[43],[45],[42],[40],[41],[44],[59]]
def wordsL:List (List UInt8):=[[97,110,100],[100,105,118],[101,108,115,101],[101,109,105,116],[101,110,100,105,102],[102,97,108,115,101],[105,102],[105,109,112,108,105,101,115],[109,111,100],[110,111,116],[111,114],[116,104,101,110],[116,114,117,101],[120,111,114]]
def wordsT:List UInt8:=32::wordsL.flatMap (· ++ [32])
def firstP (s:List UInt8):Nat × Nat :=
 match s with
 | []=>(0,0)
 | c::_ =>
  if hasPre [45,45] s then (0,0)
  else if isDig c then (runL isDig s,1)
  else if isLt c then (runL isAl s,if wordsL.contains (s.take (runL isAl s)) then 3 else 2)
  else match signsL.find? (hasPre · s) with
   | some t=>(t.length,4)
   | none=>(0,0)
def isP (s:List UInt8):Nat:=if (firstP s).1≠s.length∨(firstP s).1 > 64 then 0 else (firstP s).2
theorem firstP_cons (c:UInt8) (r:List UInt8):firstP (c::r) =
  if hasPre [45,45] (c::r) then (0,0)
  else if isDig c then (runL isDig (c::r),1)
  else if isLt c then (runL isAl (c::r),if wordsL.contains ((c::r).take (runL isAl (c::r))) then 3 else 2)
  else match signsL.find? (hasPre · (c::r)) with
   | some t=>(t.length,4)
   | none=>(0,0):=rfl
theorem firstP_le (s:List UInt8):(firstP s).1≤s.length:=by
 unfold firstP
 split
 ·exact Nat.le_refl _
 ·split
  ·exact Nat.zero_le _
  ·split
   ·exact runL_le _ _
   ·split
    ·exact runL_le _ _
    ·split
     ·rename_i h
      have:=List.find?_some h;exact (List.isPrefixOf_iff_prefix.1 this).length_le
     ·exact Nat.zero_le _
def toksF:Nat→List UInt8→Nat→List Tk→List Tk × Int × Int
 | 0,_,_,acc=>(acc,0,0)
 | f+1,s,i,acc =>
  if i<s.length then
   if (firstP (s.drop i)).1=0∨(firstP (s.drop i)).1 > 64 then ([],i,70)
   else toksF f s (i+(firstP (s.drop i)).1+blk (s.drop (i+(firstP (s.drop i)).1))) (acc++[⟨(firstP (s.drop i)).2,(s.drop i).take (firstP (s.drop i)).1,i⟩])
  else (acc,0,0)
def toksP (s:List UInt8):List Tk × Int × Int:=if s.length > 65536 then ([],0,3) else toksF (s.length+1) s (blk s) []
theorem toksF_eq:∀ (f f':Nat) (s:List UInt8) (i:Nat) (acc:List Tk),s.length<f+i→s.length<f'+i→toksF f s i acc=toksF f' s i acc
 | 0,f',s,i,acc,h,_=>by
  cases f' with
  | zero=>rfl
  | succ f'=>rw [toksF,toksF,if_neg (by omega)]
 | f+1,0,s,i,acc,_,h=>by rw [toksF,toksF,if_neg (by omega)]
 | f+1,f'+1,s,i,acc,h,h'=>by
  unfold toksF
  split
  ·split
   ·rfl
   ·rename_i hn
    exact toksF_eq f f' _ _ _ (by omega) (by omega)
  ·rfl
theorem toksF_step {f:Nat} {s:List UInt8} {i:Nat} {acc:List Tk} (h:i<s.length) (hf:s.length<f+i) (hn:¬ ((firstP (s.drop i)).1=0∨(firstP (s.drop i)).1 > 64)) :
  toksF f s i acc=toksF f s (i+(firstP (s.drop i)).1+blk (s.drop (i+(firstP (s.drop i)).1))) (acc++[⟨(firstP (s.drop i)).2,(s.drop i).take (firstP (s.drop i)).1,i⟩]):=by
 cases f with
 | zero=>omega
 | succ f =>
  rw [toksF,if_pos h,if_neg hn];exact toksF_eq _ _ _ _ _ (by omega) (by omega)
theorem toksF_bad {f:Nat} {s:List UInt8} {i:Nat} {acc:List Tk} (h:i<s.length) (hf:s.length<f+i) (hn:(firstP (s.drop i)).1=0∨(firstP (s.drop i)).1 > 64):toksF f s i acc=([],(i:Int),70):=by
 cases f with
 | zero=>omega
 | succ f=>rw [toksF,if_pos h,if_pos hn]
theorem toksF_end {f:Nat} {s:List UInt8} {i:Nat} {acc:List Tk} (h:¬ i<s.length):toksF f s i acc=(acc,0,0):=by
 cases f with
 | zero=>rfl
 | succ f=>rw [toksF,if_neg h]
def wholeP (s:List UInt8):Nat :=
 if signsL.contains s then 4 else if wordsL.contains s then 3 else match s with
 | []=>0
 | c::_=>if s.all isDig then 1 else if isLt c && s.all isAl then 2 else 0
theorem u8_all (p:UInt8→Bool) (h:(List.range 256).all (fun n=>p (UInt8.ofNat n))=true) (c:UInt8):p c=true:=by
 have h2:=List.all_eq_true.1 h c.toNat (List.mem_range.2 c.toNat_lt)
 have e:UInt8.ofNat c.toNat=c:=by simp
 rw [e] at h2;exact h2
theorem isDg_not {c:UInt8} (h:isDig c=true):isLt c=false∧isAl c=true:=by
 revert h
 unfold isAl;have:=u8_all (fun c => !isDig c || (!isLt c && (isLt c || isDig c))) (by decide +kernel) c;intro h;simpa [h] using this
theorem runL_all {p:UInt8→Bool}:∀ {s:List UInt8},(runL p s=s.length)=(s.all p=true)
 | []=>by simp [runL]
 | c::r=>by
  unfold runL;rw [List.all_cons,Bool.and_eq_true,← runL_all (s:=r)]
  by_cases h:p c=true
  ·simp [h]
  ·simp [h]
theorem words_al:∀ w∈wordsL,w.all isAl=true∧w≠[]∧(∀ c∈w.head?,isLt c=true):=by decide +kernel
theorem signs_no:∀ w∈signsL,w≠[]∧w.length≤2∧(∀ c∈w,isAl c=false):=by decide +kernel
theorem whole_dg {c:UInt8} {r:List UInt8} (h:isDig c=true):wholeP (c::r)=if (c::r).all isDig then 1 else 0:=by
 have h1:=isDg_not h
 have h2:signsL.contains (c::r)=false:=by
  rw [Bool.eq_false_iff];intro hc;have:=(signs_no (c::r) (by simpa using hc)).2.2 c (by simp);rw [h1.2] at this;cases this
 have h3:wordsL.contains (c::r)=false:=by
  rw [Bool.eq_false_iff];intro hc;have:=(words_al (c::r) (by simpa using hc)).2.2 c (by simp);rw [h1.1] at this;cases this
 unfold wholeP;simp only [h2,h3,h1.1,Bool.false_and];simp
theorem whole_lt {c:UInt8} {r:List UInt8} (h:isLt c=true):wholeP (c::r)=if (c::r).all isAl then (if wordsL.contains (c::r) then 3 else 2) else 0:=by
 have h1:isDig c=false:=by
  rw [Bool.eq_false_iff];intro hd;rw [(isDg_not hd).1] at h;cases h
 have h1':isAl c=true:=by unfold isAl;rw [h];rfl
 have h2:signsL.contains (c::r)=false:=by
  rw [Bool.eq_false_iff];intro hc;have:=(signs_no (c::r) (by simpa using hc)).2.2 c (by simp);rw [h1'] at this;cases this
 have h3:(c::r).all isDig=false:=by rw [List.all_cons,h1];rfl
 unfold wholeP;simp only [h2,h3,h,Bool.true_and]
 by_cases h4:wordsL.contains (c::r)=true
 ·rw [if_neg (by simp),if_pos h4,if_pos ((words_al _ (by simpa using h4)).1),if_pos h4]
 ·rw [if_neg (by simp),if_neg h4,if_neg (by simp),if_neg h4]
theorem whole_no {c:UInt8} {r:List UInt8} (h:isAl c=false):wholeP (c::r)=if signsL.contains (c::r) then 4 else 0:=by
 have h1:isLt c=false∧isDig c=false:=by unfold isAl at h;simpa using h
 have h2:wordsL.contains (c::r)=false:=by
  rw [Bool.eq_false_iff];intro hc;have:=(words_al (c::r) (by simpa using hc)).2.2 c (by simp);rw [h1.1] at this;cases this
 have h3:(c::r).all isDig=false:=by rw [List.all_cons,h1.2];rfl
 unfold wholeP;simp only [h2,h3,h1.1,Bool.false_and]
 split<;>rfl
end Go.Hs
end

section
namespace Go.Hs
open Go
theorem contains_nil (c:UInt8) (q:List UInt8):Lib.contains [] (c::q)=false:=by simp [Lib.contains,Lib.index]
theorem contains_cons (b:UInt8) (l p:List UInt8):Lib.contains (b::l) p=(p.isPrefixOf (b::l) || Lib.contains l p):=by
 unfold Lib.contains;rw [Lib.index]
 by_cases h:p.isPrefixOf (b::l)=true
 ·rw [if_pos h,h];simp
 ·have h':p.isPrefixOf (b::l)=false:=Bool.eq_false_iff.2 h
  rw [if_neg h,h',Bool.false_or]
  rcases Lib.index_spec l p with ⟨h1,_⟩ | ⟨i,h1,_⟩
  ·rw [h1];simp
  ·rw [h1]
   have:((i:Int) == -1)=false:=by rw [beq_eq_false_iff_ne];omega
   simp only [this];simp;omega
theorem pre_sp:∀ (w v rest:List UInt8),(∀ c∈w,c≠32)→(∀ c∈v,c≠32)→(w++[32]).isPrefixOf (v++32::rest)=(w==v)
 | [],[],rest,_,_=>by simp
 | [],b::v,rest,_,hv=>by
  have:=hv b (by simp);simp [List.isPrefixOf];exact fun h=>absurd h.symm this
 | a::w,[],rest,hw,_=>by
  have:=hw a (by simp);simp [List.isPrefixOf];exact fun h=>absurd h this
 | a::w,b::v,rest,hw,hv=>by
  have:=pre_sp w v rest (fun c hc=>hw c (by simp [hc])) (fun c hc=>hv c (by simp [hc]));simp only [List.cons_append,List.isPrefixOf,this];simp [List.cons_beq_cons]
theorem contains_skip (q:List UInt8):∀ (v l:List UInt8),(∀ c∈v,c≠32)→Lib.contains (v++l) (32::q)=Lib.contains l (32::q)
 | [],_,_=>rfl
 | b::v,l,hv=>by
  have h1:=hv b (by simp);rw [List.cons_append,contains_cons,contains_skip q v l fun c hc=>hv c (by simp [hc])]
  have:((32::q).isPrefixOf (b::(v++l)))=false:=by
   simp only [List.isPrefixOf,Bool.and_eq_false_iff]
   left
   simpa using fun h=>h1 h.symm
  rw [this,Bool.false_or]
theorem contains_words (w:List UInt8) (hw:∀ c∈w,c≠32):∀ (Ws:List (List UInt8)),(∀ v∈Ws,∀ c∈v,c≠32) →
  Lib.contains (32::Ws.flatMap (· ++ [32])) (32::(w++[32]))=Ws.contains w
 | [],_=>by
  rw [List.flatMap_nil,contains_cons,contains_nil]
  cases w with
  | nil=>rfl
  | cons=>rfl
 | v::Ws,h=>by
  have hv:=h v (by simp);rw [List.flatMap_cons,contains_cons,List.append_assoc,contains_skip _ _ _ hv,List.singleton_append,contains_words w hw Ws fun x hx=>h x (by simp [hx]),List.contains_cons]
  congr 1
  simp only [List.isPrefixOf,beq_self_eq_true,Bool.true_and];exact pre_sp w v _ hw hv
theorem al_no {c:UInt8} (h:isAl c=true):c≠32:=by rintro rfl;revert h;decide
theorem words_contains (w:List UInt8) (hw:w.all isAl=true):Lib.contains wordsT (32::(w++[32]))=wordsL.contains w:=by
 rw [List.all_eq_true] at hw
 exact contains_words w (fun c hc=>al_no (hw c hc)) wordsL fun v hv c hc=>by
  have:=(words_al v hv).1;rw [List.all_eq_true] at this;exact al_no (this c hc)
theorem runL_all_take (p:UInt8→Bool):∀ s:List UInt8,(s.take (runL p s)).all p=true
 | []=>rfl
 | c::r=>by
  unfold runL
  split
  ·rename_i h
   rw [List.take_succ_cons,List.all_cons,h,runL_all_take p r];rfl
  ·rfl
theorem al_cases (c:UInt8):isDig c=true∨(isDig c=false∧isLt c=true)∨(isAl c=false∧isDig c=false∧isLt c=false):=by
 unfold isAl
 cases h:isDig c with
 | true=>exact .inl rfl
 | false =>
  cases h2:isLt c with
  | true=>exact .inr (.inl ⟨rfl,rfl⟩)
  | false=>exact .inr (.inr ⟨rfl,rfl,rfl⟩)
def sgnN (s:List UInt8):Nat:=match signsL.find? (hasPre · s) with | some t=>t.length | none=>0
theorem first_dig {c:UInt8} {r:List UInt8} (h:isDig c=true):firstP (c::r)=(runL isDig (c::r),1):=by
 have h1:hasPre [45,45] (c::r)=false:=by
  have:(45==c)=false:=by
   rw [beq_eq_false_iff_ne];rintro rfl;revert h;decide
  rw [hasPre_cons,this];rfl
 rw [firstP_cons,if_neg (by simp [h1]),if_pos h]
theorem first_lt {c:UInt8} {r:List UInt8} (h:isLt c=true):firstP (c::r)=(runL isAl (c::r),if wordsL.contains ((c::r).take (runL isAl (c::r))) then 3 else 2):=by
 have h1:hasPre [45,45] (c::r)=false:=by
  have:(45==c)=false:=by
   rw [beq_eq_false_iff_ne];rintro rfl;revert h;decide
  rw [hasPre_cons,this];rfl
 have h2:isDig c=false:=by
  rw [Bool.eq_false_iff];intro hd;rw [(isDg_not hd).1] at h;cases h
 rw [firstP_cons,if_neg (by simp [h1]),if_neg (by simp [h2]),if_pos h]
theorem first_no {c:UInt8} {r:List UInt8} (h:isAl c=false) (h1:hasPre [45,45] (c::r)=false):firstP (c::r)=(sgnN (c::r),if sgnN (c::r)=0 then 0 else 4):=by
 have h2:isLt c=false∧isDig c=false:=by unfold isAl at h;simpa using h
 unfold sgnN;rw [firstP_cons,if_neg (by simp [h1]),if_neg (by simp [h2.2]),if_neg (by simp [h2.1])]
 cases hf:signsL.find? (hasPre · (c::r)) with
 | none=>rfl
 | some t =>
  have:=List.mem_of_find?_eq_some hf;have:=(signs_no t this).1;have:t.length≠0:=fun h=>this (List.length_eq_zero_iff.1 h);simp [this]
theorem find_sgn:∀ (L:List (List UInt8)) (c:UInt8),(∀ t∈L,t≠[])→(match L.find? (hasPre · [c]) with | some t=>t.length | none=>0)=if L.contains [c] then 1 else 0
 | [],c,_=>rfl
 | t::L,c,h=>by
  have ih:=find_sgn L c fun x hx=>h x (by simp [hx]);rw [List.find?_cons,List.contains_cons]
  match t,h t (by simp) with
  | [a],_ =>
   by_cases e:a=c
   ·subst e;simp [hasPre_cons,hasPre_nil,hasPre_end]
   ·have:hasPre [a] [c]=false:=by simp [hasPre_cons,hasPre_nil,hasPre_end,e]
    rw [this]
    have:(([c]:List UInt8)==[a])=false:=by simpa using fun h=>e h.symm
    rw [this,Bool.false_or];exact ih
  | a::b::r,_ =>
   have:hasPre (a::b::r) [c]=false:=by simp [hasPre_cons,hasPre_nil,hasPre_end]
   rw [this]
   have:(([c]:List UInt8)==a::b::r)=false:=by simp
   rw [this,Bool.false_or];exact ih
theorem find_sgn2:∀ (L M:List (List UInt8)) (c d:UInt8) (r:List UInt8),(∀ t∈L,t.length=2)→(∀ t∈M,t.length=1) →
  (match (L++M).find? (hasPre · (c::d::r)) with | some t=>t.length | none=>0)=if L.contains [c,d] then 2 else if M.contains [c] then 1 else 0
 | [],[],c,d,r,_,_=>rfl
 | [],t::M,c,d,r,hL,hM=>by
  have ih:=find_sgn2 [] M c d r hL fun x hx=>hM x (by simp [hx]);rw [List.nil_append] at ih ⊢
  match t,hM t (by simp) with
  | [a],_ =>
   rw [List.find?_cons,List.contains_cons]
   by_cases e:a=c
   ·subst e;simp [hasPre_cons,hasPre_nil,hasPre_end]
   ·have:hasPre [a] (c::d::r)=false:=by simp [hasPre_cons,hasPre_nil,hasPre_end,e]
    rw [this]
    have:(([c]:List UInt8)==[a])=false:=by simpa using fun h=>e h.symm
    rw [this,Bool.false_or];exact ih
 | t::L,M,c,d,r,hL,hM=>by
  have ih:=find_sgn2 L M c d r (fun x hx=>hL x (by simp [hx])) hM
  match t,hL t (by simp) with
  | [a,b],_ =>
   rw [List.cons_append,List.find?_cons,List.contains_cons]
   by_cases e:a=c∧b=d
   ·obtain ⟨rfl,rfl⟩:=e;simp [hasPre_cons,hasPre_nil,hasPre_end]
   ·have:hasPre [a,b] (c::d::r)=false:=by simpa [hasPre_cons,hasPre_nil,hasPre_end] using e
    rw [this]
    have:(([c,d]:List UInt8)==[a,b])=false:=by simpa using fun h1 h2=>e ⟨h1.symm,h2.symm⟩
    rw [this,Bool.false_or];exact ih
def sg2:List (List UInt8):=[[58,61],[60,62],[60,61],[62,61]]
def sg1:List (List UInt8):=[[60],[62],[61],[43],[45],[42],[40],[41],[44],[59]]
theorem sgnN_one (c:UInt8):sgnN [c]=if signsL.contains [c] then 1 else 0:=find_sgn signsL c fun t ht=>(signs_no t ht).1
theorem sgnN_two (c d:UInt8) (r:List UInt8):sgnN (c::d::r)=if sg2.contains [c,d] then 2 else if sg1.contains [c] then 1 else 0:=find_sgn2 sg2 sg1 c d r (by decide) (by decide)
theorem contains_split (x:List UInt8):signsL.contains x=(sg2.contains x || sg1.contains x):=by
 show (sg2++sg1).contains x=_
 simp
theorem sg1_len {x:List UInt8} (h:x.length≠1):sg1.contains x=false:=by
 rw [Bool.eq_false_iff];intro hc
 have:∀ t∈sg1,t.length=1:=by decide
 exact h (this x (by simpa using hc))
theorem sg2_len {x:List UInt8} (h:x.length≠2):sg2.contains x=false:=by
 rw [Bool.eq_false_iff];intro hc
 have:∀ t∈sg2,t.length=2:=by decide
 exact h (this x (by simpa using hc))
theorem whole_one {c:UInt8} (h:isAl c=false):wholeP [c]=if sg1.contains [c] then 4 else 0:=by
 rw [whole_no h,contains_split,sg2_len (by simp),Bool.false_or]
theorem whole_two {c d:UInt8} (h:isAl c=false):wholeP [c,d]=if sg2.contains [c,d] then 4 else 0:=by
 rw [whole_no h,contains_split,sg1_len (by simp),Bool.or_false]
theorem whole_more {c d e:UInt8} {r:List UInt8} (h:isAl c=false):wholeP (c::d::e::r)=0:=by
 rw [whole_no h,contains_split,sg1_len (by simp),sg2_len (by simp)];rfl
theorem isP_whole (s:List UInt8):isP s=if s.length > 64 then 0 else wholeP s:=by
 have key:(if (firstP s).1≠s.length then 0 else (firstP s).2)=wholeP s:=by
  match s with
  | []=>rfl
  | c::r =>
   rcases al_cases c with h | ⟨_,h⟩ | ⟨h,_⟩
   ·rw [first_dig h,whole_dg h]
    by_cases ha:(c::r).all isDig=true
    ·rw [if_pos ha,if_neg (by rw [ne_eq,Decidable.not_not,runL_all];exact ha)]
    ·rw [if_neg ha,if_pos (by rw [ne_eq,runL_all];exact ha)]
   ·rw [first_lt h,whole_lt h]
    by_cases ha:(c::r).all isAl=true
    ·have hl:runL isAl (c::r)=(c::r).length:=by rw [runL_all];exact ha
     rw [if_pos ha,hl,List.take_length,if_neg (by simp)]
    ·rw [if_neg ha,if_pos (by rw [ne_eq,runL_all];exact ha)]
   ·match r with
    | [] =>
     rw [first_no h (by simp [hasPre_cons,hasPre_nil,hasPre_end]),sgnN_one,whole_no h];generalize signsL.contains [c]=x
     cases x<;>simp
    | [d] =>
     rw [whole_two h]
     cases hp:hasPre [45,45] [c,d] with
     | true =>
      have:c=45∧d=45:=by
       rw [hasPre_cons,hasPre_cons,hasPre_nil,Bool.and_true,Bool.and_eq_true,beq_iff_eq,beq_iff_eq] at hp;exact ⟨hp.1.symm,hp.2.symm⟩
      obtain ⟨rfl,rfl⟩:=this
      decide
     | false =>
      rw [first_no h hp,sgnN_two];generalize sg2.contains [c,d]=x;generalize sg1.contains [c]=y
      cases x<;>cases y<;>simp
    | d::e::r =>
     rw [whole_more h]
     cases hp:hasPre [45,45] (c::d::e::r) with
     | true =>
      have:firstP (c::d::e::r)=(0,0):=by rw [firstP_cons,if_pos hp]
      rw [this];simp
     | false =>
      rw [first_no h hp,sgnN_two];generalize sg2.contains [c,d]=x;generalize sg1.contains [c]=y
      cases x<;>cases y<;>simp
 unfold isP
 by_cases h1:(firstP s).1=s.length
 ·rw [← key,if_neg (show ¬ (firstP s).1≠s.length by simpa using h1),h1]
  by_cases h2:s.length > 64
  ·rw [if_pos (.inr h2),if_pos h2]
  ·rw [if_neg (by simpa using h2),if_neg h2]
 ·rw [if_pos (.inl h1)]
  rw [if_pos h1] at key;rw [← key];simp
theorem first_kind {s:List UInt8} (hc:hasPre [45,45] s=false) (hn:(firstP s).1≠0):wholeP (s.take (firstP s).1)=(firstP s).2∧(firstP s).2≠0:=by
 match s with
 | []=>exact absurd rfl hn
 | c::r =>
  rcases al_cases c with h | ⟨_,h⟩ | ⟨h,_⟩
  ·have e:=first_dig (r:=r) h
   rw [e] at hn ⊢;have hn:runL isDig (c::r)≠0:=hn;obtain ⟨k,hk⟩:∃ j,runL isDig (c::r)=j+1:=⟨runL isDig (c::r)-1,by omega⟩;have h2:=runL_all_take isDig (c::r);refine ⟨?_,by simp⟩
   show wholeP ((c::r).take (runL isDig (c::r)))=1
   rw [hk] at h2 ⊢;rw [List.take_succ_cons] at h2 ⊢;rw [whole_dg h,if_pos h2]
  ·have e:=first_lt (r:=r) h
   rw [e] at hn ⊢;have hn:runL isAl (c::r)≠0:=hn;obtain ⟨k,hk⟩:∃ j,runL isAl (c::r)=j+1:=⟨runL isAl (c::r)-1,by omega⟩;have h2:=runL_all_take isAl (c::r);refine ⟨?_,by show (if _ then 3 else 2)≠0;split<;>simp⟩
   show wholeP ((c::r).take (runL isAl (c::r)))=if wordsL.contains ((c::r).take (runL isAl (c::r))) then 3 else 2
   rw [hk] at h2 ⊢;rw [List.take_succ_cons] at h2 ⊢;rw [whole_lt h,if_pos h2]
  ·have e:=first_no (r:=r) h hc
   rw [e] at hn ⊢;have hn:sgnN (c::r)≠0:=hn;refine ⟨?_,by show (if _ then 0 else 4)≠0;rw [if_neg hn];simp⟩
   show wholeP ((c::r).take (sgnN (c::r)))=if sgnN (c::r)=0 then 0 else 4
   rw [if_neg hn]
   match r with
   | [] =>
    rw [sgnN_one] at hn ⊢
    cases hs:signsL.contains [c] with
    | false=>rw [hs] at hn;simp at hn
    | true=>rw [if_pos rfl,List.take_succ_cons,List.take_zero,whole_no h,hs];rfl
   | d::r =>
    rw [sgnN_two] at hn ⊢
    cases hs:sg2.contains [c,d] with
    | true=>rw [if_pos rfl,List.take_succ_cons,List.take_succ_cons,List.take_zero,whole_two h,hs];rfl
    | false =>
     rw [hs] at hn;rw [if_neg (by simp)] at hn ⊢
     cases hs1:sg1.contains [c] with
     | false=>rw [hs1] at hn;simp at hn
     | true=>rw [if_pos rfl,List.take_succ_cons,List.take_zero,whole_one h,hs1];rfl
end Go.Hs
end

section
namespace Go.Hs
open Go
def writtenP (s:List UInt8):Bool :=
 let t:=Lib.trimPrefix s [45]
 t.all isDig && (s==[48] || (!(t==[]) && !(t.head? == some 48)))
def rdv (acc:Nat) (l:List UInt8):Nat:=l.foldl (fun a c=>a * 10+dval c) acc
theorem rdv_val:∀ (l:List UInt8) (acc:Nat),rdv acc l=acc * 10 ^ l.length+val (l.reverse.map dval)
 | [],acc=>by simp [rdv,val]
 | c::r,acc=>by
  have:=rdv_val r (acc * 10+dval c);rw [show rdv acc (c::r)=rdv (acc * 10+dval c) r from rfl,this,List.reverse_cons,List.map_append,val_app,List.length_cons,Nat.pow_succ,List.length_map,List.length_reverse];simp only [List.map_cons,List.map_nil,val,Nat.mul_zero,Nat.add_zero];rw [Nat.add_mul,Nat.mul_assoc,Nat.mul_comm 10 (10 ^ r.length),Nat.mul_comm (dval c)];omega
theorem rdv_ge:∀ (l:List UInt8) (acc:Nat),acc≤rdv acc l
 | [],acc=>Nat.le_refl _
 | c::r,acc=>by
  have:=rdv_ge r (acc * 10+dval c);rw [show rdv acc (c::r)=rdv (acc * 10+dval c) r from rfl];omega
theorem parseUintM_dig:∀ (l:List UInt8) (acc:Nat),l.all isDig=true→acc≤18446744073709551615 →
  Lib.parseUintM 18446744073709551615 acc l=if rdv acc l≤18446744073709551615 then .ok (rdv acc l) else .range
 | [],acc,_,h=>by simp [Lib.parseUintM,rdv,h]
 | c::r,acc,hd,h=>by
  rw [List.all_cons,Bool.and_eq_true] at hd
  have hc:48≤c.toNat∧c.toNat≤57:=by have:=hd.1;unfold isDig at this;simpa using this
  have hge:=rdv_ge r (acc * 10+dval c);have hdv:dval c=c.toNat-48:=rfl;rw [Lib.parseUintM,if_pos hc,show rdv acc (c::r)=rdv (acc * 10+dval c) r from rfl]
  by_cases h1:1844674407370955162≤acc
  ·rw [if_pos h1,if_neg (by omega)]
  ·rw [if_neg h1]
   by_cases h2:18446744073709551615<acc * 10+(c.toNat-48)
   ·rw [if_pos h2,if_neg (by omega)]
   ·rw [if_neg h2]
    exact parseUintM_dig r _ hd.2 (by omega)
theorem parseUintB_dig {l:List UInt8} (hl:l≠[]) (hd:l.all isDig=true) :
  Lib.parseUintB 64 l=if val (l.reverse.map dval)≤18446744073709551615 then .ok (val (l.reverse.map dval)) else .range:=by
 have:=parseUintM_dig l 0 hd (by omega);rw [rdv_val,Nat.zero_mul,Nat.zero_add] at this;rw [Lib.parseUintB,if_neg hl];exact this
theorem told_ok {x:Int} (h : -9223372036854775808≤x∧x≤9223372036854775807):told x=(x,0):=by
 unfold told fits;rw [if_pos (decide_eq_true h)]
theorem told_bad {x:Int} (h:¬ (-9223372036854775808≤x∧x≤9223372036854775807)):told x=(0,60):=by
 unfold told fits;rw [if_neg (by simpa using h)]
theorem trimMinus (s:List UInt8):Lib.trimPrefix s [45]=if s.head? = some 45 then s.drop 1 else s:=by
 cases s with
 | nil=>rfl
 | cons c r =>
  unfold Lib.trimPrefix Lib.hasPrefix
  by_cases h:c=45
  ·subst h;simp
  ·have h':¬ (45:UInt8)=c:=fun e=>h e.symm
   simp [h,h']
theorem parse_law (s:List UInt8):(writtenP s=false∧parseR s=(0,2))∨(writtenP s=true∧((∃ v,Lib.parseIntB 64 s = .ok v∧parseR s=(v,0))∨(Lib.parseIntB 64 s = .range∧parseR s=(0,60)))):=by
 cases s with
 | nil=>exact .inl ⟨by decide,rfl⟩
 | cons c r =>
  unfold writtenP parseR;rw [trimMinus]
  by_cases hc:c=45
  ·subst hc
   simp only [List.head?_cons,if_true,List.drop_succ_cons,List.drop_zero];have e1:((some (45:UInt8))==some 45)=true:=rfl
   have e2:((45::r:List UInt8)==[48])=false:=by simp
   simp only [e1,e2,if_true,Bool.false_or]
   by_cases hd:r.all isDig=true
   ·cases r with
    | nil=>left;simp
    | cons d q =>
     by_cases h0:d=48
     ·subst h0;left;simp
     ·right
      have h0':¬ ((some d:Option UInt8)==some 48)=true:=by simpa using h0
      refine ⟨by simp [hd,h0],?_⟩;rw [if_neg (by simp only [List.head?_cons,Option.some.injEq,h0,hd,Bool.true_eq_false,reduceCtorEq,false_and,or_self,not_false_eq_true])];rw [Lib.parseIntB_minus,parseUintB_dig (by simp) hd];generalize val ((d::q).reverse.map dval)=m
      by_cases hm:m≤9223372036854775808
      ·left
       refine ⟨-(m:Int),?_,told_ok (by omega)⟩;rw [if_pos (by omega)];simp only [Lib.signedC];rw [if_neg (by omega)]
      ·right
       refine ⟨?_,told_bad (by omega)⟩
       by_cases hm2:m≤18446744073709551615
       ·rw [if_pos hm2]
        simp only [Lib.signedC];rw [if_pos (by omega)]
       ·rw [if_neg hm2]
        rfl
   ·left
    have hd':r.all isDig=false:=by simpa using hd
    simp [hd']
  ·have e1:((some c:Option UInt8)==some 45)=false:=by simpa using hc
   simp only [List.head?_cons,e1,Option.some.injEq,hc,if_false,Bool.false_eq_true]
   by_cases hd:(c::r).all isDig=true
   ·have hdig:48≤c.toNat∧c.toNat≤57:=by
     have:=hd;rw [List.all_cons,Bool.and_eq_true] at this;have:=this.1;unfold isDig at this;simpa using this
    by_cases h0:c=48∧r≠[]
    ·left
     obtain ⟨rfl,h1⟩:=h0
     have hlen:(48::r:List UInt8).length > 1:=by
      cases r with
      | nil=>exact absurd rfl h1
      | cons _ _=>simp
     refine ⟨by simp [h1],?_⟩;rw [if_pos (.inr (.inl ⟨rfl,.inl hlen⟩))]
    ·right
     refine ⟨?_,?_⟩
     ·rw [hd]
      by_cases h1:c=48
      ·have:r=[]:=by
        by_cases h2:r=[]
        ·exact h2
        ·exact absurd ⟨h1,h2⟩ h0
       subst h1 this;rfl
      ·simp [h1]
     ·rw [if_neg (by
       simp only [List.head?_cons,Option.some.injEq,hd,Bool.true_eq_false,reduceCtorEq,or_false,false_or,not_and,List.length_cons];intro h1 h2;apply h0;refine ⟨h1,fun h3=>?_⟩;subst h3
       simp at h2)]
      rw [Lib.parseIntB_plain 64 c r (by omega) (by omega),parseUintB_dig (by simp) hd];generalize val ((c::r).reverse.map dval)=m
      by_cases hm:m≤9223372036854775807
      ·left
       refine ⟨(m:Int),?_,told_ok (by omega)⟩;rw [if_pos (by omega)];simp only [Lib.signlessC];rw [if_neg (by omega)]
      ·right
       refine ⟨?_,told_bad (by omega)⟩
       by_cases hm2:m≤18446744073709551615
       ·rw [if_pos hm2]
        simp only [Lib.signlessC];rw [if_pos (by omega)]
       ·rw [if_neg hm2]
        rfl
   ·left
    have hd':(c::r).all isDig=false:=by simpa using hd
    rw [hd'];exact ⟨rfl,by rw [if_pos (.inr (.inr rfl))]⟩
end Go.Hs
end

section
namespace Go.Hs
theorem inK_iff (n:Int):InK .i64 n ↔ -9223372036854775808≤n∧n≤9223372036854775807:=Iff.rfl
theorem tdiv_abs (a b:Int):a.tdiv b=if (decide (a<0) != decide (b<0))=true then -((a.natAbs / b.natAbs:Nat):Int) else ((a.natAbs / b.natAbs:Nat):Int):=by
 cases a with
 | ofNat m=>cases b with
  | ofNat n=>simp [Int.tdiv];omega
  | negSucc n=>simp [Int.tdiv,Int.negSucc_lt_zero]
 | negSucc m=>cases b with
  | ofNat n=>simp [Int.tdiv,Int.negSucc_lt_zero]
  | negSucc n=>simp [Int.tdiv,Int.negSucc_lt_zero]
theorem tmod_abs (a b:Int):a.tmod b=if decide (a<0)=true then -((a.natAbs % b.natAbs:Nat):Int) else ((a.natAbs % b.natAbs:Nat):Int):=by
 cases a with
 | ofNat m=>cases b with
  | ofNat n=>simp [Int.tmod];omega
  | negSucc n=>simp [Int.tmod];omega
 | negSucc m=>cases b with
  | ofNat n=>simp [Int.tmod,Int.negSucc_lt_zero]
  | negSucc n=>simp [Int.tmod,Int.negSucc_lt_zero]
end Go.Hs
end

section
namespace Go.Hs
open Go.Proofs
set_option maxRecDepth 10000
@[go_sem] theorem take_drop_len (s:List UInt8) (k:Nat):(s.drop k).take (s.length-k)=s.drop k:=List.take_of_length_le (by simp)
theorem getE_of {l:List UInt8} {k:Nat} (h:k<l.length):l[k]? = some l[k]:=List.getElem?_eq_getElem h
theorem lDigit_spec (G:Nat→V) (hG:GOk G) (c:UInt8):Spec Tryz.prog G 147 [.int .u8 c.toNat] hNone (fun v _=>v = .bool (isDig c)):=by
 refine Spec.of_code' 0 9 [.tmp 2] Tryz.func147 rfl rfl rfl rfl fun X=>?_;refine AW.seq_k fun K hK=>AW.region (by kernel_rfl) ?_;simp -implicitDefEqProofs only[go_sem,seval,↓reduceIte];refine hK _ ?_;clear hK K
 by_cases h:48≤c.toNat
 ·have h1:decide ((c.toNat:Int)≥48)=true:=by rw [decide_eq_true_iff];omega
  refine AW.seq_k fun K hK=>AW.region (by kernel_rfl) ?_;simp -implicitDefEqProofs only[go_sem,seval,↓reduceIte,h1];refine hK _ ?_;clear hK K;refine AW.ret ?_;simp -implicitDefEqProofs only[go_sem,seval,↓reduceIte];refine endK_some ?_;unfold isDig;simp [h];omega
 ·have h1:decide ((c.toNat:Int)≥48)=false:=by rw [decide_eq_false_iff_not];omega
  refine AW.seq_k fun K hK=>AW.region (by kernel_rfl) ?_;simp -implicitDefEqProofs only[go_sem,seval,↓reduceIte,h1];refine hK _ ?_;clear hK K;refine AW.ret ?_;simp -implicitDefEqProofs only[go_sem,seval,↓reduceIte];refine endK_some ?_;unfold isDig;simp [h]
theorem u8q (c:UInt8) (n:Nat) (hn:n<256):((c.toNat:Int)==(n:Int))=(c==UInt8.ofNat n):=by
 by_cases h:c.toNat=n
 ·have h1:c=UInt8.ofNat n:=by
   apply UInt8.toNat_inj.1;rw [h,UInt8.toNat_ofNat'];omega
  rw [h1];simp;omega
 ·have h1:¬ c=UInt8.ofNat n:=by
   intro e;apply h;rw [e,UInt8.toNat_ofNat'];omega
  have h2:¬ (c.toNat:Int)=(n:Int):=by omega
  rw [show (c==UInt8.ofNat n)=false by simpa using h1,show ((c.toNat:Int)==(n:Int))=false from beq_eq_false_iff_ne.2 h2]
theorem u8q10 (c:UInt8):((c.toNat:Int)==10)=(c==10):=u8q c 10 (by decide)
theorem u8q32 (c:UInt8):((c.toNat:Int)==32)=(c==32):=u8q c 32 (by decide)
theorem u8q13 (c:UInt8):((c.toNat:Int)==13)=(c==13):=u8q c 13 (by decide)
theorem u8q95 (c:UInt8):((c.toNat:Int)==95)=(c==95):=u8q c 95 (by decide)
theorem lNoNl_spec (G:Nat→V) (hG:GOk G) (c:UInt8):Spec Tryz.prog G 146 [.int .u8 c.toNat] hNone (fun v _=>v = .bool (noNl c)):=by
 refine Spec.of_code' 0 5 [.tmp 2] Tryz.func146 rfl rfl rfl rfl fun X=>?_;refine AW.seq_k fun K hK=>AW.region (by kernel_rfl) ?_;simp -implicitDefEqProofs only[go_sem,seval,↓reduceIte];refine hK _ ?_;clear hK K;refine AW.seq_k fun K hK=>AW.region (by kernel_rfl) ?_;simp -implicitDefEqProofs only[go_sem,seval,↓reduceIte];refine hK _ ?_;clear hK K;refine AW.ret ?_;simp -implicitDefEqProofs only[go_sem,seval,↓reduceIte];refine endK_some ?_;unfold noNl;rw [bne,u8q10]
theorem lBl_spec (G:Nat→V) (hG:GOk G) (c:UInt8):Spec Tryz.prog G 144 [.int .u8 c.toNat] hNone (fun v _=>v = .bool (isBl c)):=by
 refine Spec.of_code' 0 17 [.tmp 2] Tryz.func144 rfl rfl rfl rfl fun X=>?_
 have key:isBl c=(c==32 || (decide ((c.toNat:Int)≥9) && decide ((c.toNat:Int)≤10)) || c==13):=by
  unfold isBl
  congr 3
  ·rw [decide_eq_decide];omega
  ·rw [decide_eq_decide];omega
 rw [key];refine AW.seq_k fun K hK=>AW.region (by kernel_rfl) ?_;simp -implicitDefEqProofs only[go_sem,seval,↓reduceIte];refine hK _ ?_;clear hK K
 cases h1:(c==32) with
 | true =>
  refine AW.seq_k fun K hK=>AW.region (by kernel_rfl) ?_;simp -implicitDefEqProofs only[go_sem,seval,↓reduceIte,u8q32,u8q13,h1];refine hK _ ?_;clear hK K;refine AW.ret ?_;simp -implicitDefEqProofs only[go_sem,seval,↓reduceIte];refine endK_some ?_;rfl
 | false =>
  cases h2:decide ((c.toNat:Int)≥9) with
  | false =>
   refine AW.seq_k fun K hK=>AW.region (by kernel_rfl) ?_;simp -implicitDefEqProofs only[go_sem,seval,↓reduceIte,u8q32,u8q13,h1,h2];refine hK _ ?_;clear hK K;refine AW.ret ?_;simp -implicitDefEqProofs only[go_sem,seval,↓reduceIte];refine endK_some ?_;rfl
  | true =>
   cases h3:decide ((c.toNat:Int)≤10) with
   | false =>
    refine AW.seq_k fun K hK=>AW.region (by kernel_rfl) ?_;simp -implicitDefEqProofs only[go_sem,seval,↓reduceIte,u8q32,u8q13,h1,h2,h3];refine hK _ ?_;clear hK K;refine AW.ret ?_;simp -implicitDefEqProofs only[go_sem,seval,↓reduceIte];refine endK_some ?_;rfl
   | true =>
    refine AW.seq_k fun K hK=>AW.region (by kernel_rfl) ?_;simp -implicitDefEqProofs only[go_sem,seval,↓reduceIte,u8q32,u8q13,h1,h2,h3];refine hK _ ?_;clear hK K;refine AW.ret ?_;simp -implicitDefEqProofs only[go_sem,seval,↓reduceIte];refine endK_some ?_;rfl
theorem lLetter_spec (G:Nat→V) (hG:GOk G) (c:UInt8):Spec Tryz.prog G 148 [.int .u8 c.toNat] hNone (fun v _=>v = .bool (isLt c)):=by
 refine Spec.of_code' 0 15 [.tmp 2] Tryz.func148 rfl rfl rfl rfl fun X=>?_;refine AW.seq_k fun K hK=>AW.region (by kernel_rfl) ?_;simp -implicitDefEqProofs only[go_sem,seval,↓reduceIte];refine hK _ ?_;clear hK K
 cases h1:(c==95) with
 | true =>
  refine AW.seq_k fun K hK=>AW.region (by kernel_rfl) ?_;simp -implicitDefEqProofs only[go_sem,seval,↓reduceIte,u8q95,h1];refine hK _ ?_;clear hK K;refine AW.ret ?_;simp -implicitDefEqProofs only[go_sem,seval,↓reduceIte];refine endK_some ?_;unfold isLt;rw [h1];rfl
 | false =>
  have ho:orZ .u8 (c.toNat:Int) 32=((c.toNat ||| 32:Nat):Int):=by
   have:=u8_all (fun c=>orZ .u8 (c.toNat:Int) 32==((c.toNat ||| 32:Nat):Int)) (by decide +kernel) c;simpa using this
  have hL:isLt c=(decide (((c.toNat ||| 32:Nat):Int)≥97) && decide (((c.toNat ||| 32:Nat):Int)≤122)):=by
   unfold isLt;rw [h1,Bool.false_or]
   congr 1
   ·rw [decide_eq_decide];omega
   ·rw [decide_eq_decide];omega
  rw [hL];generalize ((c.toNat ||| 32:Nat):Int)=x at ho ⊢
  cases h2:decide (x≥97) with
  | false =>
   refine AW.seq_k fun K hK=>AW.region (by kernel_rfl) ?_;simp -implicitDefEqProofs only[go_sem,seval,↓reduceIte,u8q95,h1,ho,h2];refine hK _ ?_;clear hK K;refine AW.ret ?_;simp -implicitDefEqProofs only[go_sem,seval,↓reduceIte];refine endK_some ?_;rfl
  | true =>
   refine AW.seq_k fun K hK=>AW.region (by kernel_rfl) ?_;simp -implicitDefEqProofs only[go_sem,seval,↓reduceIte,u8q95,h1,ho,h2];refine hK _ ?_;clear hK K;refine AW.ret ?_;simp -implicitDefEqProofs only[go_sem,seval,↓reduceIte];refine endK_some ?_;rfl
theorem lAl_spec (G:Nat→V) (hG:GOk G) (c:UInt8):Spec Tryz.prog G 149 [.int .u8 c.toNat] hNone (fun v _=>v = .bool (isAl c)):=by
 refine Spec.of_code' 0 9 [.tmp 2] Tryz.func149 rfl rfl rfl rfl fun X=>?_;refine AW.seq_k fun K hK=>AW.region (by kernel_rfl) ?_;simp -implicitDefEqProofs only[go_sem,seval,↓reduceIte];refine hK _ ?_;clear hK K;unfold isAl
 cases h1:isLt c with
 | true =>
  refine AW.seq_k fun K hK=>AW.region (by kernel_rfl) ?_;simp -implicitDefEqProofs only[go_sem,seval,↓reduceIte];refine CallA.pure hG (by kernel_rfl) ?_;simp -implicitDefEqProofs only[go_sem,seval,↓reduceIte];refine (lLetter_spec G hG c).mono ?_;rintro _ _ rfl;simp -implicitDefEqProofs only[go_sem,seval,↓reduceIte,h1];refine hK _ ?_;clear hK K;refine AW.ret ?_;simp -implicitDefEqProofs only[go_sem,seval,↓reduceIte];refine endK_some ?_;rfl
 | false =>
  refine AW.seq_k fun K hK=>AW.region (by kernel_rfl) ?_;simp -implicitDefEqProofs only[go_sem,seval,↓reduceIte];refine CallA.pure hG (by kernel_rfl) ?_;simp -implicitDefEqProofs only[go_sem,seval,↓reduceIte];refine (lLetter_spec G hG c).mono ?_;rintro _ _ rfl;simp -implicitDefEqProofs only[go_sem,seval,↓reduceIte,h1];refine CallA.pure hG (by kernel_rfl) ?_;simp -implicitDefEqProofs only[go_sem,seval,↓reduceIte];refine (lDigit_spec G hG c).mono ?_;rintro _ _ rfl;simp -implicitDefEqProofs only[go_sem,seval,↓reduceIte,h1];refine hK _ ?_;clear hK K;refine AW.ret ?_;simp -implicitDefEqProofs only[go_sem,seval,↓reduceIte];refine endK_some ?_;rfl
structure FnB (G:Nat→V) (f:FuncId) (p:UInt8→Bool):Prop where
 en:enterable Tryz.prog f=true
 sp:∀ c:UInt8,Spec Tryz.prog G f [.int .u8 c.toNat] hNone (fun v _=>v = .bool (p c))
theorem fDigit {G:Nat→V} (hG:GOk G):FnB G 147 isDig:=⟨by kernel_rfl,lDigit_spec G hG⟩
theorem fNoNl {G:Nat→V} (hG:GOk G):FnB G 146 noNl:=⟨by kernel_rfl,lNoNl_spec G hG⟩
theorem fBl {G:Nat→V} (hG:GOk G):FnB G 144 isBl:=⟨by kernel_rfl,lBl_spec G hG⟩
theorem fAl {G:Nat→V} (hG:GOk G):FnB G 149 isAl:=⟨by kernel_rfl,lAl_spec G hG⟩
theorem lRun_spec (G:Nat→V) (hG:GOk G) (s:List UInt8) (hs:s.length<1000000) {f:FuncId} {p:UInt8→Bool} (hf:FnB G f p) :
  Spec Tryz.prog G 143 [.str s,.func (.func f) [] []] hNone (fun v _=>v = .int .i64 (runL p s)):=by
 refine Spec.of_code' 0 20 [.tmp 4] Tryz.func143 rfl rfl rfl rfl fun X=>?_;refine AW.seq_k fun K hK=>AW.region (by kernel_rfl) ?_;simp -implicitDefEqProofs only[go_sem,seval,↓reduceIte];refine hK _ ?_;clear hK K;refine AW.seq_k fun K hK=>AW.region (by kernel_rfl) ?_;simp -implicitDefEqProofs only[go_sem,seval,↓reduceIte];refine hK _ ?_;clear hK K;refine AW.seq_k fun K1 hK1=>?_;refine AW.block ?_
 refine AW.for s.length (fun k (_:Unit)=>st [(0,.str s),(1,.func (.func f) [] []),(5,.int .i64 k)] []) (fun k _=>runL p s=k+runL p (s.drop k)) 0 () (Nat.zero_le _) (by simp)
  (Weak.st (by simp -implicitDefEqProofs only[go_sem,seval,↓reduceIte];try rfl) (by simp -implicitDefEqProofs only[go_sem,seval,↓reduceIte])) ?_
 intro k _ hk hR L2 hL2;refine AW.seq_k fun K3 hK3=>?_
 by_cases hk1:k<s.length
 ·have h1:decide ((k:Int)<s.length)=true:=by rw [decide_eq_true_iff];omega
  have hg:=getE_of hk1;have hd:s.drop k=s[k]::s.drop (k+1):=List.drop_eq_getElem_cons hk1;generalize s[k]=c at hg hd;rw [hd] at hR;refine AW.seq_k fun K hK=>AW.region (by kernel_rfl) ?_;simp -implicitDefEqProofs only[go_sem,seval,↓reduceIte,h1,hg];refine CallA.pure hG hf.en ?_;simp -implicitDefEqProofs only[go_sem,seval,↓reduceIte];refine (hf.sp c).mono ?_;rintro _ _ rfl;simp -implicitDefEqProofs only[go_sem,seval,↓reduceIte,h1];refine hK _ ?_;clear hK K;rw [runL_cons] at hR;refine AW.condS (by simp -implicitDefEqProofs only[go_sem,seval,↓reduceIte];rfl) (fun h4=>?_) (fun h4=>?_)
  ·rw [if_pos h4] at hR
   refine AW.skip ?_;simp -implicitDefEqProofs only[go_sem,seval,↓reduceIte];refine hK3 _ ?_;refine AW.block ?_;refine AW.region (by kernel_rfl) ?_;simp -implicitDefEqProofs only[go_sem,seval,↓reduceIte];refine hL2 _ ⟨hk1,(),by omega,Weak.st (by simp -implicitDefEqProofs only[go_sem,seval,↓reduceIte];exact congrArg _ (w64 (by omega) (by omega))) (by simp -implicitDefEqProofs only[go_sem,seval,↓reduceIte])⟩
  ·rw [if_neg (by simp [h4])] at hR
   refine AW.exit ?_;simp -implicitDefEqProofs only[go_sem,seval,↓reduceIte];refine hK1 _ ?_;refine AW.seq_k fun K hK=>AW.region (by kernel_rfl) ?_;simp -implicitDefEqProofs only[go_sem,seval,↓reduceIte];refine hK _ ?_;clear hK K;refine AW.ret ?_;simp -implicitDefEqProofs only[go_sem,seval,↓reduceIte];refine endK_some ?_;have hR:runL p s=k+0:=hR;rw [hR];rfl
 ·have h1:decide ((k:Int)<s.length)=false:=by rw [decide_eq_false_iff_not];omega
  have hk2:k=s.length:=by omega
  refine AW.seq_k fun K hK=>AW.region (by kernel_rfl) ?_;simp -implicitDefEqProofs only[go_sem,seval,↓reduceIte,h1];refine hK _ ?_;clear hK K;refine AW.condS (by simp -implicitDefEqProofs only[go_sem,seval,↓reduceIte];rfl) (fun h4=>?_) (fun h4=>?_)
  ·cases h4
  ·refine AW.exit ?_
   simp -implicitDefEqProofs only[go_sem,seval,↓reduceIte];refine hK1 _ ?_;refine AW.seq_k fun K hK=>AW.region (by kernel_rfl) ?_;simp -implicitDefEqProofs only[go_sem,seval,↓reduceIte];refine hK _ ?_;clear hK K;refine AW.ret ?_;simp -implicitDefEqProofs only[go_sem,seval,↓reduceIte];refine endK_some ?_;rw [hR,hk2,List.drop_length];rfl
end Go.Hs
end

section
namespace Go.Hs
open Go.Proofs
set_option maxRecDepth 10000
def encR (r:Int × Int):V := .tuple [.int .i64 r.1,.int .i64 r.2]
end Go.Hs
end

section
namespace Go.Hs
open Go.Proofs
set_option maxRecDepth 10000
def ints (l:List Nat):List Int:=l.map (fun (d:Nat)=>(d:Int))
@[simp] theorem ints_len (l:List Nat):(ints l).length=l.length:=by simp [ints]
theorem ints_get (l:List Nat) (k:Nat):(ints l)[k]? = (l[k]?).map (fun (d:Nat)=>(d:Int)):=by simp [ints]
theorem ints_app (a b:List Nat):ints (a++b)=ints a++ints b:=by simp [ints]
def slD (nl:Bool) (l:List Nat):Sl Int:=if nl then .nil else .mk false (ints l)
def encLong (c:Col) (nl:Bool) (l:List Nat) (below:Bool):V := .agg [encSl c 1 (V.int .i64) (slD nl l),.bool below]
theorem slD_l {nl:Bool} {l:List Nat} (h:nl=true→l=[]):(slD nl l).l=ints l:=by
 cases nl with
 | true=>rw [h rfl];rfl
 | false=>rfl
theorem rOf_spec (G:Nat→V) (hG:GOk G) (n:Int) (hn:InK .i64 n):Spec Tryz.prog G 235 [.int .i64 n] hNone (fun v _=>v=encLong .new (decide (n=0)) (dg n.natAbs) (decide (n<0))):=by
 have hn':=(inK_iff n).1 hn;refine Spec.of_code' 0 24 [.cell 2 279] Tryz.func235 rfl rfl rfl rfl fun X=>?_;refine AW.seq_k fun K hK=>AW.region (by kernel_rfl) ?_;simp -implicitDefEqProofs only[go_sem,seval,↓reduceIte];intro g2;refine hK _ ?_;clear hK K;refine AW.seq_k fun K hK=>AW.region (by kernel_rfl) ?_;simp -implicitDefEqProofs only[go_sem,seval,↓reduceIte];intro g3;refine hK _ ?_;clear hK K;refine AW.seq_k fun K1 hK1=>?_;refine AW.block ?_
 refine AW.while (fun (x:Nat × Int × List Nat)=>st [(0,.int .i64 x.2.1),(2,.ptr 2 g2 0),(3,.ptr 3 g3 0)] [(2,.cells .new g2 0 [.nils,.bool false]),(3,.cells .new g3 0 [grown 19 x.1 1 (ints x.2.2),.bool (decide (n<0))]),(19,grownO x.1 (V.int .i64) (ints x.2.2))])
  (fun x=>InK .i64 x.2.1∧(x.2.1≤0∧n≤0∨0≤x.2.1∧0≤n)∧x.2.2++dg x.2.1.natAbs=dg n.natAbs) (fun x=>x.2.1.natAbs) (0,n,[]) ⟨hn,by show n≤0∧n≤0∨0≤n∧0≤n;omega,rfl⟩
  (Weak.st (by simp -implicitDefEqProofs only[go_sem,seval,↓reduceIte]) (by simp -implicitDefEqProofs only[go_sem,seval,↓reduceIte];try exact ⟨rfl,rfl⟩)) ?_
 rintro ⟨gx,m,out⟩ ⟨hm,hsg,hout⟩ L2 hL2;have hm:InK .i64 m:=hm;have hm':=(inK_iff m).1 hm;have hout:out++dg m.natAbs=dg n.natAbs:=hout
 have hol:out.length+(dg m.natAbs).length≤20:=by
  rw [← List.length_append,hout];exact dg_len (by omega)
 refine AW.seq_k fun K3 hK3=>?_;refine AW.seq_k fun K hK=>AW.region (by kernel_rfl) ?_;simp -implicitDefEqProofs only[go_sem,seval,↓reduceIte];refine hK _ ?_;clear hK K;refine AW.condS (by simp -implicitDefEqProofs only[go_sem,seval,↓reduceIte];rfl) (fun h4=>?_) (fun h4=>?_)
 ·have h5:m≠0:=by simpa using h4
  refine AW.skip ?_;simp -implicitDefEqProofs only[go_sem,seval,↓reduceIte];refine hK3 _ ?_;refine AW.block ?_;refine AW.seq_k fun K hK=>AW.region (by kernel_rfl) ?_;simp -implicitDefEqProofs only[go_sem,seval,↓reduceIte];refine hK _ ?_;clear hK K
  have ht:m.tdiv 10=if m<0 then -((m.natAbs / 10:Nat):Int) else ((m.natAbs / 10:Nat):Int):=by
   rw [tdiv_abs]
   by_cases h:m<0<;>simp [h]
  have hr:m.tmod 10=if m<0 then -((m.natAbs % 10:Nat):Int) else ((m.natAbs % 10:Nat):Int):=by
   rw [tmod_abs]
   by_cases h:m<0<;>simp [h]
  have hd:(if IntKind.i64.wrap (0-m.tmod 10) > m.tmod 10 then IntKind.i64.wrap (0-m.tmod 10) else m.tmod 10)=((m.natAbs % 10:Nat):Int):=by
   rw [w64 (by rw [hr];split<;>omega) (by rw [hr];split<;>omega),hr]
   split<;>split<;>omega
  have hw:IntKind.i64.wrap (m.tdiv 10)=m.tdiv 10:=w64 (by rw [ht];split<;>omega) (by rw [ht];split<;>omega);refine AW.seq_k fun K hK=>AW.region (by kernel_rfl) ?_;simp -implicitDefEqProofs only[go_sem,seval,↓reduceIte,hd];intro g18
  have hdl:(dg m.natAbs).length=(dg (m.natAbs / 10)).length+1:=by rw [dg_pos (by omega)];rfl
  refine app_grown (f:=V.int .i64) (l:=ints out) (l2:=[((m.natAbs % 10:Nat):Int)]) (g:=gx) (fun _=>rfl) rfl rfl rfl rfl (roomOk_of (by omega) (by simp;omega)) fun g19=>?_;simp -implicitDefEqProofs only[go_sem,seval,↓reduceIte];refine hK _ ?_;clear hK K;refine AW.region (by kernel_rfl) ?_;simp -implicitDefEqProofs only[go_sem,seval,↓reduceIte,hw]
  have hn2:(m.tdiv 10).natAbs=m.natAbs / 10:=by rw [ht];split<;>omega
  refine hL2 _ ⟨(g19,m.tdiv 10,out++[m.natAbs % 10]),?_,⟨(show InK .i64 (m.tdiv 10) from (inK_iff _).2 (by rw [ht];split<;>omega)),?_,?_⟩,Weak.st (by simp -implicitDefEqProofs only[go_sem,seval,↓reduceIte]) (by simp -implicitDefEqProofs only[go_sem,seval,↓reduceIte,ints_app];try exact ⟨rfl,rfl⟩)⟩
  ·show (m.tdiv 10).natAbs<m.natAbs
   rw [hn2];omega
  ·show m.tdiv 10≤0∧n≤0∨0≤m.tdiv 10∧0≤n
   have hsg:m≤0∧n≤0∨0≤m∧0≤n:=hsg
   rw [ht];split<;>omega
  ·show out++[m.natAbs % 10]++dg (m.tdiv 10).natAbs=dg n.natAbs
   rw [hn2,← hout,dg_pos (n:=m.natAbs) (by omega)];simp
 ·have h5:m=0:=by simpa using h4
  subst h5
  have hout:out=dg n.natAbs:=by simpa [dg_zero] using hout
  refine AW.exit ?_;simp -implicitDefEqProofs only[go_sem,seval,↓reduceIte];refine hK1 _ ?_;refine AW.weak (Weak.stF (fun o=>o==19) (l:=[(2,.ptr 2 g2 0),(3,.ptr 3 g3 0)]) (m:=[(2,.cells .new g2 0 [.nils,.bool false]),(3,.cells .new g3 0 [encSl .new 1 (V.int .i64) (grownS (ints out)),.bool (decide (n<0))])]) ?_ ?_) ?_
  ·simp -implicitDefEqProofs only[go_sem,seval,↓reduceIte]
   exact ⟨Fz.same _,Fz.same _⟩
  ·simp only [allFzO_cons,allFzO_nil,and_true]
   exact ⟨FzO.keep rfl (by simp -implicitDefEqProofs only[go_sem,seval,↓reduceIte]),FzO.of rfl rfl ⟨Fz.grown rfl rfl (fun _=>rfl),Fz.same _,trivial⟩⟩
  refine AW.seq_k fun K hK=>AW.region (by kernel_rfl) ?_;simp -implicitDefEqProofs only[go_sem,seval,↓reduceIte];refine hK _ ?_;clear hK K;refine AW.ret ?_;simp -implicitDefEqProofs only[go_sem,seval,↓reduceIte];refine endK_some ?_;rw [hout]
  have:grownS (ints (dg n.natAbs))=slD (decide (n=0)) (dg n.natAbs):=by
   by_cases h:n=0
   ·subst h;rfl
   ·have:dg n.natAbs≠[]:=by rw [Ne,dg_ne];omega
    rw [show decide (n=0)=false by simpa using h]
    revert this
    cases dg n.natAbs with
    | nil=>intro h;exact absurd rfl h
    | cons x r=>intro _;rfl
  rw [this];rfl
end Go.Hs
end

section
namespace Go.Hs
open Go.Proofs
set_option maxRecDepth 10000
theorem val_drop (l:List Nat) (k:Nat):val (l.drop k)=l.getD k 0+10 * val (l.drop (k+1)):=by
 by_cases h:k<l.length
 ·rw [List.drop_eq_getElem_cons h,val,List.getD_eq_getElem?_getD,List.getElem?_eq_getElem h]
  rfl
 ·rw [List.drop_eq_nil_of_le (by omega),List.drop_eq_nil_of_le (by omega),List.getD_eq_getElem?_getD,List.getElem?_eq_none (by omega)]
  rfl
theorem getD_lt {l:List Nat} (h:Dig l) (k:Nat):l.getD k 0<10:=by
 rw [List.getD_eq_getElem?_getD]
 by_cases hk:k<l.length
 ·rw [List.getElem?_eq_getElem hk]
  exact h _ (List.getElem_mem hk)
 ·rw [List.getElem?_eq_none (by omega)]
  decide
theorem ints_get_some {l:List Nat} {k:Nat} (h:k<l.length):(ints l)[k]? = some ((l.getD k 0:Nat):Int):=by
 rw [ints_get,List.getElem?_eq_getElem h,List.getD_eq_getElem?_getD,List.getElem?_eq_getElem h];rfl
theorem add_step {K n A B o V:Nat} (h:o+K * (n+10 * A+10 * B)=V):(o+K * (n % 10))+(K * 10) * (n / 10+A+B)=V:=by
 rw [← h,Nat.mul_assoc,Nat.add_assoc,← Nat.mul_add]
 congr 2
 omega
structure AddI (la lb:List Nat) (M k:Nat) (out:List Nat) (cr:Nat):Prop where
 len:out.length=k
 dig:Dig out
 hcr:cr≤1
 v:val out+10 ^ k * (cr+val (la.drop k)+val (lb.drop k))=val la+val lb
 last:k=M+1→cr=0
 emp:M=0→k=0∧cr=0
theorem AddI.zero (la lb:List Nat) (M:Nat):AddI la lb M 0 [] 0:={ len:=rfl,dig:=fun d hd=>by simp at hd,hcr:=by omega,v:=by simp [val],last:=fun _=>rfl,emp:=fun _=>⟨rfl,rfl⟩ }
theorem AddI.step {la lb:List Nat} {M k:Nat} {out:List Nat} {cr:Nat} (h:AddI la lb M k out cr) (hM:M=max la.length lb.length) (da:Dig la) (db:Dig lb) (hgo:k<M∨cr > 0) {n:Nat} (hn:n=la.getD k 0+lb.getD k 0+cr) (hk:k≤M) :
  AddI la lb M (k+1) (out++[n % 10]) (n / 10):=by
 have h1:=getD_lt da k;have h2:=getD_lt db k;have h3:=h.hcr;refine ⟨by simp [h.len],Dig.app.2 ⟨h.dig,Dig.one (by omega)⟩,by omega,?_,fun e=>?_,fun e=>?_⟩
 ·have hv:=h.v
  rw [val_drop la k,val_drop lb k] at hv;rw [val_app,h.len,Nat.pow_succ]
  have e:val out+10 ^ k * (n+10 * val (la.drop (k+1))+10 * val (lb.drop (k+1)))=val la+val lb:=by
   rw [← hv,hn]
   congr 2
   omega
  simpa [val] using add_step e
 ·have e1:la.getD k 0=0:=by rw [List.getD_eq_getElem?_getD,List.getElem?_eq_none (by omega)];rfl
  have e2:lb.getD k 0=0:=by rw [List.getD_eq_getElem?_getD,List.getElem?_eq_none (by omega)];rfl
  omega
 ·have:=h.emp e
  omega
end Go.Hs
end

section
namespace Go.Hs
open Go.Proofs
set_option maxRecDepth 10000
structure TakeI (la lb:List Nat) (k:Nat) (out:List Nat) (br:Nat):Prop where
 len:out.length=k
 dig:Dig out
 hbr:br≤1
 v:(val out:Int)+(10:Int) ^ k * ((val (la.drop k):Int)-br-val (lb.drop k))=val la-val lb
theorem TakeI.zero (la lb:List Nat):TakeI la lb 0 [] 0:={ len:=rfl,dig:=fun d hd=>by simp at hd,hbr:=by omega,v:=by simp [val] }
theorem take_step {K x A B o V b:Int} {d br':Int} (h:o+K * (x+10 * A-b-(d+10 * B))=V) {n:Int} (hn:n=x-d-b+10 * br'):(o+K * n)+(K * 10) * (A-br'-B)=V:=by
 rw [← h,hn,Int.mul_assoc,Int.add_assoc,← Int.mul_add]
 congr 2
 omega
theorem TakeI.step {la lb:List Nat} {k:Nat} {out:List Nat} {br:Nat} (h:TakeI la lb k out br) {n br':Nat} (hn:(n:Int)=(la.getD k 0:Nat)-(lb.getD k 0:Nat)-br+10 * br') (hn10:n<10) (hb:br'≤1) :
  TakeI la lb (k+1) (out++[n]) br':=by
 refine ⟨by simp [h.len],Dig.app.2 ⟨h.dig,Dig.one hn10⟩,hb,?_⟩;have hv:=h.v;rw [val_drop la k,val_drop lb k] at hv;rw [val_app,h.len,Int.pow_succ]
 have e:(val out:Int)+(10:Int) ^ k * (((la.getD k 0:Nat):Int)+10 * (val (la.drop (k+1)):Int)-(br:Int)-(((lb.getD k 0:Nat):Int)+10 * (val (lb.drop (k+1)):Int)))=val la-val lb:=by
  rw [← hv]
  congr 2
 have:=take_step e hn;simpa [val] using this
end Go.Hs
end

section
namespace Go.Proofs
open Go.Shelf
def Tryz.laysPI_ren:Go.Shelf.Ren:=⟨fun | 174=>299 | 247=>305 | 245=>306 | 287=>312 | 279=>313 | 280=>314 | 281=>315 | 282=>316 | 321=>319 | 322=>320 | 316=>321 | 171=>323 | 205=>322 | 243=>324 | 246=>257 | 283=>270 | 284=>271 | 285=>272 | 286=>273 | 129=>285 | 317=>284 | 318=>286 | 319=>287 | 320=>288 | 337=>292 | 338=>293 | n=>n,fun | 9=>9 | 3=>3 | 2=>2 | 75=>177 | 85=>332 | 4=>4 | 167=>346 | 5=>5 | 53=>303 | 175=>347 | 46=>296 | 168=>349 | 37=>166 | 0=>0 | 210=>371 | 21=>21 | 127=>229 | 145=>375 | 143=>373 | 171=>302 | 173=>306 | 212=>317 | 51=>310 | 20=>20 | 213=>318 | 232=>335 | 233=>336 | 80=>180 | n=>n,fun | 15=>8 | 16=>3 | 17=>2 | 18=>4 | 19=>5 | n=>n⟩
theorem Tryz.laysPI:Go.Proofs.LaysC.n174 Tryz.prog Tryz.laysPI_ren:={
 mixed:=by kernel_rfl
 f129:=Tryz.func285.trans (congrArg some (by kernel_rfl))
 f171:=Tryz.func323.trans (congrArg some (by kernel_rfl))
 f174:=Tryz.func299.trans (congrArg some (by kernel_rfl))
 f205:=Tryz.func322.trans (congrArg some (by kernel_rfl))
 f243:=Tryz.func324.trans (congrArg some (by kernel_rfl))
 f245:=Tryz.func306.trans (congrArg some (by kernel_rfl))
 f246:=Tryz.func257.trans (congrArg some (by kernel_rfl))
 f247:=Tryz.func305.trans (congrArg some (by kernel_rfl))
 f279:=Tryz.func313.trans (congrArg some (by kernel_rfl))
 f280:=Tryz.func314.trans (congrArg some (by kernel_rfl))
 f281:=Tryz.func315.trans (congrArg some (by kernel_rfl))
 f282:=Tryz.func316.trans (congrArg some (by kernel_rfl))
 f283:=Tryz.func270.trans (congrArg some (by kernel_rfl))
 f284:=Tryz.func271.trans (congrArg some (by kernel_rfl))
 f285:=Tryz.func272.trans (congrArg some (by kernel_rfl))
 f286:=Tryz.func273.trans (congrArg some (by kernel_rfl))
 f287:=Tryz.func312.trans (congrArg some (by kernel_rfl))
 f316:=Tryz.func321.trans (congrArg some (by kernel_rfl))
 f317:=Tryz.func284.trans (congrArg some (by kernel_rfl))
 f318:=Tryz.func286.trans (congrArg some (by kernel_rfl))
 f319:=Tryz.func287.trans (congrArg some (by kernel_rfl))
 f320:=Tryz.func288.trans (congrArg some (by kernel_rfl))
 f321:=Tryz.func319.trans (congrArg some (by kernel_rfl))
 f322:=Tryz.func320.trans (congrArg some (by kernel_rfl))
 f337:=Tryz.func292.trans (congrArg some (by kernel_rfl))
 f338:=Tryz.func293.trans (congrArg some (by kernel_rfl))
 t0:=Tryz.underlying0
 a0:=Tryz.isAgg0
 z0:=Tryz.sizeOf0
 v0:=Tryz.zeroValue0
 t2:=Tryz.underlying2
 a2:=Tryz.isAgg2
 z2:=Tryz.sizeOf2
 v2:=Tryz.zeroValue2
 t3:=Tryz.underlying3
 a3:=Tryz.isAgg3
 z3:=Tryz.sizeOf3
 v3:=Tryz.zeroValue3
 t4:=Tryz.underlying4
 a4:=Tryz.isAgg4
 z4:=Tryz.sizeOf4
 v4:=Tryz.zeroValue4
 t5:=Tryz.underlying5
 a5:=Tryz.isAgg5
 z5:=Tryz.sizeOf5
 v5:=Tryz.zeroValue5
 t9:=Tryz.underlying9
 a9:=Tryz.isAgg9
 z9:=Tryz.sizeOf9
 v9:=Tryz.zeroValue9
 t20:=Tryz.underlying20
 a20:=Tryz.isAgg20
 z20:=Tryz.sizeOf20
 v20:=Tryz.zeroValue20
 t21:=Tryz.underlying21
 a21:=Tryz.isAgg21
 z21:=Tryz.sizeOf21
 v21:=Tryz.zeroValue21
 t37:=Tryz.underlying166
 a37:=Tryz.isAgg166
 z37:=Tryz.sizeOf166
 v37:=Tryz.zeroValue166
 t46:=Tryz.underlying296
 a46:=Tryz.isAgg296
 z46:=Tryz.sizeOf296
 v46:=Tryz.zeroValue296
 t51:=Tryz.underlying310
 a51:=Tryz.isAgg310
 z51:=Tryz.sizeOf310
 v51:=Tryz.zeroValue310
 t53:=Tryz.underlying303
 a53:=Tryz.isAgg303
 z53:=Tryz.sizeOf303
 v53:=Tryz.zeroValue303
 t75:=Tryz.underlying177
 a75:=Tryz.isAgg177
 z75:=Tryz.sizeOf177
 v75:=Tryz.zeroValue177
 t85:=Tryz.underlying332
 a85:=Tryz.isAgg332
 z85:=Tryz.sizeOf332
 v85:=Tryz.zeroValue332
 t127:=Tryz.underlying229
 a127:=Tryz.isAgg229
 z127:=Tryz.sizeOf229
 v127:=Tryz.zeroValue229
 t143:=Tryz.underlying373
 a143:=Tryz.isAgg373
 z143:=Tryz.sizeOf373
 v143:=Tryz.zeroValue373
 t145:=Tryz.underlying375
 a145:=Tryz.isAgg375
 z145:=Tryz.sizeOf375
 v145:=Tryz.zeroValue375
 t167:=Tryz.underlying346
 a167:=Tryz.isAgg346
 z167:=Tryz.sizeOf346
 v167:=Tryz.zeroValue346
 t168:=Tryz.underlying349
 a168:=Tryz.isAgg349
 z168:=Tryz.sizeOf349
 v168:=Tryz.zeroValue349
 t171:=Tryz.underlying302
 a171:=Tryz.isAgg302
 z171:=Tryz.sizeOf302
 v171:=Tryz.zeroValue302
 t173:=Tryz.underlying306
 a173:=Tryz.isAgg306
 z173:=Tryz.sizeOf306
 v173:=Tryz.zeroValue306
 t175:=Tryz.underlying347
 a175:=Tryz.isAgg347
 z175:=Tryz.sizeOf347
 v175:=Tryz.zeroValue347
 t210:=Tryz.underlying371
 a210:=Tryz.isAgg371
 z210:=Tryz.sizeOf371
 v210:=Tryz.zeroValue371
 t212:=Tryz.underlying317
 a212:=Tryz.isAgg317
 z212:=Tryz.sizeOf317
 v212:=Tryz.zeroValue317
 t213:=Tryz.underlying318
 a213:=Tryz.isAgg318
 z213:=Tryz.sizeOf318
 t232:=Tryz.underlying335
 a232:=Tryz.isAgg335
 z232:=Tryz.sizeOf335
 v232:=Tryz.zeroValue335
 t233:=Tryz.underlying336
 a233:=Tryz.isAgg336
 z233:=Tryz.sizeOf336
 v233:=Tryz.zeroValue336
 g15:=by kernel_rfl
 g16:=by kernel_rfl
 g17:=by kernel_rfl
 g18:=by kernel_rfl
 g19:=by kernel_rfl
 t80:=Tryz.underlying180
 a80:=Tryz.isAgg180
 z80:=Tryz.sizeOf180
 v80:=Tryz.zeroValue180
 i0:=by kernel_rfl
 i2:=by kernel_rfl
 i3:=by kernel_rfl
 i4:=by kernel_rfl
 i5:=by kernel_rfl
 i9:=by kernel_rfl
 i20:=by kernel_rfl
 i21:=by kernel_rfl
 i37:=by kernel_rfl
 i46:=by kernel_rfl
 i51:=by kernel_rfl
 i53:=by kernel_rfl
 i75:=by kernel_rfl
 i80:=by kernel_rfl
 i85:=by kernel_rfl
 i127:=by kernel_rfl
 i143:=by kernel_rfl
 i145:=by kernel_rfl
 i167:=by kernel_rfl
 i168:=by kernel_rfl
 i171:=by kernel_rfl
 i173:=by kernel_rfl
 i175:=by kernel_rfl
 i210:=by kernel_rfl
 i212:=by kernel_rfl
 i232:=by kernel_rfl
 i233:=by kernel_rfl
 m15:=by kernel_rfl
 m16:=by kernel_rfl
 m17:=by kernel_rfl
 m18:=by kernel_rfl
 m19:=by kernel_rfl
 c0:=by kernel_rfl
 c2:=by kernel_rfl
 c3:=by kernel_rfl
 c4:=by kernel_rfl
 c5:=by kernel_rfl
 c9:=by kernel_rfl
 c20:=by kernel_rfl
 c21:=by kernel_rfl
 c37:=by kernel_rfl
 c46:=by kernel_rfl
 c51:=by kernel_rfl
 c53:=by kernel_rfl
 c75:=by kernel_rfl
 c80:=by kernel_rfl
 c85:=by kernel_rfl
 c127:=by kernel_rfl
 c143:=by kernel_rfl
 c145:=by kernel_rfl
 c167:=by kernel_rfl
 c168:=by kernel_rfl
 c171:=by kernel_rfl
 c173:=by kernel_rfl
 c175:=by kernel_rfl
 c210:=by kernel_rfl
 c212:=by kernel_rfl
 c213:=by kernel_rfl
 c232:=by kernel_rfl
 c233:=by kernel_rfl }
def Tryz.laysFI_ren:Go.Shelf.Ren:=⟨fun | 173=>231 | 246=>257 | 283=>270 | 284=>271 | 285=>272 | 286=>273 | 129=>285 | 317=>284 | 318=>286 | 319=>287 | 320=>288 | 337=>292 | 338=>293 | n=>n,fun | 2=>2 | 3=>3 | 9=>9 | 4=>4 | 171=>302 | 0=>0 | 53=>303 | 37=>166 | 5=>5 | 173=>306 | 212=>317 | 51=>310 | 20=>20 | 213=>318 | 46=>296 | 232=>335 | 233=>336 | n=>n,fun | 17=>2 | 18=>4 | 19=>5 | n=>n⟩
theorem Tryz.laysFI:Go.Proofs.LaysM.n173 Tryz.prog Tryz.laysFI_ren:={
 mixed:=by kernel_rfl
 f129:=Tryz.func285.trans (congrArg some (by kernel_rfl))
 f173:=Tryz.func231.trans (congrArg some (by kernel_rfl))
 f246:=Tryz.func257.trans (congrArg some (by kernel_rfl))
 f283:=Tryz.func270.trans (congrArg some (by kernel_rfl))
 f284:=Tryz.func271.trans (congrArg some (by kernel_rfl))
 f285:=Tryz.func272.trans (congrArg some (by kernel_rfl))
 f286:=Tryz.func273.trans (congrArg some (by kernel_rfl))
 f317:=Tryz.func284.trans (congrArg some (by kernel_rfl))
 f318:=Tryz.func286.trans (congrArg some (by kernel_rfl))
 f319:=Tryz.func287.trans (congrArg some (by kernel_rfl))
 f320:=Tryz.func288.trans (congrArg some (by kernel_rfl))
 f337:=Tryz.func292.trans (congrArg some (by kernel_rfl))
 f338:=Tryz.func293.trans (congrArg some (by kernel_rfl))
 t0:=Tryz.underlying0
 a0:=Tryz.isAgg0
 z0:=Tryz.sizeOf0
 v0:=Tryz.zeroValue0
 t2:=Tryz.underlying2
 a2:=Tryz.isAgg2
 z2:=Tryz.sizeOf2
 v2:=Tryz.zeroValue2
 t3:=Tryz.underlying3
 a3:=Tryz.isAgg3
 z3:=Tryz.sizeOf3
 v3:=Tryz.zeroValue3
 t4:=Tryz.underlying4
 a4:=Tryz.isAgg4
 z4:=Tryz.sizeOf4
 v4:=Tryz.zeroValue4
 t5:=Tryz.underlying5
 a5:=Tryz.isAgg5
 z5:=Tryz.sizeOf5
 v5:=Tryz.zeroValue5
 t9:=Tryz.underlying9
 a9:=Tryz.isAgg9
 z9:=Tryz.sizeOf9
 v9:=Tryz.zeroValue9
 t20:=Tryz.underlying20
 a20:=Tryz.isAgg20
 z20:=Tryz.sizeOf20
 v20:=Tryz.zeroValue20
 t37:=Tryz.underlying166
 a37:=Tryz.isAgg166
 z37:=Tryz.sizeOf166
 v37:=Tryz.zeroValue166
 t46:=Tryz.underlying296
 a46:=Tryz.isAgg296
 z46:=Tryz.sizeOf296
 v46:=Tryz.zeroValue296
 t51:=Tryz.underlying310
 a51:=Tryz.isAgg310
 z51:=Tryz.sizeOf310
 v51:=Tryz.zeroValue310
 t53:=Tryz.underlying303
 a53:=Tryz.isAgg303
 z53:=Tryz.sizeOf303
 v53:=Tryz.zeroValue303
 t171:=Tryz.underlying302
 a171:=Tryz.isAgg302
 z171:=Tryz.sizeOf302
 v171:=Tryz.zeroValue302
 t173:=Tryz.underlying306
 a173:=Tryz.isAgg306
 z173:=Tryz.sizeOf306
 v173:=Tryz.zeroValue306
 t212:=Tryz.underlying317
 a212:=Tryz.isAgg317
 z212:=Tryz.sizeOf317
 v212:=Tryz.zeroValue317
 t213:=Tryz.underlying318
 a213:=Tryz.isAgg318
 z213:=Tryz.sizeOf318
 t232:=Tryz.underlying335
 a232:=Tryz.isAgg335
 z232:=Tryz.sizeOf335
 v232:=Tryz.zeroValue335
 t233:=Tryz.underlying336
 a233:=Tryz.isAgg336
 z233:=Tryz.sizeOf336
 v233:=Tryz.zeroValue336
 g17:=by kernel_rfl
 g18:=by kernel_rfl
 g19:=by kernel_rfl
 i0:=by kernel_rfl
 i2:=by kernel_rfl
 i3:=by kernel_rfl
 i4:=by kernel_rfl
 i5:=by kernel_rfl
 i9:=by kernel_rfl
 i20:=by kernel_rfl
 i37:=by kernel_rfl
 i46:=by kernel_rfl
 i51:=by kernel_rfl
 i53:=by kernel_rfl
 i171:=by kernel_rfl
 i173:=by kernel_rfl
 i212:=by kernel_rfl
 i232:=by kernel_rfl
 i233:=by kernel_rfl
 m17:=by kernel_rfl
 m18:=by kernel_rfl
 m19:=by kernel_rfl }
def Tryz.laysTP_ren:Go.Shelf.Ren:=⟨fun | 101=>304 | 208=>311 | 206=>224 | n=>n,fun | 9=>9 | 4=>4 | 3=>3 | n=>n,fun | n=>n⟩
theorem Tryz.laysTP:Go.Proofs.Lays.n101 Tryz.prog Tryz.laysTP_ren:={
 mixed:=by kernel_rfl
 f101:=Tryz.func304.trans (congrArg some (by kernel_rfl))
 f206:=Tryz.func224.trans (congrArg some (by kernel_rfl))
 f208:=Tryz.func311.trans (congrArg some (by kernel_rfl))
 t3:=Tryz.underlying3
 a3:=Tryz.isAgg3
 z3:=Tryz.sizeOf3
 v3:=Tryz.zeroValue3
 t4:=Tryz.underlying4
 a4:=Tryz.isAgg4
 z4:=Tryz.sizeOf4
 v4:=Tryz.zeroValue4
 t9:=Tryz.underlying9
 a9:=Tryz.isAgg9
 z9:=Tryz.sizeOf9
 v9:=Tryz.zeroValue9 }
end Go.Proofs
end
