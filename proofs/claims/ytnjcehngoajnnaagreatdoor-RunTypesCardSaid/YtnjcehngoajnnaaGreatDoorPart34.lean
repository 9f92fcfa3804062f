/- Part 34 of the proof of a statement of seat YtnjcehngoajnnaaGreatDoor: HsNumLaw HsLexLaw HsLexLaw2 HsNumParseLaw HsNumBits HsGLex1 HsGNumBase HsGNumRef1 HsGNumRef2 HsGNumRef3 HsGNumShelf. -/
import Derived.Lib.ParseIntB
import Derived.Lib.ItoaNum
import Derived.Lib.Strings
import Derived.Lib.Index
import Derived.Lib.IndexMore
import Derived.Lib.ParseIntBCases
import Derived.Test.YtnjcehngoajnnaaGreatDoorPart32
import Derived.Test.YtnjcehngoajnnaaGreatDoorPart19
import Derived.Test.YtnjcehngoajnnaaGreatDoorPart21
import Derived.Test.YtnjcehngoajnnaaGreatDoorPart33
import Derived.Test.YtnjcehngoajnnaaGreatDoorPart26
import Derived.Lib.Mul64
import Derived.Test.YtnjcehngoajnnaaGreatDoorChecked
import Derived.Shelf.Strconv.ParseIntPublic10
import Derived.Shelf.Strconv.ErrVarParseInt
import Derived.Shelf.Strconv.Itoa4
import Derived.Shelf.Strings.Prefix
import Derived.Ground.NamesProg
set_option linter.unusedSimpArgs false
set_option linter.unusedVariables false
section
namespace Go.Hs
def dgF:Nat→Nat→List Nat
 | 0,_=>[]
 | f+1,n=>if n=0 then [] else (n % 10)::dgF f (n / 10)
def dg (n:Nat):List Nat:=dgF n n
theorem Ze8:∀ (f f' n:Nat),n≤f→n≤f'→dgF f n=dgF f' n
 | 0,f',n,h,_=>by
  have:n=0:=by omega
  subst this
  cases f'<;>simp [dgF]
 | f+1,0,n,_,h=>by
  have:n=0:=by omega
  subst this;simp [dgF]
 | f+1,f'+1,n,h,h'=>by
  simp only [dgF]
  split
  ·rfl
  ·rw [Ze8 f f' (n / 10) (by omega) (by omega)]
theorem dg_pos {n:Nat} (h:0<n):dg n=(n % 10)::dg (n / 10):=by
 obtain ⟨k,rfl⟩:∃ k,n=k+1:=⟨n-1,by omega⟩
 show dgF (k+1) (k+1)=_
 rw [dgF,if_neg (by omega),Ze8 k ((k+1) / 10) _ (by omega) (Nat.le_refl _)];rfl
def val:List Nat→Nat
 | []=>0
 | d::r=>d+10 * val r
theorem Z8o:∀ (a b:List Nat),val (a++b)=val a+10 ^ a.length * val b
 | [],b=>by simp [val]
 | d::a,b=>by
  rw [List.cons_append,val,Z8o a b,val,List.length_cons,Nat.pow_succ];rw [Nat.mul_add,← Nat.mul_assoc,Nat.mul_comm 10 (10 ^ a.length)];omega
def Dig (l:List Nat):Prop:=∀ d∈l,d<10
theorem Dig.app {a b:List Nat}:Dig (a++b) ↔ Dig a∧Dig b:=by
 constructor
 ·exact fun h=>⟨fun d hd=>h d (by simp [hd]),fun d hd=>h d (by simp [hd])⟩
 ·rintro ⟨h1,h2⟩ d hd
  rcases List.mem_append.1 hd with h | h
  ·exact h1 d h
  ·exact h2 d h
theorem Dig.one {d:Nat} (h:d<10):Dig [d]:=by intro x hx;simp at hx;omega
theorem Zo7:∀ {l:List Nat},Dig l→val l<10 ^ l.length
 | [],_=>by simp [val]
 | d::r,h=>by
  have h1:=Zo7 (l:=r) fun x hx=>h x (by simp [hx]);have h2:=h d (by simp);rw [val,List.length_cons,Nat.pow_succ];omega
theorem val_dg (n:Nat):val (dg n)=n:=by
 induction n using Nat.strongRecOn with
 | _ n ih =>
  rcases Nat.eq_zero_or_pos n with h | h
  ·subst h;rfl
  ·rw [dg_pos h,val,ih (n / 10) (by omega)]
   omega
def Zsb (x:Int):Bool:=decide (-9223372036854775808≤x∧x≤9223372036854775807)
def told (x:Int):Int × Int:=if Zsb x then (x,0) else (0,60)
def divR (a b:Int):Int × Int:=if b=0 then (0,61) else told (a.tdiv b)
def modR (a b:Int):Int × Int:=if b=0 then (0,61) else told (a.tmod b)
def Zya (c:UInt8):Bool:=48≤c.toNat && c.toNat≤57
def Z3u (c:UInt8):Nat:=c.toNat-48
def Zlc (s:List UInt8):Int × Int :=
 let below:=s.head? == some 45
 let t:=if below then s.drop 1 else s
 if t=[]∨(t.head? = some 48∧(t.length > 1∨below=true))∨t.all Zya=false then (0,2)
 else told (if below then -(val (t.reverse.map Z3u):Int) else val (t.reverse.map Z3u))
def putR (n:Int):List UInt8:=Lib.itoa n
end Go.Hs
end

section
namespace Go.Hs
open Go
structure Tk where
 kind:Int
 text:List UInt8
 pos:Int
 deriving DecidableEq,Inhabited
def isLt (c:UInt8):Bool:=c==95 || (decide (97≤(c.toNat ||| 32)) && decide ((c.toNat ||| 32)≤122))
def Zgf (c:UInt8):Bool:=isLt c || Zya c
def Zcj (c:UInt8):Bool:=c==32 || (decide (9≤c.toNat) && decide (c.toNat≤10)) || c==13
def Zuv (c:UInt8):Bool := !(c==10)
def Zad (p:UInt8→Bool):List UInt8→Nat
 | []=>0
 | c::r=>if p c then Zad p r+1 else 0
theorem Zxl (p:UInt8→Bool) (c:UInt8) (r:List UInt8):Zad p (c::r)=if p c then Zad p r+1 else 0:=rfl
theorem Z7f (p:UInt8→Bool):∀ s,Zad p s≤s.length
 | []=>Nat.le_refl _
 | c::r=>by
  have:=Z7f p r;unfold Zad
  split
  ·simp only [List.length_cons];omega
  ·exact Nat.zero_le _
def Zea (p s:List UInt8):Bool:=p.isPrefixOf s
theorem Zec (s:List UInt8):Zea [] s=true:=by cases s<;>rfl
theorem Zvc (a:UInt8) (p:List UInt8):Zea (a::p) []=false:=rfl
theorem Z4a (a c:UInt8) (p s:List UInt8):Zea (a::p) (c::s)=(a==c && Zea p s):=rfl
def Zf7:Nat→List UInt8→Nat
 | 0,_=>0
 | _+1,[]=>0
 | f+1,c::r=>if Zcj c then Zf7 f r+1 else if Zea [45,45] (c::r) then Zad Zuv (c::r)+Zf7 f ((c::r).drop (Zad Zuv (c::r))) else 0
def blk (s:List UInt8):Nat:=Zf7 s.length s
theorem Z1i {s:List UInt8} (h:Zea [45,45] s=true):2≤Zad Zuv s∧2≤s.length:=by
 match s with
 | []=>simp [Zea] at h
 | [_]=>simp [Zea] at h
 | a::b::r =>
  simp [Zea] at h;obtain ⟨rfl,rfl⟩:=h;simp [Zad,Zuv]
theorem Zdw:∀ (f f':Nat) (s:List UInt8),s.length≤f→s.length≤f'→Zf7 f s=Zf7 f' s
 | 0,f',s,h,_=>by
  have:s=[]:=List.length_eq_zero_iff.1 (by omega);subst this
  cases f'<;>rfl
 | f+1,0,s,_,h=>by
  have:s=[]:=List.length_eq_zero_iff.1 (by omega);subst this;rfl
 | f+1,f'+1,[],_,_=>rfl
 | f+1,f'+1,c::r,h,h'=>by
  simp only [List.length_cons] at h h';unfold Zf7
  split
  ·rw [Zdw f f' r (by omega) (by omega)]
  ·split
   ·rename_i hp
    have:=Z1i hp;rw [Zdw f f' _ (by simp only [List.length_drop,List.length_cons];omega) (by simp only [List.length_drop,List.length_cons];omega)]
   ·rfl
theorem Z43:blk []=0:=rfl
theorem Z63 {c:UInt8} {r:List UInt8} (h:Zcj c=true):blk (c::r)=blk r+1:=by
 unfold blk;rw [List.length_cons,Zf7,if_pos h]
theorem Zcw {s:List UInt8} (h:Zea [45,45] s=true):blk s=Zad Zuv s+blk (s.drop (Zad Zuv s)):=by
 match s with
 | []=>simp [Zea] at h
 | c::r =>
  have hc:Zcj c=false:=by
   cases r with
   | nil=>simp [Zea] at h
   | cons d r=>simp [Zea] at h;rw [← h.1];decide
  have:=Z1i h;unfold blk;rw [List.length_cons,Zf7,if_neg (by simp [hc]),if_pos h];rw [Zdw r.length _ _ (by simp only [List.length_drop,List.length_cons];omega) (Nat.le_refl _)]
theorem Z33 {c:UInt8} {r:List UInt8} (h:Zcj c=false) (h2:Zea [45,45] (c::r)=false):blk (c::r)=0:=by
 unfold blk;rw [List.length_cons,Zf7,if_neg (by simp [h]),if_neg (by simp [h2])]
theorem Ziy (s:List UInt8):blk s≤s.length:=by
 have key:∀ (n:Nat) (s:List UInt8),s.length≤n→blk s≤s.length:=by
  intro n
  induction n with
  | zero =>
   intro s h;have:s=[]:=List.length_eq_zero_iff.1 (by omega);subst this;exact Nat.le_refl _
  | succ n ih =>
   intro s h
   match s with
   | []=>exact Nat.le_refl _
   | c::r =>
    cases hb:Zcj c with
    | true =>
     rw [Z63 hb];have:=ih r (by simp only [List.length_cons] at h;omega);simp only [List.length_cons];omega
    | false =>
     cases hp:Zea [45,45] (c::r) with
     | false=>rw [Z33 hb hp];exact Nat.zero_le _
     | true =>
      have h1:=Z1i hp;have h2:=Z7f Zuv (c::r);rw [Zcw hp];have:=ih ((c::r).drop (Zad Zuv (c::r))) (by rw [List.length_drop];omega);rw [List.length_drop] at this;omega
 exact key s.length s (Nat.le_refl _)
def Zg8 (s:List UInt8):Prop:=∀ c r,s=c::r→Zcj c=false∧Zea [45,45] s=false
theorem Z53 (s:List UInt8):Zg8 (s.drop (blk s)):=by
 have key:∀ (n:Nat) (s:List UInt8),s.length≤n→Zg8 (s.drop (blk s)):=by
  intro n
  induction n with
  | zero =>
   intro s h;have:s=[]:=List.length_eq_zero_iff.1 (by omega);subst this;intro c r hh;simp [Z43] at hh
  | succ n ih =>
   intro s h
   match s with
   | []=>intro c r hh;simp [Z43] at hh
   | c::r =>
    cases hb:Zcj c with
    | true =>
     rw [Z63 hb,List.drop_succ_cons];exact ih r (by simp only [List.length_cons] at h;omega)
    | false =>
     cases hp:Zea [45,45] (c::r) with
     | false =>
      rw [Z33 hb hp,List.drop_zero];intro c' r' hh;cases hh;exact ⟨hb,hp⟩
     | true =>
      have h1:=Z1i hp;have h2:=Z7f Zuv (c::r);rw [Zcw hp,← List.drop_drop];exact ih _ (by rw [List.length_drop];omega)
 exact key s.length s (Nat.le_refl _)
def signsL:List (List UInt8):=[[58,61],[60,62],[60,61],[62,61],[60],[62],[61],[43],[45],[42],[40],[41],[44],[59]]
def wordsL:List (List UInt8):=[[97,110,100],[100,105,118],[101,108,115,101],[101,109,105,116],[101,110,100,105,102],[102,97,108,115,101],[105,102],[105,109,112,108,105,101,115],[109,111,100],[110,111,116],[111,114],[116,104,101,110],[116,114,117,101],[120,111,114]]
def Zn7:List UInt8:=32::wordsL.flatMap (· ++ [32])
def Zca (s:List UInt8):Nat × Nat :=
 match s with
 | []=>(0,0)
 | c::_ =>
  if Zea [45,45] s then (0,0)
  else if Zya c then (Zad Zya s,1)
  else if isLt c then (Zad Zgf s,if wordsL.contains (s.take (Zad Zgf s)) then 3 else 2)
  else match signsL.find? (Zea · s) with
   | some t=>(t.length,4)
   | none=>(0,0)
def isP (s:List UInt8):Nat:=if (Zca s).1≠s.length∨(Zca s).1 > 64 then 0 else (Zca s).2
theorem Zje (c:UInt8) (r:List UInt8):Zca (c::r) =
  if Zea [45,45] (c::r) then (0,0)
  else if Zya c then (Zad Zya (c::r),1)
  else if isLt c then (Zad Zgf (c::r),if wordsL.contains ((c::r).take (Zad Zgf (c::r))) then 3 else 2)
  else match signsL.find? (Zea · (c::r)) with
   | some t=>(t.length,4)
   | none=>(0,0):=rfl
theorem Zjm (s:List UInt8):(Zca s).1≤s.length:=by
 unfold Zca
 split
 ·exact Nat.le_refl _
 ·split
  ·exact Nat.zero_le _
  ·split
   ·exact Z7f _ _
   ·split
    ·exact Z7f _ _
    ·split
     ·rename_i h
      have:=List.find?_some h;exact (List.isPrefixOf_iff_prefix.1 this).length_le
     ·exact Nat.zero_le _
def Zcc:Nat→List UInt8→Nat→List Tk→List Tk × Int × Int
 | 0,_,_,acc=>(acc,0,0)
 | f+1,s,i,acc =>
  if i<s.length then
   if (Zca (s.drop i)).1=0∨(Zca (s.drop i)).1 > 64 then ([],i,70)
   else Zcc f s (i+(Zca (s.drop i)).1+blk (s.drop (i+(Zca (s.drop i)).1))) (acc++[⟨(Zca (s.drop i)).2,(s.drop i).take (Zca (s.drop i)).1,i⟩])
  else (acc,0,0)
def Z5b (s:List UInt8):List Tk × Int × Int:=if s.length > 65536 then ([],0,3) else Zcc (s.length+1) s (blk s) []
theorem Zdx:∀ (f f':Nat) (s:List UInt8) (i:Nat) (acc:List Tk),s.length<f+i→s.length<f'+i→Zcc f s i acc=Zcc f' s i acc
 | 0,f',s,i,acc,h,_=>by
  cases f' with
  | zero=>rfl
  | succ f'=>rw [Zcc,Zcc,if_neg (by omega)]
 | f+1,0,s,i,acc,_,h=>by rw [Zcc,Zcc,if_neg (by omega)]
 | f+1,f'+1,s,i,acc,h,h'=>by
  unfold Zcc
  split
  ·split
   ·rfl
   ·rename_i hn
    exact Zdx f f' _ _ _ (by omega) (by omega)
  ·rfl
theorem Z0y {f:Nat} {s:List UInt8} {i:Nat} {acc:List Tk} (h:i<s.length) (hf:s.length<f+i) (hn:¬ ((Zca (s.drop i)).1=0∨(Zca (s.drop i)).1 > 64)) :
  Zcc f s i acc=Zcc f s (i+(Zca (s.drop i)).1+blk (s.drop (i+(Zca (s.drop i)).1))) (acc++[⟨(Zca (s.drop i)).2,(s.drop i).take (Zca (s.drop i)).1,i⟩]):=by
 cases f with
 | zero=>omega
 | succ f =>
  rw [Zcc,if_pos h,if_neg hn];exact Zdx _ _ _ _ _ (by omega) (by omega)
theorem Z9r {f:Nat} {s:List UInt8} {i:Nat} {acc:List Tk} (h:i<s.length) (hf:s.length<f+i) (hn:(Zca (s.drop i)).1=0∨(Zca (s.drop i)).1 > 64):Zcc f s i acc=([],(i:Int),70):=by
 cases f with
 | zero=>omega
 | succ f=>rw [Zcc,if_pos h,if_pos hn]
theorem Z8r {f:Nat} {s:List UInt8} {i:Nat} {acc:List Tk} (h:¬ i<s.length):Zcc f s i acc=(acc,0,0):=by
 cases f with
 | zero=>rfl
 | succ f=>rw [Zcc,if_neg h]
def Z8d (s:List UInt8):Nat :=
 if signsL.contains s then 4 else if wordsL.contains s then 3 else match s with
 | []=>0
 | c::_=>if s.all Zya then 1 else if isLt c && s.all Zgf then 2 else 0
theorem Zp7 (p:UInt8→Bool) (h:(List.range 256).all (fun n=>p (UInt8.ofNat n))=true) (c:UInt8):p c=true:=by
 have h2:=List.all_eq_true.1 h c.toNat (List.mem_range.2 c.toNat_lt)
 have e:UInt8.ofNat c.toNat=c:=by simp
 rw [e] at h2;exact h2
theorem Zsp {c:UInt8} (h:Zya c=true):isLt c=false∧Zgf c=true:=by
 revert h
 unfold Zgf;have:=Zp7 (fun c => !Zya c || (!isLt c && (isLt c || Zya c))) (by decide +kernel) c;intro h;simpa [h] using this
theorem Zri {p:UInt8→Bool}:∀ {s:List UInt8},(Zad p s=s.length)=(s.all p=true)
 | []=>by simp [Zad]
 | c::r=>by
  unfold Zad;rw [List.all_cons,Bool.and_eq_true,← Zri (s:=r)]
  by_cases h:p c=true
  ·simp [h]
  ·simp [h]
theorem Z4k:∀ w∈wordsL,w.all Zgf=true∧w≠[]∧(∀ c∈w.head?,isLt c=true):=by decide +kernel
theorem Z8k:∀ w∈signsL,w≠[]∧w.length≤2∧(∀ c∈w,Zgf c=false):=by decide +kernel
theorem Z6o {c:UInt8} {r:List UInt8} (h:Zya c=true):Z8d (c::r)=if (c::r).all Zya then 1 else 0:=by
 have h1:=Zsp h
 have h2:signsL.contains (c::r)=false:=by
  rw [Bool.eq_false_iff];intro hc;have:=(Z8k (c::r) (by simpa using hc)).2.2 c (by simp);rw [h1.2] at this;cases this
 have h3:wordsL.contains (c::r)=false:=by
  rw [Bool.eq_false_iff];intro hc;have:=(Z4k (c::r) (by simpa using hc)).2.2 c (by simp);rw [h1.1] at this;cases this
 unfold Z8d;simp only [h2,h3,h1.1,Bool.false_and];simp
theorem Z5o {c:UInt8} {r:List UInt8} (h:isLt c=true):Z8d (c::r)=if (c::r).all Zgf then (if wordsL.contains (c::r) then 3 else 2) else 0:=by
 have h1:Zya c=false:=by
  rw [Bool.eq_false_iff];intro hd;rw [(Zsp hd).1] at h;cases h
 have h1':Zgf c=true:=by unfold Zgf;rw [h];rfl
 have h2:signsL.contains (c::r)=false:=by
  rw [Bool.eq_false_iff];intro hc;have:=(Z8k (c::r) (by simpa using hc)).2.2 c (by simp);rw [h1'] at this;cases this
 have h3:(c::r).all Zya=false:=by rw [List.all_cons,h1];rfl
 unfold Z8d;simp only [h2,h3,h,Bool.true_and]
 by_cases h4:wordsL.contains (c::r)=true
 ·rw [if_neg (by simp),if_pos h4,if_pos ((Z4k _ (by simpa using h4)).1),if_pos h4]
 ·rw [if_neg (by simp),if_neg h4,if_neg (by simp),if_neg h4]
theorem Z3g {c:UInt8} {r:List UInt8} (h:Zgf c=false):Z8d (c::r)=if signsL.contains (c::r) then 4 else 0:=by
 have h1:isLt c=false∧Zya c=false:=by unfold Zgf at h;simpa using h
 have h2:wordsL.contains (c::r)=false:=by
  rw [Bool.eq_false_iff];intro hc;have:=(Z4k (c::r) (by simpa using hc)).2.2 c (by simp);rw [h1.1] at this;cases this
 have h3:(c::r).all Zya=false:=by rw [List.all_cons,h1.2];rfl
 unfold Z8d;simp only [h2,h3,h1.1,Bool.false_and]
 split<;>rfl
end Go.Hs
end

section
namespace Go.Hs
open Go
theorem Zet (c:UInt8) (q:List UInt8):Lib.contains [] (c::q)=false:=by simp [Lib.contains,Lib.index]
theorem contains_cons (b:UInt8) (l p:List UInt8):Lib.contains (b::l) p=(p.isPrefixOf (b::l) || Lib.contains l p):=by
 unfold Lib.contains;rw [Lib.index]
 by_cases h:p.isPrefixOf (b::l)=true
 ·rw [if_pos h,h];simp
 ·have h':p.isPrefixOf (b::l)=false:=Bool.eq_false_iff.2 h
  rw [if_neg h,h',Bool.false_or]
  rcases Lib.index_spec l p with ⟨h1,_⟩ | ⟨i,h1,_⟩
  ·rw [h1];simp
  ·rw [h1]
   have:((i:Int) == -1)=false:=by rw [beq_eq_false_iff_ne];omega
   simp only [this];simp;omega
theorem Zu7:∀ (w v rest:List UInt8),(∀ c∈w,c≠32)→(∀ c∈v,c≠32)→(w++[32]).isPrefixOf (v++32::rest)=(w==v)
 | [],[],rest,_,_=>by simp
 | [],b::v,rest,_,hv=>by
  have:=hv b (by simp);simp [List.isPrefixOf];exact fun h=>absurd h.symm this
 | a::w,[],rest,hw,_=>by
  have:=hw a (by simp);simp [List.isPrefixOf];exact fun h=>absurd h this
 | a::w,b::v,rest,hw,hv=>by
  have:=Zu7 w v rest (fun c hc=>hw c (by simp [hc])) (fun c hc=>hv c (by simp [hc]));simp only [List.cons_append,List.isPrefixOf,this];simp [List.cons_beq_cons]
theorem Zlj (q:List UInt8):∀ (v l:List UInt8),(∀ c∈v,c≠32)→Lib.contains (v++l) (32::q)=Lib.contains l (32::q)
 | [],_,_=>rfl
 | b::v,l,hv=>by
  have h1:=hv b (by simp);rw [List.cons_append,contains_cons,Zlj q v l fun c hc=>hv c (by simp [hc])]
  have:((32::q).isPrefixOf (b::(v++l)))=false:=by
   simp only [List.isPrefixOf,Bool.and_eq_false_iff]
   left
   simpa using fun h=>h1 h.symm
  rw [this,Bool.false_or]
theorem Zth (w:List UInt8) (hw:∀ c∈w,c≠32):∀ (Ws:List (List UInt8)),(∀ v∈Ws,∀ c∈v,c≠32) →
  Lib.contains (32::Ws.flatMap (· ++ [32])) (32::(w++[32]))=Ws.contains w
 | [],_=>by
  rw [List.flatMap_nil,contains_cons,Zet]
  cases w with
  | nil=>rfl
  | cons=>rfl
 | v::Ws,h=>by
  have hv:=h v (by simp);rw [List.flatMap_cons,contains_cons,List.append_assoc,Zlj _ _ _ hv,List.singleton_append,Zth w hw Ws fun x hx=>h x (by simp [hx]),List.contains_cons]
  congr 1
  simp only [List.isPrefixOf,beq_self_eq_true,Bool.true_and];exact Zu7 w v _ hw hv
theorem al_no {c:UInt8} (h:Zgf c=true):c≠32:=by rintro rfl;revert h;decide
theorem Zon (w:List UInt8) (hw:w.all Zgf=true):Lib.contains Zn7 (32::(w++[32]))=wordsL.contains w:=by
 rw [List.all_eq_true] at hw
 exact Zth w (fun c hc=>al_no (hw c hc)) wordsL fun v hv c hc=>by
  have:=(Z4k v hv).1;rw [List.all_eq_true] at this;exact al_no (this c hc)
theorem Zzd (p:UInt8→Bool):∀ s:List UInt8,(s.take (Zad p s)).all p=true
 | []=>rfl
 | c::r=>by
  unfold Zad
  split
  ·rename_i h
   rw [List.take_succ_cons,List.all_cons,h,Zzd p r];rfl
  ·rfl
theorem Zeq (c:UInt8):Zya c=true∨(Zya c=false∧isLt c=true)∨(Zgf c=false∧Zya c=false∧isLt c=false):=by
 unfold Zgf
 cases h:Zya c with
 | true=>exact .inl rfl
 | false =>
  cases h2:isLt c with
  | true=>exact .inr (.inl ⟨rfl,rfl⟩)
  | false=>exact .inr (.inr ⟨rfl,rfl,rfl⟩)
def Zp4 (s:List UInt8):Nat:=match signsL.find? (Zea · s) with | some t=>t.length | none=>0
theorem Zim {c:UInt8} {r:List UInt8} (h:Zya c=true):Zca (c::r)=(Zad Zya (c::r),1):=by
 have h1:Zea [45,45] (c::r)=false:=by
  have:(45==c)=false:=by
   rw [beq_eq_false_iff_ne];rintro rfl;revert h;decide
  rw [Z4a,this];rfl
 rw [Zje,if_neg (by simp [h1]),if_pos h]
theorem Zwp {c:UInt8} {r:List UInt8} (h:isLt c=true):Zca (c::r)=(Zad Zgf (c::r),if wordsL.contains ((c::r).take (Zad Zgf (c::r))) then 3 else 2):=by
 have h1:Zea [45,45] (c::r)=false:=by
  have:(45==c)=false:=by
   rw [beq_eq_false_iff_ne];rintro rfl;revert h;decide
  rw [Z4a,this];rfl
 have h2:Zya c=false:=by
  rw [Bool.eq_false_iff];intro hd;rw [(Zsp hd).1] at h;cases h
 rw [Zje,if_neg (by simp [h1]),if_neg (by simp [h2]),if_pos h]
theorem Zhj {c:UInt8} {r:List UInt8} (h:Zgf c=false) (h1:Zea [45,45] (c::r)=false):Zca (c::r)=(Zp4 (c::r),if Zp4 (c::r)=0 then 0 else 4):=by
 have h2:isLt c=false∧Zya c=false:=by unfold Zgf at h;simpa using h
 unfold Zp4;rw [Zje,if_neg (by simp [h1]),if_neg (by simp [h2.2]),if_neg (by simp [h2.1])]
 cases hf:signsL.find? (Zea · (c::r)) with
 | none=>rfl
 | some t =>
  have:=List.mem_of_find?_eq_some hf;have:=(Z8k t this).1;have:t.length≠0:=fun h=>this (List.length_eq_zero_iff.1 h);simp [this]
theorem Zby:∀ (L:List (List UInt8)) (c:UInt8),(∀ t∈L,t≠[])→(match L.find? (Zea · [c]) with | some t=>t.length | none=>0)=if L.contains [c] then 1 else 0
 | [],c,_=>rfl
 | t::L,c,h=>by
  have ih:=Zby L c fun x hx=>h x (by simp [hx]);rw [List.find?_cons,List.contains_cons]
  match t,h t (by simp) with
  | [a],_ =>
   by_cases e:a=c
   ·subst e;simp [Z4a,Zec,Zvc]
   ·have:Zea [a] [c]=false:=by simp [Z4a,Zec,Zvc,e]
    rw [this]
    have:(([c]:List UInt8)==[a])=false:=by simpa using fun h=>e h.symm
    rw [this,Bool.false_or];exact ih
  | a::b::r,_ =>
   have:Zea (a::b::r) [c]=false:=by simp [Z4a,Zec,Zvc]
   rw [this]
   have:(([c]:List UInt8)==a::b::r)=false:=by simp
   rw [this,Bool.false_or];exact ih
theorem Zkm:∀ (L M:List (List UInt8)) (c d:UInt8) (r:List UInt8),(∀ t∈L,t.length=2)→(∀ t∈M,t.length=1) →
  (match (L++M).find? (Zea · (c::d::r)) with | some t=>t.length | none=>0)=if L.contains [c,d] then 2 else if M.contains [c] then 1 else 0
 | [],[],c,d,r,_,_=>rfl
 | [],t::M,c,d,r,hL,hM=>by
  have ih:=Zkm [] M c d r hL fun x hx=>hM x (by simp [hx]);rw [List.nil_append] at ih ⊢
  match t,hM t (by simp) with
  | [a],_ =>
   rw [List.find?_cons,List.contains_cons]
   by_cases e:a=c
   ·subst e;simp [Z4a,Zec,Zvc]
   ·have:Zea [a] (c::d::r)=false:=by simp [Z4a,Zec,Zvc,e]
    rw [this]
    have:(([c]:List UInt8)==[a])=false:=by simpa using fun h=>e h.symm
    rw [this,Bool.false_or];exact ih
 | t::L,M,c,d,r,hL,hM=>by
  have ih:=Zkm L M c d r (fun x hx=>hL x (by simp [hx])) hM
  match t,hL t (by simp) with
  | [a,b],_ =>
   rw [List.cons_append,List.find?_cons,List.contains_cons]
   by_cases e:a=c∧b=d
   ·obtain ⟨rfl,rfl⟩:=e;simp [Z4a,Zec,Zvc]
   ·have:Zea [a,b] (c::d::r)=false:=by simpa [Z4a,Zec,Zvc] using e
    rw [this]
    have:(([c,d]:List UInt8)==[a,b])=false:=by simpa using fun h1 h2=>e ⟨h1.symm,h2.symm⟩
    rw [this,Bool.false_or];exact ih
def sg2:List (List UInt8):=[[58,61],[60,62],[60,61],[62,61]]
def sg1:List (List UInt8):=[[60],[62],[61],[43],[45],[42],[40],[41],[44],[59]]
theorem Zmx (c:UInt8):Zp4 [c]=if signsL.contains [c] then 1 else 0:=Zby signsL c fun t ht=>(Z8k t ht).1
theorem Zdp (c d:UInt8) (r:List UInt8):Zp4 (c::d::r)=if sg2.contains [c,d] then 2 else if sg1.contains [c] then 1 else 0:=Zkm sg2 sg1 c d r (by decide) (by decide)
theorem Z6e (x:List UInt8):signsL.contains x=(sg2.contains x || sg1.contains x):=by
 show (sg2++sg1).contains x=_
 simp
theorem Zw1 {x:List UInt8} (h:x.length≠1):sg1.contains x=false:=by
 rw [Bool.eq_false_iff];intro hc
 have:∀ t∈sg1,t.length=1:=by decide
 exact h (this x (by simpa using hc))
theorem Zv1 {x:List UInt8} (h:x.length≠2):sg2.contains x=false:=by
 rw [Bool.eq_false_iff];intro hc
 have:∀ t∈sg2,t.length=2:=by decide
 exact h (this x (by simpa using hc))
theorem Zc1 {c:UInt8} (h:Zgf c=false):Z8d [c]=if sg1.contains [c] then 4 else 0:=by
 rw [Z3g h,Z6e,Zv1 (by simp),Bool.false_or]
theorem Z2r {c d:UInt8} (h:Zgf c=false):Z8d [c,d]=if sg2.contains [c,d] then 4 else 0:=by
 rw [Z3g h,Z6e,Zw1 (by simp),Bool.or_false]
theorem Zxy {c d e:UInt8} {r:List UInt8} (h:Zgf c=false):Z8d (c::d::e::r)=0:=by
 rw [Z3g h,Z6e,Zw1 (by simp),Zv1 (by simp)];rfl
theorem Z3s (s:List UInt8):isP s=if s.length > 64 then 0 else Z8d s:=by
 have key:(if (Zca s).1≠s.length then 0 else (Zca s).2)=Z8d s:=by
  match s with
  | []=>rfl
  | c::r =>
   rcases Zeq c with h | ⟨_,h⟩ | ⟨h,_⟩
   ·rw [Zim h,Z6o h]
    by_cases ha:(c::r).all Zya=true
    ·rw [if_pos ha,if_neg (by rw [ne_eq,Decidable.not_not,Zri];exact ha)]
    ·rw [if_neg ha,if_pos (by rw [ne_eq,Zri];exact ha)]
   ·rw [Zwp h,Z5o h]
    by_cases ha:(c::r).all Zgf=true
    ·have hl:Zad Zgf (c::r)=(c::r).length:=by rw [Zri];exact ha
     rw [if_pos ha,hl,List.take_length,if_neg (by simp)]
    ·rw [if_neg ha,if_pos (by rw [ne_eq,Zri];exact ha)]
   ·match r with
    | [] =>
     rw [Zhj h (by simp [Z4a,Zec,Zvc]),Zmx,Z3g h];generalize signsL.contains [c]=x
     cases x<;>simp
    | [d] =>
     rw [Z2r h]
     cases hp:Zea [45,45] [c,d] with
     | true =>
      have:c=45∧d=45:=by
       rw [Z4a,Z4a,Zec,Bool.and_true,Bool.and_eq_true,beq_iff_eq,beq_iff_eq] at hp;exact ⟨hp.1.symm,hp.2.symm⟩
      obtain ⟨rfl,rfl⟩:=this
      decide
     | false =>
      rw [Zhj h hp,Zdp];generalize sg2.contains [c,d]=x;generalize sg1.contains [c]=y
      cases x<;>cases y<;>simp
    | d::e::r =>
     rw [Zxy h]
     cases hp:Zea [45,45] (c::d::e::r) with
     | true =>
      have:Zca (c::d::e::r)=(0,0):=by rw [Zje,if_pos hp]
      rw [this];simp
     | false =>
      rw [Zhj h hp,Zdp];generalize sg2.contains [c,d]=x;generalize sg1.contains [c]=y
      cases x<;>cases y<;>simp
 unfold isP
 by_cases h1:(Zca s).1=s.length
 ·rw [← key,if_neg (show ¬ (Zca s).1≠s.length by simpa using h1),h1]
  by_cases h2:s.length > 64
  ·rw [if_pos (.inr h2),if_pos h2]
  ·rw [if_neg (by simpa using h2),if_neg h2]
 ·rw [if_pos (.inl h1)]
  rw [if_pos h1] at key;rw [← key];simp
theorem Zc0 {s:List UInt8} (hc:Zea [45,45] s=false) (hn:(Zca s).1≠0):Z8d (s.take (Zca s).1)=(Zca s).2∧(Zca s).2≠0:=by
 match s with
 | []=>exact absurd rfl hn
 | c::r =>
  rcases Zeq c with h | ⟨_,h⟩ | ⟨h,_⟩
  ·have e:=Zim (r:=r) h
   rw [e] at hn ⊢;have hn:Zad Zya (c::r)≠0:=hn;obtain ⟨k,hk⟩:∃ j,Zad Zya (c::r)=j+1:=⟨Zad Zya (c::r)-1,by omega⟩;have h2:=Zzd Zya (c::r);refine ⟨?_,by simp⟩
   show Z8d ((c::r).take (Zad Zya (c::r)))=1
   rw [hk] at h2 ⊢;rw [List.take_succ_cons] at h2 ⊢;rw [Z6o h,if_pos h2]
  ·have e:=Zwp (r:=r) h
   rw [e] at hn ⊢;have hn:Zad Zgf (c::r)≠0:=hn;obtain ⟨k,hk⟩:∃ j,Zad Zgf (c::r)=j+1:=⟨Zad Zgf (c::r)-1,by omega⟩;have h2:=Zzd Zgf (c::r);refine ⟨?_,by show (if _ then 3 else 2)≠0;split<;>simp⟩
   show Z8d ((c::r).take (Zad Zgf (c::r)))=if wordsL.contains ((c::r).take (Zad Zgf (c::r))) then 3 else 2
   rw [hk] at h2 ⊢;rw [List.take_succ_cons] at h2 ⊢;rw [Z5o h,if_pos h2]
  ·have e:=Zhj (r:=r) h hc
   rw [e] at hn ⊢;have hn:Zp4 (c::r)≠0:=hn;refine ⟨?_,by show (if _ then 0 else 4)≠0;rw [if_neg hn];simp⟩
   show Z8d ((c::r).take (Zp4 (c::r)))=if Zp4 (c::r)=0 then 0 else 4
   rw [if_neg hn]
   match r with
   | [] =>
    rw [Zmx] at hn ⊢
    cases hs:signsL.contains [c] with
    | false=>rw [hs] at hn;simp at hn
    | true=>rw [if_pos rfl,List.take_succ_cons,List.take_zero,Z3g h,hs];rfl
   | d::r =>
    rw [Zdp] at hn ⊢
    cases hs:sg2.contains [c,d] with
    | true=>rw [if_pos rfl,List.take_succ_cons,List.take_succ_cons,List.take_zero,Z2r h,hs];rfl
    | false =>
     rw [hs] at hn;rw [if_neg (by simp)] at hn ⊢
     cases hs1:sg1.contains [c] with
     | false=>rw [hs1] at hn;simp at hn
     | true=>rw [if_pos rfl,List.take_succ_cons,List.take_zero,Zc1 h,hs1];rfl
end Go.Hs
end

section
namespace Go.Hs
open Go
def Z0g (s:List UInt8):Bool :=
 let t:=Lib.trimPrefix s [45]
 t.all Zya && (s==[48] || (!(t==[]) && !(t.head? == some 48)))
def rdv (acc:Nat) (l:List UInt8):Nat:=l.foldl (fun a c=>a * 10+Z3u c) acc
theorem Z91:∀ (l:List UInt8) (acc:Nat),rdv acc l=acc * 10 ^ l.length+val (l.reverse.map Z3u)
 | [],acc=>by simp [rdv,val]
 | c::r,acc=>by
  have:=Z91 r (acc * 10+Z3u c);rw [show rdv acc (c::r)=rdv (acc * 10+Z3u c) r from rfl,this,List.reverse_cons,List.map_append,Z8o,List.length_cons,Nat.pow_succ,List.length_map,List.length_reverse];simp only [List.map_cons,List.map_nil,val,Nat.mul_zero,Nat.add_zero];rw [Nat.add_mul,Nat.mul_assoc,Nat.mul_comm 10 (10 ^ r.length),Nat.mul_comm (Z3u c)];omega
theorem Zt7:∀ (l:List UInt8) (acc:Nat),acc≤rdv acc l
 | [],acc=>Nat.le_refl _
 | c::r,acc=>by
  have:=Zt7 r (acc * 10+Z3u c);rw [show rdv acc (c::r)=rdv (acc * 10+Z3u c) r from rfl];omega
theorem Zoh:∀ (l:List UInt8) (acc:Nat),l.all Zya=true→acc≤18446744073709551615 →
  Lib.parseUintM 18446744073709551615 acc l=if rdv acc l≤18446744073709551615 then .ok (rdv acc l) else .range
 | [],acc,_,h=>by simp [Lib.parseUintM,rdv,h]
 | c::r,acc,hd,h=>by
  rw [List.all_cons,Bool.and_eq_true] at hd
  have hc:48≤c.toNat∧c.toNat≤57:=by have:=hd.1;unfold Zya at this;simpa using this
  have hge:=Zt7 r (acc * 10+Z3u c);have hdv:Z3u c=c.toNat-48:=rfl;rw [Lib.parseUintM,if_pos hc,show rdv acc (c::r)=rdv (acc * 10+Z3u c) r from rfl]
  by_cases h1:1844674407370955162≤acc
  ·rw [if_pos h1,if_neg (by omega)]
  ·rw [if_neg h1]
   by_cases h2:18446744073709551615<acc * 10+(c.toNat-48)
   ·rw [if_pos h2,if_neg (by omega)]
   ·rw [if_neg h2]
    exact Zoh r _ hd.2 (by omega)
theorem Zph {l:List UInt8} (hl:l≠[]) (hd:l.all Zya=true) :
  Lib.parseUintB 64 l=if val (l.reverse.map Z3u)≤18446744073709551615 then .ok (val (l.reverse.map Z3u)) else .range:=by
 have:=Zoh l 0 hd (by omega);rw [Z91,Nat.zero_mul,Nat.zero_add] at this;rw [Lib.parseUintB,if_neg hl];exact this
theorem Zi1 {x:Int} (h : -9223372036854775808≤x∧x≤9223372036854775807):told x=(x,0):=by
 unfold told Zsb;rw [if_pos (decide_eq_true h)]
theorem Zcx {x:Int} (h:¬ (-9223372036854775808≤x∧x≤9223372036854775807)):told x=(0,60):=by
 unfold told Zsb;rw [if_neg (by simpa using h)]
theorem Zg1 (s:List UInt8):Lib.trimPrefix s [45]=if s.head? = some 45 then s.drop 1 else s:=by
 cases s with
 | nil=>rfl
 | cons c r =>
  unfold Lib.trimPrefix Lib.hasPrefix
  by_cases h:c=45
  ·subst h;simp
  ·have h':¬ (45:UInt8)=c:=fun e=>h e.symm
   simp [h,h']
theorem Zd2 (s:List UInt8):(Z0g s=false∧Zlc s=(0,2))∨(Z0g s=true∧((∃ v,Lib.parseIntB 64 s = .ok v∧Zlc s=(v,0))∨(Lib.parseIntB 64 s = .range∧Zlc s=(0,60)))):=by
 cases s with
 | nil=>exact .inl ⟨by decide,rfl⟩
 | cons c r =>
  unfold Z0g Zlc;rw [Zg1]
  by_cases hc:c=45
  ·subst hc
   simp only [List.head?_cons,if_true,List.drop_succ_cons,List.drop_zero];have e1:((some (45:UInt8))==some 45)=true:=rfl
   have e2:((45::r:List UInt8)==[48])=false:=by simp
   simp only [e1,e2,if_true,Bool.false_or]
   by_cases hd:r.all Zya=true
   ·cases r with
    | nil=>left;simp
    | cons d q =>
     by_cases h0:d=48
     ·subst h0;left;simp
     ·right
      have h0':¬ ((some d:Option UInt8)==some 48)=true:=by simpa using h0
      refine ⟨by simp [hd,h0],?_⟩;rw [if_neg (by simp only [List.head?_cons,Option.some.injEq,h0,hd,Bool.true_eq_false,reduceCtorEq,false_and,or_self,not_false_eq_true])];rw [Lib.parseIntB_minus,Zph (by simp) hd];generalize val ((d::q).reverse.map Z3u)=m
      by_cases hm:m≤9223372036854775808
      ·left
       refine ⟨-(m:Int),?_,Zi1 (by omega)⟩;rw [if_pos (by omega)];simp only [Lib.signedC];rw [if_neg (by omega)]
      ·right
       refine ⟨?_,Zcx (by omega)⟩
       by_cases hm2:m≤18446744073709551615
       ·rw [if_pos hm2]
        simp only [Lib.signedC];rw [if_pos (by omega)]
       ·rw [if_neg hm2]
        rfl
   ·left
    have hd':r.all Zya=false:=by simpa using hd
    simp [hd']
  ·have e1:((some c:Option UInt8)==some 45)=false:=by simpa using hc
   simp only [List.head?_cons,e1,Option.some.injEq,hc,if_false,Bool.false_eq_true]
   by_cases hd:(c::r).all Zya=true
   ·have hdig:48≤c.toNat∧c.toNat≤57:=by
     have:=hd;rw [List.all_cons,Bool.and_eq_true] at this;have:=this.1;unfold Zya at this;simpa using this
    by_cases h0:c=48∧r≠[]
    ·left
     obtain ⟨rfl,h1⟩:=h0
     have hlen:(48::r:List UInt8).length > 1:=by
      cases r with
      | nil=>exact absurd rfl h1
      | cons _ _=>simp
     refine ⟨by simp [h1],?_⟩;rw [if_pos (.inr (.inl ⟨rfl,.inl hlen⟩))]
    ·right
     refine ⟨?_,?_⟩
     ·rw [hd]
      by_cases h1:c=48
      ·have:r=[]:=by
        by_cases h2:r=[]
        ·exact h2
        ·exact absurd ⟨h1,h2⟩ h0
       subst h1 this;rfl
      ·simp [h1]
     ·rw [if_neg (by
       simp only [List.head?_cons,Option.some.injEq,hd,Bool.true_eq_false,reduceCtorEq,or_false,false_or,not_and,List.length_cons];intro h1 h2;apply h0;refine ⟨h1,fun h3=>?_⟩;subst h3
       simp at h2)]
      rw [Lib.parseIntB_plain 64 c r (by omega) (by omega),Zph (by simp) hd];generalize val ((c::r).reverse.map Z3u)=m
      by_cases hm:m≤9223372036854775807
      ·left
       refine ⟨(m:Int),?_,Zi1 (by omega)⟩;rw [if_pos (by omega)];simp only [Lib.signlessC];rw [if_neg (by omega)]
      ·right
       refine ⟨?_,Zcx (by omega)⟩
       by_cases hm2:m≤18446744073709551615
       ·rw [if_pos hm2]
        simp only [Lib.signlessC];rw [if_pos (by omega)]
       ·rw [if_neg hm2]
        rfl
   ·left
    have hd':(c::r).all Zya=false:=by simpa using hd
    rw [hd'];exact ⟨rfl,by rw [if_pos (.inr (.inr rfl))]⟩
end Go.Hs
end

section
namespace Go.Hs
theorem Z1g (n:Int):IntKind.i64.wrap n=(n+9223372036854775808) % 18446744073709551616-9223372036854775808:=by
 unfold IntKind.wrap;simp [IntKind.signed,IntKind.bits];omega
theorem Zxd (n:Int):IntKind.u64.wrap n=n % 18446744073709551616:=by
 unfold IntKind.wrap;simp [IntKind.signed,IntKind.bits]
theorem Zxj (n:Int):InK .i64 (IntKind.i64.wrap n):=by
 rw [Z1g]
 show -9223372036854775808≤_∧_≤9223372036854775807
 omega
theorem Z3e (n:Int):InK .i64 n ↔ -9223372036854775808≤n∧n≤9223372036854775807:=Iff.rfl
theorem Z4n (v:BitVec 64):IntKind.i64.wrap v.toNat=v.toInt:=by
 rw [Z1g,BitVec.toInt_eq_toNat_cond];have:=v.isLt
 split<;>omega
theorem Z4i {a:Int} (h:InK .i64 a):(BitVec.ofInt 64 a).msb=decide (a<0):=by
 rw [Z3e] at h;rw [BitVec.msb_eq_toInt,BitVec.toInt_ofInt]
 have:a.bmod (2 ^ 64)=a:=by
  rw [Int.bmod_def]
  have:(2:Nat) ^ 64=18446744073709551616:=by decide
  rw [this];omega
 rw [this]
theorem Z2o {a b:Int} (ha:InK .i64 a) (hb:InK .i64 b):IntKind.i64.wrap ((BitVec.ofInt 64 a ^^^ BitVec.ofInt 64 b).toNat)<0 ↔ ¬ ((a<0) ↔ (b<0)):=by
 have h:=BitVec.msb_eq_toInt (x:=BitVec.ofInt 64 a ^^^ BitVec.ofInt 64 b);rw [BitVec.msb_xor,Z4i ha,Z4i hb] at h;rw [Z4n];generalize (BitVec.ofInt 64 a ^^^ BitVec.ofInt 64 b).toInt=z at *
 by_cases h1:a<0<;>by_cases h2:b<0<;>simp [h1,h2] at h ⊢ <;> omega
theorem Zb4 {a b:Int} (ha:InK .i64 a) (hb:InK .i64 b):IntKind.i64.wrap ((BitVec.ofInt 64 a &&& BitVec.ofInt 64 b).toNat)<0 ↔ a<0∧b<0:=by
 have h:=BitVec.msb_eq_toInt (x:=BitVec.ofInt 64 a &&& BitVec.ofInt 64 b);rw [BitVec.msb_and,Z4i ha,Z4i hb] at h;rw [Z4n];generalize (BitVec.ofInt 64 a &&& BitVec.ofInt 64 b).toInt=z at *
 by_cases h1:a<0<;>by_cases h2:b<0<;>simp [h1,h2] at h ⊢ <;> omega
theorem Zi7 {a b s:Int} (ha:InK .i64 a) (hb:InK .i64 b) (hs:s=IntKind.i64.wrap (a+b)) :
  andZ .i64 (xorZ .i64 a s) (xorZ .i64 b s)<0 ↔ Zsb (a+b)=false:=by
 show IntKind.i64.wrap ((BitVec.ofInt 64 (IntKind.i64.wrap ((BitVec.ofInt 64 a ^^^ BitVec.ofInt 64 s).toNat)) &&& BitVec.ofInt 64 (IntKind.i64.wrap ((BitVec.ofInt 64 b ^^^ BitVec.ofInt 64 s).toNat))).toNat)<0 ↔ _
 have hsi:InK .i64 s:=by rw [hs];exact Zxj _
 rw [Zb4 (Zxj _) (Zxj _),Z2o ha hsi,Z2o hb hsi];rw [Z1g] at hs;rw [Z3e] at ha hb;unfold Zsb;rw [decide_eq_false_iff_not];omega
theorem Zi5 {a b s:Int} (ha:InK .i64 a) (hb:InK .i64 b) (hs:s=IntKind.i64.wrap (a-b)) :
  andZ .i64 (xorZ .i64 a b) (xorZ .i64 a s)<0 ↔ Zsb (a-b)=false:=by
 show IntKind.i64.wrap ((BitVec.ofInt 64 (IntKind.i64.wrap ((BitVec.ofInt 64 a ^^^ BitVec.ofInt 64 b).toNat)) &&& BitVec.ofInt 64 (IntKind.i64.wrap ((BitVec.ofInt 64 a ^^^ BitVec.ofInt 64 s).toNat))).toNat)<0 ↔ _
 have hsi:InK .i64 s:=by rw [hs];exact Zxj _
 rw [Zb4 (Zxj _) (Zxj _),Z2o ha hsi,Z2o ha hb];rw [Z1g] at hs;rw [Z3e] at ha hb;unfold Zsb;rw [decide_eq_false_iff_not];omega
theorem Zd5 (a b:Int):a.tdiv b=if (decide (a<0) != decide (b<0))=true then -((a.natAbs / b.natAbs:Nat):Int) else ((a.natAbs / b.natAbs:Nat):Int):=by
 cases a with
 | ofNat m=>cases b with
  | ofNat n=>simp [Int.tdiv];omega
  | negSucc n=>simp [Int.tdiv,Int.negSucc_lt_zero]
 | negSucc m=>cases b with
  | ofNat n=>simp [Int.tdiv,Int.negSucc_lt_zero]
  | negSucc n=>simp [Int.tdiv,Int.negSucc_lt_zero]
theorem Zc5 (a b:Int):a.tmod b=if decide (a<0)=true then -((a.natAbs % b.natAbs:Nat):Int) else ((a.natAbs % b.natAbs:Nat):Int):=by
 cases a with
 | ofNat m=>cases b with
  | ofNat n=>simp [Int.tmod];omega
  | negSucc n=>simp [Int.tmod];omega
 | negSucc m=>cases b with
  | ofNat n=>simp [Int.tmod,Int.negSucc_lt_zero]
  | negSucc n=>simp [Int.tmod,Int.negSucc_lt_zero]
theorem Zgl (x:Int):Zsb x=true ↔ InK .i64 x:=by unfold Zsb;rw [decide_eq_true_iff];rfl
theorem Z5k {x:Int} (h:Zsb x=true):told x=(x,0):=by rw [told,if_pos h]
theorem Zrl {x:Int} (h:Zsb x=false):told x=(0,60):=by rw [told,h];simp
end Go.Hs
end

section
namespace Go.Hs
open Go.Proofs
set_option maxRecDepth 10000
@[go_sem] theorem Ze5 (s:List UInt8) (k:Nat):(s.drop k).take (s.length-k)=s.drop k:=List.take_of_length_le (by simp)
theorem getE_of {l:List UInt8} {k:Nat} (h:k<l.length):l[k]? = some l[k]:=List.getElem?_eq_getElem h
theorem Z1h (G:Nat→V) (hG:GOk G) (c:UInt8):Spec Tryz.prog G 108 [.int .u8 c.toNat] Zk (fun v _=>v = .bool (Zya c)):=by
 refine Zo 0 9 [.tmp 2] Tryz.func108 fun X=>?_;refine Z1 ?_
 by_cases h:48≤c.toNat
 ·have h1:decide ((c.toNat:Int)≥48)=true:=zT
  refine Zf h1 ?_;unfold Zya;simp [h];omega
 ·have h1:decide ((c.toNat:Int)≥48)=false:=zF
  refine Zf h1 ?_;unfold Zya;simp [h]
theorem u8q (c:UInt8) (n:Nat) (hn:n<256):((c.toNat:Int)==(n:Int))=(c==UInt8.ofNat n):=by
 by_cases h:c.toNat=n
 ·have h1:c=UInt8.ofNat n:=by
   apply UInt8.toNat_inj.1;rw [h,UInt8.toNat_ofNat'];omega
  rw [h1];simp;omega
 ·have h1:¬ c=UInt8.ofNat n:=by
   intro e;apply h;rw [e,UInt8.toNat_ofNat'];omega
  have h2:¬ (c.toNat:Int)=(n:Int):=by omega
  rw [show (c==UInt8.ofNat n)=false by simpa using h1,show ((c.toNat:Int)==(n:Int))=false from beq_eq_false_iff_ne.2 h2]
theorem u8q10 (c:UInt8):((c.toNat:Int)==10)=(c==10):=u8q c 10 (by decide)
theorem Z64 (c:UInt8):((c.toNat:Int)==32)=(c==32):=u8q c 32 (by decide)
theorem Z74 (c:UInt8):((c.toNat:Int)==13)=(c==13):=u8q c 13 (by decide)
theorem u8q95 (c:UInt8):((c.toNat:Int)==95)=(c==95):=u8q c 95 (by decide)
theorem Z3z (G:Nat→V) (hG:GOk G) (c:UInt8):Spec Tryz.prog G 107 [.int .u8 c.toNat] Zk (fun v _=>v = .bool (Zuv c)):=by
 refine Zo 0 5 [.tmp 2] Tryz.func107 fun X=>?_;refine Z ?_;unfold Zuv;rw [bne,u8q10]
theorem Zo6 (G:Nat→V) (hG:GOk G) (c:UInt8):Spec Tryz.prog G 105 [.int .u8 c.toNat] Zk (fun v _=>v = .bool (Zcj c)):=by
 refine Zo 0 17 [.tmp 2] Tryz.func105 fun X=>?_
 have key:Zcj c=(c==32 || (decide ((c.toNat:Int)≥9) && decide ((c.toNat:Int)≤10)) || c==13):=by
  unfold Zcj
  congr 3
  ·rw [decide_eq_decide];omega
  ·rw [decide_eq_decide];omega
 rw [key];refine Z1 ?_
 cases h1:(c==32) with
 | true =>
  exact Zq (zi @Z64 (zi @Z74 h1))
 | false =>
  cases h2:decide ((c.toNat:Int)≥9) with
  | false =>
   exact Zq (zi @Z64 (zi @Z74 (zi h1 h2)))
  | true =>
   cases h3:decide ((c.toNat:Int)≤10) with
   | false =>
    exact Zq (zi @Z64 (zi @Z74 (zi h1 (zi h2 h3))))
   | true =>
    exact Zq (zi @Z64 (zi @Z74 (zi h1 (zi h2 h3))))
theorem Zlg (G:Nat→V) (hG:GOk G) (c:UInt8):Spec Tryz.prog G 109 [.int .u8 c.toNat] Zk (fun v _=>v = .bool (isLt c)):=by
 refine Zo 0 15 [.tmp 2] Tryz.func109 fun X=>?_;refine Z1 ?_
 cases h1:(c==95) with
 | true =>
  refine Zf (zi @u8q95 h1) ?_;unfold isLt
  rw [h1]<;>rfl
 | false =>
  have ho:orZ .u8 (c.toNat:Int) 32=((c.toNat ||| 32:Nat):Int):=by
   have:=Zp7 (fun c=>orZ .u8 (c.toNat:Int) 32==((c.toNat ||| 32:Nat):Int)) (by decide +kernel) c;simpa using this
  have hL:isLt c=(decide (((c.toNat ||| 32:Nat):Int)≥97) && decide (((c.toNat ||| 32:Nat):Int)≤122)):=by
   unfold isLt;rw [h1,Bool.false_or]
   congr 1
   ·rw [decide_eq_decide];omega
   ·rw [decide_eq_decide];omega
  rw [hL];generalize ((c.toNat ||| 32:Nat):Int)=x at ho ⊢
  cases h2:decide (x≥97) with
  | false =>
   exact Zq (zi @u8q95 (zi h1 (zi ho h2)))
  | true =>
   exact Zq (zi @u8q95 (zi h1 (zi ho h2)))
theorem Zp6 (G:Nat→V) (hG:GOk G) (c:UInt8):Spec Tryz.prog G 110 [.int .u8 c.toNat] Zk (fun v _=>v = .bool (Zgf c)):=by
 refine Zo 0 9 [.tmp 2] Tryz.func110 fun X=>?_;refine Z1 ?_;unfold Zgf
 cases h1:isLt c with
 | true =>
  refine Z1 ?_;refine Zn hG ?_ (s:=(Zlg G hG c));refine Zsf h1 ?_;exact Zr
 | false =>
  refine Z1 ?_;refine Zn hG ?_ (s:=(Zlg G hG c));refine Zsf h1 ?_;refine Zn hG ?_ (s:=(Z1h G hG c));refine Zsf h1 ?_;exact Zr
structure FnB (G:Nat→V) (f:FuncId) (p:UInt8→Bool):Prop where
 en:Z2 Tryz.prog f=true
 sp:∀ c:UInt8,Spec Tryz.prog G f [.int .u8 c.toNat] Zk (fun v _=>v = .bool (p c))
theorem fDigit {G:Nat→V} (hG:GOk G):FnB G 108 Zya:=⟨by kernel_rfl,Z1h G hG⟩
theorem fNoNl {G:Nat→V} (hG:GOk G):FnB G 107 Zuv:=⟨by kernel_rfl,Z3z G hG⟩
theorem fBl {G:Nat→V} (hG:GOk G):FnB G 105 Zcj:=⟨by kernel_rfl,Zo6 G hG⟩
theorem fAl {G:Nat→V} (hG:GOk G):FnB G 110 Zgf:=⟨by kernel_rfl,Zp6 G hG⟩
theorem Z7i (G:Nat→V) (hG:GOk G) (s:List UInt8) (hs:s.length<1000000) {f:FuncId} {p:UInt8→Bool} (hf:FnB G f p) :
  Spec Tryz.prog G 104 [.str s,.func (.func f) [] []] Zk (fun v _=>v = .int .i64 (Zad p s)):=by
 refine Zo 0 20 [.tmp 4] Tryz.func104 fun X=>?_;refine Z1 ?_;refine Z1 ?_;refine Z6 ?_;refine AW.block ?_
 refine Zpb s.length (fun k (_:Unit)=>st [(0,.str s),(1,.func (.func f) [] []),(5,.int .i64 k)] []) (fun k _=>Zad p s=k+Zad p (s.drop k)) 0 () (Nat.zero_le _) (by simp)
  (Zg zp zp) ?_
 intro k _ hk hR L2 hL2;refine Z6 ?_
 by_cases hk1:k<s.length
 ·have h1:decide ((k:Int)<s.length)=true:=zT
  have hg:=getE_of hk1;have hd:s.drop k=s[k]::s.drop (k+1):=List.drop_eq_getElem_cons hk1;generalize s[k]=c at hg hd;rw [hd] at hR;refine Z1f (zi h1 hg) ?_;refine CallA.pure hG hf.en ?_;refine Zs ?_;refine (hf.sp c).mono ?_;rintro _ _ rfl;refine Zsf h1 ?_;rw [Zxl] at hR;refine Zh rfl (fun h4=>?_) (fun h4=>?_)
  ·rw [if_pos h4] at hR
   refine Z1 ?_;refine hL2 _ ⟨hk1,(),by omega,Zg zw zp⟩
  ·rw [if_neg (by simp [h4])] at hR
   refine Z ?_;have hR:Zad p s=k+0:=hR
   rw [hR]<;>rfl
 ·have h1:decide ((k:Int)<s.length)=false:=zF
  have hk2:k=s.length:=by omega
  refine Z1f h1 ?_;refine Zbd rfl ?_
  ·refine Z ?_
   rw [hR,hk2,List.drop_length]<;>rfl
end Go.Hs
end

section
namespace Go.Hs
open Go.Proofs
set_option maxRecDepth 10000
def Zat (r:Int × Int):V := .tuple [.int .i64 r.1,.int .i64 r.2]
theorem Zdf (G:Nat→V) (hG:GOk G) (a:Int) (ha:InK .i64 a):Spec Tryz.prog G 176 [.int .i64 a] Zk (fun v _=>v = .int .u64 a.natAbs):=by
 obtain ⟨h1,h2⟩:=ha;have h1 : -9223372036854775808≤a:=h1;have h2:a≤9223372036854775807:=h2;refine Zo 0 10 [.tmp 2] Tryz.func176 fun X=>?_;refine Z1 ?_;refine Z1 ?_;refine Zh rfl (fun h2=>?_) (fun h2=>?_)
 ·have h3:a<0:=by simpa using h2
  refine Z ?_;refine congrArg _ ?_;rw [Zxd,Zxd];omega
 ·have h3:¬ a<0:=by simpa using h2
  refine Z ?_;refine congrArg _ ?_;rw [Zxd];omega
theorem Zwh (G:Nat→V) (hG:GOk G) (n:Nat) (below:Bool) (hn:n<18446744073709551616):Spec Tryz.prog G 177 [.int .u64 n,.bool below] Zk (fun v _=>v=Zat (told (if below then -(n:Int) else n))):=by
 refine Zo 0 24 [.tmp 4,.tmp 5] Tryz.func177 fun X=>?_;refine Z1 ?_;refine Z6 ?_;refine AW.block ?_
 cases below with
 | true =>
  refine Z1 ?_;refine Zh rfl (fun h2=>?_) (fun h2=>?_)
  ·have h3:n≤9223372036854775808:=by simp at h2;omega
   refine Z ?_
   have hf:Zsb (-(n:Int))=true:=by unfold Zsb;rw [decide_eq_true_iff];omega
   rw [Z5k hf];refine congrArg V.tuple ?_;simp only [List.cons.injEq,V.int.injEq,true_and,and_true];rw [Zxd,Z1g];omega
  ·have h3:¬ n≤9223372036854775808:=by simp at h2;omega
   refine Z1 ?_;refine Zh rfl (fun h4=>?_) (fun h4=>?_)
   ·simp at h4
   ·refine Z ?_
    have hf:Zsb (-(n:Int))=false:=by unfold Zsb;rw [decide_eq_false_iff_not];omega
    rw [Zrl hf]
    try rfl
 | false =>
  refine Z1 ?_;refine Zh rfl (fun h2=>?_) (fun h2=>?_)
  ·simp at h2
  ·refine Z1 ?_
   refine Zh rfl (fun h4=>?_) (fun h4=>?_)
   ·have h3:n≤9223372036854775807:=by simp at h4;omega
    refine Z ?_
    have hf:Zsb (n:Int)=true:=by unfold Zsb;rw [decide_eq_true_iff];omega
    rw [Z5k hf];refine congrArg V.tuple ?_;simp only [List.cons.injEq,V.int.injEq,true_and,and_true];rw [Z1g];omega
   ·have h3:¬ n≤9223372036854775807:=by simp at h4;omega
    refine Z ?_
    have hf:Zsb (n:Int)=false:=by unfold Zsb;rw [decide_eq_false_iff_not];omega
    rw [Zrl hf]
    try rfl
theorem Zu2 (G:Nat→V) (hG:GOk G) (a b:Int) (ha:InK .i64 a) (hb:InK .i64 b):Spec Tryz.prog G 157 [.int .i64 a,.int .i64 b] Zk (fun v _=>v=Zat (told (a+b))):=by
 refine Zo 0 19 [.tmp 4,.tmp 5] Tryz.func157 fun X=>?_;refine Z1 ?_;refine Z1 ?_;refine Z1 ?_;have key:=Zi7 ha hb rfl;refine Zh rfl (fun h2=>?_) (fun h2=>?_)
 ·have h3:=key.1 (of_decide_eq_true h2)
  refine Z ?_;rw [Zrl h3]
  try rfl
 ·have h3:Zsb (a+b)=true:=by
   have:=mt key.2 (of_decide_eq_false h2);simpa using this
  refine Z ?_;rw [Z5k h3,w64 ((Zgl _).1 h3).1 ((Zgl _).1 h3).2]
  try rfl
theorem Zts (G:Nat→V) (hG:GOk G) (a b:Int) (ha:InK .i64 a) (hb:InK .i64 b):Spec Tryz.prog G 158 [.int .i64 a,.int .i64 b] Zk (fun v _=>v=Zat (told (a-b))):=by
 refine Zo 0 19 [.tmp 4,.tmp 5] Tryz.func158 fun X=>?_;refine Z1 ?_;refine Z1 ?_;refine Z1 ?_;have key:=Zi5 ha hb rfl;refine Zh rfl (fun h2=>?_) (fun h2=>?_)
 ·have h3:=key.1 (of_decide_eq_true h2)
  refine Z ?_;rw [Zrl h3]
  try rfl
 ·have h3:Zsb (a-b)=true:=by
   have:=mt key.2 (of_decide_eq_false h2);simpa using this
  refine Z ?_;rw [Z5k h3,w64 ((Zgl _).1 h3).1 ((Zgl _).1 h3).2]
  try rfl
theorem Zq2 (G:Nat→V) (hG:GOk G) (a:Int) (ha:InK .i64 a):Spec Tryz.prog G 133 [.int .i64 a] Zk (fun v _=>v=Zat (told (-a))):=by
 refine Zo 0 8 [.tmp 2,.tmp 3] Tryz.func133 fun X=>?_;refine Z1 ?_;refine Z1 ?_;refine Zn hG ?_ (s:=(Zts G hG 0 a ((Z3e 0).2 (by decide)) ha));rw [Int.zero_sub];simp -implicitDefEqProofs only[go_sem,seval,↓reduceIte,Zat];exact Zr
theorem Zcq {n:Nat} (h:n<18446744073709551616):andZ .u64 n 4294967295=((n % 4294967296:Nat):Int):=by
 show IntKind.u64.wrap ((BitVec.ofInt 64 (n:Int) &&& BitVec.ofInt 64 4294967295).toNat)=_
 have e:(BitVec.ofInt 64 (n:Int) &&& BitVec.ofInt 64 4294967295).toNat=n % 4294967296:=by
  rw [BitVec.toNat_and]
  have e1:(BitVec.ofInt 64 (n:Int)).toNat=n:=by
   rw [BitVec.toNat_ofInt];omega
  have e2:(BitVec.ofInt 64 4294967295).toNat=2 ^ 32-1:=by decide
  rw [e1,e2,Nat.and_two_pow_sub_one_eq_mod]
 rw [e,Zxd];omega
theorem Zu1 (n:Nat):shrZ .u64 n 32=((n / 4294967296:Nat):Int):=by
 show (n:Int).fdiv (2 ^ min (32:Int).toNat 64)=_
 have:(2:Int) ^ min (32:Int).toNat 64=4294967296:=by decide
 rw [this,Int.fdiv_eq_ediv_of_nonneg _ (by decide)];omega
theorem wmul {a b:Nat} (h:a * b<18446744073709551616):IntKind.u64.wrap ((a:Int) * b)=((a * b:Nat):Int):=by
 rw [Zxd,← Int.natCast_mul];omega
theorem wadd {a b:Nat} (h:a+b<18446744073709551616):IntKind.u64.wrap ((a:Int)+b)=((a+b:Nat):Int):=by
 rw [Zxd];omega
theorem Zwz (G:Nat→V) (hG:GOk G) (x y:Nat) (hx:x<18446744073709551616) (hy:y<18446744073709551616) :
  Spec Tryz.prog G 175 [.int .u64 x,.int .u64 y] Zk (fun v _=>v = .tuple [.int .u64 (x * y / 18446744073709551616:Nat),.int .u64 (x * y % 18446744073709551616:Nat)]):=by
 obtain ⟨h1,h2,h3,h4⟩:=Lib.mul64_hi x y hx hy;have hq:x * y / 18446744073709551616<18446744073709551616:=Nat.div_lt_of_lt_mul (Nat.mul_lt_mul'' hx hy);refine Zo 0 51 [.tmp 4,.tmp 5] Tryz.func175 fun X=>?_;refine Z1 ?_;refine Z1 ?_;rw [Zcq hx];refine Z1 ?_;rw [Zu1];refine Z1 ?_;rw [Zcq hy];refine Z1 ?_;rw [Zu1];have ha:=Lib.half_mul_le (a:=x / 4294967296) (b:=y / 4294967296) (by omega) (by omega);have hb:=Lib.half_mul_le (a:=x / 4294967296) (b:=y % 4294967296) (by omega) (by omega);have hc:=Lib.half_mul_le (a:=x % 4294967296) (b:=y / 4294967296) (by omega) (by omega);have hd:=Lib.half_mul_le (a:=x % 4294967296) (b:=y % 4294967296) (by omega) (by omega);refine Z1 ?_;rw [wmul h1];refine Z1 ?_;rw [Zu1,wmul (by omega),wadd h2];generalize (x / 4294967296) * (y % 4294967296)+(x % 4294967296) * (y % 4294967296) / 4294967296=t at *;refine Z1 ?_;rw [Zcq h2];refine Z1 ?_;rw [Zu1];refine Z1 ?_;rw [wmul (by omega),wadd h3];generalize t % 4294967296+x % 4294967296 * (y / 4294967296)=w1 at *;refine Z1 ?_;rw [wmul (by omega),wadd (by omega),Zu1,wadd (by omega),h4];refine Z ?_;refine congrArg V.tuple ?_;simp only [List.cons.injEq,V.int.injEq,true_and,and_true];rw [Zxd,← Int.natCast_mul];omega
theorem Zr2 (G:Nat→V) (hG:GOk G) (a b:Int) (ha:InK .i64 a) (hb:InK .i64 b):Spec Tryz.prog G 154 [.int .i64 a,.int .i64 b] Zk (fun v _=>v=Zat (told (a * b))):=by
 have ha':=(Z3e a).1 ha;have hb':=(Z3e b).1 hb;refine Zo 0 27 [.tmp 4,.tmp 5] Tryz.func154 fun X=>?_;refine Z1 ?_;refine Z1 ?_;refine Zc hG ?_ (s:=(Zdf G hG a ha));refine Zc hG ?_ (s:=(Zdf G hG b hb));refine Zc hG ?_ (s:=(Zwz G hG a.natAbs b.natAbs (by omega) (by omega)));refine Z1 ?_;have hab:(a * b).natAbs=a.natAbs * b.natAbs:=Int.natAbs_mul a b;refine Zh rfl (fun h2=>?_) (fun h2=>?_)
 ·have h3:a.natAbs * b.natAbs≥18446744073709551616:=by
   have:¬ (a.natAbs * b.natAbs) / 18446744073709551616=0:=by
    intro e;rw [e] at h2;simp at h2
   omega
  refine Z ?_
  have hf:Zsb (a * b)=false:=by unfold Zsb;rw [decide_eq_false_iff_not];omega
  rw [Zrl hf]
  try rfl
 ·have h3:a.natAbs * b.natAbs<18446744073709551616:=by
   have:(a.natAbs * b.natAbs) / 18446744073709551616=0:=by
    generalize a.natAbs * b.natAbs / 18446744073709551616=q at h2
    have:(q:Int)=0:=by simpa using h2
    omega
   omega
  refine Z1 ?_;refine Zn hG ?_ (s:=(Zwh G hG _ _ (Nat.mod_lt _ (by omega))));rw [Nat.mod_eq_of_lt h3]
  have key:(if (decide (a<0) != decide (b<0))=true then -((a.natAbs * b.natAbs:Nat):Int) else ((a.natAbs * b.natAbs:Nat):Int))=a * b:=by
   rw [← hab]
   by_cases h4:a<0<;>by_cases h5:b<0<;>simp only [h4,h5,decide_true,decide_false,bne_self_eq_false,Zaw,Zbw,if_true,Bool.false_eq_true,if_false]
   ·have:=Int.mul_pos_of_neg_of_neg h4 h5;omega
   ·have:=Int.mul_nonpos_of_nonpos_of_nonneg (Int.le_of_lt h4) (Int.not_lt.1 h5);omega
   ·have:=Int.mul_nonpos_of_nonneg_of_nonpos (Int.not_lt.1 h4) (Int.le_of_lt h5);omega
   ·have:=Int.mul_nonneg (Int.not_lt.1 h4) (Int.not_lt.1 h5);omega
  rw [key];simp -implicitDefEqProofs only[go_sem,seval,↓reduceIte,Zat];exact Zr
theorem Zt2 (G:Nat→V) (hG:GOk G) (a b:Int) (ha:InK .i64 a) (hb:InK .i64 b):Spec Tryz.prog G 155 [.int .i64 a,.int .i64 b] Zk (fun v _=>v=Zat (divR a b)):=by
 have ha':=(Z3e a).1 ha;have hb':=(Z3e b).1 hb;refine Zo 0 21 [.tmp 4,.tmp 5] Tryz.func155 fun X=>?_;refine Z1 ?_;refine Z1 ?_;refine Zh rfl (fun h2=>?_) (fun h2=>?_)
 ·have h3:b=0:=by simpa using h2
  refine Z ?_;rw [divR,if_pos h3]
  try rfl
 ·have h3:¬ b=0:=by simpa using h2
  refine Z1 ?_;refine Zc hG ?_ (s:=(Zdf G hG a ha));refine Zn hG ?_ (s:=(Zdf G hG b hb))
  have hz:¬ ((b.natAbs:Nat):Int)=0:=by omega
  have hqd:(a.natAbs:Int).tdiv (b.natAbs:Int)=((a.natAbs / b.natAbs:Nat):Int):=by rw [Int.tdiv_eq_ediv_of_nonneg (by omega)]<;>rfl
  have hql:a.natAbs / b.natAbs≤a.natAbs:=Nat.div_le_self _ _
  have hqw:IntKind.u64.wrap ((a.natAbs / b.natAbs:Nat):Int)=((a.natAbs / b.natAbs:Nat):Int):=by
   generalize a.natAbs / b.natAbs=q at hql;rw [Zxd];omega
  refine Zsf (zi hz (zi hqd hqw)) ?_;refine Zn hG ?_ (s:=(Zwh G hG _ _ (by omega)))
  have key:(if (decide (a<0) != decide (b<0))=true then -((a.natAbs / b.natAbs:Nat):Int) else ((a.natAbs / b.natAbs:Nat):Int))=a.tdiv b:=by
   rw [Zd5]
  rw [key];simp -implicitDefEqProofs only[go_sem,seval,↓reduceIte,Zat];refine Z ?_;rw [divR,if_neg h3]
  try rfl
theorem Zs2 (G:Nat→V) (hG:GOk G) (a b:Int) (ha:InK .i64 a) (hb:InK .i64 b):Spec Tryz.prog G 156 [.int .i64 a,.int .i64 b] Zk (fun v _=>v=Zat (modR a b)):=by
 have ha':=(Z3e a).1 ha;have hb':=(Z3e b).1 hb;refine Zo 0 18 [.tmp 4,.tmp 5] Tryz.func156 fun X=>?_;refine Z1 ?_;refine Z1 ?_;refine Zh rfl (fun h2=>?_) (fun h2=>?_)
 ·have h3:b=0:=by simpa using h2
  refine Z ?_;rw [modR,if_pos h3]
  try rfl
 ·have h3:¬ b=0:=by simpa using h2
  refine Z1 ?_;refine Zc hG ?_ (s:=(Zdf G hG a ha));refine Zn hG ?_ (s:=(Zdf G hG b hb))
  have hz:¬ ((b.natAbs:Nat):Int)=0:=by omega
  have hqd:(a.natAbs:Int).tmod (b.natAbs:Int)=((a.natAbs % b.natAbs:Nat):Int):=by rw [Int.tmod_eq_emod_of_nonneg (by omega)]<;>rfl
  have hql:a.natAbs % b.natAbs≤a.natAbs:=Nat.mod_le _ _;refine Zsf (zi hz hqd) ?_;refine Zn hG ?_ (s:=(Zwh G hG _ _ (by omega)))
  have key:(if decide (a<0)=true then -((a.natAbs % b.natAbs:Nat):Int) else ((a.natAbs % b.natAbs:Nat):Int))=a.tmod b:=by
   rw [Zc5]
  rw [key];simp -implicitDefEqProofs only[go_sem,seval,↓reduceIte,Zat];refine Z ?_;rw [modR,if_neg h3]
  try rfl
end Go.Hs
end

section
namespace Go.Hs
open Go.Proofs
set_option maxRecDepth 10000
def ints (l:List Nat):List Int:=l.map (fun (d:Nat)=>(d:Int))
@[simp] theorem ints_len (l:List Nat):(ints l).length=l.length:=by simp [ints]
end Go.Hs
end

section
namespace Go.Hs
open Go.Proofs
set_option maxRecDepth 10000
theorem Z4g (l:List Nat) (k:Nat):val (l.drop k)=l.getD k 0+10 * val (l.drop (k+1)):=by
 by_cases h:k<l.length
 ·rw [List.drop_eq_getElem_cons h,val,List.getD_eq_getElem?_getD,List.getElem?_eq_getElem h]
  try rfl
 ·rw [List.drop_eq_nil_of_le (by omega),List.drop_eq_nil_of_le (by omega),List.getD_eq_getElem?_getD,List.getElem?_eq_none (by omega)]
  try rfl
theorem Z4v {l:List Nat} (h:Dig l) (k:Nat):l.getD k 0<10:=by
 rw [List.getD_eq_getElem?_getD]
 by_cases hk:k<l.length
 ·rw [List.getElem?_eq_getElem hk]
  exact h _ (List.getElem_mem hk)
 ·rw [List.getElem?_eq_none (by omega)]
  decide
theorem Zh7 {K n A B o V:Nat} (h:o+K * (n+10 * A+10 * B)=V):(o+K * (n % 10))+(K * 10) * (n / 10+A+B)=V:=by
 rw [← h,Nat.mul_assoc,Nat.add_assoc,← Nat.mul_add]
 congr 2
 omega
structure AddI (la lb:List Nat) (M k:Nat) (out:List Nat) (cr:Nat):Prop where
 len:out.length=k
 dig:Dig out
 hcr:cr≤1
 v:val out+10 ^ k * (cr+val (la.drop k)+val (lb.drop k))=val la+val lb
 last:k=M+1→cr=0
 emp:M=0→k=0∧cr=0
theorem AddI.zero (la lb:List Nat) (M:Nat):AddI la lb M 0 [] 0:={ len:=rfl,dig:=fun d hd=>by simp at hd,hcr:=by omega,v:=by simp [val],last:=fun _=>rfl,emp:=fun _=>⟨rfl,rfl⟩ }
theorem AddI.step {la lb:List Nat} {M k:Nat} {out:List Nat} {cr:Nat} (h:AddI la lb M k out cr) (hM:M=max la.length lb.length) (da:Dig la) (db:Dig lb) (hgo:k<M∨cr > 0) {n:Nat} (hn:n=la.getD k 0+lb.getD k 0+cr) (hk:k≤M) :
  AddI la lb M (k+1) (out++[n % 10]) (n / 10):=by
 have h1:=Z4v da k;have h2:=Z4v db k;have h3:=h.hcr;refine ⟨by simp [h.len],Dig.app.2 ⟨h.dig,Dig.one (by omega)⟩,by omega,?_,fun e=>?_,fun e=>?_⟩
 ·have hv:=h.v
  rw [Z4g la k,Z4g lb k] at hv;rw [Z8o,h.len,Nat.pow_succ]
  have e:val out+10 ^ k * (n+10 * val (la.drop (k+1))+10 * val (lb.drop (k+1)))=val la+val lb:=by
   rw [← hv,hn]
   congr 2
   omega
  simpa [val] using Zh7 e
 ·have e1:la.getD k 0=0:=by rw [List.getD_eq_getElem?_getD,List.getElem?_eq_none (by omega)]<;>rfl
  have e2:lb.getD k 0=0:=by rw [List.getD_eq_getElem?_getD,List.getElem?_eq_none (by omega)]<;>rfl
  omega
 ·have:=h.emp e
  omega
theorem AddI.done {la lb:List Nat} {M k:Nat} {out:List Nat} {cr:Nat} (h:AddI la lb M k out cr) (hM:M=max la.length lb.length) (hno:¬ (k<M∨cr > 0)):val out=val la+val lb∧decide (la=[]∧lb=[])=decide (out=[]):=by
 have hc0:cr=0:=by omega
 have hv:=h.v;rw [List.drop_eq_nil_of_le (show la.length≤k by omega),List.drop_eq_nil_of_le (show lb.length≤k by omega),hc0] at hv;refine ⟨by simpa [val] using hv,?_⟩;rw [decide_eq_decide,← List.length_eq_zero_iff,← List.length_eq_zero_iff,← List.length_eq_zero_iff,h.len];have:=h.emp;omega
end Go.Hs
end

section
namespace Go.Hs
open Go.Proofs
set_option maxRecDepth 10000
structure TakeI (la lb:List Nat) (k:Nat) (out:List Nat) (br:Nat):Prop where
 len:out.length=k
 dig:Dig out
 hbr:br≤1
 v:(val out:Int)+(10:Int) ^ k * ((val (la.drop k):Int)-br-val (lb.drop k))=val la-val lb
theorem TakeI.zero (la lb:List Nat):TakeI la lb 0 [] 0:={ len:=rfl,dig:=fun d hd=>by simp at hd,hbr:=by omega,v:=by simp [val] }
theorem Zl1 {K x A B o V b:Int} {d br':Int} (h:o+K * (x+10 * A-b-(d+10 * B))=V) {n:Int} (hn:n=x-d-b+10 * br'):(o+K * n)+(K * 10) * (A-br'-B)=V:=by
 rw [← h,hn,Int.mul_assoc,Int.add_assoc,← Int.mul_add]
 congr 2
 omega
theorem TakeI.step {la lb:List Nat} {k:Nat} {out:List Nat} {br:Nat} (h:TakeI la lb k out br) {n br':Nat} (hn:(n:Int)=(la.getD k 0:Nat)-(lb.getD k 0:Nat)-br+10 * br') (hn10:n<10) (hb:br'≤1) :
  TakeI la lb (k+1) (out++[n]) br':=by
 refine ⟨by simp [h.len],Dig.app.2 ⟨h.dig,Dig.one hn10⟩,hb,?_⟩;have hv:=h.v;rw [Z4g la k,Z4g lb k] at hv;rw [Z8o,h.len,Int.pow_succ]
 have e:(val out:Int)+(10:Int) ^ k * (((la.getD k 0:Nat):Int)+10 * (val (la.drop (k+1)):Int)-(br:Int)-(((lb.getD k 0:Nat):Int)+10 * (val (lb.drop (k+1)):Int)))=val la-val lb:=by
  rw [← hv]
  congr 2
 have:=Zl1 e hn;simpa [val] using this
theorem TakeI.done {la lb:List Nat} {out:List Nat} {br:Nat} (h:TakeI la lb la.length out br) (hl:lb.length≤la.length) (hv:val lb≤val la):val out=val la-val lb:=by
 have h1:=h.v;rw [List.drop_eq_nil_of_le (Nat.le_refl _),List.drop_eq_nil_of_le hl] at h1;have h2:=Zo7 h.dig;rw [h.len] at h2;have h3:=h.hbr
 have h4:((10 ^ la.length:Nat):Int)=(10:Int) ^ la.length:=by simp
 have hb:br=0∨br=1:=by omega
 rcases hb with rfl | rfl
 ·simp [val] at h1;omega
 ·simp [val] at h1
  generalize (10:Int) ^ la.length=K at *
  have:K * -1 = -K:=by rw [Int.mul_neg,Int.mul_one]
  omega
end Go.Hs
end

section
namespace Go.Proofs
open Go.Shelf
def Zbn:Go.Shelf.Ren:=⟨fun | 174=>188 | 247=>203 | 245=>204 | 287=>211 | 279=>212 | 280=>213 | 281=>214 | 282=>215 | 321=>218 | 322=>219 | 316=>220 | 171=>222 | 205=>221 | 243=>223 | 246=>224 | 283=>225 | 284=>226 | 285=>227 | 286=>228 | 129=>230 | 317=>229 | 318=>231 | 319=>232 | 320=>233 | 337=>234 | 338=>235 | n=>n,fun | 9=>9 | 3=>3 | 2=>2 | 75=>279 | 85=>280 | 4=>4 | 167=>297 | 5=>5 | 53=>262 | 175=>298 | 46=>270 | 168=>300 | 37=>122 | 0=>0 | 210=>322 | 21=>21 | 127=>325 | 145=>328 | 143=>326 | 171=>330 | 173=>333 | 212=>336 | 51=>285 | 20=>20 | 213=>337 | 232=>340 | 233=>341 | 80=>283 | n=>n,fun | 15=>5 | 16=>2 | 17=>6 | 18=>7 | 19=>8 | n=>n⟩
theorem Zcn:Go.Proofs.LaysC.n174 Tryz.prog Zbn:={
 mixed:=by kernel_rfl
 f129:=Tryz.func230.trans (congrArg some (by kernel_rfl))
 f171:=Tryz.func222.trans (congrArg some (by kernel_rfl))
 f174:=Tryz.func188.trans (congrArg some (by kernel_rfl))
 f205:=Tryz.func221.trans (congrArg some (by kernel_rfl))
 f243:=Tryz.func223.trans (congrArg some (by kernel_rfl))
 f245:=Tryz.func204.trans (congrArg some (by kernel_rfl))
 f246:=Tryz.func224.trans (congrArg some (by kernel_rfl))
 f247:=Tryz.func203.trans (congrArg some (by kernel_rfl))
 f279:=Tryz.func212.trans (congrArg some (by kernel_rfl))
 f280:=Tryz.func213.trans (congrArg some (by kernel_rfl))
 f281:=Tryz.func214.trans (congrArg some (by kernel_rfl))
 f282:=Tryz.func215.trans (congrArg some (by kernel_rfl))
 f283:=Tryz.func225.trans (congrArg some (by kernel_rfl))
 f284:=Tryz.func226.trans (congrArg some (by kernel_rfl))
 f285:=Tryz.func227.trans (congrArg some (by kernel_rfl))
 f286:=Tryz.func228.trans (congrArg some (by kernel_rfl))
 f287:=Tryz.func211.trans (congrArg some (by kernel_rfl))
 f316:=Tryz.func220.trans (congrArg some (by kernel_rfl))
 f317:=Tryz.func229.trans (congrArg some (by kernel_rfl))
 f318:=Tryz.func231.trans (congrArg some (by kernel_rfl))
 f319:=Tryz.func232.trans (congrArg some (by kernel_rfl))
 f320:=Tryz.func233.trans (congrArg some (by kernel_rfl))
 f321:=Tryz.func218.trans (congrArg some (by kernel_rfl))
 f322:=Tryz.func219.trans (congrArg some (by kernel_rfl))
 f337:=Tryz.func234.trans (congrArg some (by kernel_rfl))
 f338:=Tryz.func235.trans (congrArg some (by kernel_rfl))
 t0:=Tryz.underlying0
 a0:=Tryz.isAgg0
 z0:=Tryz.sizeOf0
 v0:=Tryz.zeroValue0
 t2:=Tryz.underlying2
 a2:=Tryz.isAgg2
 z2:=Tryz.sizeOf2
 v2:=Tryz.zeroValue2
 t3:=Tryz.underlying3
 a3:=Tryz.isAgg3
 z3:=Tryz.sizeOf3
 v3:=Tryz.zeroValue3
 t4:=Tryz.underlying4
 a4:=Tryz.isAgg4
 z4:=Tryz.sizeOf4
 v4:=Tryz.zeroValue4
 t5:=Tryz.underlying5
 a5:=Tryz.isAgg5
 z5:=Tryz.sizeOf5
 v5:=Tryz.zeroValue5
 t9:=Tryz.underlying9
 a9:=Tryz.isAgg9
 z9:=Tryz.sizeOf9
 v9:=Tryz.zeroValue9
 t20:=Tryz.underlying20
 a20:=Tryz.isAgg20
 z20:=Tryz.sizeOf20
 v20:=Tryz.zeroValue20
 t21:=Tryz.underlying21
 a21:=Tryz.isAgg21
 z21:=Tryz.sizeOf21
 v21:=Tryz.zeroValue21
 t37:=Tryz.underlying122
 a37:=Tryz.isAgg122
 z37:=Tryz.sizeOf122
 v37:=Tryz.zeroValue122
 t46:=Tryz.underlying270
 a46:=Tryz.isAgg270
 z46:=Tryz.sizeOf270
 v46:=Tryz.zeroValue270
 t51:=Tryz.underlying285
 a51:=Tryz.isAgg285
 z51:=Tryz.sizeOf285
 v51:=Tryz.zeroValue285
 t53:=Tryz.underlying262
 a53:=Tryz.isAgg262
 z53:=Tryz.sizeOf262
 v53:=Tryz.zeroValue262
 t75:=Tryz.underlying279
 a75:=Tryz.isAgg279
 z75:=Tryz.sizeOf279
 v75:=Tryz.zeroValue279
 t85:=Tryz.underlying280
 a85:=Tryz.isAgg280
 z85:=Tryz.sizeOf280
 v85:=Tryz.zeroValue280
 t127:=Tryz.underlying325
 a127:=Tryz.isAgg325
 z127:=Tryz.sizeOf325
 v127:=Tryz.zeroValue325
 t143:=Tryz.underlying326
 a143:=Tryz.isAgg326
 z143:=Tryz.sizeOf326
 v143:=Tryz.zeroValue326
 t145:=Tryz.underlying328
 a145:=Tryz.isAgg328
 z145:=Tryz.sizeOf328
 v145:=Tryz.zeroValue328
 t167:=Tryz.underlying297
 a167:=Tryz.isAgg297
 z167:=Tryz.sizeOf297
 v167:=Tryz.zeroValue297
 t168:=Tryz.underlying300
 a168:=Tryz.isAgg300
 z168:=Tryz.sizeOf300
 v168:=Tryz.zeroValue300
 t171:=Tryz.underlying330
 a171:=Tryz.isAgg330
 z171:=Tryz.sizeOf330
 v171:=Tryz.zeroValue330
 t173:=Tryz.underlying333
 a173:=Tryz.isAgg333
 z173:=Tryz.sizeOf333
 v173:=Tryz.zeroValue333
 t175:=Tryz.underlying298
 a175:=Tryz.isAgg298
 z175:=Tryz.sizeOf298
 v175:=Tryz.zeroValue298
 t210:=Tryz.underlying322
 a210:=Tryz.isAgg322
 z210:=Tryz.sizeOf322
 v210:=Tryz.zeroValue322
 t212:=Tryz.underlying336
 a212:=Tryz.isAgg336
 z212:=Tryz.sizeOf336
 v212:=Tryz.zeroValue336
 t213:=Tryz.underlying337
 a213:=Tryz.isAgg337
 z213:=Tryz.sizeOf337
 t232:=Tryz.underlying340
 a232:=Tryz.isAgg340
 z232:=Tryz.sizeOf340
 v232:=Tryz.zeroValue340
 t233:=Tryz.underlying341
 a233:=Tryz.isAgg341
 z233:=Tryz.sizeOf341
 v233:=Tryz.zeroValue341
 g15:=by kernel_rfl
 g16:=by kernel_rfl
 g17:=by kernel_rfl
 g18:=by kernel_rfl
 g19:=by kernel_rfl
 t80:=Tryz.underlying283
 a80:=Tryz.isAgg283
 z80:=Tryz.sizeOf283
 v80:=Tryz.zeroValue283
 i0:=by kernel_rfl
 i2:=by kernel_rfl
 i3:=by kernel_rfl
 i4:=by kernel_rfl
 i5:=by kernel_rfl
 i9:=by kernel_rfl
 i20:=by kernel_rfl
 i21:=by kernel_rfl
 i37:=by kernel_rfl
 i46:=by kernel_rfl
 i51:=by kernel_rfl
 i53:=by kernel_rfl
 i75:=by kernel_rfl
 i80:=by kernel_rfl
 i85:=by kernel_rfl
 i127:=by kernel_rfl
 i143:=by kernel_rfl
 i145:=by kernel_rfl
 i167:=by kernel_rfl
 i168:=by kernel_rfl
 i171:=by kernel_rfl
 i173:=by kernel_rfl
 i175:=by kernel_rfl
 i210:=by kernel_rfl
 i212:=by kernel_rfl
 i232:=by kernel_rfl
 i233:=by kernel_rfl
 m15:=by kernel_rfl
 m16:=by kernel_rfl
 m17:=by kernel_rfl
 m18:=by kernel_rfl
 m19:=by kernel_rfl
 c0:=by kernel_rfl
 c2:=by kernel_rfl
 c3:=by kernel_rfl
 c4:=by kernel_rfl
 c5:=by kernel_rfl
 c9:=by kernel_rfl
 c20:=by kernel_rfl
 c21:=by kernel_rfl
 c37:=by kernel_rfl
 c46:=by kernel_rfl
 c51:=by kernel_rfl
 c53:=by kernel_rfl
 c75:=by kernel_rfl
 c80:=by kernel_rfl
 c85:=by kernel_rfl
 c127:=by kernel_rfl
 c143:=by kernel_rfl
 c145:=by kernel_rfl
 c167:=by kernel_rfl
 c168:=by kernel_rfl
 c171:=by kernel_rfl
 c173:=by kernel_rfl
 c175:=by kernel_rfl
 c210:=by kernel_rfl
 c212:=by kernel_rfl
 c213:=by kernel_rfl
 c232:=by kernel_rfl
 c233:=by kernel_rfl }
def Z9m:Go.Shelf.Ren:=⟨fun | 101=>202 | 208=>210 | 206=>140 | n=>n,fun | 9=>9 | 4=>4 | 3=>3 | n=>n,fun | n=>n⟩
theorem Zuw:Go.Proofs.Lays.n101 Tryz.prog Z9m:={
 mixed:=by kernel_rfl
 f101:=Tryz.func202.trans (congrArg some (by kernel_rfl))
 f206:=Tryz.func140.trans (congrArg some (by kernel_rfl))
 f208:=Tryz.func210.trans (congrArg some (by kernel_rfl))
 t3:=Tryz.underlying3
 a3:=Tryz.isAgg3
 z3:=Tryz.sizeOf3
 v3:=Tryz.zeroValue3
 t4:=Tryz.underlying4
 a4:=Tryz.isAgg4
 z4:=Tryz.sizeOf4
 v4:=Tryz.zeroValue4
 t9:=Tryz.underlying9
 a9:=Tryz.isAgg9
 z9:=Tryz.sizeOf9
 v9:=Tryz.zeroValue9 }
end Go.Proofs
end
