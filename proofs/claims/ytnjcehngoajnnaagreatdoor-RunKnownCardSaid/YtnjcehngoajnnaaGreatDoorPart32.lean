/- Part 32 of a proof; no condition. -/
import Derived.Lib.ParseIntB
import Derived.Lib.ItoaNum
import Derived.Lib.Index
import Derived.Lib.IndexMore
import Derived.Lib.ParseIntBCases
import Derived.Test.YtnjcehngoajnnaaGreatDoorPart31
import Derived.Test.YtnjcehngoajnnaaGreatDoorPart20
import Derived.Lib.Mul64
import Derived.Test.YtnjcehngoajnnaaGreatDoorChecked
import Derived.Shelf.Strconv.ParseIntPublic10
import Derived.Shelf.Strconv.ErrVarParseInt
import Derived.Shelf.Strconv.Itoa4
import Derived.Shelf.Strings.Prefix
import Derived.Ground.NamesProg
set_option linter.unusedSimpArgs false
set_option linter.unusedVariables false
section
namespace Go.Hs
def dgF:Nat→Nat→List Nat
 | 0,_=>[]
 | f+1,n=>if n=0 then [] else (n % 10)::dgF f (n / 10)
def dg (n:Nat):List Nat:=dgF n n
theorem Z8ea:∀ (f f' n:Nat),n≤f→n≤f'→dgF f n=dgF f' n
 | 0,f',n,h,_=>by
  have:n=0:=by omega
  subst this
  cases f'<;>simp [dgF]
 | f+1,0,n,_,h=>by
  have:n=0:=by omega
  subst this;simp [dgF]
 | f+1,f'+1,n,h,h'=>by
  simp only [dgF]
  split
  ·rfl
  ·rw [Z8ea f f' (n / 10) (by omega) (by omega)]
theorem Zeg:dg 0=[]:=rfl
theorem Z1i {n:Nat} (h:0<n):dg n=(n % 10)::dg (n / 10):=by
 obtain ⟨k,rfl⟩:∃ k,n=k+1:=⟨n-1,by omega⟩
 show dgF (k+1) (k+1)=_
 rw [dgF,if_neg (by omega),Z8ea k ((k+1) / 10) _ (by omega) (Nat.le_refl _)];rfl
def val:List Nat→Nat
 | []=>0
 | d::r=>d+10 * val r
theorem Zth:∀ (a b:List Nat),val (a++b)=val a+10 ^ a.length * val b
 | [],b=>by simp [val]
 | d::a,b=>by
  rw [List.cons_append,val,Zth a b,val,List.length_cons,Nat.pow_succ];rw [Nat.mul_add,← Nat.mul_assoc,Nat.mul_comm 10 (10 ^ a.length)];omega
def Dig (l:List Nat):Prop:=∀ d∈l,d<10
theorem Dig.app {a b:List Nat}:Dig (a++b) ↔ Dig a∧Dig b:=by
 constructor
 ·exact fun h=>⟨fun d hd=>h d (by simp [hd]),fun d hd=>h d (by simp [hd])⟩
 ·rintro ⟨h1,h2⟩ d hd
  rcases List.mem_append.1 hd with h | h
  ·exact h1 d h
  ·exact h2 d h
theorem Dig.one {d:Nat} (h:d<10):Dig [d]:=by intro x hx;simp at hx;omega
theorem Zcx:∀ {l:List Nat},Dig l→val l<10 ^ l.length
 | [],_=>by simp [val]
 | d::r,h=>by
  have h1:=Zcx (l:=r) fun x hx=>h x (by simp [hx]);have h2:=h d (by simp);rw [val,List.length_cons,Nat.pow_succ];omega
theorem Z6c (n:Nat):val (dg n)=n:=by
 induction n using Nat.strongRecOn with
 | _ n ih =>
  rcases Nat.eq_zero_or_pos n with h | h
  ·subst h;rfl
  ·rw [Z1i h,val,ih (n / 10) (by omega)]
   omega
theorem Zsd (n:Nat):Dig (dg n):=by
 induction n using Nat.strongRecOn with
 | _ n ih =>
  rcases Nat.eq_zero_or_pos n with h | h
  ·subst h;intro d hd;simp [Zeg] at hd
  ·rw [Z1i h]
   intro d hd
   rcases List.mem_cons.1 hd with rfl | hd
   ·omega
   ·exact ih (n / 10) (by omega) d hd
theorem dg_last (n:Nat):∀ d,(dg n).getLast? = some d→d≠0:=by
 induction n using Nat.strongRecOn with
 | _ n ih =>
  intro d hd
  rcases Nat.eq_zero_or_pos n with h | h
  ·subst h;simp [Zeg] at hd
  ·rw [Z1i h] at hd
   rcases Nat.eq_zero_or_pos (n / 10) with h2 | h2
   ·rw [h2,Zeg] at hd
    simp at hd;omega
   ·have hne:dg (n / 10)≠[]:=by rw [Z1i h2];simp
    rw [List.getLast?_cons_of_ne_nil hne] at hd;exact ih (n / 10) (by omega) d hd
theorem Z7ea:∀ {l:List Nat},Dig l→(∀ d,l.getLast? = some d→d≠0)→dg (val l)=l
 | [],_,_=>rfl
 | d::r,h,hl=>by
  have hd:=h d (by simp);have hr:Dig r:=fun x hx=>h x (by simp [hx])
  rcases hrn:r with _ | ⟨x,s⟩
  ·subst hrn
   have:=hl d (by simp);rw [val,val,Z1i (by omega)]
   have e1:(d+10 * 0) % 10=d:=by omega
   have e2:(d+10 * 0) / 10=0:=by omega
   rw [e1,e2,Zeg]
  ·rw [← hrn]
   have hne:r≠[]:=by rw [hrn];simp
   have hl2:∀ y,r.getLast? = some y→y≠0:=fun y hy=>hl y (by rw [List.getLast?_cons_of_ne_nil hne];exact hy);have ih:=Z7ea hr hl2
   have hp:0<val r:=by
    rcases Nat.eq_zero_or_pos (val r) with h0 | h0
    ·rw [h0,Zeg] at ih;exact absurd ih.symm hne
    ·exact h0
   rw [val,Z1i (by omega)]
   have e1:(d+10 * val r) % 10=d:=by omega
   have e2:(d+10 * val r) / 10=val r:=by omega
   rw [e1,e2,ih]
def Zgx:Nat→List Nat→List Nat
 | 0,l=>l
 | n+1,l=>if l.getLast? = some 0 then Zgx n l.dropLast else l
theorem Zuh:∀ (n:Nat) (l:List Nat),l.length≤n→Dig l→Zgx n l=dg (val l)
 | 0,l,h,_=>by
  have:l=[]:=List.length_eq_zero_iff.1 (by omega);subst this;rfl
 | n+1,l,h,hd=>by
  rw [Zgx]
  split
  ·rename_i h0
   have hne:l≠[]:=by rintro rfl;simp at h0
   have e:l=l.dropLast++[0]:=by
    have:=List.dropLast_concat_getLast hne;rw [List.getLast?_eq_some_getLast hne] at h0;rw [Option.some.inj h0] at this;exact this.symm
   have hv:val l=val l.dropLast:=by
    conv=>lhs;rw [e]
    rw [Zth];simp [val]
   rw [Zuh n l.dropLast (by rw [List.length_dropLast];omega) (fun x hx=>hd x (List.dropLast_subset _ hx)),hv]
  ·rename_i h0
   rw [Z7ea hd];rintro d hl rfl;exact h0 hl
theorem Zik {n k:Nat} (h:n<10 ^ k):(dg n).length≤k:=by
 induction k generalizing n with
 | zero =>
  have:n=0:=by simp at h;exact h
  subst this;simp [Zeg]
 | succ k ih =>
  rcases Nat.eq_zero_or_pos n with h0 | h0
  ·subst h0;simp [Zeg]
  ·rw [Z1i h0,List.length_cons]
   have:=ih (n:=n / 10) (by rw [Nat.pow_succ] at h;omega);omega
theorem dg_le {n:Nat} (h:0<n):10 ^ ((dg n).length-1)≤n:=by
 induction n using Nat.strongRecOn with
 | _ n ih =>
  rw [Z1i h,List.length_cons]
  rcases Nat.eq_zero_or_pos (n / 10) with h0 | h0
  ·rw [h0,Zeg];simp;omega
  ·have:=ih (n / 10) (by omega) h0
   have hl:0<(dg (n / 10)).length:=by rw [Z1i h0];simp
   have e:(dg (n / 10)).length+1-1=((dg (n / 10)).length-1)+1:=by omega
   rw [e,Nat.pow_succ];omega
theorem Zkq {a b:Nat} (h:(dg a).length<(dg b).length):a<b:=by
 have h1:=Zcx (Zsd a);rw [Z6c] at h1
 rcases Nat.eq_zero_or_pos b with h0 | h0
 ·subst h0;simp [Zeg] at h
 ·have h2:=dg_le h0
  have h3:10 ^ (dg a).length≤10 ^ ((dg b).length-1):=Nat.pow_le_pow_right (by omega) (by omega);omega
theorem Zh6 {n:Nat}:dg n=[] ↔ n=0:=by
 constructor
 ·intro h;have:=Z6c n;rw [h] at this;exact this.symm
 ·rintro rfl;rfl
def Z2b (x:Int):Bool:=decide (-9223372036854775808≤x∧x≤9223372036854775807)
def told (x:Int):Int × Int:=if Z2b x then (x,0) else (0,60)
def divR (a b:Int):Int × Int:=if b=0 then (0,61) else told (a.tdiv b)
def modR (a b:Int):Int × Int:=if b=0 then (0,61) else told (a.tmod b)
def Zna (c:UInt8):Bool:=48≤c.toNat && c.toNat≤57
def Zzj (c:UInt8):Nat:=c.toNat-48
def Z7b (s:List UInt8):Int × Int :=
 let below:=s.head? == some 45
 let t:=if below then s.drop 1 else s
 if t=[]∨(t.head? = some 48∧(t.length > 1∨below=true))∨t.all Zna=false then (0,2)
 else told (if below then -(val (t.reverse.map Zzj):Int) else val (t.reverse.map Zzj))
def putR (n:Int):List UInt8:=Lib.itoa n
end Go.Hs
end

section
namespace Go.Hs
open Go
structure Tk where
 kind:Int
 text:List UInt8
 pos:Int
 deriving DecidableEq,Inhabited
def isLt (c:UInt8):Bool:=c==95 || (decide (97≤(c.toNat ||| 32)) && decide ((c.toNat ||| 32)≤122))
def Zqe (c:UInt8):Bool:=isLt c || Zna c
def Zfk (c:UInt8):Bool:=c==32 || (decide (9≤c.toNat) && decide (c.toNat≤10)) || c==13
def Zpo (c:UInt8):Bool := !(c==10)
def Z9c (p:UInt8→Bool):List UInt8→Nat
 | []=>0
 | c::r=>if p c then Z9c p r+1 else 0
theorem Ztl (p:UInt8→Bool) (c:UInt8) (r:List UInt8):Z9c p (c::r)=if p c then Z9c p r+1 else 0:=rfl
theorem Z2f (p:UInt8→Bool):∀ s,Z9c p s≤s.length
 | []=>Nat.le_refl _
 | c::r=>by
  have:=Z2f p r;unfold Z9c
  split
  ·simp only [List.length_cons];omega
  ·exact Nat.zero_le _
def Zta (p s:List UInt8):Bool:=p.isPrefixOf s
theorem Z1c (s:List UInt8):Zta [] s=true:=by cases s<;>rfl
theorem Z7d (a:UInt8) (p:List UInt8):Zta (a::p) []=false:=rfl
theorem Zgb (a c:UInt8) (p s:List UInt8):Zta (a::p) (c::s)=(a==c && Zta p s):=rfl
def blkF:Nat→List UInt8→Nat
 | 0,_=>0
 | _+1,[]=>0
 | f+1,c::r=>if Zfk c then blkF f r+1 else if Zta [45,45] (c::r) then Z9c Zpo (c::r)+blkF f ((c::r).drop (Z9c Zpo (c::r))) else 0
def blk (s:List UInt8):Nat:=blkF s.length s
theorem Z3h {s:List UInt8} (h:Zta [45,45] s=true):2≤Z9c Zpo s∧2≤s.length:=by
 match s with
 | []=>simp [Zta] at h
 | [_]=>simp [Zta] at h
 | a::b::r =>
  simp [Zta] at h;obtain ⟨rfl,rfl⟩:=h;simp [Z9c,Zpo]
theorem Zd2:∀ (f f':Nat) (s:List UInt8),s.length≤f→s.length≤f'→blkF f s=blkF f' s
 | 0,f',s,h,_=>by
  have:s=[]:=List.length_eq_zero_iff.1 (by omega);subst this
  cases f'<;>rfl
 | f+1,0,s,_,h=>by
  have:s=[]:=List.length_eq_zero_iff.1 (by omega);subst this;rfl
 | f+1,f'+1,[],_,_=>rfl
 | f+1,f'+1,c::r,h,h'=>by
  simp only [List.length_cons] at h h';unfold blkF
  split
  ·rw [Zd2 f f' r (by omega) (by omega)]
  ·split
   ·rename_i hp
    have:=Z3h hp;rw [Zd2 f f' _ (by simp only [List.length_drop,List.length_cons];omega) (by simp only [List.length_drop,List.length_cons];omega)]
   ·rfl
theorem Zpaa:blk []=0:=rfl
theorem Zp4 {c:UInt8} {r:List UInt8} (h:Zfk c=true):blk (c::r)=blk r+1:=by
 unfold blk;rw [List.length_cons,blkF,if_pos h]
theorem Ztu {s:List UInt8} (h:Zta [45,45] s=true):blk s=Z9c Zpo s+blk (s.drop (Z9c Zpo s)):=by
 match s with
 | []=>simp [Zta] at h
 | c::r =>
  have hc:Zfk c=false:=by
   cases r with
   | nil=>simp [Zta] at h
   | cons d r=>simp [Zta] at h;rw [← h.1];decide
  have:=Z3h h;unfold blk;rw [List.length_cons,blkF,if_neg (by simp [hc]),if_pos h];rw [Zd2 r.length _ _ (by simp only [List.length_drop,List.length_cons];omega) (Nat.le_refl _)]
theorem Zn4 {c:UInt8} {r:List UInt8} (h:Zfk c=false) (h2:Zta [45,45] (c::r)=false):blk (c::r)=0:=by
 unfold blk;rw [List.length_cons,blkF,if_neg (by simp [h]),if_neg (by simp [h2])]
theorem Z8s (s:List UInt8):blk s≤s.length:=by
 have key:∀ (n:Nat) (s:List UInt8),s.length≤n→blk s≤s.length:=by
  intro n
  induction n with
  | zero =>
   intro s h;have:s=[]:=List.length_eq_zero_iff.1 (by omega);subst this;exact Nat.le_refl _
  | succ n ih =>
   intro s h
   match s with
   | []=>exact Nat.le_refl _
   | c::r =>
    cases hb:Zfk c with
    | true =>
     rw [Zp4 hb];have:=ih r (by simp only [List.length_cons] at h;omega);simp only [List.length_cons];omega
    | false =>
     cases hp:Zta [45,45] (c::r) with
     | false=>rw [Zn4 hb hp];exact Nat.zero_le _
     | true =>
      have h1:=Z3h hp;have h2:=Z2f Zpo (c::r);rw [Ztu hp];have:=ih ((c::r).drop (Z9c Zpo (c::r))) (by rw [List.length_drop];omega);rw [List.length_drop] at this;omega
 exact key s.length s (Nat.le_refl _)
def Zl4 (s:List UInt8):Prop:=∀ c r,s=c::r→Zfk c=false∧Zta [45,45] s=false
theorem Zuq (s:List UInt8):Zl4 (s.drop (blk s)):=by
 have key:∀ (n:Nat) (s:List UInt8),s.length≤n→Zl4 (s.drop (blk s)):=by
  intro n
  induction n with
  | zero =>
   intro s h;have:s=[]:=List.length_eq_zero_iff.1 (by omega);subst this;intro c r hh;simp [Zpaa] at hh
  | succ n ih =>
   intro s h
   match s with
   | []=>intro c r hh;simp [Zpaa] at hh
   | c::r =>
    cases hb:Zfk c with
    | true =>
     rw [Zp4 hb,List.drop_succ_cons];exact ih r (by simp only [List.length_cons] at h;omega)
    | false =>
     cases hp:Zta [45,45] (c::r) with
     | false =>
      rw [Zn4 hb hp,List.drop_zero];intro c' r' hh;cases hh;exact ⟨hb,hp⟩
     | true =>
      have h1:=Z3h hp;have h2:=Z2f Zpo (c::r);rw [Ztu hp,← List.drop_drop];exact ih _ (by rw [List.length_drop];omega)
 exact key s.length s (Nat.le_refl _)
def signsL:List (List UInt8):=[[58,61],[60,62],[60,61],[62,61],[60],[62],[61],[43],[45],[42],[40],[41],[44],[59]]
def wordsL:List (List UInt8):=[[97,110,100],[100,105,118],[101,108,115,101],[101,109,105,116],[101,110,100,105,102],[102,97,108,115,101],[105,102],[105,109,112,108,105,101,115],[109,111,100],[110,111,116],[111,114],[116,104,101,110],[116,114,117,101],[120,111,114]]
def Zhea:List UInt8:=32::wordsL.flatMap (· ++ [32])
def Zoa (s:List UInt8):Nat × Nat :=
 match s with
 | []=>(0,0)
 | c::_ =>
  if Zta [45,45] s then (0,0)
  else if Zna c then (Z9c Zna s,1)
  else if isLt c then (Z9c Zqe s,if wordsL.contains (s.take (Z9c Zqe s)) then 3 else 2)
  else match signsL.find? (Zta · s) with
   | some t=>(t.length,4)
   | none=>(0,0)
def isP (s:List UInt8):Nat:=if (Zoa s).1≠s.length∨(Zoa s).1 > 64 then 0 else (Zoa s).2
theorem Zcg (c:UInt8) (r:List UInt8):Zoa (c::r) =
  if Zta [45,45] (c::r) then (0,0)
  else if Zna c then (Z9c Zna (c::r),1)
  else if isLt c then (Z9c Zqe (c::r),if wordsL.contains ((c::r).take (Z9c Zqe (c::r))) then 3 else 2)
  else match signsL.find? (Zta · (c::r)) with
   | some t=>(t.length,4)
   | none=>(0,0):=rfl
theorem Zdm (s:List UInt8):(Zoa s).1≤s.length:=by
 unfold Zoa
 split
 ·exact Nat.le_refl _
 ·split
  ·exact Nat.zero_le _
  ·split
   ·exact Z2f _ _
   ·split
    ·exact Z2f _ _
    ·split
     ·rename_i h
      have:=List.find?_some h;exact (List.isPrefixOf_iff_prefix.1 this).length_le
     ·exact Nat.zero_le _
def Z2c:Nat→List UInt8→Nat→List Tk→List Tk × Int × Int
 | 0,_,_,acc=>(acc,0,0)
 | f+1,s,i,acc =>
  if i<s.length then
   if (Zoa (s.drop i)).1=0∨(Zoa (s.drop i)).1 > 64 then ([],i,70)
   else Z2c f s (i+(Zoa (s.drop i)).1+blk (s.drop (i+(Zoa (s.drop i)).1))) (acc++[⟨(Zoa (s.drop i)).2,(s.drop i).take (Zoa (s.drop i)).1,i⟩])
  else (acc,0,0)
def Zac (s:List UInt8):List Tk × Int × Int:=if s.length > 65536 then ([],0,3) else Z2c (s.length+1) s (blk s) []
theorem Zh3:∀ (f f':Nat) (s:List UInt8) (i:Nat) (acc:List Tk),s.length<f+i→s.length<f'+i→Z2c f s i acc=Z2c f' s i acc
 | 0,f',s,i,acc,h,_=>by
  cases f' with
  | zero=>rfl
  | succ f'=>rw [Z2c,Z2c,if_neg (by omega)]
 | f+1,0,s,i,acc,_,h=>by rw [Z2c,Z2c,if_neg (by omega)]
 | f+1,f'+1,s,i,acc,h,h'=>by
  unfold Z2c
  split
  ·split
   ·rfl
   ·rename_i hn
    exact Zh3 f f' _ _ _ (by omega) (by omega)
  ·rfl
theorem Zcs {f:Nat} {s:List UInt8} {i:Nat} {acc:List Tk} (h:i<s.length) (hf:s.length<f+i) (hn:¬ ((Zoa (s.drop i)).1=0∨(Zoa (s.drop i)).1 > 64)) :
  Z2c f s i acc=Z2c f s (i+(Zoa (s.drop i)).1+blk (s.drop (i+(Zoa (s.drop i)).1))) (acc++[⟨(Zoa (s.drop i)).2,(s.drop i).take (Zoa (s.drop i)).1,i⟩]):=by
 cases f with
 | zero=>omega
 | succ f =>
  rw [Z2c,if_pos h,if_neg hn];exact Zh3 _ _ _ _ _ (by omega) (by omega)
theorem Z5o {f:Nat} {s:List UInt8} {i:Nat} {acc:List Tk} (h:i<s.length) (hf:s.length<f+i) (hn:(Zoa (s.drop i)).1=0∨(Zoa (s.drop i)).1 > 64):Z2c f s i acc=([],(i:Int),70):=by
 cases f with
 | zero=>omega
 | succ f=>rw [Z2c,if_pos h,if_pos hn]
theorem Z4o {f:Nat} {s:List UInt8} {i:Nat} {acc:List Tk} (h:¬ i<s.length):Z2c f s i acc=(acc,0,0):=by
 cases f with
 | zero=>rfl
 | succ f=>rw [Z2c,if_neg h]
def Zec (s:List UInt8):Nat :=
 if signsL.contains s then 4 else if wordsL.contains s then 3 else match s with
 | []=>0
 | c::_=>if s.all Zna then 1 else if isLt c && s.all Zqe then 2 else 0
theorem Zdx (p:UInt8→Bool) (h:(List.range 256).all (fun n=>p (UInt8.ofNat n))=true) (c:UInt8):p c=true:=by
 have h2:=List.all_eq_true.1 h c.toNat (List.mem_range.2 c.toNat_lt)
 have e:UInt8.ofNat c.toNat=c:=by simp
 rw [e] at h2;exact h2
theorem Zfu {c:UInt8} (h:Zna c=true):isLt c=false∧Zqe c=true:=by
 revert h
 unfold Zqe;have:=Zdx (fun c => !Zna c || (!isLt c && (isLt c || Zna c))) (by decide +kernel) c;intro h;simpa [h] using this
theorem Zyh {p:UInt8→Bool}:∀ {s:List UInt8},(Z9c p s=s.length)=(s.all p=true)
 | []=>by simp [Z9c]
 | c::r=>by
  unfold Z9c;rw [List.all_cons,Bool.and_eq_true,← Zyh (s:=r)]
  by_cases h:p c=true
  ·simp [h]
  ·simp [h]
theorem Zgp {p:UInt8→Bool}:∀ (s:List UInt8) (k:Nat),Z9c p (s.take k)=min k (Z9c p s)
 | [],k=>by simp [Z9c]
 | c::r,0=>by simp [Z9c]
 | c::r,k+1=>by
  rw [List.take_succ_cons];unfold Z9c
  split
  ·rw [Zgp r k];omega
  ·simp
theorem Zbo:∀ w∈wordsL,w.all Zqe=true∧w≠[]∧(∀ c∈w.head?,isLt c=true):=by decide +kernel
theorem Zfo:∀ w∈signsL,w≠[]∧w.length≤2∧(∀ c∈w,Zqe c=false):=by decide +kernel
theorem Zdo {c:UInt8} {r:List UInt8} (h:Zna c=true):Zec (c::r)=if (c::r).all Zna then 1 else 0:=by
 have h1:=Zfu h
 have h2:signsL.contains (c::r)=false:=by
  rw [Bool.eq_false_iff];intro hc;have:=(Zfo (c::r) (by simpa using hc)).2.2 c (by simp);rw [h1.2] at this;cases this
 have h3:wordsL.contains (c::r)=false:=by
  rw [Bool.eq_false_iff];intro hc;have:=(Zbo (c::r) (by simpa using hc)).2.2 c (by simp);rw [h1.1] at this;cases this
 unfold Zec;simp only [h2,h3,h1.1,Bool.false_and];simp
theorem Zco {c:UInt8} {r:List UInt8} (h:isLt c=true):Zec (c::r)=if (c::r).all Zqe then (if wordsL.contains (c::r) then 3 else 2) else 0:=by
 have h1:Zna c=false:=by
  rw [Bool.eq_false_iff];intro hd;rw [(Zfu hd).1] at h;cases h
 have h1':Zqe c=true:=by unfold Zqe;rw [h];rfl
 have h2:signsL.contains (c::r)=false:=by
  rw [Bool.eq_false_iff];intro hc;have:=(Zfo (c::r) (by simpa using hc)).2.2 c (by simp);rw [h1'] at this;cases this
 have h3:(c::r).all Zna=false:=by rw [List.all_cons,h1];rfl
 unfold Zec;simp only [h2,h3,h,Bool.true_and]
 by_cases h4:wordsL.contains (c::r)=true
 ·rw [if_neg (by simp),if_pos h4,if_pos ((Zbo _ (by simpa using h4)).1),if_pos h4]
 ·rw [if_neg (by simp),if_neg h4,if_neg (by simp),if_neg h4]
theorem Zph {c:UInt8} {r:List UInt8} (h:Zqe c=false):Zec (c::r)=if signsL.contains (c::r) then 4 else 0:=by
 have h1:isLt c=false∧Zna c=false:=by unfold Zqe at h;simpa using h
 have h2:wordsL.contains (c::r)=false:=by
  rw [Bool.eq_false_iff];intro hc;have:=(Zbo (c::r) (by simpa using hc)).2.2 c (by simp);rw [h1.1] at this;cases this
 have h3:(c::r).all Zna=false:=by rw [List.all_cons,h1.2];rfl
 unfold Zec;simp only [h2,h3,h1.1,Bool.false_and]
 split<;>rfl
theorem Zyy (c:UInt8) (q:List UInt8):Lib.contains [] (c::q)=false:=by simp [Lib.contains,Lib.index]
theorem contains_cons (b:UInt8) (l p:List UInt8):Lib.contains (b::l) p=(p.isPrefixOf (b::l) || Lib.contains l p):=by
 unfold Lib.contains;rw [Lib.index]
 by_cases h:p.isPrefixOf (b::l)=true
 ·rw [if_pos h,h];simp
 ·have h':p.isPrefixOf (b::l)=false:=Bool.eq_false_iff.2 h
  rw [if_neg h,h',Bool.false_or]
  rcases Lib.index_spec l p with ⟨h1,_⟩ | ⟨i,h1,_⟩
  ·rw [h1];simp
  ·rw [h1]
   have:((i:Int) == -1)=false:=by rw [beq_eq_false_iff_ne];omega
   simp only [this];simp;omega
theorem Zpea:∀ (w v rest:List UInt8),(∀ c∈w,c≠32)→(∀ c∈v,c≠32)→(w++[32]).isPrefixOf (v++32::rest)=(w==v)
 | [],[],rest,_,_=>by simp
 | [],b::v,rest,_,hv=>by
  have:=hv b (by simp);simp [List.isPrefixOf];exact fun h=>absurd h.symm this
 | a::w,[],rest,hw,_=>by
  have:=hw a (by simp);simp [List.isPrefixOf];exact fun h=>absurd h this
 | a::w,b::v,rest,hw,hv=>by
  have:=Zpea w v rest (fun c hc=>hw c (by simp [hc])) (fun c hc=>hv c (by simp [hc]));simp only [List.cons_append,List.isPrefixOf,this];simp [List.cons_beq_cons]
theorem Zhm (q:List UInt8):∀ (v l:List UInt8),(∀ c∈v,c≠32)→Lib.contains (v++l) (32::q)=Lib.contains l (32::q)
 | [],_,_=>rfl
 | b::v,l,hv=>by
  have h1:=hv b (by simp);rw [List.cons_append,contains_cons,Zhm q v l fun c hc=>hv c (by simp [hc])]
  have:((32::q).isPrefixOf (b::(v++l)))=false:=by
   simp only [List.isPrefixOf,Bool.and_eq_false_iff]
   left
   simpa using fun h=>h1 h.symm
  rw [this,Bool.false_or]
theorem Zjk (w:List UInt8) (hw:∀ c∈w,c≠32):∀ (Ws:List (List UInt8)),(∀ v∈Ws,∀ c∈v,c≠32) →
  Lib.contains (32::Ws.flatMap (· ++ [32])) (32::(w++[32]))=Ws.contains w
 | [],_=>by
  rw [List.flatMap_nil,contains_cons,Zyy]
  cases w with
  | nil=>rfl
  | cons=>rfl
 | v::Ws,h=>by
  have hv:=h v (by simp);rw [List.flatMap_cons,contains_cons,List.append_assoc,Zhm _ _ _ hv,List.singleton_append,Zjk w hw Ws fun x hx=>h x (by simp [hx]),List.contains_cons]
  congr 1
  simp only [List.isPrefixOf,beq_self_eq_true,Bool.true_and];exact Zpea w v _ hw hv
theorem al_no {c:UInt8} (h:Zqe c=true):c≠32:=by rintro rfl;revert h;decide
theorem Zrr (w:List UInt8) (hw:w.all Zqe=true):Lib.contains Zhea (32::(w++[32]))=wordsL.contains w:=by
 rw [List.all_eq_true] at hw
 exact Zjk w (fun c hc=>al_no (hw c hc)) wordsL fun v hv c hc=>by
  have:=(Zbo v hv).1;rw [List.all_eq_true] at this;exact al_no (this c hc)
theorem Zff (p:UInt8→Bool):∀ s:List UInt8,(s.take (Z9c p s)).all p=true
 | []=>rfl
 | c::r=>by
  unfold Z9c
  split
  ·rename_i h
   rw [List.take_succ_cons,List.all_cons,h,Zff p r];rfl
  ·rfl
theorem Zxo (c:UInt8):Zna c=true∨(Zna c=false∧isLt c=true)∨(Zqe c=false∧Zna c=false∧isLt c=false):=by
 unfold Zqe
 cases h:Zna c with
 | true=>exact .inl rfl
 | false =>
  cases h2:isLt c with
  | true=>exact .inr (.inl ⟨rfl,rfl⟩)
  | false=>exact .inr (.inr ⟨rfl,rfl,rfl⟩)
def Zb8 (s:List UInt8):Nat:=match signsL.find? (Zta · s) with | some t=>t.length | none=>0
theorem Zcm {c:UInt8} {r:List UInt8} (h:Zna c=true):Zoa (c::r)=(Z9c Zna (c::r),1):=by
 have h1:Zta [45,45] (c::r)=false:=by
  have:(45==c)=false:=by
   rw [beq_eq_false_iff_ne];rintro rfl;revert h;decide
  rw [Zgb,this];rfl
 rw [Zcg,if_neg (by simp [h1]),if_pos h]
theorem Zto {c:UInt8} {r:List UInt8} (h:isLt c=true):Zoa (c::r)=(Z9c Zqe (c::r),if wordsL.contains ((c::r).take (Z9c Zqe (c::r))) then 3 else 2):=by
 have h1:Zta [45,45] (c::r)=false:=by
  have:(45==c)=false:=by
   rw [beq_eq_false_iff_ne];rintro rfl;revert h;decide
  rw [Zgb,this];rfl
 have h2:Zna c=false:=by
  rw [Bool.eq_false_iff];intro hd;rw [(Zfu hd).1] at h;cases h
 rw [Zcg,if_neg (by simp [h1]),if_neg (by simp [h2]),if_pos h]
theorem Zwj {c:UInt8} {r:List UInt8} (h:Zqe c=false) (h1:Zta [45,45] (c::r)=false):Zoa (c::r)=(Zb8 (c::r),if Zb8 (c::r)=0 then 0 else 4):=by
 have h2:isLt c=false∧Zna c=false:=by unfold Zqe at h;simpa using h
 unfold Zb8;rw [Zcg,if_neg (by simp [h1]),if_neg (by simp [h2.2]),if_neg (by simp [h2.1])]
 cases hf:signsL.find? (Zta · (c::r)) with
 | none=>rfl
 | some t =>
  have:=List.mem_of_find?_eq_some hf;have:=(Zfo t this).1;have:t.length≠0:=fun h=>this (List.length_eq_zero_iff.1 h);simp [this]
theorem Zg4:∀ (L:List (List UInt8)) (c:UInt8),(∀ t∈L,t≠[])→(match L.find? (Zta · [c]) with | some t=>t.length | none=>0)=if L.contains [c] then 1 else 0
 | [],c,_=>rfl
 | t::L,c,h=>by
  have ih:=Zg4 L c fun x hx=>h x (by simp [hx]);rw [List.find?_cons,List.contains_cons]
  match t,h t (by simp) with
  | [a],_ =>
   by_cases e:a=c
   ·subst e;simp [Zgb,Z1c,Z7d]
   ·have:Zta [a] [c]=false:=by simp [Zgb,Z1c,Z7d,e]
    rw [this]
    have:(([c]:List UInt8)==[a])=false:=by simpa using fun h=>e h.symm
    rw [this,Bool.false_or];exact ih
  | a::b::r,_ =>
   have:Zta (a::b::r) [c]=false:=by simp [Zgb,Z1c,Z7d]
   rw [this]
   have:(([c]:List UInt8)==a::b::r)=false:=by simp
   rw [this,Bool.false_or];exact ih
theorem Zeq:∀ (L M:List (List UInt8)) (c d:UInt8) (r:List UInt8),(∀ t∈L,t.length=2)→(∀ t∈M,t.length=1) →
  (match (L++M).find? (Zta · (c::d::r)) with | some t=>t.length | none=>0)=if L.contains [c,d] then 2 else if M.contains [c] then 1 else 0
 | [],[],c,d,r,_,_=>rfl
 | [],t::M,c,d,r,hL,hM=>by
  have ih:=Zeq [] M c d r hL fun x hx=>hM x (by simp [hx]);rw [List.nil_append] at ih ⊢
  match t,hM t (by simp) with
  | [a],_ =>
   rw [List.find?_cons,List.contains_cons]
   by_cases e:a=c
   ·subst e;simp [Zgb,Z1c,Z7d]
   ·have:Zta [a] (c::d::r)=false:=by simp [Zgb,Z1c,Z7d,e]
    rw [this]
    have:(([c]:List UInt8)==[a])=false:=by simpa using fun h=>e h.symm
    rw [this,Bool.false_or];exact ih
 | t::L,M,c,d,r,hL,hM=>by
  have ih:=Zeq L M c d r (fun x hx=>hL x (by simp [hx])) hM
  match t,hL t (by simp) with
  | [a,b],_ =>
   rw [List.cons_append,List.find?_cons,List.contains_cons]
   by_cases e:a=c∧b=d
   ·obtain ⟨rfl,rfl⟩:=e;simp [Zgb,Z1c,Z7d]
   ·have:Zta [a,b] (c::d::r)=false:=by simpa [Zgb,Z1c,Z7d] using e
    rw [this]
    have:(([c,d]:List UInt8)==[a,b])=false:=by simpa using fun h1 h2=>e ⟨h1.symm,h2.symm⟩
    rw [this,Bool.false_or];exact ih
def sg2:List (List UInt8):=[[58,61],[60,62],[60,61],[62,61]]
def sg1:List (List UInt8):=[[60],[62],[61],[43],[45],[42],[40],[41],[44],[59]]
theorem Zst (c:UInt8):Zb8 [c]=if signsL.contains [c] then 1 else 0:=Zg4 signsL c fun t ht=>(Zfo t ht).1
theorem Zgo (c d:UInt8) (r:List UInt8):Zb8 (c::d::r)=if sg2.contains [c,d] then 2 else if sg1.contains [c] then 1 else 0:=Zeq sg2 sg1 c d r (by decide) (by decide)
theorem Z4g (x:List UInt8):signsL.contains x=(sg2.contains x || sg1.contains x):=by
 show (sg2++sg1).contains x=_
 simp
theorem Zd8 {x:List UInt8} (h:x.length≠1):sg1.contains x=false:=by
 rw [Bool.eq_false_iff];intro hc
 have:∀ t∈sg1,t.length=1:=by decide
 exact h (this x (by simpa using hc))
theorem Zc8 {x:List UInt8} (h:x.length≠2):sg2.contains x=false:=by
 rw [Bool.eq_false_iff];intro hc
 have:∀ t∈sg2,t.length=2:=by decide
 exact h (this x (by simpa using hc))
theorem Z8w {c:UInt8} (h:Zqe c=false):Zec [c]=if sg1.contains [c] then 4 else 0:=by
 rw [Zph h,Z4g,Zc8 (by simp),Bool.false_or]
theorem Z0o {c d:UInt8} (h:Zqe c=false):Zec [c,d]=if sg2.contains [c,d] then 4 else 0:=by
 rw [Zph h,Z4g,Zd8 (by simp),Bool.or_false]
theorem Z8r {c d e:UInt8} {r:List UInt8} (h:Zqe c=false):Zec (c::d::e::r)=0:=by
 rw [Zph h,Z4g,Zd8 (by simp),Zc8 (by simp)];rfl
theorem Zaq (s:List UInt8):isP s=if s.length > 64 then 0 else Zec s:=by
 have key:(if (Zoa s).1≠s.length then 0 else (Zoa s).2)=Zec s:=by
  match s with
  | []=>rfl
  | c::r =>
   rcases Zxo c with h | ⟨_,h⟩ | ⟨h,_⟩
   ·rw [Zcm h,Zdo h]
    by_cases ha:(c::r).all Zna=true
    ·rw [if_pos ha,if_neg (by rw [ne_eq,Decidable.not_not,Zyh];exact ha)]
    ·rw [if_neg ha,if_pos (by rw [ne_eq,Zyh];exact ha)]
   ·rw [Zto h,Zco h]
    by_cases ha:(c::r).all Zqe=true
    ·have hl:Z9c Zqe (c::r)=(c::r).length:=by rw [Zyh];exact ha
     rw [if_pos ha,hl,List.take_length,if_neg (by simp)]
    ·rw [if_neg ha,if_pos (by rw [ne_eq,Zyh];exact ha)]
   ·match r with
    | [] =>
     rw [Zwj h (by simp [Zgb,Z1c,Z7d]),Zst,Zph h];generalize signsL.contains [c]=x
     cases x<;>simp
    | [d] =>
     rw [Z0o h]
     cases hp:Zta [45,45] [c,d] with
     | true =>
      have:c=45∧d=45:=by
       rw [Zgb,Zgb,Z1c,Bool.and_true,Bool.and_eq_true,beq_iff_eq,beq_iff_eq] at hp;exact ⟨hp.1.symm,hp.2.symm⟩
      obtain ⟨rfl,rfl⟩:=this
      decide
     | false =>
      rw [Zwj h hp,Zgo];generalize sg2.contains [c,d]=x;generalize sg1.contains [c]=y
      cases x<;>cases y<;>simp
    | d::e::r =>
     rw [Z8r h]
     cases hp:Zta [45,45] (c::d::e::r) with
     | true =>
      have:Zoa (c::d::e::r)=(0,0):=by rw [Zcg,if_pos hp]
      rw [this];simp
     | false =>
      rw [Zwj h hp,Zgo];generalize sg2.contains [c,d]=x;generalize sg1.contains [c]=y
      cases x<;>cases y<;>simp
 unfold isP
 by_cases h1:(Zoa s).1=s.length
 ·rw [← key,if_neg (show ¬ (Zoa s).1≠s.length by simpa using h1),h1]
  by_cases h2:s.length > 64
  ·rw [if_pos (.inr h2),if_pos h2]
  ·rw [if_neg (by simpa using h2),if_neg h2]
 ·rw [if_pos (.inl h1)]
  rw [if_pos h1] at key;rw [← key];simp
def Zag (s:List UInt8):Nat→Nat
 | 0=>0
 | k+1=>if k=0 then 0 else if Zec (s.take k)=0 then Zag s k else k
theorem Z5l (s:List UInt8):Zag s 1=0:=by simp [Zag]
theorem Zqf (s:List UInt8) {k:Nat} (hk:1≤k):Zag s (k+1)=if Zec (s.take k)=0 then Zag s k else k:=by rw [Zag,if_neg (by omega)]
theorem Zsr {c:UInt8} {r:List UInt8} (h:Zna c=true) {k:Nat} (hk:1≤k) (hk2:k≤(c::r).length):Zec ((c::r).take k)≠0 ↔ k≤Z9c Zna (c::r):=by
 obtain ⟨k,rfl⟩:∃ j,k=j+1:=⟨k-1,by omega⟩;have:(c::r).take (k+1)=c::r.take k:=rfl;rw [this,Zdo h,← this]
 have hlen:((c::r).take (k+1)).length=k+1:=by rw [List.length_take];omega
 have h1:((c::r).take (k+1)).all Zna=true ↔ k+1≤Z9c Zna (c::r):=by
  rw [← Zyh,Zgp,hlen];omega
 by_cases ha:((c::r).take (k+1)).all Zna=true
 ·rw [if_pos ha]
  have:=h1.1 ha;simp;exact this
 ·have:=fun h=>ha (h1.2 h)
  rw [if_neg ha];simp;exact Nat.lt_of_not_le this
theorem Zlt {c:UInt8} {r:List UInt8} (h:isLt c=true) {k:Nat} (hk:1≤k) (hk2:k≤(c::r).length):Zec ((c::r).take k)≠0 ↔ k≤Z9c Zqe (c::r):=by
 obtain ⟨k,rfl⟩:∃ j,k=j+1:=⟨k-1,by omega⟩;have:(c::r).take (k+1)=c::r.take k:=rfl;rw [this,Zco h,← this]
 have hlen:((c::r).take (k+1)).length=k+1:=by rw [List.length_take];omega
 have h1:((c::r).take (k+1)).all Zqe=true ↔ k+1≤Z9c Zqe (c::r):=by
  rw [← Zyh,Zgp,hlen];omega
 by_cases ha:((c::r).take (k+1)).all Zqe=true
 ·rw [if_pos ha]
  have:=h1.1 ha
  split<;>simp<;>exact this
 ·have:=fun h=>ha (h1.2 h)
  rw [if_neg ha];simp;exact Nat.lt_of_not_le this
theorem Z3p {s:List UInt8} {R:Nat} (h:∀ k,1≤k→k≤s.length→(Zec (s.take k)≠0 ↔ k≤R)):∀ k,1≤k→k≤s.length+1→Zag s k=min (k-1) R
 | 0,h0,_=>by omega
 | 1,_,_=>by rw [Z5l];simp
 | k+2,_,hk=>by
  rw [Zqf s (by omega),Z3p h (k+1) (by omega) (by omega)];have:=h (k+1) (by omega) (by omega)
  by_cases hw:Zec (s.take (k+1))=0
  ·rw [if_pos hw];have:=fun x=>(this.2 x) hw;omega
  ·rw [if_neg hw];have:=this.1 hw;omega
theorem Z83 {c:UInt8} (h:Zqe c=false) {r:List UInt8}:∀ k,3≤k→k≤(c::r).length+1→Zag (c::r) k=Zb8 (c::r)
 | 0,h0,_=>by omega
 | 1,h0,_=>by omega
 | 2,h0,_=>by omega
 | 3,_,hk=>by
  match r with
  | []=>simp at hk
  | d::r =>
   rw [Zqf _ (by omega),Zqf _ (by omega),Z5l,Zgo];simp only [List.take_succ_cons,List.take_zero,Z0o h,Z8w h];generalize sg2.contains [c,d]=x;generalize sg1.contains [c]=y
   cases x<;>cases y<;>simp
 | k+4,_,hk=>by
  rw [Zqf _ (by omega),Z83 h (k+3) (by omega) (by omega)]
  match r with
  | []=>simp at hk
  | [_]=>simp at hk
  | d::e::r =>
   rw [if_pos];rw [List.take_succ_cons,List.take_succ_cons,List.take_succ_cons,Z8r h]
theorem Zm9 {s:List UInt8} (hs:s≠[]) (hc:Zta [45,45] s=false) {k:Nat} (h1:1≤k) (h2:k≤s.length+1) (he:k=s.length+1∨(3≤k∧Zag s k≠k-1)):Zag s k=(Zoa s).1:=by
 match s,hs with
 | c::r,_ =>
  rcases Zxo c with h | ⟨_,h⟩ | ⟨h,_⟩
  ·have hr:=Z3p (s:=c::r) (R:=Z9c Zna (c::r)) fun k a b=>Zsr h a b
   rw [Zcm h];have h3:=hr k h1 h2;have h4:=Z2f Zna (c::r)
   rcases he with he | ⟨_,he⟩
   ·rw [h3];show min _ _=_;omega
   ·rw [h3] at he ⊢;show min _ _=_;omega
  ·have hr:=Z3p (s:=c::r) (R:=Z9c Zqe (c::r)) fun k a b=>Zlt h a b
   rw [Zto h];have h3:=hr k h1 h2;have h4:=Z2f Zqe (c::r)
   rcases he with he | ⟨_,he⟩
   ·rw [h3];show min _ _=_;omega
   ·rw [h3] at he ⊢;show min _ _=_;omega
  ·rw [Zwj h hc]
   by_cases h3:3≤k
   ·exact Z83 h k h3 h2
   ·have he:k=(c::r).length+1:=by rcases he with he | he;exact he;omega
    match r with
    | [] =>
     simp at he;subst he;rw [Zqf _ (by omega),Z5l,Zst];simp only [List.take_succ_cons,List.take_zero,Zph h]
     cases signsL.contains [c]<;>simp
    | d::r=>simp at he;omega
theorem Z93 (s:List UInt8):∀ k,Zag s k≤k
 | 0=>Nat.le_refl _
 | k+1=>by
  have:=Z93 s k;rw [Zag]
  split
  ·omega
  ·split<;>omega
theorem Z3s {s:List UInt8} (hc:Zta [45,45] s=false) (hn:(Zoa s).1≠0):Zec (s.take (Zoa s).1)=(Zoa s).2∧(Zoa s).2≠0:=by
 match s with
 | []=>exact absurd rfl hn
 | c::r =>
  rcases Zxo c with h | ⟨_,h⟩ | ⟨h,_⟩
  ·have e:=Zcm (r:=r) h
   rw [e] at hn ⊢;have hn:Z9c Zna (c::r)≠0:=hn;obtain ⟨k,hk⟩:∃ j,Z9c Zna (c::r)=j+1:=⟨Z9c Zna (c::r)-1,by omega⟩;have h2:=Zff Zna (c::r);refine ⟨?_,by simp⟩
   show Zec ((c::r).take (Z9c Zna (c::r)))=1
   rw [hk] at h2 ⊢;rw [List.take_succ_cons] at h2 ⊢;rw [Zdo h,if_pos h2]
  ·have e:=Zto (r:=r) h
   rw [e] at hn ⊢;have hn:Z9c Zqe (c::r)≠0:=hn;obtain ⟨k,hk⟩:∃ j,Z9c Zqe (c::r)=j+1:=⟨Z9c Zqe (c::r)-1,by omega⟩;have h2:=Zff Zqe (c::r);refine ⟨?_,by show (if _ then 3 else 2)≠0;split<;>simp⟩
   show Zec ((c::r).take (Z9c Zqe (c::r)))=if wordsL.contains ((c::r).take (Z9c Zqe (c::r))) then 3 else 2
   rw [hk] at h2 ⊢;rw [List.take_succ_cons] at h2 ⊢;rw [Zco h,if_pos h2]
  ·have e:=Zwj (r:=r) h hc
   rw [e] at hn ⊢;have hn:Zb8 (c::r)≠0:=hn;refine ⟨?_,by show (if _ then 0 else 4)≠0;rw [if_neg hn];simp⟩
   show Zec ((c::r).take (Zb8 (c::r)))=if Zb8 (c::r)=0 then 0 else 4
   rw [if_neg hn]
   match r with
   | [] =>
    rw [Zst] at hn ⊢
    cases hs:signsL.contains [c] with
    | false=>rw [hs] at hn;simp at hn
    | true=>rw [if_pos rfl,List.take_succ_cons,List.take_zero,Zph h,hs];rfl
   | d::r =>
    rw [Zgo] at hn ⊢
    cases hs:sg2.contains [c,d] with
    | true=>rw [if_pos rfl,List.take_succ_cons,List.take_succ_cons,List.take_zero,Z0o h,hs];rfl
    | false =>
     rw [hs] at hn;rw [if_neg (by simp)] at hn ⊢
     cases hs1:sg1.contains [c] with
     | false=>rw [hs1] at hn;simp at hn
     | true=>rw [if_pos rfl,List.take_succ_cons,List.take_zero,Z8w h,hs1];rfl
def Zbj (s:List UInt8):Bool :=
 let t:=Lib.trimPrefix s [45]
 t.all Zna && (s==[48] || (!(t==[]) && !(t.head? == some 48)))
def rdv (acc:Nat) (l:List UInt8):Nat:=l.foldl (fun a c=>a * 10+Zzj c) acc
theorem Zn8:∀ (l:List UInt8) (acc:Nat),rdv acc l=acc * 10 ^ l.length+val (l.reverse.map Zzj)
 | [],acc=>by simp [rdv,val]
 | c::r,acc=>by
  have:=Zn8 r (acc * 10+Zzj c);rw [show rdv acc (c::r)=rdv (acc * 10+Zzj c) r from rfl,this,List.reverse_cons,List.map_append,Zth,List.length_cons,Nat.pow_succ,List.length_map,List.length_reverse];simp only [List.map_cons,List.map_nil,val,Nat.mul_zero,Nat.add_zero];rw [Nat.add_mul,Nat.mul_assoc,Nat.mul_comm 10 (10 ^ r.length),Nat.mul_comm (Zzj c)];omega
theorem Zoea:∀ (l:List UInt8) (acc:Nat),acc≤rdv acc l
 | [],acc=>Nat.le_refl _
 | c::r,acc=>by
  have:=Zoea r (acc * 10+Zzj c);rw [show rdv acc (c::r)=rdv (acc * 10+Zzj c) r from rfl];omega
theorem Zck:∀ (l:List UInt8) (acc:Nat),l.all Zna=true→acc≤18446744073709551615 →
  Lib.parseUintM 18446744073709551615 acc l=if rdv acc l≤18446744073709551615 then .ok (rdv acc l) else .range
 | [],acc,_,h=>by simp [Lib.parseUintM,rdv,h]
 | c::r,acc,hd,h=>by
  rw [List.all_cons,Bool.and_eq_true] at hd
  have hc:48≤c.toNat∧c.toNat≤57:=by have:=hd.1;unfold Zna at this;simpa using this
  have hge:=Zoea r (acc * 10+Zzj c);have hdv:Zzj c=c.toNat-48:=rfl;rw [Lib.parseUintM,if_pos hc,show rdv acc (c::r)=rdv (acc * 10+Zzj c) r from rfl]
  by_cases h1:1844674407370955162≤acc
  ·rw [if_pos h1,if_neg (by omega)]
  ·rw [if_neg h1]
   by_cases h2:18446744073709551615<acc * 10+(c.toNat-48)
   ·rw [if_pos h2,if_neg (by omega)]
   ·rw [if_neg h2]
    exact Zck r _ hd.2 (by omega)
theorem Zdk {l:List UInt8} (hl:l≠[]) (hd:l.all Zna=true) :
  Lib.parseUintB 64 l=if val (l.reverse.map Zzj)≤18446744073709551615 then .ok (val (l.reverse.map Zzj)) else .range:=by
 have:=Zck l 0 hd (by omega);rw [Zn8,Nat.zero_mul,Nat.zero_add] at this;rw [Lib.parseUintB,if_neg hl];exact this
theorem Zw7 {x:Int} (h : -9223372036854775808≤x∧x≤9223372036854775807):told x=(x,0):=by
 unfold told Z2b;rw [if_pos (decide_eq_true h)]
theorem Zg3 {x:Int} (h:¬ (-9223372036854775808≤x∧x≤9223372036854775807)):told x=(0,60):=by
 unfold told Z2b;rw [if_neg (by simpa using h)]
theorem Zu7 (s:List UInt8):Lib.trimPrefix s [45]=if s.head? = some 45 then s.drop 1 else s:=by
 cases s with
 | nil=>rfl
 | cons c r =>
  unfold Lib.trimPrefix Lib.hasPrefix
  by_cases h:c=45
  ·subst h;simp
  ·have h':¬ (45:UInt8)=c:=fun e=>h e.symm
   simp [h,h']
theorem Zu8 (s:List UInt8):(Zbj s=false∧Z7b s=(0,2))∨(Zbj s=true∧((∃ v,Lib.parseIntB 64 s = .ok v∧Z7b s=(v,0))∨(Lib.parseIntB 64 s = .range∧Z7b s=(0,60)))):=by
 cases s with
 | nil=>exact .inl ⟨by decide,rfl⟩
 | cons c r =>
  unfold Zbj Z7b;rw [Zu7]
  by_cases hc:c=45
  ·subst hc
   simp only [List.head?_cons,if_true,List.drop_succ_cons,List.drop_zero];have e1:((some (45:UInt8))==some 45)=true:=rfl
   have e2:((45::r:List UInt8)==[48])=false:=by simp
   simp only [e1,e2,if_true,Bool.false_or]
   by_cases hd:r.all Zna=true
   ·cases r with
    | nil=>left;simp
    | cons d q =>
     by_cases h0:d=48
     ·subst h0;left;simp
     ·right
      have h0':¬ ((some d:Option UInt8)==some 48)=true:=by simpa using h0
      refine ⟨by simp [hd,h0],?_⟩;rw [if_neg (by simp only [List.head?_cons,Option.some.injEq,h0,hd,Bool.true_eq_false,reduceCtorEq,false_and,or_self,not_false_eq_true])];rw [Lib.parseIntB_minus,Zdk (by simp) hd];generalize val ((d::q).reverse.map Zzj)=m
      by_cases hm:m≤9223372036854775808
      ·left
       refine ⟨-(m:Int),?_,Zw7 (by omega)⟩;rw [if_pos (by omega)];simp only [Lib.signedC];rw [if_neg (by omega)]
      ·right
       refine ⟨?_,Zg3 (by omega)⟩
       by_cases hm2:m≤18446744073709551615
       ·rw [if_pos hm2]
        simp only [Lib.signedC];rw [if_pos (by omega)]
       ·rw [if_neg hm2]
        rfl
   ·left
    have hd':r.all Zna=false:=by simpa using hd
    simp [hd']
  ·have e1:((some c:Option UInt8)==some 45)=false:=by simpa using hc
   simp only [List.head?_cons,e1,Option.some.injEq,hc,if_false,Bool.false_eq_true]
   by_cases hd:(c::r).all Zna=true
   ·have hdig:48≤c.toNat∧c.toNat≤57:=by
     have:=hd;rw [List.all_cons,Bool.and_eq_true] at this;have:=this.1;unfold Zna at this;simpa using this
    by_cases h0:c=48∧r≠[]
    ·left
     obtain ⟨rfl,h1⟩:=h0
     have hlen:(48::r:List UInt8).length > 1:=by
      cases r with
      | nil=>exact absurd rfl h1
      | cons _ _=>simp
     refine ⟨by simp [h1],?_⟩;rw [if_pos (.inr (.inl ⟨rfl,.inl hlen⟩))]
    ·right
     refine ⟨?_,?_⟩
     ·rw [hd]
      by_cases h1:c=48
      ·have:r=[]:=by
        by_cases h2:r=[]
        ·exact h2
        ·exact absurd ⟨h1,h2⟩ h0
       subst h1 this;rfl
      ·simp [h1]
     ·rw [if_neg (by
       simp only [List.head?_cons,Option.some.injEq,hd,Bool.true_eq_false,reduceCtorEq,or_false,false_or,not_and,List.length_cons];intro h1 h2;apply h0;refine ⟨h1,fun h3=>?_⟩;subst h3
       simp at h2)]
      rw [Lib.parseIntB_plain 64 c r (by omega) (by omega),Zdk (by simp) hd];generalize val ((c::r).reverse.map Zzj)=m
      by_cases hm:m≤9223372036854775807
      ·left
       refine ⟨(m:Int),?_,Zw7 (by omega)⟩;rw [if_pos (by omega)];simp only [Lib.signlessC];rw [if_neg (by omega)]
      ·right
       refine ⟨?_,Zg3 (by omega)⟩
       by_cases hm2:m≤18446744073709551615
       ·rw [if_pos hm2]
        simp only [Lib.signlessC];rw [if_pos (by omega)]
       ·rw [if_neg hm2]
        rfl
   ·left
    have hd':(c::r).all Zna=false:=by simpa using hd
    rw [hd'];exact ⟨rfl,by rw [if_pos (.inr (.inr rfl))]⟩
end Go.Hs
end

section
namespace Go.Hs
theorem Zcj (n:Int):IntKind.i64.wrap n=(n+9223372036854775808) % 18446744073709551616-9223372036854775808:=by
 unfold IntKind.wrap;simp [IntKind.signed,IntKind.bits];omega
theorem Zdf (n:Int):IntKind.u64.wrap n=n % 18446744073709551616:=by
 unfold IntKind.wrap;simp [IntKind.signed,IntKind.bits]
theorem Zum (n:Int):InK .i64 (IntKind.i64.wrap n):=by
 rw [Zcj]
 show -9223372036854775808≤_∧_≤9223372036854775807
 omega
theorem Zyb (n:Int):InK .i64 n ↔ -9223372036854775808≤n∧n≤9223372036854775807:=Iff.rfl
theorem Z7r (v:BitVec 64):IntKind.i64.wrap v.toNat=v.toInt:=by
 rw [Zcj,BitVec.toInt_eq_toNat_cond];have:=v.isLt
 split<;>omega
theorem Z2l {a:Int} (h:InK .i64 a):(BitVec.ofInt 64 a).msb=decide (a<0):=by
 rw [Zyb] at h;rw [BitVec.msb_eq_toInt,BitVec.toInt_ofInt]
 have:a.bmod (2 ^ 64)=a:=by
  rw [Int.bmod_def]
  have:(2:Nat) ^ 64=18446744073709551616:=by decide
  rw [this];omega
 rw [this]
theorem Zit {a b:Int} (ha:InK .i64 a) (hb:InK .i64 b):IntKind.i64.wrap ((BitVec.ofInt 64 a ^^^ BitVec.ofInt 64 b).toNat)<0 ↔ ¬ ((a<0) ↔ (b<0)):=by
 have h:=BitVec.msb_eq_toInt (x:=BitVec.ofInt 64 a ^^^ BitVec.ofInt 64 b);rw [BitVec.msb_xor,Z2l ha,Z2l hb] at h;rw [Z7r];generalize (BitVec.ofInt 64 a ^^^ BitVec.ofInt 64 b).toInt=z at *
 by_cases h1:a<0<;>by_cases h2:b<0<;>simp [h1,h2] at h ⊢ <;> omega
theorem Zwaa {a b:Int} (ha:InK .i64 a) (hb:InK .i64 b):IntKind.i64.wrap ((BitVec.ofInt 64 a &&& BitVec.ofInt 64 b).toNat)<0 ↔ a<0∧b<0:=by
 have h:=BitVec.msb_eq_toInt (x:=BitVec.ofInt 64 a &&& BitVec.ofInt 64 b);rw [BitVec.msb_and,Z2l ha,Z2l hb] at h;rw [Z7r];generalize (BitVec.ofInt 64 a &&& BitVec.ofInt 64 b).toInt=z at *
 by_cases h1:a<0<;>by_cases h2:b<0<;>simp [h1,h2] at h ⊢ <;> omega
theorem Zbea {a b s:Int} (ha:InK .i64 a) (hb:InK .i64 b) (hs:s=IntKind.i64.wrap (a+b)) :
  andZ .i64 (xorZ .i64 a s) (xorZ .i64 b s)<0 ↔ Z2b (a+b)=false:=by
 show IntKind.i64.wrap ((BitVec.ofInt 64 (IntKind.i64.wrap ((BitVec.ofInt 64 a ^^^ BitVec.ofInt 64 s).toNat)) &&& BitVec.ofInt 64 (IntKind.i64.wrap ((BitVec.ofInt 64 b ^^^ BitVec.ofInt 64 s).toNat))).toNat)<0 ↔ _
 have hsi:InK .i64 s:=by rw [hs];exact Zum _
 rw [Zwaa (Zum _) (Zum _),Zit ha hsi,Zit hb hsi];rw [Zcj] at hs;rw [Zyb] at ha hb;unfold Z2b;rw [decide_eq_false_iff_not];omega
theorem Z9ba {a b s:Int} (ha:InK .i64 a) (hb:InK .i64 b) (hs:s=IntKind.i64.wrap (a-b)) :
  andZ .i64 (xorZ .i64 a b) (xorZ .i64 a s)<0 ↔ Z2b (a-b)=false:=by
 show IntKind.i64.wrap ((BitVec.ofInt 64 (IntKind.i64.wrap ((BitVec.ofInt 64 a ^^^ BitVec.ofInt 64 b).toNat)) &&& BitVec.ofInt 64 (IntKind.i64.wrap ((BitVec.ofInt 64 a ^^^ BitVec.ofInt 64 s).toNat))).toNat)<0 ↔ _
 have hsi:InK .i64 s:=by rw [hs];exact Zum _
 rw [Zwaa (Zum _) (Zum _),Zit ha hsi,Zit ha hb];rw [Zcj] at hs;rw [Zyb] at ha hb;unfold Z2b;rw [decide_eq_false_iff_not];omega
theorem Zeo (a b:Int):a.tdiv b=if (decide (a<0) != decide (b<0))=true then -((a.natAbs / b.natAbs:Nat):Int) else ((a.natAbs / b.natAbs:Nat):Int):=by
 cases a with
 | ofNat m=>cases b with
  | ofNat n=>simp [Int.tdiv];omega
  | negSucc n=>simp [Int.tdiv,Int.negSucc_lt_zero]
 | negSucc m=>cases b with
  | ofNat n=>simp [Int.tdiv,Int.negSucc_lt_zero]
  | negSucc n=>simp [Int.tdiv,Int.negSucc_lt_zero]
theorem Zpt (a b:Int):a.tmod b=if decide (a<0)=true then -((a.natAbs % b.natAbs:Nat):Int) else ((a.natAbs % b.natAbs:Nat):Int):=by
 cases a with
 | ofNat m=>cases b with
  | ofNat n=>simp [Int.tmod];omega
  | negSucc n=>simp [Int.tmod];omega
 | negSucc m=>cases b with
  | ofNat n=>simp [Int.tmod,Int.negSucc_lt_zero]
  | negSucc n=>simp [Int.tmod,Int.negSucc_lt_zero]
theorem Zso (x:Int):Z2b x=true ↔ InK .i64 x:=by unfold Z2b;rw [decide_eq_true_iff];rfl
theorem Zvh {x:Int} (h:Z2b x=true):told x=(x,0):=by rw [told,if_pos h]
theorem Zji {x:Int} (h:Z2b x=false):told x=(0,60):=by rw [told,h];simp
end Go.Hs
end

section
namespace Go.Hs
open Go.Proofs
set_option maxRecDepth 10000
@[go_sem] theorem Z5ba (s:List UInt8) (k:Nat):(s.drop k).take (s.length-k)=s.drop k:=List.take_of_length_le (by simp)
theorem Zdn {l:List UInt8} {k:Nat} (h:k<l.length):l[k]? = some l[k]:=List.getElem?_eq_getElem h
theorem Zvk (G:Nat→V) (hG:GOk G) (c:UInt8):Spec Tryz.prog G 108 [.int .u8 c.toNat] Zm (fun v _=>v = .bool (Zna c)):=by
 refine Zo 0 9 [.tmp 2] Tryz.func108 fun X=>?_;refine Z1 ?_
 by_cases h:48≤c.toNat
 ·have h1:decide ((c.toNat:Int)≥48)=true:=zT
  refine Zf h1 ?_;unfold Zna;simp [h];omega
 ·have h1:decide ((c.toNat:Int)≥48)=false:=zF
  refine Zf h1 ?_;unfold Zna;simp [h]
theorem u8q (c:UInt8) (n:Nat) (hn:n<256):((c.toNat:Int)==(n:Int))=(c==UInt8.ofNat n):=by
 by_cases h:c.toNat=n
 ·have h1:c=UInt8.ofNat n:=by
   apply UInt8.toNat_inj.1;rw [h,UInt8.toNat_ofNat'];omega
  rw [h1];simp;omega
 ·have h1:¬ c=UInt8.ofNat n:=by
   intro e;apply h;rw [e,UInt8.toNat_ofNat'];omega
  have h2:¬ (c.toNat:Int)=(n:Int):=by omega
  rw [show (c==UInt8.ofNat n)=false by simpa using h1,show ((c.toNat:Int)==(n:Int))=false from beq_eq_false_iff_ne.2 h2]
theorem Zzba (c:UInt8):((c.toNat:Int)==10)=(c==10):=u8q c 10 (by decide)
theorem u8q9 (c:UInt8):((c.toNat:Int)==9)=(c==9):=u8q c 9 (by decide)
theorem Zq7 (c:UInt8):((c.toNat:Int)==32)=(c==32):=u8q c 32 (by decide)
theorem Zr7 (c:UInt8):((c.toNat:Int)==13)=(c==13):=u8q c 13 (by decide)
theorem Zyba (c:UInt8):((c.toNat:Int)==95)=(c==95):=u8q c 95 (by decide)
theorem u8q45 (c:UInt8):((c.toNat:Int)==45)=(c==45):=u8q c 45 (by decide)
theorem Z85 (G:Nat→V) (hG:GOk G) (c:UInt8):Spec Tryz.prog G 107 [.int .u8 c.toNat] Zm (fun v _=>v = .bool (Zpo c)):=by
 refine Zo 0 5 [.tmp 2] Tryz.func107 fun X=>?_;refine Z ?_;unfold Zpo;rw [bne,Zzba]
theorem Zhda (G:Nat→V) (hG:GOk G) (c:UInt8):Spec Tryz.prog G 105 [.int .u8 c.toNat] Zm (fun v _=>v = .bool (Zfk c)):=by
 refine Zo 0 17 [.tmp 2] Tryz.func105 fun X=>?_
 have key:Zfk c=(c==32 || (decide ((c.toNat:Int)≥9) && decide ((c.toNat:Int)≤10)) || c==13):=by
  unfold Zfk
  congr 3
  ·rw [decide_eq_decide];omega
  ·rw [decide_eq_decide];omega
 rw [key];refine Z1 ?_
 cases h1:(c==32) with
 | true =>
  exact Zq (zi @Zq7 (zi @Zr7 h1))
 | false =>
  cases h2:decide ((c.toNat:Int)≥9) with
  | false =>
   exact Zq (zi @Zq7 (zi @Zr7 (zi h1 h2)))
  | true =>
   cases h3:decide ((c.toNat:Int)≤10) with
   | false =>
    exact Zq (zi @Zq7 (zi @Zr7 (zi h1 (zi h2 h3))))
   | true =>
    exact Zq (zi @Zq7 (zi @Zr7 (zi h1 (zi h2 h3))))
theorem Zsi (G:Nat→V) (hG:GOk G) (c:UInt8):Spec Tryz.prog G 109 [.int .u8 c.toNat] Zm (fun v _=>v = .bool (isLt c)):=by
 refine Zo 0 15 [.tmp 2] Tryz.func109 fun X=>?_;refine Z1 ?_
 cases h1:(c==95) with
 | true =>
  refine Zf (zi @Zyba h1) ?_;unfold isLt
  rw [h1]<;>rfl
 | false =>
  have ho:orZ .u8 (c.toNat:Int) 32=((c.toNat ||| 32:Nat):Int):=by
   have:=Zdx (fun c=>orZ .u8 (c.toNat:Int) 32==((c.toNat ||| 32:Nat):Int)) (by decide +kernel) c;simpa using this
  have hL:isLt c=(decide (((c.toNat ||| 32:Nat):Int)≥97) && decide (((c.toNat ||| 32:Nat):Int)≤122)):=by
   unfold isLt;rw [h1,Bool.false_or]
   congr 1
   ·rw [decide_eq_decide];omega
   ·rw [decide_eq_decide];omega
  rw [hL];generalize ((c.toNat ||| 32:Nat):Int)=x at ho ⊢
  cases h2:decide (x≥97) with
  | false =>
   exact Zq (zi @Zyba (zi h1 (zi ho h2)))
  | true =>
   exact Zq (zi @Zyba (zi h1 (zi ho h2)))
theorem Zida (G:Nat→V) (hG:GOk G) (c:UInt8):Spec Tryz.prog G 110 [.int .u8 c.toNat] Zm (fun v _=>v = .bool (Zqe c)):=by
 refine Zo 0 9 [.tmp 2] Tryz.func110 fun X=>?_;refine Z1 ?_;unfold Zqe
 cases h1:isLt c with
 | true =>
  refine Z1 ?_;refine Zn hG ?_ (s:=(Zsi G hG c));refine Zsf h1 ?_;exact Zr
 | false =>
  refine Z1 ?_;refine Zn hG ?_ (s:=(Zsi G hG c));refine Zsf h1 ?_;refine Zn hG ?_ (s:=(Zvk G hG c));refine Zsf h1 ?_;exact Zr
structure FnB (G:Nat→V) (f:FuncId) (p:UInt8→Bool):Prop where
 en:Zfa Tryz.prog f=true
 sp:∀ c:UInt8,Spec Tryz.prog G f [.int .u8 c.toNat] Zm (fun v _=>v = .bool (p c))
theorem fDigit {G:Nat→V} (hG:GOk G):FnB G 108 Zna:=⟨by kernel_rfl,Zvk G hG⟩
theorem fNoNl {G:Nat→V} (hG:GOk G):FnB G 107 Zpo:=⟨by kernel_rfl,Z85 G hG⟩
theorem fBl {G:Nat→V} (hG:GOk G):FnB G 105 Zfk:=⟨by kernel_rfl,Zhda G hG⟩
theorem fAl {G:Nat→V} (hG:GOk G):FnB G 110 Zqe:=⟨by kernel_rfl,Zida G hG⟩
theorem Z6l (G:Nat→V) (hG:GOk G) (s:List UInt8) (hs:s.length<1000000000000000) {f:FuncId} {p:UInt8→Bool} (hf:FnB G f p) :
  Spec Tryz.prog G 104 [.str s,.func (.func f) [] []] Zm (fun v _=>v = .int .i64 (Z9c p s)):=by
 refine Zo 0 20 [.tmp 4] Tryz.func104 fun X=>?_;refine Z1 ?_;refine Z1 ?_;refine Z5 ?_;refine AW.block ?_
 refine Zwa s.length (fun k (_:Unit)=>st [(0,.str s),(1,.func (.func f) [] []),(5,.int .i64 k)] []) (fun k _=>Z9c p s=k+Z9c p (s.drop k)) 0 () (Nat.zero_le _) (by simp)
  (Zb zp zp) ?_
 intro k _ hk hR L2 hL2;refine Z5 ?_
 by_cases hk1:k<s.length
 ·have h1:decide ((k:Int)<s.length)=true:=zT
  have hg:=Zdn hk1;have hd:s.drop k=s[k]::s.drop (k+1):=List.drop_eq_getElem_cons hk1;generalize s[k]=c at hg hd;rw [hd] at hR;refine Z1f (zi h1 hg) ?_;refine CallA.pure hG hf.en ?_;refine Zs ?_;refine (hf.sp c).mono ?_;rintro _ _ rfl;refine Zsf h1 ?_;rw [Ztl] at hR;refine Ze rfl (fun h4=>?_) (fun h4=>?_)
  ·rw [if_pos h4] at hR
   refine Z1 ?_;refine hL2 _ ⟨hk1,(),by omega,Zb zw zp⟩
  ·rw [if_neg (by simp [h4])] at hR
   refine Z ?_;have hR:Z9c p s=k+0:=hR
   rw [hR]<;>rfl
 ·have h1:decide ((k:Int)<s.length)=false:=zF
  have hk2:k=s.length:=by omega
  refine Z1f h1 ?_;refine Zkc rfl ?_
  ·refine Z ?_
   rw [hR,hk2,List.drop_length]<;>rfl
def encR (r:Int × Int):V := .tuple [.int .i64 r.1,.int .i64 r.2]
theorem Zbh (G:Nat→V) (hG:GOk G) (a:Int) (ha:InK .i64 a):Spec Tryz.prog G 176 [.int .i64 a] Zm (fun v _=>v = .int .u64 a.natAbs):=by
 obtain ⟨h1,h2⟩:=ha;have h1 : -9223372036854775808≤a:=h1;have h2:a≤9223372036854775807:=h2;refine Zo 0 10 [.tmp 2] Tryz.func176 fun X=>?_;refine Z1 ?_;refine Z1 ?_;refine Ze rfl (fun h2=>?_) (fun h2=>?_)
 ·have h3:a<0:=by simpa using h2
  refine Z ?_;refine congrArg _ ?_;rw [Zdf,Zdf];omega
 ·have h3:¬ a<0:=by simpa using h2
  refine Z ?_;refine congrArg _ ?_;rw [Zdf];omega
theorem Znk (G:Nat→V) (hG:GOk G) (n:Nat) (below:Bool) (hn:n<18446744073709551616):Spec Tryz.prog G 177 [.int .u64 n,.bool below] Zm (fun v _=>v=encR (told (if below then -(n:Int) else n))):=by
 refine Zo 0 24 [.tmp 4,.tmp 5] Tryz.func177 fun X=>?_;refine Z1 ?_;refine Z5 ?_;refine AW.block ?_
 cases below with
 | true =>
  refine Z1 ?_;refine Ze rfl (fun h2=>?_) (fun h2=>?_)
  ·have h3:n≤9223372036854775808:=by simp at h2;omega
   refine Z ?_
   have hf:Z2b (-(n:Int))=true:=by unfold Z2b;rw [decide_eq_true_iff];omega
   rw [Zvh hf];refine congrArg V.tuple ?_;simp only [List.cons.injEq,V.int.injEq,true_and,and_true];rw [Zdf,Zcj];omega
  ·have h3:¬ n≤9223372036854775808:=by simp at h2;omega
   refine Z1 ?_;refine Ze rfl (fun h4=>?_) (fun h4=>?_)
   ·simp at h4
   ·refine Z ?_
    have hf:Z2b (-(n:Int))=false:=by unfold Z2b;rw [decide_eq_false_iff_not];omega
    rw [Zji hf]
    try rfl
 | false =>
  refine Z1 ?_;refine Ze rfl (fun h2=>?_) (fun h2=>?_)
  ·simp at h2
  ·refine Z1 ?_
   refine Ze rfl (fun h4=>?_) (fun h4=>?_)
   ·have h3:n≤9223372036854775807:=by simp at h4;omega
    refine Z ?_
    have hf:Z2b (n:Int)=true:=by unfold Z2b;rw [decide_eq_true_iff];omega
    rw [Zvh hf];refine congrArg V.tuple ?_;simp only [List.cons.injEq,V.int.injEq,true_and,and_true];rw [Zcj];omega
   ·have h3:¬ n≤9223372036854775807:=by simp at h4;omega
    refine Z ?_
    have hf:Z2b (n:Int)=false:=by unfold Z2b;rw [decide_eq_false_iff_not];omega
    rw [Zji hf]
    try rfl
theorem Ze9 (G:Nat→V) (hG:GOk G) (a b:Int) (ha:InK .i64 a) (hb:InK .i64 b):Spec Tryz.prog G 157 [.int .i64 a,.int .i64 b] Zm (fun v _=>v=encR (told (a+b))):=by
 refine Zo 0 19 [.tmp 4,.tmp 5] Tryz.func157 fun X=>?_;refine Z1 ?_;refine Z1 ?_;refine Z1 ?_;have key:=Zbea ha hb rfl;refine Ze rfl (fun h2=>?_) (fun h2=>?_)
 ·have h3:=key.1 (of_decide_eq_true h2)
  refine Z ?_;rw [Zji h3]
  try rfl
 ·have h3:Z2b (a+b)=true:=by
   have:=mt key.2 (of_decide_eq_false h2);simpa using this
  refine Z ?_;rw [Zvh h3,w64 ((Zso _).1 h3).1 ((Zso _).1 h3).2]
  try rfl
theorem Zdy (G:Nat→V) (hG:GOk G) (a b:Int) (ha:InK .i64 a) (hb:InK .i64 b):Spec Tryz.prog G 158 [.int .i64 a,.int .i64 b] Zm (fun v _=>v=encR (told (a-b))):=by
 refine Zo 0 19 [.tmp 4,.tmp 5] Tryz.func158 fun X=>?_;refine Z1 ?_;refine Z1 ?_;refine Z1 ?_;have key:=Z9ba ha hb rfl;refine Ze rfl (fun h2=>?_) (fun h2=>?_)
 ·have h3:=key.1 (of_decide_eq_true h2)
  refine Z ?_;rw [Zji h3]
  try rfl
 ·have h3:Z2b (a-b)=true:=by
   have:=mt key.2 (of_decide_eq_false h2);simpa using this
  refine Z ?_;rw [Zvh h3,w64 ((Zso _).1 h3).1 ((Zso _).1 h3).2]
  try rfl
theorem Za9 (G:Nat→V) (hG:GOk G) (a:Int) (ha:InK .i64 a):Spec Tryz.prog G 133 [.int .i64 a] Zm (fun v _=>v=encR (told (-a))):=by
 refine Zo 0 8 [.tmp 2,.tmp 3] Tryz.func133 fun X=>?_;refine Z1 ?_;refine Z1 ?_;refine Zn hG ?_ (s:=(Zdy G hG 0 a ((Zyb 0).2 (by decide)) ha));rw [Int.zero_sub];refine Zsf @encR.eq_1 ?_;exact Zr
theorem Zxu {n:Nat} (h:n<18446744073709551616):andZ .u64 n 4294967295=((n % 4294967296:Nat):Int):=by
 show IntKind.u64.wrap ((BitVec.ofInt 64 (n:Int) &&& BitVec.ofInt 64 4294967295).toNat)=_
 have e:(BitVec.ofInt 64 (n:Int) &&& BitVec.ofInt 64 4294967295).toNat=n % 4294967296:=by
  rw [BitVec.toNat_and]
  have e1:(BitVec.ofInt 64 (n:Int)).toNat=n:=by
   rw [BitVec.toNat_ofInt];omega
  have e2:(BitVec.ofInt 64 4294967295).toNat=2 ^ 32-1:=by decide
  rw [e1,e2,Nat.and_two_pow_sub_one_eq_mod]
 rw [e,Zdf];omega
theorem Z97 (n:Nat):shrZ .u64 n 32=((n / 4294967296:Nat):Int):=by
 show (n:Int).fdiv (2 ^ min (32:Int).toNat 64)=_
 have:(2:Int) ^ min (32:Int).toNat 64=4294967296:=by decide
 rw [this,Int.fdiv_eq_ediv_of_nonneg _ (by decide)];omega
theorem wmul {a b:Nat} (h:a * b<18446744073709551616):IntKind.u64.wrap ((a:Int) * b)=((a * b:Nat):Int):=by
 rw [Zdf,← Int.natCast_mul];omega
theorem wadd {a b:Nat} (h:a+b<18446744073709551616):IntKind.u64.wrap ((a:Int)+b)=((a+b:Nat):Int):=by
 rw [Zdf];omega
theorem Z05 (G:Nat→V) (hG:GOk G) (x y:Nat) (hx:x<18446744073709551616) (hy:y<18446744073709551616) :
  Spec Tryz.prog G 175 [.int .u64 x,.int .u64 y] Zm (fun v _=>v = .tuple [.int .u64 (x * y / 18446744073709551616:Nat),.int .u64 (x * y % 18446744073709551616:Nat)]):=by
 obtain ⟨h1,h2,h3,h4⟩:=Lib.mul64_hi x y hx hy;have hq:x * y / 18446744073709551616<18446744073709551616:=Nat.div_lt_of_lt_mul (Nat.mul_lt_mul'' hx hy);refine Zo 0 51 [.tmp 4,.tmp 5] Tryz.func175 fun X=>?_;refine Z1 ?_;refine Z1 ?_;rw [Zxu hx];refine Z1 ?_;rw [Z97];refine Z1 ?_;rw [Zxu hy];refine Z1 ?_;rw [Z97];have ha:=Lib.half_mul_le (a:=x / 4294967296) (b:=y / 4294967296) (by omega) (by omega);have hb:=Lib.half_mul_le (a:=x / 4294967296) (b:=y % 4294967296) (by omega) (by omega);have hc:=Lib.half_mul_le (a:=x % 4294967296) (b:=y / 4294967296) (by omega) (by omega);have hd:=Lib.half_mul_le (a:=x % 4294967296) (b:=y % 4294967296) (by omega) (by omega);refine Z1 ?_;rw [wmul h1];refine Z1 ?_;rw [Z97,wmul (by omega),wadd h2];generalize (x / 4294967296) * (y % 4294967296)+(x % 4294967296) * (y % 4294967296) / 4294967296=t at *;refine Z1 ?_;rw [Zxu h2];refine Z1 ?_;rw [Z97];refine Z1 ?_;rw [wmul (by omega),wadd h3];generalize t % 4294967296+x % 4294967296 * (y / 4294967296)=w1 at *;refine Z1 ?_;rw [wmul (by omega),wadd (by omega),Z97,wadd (by omega),h4];refine Z ?_;refine congrArg V.tuple ?_;simp only [List.cons.injEq,V.int.injEq,true_and,and_true];rw [Zdf,← Int.natCast_mul];omega
theorem Zb9 (G:Nat→V) (hG:GOk G) (a b:Int) (ha:InK .i64 a) (hb:InK .i64 b):Spec Tryz.prog G 154 [.int .i64 a,.int .i64 b] Zm (fun v _=>v=encR (told (a * b))):=by
 have ha':=(Zyb a).1 ha;have hb':=(Zyb b).1 hb;refine Zo 0 27 [.tmp 4,.tmp 5] Tryz.func154 fun X=>?_;refine Z1 ?_;refine Z1 ?_;refine Zc hG ?_ (s:=(Zbh G hG a ha));refine Zc hG ?_ (s:=(Zbh G hG b hb));refine Zc hG ?_ (s:=(Z05 G hG a.natAbs b.natAbs (by omega) (by omega)));refine Z1 ?_;have hab:(a * b).natAbs=a.natAbs * b.natAbs:=Int.natAbs_mul a b;refine Ze rfl (fun h2=>?_) (fun h2=>?_)
 ·have h3:a.natAbs * b.natAbs≥18446744073709551616:=by
   have:¬ (a.natAbs * b.natAbs) / 18446744073709551616=0:=by
    intro e;rw [e] at h2;simp at h2
   omega
  refine Z ?_
  have hf:Z2b (a * b)=false:=by unfold Z2b;rw [decide_eq_false_iff_not];omega
  rw [Zji hf]
  try rfl
 ·have h3:a.natAbs * b.natAbs<18446744073709551616:=by
   have:(a.natAbs * b.natAbs) / 18446744073709551616=0:=by
    generalize a.natAbs * b.natAbs / 18446744073709551616=q at h2
    have:(q:Int)=0:=by simpa using h2
    omega
   omega
  refine Z1 ?_;refine Zn hG ?_ (s:=(Znk G hG _ _ (Nat.mod_lt _ (by omega))));rw [Nat.mod_eq_of_lt h3]
  have key:(if (decide (a<0) != decide (b<0))=true then -((a.natAbs * b.natAbs:Nat):Int) else ((a.natAbs * b.natAbs:Nat):Int))=a * b:=by
   rw [← hab]
   by_cases h4:a<0<;>by_cases h5:b<0<;>simp only [h4,h5,decide_true,decide_false,bne_self_eq_false,Zsq,Ztq,if_true,Bool.false_eq_true,if_false]
   ·have:=Int.mul_pos_of_neg_of_neg h4 h5;omega
   ·have:=Int.mul_nonpos_of_nonpos_of_nonneg (Int.le_of_lt h4) (Int.not_lt.1 h5);omega
   ·have:=Int.mul_nonpos_of_nonneg_of_nonpos (Int.not_lt.1 h4) (Int.le_of_lt h5);omega
   ·have:=Int.mul_nonneg (Int.not_lt.1 h4) (Int.not_lt.1 h5);omega
  rw [key];refine Zsf @encR.eq_1 ?_;exact Zr
theorem Zd9 (G:Nat→V) (hG:GOk G) (a b:Int) (ha:InK .i64 a) (hb:InK .i64 b):Spec Tryz.prog G 155 [.int .i64 a,.int .i64 b] Zm (fun v _=>v=encR (divR a b)):=by
 have ha':=(Zyb a).1 ha;have hb':=(Zyb b).1 hb;refine Zo 0 21 [.tmp 4,.tmp 5] Tryz.func155 fun X=>?_;refine Z1 ?_;refine Z1 ?_;refine Ze rfl (fun h2=>?_) (fun h2=>?_)
 ·have h3:b=0:=by simpa using h2
  refine Z ?_;rw [divR,if_pos h3]
  try rfl
 ·have h3:¬ b=0:=by simpa using h2
  refine Z1 ?_;refine Zc hG ?_ (s:=(Zbh G hG a ha));refine Zn hG ?_ (s:=(Zbh G hG b hb))
  have hz:¬ ((b.natAbs:Nat):Int)=0:=by omega
  have hqd:(a.natAbs:Int).tdiv (b.natAbs:Int)=((a.natAbs / b.natAbs:Nat):Int):=by rw [Int.tdiv_eq_ediv_of_nonneg (by omega)]<;>rfl
  have hql:a.natAbs / b.natAbs≤a.natAbs:=Nat.div_le_self _ _
  have hqw:IntKind.u64.wrap ((a.natAbs / b.natAbs:Nat):Int)=((a.natAbs / b.natAbs:Nat):Int):=by
   generalize a.natAbs / b.natAbs=q at hql;rw [Zdf];omega
  refine Zsf (zi hz (zi hqd hqw)) ?_;refine Zn hG ?_ (s:=(Znk G hG _ _ (by omega)))
  have key:(if (decide (a<0) != decide (b<0))=true then -((a.natAbs / b.natAbs:Nat):Int) else ((a.natAbs / b.natAbs:Nat):Int))=a.tdiv b:=by
   rw [Zeo]
  rw [key];refine Zsf @encR.eq_1 ?_;refine Z ?_;rw [divR,if_neg h3]
  try rfl
theorem Zc9 (G:Nat→V) (hG:GOk G) (a b:Int) (ha:InK .i64 a) (hb:InK .i64 b):Spec Tryz.prog G 156 [.int .i64 a,.int .i64 b] Zm (fun v _=>v=encR (modR a b)):=by
 have ha':=(Zyb a).1 ha;have hb':=(Zyb b).1 hb;refine Zo 0 18 [.tmp 4,.tmp 5] Tryz.func156 fun X=>?_;refine Z1 ?_;refine Z1 ?_;refine Ze rfl (fun h2=>?_) (fun h2=>?_)
 ·have h3:b=0:=by simpa using h2
  refine Z ?_;rw [modR,if_pos h3]
  try rfl
 ·have h3:¬ b=0:=by simpa using h2
  refine Z1 ?_;refine Zc hG ?_ (s:=(Zbh G hG a ha));refine Zn hG ?_ (s:=(Zbh G hG b hb))
  have hz:¬ ((b.natAbs:Nat):Int)=0:=by omega
  have hqd:(a.natAbs:Int).tmod (b.natAbs:Int)=((a.natAbs % b.natAbs:Nat):Int):=by rw [Int.tmod_eq_emod_of_nonneg (by omega)]<;>rfl
  have hql:a.natAbs % b.natAbs≤a.natAbs:=Nat.mod_le _ _;refine Zsf (zi hz hqd) ?_;refine Zn hG ?_ (s:=(Znk G hG _ _ (by omega)))
  have key:(if decide (a<0)=true then -((a.natAbs % b.natAbs:Nat):Int) else ((a.natAbs % b.natAbs:Nat):Int))=a.tmod b:=by
   rw [Zpt]
  rw [key];refine Zsf @encR.eq_1 ?_;refine Z ?_;rw [modR,if_neg h3]
  try rfl
def Zae (l:List Nat):List Int:=l.map (fun (d:Nat)=>(d:Int))
@[simp] theorem Ztd (l:List Nat):(Zae l).length=l.length:=by simp [Zae]
theorem Zro (l:List Nat) (k:Nat):(Zae l)[k]? = (l[k]?).map (fun (d:Nat)=>(d:Int)):=by simp [Zae]
theorem Zgf (a b:List Nat):Zae (a++b)=Zae a++Zae b:=by simp [Zae]
def slD (nl:Bool) (l:List Nat):Sl Int:=if nl then .nil else .mk false (Zae l)
theorem Zhn (G:Nat→V) (hG:GOk G) (c:Col) (s:Sl Int) (la:List Nat) (hs:s.l=Zae la) (k:Nat) (hl:la.length<1000000000) :
  Spec Tryz.prog G 178 [Za c 1 (V.int .i64) s,.int .i64 k] Zm (fun v _=>v = .int .i64 (la.getD k 0:Nat)):=by
 refine Zo 0 13 [.tmp 4] Tryz.func178 fun X=>?_;refine Z1 ?_;refine Z1f (zi hs @Ztd) ?_;refine Ze rfl (fun h2=>?_) (fun h2=>?_)
 ·have h3:k<la.length:=by simpa using h2
  have hg:(Zae la)[k]? = some ((la.getD k 0:Nat):Int):=by
   rw [Zro,List.getElem?_eq_getElem h3,List.getD_eq_getElem?_getD,List.getElem?_eq_getElem h3]
   try rfl
  exact Zq (zi hs hg)
 ·have h3:¬ k<la.length:=by simpa using h2
  refine Z ?_;rw [List.getD_eq_getElem?_getD,List.getElem?_eq_none (by omega)]
  try rfl
theorem Z8g (G:Nat→V) (hG:GOk G) (c:Col) (nl:Bool) (l:List Nat) (hnl:nl=true→l=[]) (hl:l.length<1000000000) :
  Spec Tryz.prog G 164 [Za c 1 (V.int .i64) (slD nl l)] Zm (fun v _=>v=Za c 1 (V.int .i64) (slD nl (Zgx l.length l))):=by
 refine Zo 0 21 [.tmp 2] Tryz.func164 fun X=>?_
 have hsl:(slD nl l).l=Zae l:=by
  cases nl with
  | true=>rw [hnl rfl]<;>rfl
  | false=>rfl
 refine Z1 ?_;refine Z5 ?_;refine AW.block ?_
 refine Zhc (fun (m:List Nat)=>st [(0,Za c 1 (V.int .i64) (slD nl m))] []) (fun m=>Zgx m.length m=Zgx l.length l∧(nl=true→m=[])∧m.length≤l.length) (fun m=>m.length) l ⟨rfl,hnl,Nat.le_refl _⟩
  (Zb zp zp) ?_
 rintro m ⟨hm,hmn,hml⟩ L2 hL2
 have hsm:(slD nl m).l=Zae m:=by
  cases nl with
  | true=>rw [hmn rfl]<;>rfl
  | false=>rfl
 refine Z5 ?_
 rcases List.eq_nil_or_concat m with rfl | ⟨m',d,hme⟩
 ·refine Z1f (zi hsm @Ztd) ?_
  refine Ze rfl (fun h4=>?_) (fun h4=>?_)
  ·simp at h4
  ·refine Z ?_
   rw [← hm]
   try rfl
 ·rw [List.concat_eq_append] at hme
  have hlen:m.length=m'.length+1:=by rw [hme];simp
  have hw:IntKind.i64.wrap ((m.length:Int)-1)=(m'.length:Int):=by rw [w64 (by omega) (by omega)];omega
  have hg:(Zae m)[m'.length]? = some (d:Int):=by rw [hme,Zro];simp
  have hpos:decide ((m.length:Int) > 0)=true:=zT
  have hlast:m.getLast? = some d:=by rw [hme];simp
  have hnlf:nl=false:=by
   cases nl with
   | true=>rw [hmn rfl] at hlen;simp at hlen
   | false=>rfl
  subst hnlf
  by_cases hd:d=0
  ·subst hd
   refine Z1f (zi hsm (zi @Ztd (zi hpos (zi hw hg)))) ?_;refine Ze rfl (fun h4=>?_) (fun h4=>?_)
   ·refine Z0 ?_
    refine AW.block ?_
    have hle:m'.length≤m.length:=by omega
    refine Z1f (zi hsm (zi @Ztd (zi hw hle))) ?_
    have hsub:(slD false m).sub 0 m'.length=slD false m':=by
     rw [hme];simp [slD,Sl.sub,Zgf,Ztd]
    refine hL2 _ ⟨m',by omega,⟨?_,by simp,by omega⟩,Zb (zpf hsub) zp⟩;rw [← hm,hlen,Zgx,if_pos (by rw [hlast]),hme];simp
   ·simp at h4
  ·have hd0:((d:Int)==0)=false:=by simpa using hd
   refine Z1f (zi hsm (zi @Ztd (zi hpos (zi hw (zi hg hd0))))) ?_;refine Ze rfl (fun h4=>?_) (fun h4=>?_)
   ·simp at h4
   ·refine Z ?_
    rw [← hm,hlen,Zgx,if_neg (by rw [hlast];simpa using hd)]
def encLong (c:Col) (nl:Bool) (l:List Nat) (below:Bool):V := .agg [Za c 1 (V.int .i64) (slD nl l),.bool below]
theorem Zpl {nl:Bool} {l:List Nat} (h:nl=true→l=[]):(slD nl l).l=Zae l:=by
 cases nl with
 | true=>rw [h rfl]<;>rfl
 | false=>rfl
theorem Zde (G:Nat→V) (hG:GOk G) (n:Int) (hn:InK .i64 n):Spec Tryz.prog G 98 [.int .i64 n] Zm (fun v _=>v=encLong .new (decide (n=0)) (dg n.natAbs) (decide (n<0))):=by
 have hn':=(Zyb n).1 hn;refine Zo 0 24 [.cell 2 204] Tryz.func98 fun X=>?_;refine Z1 ?_;intro g2;refine Z1 ?_;intro g3;refine Z5 ?_;refine AW.block ?_
 refine Zhc (fun (x:Nat × Int × List Nat)=>st [(0,.int .i64 x.2.1),(2,.ptr 2 g2 0),(3,.ptr 3 g3 0)] [(2,.cells .new g2 0 [.nils,.bool false]),(3,.cells .new g3 0 [grown 19 x.1 1 (Zae x.2.2),.bool (decide (n<0))]),(19,Zua x.1 (V.int .i64) (Zae x.2.2))])
  (fun x=>InK .i64 x.2.1∧(x.2.1≤0∧n≤0∨0≤x.2.1∧0≤n)∧x.2.2++dg x.2.1.natAbs=dg n.natAbs) (fun x=>x.2.1.natAbs) (0,n,[]) ⟨hn,by show n≤0∧n≤0∨0≤n∧0≤n;omega,rfl⟩
  (Zb zp (by simp -implicitDefEqProofs only[go_sem,seval];try exact ⟨rfl,rfl⟩)) ?_
 rintro ⟨gx,m,out⟩ ⟨hm,hsg,hout⟩ L2 hL2;have hm:InK .i64 m:=hm;have hm':=(Zyb m).1 hm;have hout:out++dg m.natAbs=dg n.natAbs:=hout
 have hol:out.length+(dg m.natAbs).length≤20:=by
  rw [← List.length_append,hout];exact Zik (by omega)
 refine Z1 ?_;refine Ze rfl (fun h4=>?_) (fun h4=>?_)
 ·have h5:m≠0:=by simpa using h4
  refine Z1 ?_
  have ht:m.tdiv 10=if m<0 then -((m.natAbs / 10:Nat):Int) else ((m.natAbs / 10:Nat):Int):=by
   rw [Zeo]
   by_cases h:m<0<;>simp [h]
  have hr:m.tmod 10=if m<0 then -((m.natAbs % 10:Nat):Int) else ((m.natAbs % 10:Nat):Int):=by
   rw [Zpt]
   by_cases h:m<0<;>simp [h]
  have hd:(if IntKind.i64.wrap (0-m.tmod 10) > m.tmod 10 then IntKind.i64.wrap (0-m.tmod 10) else m.tmod 10)=((m.natAbs % 10:Nat):Int):=by
   rw [w64 (by rw [hr];split<;>omega) (by rw [hr];split<;>omega),hr]
   split<;>split<;>omega
  have hw:IntKind.i64.wrap (m.tdiv 10)=m.tdiv 10:=w64 (by rw [ht];split<;>omega) (by rw [ht];split<;>omega);refine Z1f hd ?_;intro g18
  have hdl:(dg m.natAbs).length=(dg (m.natAbs / 10)).length+1:=by rw [Z1i (by omega)]<;>rfl
  refine Zza (f:=V.int .i64) (l:=Zae out) (l2:=[((m.natAbs % 10:Nat):Int)]) (g:=gx) (fun _=>rfl) rfl rfl rfl rfl (Zca (by omega) (by simp;omega)) fun g19=>?_;refine Zs ?_;refine Z1f hw ?_
  have hn2:(m.tdiv 10).natAbs=m.natAbs / 10:=by rw [ht];split<;>omega
  refine hL2 _ ⟨(g19,m.tdiv 10,out++[m.natAbs % 10]),?_,⟨(show InK .i64 (m.tdiv 10) from (Zyb _).2 (by rw [ht];split<;>omega)),?_,?_⟩,Zb zp (by simp -implicitDefEqProofs only[go_sem,seval,Zgf];try exact ⟨rfl,rfl⟩)⟩
  ·show (m.tdiv 10).natAbs<m.natAbs
   rw [hn2];omega
  ·show m.tdiv 10≤0∧n≤0∨0≤m.tdiv 10∧0≤n
   have hsg:m≤0∧n≤0∨0≤m∧0≤n:=hsg
   rw [ht];split<;>omega
  ·show out++[m.natAbs % 10]++dg (m.tdiv 10).natAbs=dg n.natAbs
   rw [hn2,← hout,Z1i (n:=m.natAbs) (by omega)];simp
 ·have h5:m=0:=by simpa using h4
  subst h5
  have hout:out=dg n.natAbs:=by simpa [Zeg] using hout
  refine Z0 ?_;refine AW.weak (Zz (fun o=>o==19) (l:=[(2,.ptr 2 g2 0),(3,.ptr 3 g3 0)]) (m:=[(2,.cells .new g2 0 [.nils,.bool false]),(3,.cells .new g3 0 [Za .new 1 (V.int .i64) (Zv (Zae out)),.bool (decide (n<0))])]) ?_ ?_) ?_
  ·refine Zs ?_
   exact ⟨Zd _,Zd _⟩
  ·simp only [Zl,Zt,and_true]
   exact ⟨FzO.keep rfl zp,Zlh rfl rfl ⟨Z1a rfl rfl (fun _=>rfl),Zd _,trivial⟩⟩
  refine Z ?_;rw [hout]
  have:Zv (Zae (dg n.natAbs))=slD (decide (n=0)) (dg n.natAbs):=by
   by_cases h:n=0
   ·subst h;rfl
   ·have:dg n.natAbs≠[]:=by rw [Ne,Zh6];omega
    rw [show decide (n=0)=false by simpa using h]
    revert this
    cases dg n.natAbs with
    | nil=>intro h;exact absurd rfl h
    | cons x r=>intro _;rfl
  rw [this]
  try rfl
theorem Zpg (l:List Nat) (k:Nat):val (l.drop k)=l.getD k 0+10 * val (l.drop (k+1)):=by
 by_cases h:k<l.length
 ·rw [List.drop_eq_getElem_cons h,val,List.getD_eq_getElem?_getD,List.getElem?_eq_getElem h]
  try rfl
 ·rw [List.drop_eq_nil_of_le (by omega),List.drop_eq_nil_of_le (by omega),List.getD_eq_getElem?_getD,List.getElem?_eq_none (by omega)]
  try rfl
theorem Z2g {l:List Nat} (h:Dig l) (k:Nat):l.getD k 0<10:=by
 rw [List.getD_eq_getElem?_getD]
 by_cases hk:k<l.length
 ·rw [List.getElem?_eq_getElem hk]
  exact h _ (List.getElem_mem hk)
 ·rw [List.getElem?_eq_none (by omega)]
  decide
theorem Zjd {l:List Nat} {k:Nat} (h:k<l.length):(Zae l)[k]? = some ((l.getD k 0:Nat):Int):=by
 rw [Zro,List.getElem?_eq_getElem h,List.getD_eq_getElem?_getD,List.getElem?_eq_getElem h]
 try rfl
theorem Zq8 (k:Nat):0<10 ^ k:=Nat.pow_pos (by decide)
theorem Zyk {l:List Nat} {nl:Bool} (h:nl=decide (l=[])):Zv (Zae l)=slD nl l:=by
 cases l with
 | nil=>subst h;rfl
 | cons x r =>
  subst h;rw [show decide (x::r=[])=false by simp]
  try rfl
theorem Z9da {K n A B o V:Nat} (h:o+K * (n+10 * A+10 * B)=V):(o+K * (n % 10))+(K * 10) * (n / 10+A+B)=V:=by
 rw [← h,Nat.mul_assoc,Nat.add_assoc,← Nat.mul_add]
 congr 2
 omega
structure AddI (la lb:List Nat) (M k:Nat) (out:List Nat) (cr:Nat):Prop where
 len:out.length=k
 dig:Dig out
 hcr:cr≤1
 v:val out+10 ^ k * (cr+val (la.drop k)+val (lb.drop k))=val la+val lb
 last:k=M+1→cr=0
 emp:M=0→k=0∧cr=0
theorem AddI.zero (la lb:List Nat) (M:Nat):AddI la lb M 0 [] 0:={ len:=rfl,dig:=fun d hd=>by simp at hd,hcr:=by omega,v:=by simp [val],last:=fun _=>rfl,emp:=fun _=>⟨rfl,rfl⟩ }
theorem AddI.step {la lb:List Nat} {M k:Nat} {out:List Nat} {cr:Nat} (h:AddI la lb M k out cr) (hM:M=max la.length lb.length) (da:Dig la) (db:Dig lb) (hgo:k<M∨cr > 0) {n:Nat} (hn:n=la.getD k 0+lb.getD k 0+cr) (hk:k≤M) :
  AddI la lb M (k+1) (out++[n % 10]) (n / 10):=by
 have h1:=Z2g da k;have h2:=Z2g db k;have h3:=h.hcr;refine ⟨by simp [h.len],Dig.app.2 ⟨h.dig,Dig.one (by omega)⟩,by omega,?_,fun e=>?_,fun e=>?_⟩
 ·have hv:=h.v
  rw [Zpg la k,Zpg lb k] at hv;rw [Zth,h.len,Nat.pow_succ]
  have e:val out+10 ^ k * (n+10 * val (la.drop (k+1))+10 * val (lb.drop (k+1)))=val la+val lb:=by
   rw [← hv,hn]
   congr 2
   omega
  simpa [val] using Z9da e
 ·have e1:la.getD k 0=0:=by rw [List.getD_eq_getElem?_getD,List.getElem?_eq_none (by omega)]<;>rfl
  have e2:lb.getD k 0=0:=by rw [List.getD_eq_getElem?_getD,List.getElem?_eq_none (by omega)]<;>rfl
  omega
 ·have:=h.emp e
  omega
theorem AddI.done {la lb:List Nat} {M k:Nat} {out:List Nat} {cr:Nat} (h:AddI la lb M k out cr) (hM:M=max la.length lb.length) (hno:¬ (k<M∨cr > 0)):val out=val la+val lb∧decide (la=[]∧lb=[])=decide (out=[]):=by
 have hc0:cr=0:=by omega
 have hv:=h.v;rw [List.drop_eq_nil_of_le (show la.length≤k by omega),List.drop_eq_nil_of_le (show lb.length≤k by omega),hc0] at hv;refine ⟨by simpa [val] using hv,?_⟩;rw [decide_eq_decide,← List.length_eq_zero_iff,← List.length_eq_zero_iff,← List.length_eq_zero_iff,h.len];have:=h.emp;omega
theorem Z4x (G:Nat→V) (hG:GOk G) (c1 c2:Col) (sa sb:Sl Int) (la lb:List Nat) (ha:sa.l=Zae la) (hb:sb.l=Zae lb) (da:Dig la) (db:Dig lb) (hla:la.length<1000000) (hlb:lb.length<1000000) :
  Spec Tryz.prog G 163 [Za c1 1 (V.int .i64) sa,Za c2 1 (V.int .i64) sb] Zm (fun v _=>v=Za .any 1 (V.int .i64) (slD (decide (la=[]∧lb=[])) (dg (val la+val lb)))):=by
 have hal:sa.l.length=la.length:=by rw [ha];simp
 have hbl:sb.l.length=lb.length:=by rw [hb];simp
 obtain ⟨M,hM⟩:∃ M,M=max la.length lb.length:=⟨_,rfl⟩
 have hmx:(if ((lb.length:Nat):Int) > ((la.length:Nat):Int) then ((lb.length:Nat):Int) else ((la.length:Nat):Int))=(M:Int):=by split<;>omega
 refine Zo 0 40 [.tmp 4] Tryz.func163 fun X=>?_;refine Z1 ?_;refine Z1 ?_;refine Z1 ?_;refine Z1 ?_;refine AW.block ?_
 refine Zwa (M+1) (fun k (x:Nat × List Nat × Nat)=>st [(0,Za c1 1 (V.int .i64) sa),(1,Za c2 1 (V.int .i64) sb),(5,grown 35 x.1 1 (Zae x.2.1)),(6,.int .i64 x.2.2),(7,.int .i64 k)] [(35,Zua x.1 (V.int .i64) (Zae x.2.1))])
  (fun k x=>AddI la lb M k x.2.1 x.2.2) 0 (0,[],0) (Nat.zero_le _) (AddI.zero la lb M)
  (Zb zp zp) ?_
 rintro k ⟨gx,out,cr⟩ hk hI L2 hL2;have hI:AddI la lb M k out cr:=hI;have hol:=hI.len;have hcr:=hI.hcr;refine Zha (fun (_:Unit)=>st [(0,Za c1 1 (V.int .i64) sa),(1,Za c2 1 (V.int .i64) sb),(5,grown 35 gx 1 (Zae out)),(6,.int .i64 cr),(7,.int .i64 k)] [(35,Zua gx (V.int .i64) (Zae out))]) (fun _=>k<M∨cr > 0) (fun K3 hK3=>?_) ?_
 ·by_cases h1:k<M
  ·have h1':decide ((k:Int)<(M:Int))=true:=zT
   refine Z1f (zi hal (zi hbl (zi hmx h1'))) ?_;refine Ze rfl (fun h4=>?_) (fun h4=>?_)
   ·refine Z0 ?_
    exact hK3 _ () (.inl h1) (Zb zp zp)
   ·simp at h4
  ·have h1':decide ((k:Int)<(M:Int))=false:=zF
   refine Z1f (zi hal (zi hbl (zi hmx h1'))) ?_;refine Ze rfl (fun h4=>?_) (fun h4=>?_)
   ·refine Z0 ?_
    exact hK3 _ () (.inr (by have:=of_decide_eq_true h4;omega)) (Zb zp zp)
   ·have hno:¬ (k<M∨cr > 0):=by have:=of_decide_eq_false h4;omega
    obtain ⟨hvo,hone⟩:=hI.done hM hno;refine Z0 ?_;refine AW.weak (Zz (fun o=>o==35) (l:=[(5,Za .new 1 (V.int .i64) (slD (decide (out=[])) out))]) (m:=[]) ?_ trivial) ?_
    ·refine Zs ?_
     rw [← Zyk rfl];exact Z1a rfl rfl (fun _=>rfl)
    refine Z1 ?_;refine Zc hG ?_ (s:=(Z8g G hG _ (decide (out=[])) out (by simp) (by omega)));refine Z ?_;rw [Zuh _ _ (Nat.le_refl _) hI.dig,hvo,hone]
 ·intro _ hgo
  have hkM:k≤M:=by
   rcases hgo with h | h
   ·omega
   ·have:=hI.last;omega
  have h5:=Z2g da k;have h6:=Z2g db k;refine Z1 ?_;refine Zc hG ?_ (s:=(Zhn G hG _ sa la ha k (by omega)));refine Zn hG ?_ (s:=(Zhn G hG _ sb lb hb k (by omega)))
  have hw1:IntKind.i64.wrap (((la.getD k 0:Nat):Int)+((lb.getD k 0:Nat):Int))=((la.getD k 0+lb.getD k 0:Nat):Int):=by rw [w64 (by omega) (by omega)];omega
  have hw2:IntKind.i64.wrap (((la.getD k 0+lb.getD k 0:Nat):Int)+(cr:Int))=((la.getD k 0+lb.getD k 0+cr:Nat):Int):=by rw [w64 (by omega) (by omega)];omega
  refine Zsf (zi hw1 hw2) ?_;obtain ⟨n,hn⟩:∃ n,n=la.getD k 0+lb.getD k 0+cr:=⟨_,rfl⟩;rw [← hn]
  have hr:(n:Int).tmod 10=((n % 10:Nat):Int):=by rw [Int.tmod_eq_emod_of_nonneg (by omega)]<;>rfl
  have hq:IntKind.i64.wrap ((n:Int).tdiv 10)=((n / 10:Nat):Int):=by rw [Int.tdiv_eq_ediv_of_nonneg (by omega),w64 (by omega) (by omega)]<;>rfl
  refine Z1f hr ?_;intro g34;refine Zza (f:=V.int .i64) (l:=Zae out) (l2:=[((n % 10:Nat):Int)]) (g:=gx) (fun _=>rfl) rfl rfl rfl rfl (Zca (by omega) (by simp;omega)) fun g35=>?_;refine Zs ?_;refine Z1f hq ?_;refine Z1 ?_;refine hL2 _ ⟨by omega,(g35,out++[n % 10],n / 10),hI.step hM da db hgo hn hkM,Zb (by simp -implicitDefEqProofs only[go_sem,seval,Zgf];exact ⟨rfl,congrArg _ (w64 (by omega) (by omega))⟩) (zpf @Zgf)⟩
structure TakeI (la lb:List Nat) (k:Nat) (out:List Nat) (br:Nat):Prop where
 len:out.length=k
 dig:Dig out
 hbr:br≤1
 v:(val out:Int)+(10:Int) ^ k * ((val (la.drop k):Int)-br-val (lb.drop k))=val la-val lb
theorem TakeI.zero (la lb:List Nat):TakeI la lb 0 [] 0:={ len:=rfl,dig:=fun d hd=>by simp at hd,hbr:=by omega,v:=by simp [val] }
theorem Zz7 {K x A B o V b:Int} {d br':Int} (h:o+K * (x+10 * A-b-(d+10 * B))=V) {n:Int} (hn:n=x-d-b+10 * br'):(o+K * n)+(K * 10) * (A-br'-B)=V:=by
 rw [← h,hn,Int.mul_assoc,Int.add_assoc,← Int.mul_add]
 congr 2
 omega
theorem TakeI.step {la lb:List Nat} {k:Nat} {out:List Nat} {br:Nat} (h:TakeI la lb k out br) {n br':Nat} (hn:(n:Int)=(la.getD k 0:Nat)-(lb.getD k 0:Nat)-br+10 * br') (hn10:n<10) (hb:br'≤1) :
  TakeI la lb (k+1) (out++[n]) br':=by
 refine ⟨by simp [h.len],Dig.app.2 ⟨h.dig,Dig.one hn10⟩,hb,?_⟩;have hv:=h.v;rw [Zpg la k,Zpg lb k] at hv;rw [Zth,h.len,Int.pow_succ]
 have e:(val out:Int)+(10:Int) ^ k * (((la.getD k 0:Nat):Int)+10 * (val (la.drop (k+1)):Int)-(br:Int)-(((lb.getD k 0:Nat):Int)+10 * (val (lb.drop (k+1)):Int)))=val la-val lb:=by
  rw [← hv]
  congr 2
 have:=Zz7 e hn;simpa [val] using this
theorem TakeI.done {la lb:List Nat} {out:List Nat} {br:Nat} (h:TakeI la lb la.length out br) (hl:lb.length≤la.length) (hv:val lb≤val la):val out=val la-val lb:=by
 have h1:=h.v;rw [List.drop_eq_nil_of_le (Nat.le_refl _),List.drop_eq_nil_of_le hl] at h1;have h2:=Zcx h.dig;rw [h.len] at h2;have h3:=h.hbr
 have h4:((10 ^ la.length:Nat):Int)=(10:Int) ^ la.length:=by simp
 have hb:br=0∨br=1:=by omega
 rcases hb with rfl | rfl
 ·simp [val] at h1;omega
 ·simp [val] at h1
  generalize (10:Int) ^ la.length=K at *
  have:K * -1 = -K:=by rw [Int.mul_neg,Int.mul_one]
  omega
theorem Zk5 (G:Nat→V) (hG:GOk G) (c1 c2:Col) (sa sb:Sl Int) (la lb:List Nat) (ha:sa.l=Zae la) (hb:sb.l=Zae lb) (da:Dig la) (db:Dig lb) (hla:la.length<1000000) (hlb:lb.length≤la.length) (hab:val lb≤val la) :
  Spec Tryz.prog G 166 [Za c1 1 (V.int .i64) sa,Za c2 1 (V.int .i64) sb] Zm (fun v _=>v=Za .any 1 (V.int .i64) (slD (decide (la=[])) (dg (val la-val lb)))):=by
 have hal:sa.l.length=la.length:=by rw [ha];simp
 refine Zo 0 35 [.tmp 4] Tryz.func166 fun X=>?_;refine Z1 ?_;refine Z1 ?_;refine Z1 ?_;refine Z1 ?_;refine AW.block ?_
 refine Zwa la.length (fun k (x:Nat × List Nat × Nat)=>st [(0,Za c1 1 (V.int .i64) sa),(1,Za c2 1 (V.int .i64) sb),(5,grown 32 x.1 1 (Zae x.2.1)),(6,.int .i64 x.2.2),(7,.int .i64 k)] [(32,Zua x.1 (V.int .i64) (Zae x.2.1))])
  (fun k x=>TakeI la lb k x.2.1 x.2.2) 0 (0,[],0) (Nat.zero_le _) (TakeI.zero la lb)
  (Zb zp zp) ?_
 rintro k ⟨gx,out,br⟩ hk hI L2 hL2;have hI:TakeI la lb k out br:=hI;have hol:=hI.len;have hbr:=hI.hbr;refine Z1f hal ?_;refine Ze rfl (fun h4=>?_) (fun h4=>?_)
 ·have hk1:k<la.length:=by have:=of_decide_eq_true h4;omega
  refine Z0 ?_
  have hg:sa.l[k]? = some ((la.getD k 0:Nat):Int):=by rw [ha];exact Zjd hk1
  have p1:∀ cc,Z5g Tryz.prog G 178 [Za cc 1 (V.int .i64) sb,.int .i64 k] (.int .i64 (lb.getD k 0:Nat)):=fun cc=>⟨by kernel_rfl,by
   refine Zs ?_;refine (Zhn G hG _ sb lb hb k (by omega)).mono ?_;rintro _ _ rfl
   simp -implicitDefEqProofs only[go_sem,seval]⟩
  have h5:=Z2g da k;have h6:=Z2g db k;refine Z5 ?_;refine AW.block ?_;have hw1:IntKind.i64.wrap (((la.getD k 0:Nat):Int)-((lb.getD k 0:Nat):Int))=((la.getD k 0:Nat):Int)-((lb.getD k 0:Nat):Int):=w64 (by omega) (by omega);have hw2:IntKind.i64.wrap (((la.getD k 0:Nat):Int)-((lb.getD k 0:Nat):Int)-(br:Int))=((la.getD k 0:Nat):Int)-((lb.getD k 0:Nat):Int)-(br:Int):=w64 (by omega) (by omega)
  refine Z5 <| Zy ⟨fun i=>if i=6 then .int .i64 (lb.getD k 0:Nat) else .top,fun _ => .pure⟩ zk hG zk zk ?_
  refine Zsf (zi hg (zi hw1 hw2)) ?_;refine ⟨p1 _,?_⟩;refine Z1 ?_
  refine Zha (fun (y:Nat × Nat)=>st [(0,Za c1 1 (V.int .i64) sa),(1,Za c2 1 (V.int .i64) sb),(5,grown 32 gx 1 (Zae out)),(6,.int .i64 y.2),(7,.int .i64 k),(8,.int .i64 y.1)] [(32,Zua gx (V.int .i64) (Zae out))])
   (fun y=>(y.1:Int)=(la.getD k 0:Nat)-(lb.getD k 0:Nat)-br+10 * y.2∧y.1<10∧y.2≤1) (fun K5 hK5=>?_) ?_
  ·refine Z1 ?_
   refine Ze rfl (fun h7=>?_) (fun h7=>?_)
   ·have h7':=of_decide_eq_true h7
    refine Z1 ?_;refine Z1 ?_;refine hK5 _ (la.getD k 0+10-lb.getD k 0-br,1) ⟨by show ((la.getD k 0+10-lb.getD k 0-br:Nat):Int)=_;omega,by show la.getD k 0+10-lb.getD k 0-br<10;omega,by show 1≤1;omega⟩ (Zb (by simp -implicitDefEqProofs only[go_sem,seval];refine congrArg _ ?_;rw [w64 (by omega) (by omega)];omega) zp)
   ·have h7':=of_decide_eq_false h7
    refine Z0 ?_;refine hK5 _ (la.getD k 0-lb.getD k 0-br,0) ⟨by show ((la.getD k 0-lb.getD k 0-br:Nat):Int)=_;omega,by show la.getD k 0-lb.getD k 0-br<10;omega,by show 0≤1;omega⟩ (Zb (by simp -implicitDefEqProofs only[go_sem,seval];refine congrArg _ ?_;omega) zp)
  ·rintro ⟨n,br'⟩ ⟨hn,hn10,hb1⟩
   have hn:(n:Int)=(la.getD k 0:Nat)-(lb.getD k 0:Nat)-br+10 * br':=hn;have hn10:n<10:=hn10;have hb1:br'≤1:=hb1;refine Z1 ?_;intro g31;refine Zza (f:=V.int .i64) (l:=Zae out) (l2:=[(n:Int)]) (g:=gx) (fun _=>rfl) rfl rfl rfl rfl (Zca (by omega) (by simp;omega)) fun g32=>?_;refine Zs ?_;refine Z1 ?_;refine hL2 _ ⟨hk1,(g32,out++[n],br'),hI.step hn hn10 hb1,Zb (by simp -implicitDefEqProofs only[go_sem,seval,Zgf];exact ⟨rfl,congrArg _ (w64 (by omega) (by omega))⟩) (zpf @Zgf)⟩
 ·have hk1:k=la.length:=by have:=of_decide_eq_false h4;omega
  subst hk1;have hvo:=hI.done hlb hab;refine Z0 ?_;refine AW.weak (Zz (fun o=>o==32) (l:=[(5,Za .new 1 (V.int .i64) (slD (decide (out=[])) out))]) (m:=[]) ?_ trivial) ?_
  ·refine Zs ?_
   rw [← Zyk rfl];exact Z1a rfl rfl (fun _=>rfl)
  refine Z1 ?_;refine Zc hG ?_ (s:=(Z8g G hG _ (decide (out=[])) out (by simp) (by omega)));refine Z ?_
  have:decide (la=[])=decide (out=[]):=by rw [decide_eq_decide,← List.length_eq_zero_iff,← List.length_eq_zero_iff,hol]
  rw [Zuh _ _ (Nat.le_refl _) hI.dig,hvo,this]
theorem Zbx {l:List Nat} {i:Nat} (h:i<l.length):val l=val (l.take i)+10 ^ i * (l.getD i 0+10 * val (l.drop (i+1))):=by
 conv=>lhs;rw [← List.take_append_drop i l]
 rw [Zth,Zpg,List.length_take,Nat.min_eq_left (by omega)]
theorem Zo7 {a b:List Nat} {i:Nat} (da:Dig a) (db:Dig b) (ha:i<a.length) (hb:i<b.length) (he:a.drop (i+1)=b.drop (i+1)) (hne:a.getD i 0<b.getD i 0):val a<val b:=by
 have h1:=Zcx (l:=a.take i) fun d hd=>da d (List.mem_of_mem_take hd);rw [List.length_take,Nat.min_eq_left (by omega)] at h1;rw [Zbx ha,Zbx hb,he]
 have h2:10 ^ i * (a.getD i 0+10 * val (b.drop (i+1)))+10 ^ i≤10 ^ i * (b.getD i 0+10 * val (b.drop (i+1))):=by
  rw [← Nat.mul_succ];exact Nat.mul_le_mul_left _ (by omega)
 omega
theorem Zps (G:Nat→V) (hG:GOk G) (c1 c2:Col) (sa sb:Sl Int) (a b:Nat) (ha:sa.l=Zae (dg a)) (hb:sb.l=Zae (dg b)) (hla:(dg a).length<1000000) (hlb:(dg b).length<1000000) :
  Spec Tryz.prog G 165 [Za c1 1 (V.int .i64) sa,Za c2 1 (V.int .i64) sb] Zm (fun v _=>v = .bool (decide (a<b))):=by
 have hal:sa.l.length=(dg a).length:=by rw [ha];simp
 have hbl:sb.l.length=(dg b).length:=by rw [hb];simp
 have hva:=Z6c a;have hvb:=Z6c b;have hda:=Zsd a;have hdb:=Zsd b;have hlt1 := @Zkq a b;have hlt2 := @Zkq b a;generalize dg a=la at *;generalize dg b=lb at *;refine Zo 0 41 [.tmp 4] Tryz.func165 fun X=>?_;refine Z1 ?_;refine Z1f (zi hal hbl) ?_;refine Ze rfl (fun h2=>?_) (fun h2=>?_)
 ·have h3:la.length≠lb.length:=by intro e;rw [e] at h2;simp at h2
  refine Zf (zi hal hbl) ?_;refine congrArg V.bool (decide_eq_decide.2 ?_)
  constructor
  ·intro h;exact hlt1 (by omega)
  ·intro h
   have:¬ lb.length<la.length:=fun h'=>by have:=hlt2 h';omega
   omega
 ·have h3:la.length=lb.length:=by
   have h2':((la.length:Nat):Int)=((lb.length:Nat):Int):=by simpa using h2
   omega
  refine Z1f hal ?_;refine AW.block ?_
  refine Zwa la.length (fun k (_:Unit)=>st [(0,Za c1 1 (V.int .i64) sa),(1,Za c2 1 (V.int .i64) sb),(5,.int .i64 ((la.length:Int)-1-k))] []) (fun k _=>la.drop (la.length-k)=lb.drop (la.length-k)) 0 () (Nat.zero_le _) (by rw [List.drop_eq_nil_of_le (by omega),List.drop_eq_nil_of_le (by omega)])
   (Zb (by simp -implicitDefEqProofs only[go_sem,seval];exact congrArg _ (by rw [w64 (by omega) (by omega)];omega)) zp) ?_
  intro k _ hk hR L5 hL5;refine Z1 ?_;refine Ze rfl (fun h7=>?_) (fun h7=>?_)
  ·have hk1:k<la.length:=by have:=of_decide_eq_true h7;omega
   refine Z0 ?_;obtain ⟨i,hi⟩:∃ i,i=la.length-1-k:=⟨_,rfl⟩
   have e0:((la.length:Int)-1-k)=(i:Int):=by omega
   have g1:sa.l[i]? = some ((la.getD i 0:Nat):Int):=by rw [ha];exact Zjd (by omega)
   have g2:sb.l[i]? = some ((lb.getD i 0:Nat):Int):=by rw [hb];exact Zjd (by omega)
   have hR':la.drop (i+1)=lb.drop (i+1):=by rw [show i+1=la.length-k by omega];exact hR
   rw [e0];refine ZTf (zi g1 g2) hG ?_;refine Ze rfl (fun h9=>?_) (fun h9=>?_)
   ·have hne:la.getD i 0≠lb.getD i 0:=by intro e;rw [e] at h9;simp at h9
    refine ZTf (zi g1 g2) hG ?_;refine Z ?_;refine congrArg V.bool (decide_eq_decide.2 ?_);rw [← hva,← hvb]
    constructor
    ·intro h;exact Zo7 hda hdb (by omega) (by omega) hR' (by omega)
    ·intro h
     by_cases h':lb.getD i 0<la.getD i 0
     ·have:=Zo7 hdb hda (by omega) (by omega) hR'.symm h';omega
     ·omega
   ·have he:la.getD i 0=lb.getD i 0:=by
     have:((la.getD i 0:Nat):Int)=((lb.getD i 0:Nat):Int):=by simpa using h9
     omega
    refine Z1 ?_;refine hL5 _ ⟨hk1,(),?_,Zb (by simp -implicitDefEqProofs only[go_sem,seval];exact congrArg _ (by rw [w64 (by omega) (by omega)];omega)) zp⟩;rw [show la.length-(k+1)=i by omega,List.drop_eq_getElem_cons (show i<la.length by omega),List.drop_eq_getElem_cons (show i<lb.length by omega),hR']
    congr 1
    rw [List.getD_eq_getElem?_getD,List.getD_eq_getElem?_getD,List.getElem?_eq_getElem (show i<la.length by omega),List.getElem?_eq_getElem (show i<lb.length by omega)] at he;exact he
  ·have hk1:k=la.length:=by have:=of_decide_eq_false h7;omega
   refine Z ?_
   have:la=lb:=by rw [hk1] at hR;simpa using hR
   rw [← hva,← hvb,this];simp
def sgn (below:Bool) (n:Nat):Int:=if below then -(n:Int) else n
theorem Z40 (l:List Nat) (i:Nat):val (l.drop i)≤val l:=by
 have h:val l=val (l.take i)+10 ^ (l.take i).length * val (l.drop i):=by rw [← Zth,List.take_append_drop]
 have:=Nat.le_mul_of_pos_left (val (l.drop i)) (Zq8 (l.take i).length);omega
theorem Zq5 (G:Nat→V) (hG:GOk G) (c:Col) (nl:Bool) (l:List Nat) (below:Bool) (hnl:nl=true→l=[]) (hd:Dig l) (hll:l.length<1000000) :
  Spec Tryz.prog G 136 [encLong c nl l below] Zm (fun v _=>v = .tuple [.int .i64 (told (sgn below (val l))).1,.bool (Z2b (sgn below (val l)))]):=by
 have hsl:=Zpl hnl;refine Zo 0 40 [.tmp 2,.tmp 3] Tryz.func136 fun X=>?_;simp only [encLong];refine Z1 ?_;intro g1;refine Z1 ?_;refine Z1f (zi hsl @Ztd) ?_;refine AW.block ?_
 refine Zwa l.length (fun k (_:Unit)=>st [(1,.ptr 1 g1 0),(4,.int .i64 (-(val (l.drop (l.length-k)):Int))),(5,.int .i64 ((l.length:Int)-1-k))] [(1,.cells .new g1 0 [Za c 1 (V.int .i64) (slD nl l),.bool below])]) (fun k _=>val (l.drop (l.length-k))≤9223372036854775808) 0 () (Nat.zero_le _) (by rw [List.drop_eq_nil_of_le (by omega)];simp [val])
  (Zb (by simp -implicitDefEqProofs only[go_sem,seval];rw [List.drop_eq_nil_of_le (by omega)];exact ⟨rfl,congrArg _ (by rw [w64 (by omega) (by omega)];omega)⟩) zp) ?_
 intro k _ hk hR L2 hL2;refine Z1 ?_;refine Ze rfl (fun h4=>?_) (fun h4=>?_)
 ·have hk1:k<l.length:=by have:=of_decide_eq_true h4;omega
  refine Z0 ?_;obtain ⟨i,hi⟩:∃ i,i=l.length-1-k:=⟨_,rfl⟩
  have e0:((l.length:Int)-1-k)=(i:Int):=by omega
  have g2:=Zjd (l:=l) (k:=i) (by omega);have h5:=Z2g hd i;have hvd:=Zpg l i;have hvl:=Z40 l i;rw [show l.length-k=i+1 by omega] at hR ⊢;rw [e0];generalize l.getD i 0=d at g2 h5 hvd;generalize val (l.drop (i+1))=m at hR hvd;refine Z1f (zi hsl g2) ?_;refine Z5 ?_;have hw:IntKind.i64.wrap (-9223372036854775808+(d:Int)) = -9223372036854775808+(d:Int):=w64 (by omega) (by omega)
  have hT:IntKind.i64.wrap ((-9223372036854775808+(d:Int)).tdiv 10) = -(((9223372036854775808-d) / 10:Nat):Int):=by
   have e1:(-9223372036854775808+(d:Int)).natAbs=9223372036854775808-d:=by omega
   have e2:(-9223372036854775808+(d:Int)).tdiv 10 = -(((9223372036854775808-d) / 10:Nat):Int):=by
    rw [Zeo,e1]
    have:(-9223372036854775808+(d:Int))<0:=by omega
    simp [this]
   rw [e2,w64 (by omega) (by omega)]
  refine Z1f (zi hw hT) ?_;refine Ze rfl (fun h7=>?_) (fun h7=>?_)
  ·have h7':=of_decide_eq_true h7
   refine Z ?_
   have hf:Z2b (sgn below (val l))=false:=by
    unfold Z2b sgn;rw [decide_eq_false_iff_not]
    split<;>omega
   rw [Zji hf,hf]
  ·have h7':=of_decide_eq_false h7
   refine Z1 ?_;refine Z1 ?_;refine hL2 _ ⟨hk1,(),?_,Zb (by simp -implicitDefEqProofs only[go_sem,seval];rw [show l.length-(k+1)=i by omega,hvd];exact ⟨congrArg _ (by rw [w64 (n:=10 * -(m:Int)) (by omega) (by omega),w64 (by omega) (by omega)];omega),congrArg _ (by rw [w64 (by omega) (by omega)];omega)⟩) zp⟩;rw [show l.length-(k+1)=i by omega,hvd];omega
 ·have hk1:k=l.length:=by have:=of_decide_eq_false h4;omega
  subst hk1;refine Z0 ?_;rw [Nat.sub_self,List.drop_zero] at hR ⊢;generalize hm:val l=m at hR;have stop:(below=true∨m=0)∨¬ (below=true∨m=0):=Classical.em _;refine Zha (fun (_:Unit)=>st [(4,.int .i64 (-(m:Int)))] []) (fun _=>below=false∧m≠0) (fun K8 hK8=>?_) ?_
  ·have yes:(below=true∨m=0)→V.tuple [.int .i64 (-(m:Int)),.bool true]=V.tuple [.int .i64 (told (sgn below m)).1,.bool (Z2b (sgn below m))]:=by
    intro h
    have hs:sgn below m = -(m:Int):=by
     unfold sgn
     split
     ·rfl
     ·rename_i hb
      have:m=0:=h.resolve_left hb;omega
    have hf:Z2b (-(m:Int))=true:=by unfold Z2b;rw [decide_eq_true_iff];omega
    rw [hs,Zvh hf,hf]
   cases hb:below with
   | true =>
    refine Z1f hb ?_;refine Ze rfl (fun h9=>?_) (fun h9=>?_)
    ·refine Z ?_
     rw [hb] at yes;exact yes (.inl rfl)
    ·simp at h9
   | false =>
    refine Z1f hb ?_;refine Ze rfl (fun h9=>?_) (fun h9=>?_)
    ·have h0:m=0:=by
      have : -(m:Int)=0:=by simpa using h9
      omega
     refine Z ?_;rw [hb] at yes;exact yes (.inr h0)
    ·have h0:m≠0:=by rintro rfl;simp at h9
     refine Z0 ?_;exact hK8 _ () ⟨hb,h0⟩ (Zb zp zp)
  ·rintro _ ⟨hb,h0⟩
   subst hb;refine Z1 ?_;refine Ze rfl (fun h10=>?_) (fun h10=>?_)
   ·have h1:m=9223372036854775808:=by
     have : -(m:Int) = -9223372036854775808:=by simpa using h10
     omega
    refine Z ?_
    have hf:Z2b (sgn false m)=false:=by unfold Z2b sgn;rw [decide_eq_false_iff_not];simp;omega
    rw [Zji hf,hf]
   ·have h1:m≠9223372036854775808:=by rintro rfl;simp at h10
    refine Z ?_
    have hf:Z2b (sgn false m)=true:=by unfold Z2b sgn;rw [decide_eq_true_iff];simp;omega
    rw [Zvh hf,hf,w64 (by omega) (by omega)];simp [sgn]
theorem Zpe (G:Nat→V) (hG:GOk G) (c:Col) (nl:Bool) (l:List Nat) (below:Bool) (hnl:nl=true→l=[]) (hd:Dig l) (hll:l.length<1000000) :
  Spec Tryz.prog G 96 [encLong c nl l below] Zm (fun v _=>v=encR (told (sgn below (val l)))):=by
 have hF:=Zq5 G hG c.ent nl l below hnl hd hll;generalize sgn below (val l)=x at hF;refine Zo 0 14 [.tmp 2,.tmp 3] Tryz.func96 fun X=>?_;simp only [encLong];refine Z1 ?_;intro g1;refine Z1 ?_;refine Zc hG ?_ (s:=hF);refine Z5 ?_
 cases hf:Z2b x with
 | true =>
  refine Z1 ?_;refine Ze rfl (fun h2=>?_) (fun h2=>?_)
  ·simp at h2
  ·refine Z ?_
   rw [Zvh hf]
   try rfl
 | false =>
  refine Z1 ?_;refine Ze rfl (fun h2=>?_) (fun h2=>?_)
  ·refine Z ?_
   rw [Zji hf]
   try rfl
  ·simp at h2
theorem Zrp (G:Nat→V) (hG:GOk G) (c:Col) (nl:Bool) (l:List Nat) (below:Bool) :
  Spec Tryz.prog G 97 [encLong c nl l below] Zm (fun v _=>v=encLong c nl l (!below)):=by
 refine Zo 0 9 [.cell 2 204] Tryz.func97 fun X=>?_;simp only [encLong];refine Z1 ?_;intro g1 g2;exact Zr
end Go.Hs
end

section
namespace Go.Proofs
open Go.Shelf
def Z9q:Go.Shelf.Ren:=⟨fun | 174=>188 | 247=>203 | 245=>204 | 287=>211 | 279=>212 | 280=>213 | 281=>214 | 282=>215 | 321=>218 | 322=>219 | 316=>220 | 171=>222 | 205=>221 | 243=>223 | 246=>224 | 283=>225 | 284=>226 | 285=>227 | 286=>228 | 129=>230 | 317=>229 | 318=>231 | 319=>232 | 320=>233 | 337=>234 | 338=>235 | n=>n,fun | 9=>9 | 3=>3 | 2=>2 | 75=>279 | 85=>280 | 4=>4 | 167=>297 | 5=>5 | 53=>262 | 175=>298 | 46=>270 | 168=>300 | 37=>122 | 0=>0 | 210=>322 | 21=>21 | 127=>325 | 145=>328 | 143=>326 | 171=>330 | 173=>333 | 212=>336 | 51=>285 | 20=>20 | 213=>337 | 232=>340 | 233=>341 | 80=>283 | n=>n,fun | 15=>5 | 16=>2 | 17=>6 | 18=>7 | 19=>8 | n=>n⟩
theorem Zar:Go.Proofs.LaysC.n174 Tryz.prog Z9q:={
 mixed:=by kernel_rfl
 f129:=Tryz.func230.trans (congrArg some (by kernel_rfl))
 f171:=Tryz.func222.trans (congrArg some (by kernel_rfl))
 f174:=Tryz.func188.trans (congrArg some (by kernel_rfl))
 f205:=Tryz.func221.trans (congrArg some (by kernel_rfl))
 f243:=Tryz.func223.trans (congrArg some (by kernel_rfl))
 f245:=Tryz.func204.trans (congrArg some (by kernel_rfl))
 f246:=Tryz.func224.trans (congrArg some (by kernel_rfl))
 f247:=Tryz.func203.trans (congrArg some (by kernel_rfl))
 f279:=Tryz.func212.trans (congrArg some (by kernel_rfl))
 f280:=Tryz.func213.trans (congrArg some (by kernel_rfl))
 f281:=Tryz.func214.trans (congrArg some (by kernel_rfl))
 f282:=Tryz.func215.trans (congrArg some (by kernel_rfl))
 f283:=Tryz.func225.trans (congrArg some (by kernel_rfl))
 f284:=Tryz.func226.trans (congrArg some (by kernel_rfl))
 f285:=Tryz.func227.trans (congrArg some (by kernel_rfl))
 f286:=Tryz.func228.trans (congrArg some (by kernel_rfl))
 f287:=Tryz.func211.trans (congrArg some (by kernel_rfl))
 f316:=Tryz.func220.trans (congrArg some (by kernel_rfl))
 f317:=Tryz.func229.trans (congrArg some (by kernel_rfl))
 f318:=Tryz.func231.trans (congrArg some (by kernel_rfl))
 f319:=Tryz.func232.trans (congrArg some (by kernel_rfl))
 f320:=Tryz.func233.trans (congrArg some (by kernel_rfl))
 f321:=Tryz.func218.trans (congrArg some (by kernel_rfl))
 f322:=Tryz.func219.trans (congrArg some (by kernel_rfl))
 f337:=Tryz.func234.trans (congrArg some (by kernel_rfl))
 f338:=Tryz.func235.trans (congrArg some (by kernel_rfl))
 t0:=Tryz.underlying0
 a0:=Tryz.isAgg0
 z0:=Tryz.sizeOf0
 v0:=Tryz.zeroValue0
 t2:=Tryz.underlying2
 a2:=Tryz.isAgg2
 z2:=Tryz.sizeOf2
 v2:=Tryz.zeroValue2
 t3:=Tryz.underlying3
 a3:=Tryz.isAgg3
 z3:=Tryz.sizeOf3
 v3:=Tryz.zeroValue3
 t4:=Tryz.underlying4
 a4:=Tryz.isAgg4
 z4:=Tryz.sizeOf4
 v4:=Tryz.zeroValue4
 t5:=Tryz.underlying5
 a5:=Tryz.isAgg5
 z5:=Tryz.sizeOf5
 v5:=Tryz.zeroValue5
 t9:=Tryz.underlying9
 a9:=Tryz.isAgg9
 z9:=Tryz.sizeOf9
 v9:=Tryz.zeroValue9
 t20:=Tryz.underlying20
 a20:=Tryz.isAgg20
 z20:=Tryz.sizeOf20
 v20:=Tryz.zeroValue20
 t21:=Tryz.underlying21
 a21:=Tryz.isAgg21
 z21:=Tryz.sizeOf21
 v21:=Tryz.zeroValue21
 t37:=Tryz.underlying122
 a37:=Tryz.isAgg122
 z37:=Tryz.sizeOf122
 v37:=Tryz.zeroValue122
 t46:=Tryz.underlying270
 a46:=Tryz.isAgg270
 z46:=Tryz.sizeOf270
 v46:=Tryz.zeroValue270
 t51:=Tryz.underlying285
 a51:=Tryz.isAgg285
 z51:=Tryz.sizeOf285
 v51:=Tryz.zeroValue285
 t53:=Tryz.underlying262
 a53:=Tryz.isAgg262
 z53:=Tryz.sizeOf262
 v53:=Tryz.zeroValue262
 t75:=Tryz.underlying279
 a75:=Tryz.isAgg279
 z75:=Tryz.sizeOf279
 v75:=Tryz.zeroValue279
 t85:=Tryz.underlying280
 a85:=Tryz.isAgg280
 z85:=Tryz.sizeOf280
 v85:=Tryz.zeroValue280
 t127:=Tryz.underlying325
 a127:=Tryz.isAgg325
 z127:=Tryz.sizeOf325
 v127:=Tryz.zeroValue325
 t143:=Tryz.underlying326
 a143:=Tryz.isAgg326
 z143:=Tryz.sizeOf326
 v143:=Tryz.zeroValue326
 t145:=Tryz.underlying328
 a145:=Tryz.isAgg328
 z145:=Tryz.sizeOf328
 v145:=Tryz.zeroValue328
 t167:=Tryz.underlying297
 a167:=Tryz.isAgg297
 z167:=Tryz.sizeOf297
 v167:=Tryz.zeroValue297
 t168:=Tryz.underlying300
 a168:=Tryz.isAgg300
 z168:=Tryz.sizeOf300
 v168:=Tryz.zeroValue300
 t171:=Tryz.underlying330
 a171:=Tryz.isAgg330
 z171:=Tryz.sizeOf330
 v171:=Tryz.zeroValue330
 t173:=Tryz.underlying333
 a173:=Tryz.isAgg333
 z173:=Tryz.sizeOf333
 v173:=Tryz.zeroValue333
 t175:=Tryz.underlying298
 a175:=Tryz.isAgg298
 z175:=Tryz.sizeOf298
 v175:=Tryz.zeroValue298
 t210:=Tryz.underlying322
 a210:=Tryz.isAgg322
 z210:=Tryz.sizeOf322
 v210:=Tryz.zeroValue322
 t212:=Tryz.underlying336
 a212:=Tryz.isAgg336
 z212:=Tryz.sizeOf336
 v212:=Tryz.zeroValue336
 t213:=Tryz.underlying337
 a213:=Tryz.isAgg337
 z213:=Tryz.sizeOf337
 t232:=Tryz.underlying340
 a232:=Tryz.isAgg340
 z232:=Tryz.sizeOf340
 v232:=Tryz.zeroValue340
 t233:=Tryz.underlying341
 a233:=Tryz.isAgg341
 z233:=Tryz.sizeOf341
 v233:=Tryz.zeroValue341
 g15:=by kernel_rfl
 g16:=by kernel_rfl
 g17:=by kernel_rfl
 g18:=by kernel_rfl
 g19:=by kernel_rfl
 t80:=Tryz.underlying283
 a80:=Tryz.isAgg283
 z80:=Tryz.sizeOf283
 v80:=Tryz.zeroValue283
 i0:=by kernel_rfl
 i2:=by kernel_rfl
 i3:=by kernel_rfl
 i4:=by kernel_rfl
 i5:=by kernel_rfl
 i9:=by kernel_rfl
 i20:=by kernel_rfl
 i21:=by kernel_rfl
 i37:=by kernel_rfl
 i46:=by kernel_rfl
 i51:=by kernel_rfl
 i53:=by kernel_rfl
 i75:=by kernel_rfl
 i80:=by kernel_rfl
 i85:=by kernel_rfl
 i127:=by kernel_rfl
 i143:=by kernel_rfl
 i145:=by kernel_rfl
 i167:=by kernel_rfl
 i168:=by kernel_rfl
 i171:=by kernel_rfl
 i173:=by kernel_rfl
 i175:=by kernel_rfl
 i210:=by kernel_rfl
 i212:=by kernel_rfl
 i232:=by kernel_rfl
 i233:=by kernel_rfl
 m15:=by kernel_rfl
 m16:=by kernel_rfl
 m17:=by kernel_rfl
 m18:=by kernel_rfl
 m19:=by kernel_rfl
 c0:=by kernel_rfl
 c2:=by kernel_rfl
 c3:=by kernel_rfl
 c4:=by kernel_rfl
 c5:=by kernel_rfl
 c9:=by kernel_rfl
 c20:=by kernel_rfl
 c21:=by kernel_rfl
 c37:=by kernel_rfl
 c46:=by kernel_rfl
 c51:=by kernel_rfl
 c53:=by kernel_rfl
 c75:=by kernel_rfl
 c80:=by kernel_rfl
 c85:=by kernel_rfl
 c127:=by kernel_rfl
 c143:=by kernel_rfl
 c145:=by kernel_rfl
 c167:=by kernel_rfl
 c168:=by kernel_rfl
 c171:=by kernel_rfl
 c173:=by kernel_rfl
 c175:=by kernel_rfl
 c210:=by kernel_rfl
 c212:=by kernel_rfl
 c213:=by kernel_rfl
 c232:=by kernel_rfl
 c233:=by kernel_rfl }
def Z7q:Go.Shelf.Ren:=⟨fun | 101=>202 | 208=>210 | 206=>140 | n=>n,fun | 9=>9 | 4=>4 | 3=>3 | n=>n,fun | n=>n⟩
theorem Zx2:Go.Proofs.Lays.n101 Tryz.prog Z7q:={
 mixed:=by kernel_rfl
 f101:=Tryz.func202.trans (congrArg some (by kernel_rfl))
 f206:=Tryz.func140.trans (congrArg some (by kernel_rfl))
 f208:=Tryz.func210.trans (congrArg some (by kernel_rfl))
 t3:=Tryz.underlying3
 a3:=Tryz.isAgg3
 z3:=Tryz.sizeOf3
 v3:=Tryz.zeroValue3
 t4:=Tryz.underlying4
 a4:=Tryz.isAgg4
 z4:=Tryz.sizeOf4
 v4:=Tryz.zeroValue4
 t9:=Tryz.underlying9
 a9:=Tryz.isAgg9
 z9:=Tryz.sizeOf9
 v9:=Tryz.zeroValue9 }
end Go.Proofs
end
