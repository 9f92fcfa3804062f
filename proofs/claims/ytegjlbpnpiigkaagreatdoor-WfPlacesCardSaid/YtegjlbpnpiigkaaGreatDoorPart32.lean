/- Part 32 of a proof; no condition. -/
import Derived.Lib.ParseIntB
import Derived.Lib.ItoaNum
import Derived.Lib.Index
import Derived.Lib.IndexMore
import Derived.Lib.ParseIntBCases
import Derived.Test.YtegjlbpnpiigkaaGreatDoorPart31
import Derived.Test.YtegjlbpnpiigkaaGreatDoorPart20
import Derived.Lib.Mul64
import Derived.Test.YtegjlbpnpiigkaaGreatDoorChecked
import Derived.Shelf.Strconv.ParseIntPublic10
import Derived.Shelf.Strconv.ErrVarParseInt
import Derived.Shelf.Strconv.Itoa4
import Derived.Shelf.Strings.Prefix
import Derived.Ground.NamesProg
set_option linter.unusedSimpArgs false
set_option linter.unusedVariables false
section
namespace Go.Hs
def dgF:Nat→Nat→List Nat
 | 0,_=>[]
 | f+1,n=>if n=0 then [] else (n % 10)::dgF f (n / 10)
def dg (n:Nat):List Nat:=dgF n n
theorem Zx8:∀ (f f' n:Nat),n≤f→n≤f'→dgF f n=dgF f' n
 | 0,f',n,h,_=>by
  have:n=0:=by omega
  subst this
  cases f'<;>simp [dgF]
 | f+1,0,n,_,h=>by
  have:n=0:=by omega
  subst this;simp [dgF]
 | f+1,f'+1,n,h,h'=>by
  simp only [dgF]
  split
  ·rfl
  ·rw [Zx8 f f' (n / 10) (by omega) (by omega)]
theorem Zto:dg 0=[]:=rfl
theorem Zmu {n:Nat} (h:0<n):dg n=(n % 10)::dg (n / 10):=by
 obtain ⟨k,rfl⟩:∃ k,n=k+1:=⟨n-1,by omega⟩
 show dgF (k+1) (k+1)=_
 rw [dgF,if_neg (by omega),Zx8 k ((k+1) / 10) _ (by omega) (Nat.le_refl _)];rfl
def val:List Nat→Nat
 | []=>0
 | d::r=>d+10 * val r
theorem Z6k:∀ (a b:List Nat),val (a++b)=val a+10 ^ a.length * val b
 | [],b=>by simp [val]
 | d::a,b=>by
  rw [List.cons_append,val,Z6k a b,val,List.length_cons,Nat.pow_succ];rw [Nat.mul_add,← Nat.mul_assoc,Nat.mul_comm 10 (10 ^ a.length)];omega
def Dig (l:List Nat):Prop:=∀ d∈l,d<10
theorem Zd5 {a b:List Nat}:Dig (a++b) ↔ Dig a∧Dig b:=by
 constructor
 ·exact fun h=>⟨fun d hd=>h d (by simp [hd]),fun d hd=>h d (by simp [hd])⟩
 ·rintro ⟨h1,h2⟩ d hd
  rcases List.mem_append.1 hd with h | h
  ·exact h1 d h
  ·exact h2 d h
theorem Dig.one {d:Nat} (h:d<10):Dig [d]:=by intro x hx;simp at hx;omega
theorem Z57:∀ {l:List Nat},Dig l→val l<10 ^ l.length
 | [],_=>by simp [val]
 | d::r,h=>by
  have h1:=Z57 (l:=r) fun x hx=>h x (by simp [hx]);have h2:=h d (by simp);rw [val,List.length_cons,Nat.pow_succ];omega
theorem val_dg (n:Nat):val (dg n)=n:=by
 induction n using Nat.strongRecOn with
 | _ n ih =>
  rcases Nat.eq_zero_or_pos n with h | h
  ·subst h;rfl
  ·rw [Zmu h,val,ih (n / 10) (by omega)]
   omega
theorem dig_dg (n:Nat):Dig (dg n):=by
 induction n using Nat.strongRecOn with
 | _ n ih =>
  rcases Nat.eq_zero_or_pos n with h | h
  ·subst h;intro d hd;simp [Zto] at hd
  ·rw [Zmu h]
   intro d hd
   rcases List.mem_cons.1 hd with rfl | hd
   ·omega
   ·exact ih (n / 10) (by omega) d hd
theorem Zw8:∀ {l:List Nat},Dig l→(∀ d,l.getLast? = some d→d≠0)→dg (val l)=l
 | [],_,_=>rfl
 | d::r,h,hl=>by
  have hd:=h d (by simp);have hr:Dig r:=fun x hx=>h x (by simp [hx])
  rcases hrn:r with _ | ⟨x,s⟩
  ·subst hrn
   have:=hl d (by simp);rw [val,val,Zmu (by omega)]
   have e1:(d+10 * 0) % 10=d:=by omega
   have e2:(d+10 * 0) / 10=0:=by omega
   rw [e1,e2,Zto]
  ·rw [← hrn]
   have hne:r≠[]:=by rw [hrn];simp
   have hl2:∀ y,r.getLast? = some y→y≠0:=fun y hy=>hl y (by rw [List.getLast?_cons_of_ne_nil hne];exact hy);have ih:=Zw8 hr hl2
   have hp:0<val r:=by
    rcases Nat.eq_zero_or_pos (val r) with h0 | h0
    ·rw [h0,Zto] at ih;exact absurd ih.symm hne
    ·exact h0
   rw [val,Zmu (by omega)]
   have e1:(d+10 * val r) % 10=d:=by omega
   have e2:(d+10 * val r) / 10=val r:=by omega
   rw [e1,e2,ih]
def Z5s:Nat→List Nat→List Nat
 | 0,l=>l
 | n+1,l=>if l.getLast? = some 0 then Z5s n l.dropLast else l
theorem Z0x:∀ (n:Nat) (l:List Nat),l.length≤n→Dig l→Z5s n l=dg (val l)
 | 0,l,h,_=>by
  have:l=[]:=List.length_eq_zero_iff.1 (by omega);subst this;rfl
 | n+1,l,h,hd=>by
  rw [Z5s]
  split
  ·rename_i h0
   have hne:l≠[]:=by rintro rfl;simp at h0
   have e:l=l.dropLast++[0]:=by
    have:=List.dropLast_concat_getLast hne;rw [List.getLast?_eq_some_getLast hne] at h0;rw [Option.some.inj h0] at this;exact this.symm
   have hv:val l=val l.dropLast:=by
    conv=>lhs;rw [e]
    rw [Z6k];simp [val]
   rw [Z0x n l.dropLast (by rw [List.length_dropLast];omega) (fun x hx=>hd x (List.dropLast_subset _ hx)),hv]
  ·rename_i h0
   rw [Zw8 hd];rintro d hl rfl;exact h0 hl
theorem dg_len {n k:Nat} (h:n<10 ^ k):(dg n).length≤k:=by
 induction k generalizing n with
 | zero =>
  have:n=0:=by simp at h;exact h
  subst this;simp [Zto]
 | succ k ih =>
  rcases Nat.eq_zero_or_pos n with h0 | h0
  ·subst h0;simp [Zto]
  ·rw [Zmu h0,List.length_cons]
   have:=ih (n:=n / 10) (by rw [Nat.pow_succ] at h;omega);omega
def Zgv (x:Int):Bool:=decide (-9223372036854775808≤x∧x≤9223372036854775807)
def Zfv (x:Int):Int × Int:=if Zgv x then (x,0) else (0,60)
def Zna (c:UInt8):Bool:=48≤c.toNat && c.toNat≤57
def Zgi (c:UInt8):Nat:=c.toNat-48
def Zbc (s:List UInt8):Int × Int :=
 let below:=s.head? == some 45
 let t:=if below then s.drop 1 else s
 if t=[]∨(t.head? = some 48∧(t.length > 1∨below=true))∨t.all Zna=false then (0,2)
 else Zfv (if below then -(val (t.reverse.map Zgi):Int) else val (t.reverse.map Zgi))
def putR (n:Int):List UInt8:=Lib.itoa n
end Go.Hs
end

section
namespace Go.Hs
open Go
structure Tk where
 kind:Int
 text:List UInt8
 pos:Int
 deriving DecidableEq,Inhabited
def Zvi (c:UInt8):Bool:=c==95 || (decide (97≤(c.toNat ||| 32)) && decide ((c.toNat ||| 32)≤122))
def Z4d (c:UInt8):Bool:=Zvi c || Zna c
def Zwi (c:UInt8):Bool:=c==32 || (decide (9≤c.toNat) && decide (c.toNat≤10)) || c==13
def Z1m (c:UInt8):Bool := !(c==10)
def Zuc (p:UInt8→Bool):List UInt8→Nat
 | []=>0
 | c::r=>if p c then Zuc p r+1 else 0
theorem Z4j (p:UInt8→Bool) (c:UInt8) (r:List UInt8):Zuc p (c::r)=if p c then Zuc p r+1 else 0:=rfl
theorem Z5e (p:UInt8→Bool):∀ s,Zuc p s≤s.length
 | []=>Nat.le_refl _
 | c::r=>by
  have:=Z5e p r;unfold Zuc
  split
  ·simp only [List.length_cons];omega
  ·exact Nat.zero_le _
def Zpa (p s:List UInt8):Bool:=p.isPrefixOf s
theorem Znc (s:List UInt8):Zpa [] s=true:=by cases s<;>rfl
theorem Zjd (a:UInt8) (p:List UInt8):Zpa (a::p) []=false:=rfl
theorem Zab (a c:UInt8) (p s:List UInt8):Zpa (a::p) (c::s)=(a==c && Zpa p s):=rfl
def Zu7:Nat→List UInt8→Nat
 | 0,_=>0
 | _+1,[]=>0
 | f+1,c::r=>if Zwi c then Zu7 f r+1 else if Zpa [45,45] (c::r) then Zuc Z1m (c::r)+Zu7 f ((c::r).drop (Zuc Z1m (c::r))) else 0
def blk (s:List UInt8):Nat:=Zu7 s.length s
theorem Zug {s:List UInt8} (h:Zpa [45,45] s=true):2≤Zuc Z1m s∧2≤s.length:=by
 match s with
 | []=>simp [Zpa] at h
 | [_]=>simp [Zpa] at h
 | a::b::r =>
  simp [Zpa] at h;obtain ⟨rfl,rfl⟩:=h;simp [Zuc,Z1m]
theorem Z2w:∀ (f f':Nat) (s:List UInt8),s.length≤f→s.length≤f'→Zu7 f s=Zu7 f' s
 | 0,f',s,h,_=>by
  have:s=[]:=List.length_eq_zero_iff.1 (by omega);subst this
  cases f'<;>rfl
 | f+1,0,s,_,h=>by
  have:s=[]:=List.length_eq_zero_iff.1 (by omega);subst this;rfl
 | f+1,f'+1,[],_,_=>rfl
 | f+1,f'+1,c::r,h,h'=>by
  simp only [List.length_cons] at h h';unfold Zu7
  split
  ·rw [Z2w f f' r (by omega) (by omega)]
  ·split
   ·rename_i hp
    have:=Zug hp;rw [Z2w f f' _ (by simp only [List.length_drop,List.length_cons];omega) (by simp only [List.length_drop,List.length_cons];omega)]
   ·rfl
theorem Zy4:blk []=0:=rfl
theorem Z9y {c:UInt8} {r:List UInt8} (h:Zwi c=true):blk (c::r)=blk r+1:=by
 unfold blk;rw [List.length_cons,Zu7,if_pos h]
theorem Zbs {s:List UInt8} (h:Zpa [45,45] s=true):blk s=Zuc Z1m s+blk (s.drop (Zuc Z1m s)):=by
 match s with
 | []=>simp [Zpa] at h
 | c::r =>
  have hc:Zwi c=false:=by
   cases r with
   | nil=>simp [Zpa] at h
   | cons d r=>simp [Zpa] at h;rw [← h.1];decide
  have:=Zug h;unfold blk;rw [List.length_cons,Zu7,if_neg (by simp [hc]),if_pos h];rw [Z2w r.length _ _ (by simp only [List.length_drop,List.length_cons];omega) (Nat.le_refl _)]
theorem Zwu {c:UInt8} {r:List UInt8} (h:Zwi c=false) (h2:Zpa [45,45] (c::r)=false):blk (c::r)=0:=by
 unfold blk;rw [List.length_cons,Zu7,if_neg (by simp [h]),if_neg (by simp [h2])]
theorem Zxu (s:List UInt8):blk s≤s.length:=by
 have key:∀ (n:Nat) (s:List UInt8),s.length≤n→blk s≤s.length:=by
  intro n
  induction n with
  | zero =>
   intro s h;have:s=[]:=List.length_eq_zero_iff.1 (by omega);subst this;exact Nat.le_refl _
  | succ n ih =>
   intro s h
   match s with
   | []=>exact Nat.le_refl _
   | c::r =>
    cases hb:Zwi c with
    | true =>
     rw [Z9y hb];have:=ih r (by simp only [List.length_cons] at h;omega);simp only [List.length_cons];omega
    | false =>
     cases hp:Zpa [45,45] (c::r) with
     | false=>rw [Zwu hb hp];exact Nat.zero_le _
     | true =>
      have h1:=Zug hp;have h2:=Z5e Z1m (c::r);rw [Zbs hp];have:=ih ((c::r).drop (Zuc Z1m (c::r))) (by rw [List.length_drop];omega);rw [List.length_drop] at this;omega
 exact key s.length s (Nat.le_refl _)
def Z5y (s:List UInt8):Prop:=∀ c r,s=c::r→Zwi c=false∧Zpa [45,45] s=false
theorem Zyu (s:List UInt8):Z5y (s.drop (blk s)):=by
 have key:∀ (n:Nat) (s:List UInt8),s.length≤n→Z5y (s.drop (blk s)):=by
  intro n
  induction n with
  | zero =>
   intro s h;have:s=[]:=List.length_eq_zero_iff.1 (by omega);subst this;intro c r hh;simp [Zy4] at hh
  | succ n ih =>
   intro s h
   match s with
   | []=>intro c r hh;simp [Zy4] at hh
   | c::r =>
    cases hb:Zwi c with
    | true =>
     rw [Z9y hb,List.drop_succ_cons];exact ih r (by simp only [List.length_cons] at h;omega)
    | false =>
     cases hp:Zpa [45,45] (c::r) with
     | false =>
      rw [Zwu hb hp,List.drop_zero];intro c' r' hh;cases hh;exact ⟨hb,hp⟩
     | true =>
      have h1:=Zug hp;have h2:=Z5e Z1m (c::r);rw [Zbs hp,← List.drop_drop];exact ih _ (by rw [List.length_drop];omega)
 exact key s.length s (Nat.le_refl _)
def signsL:List (List UInt8):=[[58,61],[60,62],[60,61],[62,61],[60],[62],[61],[43],[45],[42],[40],[41],[44],[59]]
def wordsL:List (List UInt8):=[[97,110,100],[100,105,118],[101,108,115,101],[101,109,105,116],[101,110,100,105,102],[102,97,108,115,101],[105,102],[105,109,112,108,105,101,115],[109,111,100],[110,111,116],[111,114],[116,104,101,110],[116,114,117,101],[120,111,114]]
def Z47:List UInt8:=32::wordsL.flatMap (· ++ [32])
def Zya (s:List UInt8):Nat × Nat :=
 match s with
 | []=>(0,0)
 | c::_ =>
  if Zpa [45,45] s then (0,0)
  else if Zna c then (Zuc Zna s,1)
  else if Zvi c then (Zuc Z4d s,if wordsL.contains (s.take (Zuc Z4d s)) then 3 else 2)
  else match signsL.find? (Zpa · s) with
   | some t=>(t.length,4)
   | none=>(0,0)
def isP (s:List UInt8):Nat:=if (Zya s).1≠s.length∨(Zya s).1 > 64 then 0 else (Zya s).2
theorem Zgf (c:UInt8) (r:List UInt8):Zya (c::r) =
  if Zpa [45,45] (c::r) then (0,0)
  else if Zna c then (Zuc Zna (c::r),1)
  else if Zvi c then (Zuc Z4d (c::r),if wordsL.contains ((c::r).take (Zuc Z4d (c::r))) then 3 else 2)
  else match signsL.find? (Zpa · (c::r)) with
   | some t=>(t.length,4)
   | none=>(0,0):=rfl
theorem Zfu (s:List UInt8):(Zya s).1≤s.length:=by
 unfold Zya
 split
 ·exact Nat.le_refl _
 ·split
  ·exact Nat.zero_le _
  ·split
   ·exact Z5e _ _
   ·split
    ·exact Z5e _ _
    ·split
     ·rename_i h
      have:=List.find?_some h;exact (List.isPrefixOf_iff_prefix.1 this).length_le
     ·exact Nat.zero_le _
def Zvd:Nat→List UInt8→Nat→List Tk→List Tk × Int × Int
 | 0,_,_,acc=>(acc,0,0)
 | f+1,s,i,acc =>
  if i<s.length then
   if (Zya (s.drop i)).1=0∨(Zya (s.drop i)).1 > 64 then ([],i,70)
   else Zvd f s (i+(Zya (s.drop i)).1+blk (s.drop (i+(Zya (s.drop i)).1))) (acc++[⟨(Zya (s.drop i)).2,(s.drop i).take (Zya (s.drop i)).1,i⟩])
  else (acc,0,0)
def Zka (s:List UInt8):List Tk × Int × Int:=if s.length > 65536 then ([],0,3) else Zvd (s.length+1) s (blk s) []
theorem Z3x:∀ (f f':Nat) (s:List UInt8) (i:Nat) (acc:List Tk),s.length<f+i→s.length<f'+i→Zvd f s i acc=Zvd f' s i acc
 | 0,f',s,i,acc,h,_=>by
  cases f' with
  | zero=>rfl
  | succ f'=>rw [Zvd,Zvd,if_neg (by omega)]
 | f+1,0,s,i,acc,_,h=>by rw [Zvd,Zvd,if_neg (by omega)]
 | f+1,f'+1,s,i,acc,h,h'=>by
  unfold Zvd
  split
  ·split
   ·rfl
   ·rename_i hn
    exact Z3x f f' _ _ _ (by omega) (by omega)
  ·rfl
theorem Z0p {f:Nat} {s:List UInt8} {i:Nat} {acc:List Tk} (h:i<s.length) (hf:s.length<f+i) (hn:¬ ((Zya (s.drop i)).1=0∨(Zya (s.drop i)).1 > 64)) :
  Zvd f s i acc=Zvd f s (i+(Zya (s.drop i)).1+blk (s.drop (i+(Zya (s.drop i)).1))) (acc++[⟨(Zya (s.drop i)).2,(s.drop i).take (Zya (s.drop i)).1,i⟩]):=by
 cases f with
 | zero=>omega
 | succ f =>
  rw [Zvd,if_pos h,if_neg hn];exact Z3x _ _ _ _ _ (by omega) (by omega)
theorem Z8s {f:Nat} {s:List UInt8} {i:Nat} {acc:List Tk} (h:i<s.length) (hf:s.length<f+i) (hn:(Zya (s.drop i)).1=0∨(Zya (s.drop i)).1 > 64):Zvd f s i acc=([],(i:Int),70):=by
 cases f with
 | zero=>omega
 | succ f=>rw [Zvd,if_pos h,if_pos hn]
theorem Z7s {f:Nat} {s:List UInt8} {i:Nat} {acc:List Tk} (h:¬ i<s.length):Zvd f s i acc=(acc,0,0):=by
 cases f with
 | zero=>rfl
 | succ f=>rw [Zvd,if_neg h]
def Z4b (s:List UInt8):Nat :=
 if signsL.contains s then 4 else if wordsL.contains s then 3 else match s with
 | []=>0
 | c::_=>if s.all Zna then 1 else if Zvi c && s.all Z4d then 2 else 0
theorem Z2s (p:UInt8→Bool) (h:(List.range 256).all (fun n=>p (UInt8.ofNat n))=true) (c:UInt8):p c=true:=by
 have h2:=List.all_eq_true.1 h c.toNat (List.mem_range.2 c.toNat_lt)
 have e:UInt8.ofNat c.toNat=c:=by simp
 rw [e] at h2;exact h2
theorem Zyr {c:UInt8} (h:Zna c=true):Zvi c=false∧Z4d c=true:=by
 revert h
 unfold Z4d;have:=Z2s (fun c => !Zna c || (!Zvi c && (Zvi c || Zna c))) (by decide +kernel) c;intro h;simpa [h] using this
theorem Zlg {p:UInt8→Bool}:∀ {s:List UInt8},(Zuc p s=s.length)=(s.all p=true)
 | []=>by simp [Zuc]
 | c::r=>by
  unfold Zuc;rw [List.all_cons,Bool.and_eq_true,← Zlg (s:=r)]
  by_cases h:p c=true
  ·simp [h]
  ·simp [h]
theorem Zsn {p:UInt8→Bool}:∀ (s:List UInt8) (k:Nat),Zuc p (s.take k)=min k (Zuc p s)
 | [],k=>by simp [Zuc]
 | c::r,0=>by simp [Zuc]
 | c::r,k+1=>by
  rw [List.take_succ_cons];unfold Zuc
  split
  ·rw [Zsn r k];omega
  ·simp
theorem Zqm:∀ w∈wordsL,w.all Z4d=true∧w≠[]∧(∀ c∈w.head?,Zvi c=true):=by decide +kernel
theorem Zum:∀ w∈signsL,w≠[]∧w.length≤2∧(∀ c∈w,Z4d c=false):=by decide +kernel
theorem Zsm {c:UInt8} {r:List UInt8} (h:Zna c=true):Z4b (c::r)=if (c::r).all Zna then 1 else 0:=by
 have h1:=Zyr h
 have h2:signsL.contains (c::r)=false:=by
  rw [Bool.eq_false_iff];intro hc;have:=(Zum (c::r) (by simpa using hc)).2.2 c (by simp);rw [h1.2] at this;cases this
 have h3:wordsL.contains (c::r)=false:=by
  rw [Bool.eq_false_iff];intro hc;have:=(Zqm (c::r) (by simpa using hc)).2.2 c (by simp);rw [h1.1] at this;cases this
 unfold Z4b;simp only [h2,h3,h1.1,Bool.false_and];simp
theorem Zrm {c:UInt8} {r:List UInt8} (h:Zvi c=true):Z4b (c::r)=if (c::r).all Z4d then (if wordsL.contains (c::r) then 3 else 2) else 0:=by
 have h1:Zna c=false:=by
  rw [Bool.eq_false_iff];intro hd;rw [(Zyr hd).1] at h;cases h
 have h1':Z4d c=true:=by unfold Z4d;rw [h];rfl
 have h2:signsL.contains (c::r)=false:=by
  rw [Bool.eq_false_iff];intro hc;have:=(Zum (c::r) (by simpa using hc)).2.2 c (by simp);rw [h1'] at this;cases this
 have h3:(c::r).all Zna=false:=by rw [List.all_cons,h1];rfl
 unfold Z4b;simp only [h2,h3,h,Bool.true_and]
 by_cases h4:wordsL.contains (c::r)=true
 ·rw [if_neg (by simp),if_pos h4,if_pos ((Zqm _ (by simpa using h4)).1),if_pos h4]
 ·rw [if_neg (by simp),if_neg h4,if_neg (by simp),if_neg h4]
theorem Zjg {c:UInt8} {r:List UInt8} (h:Z4d c=false):Z4b (c::r)=if signsL.contains (c::r) then 4 else 0:=by
 have h1:Zvi c=false∧Zna c=false:=by unfold Z4d at h;simpa using h
 have h2:wordsL.contains (c::r)=false:=by
  rw [Bool.eq_false_iff];intro hc;have:=(Zqm (c::r) (by simpa using hc)).2.2 c (by simp);rw [h1.1] at this;cases this
 have h3:(c::r).all Zna=false:=by rw [List.all_cons,h1.2];rfl
 unfold Z4b;simp only [h2,h3,h1.1,Bool.false_and]
 split<;>rfl
theorem contains_nil (c:UInt8) (q:List UInt8):Lib.contains [] (c::q)=false:=by simp [Lib.contains,Lib.index]
theorem contains_cons (b:UInt8) (l p:List UInt8):Lib.contains (b::l) p=(p.isPrefixOf (b::l) || Lib.contains l p):=by
 unfold Lib.contains;rw [Lib.index]
 by_cases h:p.isPrefixOf (b::l)=true
 ·rw [if_pos h,h];simp
 ·have h':p.isPrefixOf (b::l)=false:=Bool.eq_false_iff.2 h
  rw [if_neg h,h',Bool.false_or]
  rcases Lib.index_spec l p with ⟨h1,_⟩ | ⟨i,h1,_⟩
  ·rw [h1];simp
  ·rw [h1]
   have:((i:Int) == -1)=false:=by rw [beq_eq_false_iff_ne];omega
   simp only [this];simp;omega
theorem Ze8:∀ (w v rest:List UInt8),(∀ c∈w,c≠32)→(∀ c∈v,c≠32)→(w++[32]).isPrefixOf (v++32::rest)=(w==v)
 | [],[],rest,_,_=>by simp
 | [],b::v,rest,_,hv=>by
  have:=hv b (by simp);simp [List.isPrefixOf];exact fun h=>absurd h.symm this
 | a::w,[],rest,hw,_=>by
  have:=hw a (by simp);simp [List.isPrefixOf];exact fun h=>absurd h this
 | a::w,b::v,rest,hw,hv=>by
  have:=Ze8 w v rest (fun c hc=>hw c (by simp [hc])) (fun c hc=>hv c (by simp [hc]));simp only [List.cons_append,List.isPrefixOf,this];simp [List.cons_beq_cons]
theorem Zok (q:List UInt8):∀ (v l:List UInt8),(∀ c∈v,c≠32)→Lib.contains (v++l) (32::q)=Lib.contains l (32::q)
 | [],_,_=>rfl
 | b::v,l,hv=>by
  have h1:=hv b (by simp);rw [List.cons_append,contains_cons,Zok q v l fun c hc=>hv c (by simp [hc])]
  have:((32::q).isPrefixOf (b::(v++l)))=false:=by
   simp only [List.isPrefixOf,Bool.and_eq_false_iff]
   left
   simpa using fun h=>h1 h.symm
  rw [this,Bool.false_or]
theorem Zzi (w:List UInt8) (hw:∀ c∈w,c≠32):∀ (Ws:List (List UInt8)),(∀ v∈Ws,∀ c∈v,c≠32) →
  Lib.contains (32::Ws.flatMap (· ++ [32])) (32::(w++[32]))=Ws.contains w
 | [],_=>by
  rw [List.flatMap_nil,contains_cons,contains_nil]
  cases w with
  | nil=>rfl
  | cons=>rfl
 | v::Ws,h=>by
  have hv:=h v (by simp);rw [List.flatMap_cons,contains_cons,List.append_assoc,Zok _ _ _ hv,List.singleton_append,Zzi w hw Ws fun x hx=>h x (by simp [hx]),List.contains_cons]
  congr 1
  simp only [List.isPrefixOf,beq_self_eq_true,Bool.true_and];exact Ze8 w v _ hw hv
theorem al_no {c:UInt8} (h:Z4d c=true):c≠32:=by rintro rfl;revert h;decide
theorem Zip (w:List UInt8) (hw:w.all Z4d=true):Lib.contains Z47 (32::(w++[32]))=wordsL.contains w:=by
 rw [List.all_eq_true] at hw
 exact Zzi w (fun c hc=>al_no (hw c hc)) wordsL fun v hv c hc=>by
  have:=(Zqm v hv).1;rw [List.all_eq_true] at this;exact al_no (this c hc)
theorem Zne (p:UInt8→Bool):∀ s:List UInt8,(s.take (Zuc p s)).all p=true
 | []=>rfl
 | c::r=>by
  unfold Zuc
  split
  ·rename_i h
   rw [List.take_succ_cons,List.all_cons,h,Zne p r];rfl
  ·rfl
theorem Z7m (c:UInt8):Zna c=true∨(Zna c=false∧Zvi c=true)∨(Z4d c=false∧Zna c=false∧Zvi c=false):=by
 unfold Z4d
 cases h:Zna c with
 | true=>exact .inl rfl
 | false =>
  cases h2:Zvi c with
  | true=>exact .inr (.inl ⟨rfl,rfl⟩)
  | false=>exact .inr (.inr ⟨rfl,rfl,rfl⟩)
def Zb2 (s:List UInt8):Nat:=match signsL.find? (Zpa · s) with | some t=>t.length | none=>0
theorem Zkk {c:UInt8} {r:List UInt8} (h:Zna c=true):Zya (c::r)=(Zuc Zna (c::r),1):=by
 have h1:Zpa [45,45] (c::r)=false:=by
  have:(45==c)=false:=by
   rw [beq_eq_false_iff_ne];rintro rfl;revert h;decide
  rw [Zab,this];rfl
 rw [Zgf,if_neg (by simp [h1]),if_pos h]
theorem Z5m {c:UInt8} {r:List UInt8} (h:Zvi c=true):Zya (c::r)=(Zuc Z4d (c::r),if wordsL.contains ((c::r).take (Zuc Z4d (c::r))) then 3 else 2):=by
 have h1:Zpa [45,45] (c::r)=false:=by
  have:(45==c)=false:=by
   rw [beq_eq_false_iff_ne];rintro rfl;revert h;decide
  rw [Zab,this];rfl
 have h2:Zna c=false:=by
  rw [Bool.eq_false_iff];intro hd;rw [(Zyr hd).1] at h;cases h
 rw [Zgf,if_neg (by simp [h1]),if_neg (by simp [h2]),if_pos h]
theorem Zzg {c:UInt8} {r:List UInt8} (h:Z4d c=false) (h1:Zpa [45,45] (c::r)=false):Zya (c::r)=(Zb2 (c::r),if Zb2 (c::r)=0 then 0 else 4):=by
 have h2:Zvi c=false∧Zna c=false:=by unfold Z4d at h;simpa using h
 unfold Zb2;rw [Zgf,if_neg (by simp [h1]),if_neg (by simp [h2.2]),if_neg (by simp [h2.1])]
 cases hf:signsL.find? (Zpa · (c::r)) with
 | none=>rfl
 | some t =>
  have:=List.mem_of_find?_eq_some hf;have:=(Zum t this).1;have:t.length≠0:=fun h=>this (List.length_eq_zero_iff.1 h);simp [this]
theorem Zxy:∀ (L:List (List UInt8)) (c:UInt8),(∀ t∈L,t≠[])→(match L.find? (Zpa · [c]) with | some t=>t.length | none=>0)=if L.contains [c] then 1 else 0
 | [],c,_=>rfl
 | t::L,c,h=>by
  have ih:=Zxy L c fun x hx=>h x (by simp [hx]);rw [List.find?_cons,List.contains_cons]
  match t,h t (by simp) with
  | [a],_ =>
   by_cases e:a=c
   ·subst e;simp [Zab,Znc,Zjd]
   ·have:Zpa [a] [c]=false:=by simp [Zab,Znc,Zjd,e]
    rw [this]
    have:(([c]:List UInt8)==[a])=false:=by simpa using fun h=>e h.symm
    rw [this,Bool.false_or];exact ih
  | a::b::r,_ =>
   have:Zpa (a::b::r) [c]=false:=by simp [Zab,Znc,Zjd]
   rw [this]
   have:(([c]:List UInt8)==a::b::r)=false:=by simp
   rw [this,Bool.false_or];exact ih
theorem Zno:∀ (L M:List (List UInt8)) (c d:UInt8) (r:List UInt8),(∀ t∈L,t.length=2)→(∀ t∈M,t.length=1) →
  (match (L++M).find? (Zpa · (c::d::r)) with | some t=>t.length | none=>0)=if L.contains [c,d] then 2 else if M.contains [c] then 1 else 0
 | [],[],c,d,r,_,_=>rfl
 | [],t::M,c,d,r,hL,hM=>by
  have ih:=Zno [] M c d r hL fun x hx=>hM x (by simp [hx]);rw [List.nil_append] at ih ⊢
  match t,hM t (by simp) with
  | [a],_ =>
   rw [List.find?_cons,List.contains_cons]
   by_cases e:a=c
   ·subst e;simp [Zab,Znc,Zjd]
   ·have:Zpa [a] (c::d::r)=false:=by simp [Zab,Znc,Zjd,e]
    rw [this]
    have:(([c]:List UInt8)==[a])=false:=by simpa using fun h=>e h.symm
    rw [this,Bool.false_or];exact ih
 | t::L,M,c,d,r,hL,hM=>by
  have ih:=Zno L M c d r (fun x hx=>hL x (by simp [hx])) hM
  match t,hL t (by simp) with
  | [a,b],_ =>
   rw [List.cons_append,List.find?_cons,List.contains_cons]
   by_cases e:a=c∧b=d
   ·obtain ⟨rfl,rfl⟩:=e;simp [Zab,Znc,Zjd]
   ·have:Zpa [a,b] (c::d::r)=false:=by simpa [Zab,Znc,Zjd] using e
    rw [this]
    have:(([c,d]:List UInt8)==[a,b])=false:=by simpa using fun h1 h2=>e ⟨h1.symm,h2.symm⟩
    rw [this,Bool.false_or];exact ih
def sg2:List (List UInt8):=[[58,61],[60,62],[60,61],[62,61]]
def sg1:List (List UInt8):=[[60],[62],[61],[43],[45],[42],[40],[41],[44],[59]]
theorem Zfr (c:UInt8):Zb2 [c]=if signsL.contains [c] then 1 else 0:=Zxy signsL c fun t ht=>(Zum t ht).1
theorem Z1j (c d:UInt8) (r:List UInt8):Zb2 (c::d::r)=if sg2.contains [c,d] then 2 else if sg1.contains [c] then 1 else 0:=Zno sg2 sg1 c d r (by decide) (by decide)
theorem Z9f (x:List UInt8):signsL.contains x=(sg2.contains x || sg1.contains x):=by
 show (sg2++sg1).contains x=_
 simp
theorem Zd2 {x:List UInt8} (h:x.length≠1):sg1.contains x=false:=by
 rw [Bool.eq_false_iff];intro hc
 have:∀ t∈sg1,t.length=1:=by decide
 exact h (this x (by simpa using hc))
theorem Zc2 {x:List UInt8} (h:x.length≠2):sg2.contains x=false:=by
 rw [Bool.eq_false_iff];intro hc
 have:∀ t∈sg2,t.length=2:=by decide
 exact h (this x (by simpa using hc))
theorem Zxs {c:UInt8} (h:Z4d c=false):Z4b [c]=if sg1.contains [c] then 4 else 0:=by
 rw [Zjg h,Z9f,Zc2 (by simp),Bool.false_or]
theorem Zcn {c d:UInt8} (h:Z4d c=false):Z4b [c,d]=if sg2.contains [c,d] then 4 else 0:=by
 rw [Zjg h,Z9f,Zd2 (by simp),Bool.or_false]
theorem Zxp {c d e:UInt8} {r:List UInt8} (h:Z4d c=false):Z4b (c::d::e::r)=0:=by
 rw [Zjg h,Z9f,Zd2 (by simp),Zc2 (by simp)];rfl
theorem Z6t (s:List UInt8):isP s=if s.length > 64 then 0 else Z4b s:=by
 have key:(if (Zya s).1≠s.length then 0 else (Zya s).2)=Z4b s:=by
  match s with
  | []=>rfl
  | c::r =>
   rcases Z7m c with h | ⟨_,h⟩ | ⟨h,_⟩
   ·rw [Zkk h,Zsm h]
    by_cases ha:(c::r).all Zna=true
    ·rw [if_pos ha,if_neg (by rw [ne_eq,Decidable.not_not,Zlg];exact ha)]
    ·rw [if_neg ha,if_pos (by rw [ne_eq,Zlg];exact ha)]
   ·rw [Z5m h,Zrm h]
    by_cases ha:(c::r).all Z4d=true
    ·have hl:Zuc Z4d (c::r)=(c::r).length:=by rw [Zlg];exact ha
     rw [if_pos ha,hl,List.take_length,if_neg (by simp)]
    ·rw [if_neg ha,if_pos (by rw [ne_eq,Zlg];exact ha)]
   ·match r with
    | [] =>
     rw [Zzg h (by simp [Zab,Znc,Zjd]),Zfr,Zjg h];generalize signsL.contains [c]=x
     cases x<;>simp
    | [d] =>
     rw [Zcn h]
     cases hp:Zpa [45,45] [c,d] with
     | true =>
      have:c=45∧d=45:=by
       rw [Zab,Zab,Znc,Bool.and_true,Bool.and_eq_true,beq_iff_eq,beq_iff_eq] at hp;exact ⟨hp.1.symm,hp.2.symm⟩
      obtain ⟨rfl,rfl⟩:=this
      decide
     | false =>
      rw [Zzg h hp,Z1j];generalize sg2.contains [c,d]=x;generalize sg1.contains [c]=y
      cases x<;>cases y<;>simp
    | d::e::r =>
     rw [Zxp h]
     cases hp:Zpa [45,45] (c::d::e::r) with
     | true =>
      have:Zya (c::d::e::r)=(0,0):=by rw [Zgf,if_pos hp]
      rw [this];simp
     | false =>
      rw [Zzg h hp,Z1j];generalize sg2.contains [c,d]=x;generalize sg1.contains [c]=y
      cases x<;>cases y<;>simp
 unfold isP
 by_cases h1:(Zya s).1=s.length
 ·rw [← key,if_neg (show ¬ (Zya s).1≠s.length by simpa using h1),h1]
  by_cases h2:s.length > 64
  ·rw [if_pos (.inr h2),if_pos h2]
  ·rw [if_neg (by simpa using h2),if_neg h2]
 ·rw [if_pos (.inl h1)]
  rw [if_pos h1] at key;rw [← key];simp
def Z9e (s:List UInt8):Nat→Nat
 | 0=>0
 | k+1=>if k=0 then 0 else if Z4b (s.take k)=0 then Z9e s k else k
theorem Zek (s:List UInt8):Z9e s 1=0:=by simp [Z9e]
theorem Zve (s:List UInt8) {k:Nat} (hk:1≤k):Z9e s (k+1)=if Z4b (s.take k)=0 then Z9e s k else k:=by rw [Z9e,if_neg (by omega)]
theorem Zjp {c:UInt8} {r:List UInt8} (h:Zna c=true) {k:Nat} (hk:1≤k) (hk2:k≤(c::r).length):Z4b ((c::r).take k)≠0 ↔ k≤Zuc Zna (c::r):=by
 obtain ⟨k,rfl⟩:∃ j,k=j+1:=⟨k-1,by omega⟩;have:(c::r).take (k+1)=c::r.take k:=rfl;rw [this,Zsm h,← this]
 have hlen:((c::r).take (k+1)).length=k+1:=by rw [List.length_take];omega
 have h1:((c::r).take (k+1)).all Zna=true ↔ k+1≤Zuc Zna (c::r):=by
  rw [← Zlg,Zsn,hlen];omega
 by_cases ha:((c::r).take (k+1)).all Zna=true
 ·rw [if_pos ha]
  have:=h1.1 ha;simp;exact this
 ·have:=fun h=>ha (h1.2 h)
  rw [if_neg ha];simp;exact Nat.lt_of_not_le this
theorem Z8q {c:UInt8} {r:List UInt8} (h:Zvi c=true) {k:Nat} (hk:1≤k) (hk2:k≤(c::r).length):Z4b ((c::r).take k)≠0 ↔ k≤Zuc Z4d (c::r):=by
 obtain ⟨k,rfl⟩:∃ j,k=j+1:=⟨k-1,by omega⟩;have:(c::r).take (k+1)=c::r.take k:=rfl;rw [this,Zrm h,← this]
 have hlen:((c::r).take (k+1)).length=k+1:=by rw [List.length_take];omega
 have h1:((c::r).take (k+1)).all Z4d=true ↔ k+1≤Zuc Z4d (c::r):=by
  rw [← Zlg,Zsn,hlen];omega
 by_cases ha:((c::r).take (k+1)).all Z4d=true
 ·rw [if_pos ha]
  have:=h1.1 ha
  split<;>simp<;>exact this
 ·have:=fun h=>ha (h1.2 h)
  rw [if_neg ha];simp;exact Nat.lt_of_not_le this
theorem Zfo {s:List UInt8} {R:Nat} (h:∀ k,1≤k→k≤s.length→(Z4b (s.take k)≠0 ↔ k≤R)):∀ k,1≤k→k≤s.length+1→Z9e s k=min (k-1) R
 | 0,h0,_=>by omega
 | 1,_,_=>by rw [Zek];simp
 | k+2,_,hk=>by
  rw [Zve s (by omega),Zfo h (k+1) (by omega) (by omega)];have:=h (k+1) (by omega) (by omega)
  by_cases hw:Z4b (s.take (k+1))=0
  ·rw [if_pos hw];have:=fun x=>(this.2 x) hw;omega
  ·rw [if_neg hw];have:=this.1 hw;omega
theorem Zry {c:UInt8} (h:Z4d c=false) {r:List UInt8}:∀ k,3≤k→k≤(c::r).length+1→Z9e (c::r) k=Zb2 (c::r)
 | 0,h0,_=>by omega
 | 1,h0,_=>by omega
 | 2,h0,_=>by omega
 | 3,_,hk=>by
  match r with
  | []=>simp at hk
  | d::r =>
   rw [Zve _ (by omega),Zve _ (by omega),Zek,Z1j];simp only [List.take_succ_cons,List.take_zero,Zcn h,Zxs h];generalize sg2.contains [c,d]=x;generalize sg1.contains [c]=y
   cases x<;>cases y<;>simp
 | k+4,_,hk=>by
  rw [Zve _ (by omega),Zry h (k+3) (by omega) (by omega)]
  match r with
  | []=>simp at hk
  | [_]=>simp at hk
  | d::e::r =>
   rw [if_pos];rw [List.take_succ_cons,List.take_succ_cons,List.take_succ_cons,Zxp h]
theorem Zl3 {s:List UInt8} (hs:s≠[]) (hc:Zpa [45,45] s=false) {k:Nat} (h1:1≤k) (h2:k≤s.length+1) (he:k=s.length+1∨(3≤k∧Z9e s k≠k-1)):Z9e s k=(Zya s).1:=by
 match s,hs with
 | c::r,_ =>
  rcases Z7m c with h | ⟨_,h⟩ | ⟨h,_⟩
  ·have hr:=Zfo (s:=c::r) (R:=Zuc Zna (c::r)) fun k a b=>Zjp h a b
   rw [Zkk h];have h3:=hr k h1 h2;have h4:=Z5e Zna (c::r)
   rcases he with he | ⟨_,he⟩
   ·rw [h3];show min _ _=_;omega
   ·rw [h3] at he ⊢;show min _ _=_;omega
  ·have hr:=Zfo (s:=c::r) (R:=Zuc Z4d (c::r)) fun k a b=>Z8q h a b
   rw [Z5m h];have h3:=hr k h1 h2;have h4:=Z5e Z4d (c::r)
   rcases he with he | ⟨_,he⟩
   ·rw [h3];show min _ _=_;omega
   ·rw [h3] at he ⊢;show min _ _=_;omega
  ·rw [Zzg h hc]
   by_cases h3:3≤k
   ·exact Zry h k h3 h2
   ·have he:k=(c::r).length+1:=by rcases he with he | he;exact he;omega
    match r with
    | [] =>
     simp at he;subst he;rw [Zve _ (by omega),Zek,Zfr];simp only [List.take_succ_cons,List.take_zero,Zjg h]
     cases signsL.contains [c]<;>simp
    | d::r=>simp at he;omega
theorem Zsy (s:List UInt8):∀ k,Z9e s k≤k
 | 0=>Nat.le_refl _
 | k+1=>by
  have:=Zsy s k;rw [Z9e]
  split
  ·omega
  ·split<;>omega
theorem Z30 {s:List UInt8} (hc:Zpa [45,45] s=false) (hn:(Zya s).1≠0):Z4b (s.take (Zya s).1)=(Zya s).2∧(Zya s).2≠0:=by
 match s with
 | []=>exact absurd rfl hn
 | c::r =>
  rcases Z7m c with h | ⟨_,h⟩ | ⟨h,_⟩
  ·have e:=Zkk (r:=r) h
   rw [e] at hn ⊢;have hn:Zuc Zna (c::r)≠0:=hn;obtain ⟨k,hk⟩:∃ j,Zuc Zna (c::r)=j+1:=⟨Zuc Zna (c::r)-1,by omega⟩;have h2:=Zne Zna (c::r);refine ⟨?_,by simp⟩
   show Z4b ((c::r).take (Zuc Zna (c::r)))=1
   rw [hk] at h2 ⊢;rw [List.take_succ_cons] at h2 ⊢;rw [Zsm h,if_pos h2]
  ·have e:=Z5m (r:=r) h
   rw [e] at hn ⊢;have hn:Zuc Z4d (c::r)≠0:=hn;obtain ⟨k,hk⟩:∃ j,Zuc Z4d (c::r)=j+1:=⟨Zuc Z4d (c::r)-1,by omega⟩;have h2:=Zne Z4d (c::r);refine ⟨?_,by show (if _ then 3 else 2)≠0;split<;>simp⟩
   show Z4b ((c::r).take (Zuc Z4d (c::r)))=if wordsL.contains ((c::r).take (Zuc Z4d (c::r))) then 3 else 2
   rw [hk] at h2 ⊢;rw [List.take_succ_cons] at h2 ⊢;rw [Zrm h,if_pos h2]
  ·have e:=Zzg (r:=r) h hc
   rw [e] at hn ⊢;have hn:Zb2 (c::r)≠0:=hn;refine ⟨?_,by show (if _ then 0 else 4)≠0;rw [if_neg hn];simp⟩
   show Z4b ((c::r).take (Zb2 (c::r)))=if Zb2 (c::r)=0 then 0 else 4
   rw [if_neg hn]
   match r with
   | [] =>
    rw [Zfr] at hn ⊢
    cases hs:signsL.contains [c] with
    | false=>rw [hs] at hn;simp at hn
    | true=>rw [if_pos rfl,List.take_succ_cons,List.take_zero,Zjg h,hs];rfl
   | d::r =>
    rw [Z1j] at hn ⊢
    cases hs:sg2.contains [c,d] with
    | true=>rw [if_pos rfl,List.take_succ_cons,List.take_succ_cons,List.take_zero,Zcn h,hs];rfl
    | false =>
     rw [hs] at hn;rw [if_neg (by simp)] at hn ⊢
     cases hs1:sg1.contains [c] with
     | false=>rw [hs1] at hn;simp at hn
     | true=>rw [if_pos rfl,List.take_succ_cons,List.take_zero,Zxs h,hs1];rfl
def Zzh (s:List UInt8):Bool :=
 let t:=Lib.trimPrefix s [45]
 t.all Zna && (s==[48] || (!(t==[]) && !(t.head? == some 48)))
def rdv (acc:Nat) (l:List UInt8):Nat:=l.foldl (fun a c=>a * 10+Zgi c) acc
theorem Zp2:∀ (l:List UInt8) (acc:Nat),rdv acc l=acc * 10 ^ l.length+val (l.reverse.map Zgi)
 | [],acc=>by simp [rdv,val]
 | c::r,acc=>by
  have:=Zp2 r (acc * 10+Zgi c);rw [show rdv acc (c::r)=rdv (acc * 10+Zgi c) r from rfl,this,List.reverse_cons,List.map_append,Z6k,List.length_cons,Nat.pow_succ,List.length_map,List.length_reverse];simp only [List.map_cons,List.map_nil,val,Nat.mul_zero,Nat.add_zero];rw [Nat.add_mul,Nat.mul_assoc,Nat.mul_comm 10 (10 ^ r.length),Nat.mul_comm (Zgi c)];omega
theorem Zd8:∀ (l:List UInt8) (acc:Nat),acc≤rdv acc l
 | [],acc=>Nat.le_refl _
 | c::r,acc=>by
  have:=Zd8 r (acc * 10+Zgi c);rw [show rdv acc (c::r)=rdv (acc * 10+Zgi c) r from rfl];omega
theorem Zsi:∀ (l:List UInt8) (acc:Nat),l.all Zna=true→acc≤18446744073709551615 →
  Lib.parseUintM 18446744073709551615 acc l=if rdv acc l≤18446744073709551615 then .ok (rdv acc l) else .range
 | [],acc,_,h=>by simp [Lib.parseUintM,rdv,h]
 | c::r,acc,hd,h=>by
  rw [List.all_cons,Bool.and_eq_true] at hd
  have hc:48≤c.toNat∧c.toNat≤57:=by have:=hd.1;unfold Zna at this;simpa using this
  have hge:=Zd8 r (acc * 10+Zgi c);have hdv:Zgi c=c.toNat-48:=rfl;rw [Lib.parseUintM,if_pos hc,show rdv acc (c::r)=rdv (acc * 10+Zgi c) r from rfl]
  by_cases h1:1844674407370955162≤acc
  ·rw [if_pos h1,if_neg (by omega)]
  ·rw [if_neg h1]
   by_cases h2:18446744073709551615<acc * 10+(c.toNat-48)
   ·rw [if_pos h2,if_neg (by omega)]
   ·rw [if_neg h2]
    exact Zsi r _ hd.2 (by omega)
theorem Zti {l:List UInt8} (hl:l≠[]) (hd:l.all Zna=true) :
  Lib.parseUintB 64 l=if val (l.reverse.map Zgi)≤18446744073709551615 then .ok (val (l.reverse.map Zgi)) else .range:=by
 have:=Zsi l 0 hd (by omega);rw [Zp2,Nat.zero_mul,Nat.zero_add] at this;rw [Lib.parseUintB,if_neg hl];exact this
theorem Z21 {x:Int} (h : -9223372036854775808≤x∧x≤9223372036854775807):Zfv x=(x,0):=by
 unfold Zfv Zgv;rw [if_pos (decide_eq_true h)]
theorem Z2x {x:Int} (h:¬ (-9223372036854775808≤x∧x≤9223372036854775807)):Zfv x=(0,60):=by
 unfold Zfv Zgv;rw [if_neg (by simpa using h)]
theorem Z01 (s:List UInt8):Lib.trimPrefix s [45]=if s.head? = some 45 then s.drop 1 else s:=by
 cases s with
 | nil=>rfl
 | cons c r =>
  unfold Lib.trimPrefix Lib.hasPrefix
  by_cases h:c=45
  ·subst h;simp
  ·have h':¬ (45:UInt8)=c:=fun e=>h e.symm
   simp [h,h']
theorem Z12 (s:List UInt8):(Zzh s=false∧Zbc s=(0,2))∨(Zzh s=true∧((∃ v,Lib.parseIntB 64 s = .ok v∧Zbc s=(v,0))∨(Lib.parseIntB 64 s = .range∧Zbc s=(0,60)))):=by
 cases s with
 | nil=>exact .inl ⟨by decide,rfl⟩
 | cons c r =>
  unfold Zzh Zbc;rw [Z01]
  by_cases hc:c=45
  ·subst hc
   simp only [List.head?_cons,if_true,List.drop_succ_cons,List.drop_zero];have e1:((some (45:UInt8))==some 45)=true:=rfl
   have e2:((45::r:List UInt8)==[48])=false:=by simp
   simp only [e1,e2,if_true,Bool.false_or]
   by_cases hd:r.all Zna=true
   ·cases r with
    | nil=>left;simp
    | cons d q =>
     by_cases h0:d=48
     ·subst h0;left;simp
     ·right
      have h0':¬ ((some d:Option UInt8)==some 48)=true:=by simpa using h0
      refine ⟨by simp [hd,h0],?_⟩;rw [if_neg (by simp only [List.head?_cons,Option.some.injEq,h0,hd,Bool.true_eq_false,reduceCtorEq,false_and,or_self,not_false_eq_true])];rw [Lib.parseIntB_minus,Zti (by simp) hd];generalize val ((d::q).reverse.map Zgi)=m
      by_cases hm:m≤9223372036854775808
      ·left
       refine ⟨-(m:Int),?_,Z21 (by omega)⟩;rw [if_pos (by omega)];simp only [Lib.signedC];rw [if_neg (by omega)]
      ·right
       refine ⟨?_,Z2x (by omega)⟩
       by_cases hm2:m≤18446744073709551615
       ·rw [if_pos hm2]
        simp only [Lib.signedC];rw [if_pos (by omega)]
       ·rw [if_neg hm2]
        rfl
   ·left
    have hd':r.all Zna=false:=by simpa using hd
    simp [hd']
  ·have e1:((some c:Option UInt8)==some 45)=false:=by simpa using hc
   simp only [List.head?_cons,e1,Option.some.injEq,hc,if_false,Bool.false_eq_true]
   by_cases hd:(c::r).all Zna=true
   ·have hdig:48≤c.toNat∧c.toNat≤57:=by
     have:=hd;rw [List.all_cons,Bool.and_eq_true] at this;have:=this.1;unfold Zna at this;simpa using this
    by_cases h0:c=48∧r≠[]
    ·left
     obtain ⟨rfl,h1⟩:=h0
     have hlen:(48::r:List UInt8).length > 1:=by
      cases r with
      | nil=>exact absurd rfl h1
      | cons _ _=>simp
     refine ⟨by simp [h1],?_⟩;rw [if_pos (.inr (.inl ⟨rfl,.inl hlen⟩))]
    ·right
     refine ⟨?_,?_⟩
     ·rw [hd]
      by_cases h1:c=48
      ·have:r=[]:=by
        by_cases h2:r=[]
        ·exact h2
        ·exact absurd ⟨h1,h2⟩ h0
       subst h1 this;rfl
      ·simp [h1]
     ·rw [if_neg (by
       simp only [List.head?_cons,Option.some.injEq,hd,Bool.true_eq_false,reduceCtorEq,or_false,false_or,not_and,List.length_cons];intro h1 h2;apply h0;refine ⟨h1,fun h3=>?_⟩;subst h3
       simp at h2)]
      rw [Lib.parseIntB_plain 64 c r (by omega) (by omega),Zti (by simp) hd];generalize val ((c::r).reverse.map Zgi)=m
      by_cases hm:m≤9223372036854775807
      ·left
       refine ⟨(m:Int),?_,Z21 (by omega)⟩;rw [if_pos (by omega)];simp only [Lib.signlessC];rw [if_neg (by omega)]
      ·right
       refine ⟨?_,Z2x (by omega)⟩
       by_cases hm2:m≤18446744073709551615
       ·rw [if_pos hm2]
        simp only [Lib.signlessC];rw [if_pos (by omega)]
       ·rw [if_neg hm2]
        rfl
   ·left
    have hd':(c::r).all Zna=false:=by simpa using hd
    rw [hd'];exact ⟨rfl,by rw [if_pos (.inr (.inr rfl))]⟩
end Go.Hs
end

section
namespace Go.Hs
theorem Zy5 (a b:Int):a.tdiv b=if (decide (a<0) != decide (b<0))=true then -((a.natAbs / b.natAbs:Nat):Int) else ((a.natAbs / b.natAbs:Nat):Int):=by
 cases a with
 | ofNat m=>cases b with
  | ofNat n=>simp [Int.tdiv];omega
  | negSucc n=>simp [Int.tdiv,Int.negSucc_lt_zero]
 | negSucc m=>cases b with
  | ofNat n=>simp [Int.tdiv,Int.negSucc_lt_zero]
  | negSucc n=>simp [Int.tdiv,Int.negSucc_lt_zero]
theorem Zcr {x:Int} (h:Zgv x=true):Zfv x=(x,0):=by rw [Zfv,if_pos h]
theorem Zrv {x:Int} (h:Zgv x=false):Zfv x=(0,60):=by rw [Zfv,h];simp
end Go.Hs
end

section
namespace Go.Hs
open Go.Proofs
set_option maxRecDepth 10000
@[go_sem] theorem Z05 (s:List UInt8) (k:Nat):(s.drop k).take (s.length-k)=s.drop k:=List.take_of_length_le (by simp)
theorem Zol {l:List UInt8} {k:Nat} (h:k<l.length):l[k]? = some l[k]:=List.getElem?_eq_getElem h
theorem Zcj (G:Nat→V) (hG:GOk G) (c:UInt8):Spec Tryz.prog G 250 [.int .u8 c.toNat] Zl (fun v _=>v = .bool (Zna c)):=by
 refine Zo 0 9 [.tmp 2] Tryz.func250 fun X=>?_;refine Z1 ?_
 by_cases h:48≤c.toNat
 ·have h1:decide ((c.toNat:Int)≥48)=true:=zT
  refine Zf h1 ?_;unfold Zna;simp [h];omega
 ·have h1:decide ((c.toNat:Int)≥48)=false:=zF
  refine Zf h1 ?_;unfold Zna;simp [h]
theorem u8q (c:UInt8) (n:Nat) (hn:n<256):((c.toNat:Int)==(n:Int))=(c==UInt8.ofNat n):=by
 by_cases h:c.toNat=n
 ·have h1:c=UInt8.ofNat n:=by
   apply UInt8.toNat_inj.1;rw [h,UInt8.toNat_ofNat'];omega
  rw [h1];simp;omega
 ·have h1:¬ c=UInt8.ofNat n:=by
   intro e;apply h;rw [e,UInt8.toNat_ofNat'];omega
  have h2:¬ (c.toNat:Int)=(n:Int):=by omega
  rw [show (c==UInt8.ofNat n)=false by simpa using h1,show ((c.toNat:Int)==(n:Int))=false from beq_eq_false_iff_ne.2 h2]
theorem Zu5 (c:UInt8):((c.toNat:Int)==10)=(c==10):=u8q c 10 (by decide)
theorem u8q9 (c:UInt8):((c.toNat:Int)==9)=(c==9):=u8q c 9 (by decide)
theorem Zu1 (c:UInt8):((c.toNat:Int)==32)=(c==32):=u8q c 32 (by decide)
theorem Zv1 (c:UInt8):((c.toNat:Int)==13)=(c==13):=u8q c 13 (by decide)
theorem Zt5 (c:UInt8):((c.toNat:Int)==95)=(c==95):=u8q c 95 (by decide)
theorem u8q45 (c:UInt8):((c.toNat:Int)==45)=(c==45):=u8q c 45 (by decide)
theorem Zu0 (G:Nat→V) (hG:GOk G) (c:UInt8):Spec Tryz.prog G 260 [.int .u8 c.toNat] Zl (fun v _=>v = .bool (Z1m c)):=by
 refine Zo 0 5 [.tmp 2] Tryz.func260 fun X=>?_;refine Z ?_;unfold Z1m;rw [bne,Zu5]
theorem Zc7 (G:Nat→V) (hG:GOk G) (c:UInt8):Spec Tryz.prog G 259 [.int .u8 c.toNat] Zl (fun v _=>v = .bool (Zwi c)):=by
 refine Zo 0 17 [.tmp 2] Tryz.func259 fun X=>?_
 have key:Zwi c=(c==32 || (decide ((c.toNat:Int)≥9) && decide ((c.toNat:Int)≤10)) || c==13):=by
  unfold Zwi
  congr 3
  ·rw [decide_eq_decide];omega
  ·rw [decide_eq_decide];omega
 rw [key];refine Z1 ?_
 cases h1:(c==32) with
 | true =>
  exact Zq (zi @Zu1 (zi @Zv1 h1))
 | false =>
  cases h2:decide ((c.toNat:Int)≥9) with
  | false =>
   exact Zq (zi @Zu1 (zi @Zv1 (zi h1 h2)))
  | true =>
   cases h3:decide ((c.toNat:Int)≤10) with
   | false =>
    exact Zq (zi @Zu1 (zi @Zv1 (zi h1 (zi h2 h3))))
   | true =>
    exact Zq (zi @Zu1 (zi @Zv1 (zi h1 (zi h2 h3))))
theorem Zph (G:Nat→V) (hG:GOk G) (c:UInt8):Spec Tryz.prog G 252 [.int .u8 c.toNat] Zl (fun v _=>v = .bool (Zvi c)):=by
 refine Zo 0 15 [.tmp 2] Tryz.func252 fun X=>?_;refine Z1 ?_
 cases h1:(c==95) with
 | true =>
  refine Zf (zi @Zt5 h1) ?_;unfold Zvi
  rw [h1]<;>rfl
 | false =>
  have ho:orZ .u8 (c.toNat:Int) 32=((c.toNat ||| 32:Nat):Int):=by
   have:=Z2s (fun c=>orZ .u8 (c.toNat:Int) 32==((c.toNat ||| 32:Nat):Int)) (by decide +kernel) c;simpa using this
  have hL:Zvi c=(decide (((c.toNat ||| 32:Nat):Int)≥97) && decide (((c.toNat ||| 32:Nat):Int)≤122)):=by
   unfold Zvi;rw [h1,Bool.false_or]
   congr 1
   ·rw [decide_eq_decide];omega
   ·rw [decide_eq_decide];omega
  rw [hL];generalize ((c.toNat ||| 32:Nat):Int)=x at ho ⊢
  cases h2:decide (x≥97) with
  | false =>
   exact Zq (zi @Zt5 (zi h1 (zi ho h2)))
  | true =>
   exact Zq (zi @Zt5 (zi h1 (zi ho h2)))
theorem Zd7 (G:Nat→V) (hG:GOk G) (c:UInt8):Spec Tryz.prog G 253 [.int .u8 c.toNat] Zl (fun v _=>v = .bool (Z4d c)):=by
 refine Zo 0 9 [.tmp 2] Tryz.func253 fun X=>?_;refine Z1 ?_;unfold Z4d
 cases h1:Zvi c with
 | true =>
  refine Z1 ?_;refine Zn hG ?_ (s:=(Zph G hG c));refine Zsf h1 ?_;exact Zr
 | false =>
  refine Z1 ?_;refine Zn hG ?_ (s:=(Zph G hG c));refine Zsf h1 ?_;refine Zn hG ?_ (s:=(Zcj G hG c));refine Zsf h1 ?_;exact Zr
structure FnB (G:Nat→V) (f:FuncId) (p:UInt8→Bool):Prop where
 en:Zha Tryz.prog f=true
 sp:∀ c:UInt8,Spec Tryz.prog G f [.int .u8 c.toNat] Zl (fun v _=>v = .bool (p c))
theorem fDigit {G:Nat→V} (hG:GOk G):FnB G 250 Zna:=⟨by kernel_rfl,Zcj G hG⟩
theorem fNoNl {G:Nat→V} (hG:GOk G):FnB G 260 Z1m:=⟨by kernel_rfl,Zu0 G hG⟩
theorem fBl {G:Nat→V} (hG:GOk G):FnB G 259 Zwi:=⟨by kernel_rfl,Zc7 G hG⟩
theorem fAl {G:Nat→V} (hG:GOk G):FnB G 253 Z4d:=⟨by kernel_rfl,Zd7 G hG⟩
theorem Zgk (G:Nat→V) (hG:GOk G) (s:List UInt8) (hs:s.length<1000000000000000) {f:FuncId} {p:UInt8→Bool} (hf:FnB G f p) :
  Spec Tryz.prog G 251 [.str s,.func (.func f) [] []] Zl (fun v _=>v = .int .i64 (Zuc p s)):=by
 refine Zo 0 20 [.tmp 4] Tryz.func251 fun X=>?_;refine Z1 ?_;refine Z1 ?_;refine Z5 ?_;refine AW.block ?_
 refine Zda s.length (fun k (_:Unit)=>st [(0,.str s),(1,.func (.func f) [] []),(5,.int .i64 k)] []) (fun k _=>Zuc p s=k+Zuc p (s.drop k)) 0 () (Nat.zero_le _) (by simp)
  (Za zp zp) ?_
 intro k _ hk hR L2 hL2;refine Z5 ?_
 by_cases hk1:k<s.length
 ·have h1:decide ((k:Int)<s.length)=true:=zT
  have hg:=Zol hk1;have hd:s.drop k=s[k]::s.drop (k+1):=List.drop_eq_getElem_cons hk1;generalize s[k]=c at hg hd;rw [hd] at hR;refine Z1f (zi h1 hg) ?_;refine CallA.pure hG hf.en ?_;refine Zs ?_;refine (hf.sp c).mono ?_;rintro _ _ rfl;refine Zsf h1 ?_;rw [Z4j] at hR;refine Zi rfl (fun h4=>?_) (fun h4=>?_)
  ·rw [if_pos h4] at hR
   refine Z1 ?_;refine hL2 _ ⟨hk1,(),by omega,Za zw zp⟩
  ·rw [if_neg (by simp [h4])] at hR
   refine Z ?_;have hR:Zuc p s=k+0:=hR
   rw [hR]<;>rfl
 ·have h1:decide ((k:Int)<s.length)=false:=zF
  have hk2:k=s.length:=by omega
  refine Z1f h1 ?_;refine Z9a rfl ?_
  ·refine Z ?_
   rw [hR,hk2,List.drop_length]<;>rfl
def encR (r:Int × Int):V := .tuple [.int .i64 r.1,.int .i64 r.2]
def Zos (l:List Nat):List Int:=l.map (fun (d:Nat)=>(d:Int))
@[simp] theorem Zfi (l:List Nat):(Zos l).length=l.length:=by simp [Zos]
theorem Zty (l:List Nat) (k:Nat):(Zos l)[k]? = (l[k]?).map (fun (d:Nat)=>(d:Int)):=by simp [Zos]
theorem Z0r (a b:List Nat):Zos (a++b)=Zos a++Zos b:=by simp [Zos]
def slD (nl:Bool) (l:List Nat):Sl Int:=if nl then .nil else .mk false (Zos l)
theorem Zz1 (G:Nat→V) (hG:GOk G) (c:Col) (nl:Bool) (l:List Nat) (hnl:nl=true→l=[]) (hl:l.length<1000000000) :
  Spec Tryz.prog G 350 [Zb c 1 (V.int .i64) (slD nl l)] Zl (fun v _=>v=Zb c 1 (V.int .i64) (slD nl (Z5s l.length l))):=by
 refine Zo 0 21 [.tmp 2] Tryz.func350 fun X=>?_
 have hsl:(slD nl l).l=Zos l:=by
  cases nl with
  | true=>rw [hnl rfl]<;>rfl
  | false=>rfl
 refine Z1 ?_;refine Z5 ?_;refine AW.block ?_
 refine Zlb (fun (m:List Nat)=>st [(0,Zb c 1 (V.int .i64) (slD nl m))] []) (fun m=>Z5s m.length m=Z5s l.length l∧(nl=true→m=[])∧m.length≤l.length) (fun m=>m.length) l ⟨rfl,hnl,Nat.le_refl _⟩
  (Za zp zp) ?_
 rintro m ⟨hm,hmn,hml⟩ L2 hL2
 have hsm:(slD nl m).l=Zos m:=by
  cases nl with
  | true=>rw [hmn rfl]<;>rfl
  | false=>rfl
 refine Z5 ?_
 rcases List.eq_nil_or_concat m with rfl | ⟨m',d,hme⟩
 ·refine Z1f (zi hsm @Zfi) ?_
  refine Zi rfl (fun h4=>?_) (fun h4=>?_)
  ·simp at h4
  ·refine Z ?_
   rw [← hm]
   try rfl
 ·rw [List.concat_eq_append] at hme
  have hlen:m.length=m'.length+1:=by rw [hme];simp
  have hw:IntKind.i64.wrap ((m.length:Int)-1)=(m'.length:Int):=by rw [w64 (by omega) (by omega)];omega
  have hg:(Zos m)[m'.length]? = some (d:Int):=by rw [hme,Zty];simp
  have hpos:decide ((m.length:Int) > 0)=true:=zT
  have hlast:m.getLast? = some d:=by rw [hme];simp
  have hnlf:nl=false:=by
   cases nl with
   | true=>rw [hmn rfl] at hlen;simp at hlen
   | false=>rfl
  subst hnlf
  by_cases hd:d=0
  ·subst hd
   refine Z1f (zi hsm (zi @Zfi (zi hpos (zi hw hg)))) ?_;refine Zi rfl (fun h4=>?_) (fun h4=>?_)
   ·refine Z0 ?_
    refine AW.block ?_
    have hle:m'.length≤m.length:=by omega
    refine Z1f (zi hsm (zi @Zfi (zi hw hle))) ?_
    have hsub:(slD false m).sub 0 m'.length=slD false m':=by
     rw [hme];simp [slD,Sl.sub,Z0r,Zfi]
    refine hL2 _ ⟨m',by omega,⟨?_,by simp,by omega⟩,Za (zpf hsub) zp⟩;rw [← hm,hlen,Z5s,if_pos (by rw [hlast]),hme];simp
   ·simp at h4
  ·have hd0:((d:Int)==0)=false:=by simpa using hd
   refine Z1f (zi hsm (zi @Zfi (zi hpos (zi hw (zi hg hd0))))) ?_;refine Zi rfl (fun h4=>?_) (fun h4=>?_)
   ·simp at h4
   ·refine Z ?_
    rw [← hm,hlen,Z5s,if_neg (by rw [hlast];simpa using hd)]
def Zpo (c:Col) (nl:Bool) (l:List Nat) (below:Bool):V := .agg [Zb c 1 (V.int .i64) (slD nl l),.bool below]
theorem slD_l {nl:Bool} {l:List Nat} (h:nl=true→l=[]):(slD nl l).l=Zos l:=by
 cases nl with
 | true=>rw [h rfl]<;>rfl
 | false=>rfl
theorem Zvj (l:List Nat) (k:Nat):val (l.drop k)=l.getD k 0+10 * val (l.drop (k+1)):=by
 by_cases h:k<l.length
 ·rw [List.drop_eq_getElem_cons h,val,List.getD_eq_getElem?_getD,List.getElem?_eq_getElem h]
  try rfl
 ·rw [List.drop_eq_nil_of_le (by omega),List.drop_eq_nil_of_le (by omega),List.getD_eq_getElem?_getD,List.getElem?_eq_none (by omega)]
  try rfl
theorem Zww {l:List Nat} (h:Dig l) (k:Nat):l.getD k 0<10:=by
 rw [List.getD_eq_getElem?_getD]
 by_cases hk:k<l.length
 ·rw [List.getElem?_eq_getElem hk]
  exact h _ (List.getElem_mem hk)
 ·rw [List.getElem?_eq_none (by omega)]
  decide
theorem Zzr {l:List Nat} {k:Nat} (h:k<l.length):(Zos l)[k]? = some ((l.getD k 0:Nat):Int):=by
 rw [Zty,List.getElem?_eq_getElem h,List.getD_eq_getElem?_getD,List.getElem?_eq_getElem h]
 try rfl
theorem Zx2 (k:Nat):0<10 ^ k:=Nat.pow_pos (by decide)
theorem Zvw {l:List Nat} {nl:Bool} (h:nl=decide (l=[])):Zm (Zos l)=slD nl l:=by
 cases l with
 | nil=>subst h;rfl
 | cons x r =>
  subst h;rw [show decide (x::r=[])=false by simp]
  try rfl
theorem Zz7 {K n A B o V:Nat} (h:o+K * (n+10 * A+10 * B)=V):(o+K * (n % 10))+(K * 10) * (n / 10+A+B)=V:=by
 rw [← h,Nat.mul_assoc,Nat.add_assoc,← Nat.mul_add]
 congr 2
 omega
structure AddI (la lb:List Nat) (M k:Nat) (out:List Nat) (cr:Nat):Prop where
 len:out.length=k
 dig:Dig out
 hcr:cr≤1
 v:val out+10 ^ k * (cr+val (la.drop k)+val (lb.drop k))=val la+val lb
 last:k=M+1→cr=0
 emp:M=0→k=0∧cr=0
theorem AddI.zero (la lb:List Nat) (M:Nat):AddI la lb M 0 [] 0:={ len:=rfl,dig:=fun d hd=>by simp at hd,hcr:=by omega,v:=by simp [val],last:=fun _=>rfl,emp:=fun _=>⟨rfl,rfl⟩ }
theorem AddI.step {la lb:List Nat} {M k:Nat} {out:List Nat} {cr:Nat} (h:AddI la lb M k out cr) (hM:M=max la.length lb.length) (da:Dig la) (db:Dig lb) (hgo:k<M∨cr > 0) {n:Nat} (hn:n=la.getD k 0+lb.getD k 0+cr) (hk:k≤M) :
  AddI la lb M (k+1) (out++[n % 10]) (n / 10):=by
 have h1:=Zww da k;have h2:=Zww db k;have h3:=h.hcr;refine ⟨by simp [h.len],Zd5.2 ⟨h.dig,Dig.one (by omega)⟩,by omega,?_,fun e=>?_,fun e=>?_⟩
 ·have hv:=h.v
  rw [Zvj la k,Zvj lb k] at hv;rw [Z6k,h.len,Nat.pow_succ]
  have e:val out+10 ^ k * (n+10 * val (la.drop (k+1))+10 * val (lb.drop (k+1)))=val la+val lb:=by
   rw [← hv,hn]
   congr 2
   omega
  simpa [val] using Zz7 e
 ·have e1:la.getD k 0=0:=by rw [List.getD_eq_getElem?_getD,List.getElem?_eq_none (by omega)]<;>rfl
  have e2:lb.getD k 0=0:=by rw [List.getD_eq_getElem?_getD,List.getElem?_eq_none (by omega)]<;>rfl
  omega
 ·have:=h.emp e
  omega
structure TakeI (la lb:List Nat) (k:Nat) (out:List Nat) (br:Nat):Prop where
 len:out.length=k
 dig:Dig out
 hbr:br≤1
 v:(val out:Int)+(10:Int) ^ k * ((val (la.drop k):Int)-br-val (lb.drop k))=val la-val lb
theorem TakeI.zero (la lb:List Nat):TakeI la lb 0 [] 0:={ len:=rfl,dig:=fun d hd=>by simp at hd,hbr:=by omega,v:=by simp [val] }
theorem Z31 {K x A B o V b:Int} {d br':Int} (h:o+K * (x+10 * A-b-(d+10 * B))=V) {n:Int} (hn:n=x-d-b+10 * br'):(o+K * n)+(K * 10) * (A-br'-B)=V:=by
 rw [← h,hn,Int.mul_assoc,Int.add_assoc,← Int.mul_add]
 congr 2
 omega
theorem TakeI.step {la lb:List Nat} {k:Nat} {out:List Nat} {br:Nat} (h:TakeI la lb k out br) {n br':Nat} (hn:(n:Int)=(la.getD k 0:Nat)-(lb.getD k 0:Nat)-br+10 * br') (hn10:n<10) (hb:br'≤1) :
  TakeI la lb (k+1) (out++[n]) br':=by
 refine ⟨by simp [h.len],Zd5.2 ⟨h.dig,Dig.one hn10⟩,hb,?_⟩;have hv:=h.v;rw [Zvj la k,Zvj lb k] at hv;rw [Z6k,h.len,Int.pow_succ]
 have e:(val out:Int)+(10:Int) ^ k * (((la.getD k 0:Nat):Int)+10 * (val (la.drop (k+1)):Int)-(br:Int)-(((lb.getD k 0:Nat):Int)+10 * (val (lb.drop (k+1)):Int)))=val la-val lb:=by
  rw [← hv]
  congr 2
 have:=Z31 e hn;simpa [val] using this
def sgn (below:Bool) (n:Nat):Int:=if below then -(n:Int) else n
theorem Zpv (l:List Nat) (i:Nat):val (l.drop i)≤val l:=by
 have h:val l=val (l.take i)+10 ^ (l.take i).length * val (l.drop i):=by rw [← Z6k,List.take_append_drop]
 have:=Nat.le_mul_of_pos_left (val (l.drop i)) (Zx2 (l.take i).length);omega
theorem Z3z (G:Nat→V) (hG:GOk G) (c:Col) (nl:Bool) (l:List Nat) (below:Bool) (hnl:nl=true→l=[]) (hd:Dig l) (hll:l.length<1000000) :
  Spec Tryz.prog G 359 [Zpo c nl l below] Zl (fun v _=>v = .tuple [.int .i64 (Zfv (sgn below (val l))).1,.bool (Zgv (sgn below (val l)))]):=by
 have hsl:=slD_l hnl;refine Zo 0 40 [.tmp 2,.tmp 3] Tryz.func359 fun X=>?_;simp only [Zpo];refine Z1 ?_;intro g1;refine Z1 ?_;refine Z1f (zi hsl @Zfi) ?_;refine AW.block ?_
 refine Zda l.length (fun k (_:Unit)=>st [(1,.ptr 1 g1 0),(4,.int .i64 (-(val (l.drop (l.length-k)):Int))),(5,.int .i64 ((l.length:Int)-1-k))] [(1,.cells .new g1 0 [Zb c 1 (V.int .i64) (slD nl l),.bool below])]) (fun k _=>val (l.drop (l.length-k))≤9223372036854775808) 0 () (Nat.zero_le _) (by rw [List.drop_eq_nil_of_le (by omega)];simp [val])
  (Za (by simp -implicitDefEqProofs only[go_sem,seval];rw [List.drop_eq_nil_of_le (by omega)];exact ⟨rfl,congrArg _ (by rw [w64 (by omega) (by omega)];omega)⟩) zp) ?_
 intro k _ hk hR L2 hL2;refine Z1 ?_;refine Zi rfl (fun h4=>?_) (fun h4=>?_)
 ·have hk1:k<l.length:=by have:=of_decide_eq_true h4;omega
  refine Z0 ?_;obtain ⟨i,hi⟩:∃ i,i=l.length-1-k:=⟨_,rfl⟩
  have e0:((l.length:Int)-1-k)=(i:Int):=by omega
  have g2:=Zzr (l:=l) (k:=i) (by omega);have h5:=Zww hd i;have hvd:=Zvj l i;have hvl:=Zpv l i;rw [show l.length-k=i+1 by omega] at hR ⊢;rw [e0];generalize l.getD i 0=d at g2 h5 hvd;generalize val (l.drop (i+1))=m at hR hvd;refine Z1f (zi hsl g2) ?_;refine Z5 ?_;have hw:IntKind.i64.wrap (-9223372036854775808+(d:Int)) = -9223372036854775808+(d:Int):=w64 (by omega) (by omega)
  have hT:IntKind.i64.wrap ((-9223372036854775808+(d:Int)).tdiv 10) = -(((9223372036854775808-d) / 10:Nat):Int):=by
   have e1:(-9223372036854775808+(d:Int)).natAbs=9223372036854775808-d:=by omega
   have e2:(-9223372036854775808+(d:Int)).tdiv 10 = -(((9223372036854775808-d) / 10:Nat):Int):=by
    rw [Zy5,e1]
    have:(-9223372036854775808+(d:Int))<0:=by omega
    simp [this]
   rw [e2,w64 (by omega) (by omega)]
  refine Z1f (zi hw hT) ?_;refine Zi rfl (fun h7=>?_) (fun h7=>?_)
  ·have h7':=of_decide_eq_true h7
   refine Z ?_
   have hf:Zgv (sgn below (val l))=false:=by
    unfold Zgv sgn;rw [decide_eq_false_iff_not]
    split<;>omega
   rw [Zrv hf,hf]
  ·have h7':=of_decide_eq_false h7
   refine Z1 ?_;refine Z1 ?_;refine hL2 _ ⟨hk1,(),?_,Za (by simp -implicitDefEqProofs only[go_sem,seval];rw [show l.length-(k+1)=i by omega,hvd];exact ⟨congrArg _ (by rw [w64 (n:=10 * -(m:Int)) (by omega) (by omega),w64 (by omega) (by omega)];omega),congrArg _ (by rw [w64 (by omega) (by omega)];omega)⟩) zp⟩;rw [show l.length-(k+1)=i by omega,hvd];omega
 ·have hk1:k=l.length:=by have:=of_decide_eq_false h4;omega
  subst hk1;refine Z0 ?_;rw [Nat.sub_self,List.drop_zero] at hR ⊢;generalize hm:val l=m at hR;have stop:(below=true∨m=0)∨¬ (below=true∨m=0):=Classical.em _;refine Zia (fun (_:Unit)=>st [(4,.int .i64 (-(m:Int)))] []) (fun _=>below=false∧m≠0) (fun K8 hK8=>?_) ?_
  ·have yes:(below=true∨m=0)→V.tuple [.int .i64 (-(m:Int)),.bool true]=V.tuple [.int .i64 (Zfv (sgn below m)).1,.bool (Zgv (sgn below m))]:=by
    intro h
    have hs:sgn below m = -(m:Int):=by
     unfold sgn
     split
     ·rfl
     ·rename_i hb
      have:m=0:=h.resolve_left hb;omega
    have hf:Zgv (-(m:Int))=true:=by unfold Zgv;rw [decide_eq_true_iff];omega
    rw [hs,Zcr hf,hf]
   cases hb:below with
   | true =>
    refine Z1f hb ?_;refine Zi rfl (fun h9=>?_) (fun h9=>?_)
    ·refine Z ?_
     rw [hb] at yes;exact yes (.inl rfl)
    ·simp at h9
   | false =>
    refine Z1f hb ?_;refine Zi rfl (fun h9=>?_) (fun h9=>?_)
    ·have h0:m=0:=by
      have : -(m:Int)=0:=by simpa using h9
      omega
     refine Z ?_;rw [hb] at yes;exact yes (.inr h0)
    ·have h0:m≠0:=by rintro rfl;simp at h9
     refine Z0 ?_;exact hK8 _ () ⟨hb,h0⟩ (Za zp zp)
  ·rintro _ ⟨hb,h0⟩
   subst hb;refine Z1 ?_;refine Zi rfl (fun h10=>?_) (fun h10=>?_)
   ·have h1:m=9223372036854775808:=by
     have : -(m:Int) = -9223372036854775808:=by simpa using h10
     omega
    refine Z ?_
    have hf:Zgv (sgn false m)=false:=by unfold Zgv sgn;rw [decide_eq_false_iff_not];simp;omega
    rw [Zrv hf,hf]
   ·have h1:m≠9223372036854775808:=by rintro rfl;simp at h10
    refine Z ?_
    have hf:Zgv (sgn false m)=true:=by unfold Zgv sgn;rw [decide_eq_true_iff];simp;omega
    rw [Zcr hf,hf,w64 (by omega) (by omega)];simp [sgn]
theorem Z2z (G:Nat→V) (hG:GOk G) (c:Col) (nl:Bool) (l:List Nat) (below:Bool) (hnl:nl=true→l=[]) (hd:Dig l) (hll:l.length<1000000) :
  Spec Tryz.prog G 349 [Zpo c nl l below] Zl (fun v _=>v=encR (Zfv (sgn below (val l)))):=by
 have hF:=Z3z G hG c.ent nl l below hnl hd hll;generalize sgn below (val l)=x at hF;refine Zo 0 14 [.tmp 2,.tmp 3] Tryz.func349 fun X=>?_;simp only [Zpo];refine Z1 ?_;intro g1;refine Z1 ?_;refine Zc hG ?_ (s:=hF);refine Z5 ?_
 cases hf:Zgv x with
 | true =>
  refine Z1 ?_;refine Zi rfl (fun h2=>?_) (fun h2=>?_)
  ·simp at h2
  ·refine Z ?_
   rw [Zcr hf]
   try rfl
 | false =>
  refine Z1 ?_;refine Zi rfl (fun h2=>?_) (fun h2=>?_)
  ·refine Z ?_
   rw [Zrv hf]
   try rfl
  ·simp at h2
end Go.Hs
end

section
namespace Go.Proofs
open Go.Shelf
def Zap:Go.Shelf.Ren:=⟨fun | 174=>347 | 247=>355 | 245=>356 | 287=>363 | 279=>364 | 280=>365 | 281=>366 | 282=>367 | 321=>370 | 322=>371 | 316=>372 | 171=>374 | 205=>373 | 243=>375 | 246=>376 | 283=>377 | 284=>378 | 285=>379 | 286=>380 | 129=>238 | 317=>381 | 318=>382 | 319=>383 | 320=>384 | 337=>385 | 338=>386 | n=>n,fun | 9=>9 | 3=>3 | 2=>2 | 75=>379 | 85=>380 | 4=>4 | 167=>397 | 5=>5 | 53=>265 | 175=>398 | 46=>219 | 168=>400 | 37=>136 | 0=>0 | 210=>422 | 21=>21 | 127=>425 | 145=>428 | 143=>426 | 171=>430 | 173=>432 | 212=>435 | 51=>263 | 20=>20 | 213=>436 | 232=>437 | 233=>438 | 80=>362 | n=>n,fun | 15=>5 | 16=>2 | 17=>6 | 18=>7 | 19=>8 | n=>n⟩
theorem Zbp:Go.Proofs.LaysC.n174 Tryz.prog Zap:={
 mixed:=by kernel_rfl
 f129:=Tryz.func238.trans (congrArg some (by kernel_rfl))
 f171:=Tryz.func374.trans (congrArg some (by kernel_rfl))
 f174:=Tryz.func347.trans (congrArg some (by kernel_rfl))
 f205:=Tryz.func373.trans (congrArg some (by kernel_rfl))
 f243:=Tryz.func375.trans (congrArg some (by kernel_rfl))
 f245:=Tryz.func356.trans (congrArg some (by kernel_rfl))
 f246:=Tryz.func376.trans (congrArg some (by kernel_rfl))
 f247:=Tryz.func355.trans (congrArg some (by kernel_rfl))
 f279:=Tryz.func364.trans (congrArg some (by kernel_rfl))
 f280:=Tryz.func365.trans (congrArg some (by kernel_rfl))
 f281:=Tryz.func366.trans (congrArg some (by kernel_rfl))
 f282:=Tryz.func367.trans (congrArg some (by kernel_rfl))
 f283:=Tryz.func377.trans (congrArg some (by kernel_rfl))
 f284:=Tryz.func378.trans (congrArg some (by kernel_rfl))
 f285:=Tryz.func379.trans (congrArg some (by kernel_rfl))
 f286:=Tryz.func380.trans (congrArg some (by kernel_rfl))
 f287:=Tryz.func363.trans (congrArg some (by kernel_rfl))
 f316:=Tryz.func372.trans (congrArg some (by kernel_rfl))
 f317:=Tryz.func381.trans (congrArg some (by kernel_rfl))
 f318:=Tryz.func382.trans (congrArg some (by kernel_rfl))
 f319:=Tryz.func383.trans (congrArg some (by kernel_rfl))
 f320:=Tryz.func384.trans (congrArg some (by kernel_rfl))
 f321:=Tryz.func370.trans (congrArg some (by kernel_rfl))
 f322:=Tryz.func371.trans (congrArg some (by kernel_rfl))
 f337:=Tryz.func385.trans (congrArg some (by kernel_rfl))
 f338:=Tryz.func386.trans (congrArg some (by kernel_rfl))
 t0:=Tryz.underlying0
 a0:=Tryz.isAgg0
 z0:=Tryz.sizeOf0
 v0:=Tryz.zeroValue0
 t2:=Tryz.underlying2
 a2:=Tryz.isAgg2
 z2:=Tryz.sizeOf2
 v2:=Tryz.zeroValue2
 t3:=Tryz.underlying3
 a3:=Tryz.isAgg3
 z3:=Tryz.sizeOf3
 v3:=Tryz.zeroValue3
 t4:=Tryz.underlying4
 a4:=Tryz.isAgg4
 z4:=Tryz.sizeOf4
 v4:=Tryz.zeroValue4
 t5:=Tryz.underlying5
 a5:=Tryz.isAgg5
 z5:=Tryz.sizeOf5
 v5:=Tryz.zeroValue5
 t9:=Tryz.underlying9
 a9:=Tryz.isAgg9
 z9:=Tryz.sizeOf9
 v9:=Tryz.zeroValue9
 t20:=Tryz.underlying20
 a20:=Tryz.isAgg20
 z20:=Tryz.sizeOf20
 v20:=Tryz.zeroValue20
 t21:=Tryz.underlying21
 a21:=Tryz.isAgg21
 z21:=Tryz.sizeOf21
 v21:=Tryz.zeroValue21
 t37:=Tryz.underlying136
 a37:=Tryz.isAgg136
 z37:=Tryz.sizeOf136
 v37:=Tryz.zeroValue136
 t46:=Tryz.underlying219
 a46:=Tryz.isAgg219
 z46:=Tryz.sizeOf219
 v46:=Tryz.zeroValue219
 t51:=Tryz.underlying263
 a51:=Tryz.isAgg263
 z51:=Tryz.sizeOf263
 v51:=Tryz.zeroValue263
 t53:=Tryz.underlying265
 a53:=Tryz.isAgg265
 z53:=Tryz.sizeOf265
 v53:=Tryz.zeroValue265
 t75:=Tryz.underlying379
 a75:=Tryz.isAgg379
 z75:=Tryz.sizeOf379
 v75:=Tryz.zeroValue379
 t85:=Tryz.underlying380
 a85:=Tryz.isAgg380
 z85:=Tryz.sizeOf380
 v85:=Tryz.zeroValue380
 t127:=Tryz.underlying425
 a127:=Tryz.isAgg425
 z127:=Tryz.sizeOf425
 v127:=Tryz.zeroValue425
 t143:=Tryz.underlying426
 a143:=Tryz.isAgg426
 z143:=Tryz.sizeOf426
 v143:=Tryz.zeroValue426
 t145:=Tryz.underlying428
 a145:=Tryz.isAgg428
 z145:=Tryz.sizeOf428
 v145:=Tryz.zeroValue428
 t167:=Tryz.underlying397
 a167:=Tryz.isAgg397
 z167:=Tryz.sizeOf397
 v167:=Tryz.zeroValue397
 t168:=Tryz.underlying400
 a168:=Tryz.isAgg400
 z168:=Tryz.sizeOf400
 v168:=Tryz.zeroValue400
 t171:=Tryz.underlying430
 a171:=Tryz.isAgg430
 z171:=Tryz.sizeOf430
 v171:=Tryz.zeroValue430
 t173:=Tryz.underlying432
 a173:=Tryz.isAgg432
 z173:=Tryz.sizeOf432
 v173:=Tryz.zeroValue432
 t175:=Tryz.underlying398
 a175:=Tryz.isAgg398
 z175:=Tryz.sizeOf398
 v175:=Tryz.zeroValue398
 t210:=Tryz.underlying422
 a210:=Tryz.isAgg422
 z210:=Tryz.sizeOf422
 v210:=Tryz.zeroValue422
 t212:=Tryz.underlying435
 a212:=Tryz.isAgg435
 z212:=Tryz.sizeOf435
 v212:=Tryz.zeroValue435
 t213:=Tryz.underlying436
 a213:=Tryz.isAgg436
 z213:=Tryz.sizeOf436
 t232:=Tryz.underlying437
 a232:=Tryz.isAgg437
 z232:=Tryz.sizeOf437
 v232:=Tryz.zeroValue437
 t233:=Tryz.underlying438
 a233:=Tryz.isAgg438
 z233:=Tryz.sizeOf438
 v233:=Tryz.zeroValue438
 g15:=by kernel_rfl
 g16:=by kernel_rfl
 g17:=by kernel_rfl
 g18:=by kernel_rfl
 g19:=by kernel_rfl
 t80:=Tryz.underlying362
 a80:=Tryz.isAgg362
 z80:=Tryz.sizeOf362
 v80:=Tryz.zeroValue362
 i0:=by kernel_rfl
 i2:=by kernel_rfl
 i3:=by kernel_rfl
 i4:=by kernel_rfl
 i5:=by kernel_rfl
 i9:=by kernel_rfl
 i20:=by kernel_rfl
 i21:=by kernel_rfl
 i37:=by kernel_rfl
 i46:=by kernel_rfl
 i51:=by kernel_rfl
 i53:=by kernel_rfl
 i75:=by kernel_rfl
 i80:=by kernel_rfl
 i85:=by kernel_rfl
 i127:=by kernel_rfl
 i143:=by kernel_rfl
 i145:=by kernel_rfl
 i167:=by kernel_rfl
 i168:=by kernel_rfl
 i171:=by kernel_rfl
 i173:=by kernel_rfl
 i175:=by kernel_rfl
 i210:=by kernel_rfl
 i212:=by kernel_rfl
 i232:=by kernel_rfl
 i233:=by kernel_rfl
 m15:=by kernel_rfl
 m16:=by kernel_rfl
 m17:=by kernel_rfl
 m18:=by kernel_rfl
 m19:=by kernel_rfl
 c0:=by kernel_rfl
 c2:=by kernel_rfl
 c3:=by kernel_rfl
 c4:=by kernel_rfl
 c5:=by kernel_rfl
 c9:=by kernel_rfl
 c20:=by kernel_rfl
 c21:=by kernel_rfl
 c37:=by kernel_rfl
 c46:=by kernel_rfl
 c51:=by kernel_rfl
 c53:=by kernel_rfl
 c75:=by kernel_rfl
 c80:=by kernel_rfl
 c85:=by kernel_rfl
 c127:=by kernel_rfl
 c143:=by kernel_rfl
 c145:=by kernel_rfl
 c167:=by kernel_rfl
 c168:=by kernel_rfl
 c171:=by kernel_rfl
 c173:=by kernel_rfl
 c175:=by kernel_rfl
 c210:=by kernel_rfl
 c212:=by kernel_rfl
 c213:=by kernel_rfl
 c232:=by kernel_rfl
 c233:=by kernel_rfl }
def Z8o:Go.Shelf.Ren:=⟨fun | 101=>354 | 208=>362 | 206=>277 | n=>n,fun | 9=>9 | 4=>4 | 3=>3 | n=>n,fun | n=>n⟩
theorem Zjx:Go.Proofs.Lays.n101 Tryz.prog Z8o:={
 mixed:=by kernel_rfl
 f101:=Tryz.func354.trans (congrArg some (by kernel_rfl))
 f206:=Tryz.func277.trans (congrArg some (by kernel_rfl))
 f208:=Tryz.func362.trans (congrArg some (by kernel_rfl))
 t3:=Tryz.underlying3
 a3:=Tryz.isAgg3
 z3:=Tryz.sizeOf3
 v3:=Tryz.zeroValue3
 t4:=Tryz.underlying4
 a4:=Tryz.isAgg4
 z4:=Tryz.sizeOf4
 v4:=Tryz.zeroValue4
 t9:=Tryz.underlying9
 a9:=Tryz.isAgg9
 z9:=Tryz.sizeOf9
 v9:=Tryz.zeroValue9 }
end Go.Proofs
end
