/- Part 32 of the proof of a statement of seat YtohdjmgdaaipaaaGreatDoor: HsNumLaw HsLexLaw HsLexLaw2 HsNumParseLaw HsNumBits HsHLex1 HsHNumBase HsHNumRef1 HsHNumRef2 HsHNumRef3 HsHNumRef4 HsHNumShelf. -/
import Derived.Lib.ParseIntB
import Derived.Lib.ItoaNum
import Derived.Lib.Strings
import Derived.Lib.Index
import Derived.Lib.IndexMore
import Derived.Lib.ParseIntBCases
import Derived.Test.YtohdjmgdaaipaaaGreatDoorPart31
import Derived.Test.YtohdjmgdaaipaaaGreatDoorPart19
import Derived.Test.YtohdjmgdaaipaaaGreatDoorPart20
import Derived.Test.YtohdjmgdaaipaaaGreatDoorPart25
import Derived.Lib.Mul64
import Derived.Test.YtohdjmgdaaipaaaGreatDoorChecked
import Derived.Shelf.Strconv.ParseIntPublic10
import Derived.Shelf.Strconv.ErrVarParseInt
import Derived.Shelf.Strconv.Itoa4
import Derived.Shelf.Strings.Prefix
import Derived.Ground.NamesProg
set_option linter.unusedSimpArgs false
set_option linter.unusedVariables false
section
namespace Go.Hs
def dgF:Nat→Nat→List Nat
 | 0,_=>[]
 | f+1,n=>if n=0 then [] else (n % 10)::dgF f (n / 10)
def dg (n:Nat):List Nat:=dgF n n
theorem Z4ba:∀ (f f' n:Nat),n≤f→n≤f'→dgF f n=dgF f' n
 | 0,f',n,h,_=>by
  have:n=0:=by omega
  subst this
  cases f'<;>simp [dgF]
 | f+1,0,n,_,h=>by
  have:n=0:=by omega
  subst this;simp [dgF]
 | f+1,f'+1,n,h,h'=>by
  simp only [dgF]
  split
  ·rfl
  ·rw [Z4ba f f' (n / 10) (by omega) (by omega)]
theorem Zdg:dg 0=[]:=rfl
theorem Zai {n:Nat} (h:0<n):dg n=(n % 10)::dg (n / 10):=by
 obtain ⟨k,rfl⟩:∃ k,n=k+1:=⟨n-1,by omega⟩
 show dgF (k+1) (k+1)=_
 rw [dgF,if_neg (by omega),Z4ba k ((k+1) / 10) _ (by omega) (Nat.le_refl _)];rfl
def val:List Nat→Nat
 | []=>0
 | d::r=>d+10 * val r
theorem Zsl:∀ (a b:List Nat),val (a++b)=val a+10 ^ a.length * val b
 | [],b=>by simp [val]
 | d::a,b=>by
  rw [List.cons_append,val,Zsl a b,val,List.length_cons,Nat.pow_succ];rw [Nat.mul_add,← Nat.mul_assoc,Nat.mul_comm 10 (10 ^ a.length)];omega
def Dig (l:List Nat):Prop:=∀ d∈l,d<10
theorem Dig.app {a b:List Nat}:Dig (a++b) ↔ Dig a∧Dig b:=by
 constructor
 ·exact fun h=>⟨fun d hd=>h d (by simp [hd]),fun d hd=>h d (by simp [hd])⟩
 ·rintro ⟨h1,h2⟩ d hd
  rcases List.mem_append.1 hd with h | h
  ·exact h1 d h
  ·exact h2 d h
theorem Dig.one {d:Nat} (h:d<10):Dig [d]:=by intro x hx;simp at hx;omega
theorem Zfba:∀ {l:List Nat},Dig l→val l<10 ^ l.length
 | [],_=>by simp [val]
 | d::r,h=>by
  have h1:=Zfba (l:=r) fun x hx=>h x (by simp [hx]);have h2:=h d (by simp);rw [val,List.length_cons,Nat.pow_succ];omega
theorem Z84 (n:Nat):val (dg n)=n:=by
 induction n using Nat.strongRecOn with
 | _ n ih =>
  rcases Nat.eq_zero_or_pos n with h | h
  ·subst h;rfl
  ·rw [Zai h,val,ih (n / 10) (by omega)]
   omega
theorem Zpr (n:Nat):Dig (dg n):=by
 induction n using Nat.strongRecOn with
 | _ n ih =>
  rcases Nat.eq_zero_or_pos n with h | h
  ·subst h;intro d hd;simp [Zdg] at hd
  ·rw [Zai h]
   intro d hd
   rcases List.mem_cons.1 hd with rfl | hd
   ·omega
   ·exact ih (n / 10) (by omega) d hd
theorem dg_last (n:Nat):∀ d,(dg n).getLast? = some d→d≠0:=by
 induction n using Nat.strongRecOn with
 | _ n ih =>
  intro d hd
  rcases Nat.eq_zero_or_pos n with h | h
  ·subst h;simp [Zdg] at hd
  ·rw [Zai h] at hd
   rcases Nat.eq_zero_or_pos (n / 10) with h2 | h2
   ·rw [h2,Zdg] at hd
    simp at hd;omega
   ·have hne:dg (n / 10)≠[]:=by rw [Zai h2];simp
    rw [List.getLast?_cons_of_ne_nil hne] at hd;exact ih (n / 10) (by omega) d hd
theorem Z3ba:∀ {l:List Nat},Dig l→(∀ d,l.getLast? = some d→d≠0)→dg (val l)=l
 | [],_,_=>rfl
 | d::r,h,hl=>by
  have hd:=h d (by simp);have hr:Dig r:=fun x hx=>h x (by simp [hx])
  rcases hrn:r with _ | ⟨x,s⟩
  ·subst hrn
   have:=hl d (by simp);rw [val,val,Zai (by omega)]
   have e1:(d+10 * 0) % 10=d:=by omega
   have e2:(d+10 * 0) / 10=0:=by omega
   rw [e1,e2,Zdg]
  ·rw [← hrn]
   have hne:r≠[]:=by rw [hrn];simp
   have hl2:∀ y,r.getLast? = some y→y≠0:=fun y hy=>hl y (by rw [List.getLast?_cons_of_ne_nil hne];exact hy);have ih:=Z3ba hr hl2
   have hp:0<val r:=by
    rcases Nat.eq_zero_or_pos (val r) with h0 | h0
    ·rw [h0,Zdg] at ih;exact absurd ih.symm hne
    ·exact h0
   rw [val,Zai (by omega)]
   have e1:(d+10 * val r) % 10=d:=by omega
   have e2:(d+10 * val r) / 10=val r:=by omega
   rw [e1,e2,ih]
def Zpv:Nat→List Nat→List Nat
 | 0,l=>l
 | n+1,l=>if l.getLast? = some 0 then Zpv n l.dropLast else l
theorem Z60:∀ (n:Nat) (l:List Nat),l.length≤n→Dig l→Zpv n l=dg (val l)
 | 0,l,h,_=>by
  have:l=[]:=List.length_eq_zero_iff.1 (by omega);subst this;rfl
 | n+1,l,h,hd=>by
  rw [Zpv]
  split
  ·rename_i h0
   have hne:l≠[]:=by rintro rfl;simp at h0
   have e:l=l.dropLast++[0]:=by
    have:=List.dropLast_concat_getLast hne;rw [List.getLast?_eq_some_getLast hne] at h0;rw [Option.some.inj h0] at this;exact this.symm
   have hv:val l=val l.dropLast:=by
    conv=>lhs;rw [e]
    rw [Zsl];simp [val]
   rw [Z60 n l.dropLast (by rw [List.length_dropLast];omega) (fun x hx=>hd x (List.dropLast_subset _ hx)),hv]
  ·rename_i h0
   rw [Z3ba hd];rintro d hl rfl;exact h0 hl
theorem Zl2 {n k:Nat} (h:n<10 ^ k):(dg n).length≤k:=by
 induction k generalizing n with
 | zero =>
  have:n=0:=by simp at h;exact h
  subst this;simp [Zdg]
 | succ k ih =>
  rcases Nat.eq_zero_or_pos n with h0 | h0
  ·subst h0;simp [Zdg]
  ·rw [Zai h0,List.length_cons]
   have:=ih (n:=n / 10) (by rw [Nat.pow_succ] at h;omega);omega
theorem dg_ne {n:Nat}:dg n=[] ↔ n=0:=by
 constructor
 ·intro h;have:=Z84 n;rw [h] at this;exact this.symm
 ·rintro rfl;rfl
def Z1w (x:Int):Bool:=decide (-9223372036854775808≤x∧x≤9223372036854775807)
def Zdv (x:Int):Int × Int:=if Z1w x then (x,0) else (0,60)
def Zja (c:UInt8):Bool:=48≤c.toNat && c.toNat≤57
def Zeh (c:UInt8):Nat:=c.toNat-48
def Zrb (s:List UInt8):Int × Int :=
 let below:=s.head? == some 45
 let t:=if below then s.drop 1 else s
 if t=[]∨(t.head? = some 48∧(t.length > 1∨below=true))∨t.all Zja=false then (0,2)
 else Zdv (if below then -(val (t.reverse.map Zeh):Int) else val (t.reverse.map Zeh))
def Zoy (n:Int):List UInt8:=Lib.itoa n
end Go.Hs
end

section
namespace Go.Hs
open Go
structure Tk where
 kind:Int
 text:List UInt8
 pos:Int
 deriving DecidableEq,Inhabited
def Zhj (c:UInt8):Bool:=c==95 || (decide (97≤(c.toNat ||| 32)) && decide ((c.toNat ||| 32)≤122))
def Zzd (c:UInt8):Bool:=Zhj c || Zja c
def Znh (c:UInt8):Bool:=c==32 || (decide (9≤c.toNat) && decide (c.toNat≤10)) || c==13
def Z4l (c:UInt8):Bool := !(c==10)
def Zxc (p:UInt8→Bool):List UInt8→Nat
 | []=>0
 | c::r=>if p c then Zxc p r+1 else 0
theorem Zjg (p:UInt8→Bool) (c:UInt8) (r:List UInt8):Zxc p (c::r)=if p c then Zxc p r+1 else 0:=rfl
theorem Z8d (p:UInt8→Bool):∀ s,Zxc p s≤s.length
 | []=>Nat.le_refl _
 | c::r=>by
  have:=Z8d p r;unfold Zxc
  split
  ·simp only [List.length_cons];omega
  ·exact Nat.zero_le _
def Zfa (p s:List UInt8):Bool:=p.isPrefixOf s
theorem Z0c (s:List UInt8):Zfa [] s=true:=by cases s<;>rfl
theorem Zsd (a:UInt8) (p:List UInt8):Zfa (a::p) []=false:=rfl
theorem Zcb (a c:UInt8) (p s:List UInt8):Zfa (a::p) (c::s)=(a==c && Zfa p s):=rfl
def blkF:Nat→List UInt8→Nat
 | 0,_=>0
 | _+1,[]=>0
 | f+1,c::r=>if Znh c then blkF f r+1 else if Zfa [45,45] (c::r) then Zxc Z4l (c::r)+blkF f ((c::r).drop (Zxc Z4l (c::r))) else 0
def blk (s:List UInt8):Nat:=blkF s.length s
theorem Z3f {s:List UInt8} (h:Zfa [45,45] s=true):2≤Zxc Z4l s∧2≤s.length:=by
 match s with
 | []=>simp [Zfa] at h
 | [_]=>simp [Zfa] at h
 | a::b::r =>
  simp [Zfa] at h;obtain ⟨rfl,rfl⟩:=h;simp [Zxc,Z4l]
theorem Zyz:∀ (f f':Nat) (s:List UInt8),s.length≤f→s.length≤f'→blkF f s=blkF f' s
 | 0,f',s,h,_=>by
  have:s=[]:=List.length_eq_zero_iff.1 (by omega);subst this
  cases f'<;>rfl
 | f+1,0,s,_,h=>by
  have:s=[]:=List.length_eq_zero_iff.1 (by omega);subst this;rfl
 | f+1,f'+1,[],_,_=>rfl
 | f+1,f'+1,c::r,h,h'=>by
  simp only [List.length_cons] at h h';unfold blkF
  split
  ·rw [Zyz f f' r (by omega) (by omega)]
  ·split
   ·rename_i hp
    have:=Z3f hp;rw [Zyz f f' _ (by simp only [List.length_drop,List.length_cons];omega) (by simp only [List.length_drop,List.length_cons];omega)]
   ·rfl
theorem Zft:blk []=0:=rfl
theorem Z2m {c:UInt8} {r:List UInt8} (h:Znh c=true):blk (c::r)=blk r+1:=by
 unfold blk;rw [List.length_cons,blkF,if_pos h]
theorem Zhm {s:List UInt8} (h:Zfa [45,45] s=true):blk s=Zxc Z4l s+blk (s.drop (Zxc Z4l s)):=by
 match s with
 | []=>simp [Zfa] at h
 | c::r =>
  have hc:Znh c=false:=by
   cases r with
   | nil=>simp [Zfa] at h
   | cons d r=>simp [Zfa] at h;rw [← h.1];decide
  have:=Z3f h;unfold blk;rw [List.length_cons,blkF,if_neg (by simp [hc]),if_pos h];rw [Zyz r.length _ _ (by simp only [List.length_drop,List.length_cons];omega) (Nat.le_refl _)]
theorem Zmp {c:UInt8} {r:List UInt8} (h:Znh c=false) (h2:Zfa [45,45] (c::r)=false):blk (c::r)=0:=by
 unfold blk;rw [List.length_cons,blkF,if_neg (by simp [h]),if_neg (by simp [h2])]
theorem Ztr (s:List UInt8):blk s≤s.length:=by
 have key:∀ (n:Nat) (s:List UInt8),s.length≤n→blk s≤s.length:=by
  intro n
  induction n with
  | zero =>
   intro s h;have:s=[]:=List.length_eq_zero_iff.1 (by omega);subst this;exact Nat.le_refl _
  | succ n ih =>
   intro s h
   match s with
   | []=>exact Nat.le_refl _
   | c::r =>
    cases hb:Znh c with
    | true =>
     rw [Z2m hb];have:=ih r (by simp only [List.length_cons] at h;omega);simp only [List.length_cons];omega
    | false =>
     cases hp:Zfa [45,45] (c::r) with
     | false=>rw [Zmp hb hp];exact Nat.zero_le _
     | true =>
      have h1:=Z3f hp;have h2:=Z8d Z4l (c::r);rw [Zhm hp];have:=ih ((c::r).drop (Zxc Z4l (c::r))) (by rw [List.length_drop];omega);rw [List.length_drop] at this;omega
 exact key s.length s (Nat.le_refl _)
def Zhp (s:List UInt8):Prop:=∀ c r,s=c::r→Znh c=false∧Zfa [45,45] s=false
theorem Znp (s:List UInt8):Zhp (s.drop (blk s)):=by
 have key:∀ (n:Nat) (s:List UInt8),s.length≤n→Zhp (s.drop (blk s)):=by
  intro n
  induction n with
  | zero =>
   intro s h;have:s=[]:=List.length_eq_zero_iff.1 (by omega);subst this;intro c r hh;simp [Zft] at hh
  | succ n ih =>
   intro s h
   match s with
   | []=>intro c r hh;simp [Zft] at hh
   | c::r =>
    cases hb:Znh c with
    | true =>
     rw [Z2m hb,List.drop_succ_cons];exact ih r (by simp only [List.length_cons] at h;omega)
    | false =>
     cases hp:Zfa [45,45] (c::r) with
     | false =>
      rw [Zmp hb hp,List.drop_zero];intro c' r' hh;cases hh;exact ⟨hb,hp⟩
     | true =>
      have h1:=Z3f hp;have h2:=Z8d Z4l (c::r);rw [Zhm hp,← List.drop_drop];exact ih _ (by rw [List.length_drop];omega)
 exact key s.length s (Nat.le_refl _)
theorem Zy7 {s:List UInt8} (h:Zhp s):blk s=0:=by
 match s with
 | []=>rfl
 | c::r=>obtain ⟨h1,h2⟩:=h c r rfl;exact Zmp h1 h2
def signsL:List (List UInt8):=[[58,61],[60,62],[60,61],[62,61],[60],[62],[61],[43],[45],[42],[40],[41],[44],[59]]
def wordsL:List (List UInt8):=[[97,110,100],[100,105,118],[101,108,115,101],[101,109,105,116],[101,110,100,105,102],[102,97,108,115,101],[105,102],[105,109,112,108,105,101,115],[109,111,100],[110,111,116],[111,114],[116,104,101,110],[116,114,117,101],[120,111,114]]
def Zeba:List UInt8:=32::wordsL.flatMap (· ++ [32])
def Zba (s:List UInt8):Nat × Nat :=
 match s with
 | []=>(0,0)
 | c::_ =>
  if Zfa [45,45] s then (0,0)
  else if Zja c then (Zxc Zja s,1)
  else if Zhj c then (Zxc Zzd s,if wordsL.contains (s.take (Zxc Zzd s)) then 3 else 2)
  else match signsL.find? (Zfa · s) with
   | some t=>(t.length,4)
   | none=>(0,0)
def isP (s:List UInt8):Nat:=if (Zba s).1≠s.length∨(Zba s).1 > 64 then 0 else (Zba s).2
theorem Zqc (c:UInt8) (r:List UInt8):Zba (c::r) =
  if Zfa [45,45] (c::r) then (0,0)
  else if Zja c then (Zxc Zja (c::r),1)
  else if Zhj c then (Zxc Zzd (c::r),if wordsL.contains ((c::r).take (Zxc Zzd (c::r))) then 3 else 2)
  else match signsL.find? (Zfa · (c::r)) with
   | some t=>(t.length,4)
   | none=>(0,0):=rfl
theorem Zqg (s:List UInt8):(Zba s).1≤s.length:=by
 unfold Zba
 split
 ·exact Nat.le_refl _
 ·split
  ·exact Nat.zero_le _
  ·split
   ·exact Z8d _ _
   ·split
    ·exact Z8d _ _
    ·split
     ·rename_i h
      have:=List.find?_some h;exact (List.isPrefixOf_iff_prefix.1 this).length_le
     ·exact Nat.zero_le _
def Z3b:Nat→List UInt8→Nat→List Tk→List Tk × Int × Int
 | 0,_,_,acc=>(acc,0,0)
 | f+1,s,i,acc =>
  if i<s.length then
   if (Zba (s.drop i)).1=0∨(Zba (s.drop i)).1 > 64 then ([],i,70)
   else Z3b f s (i+(Zba (s.drop i)).1+blk (s.drop (i+(Zba (s.drop i)).1))) (acc++[⟨(Zba (s.drop i)).2,(s.drop i).take (Zba (s.drop i)).1,i⟩])
  else (acc,0,0)
def Zbb (s:List UInt8):List Tk × Int × Int:=if s.length > 65536 then ([],0,3) else Z3b (s.length+1) s (blk s) []
theorem Z90:∀ (f f':Nat) (s:List UInt8) (i:Nat) (acc:List Tk),s.length<f+i→s.length<f'+i→Z3b f s i acc=Z3b f' s i acc
 | 0,f',s,i,acc,h,_=>by
  cases f' with
  | zero=>rfl
  | succ f'=>rw [Z3b,Z3b,if_neg (by omega)]
 | f+1,0,s,i,acc,_,h=>by rw [Z3b,Z3b,if_neg (by omega)]
 | f+1,f'+1,s,i,acc,h,h'=>by
  unfold Z3b
  split
  ·split
   ·rfl
   ·rename_i hn
    exact Z90 f f' _ _ _ (by omega) (by omega)
  ·rfl
theorem Zgg {f:Nat} {s:List UInt8} {i:Nat} {acc:List Tk} (h:i<s.length) (hf:s.length<f+i) (hn:¬ ((Zba (s.drop i)).1=0∨(Zba (s.drop i)).1 > 64)) :
  Z3b f s i acc=Z3b f s (i+(Zba (s.drop i)).1+blk (s.drop (i+(Zba (s.drop i)).1))) (acc++[⟨(Zba (s.drop i)).2,(s.drop i).take (Zba (s.drop i)).1,i⟩]):=by
 cases f with
 | zero=>omega
 | succ f =>
  rw [Z3b,if_pos h,if_neg hn];exact Z90 _ _ _ _ _ (by omega) (by omega)
theorem Z5n {f:Nat} {s:List UInt8} {i:Nat} {acc:List Tk} (h:i<s.length) (hf:s.length<f+i) (hn:(Zba (s.drop i)).1=0∨(Zba (s.drop i)).1 > 64):Z3b f s i acc=([],(i:Int),70):=by
 cases f with
 | zero=>omega
 | succ f=>rw [Z3b,if_pos h,if_pos hn]
theorem Zaf {f:Nat} {s:List UInt8} {i:Nat} {acc:List Tk} (h:¬ i<s.length):Z3b f s i acc=(acc,0,0):=by
 cases f with
 | zero=>rfl
 | succ f=>rw [Z3b,if_neg h]
def Z6b (s:List UInt8):Nat :=
 if signsL.contains s then 4 else if wordsL.contains s then 3 else match s with
 | []=>0
 | c::_=>if s.all Zja then 1 else if Zhj c && s.all Zzd then 2 else 0
theorem Z1n (p:UInt8→Bool) (h:(List.range 256).all (fun n=>p (UInt8.ofNat n))=true) (c:UInt8):p c=true:=by
 have h2:=List.all_eq_true.1 h c.toNat (List.mem_range.2 c.toNat_lt)
 have e:UInt8.ofNat c.toNat=c:=by simp
 rw [e] at h2;exact h2
theorem Zzs {c:UInt8} (h:Zja c=true):Zhj c=false∧Zzd c=true:=by
 revert h
 unfold Zzd;have:=Z1n (fun c => !Zja c || (!Zhj c && (Zhj c || Zja c))) (by decide +kernel) c;intro h;simpa [h] using this
theorem Z4g {p:UInt8→Bool}:∀ {s:List UInt8},(Zxc p s=s.length)=(s.all p=true)
 | []=>by simp [Zxc]
 | c::r=>by
  unfold Zxc;rw [List.all_cons,Bool.and_eq_true,← Z4g (s:=r)]
  by_cases h:p c=true
  ·simp [h]
  ·simp [h]
theorem Zdo {p:UInt8→Bool}:∀ (s:List UInt8) (k:Nat),Zxc p (s.take k)=min k (Zxc p s)
 | [],k=>by simp [Zxc]
 | c::r,0=>by simp [Zxc]
 | c::r,k+1=>by
  rw [List.take_succ_cons];unfold Zxc
  split
  ·rw [Zdo r k];omega
  ·simp
theorem Zen:∀ w∈wordsL,w.all Zzd=true∧w≠[]∧(∀ c∈w.head?,Zhj c=true):=by decide +kernel
theorem Zjn:∀ w∈signsL,w≠[]∧w.length≤2∧(∀ c∈w,Zzd c=false):=by decide +kernel
theorem Zik {c:UInt8} {r:List UInt8} (h:Zja c=true):Z6b (c::r)=if (c::r).all Zja then 1 else 0:=by
 have h1:=Zzs h
 have h2:signsL.contains (c::r)=false:=by
  rw [Bool.eq_false_iff];intro hc;have:=(Zjn (c::r) (by simpa using hc)).2.2 c (by simp);rw [h1.2] at this;cases this
 have h3:wordsL.contains (c::r)=false:=by
  rw [Bool.eq_false_iff];intro hc;have:=(Zen (c::r) (by simpa using hc)).2.2 c (by simp);rw [h1.1] at this;cases this
 unfold Z6b;simp only [h2,h3,h1.1,Bool.false_and];simp
theorem Zfn {c:UInt8} {r:List UInt8} (h:Zhj c=true):Z6b (c::r)=if (c::r).all Zzd then (if wordsL.contains (c::r) then 3 else 2) else 0:=by
 have h1:Zja c=false:=by
  rw [Bool.eq_false_iff];intro hd;rw [(Zzs hd).1] at h;cases h
 have h1':Zzd c=true:=by unfold Zzd;rw [h];rfl
 have h2:signsL.contains (c::r)=false:=by
  rw [Bool.eq_false_iff];intro hc;have:=(Zjn (c::r) (by simpa using hc)).2.2 c (by simp);rw [h1'] at this;cases this
 have h3:(c::r).all Zja=false:=by rw [List.all_cons,h1];rfl
 unfold Z6b;simp only [h2,h3,h,Bool.true_and]
 by_cases h4:wordsL.contains (c::r)=true
 ·rw [if_neg (by simp),if_pos h4,if_pos ((Zen _ (by simpa using h4)).1),if_pos h4]
 ·rw [if_neg (by simp),if_neg h4,if_neg (by simp),if_neg h4]
theorem Zzg {c:UInt8} {r:List UInt8} (h:Zzd c=false):Z6b (c::r)=if signsL.contains (c::r) then 4 else 0:=by
 have h1:Zhj c=false∧Zja c=false:=by unfold Zzd at h;simpa using h
 have h2:wordsL.contains (c::r)=false:=by
  rw [Bool.eq_false_iff];intro hc;have:=(Zen (c::r) (by simpa using hc)).2.2 c (by simp);rw [h1.1] at this;cases this
 have h3:(c::r).all Zja=false:=by rw [List.all_cons,h1.2];rfl
 unfold Z6b;simp only [h2,h3,h1.1,Bool.false_and]
 split<;>rfl
end Go.Hs
end

section
namespace Go.Hs
open Go
theorem Zax (c:UInt8) (q:List UInt8):Lib.contains [] (c::q)=false:=by simp [Lib.contains,Lib.index]
theorem contains_cons (b:UInt8) (l p:List UInt8):Lib.contains (b::l) p=(p.isPrefixOf (b::l) || Lib.contains l p):=by
 unfold Lib.contains;rw [Lib.index]
 by_cases h:p.isPrefixOf (b::l)=true
 ·rw [if_pos h,h];simp
 ·have h':p.isPrefixOf (b::l)=false:=Bool.eq_false_iff.2 h
  rw [if_neg h,h',Bool.false_or]
  rcases Lib.index_spec l p with ⟨h1,_⟩ | ⟨i,h1,_⟩
  ·rw [h1];simp
  ·rw [h1]
   have:((i:Int) == -1)=false:=by rw [beq_eq_false_iff_ne];omega
   simp only [this];simp;omega
theorem Znba:∀ (w v rest:List UInt8),(∀ c∈w,c≠32)→(∀ c∈v,c≠32)→(w++[32]).isPrefixOf (v++32::rest)=(w==v)
 | [],[],rest,_,_=>by simp
 | [],b::v,rest,_,hv=>by
  have:=hv b (by simp);simp [List.isPrefixOf];exact fun h=>absurd h.symm this
 | a::w,[],rest,hw,_=>by
  have:=hw a (by simp);simp [List.isPrefixOf];exact fun h=>absurd h this
 | a::w,b::v,rest,hw,hv=>by
  have:=Znba w v rest (fun c hc=>hw c (by simp [hc])) (fun c hc=>hv c (by simp [hc]));simp only [List.cons_append,List.isPrefixOf,this];simp [List.cons_beq_cons]
theorem Zdl (q:List UInt8):∀ (v l:List UInt8),(∀ c∈v,c≠32)→Lib.contains (v++l) (32::q)=Lib.contains l (32::q)
 | [],_,_=>rfl
 | b::v,l,hv=>by
  have h1:=hv b (by simp);rw [List.cons_append,contains_cons,Zdl q v l fun c hc=>hv c (by simp [hc])]
  have:((32::q).isPrefixOf (b::(v++l)))=false:=by
   simp only [List.isPrefixOf,Bool.and_eq_false_iff]
   left
   simpa using fun h=>h1 h.symm
  rw [this,Bool.false_or]
theorem Zjj (w:List UInt8) (hw:∀ c∈w,c≠32):∀ (Ws:List (List UInt8)),(∀ v∈Ws,∀ c∈v,c≠32) →
  Lib.contains (32::Ws.flatMap (· ++ [32])) (32::(w++[32]))=Ws.contains w
 | [],_=>by
  rw [List.flatMap_nil,contains_cons,Zax]
  cases w with
  | nil=>rfl
  | cons=>rfl
 | v::Ws,h=>by
  have hv:=h v (by simp);rw [List.flatMap_cons,contains_cons,List.append_assoc,Zdl _ _ _ hv,List.singleton_append,Zjj w hw Ws fun x hx=>h x (by simp [hx]),List.contains_cons]
  congr 1
  simp only [List.isPrefixOf,beq_self_eq_true,Bool.true_and];exact Znba w v _ hw hv
theorem al_no {c:UInt8} (h:Zzd c=true):c≠32:=by rintro rfl;revert h;decide
theorem Z9p (w:List UInt8) (hw:w.all Zzd=true):Lib.contains Zeba (32::(w++[32]))=wordsL.contains w:=by
 rw [List.all_eq_true] at hw
 exact Zjj w (fun c hc=>al_no (hw c hc)) wordsL fun v hv c hc=>by
  have:=(Zen v hv).1;rw [List.all_eq_true] at this;exact al_no (this c hc)
theorem Zse (p:UInt8→Bool):∀ s:List UInt8,(s.take (Zxc p s)).all p=true
 | []=>rfl
 | c::r=>by
  unfold Zxc
  split
  ·rename_i h
   rw [List.take_succ_cons,List.all_cons,h,Zse p r];rfl
  ·rfl
theorem Zjl (c:UInt8):Zja c=true∨(Zja c=false∧Zhj c=true)∨(Zzd c=false∧Zja c=false∧Zhj c=false):=by
 unfold Zzd
 cases h:Zja c with
 | true=>exact .inl rfl
 | false =>
  cases h2:Zhj c with
  | true=>exact .inr (.inl ⟨rfl,rfl⟩)
  | false=>exact .inr (.inr ⟨rfl,rfl,rfl⟩)
def Zj1 (s:List UInt8):Nat:=match signsL.find? (Zfa · s) with | some t=>t.length | none=>0
theorem Zpg {c:UInt8} {r:List UInt8} (h:Zja c=true):Zba (c::r)=(Zxc Zja (c::r),1):=by
 have h1:Zfa [45,45] (c::r)=false:=by
  have:(45==c)=false:=by
   rw [beq_eq_false_iff_ne];rintro rfl;revert h;decide
  rw [Zcb,this];rfl
 rw [Zqc,if_neg (by simp [h1]),if_pos h]
theorem Z7i {c:UInt8} {r:List UInt8} (h:Zhj c=true):Zba (c::r)=(Zxc Zzd (c::r),if wordsL.contains ((c::r).take (Zxc Zzd (c::r))) then 3 else 2):=by
 have h1:Zfa [45,45] (c::r)=false:=by
  have:(45==c)=false:=by
   rw [beq_eq_false_iff_ne];rintro rfl;revert h;decide
  rw [Zcb,this];rfl
 have h2:Zja c=false:=by
  rw [Bool.eq_false_iff];intro hd;rw [(Zzs hd).1] at h;cases h
 rw [Zqc,if_neg (by simp [h1]),if_neg (by simp [h2]),if_pos h]
theorem Zue {c:UInt8} {r:List UInt8} (h:Zzd c=false) (h1:Zfa [45,45] (c::r)=false):Zba (c::r)=(Zj1 (c::r),if Zj1 (c::r)=0 then 0 else 4):=by
 have h2:Zhj c=false∧Zja c=false:=by unfold Zzd at h;simpa using h
 unfold Zj1;rw [Zqc,if_neg (by simp [h1]),if_neg (by simp [h2.2]),if_neg (by simp [h2.1])]
 cases hf:signsL.find? (Zfa · (c::r)) with
 | none=>rfl
 | some t =>
  have:=List.mem_of_find?_eq_some hf;have:=(Zjn t this).1;have:t.length≠0:=fun h=>this (List.length_eq_zero_iff.1 h);simp [this]
theorem Zg2:∀ (L:List (List UInt8)) (c:UInt8),(∀ t∈L,t≠[])→(match L.find? (Zfa · [c]) with | some t=>t.length | none=>0)=if L.contains [c] then 1 else 0
 | [],c,_=>rfl
 | t::L,c,h=>by
  have ih:=Zg2 L c fun x hx=>h x (by simp [hx]);rw [List.find?_cons,List.contains_cons]
  match t,h t (by simp) with
  | [a],_ =>
   by_cases e:a=c
   ·subst e;simp [Zcb,Z0c,Zsd]
   ·have:Zfa [a] [c]=false:=by simp [Zcb,Z0c,Zsd,e]
    rw [this]
    have:(([c]:List UInt8)==[a])=false:=by simpa using fun h=>e h.symm
    rw [this,Bool.false_or];exact ih
  | a::b::r,_ =>
   have:Zfa (a::b::r) [c]=false:=by simp [Zcb,Z0c,Zsd]
   rw [this]
   have:(([c]:List UInt8)==a::b::r)=false:=by simp
   rw [this,Bool.false_or];exact ih
theorem Z9o:∀ (L M:List (List UInt8)) (c d:UInt8) (r:List UInt8),(∀ t∈L,t.length=2)→(∀ t∈M,t.length=1) →
  (match (L++M).find? (Zfa · (c::d::r)) with | some t=>t.length | none=>0)=if L.contains [c,d] then 2 else if M.contains [c] then 1 else 0
 | [],[],c,d,r,_,_=>rfl
 | [],t::M,c,d,r,hL,hM=>by
  have ih:=Z9o [] M c d r hL fun x hx=>hM x (by simp [hx]);rw [List.nil_append] at ih ⊢
  match t,hM t (by simp) with
  | [a],_ =>
   rw [List.find?_cons,List.contains_cons]
   by_cases e:a=c
   ·subst e;simp [Zcb,Z0c,Zsd]
   ·have:Zfa [a] (c::d::r)=false:=by simp [Zcb,Z0c,Zsd,e]
    rw [this]
    have:(([c]:List UInt8)==[a])=false:=by simpa using fun h=>e h.symm
    rw [this,Bool.false_or];exact ih
 | t::L,M,c,d,r,hL,hM=>by
  have ih:=Z9o L M c d r (fun x hx=>hL x (by simp [hx])) hM
  match t,hL t (by simp) with
  | [a,b],_ =>
   rw [List.cons_append,List.find?_cons,List.contains_cons]
   by_cases e:a=c∧b=d
   ·obtain ⟨rfl,rfl⟩:=e;simp [Zcb,Z0c,Zsd]
   ·have:Zfa [a,b] (c::d::r)=false:=by simpa [Zcb,Z0c,Zsd] using e
    rw [this]
    have:(([c,d]:List UInt8)==[a,b])=false:=by simpa using fun h1 h2=>e ⟨h1.symm,h2.symm⟩
    rw [this,Bool.false_or];exact ih
def sg2:List (List UInt8):=[[58,61],[60,62],[60,61],[62,61]]
def sg1:List (List UInt8):=[[60],[62],[61],[43],[45],[42],[40],[41],[44],[59]]
theorem Zrk (c:UInt8):Zj1 [c]=if signsL.contains [c] then 1 else 0:=Zg2 signsL c fun t ht=>(Zjn t ht).1
theorem Z0f (c d:UInt8) (r:List UInt8):Zj1 (c::d::r)=if sg2.contains [c,d] then 2 else if sg1.contains [c] then 1 else 0:=Z9o sg2 sg1 c d r (by decide) (by decide)
theorem Zed (x:List UInt8):signsL.contains x=(sg2.contains x || sg1.contains x):=by
 show (sg2++sg1).contains x=_
 simp
theorem Zx5 {x:List UInt8} (h:x.length≠1):sg1.contains x=false:=by
 rw [Bool.eq_false_iff];intro hc
 have:∀ t∈sg1,t.length=1:=by decide
 exact h (this x (by simpa using hc))
theorem Zgs {x:List UInt8} (h:x.length≠2):sg2.contains x=false:=by
 rw [Bool.eq_false_iff];intro hc
 have:∀ t∈sg2,t.length=2:=by decide
 exact h (this x (by simpa using hc))
theorem Zjv {c:UInt8} (h:Zzd c=false):Z6b [c]=if sg1.contains [c] then 4 else 0:=by
 rw [Zzg h,Zed,Zgs (by simp),Bool.false_or]
theorem Zzn {c d:UInt8} (h:Zzd c=false):Z6b [c,d]=if sg2.contains [c,d] then 4 else 0:=by
 rw [Zzg h,Zed,Zx5 (by simp),Bool.or_false]
theorem Zqq {c d e:UInt8} {r:List UInt8} (h:Zzd c=false):Z6b (c::d::e::r)=0:=by
 rw [Zzg h,Zed,Zx5 (by simp),Zgs (by simp)];rfl
theorem Z6k (s:List UInt8):isP s=if s.length > 64 then 0 else Z6b s:=by
 have key:(if (Zba s).1≠s.length then 0 else (Zba s).2)=Z6b s:=by
  match s with
  | []=>rfl
  | c::r =>
   rcases Zjl c with h | ⟨_,h⟩ | ⟨h,_⟩
   ·rw [Zpg h,Zik h]
    by_cases ha:(c::r).all Zja=true
    ·rw [if_pos ha,if_neg (by rw [ne_eq,Decidable.not_not,Z4g];exact ha)]
    ·rw [if_neg ha,if_pos (by rw [ne_eq,Z4g];exact ha)]
   ·rw [Z7i h,Zfn h]
    by_cases ha:(c::r).all Zzd=true
    ·have hl:Zxc Zzd (c::r)=(c::r).length:=by rw [Z4g];exact ha
     rw [if_pos ha,hl,List.take_length,if_neg (by simp)]
    ·rw [if_neg ha,if_pos (by rw [ne_eq,Z4g];exact ha)]
   ·match r with
    | [] =>
     rw [Zue h (by simp [Zcb,Z0c,Zsd]),Zrk,Zzg h];generalize signsL.contains [c]=x
     cases x<;>simp
    | [d] =>
     rw [Zzn h]
     cases hp:Zfa [45,45] [c,d] with
     | true =>
      have:c=45∧d=45:=by
       rw [Zcb,Zcb,Z0c,Bool.and_true,Bool.and_eq_true,beq_iff_eq,beq_iff_eq] at hp;exact ⟨hp.1.symm,hp.2.symm⟩
      obtain ⟨rfl,rfl⟩:=this
      decide
     | false =>
      rw [Zue h hp,Z0f];generalize sg2.contains [c,d]=x;generalize sg1.contains [c]=y
      cases x<;>cases y<;>simp
    | d::e::r =>
     rw [Zqq h]
     cases hp:Zfa [45,45] (c::d::e::r) with
     | true =>
      have:Zba (c::d::e::r)=(0,0):=by rw [Zqc,if_pos hp]
      rw [this];simp
     | false =>
      rw [Zue h hp,Z0f];generalize sg2.contains [c,d]=x;generalize sg1.contains [c]=y
      cases x<;>cases y<;>simp
 unfold isP
 by_cases h1:(Zba s).1=s.length
 ·rw [← key,if_neg (show ¬ (Zba s).1≠s.length by simpa using h1),h1]
  by_cases h2:s.length > 64
  ·rw [if_pos (.inr h2),if_pos h2]
  ·rw [if_neg (by simpa using h2),if_neg h2]
 ·rw [if_pos (.inl h1)]
  rw [if_pos h1] at key;rw [← key];simp
def Zif (s:List UInt8):Nat→Nat
 | 0=>0
 | k+1=>if k=0 then 0 else if Z6b (s.take k)=0 then Zif s k else k
theorem Z3k (s:List UInt8):Zif s 1=0:=by simp [Zif]
theorem Z3e (s:List UInt8) {k:Nat} (hk:1≤k):Zif s (k+1)=if Z6b (s.take k)=0 then Zif s k else k:=by rw [Zif,if_neg (by omega)]
theorem Zaq {c:UInt8} {r:List UInt8} (h:Zja c=true) {k:Nat} (hk:1≤k) (hk2:k≤(c::r).length):Z6b ((c::r).take k)≠0 ↔ k≤Zxc Zja (c::r):=by
 obtain ⟨k,rfl⟩:∃ j,k=j+1:=⟨k-1,by omega⟩;have:(c::r).take (k+1)=c::r.take k:=rfl;rw [this,Zik h,← this]
 have hlen:((c::r).take (k+1)).length=k+1:=by rw [List.length_take];omega
 have h1:((c::r).take (k+1)).all Zja=true ↔ k+1≤Zxc Zja (c::r):=by
  rw [← Z4g,Zdo,hlen];omega
 by_cases ha:((c::r).take (k+1)).all Zja=true
 ·rw [if_pos ha]
  have:=h1.1 ha;simp;exact this
 ·have:=fun h=>ha (h1.2 h)
  rw [if_neg ha];simp;exact Nat.lt_of_not_le this
theorem Z2r {c:UInt8} {r:List UInt8} (h:Zhj c=true) {k:Nat} (hk:1≤k) (hk2:k≤(c::r).length):Z6b ((c::r).take k)≠0 ↔ k≤Zxc Zzd (c::r):=by
 obtain ⟨k,rfl⟩:∃ j,k=j+1:=⟨k-1,by omega⟩;have:(c::r).take (k+1)=c::r.take k:=rfl;rw [this,Zfn h,← this]
 have hlen:((c::r).take (k+1)).length=k+1:=by rw [List.length_take];omega
 have h1:((c::r).take (k+1)).all Zzd=true ↔ k+1≤Zxc Zzd (c::r):=by
  rw [← Z4g,Zdo,hlen];omega
 by_cases ha:((c::r).take (k+1)).all Zzd=true
 ·rw [if_pos ha]
  have:=h1.1 ha
  split<;>simp<;>exact this
 ·have:=fun h=>ha (h1.2 h)
  rw [if_neg ha];simp;exact Nat.lt_of_not_le this
theorem Zyo {s:List UInt8} {R:Nat} (h:∀ k,1≤k→k≤s.length→(Z6b (s.take k)≠0 ↔ k≤R)):∀ k,1≤k→k≤s.length+1→Zif s k=min (k-1) R
 | 0,h0,_=>by omega
 | 1,_,_=>by rw [Z3k];simp
 | k+2,_,hk=>by
  rw [Z3e s (by omega),Zyo h (k+1) (by omega) (by omega)];have:=h (k+1) (by omega) (by omega)
  by_cases hw:Z6b (s.take (k+1))=0
  ·rw [if_pos hw];have:=fun x=>(this.2 x) hw;omega
  ·rw [if_neg hw];have:=this.1 hw;omega
theorem Z51 {c:UInt8} (h:Zzd c=false) {r:List UInt8}:∀ k,3≤k→k≤(c::r).length+1→Zif (c::r) k=Zj1 (c::r)
 | 0,h0,_=>by omega
 | 1,h0,_=>by omega
 | 2,h0,_=>by omega
 | 3,_,hk=>by
  match r with
  | []=>simp at hk
  | d::r =>
   rw [Z3e _ (by omega),Z3e _ (by omega),Z3k,Z0f];simp only [List.take_succ_cons,List.take_zero,Zzn h,Zjv h];generalize sg2.contains [c,d]=x;generalize sg1.contains [c]=y
   cases x<;>cases y<;>simp
 | k+4,_,hk=>by
  rw [Z3e _ (by omega),Z51 h (k+3) (by omega) (by omega)]
  match r with
  | []=>simp at hk
  | [_]=>simp at hk
  | d::e::r =>
   rw [if_pos];rw [List.take_succ_cons,List.take_succ_cons,List.take_succ_cons,Zqq h]
theorem Zx6 {s:List UInt8} (hs:s≠[]) (hc:Zfa [45,45] s=false) {k:Nat} (h1:1≤k) (h2:k≤s.length+1) (he:k=s.length+1∨(3≤k∧Zif s k≠k-1)):Zif s k=(Zba s).1:=by
 match s,hs with
 | c::r,_ =>
  rcases Zjl c with h | ⟨_,h⟩ | ⟨h,_⟩
  ·have hr:=Zyo (s:=c::r) (R:=Zxc Zja (c::r)) fun k a b=>Zaq h a b
   rw [Zpg h];have h3:=hr k h1 h2;have h4:=Z8d Zja (c::r)
   rcases he with he | ⟨_,he⟩
   ·rw [h3];show min _ _=_;omega
   ·rw [h3] at he ⊢;show min _ _=_;omega
  ·have hr:=Zyo (s:=c::r) (R:=Zxc Zzd (c::r)) fun k a b=>Z2r h a b
   rw [Z7i h];have h3:=hr k h1 h2;have h4:=Z8d Zzd (c::r)
   rcases he with he | ⟨_,he⟩
   ·rw [h3];show min _ _=_;omega
   ·rw [h3] at he ⊢;show min _ _=_;omega
  ·rw [Zue h hc]
   by_cases h3:3≤k
   ·exact Z51 h k h3 h2
   ·have he:k=(c::r).length+1:=by rcases he with he | he;exact he;omega
    match r with
    | [] =>
     simp at he;subst he;rw [Z3e _ (by omega),Z3k,Zrk];simp only [List.take_succ_cons,List.take_zero,Zzg h]
     cases signsL.contains [c]<;>simp
    | d::r=>simp at he;omega
theorem Z61 (s:List UInt8):∀ k,Zif s k≤k
 | 0=>Nat.le_refl _
 | k+1=>by
  have:=Z61 s k;rw [Zif]
  split
  ·omega
  ·split<;>omega
theorem Znr {s:List UInt8} (hc:Zfa [45,45] s=false) (hn:(Zba s).1≠0):Z6b (s.take (Zba s).1)=(Zba s).2∧(Zba s).2≠0:=by
 match s with
 | []=>exact absurd rfl hn
 | c::r =>
  rcases Zjl c with h | ⟨_,h⟩ | ⟨h,_⟩
  ·have e:=Zpg (r:=r) h
   rw [e] at hn ⊢;have hn:Zxc Zja (c::r)≠0:=hn;obtain ⟨k,hk⟩:∃ j,Zxc Zja (c::r)=j+1:=⟨Zxc Zja (c::r)-1,by omega⟩;have h2:=Zse Zja (c::r);refine ⟨?_,by simp⟩
   show Z6b ((c::r).take (Zxc Zja (c::r)))=1
   rw [hk] at h2 ⊢;rw [List.take_succ_cons] at h2 ⊢;rw [Zik h,if_pos h2]
  ·have e:=Z7i (r:=r) h
   rw [e] at hn ⊢;have hn:Zxc Zzd (c::r)≠0:=hn;obtain ⟨k,hk⟩:∃ j,Zxc Zzd (c::r)=j+1:=⟨Zxc Zzd (c::r)-1,by omega⟩;have h2:=Zse Zzd (c::r);refine ⟨?_,by show (if _ then 3 else 2)≠0;split<;>simp⟩
   show Z6b ((c::r).take (Zxc Zzd (c::r)))=if wordsL.contains ((c::r).take (Zxc Zzd (c::r))) then 3 else 2
   rw [hk] at h2 ⊢;rw [List.take_succ_cons] at h2 ⊢;rw [Zfn h,if_pos h2]
  ·have e:=Zue (r:=r) h hc
   rw [e] at hn ⊢;have hn:Zj1 (c::r)≠0:=hn;refine ⟨?_,by show (if _ then 0 else 4)≠0;rw [if_neg hn];simp⟩
   show Z6b ((c::r).take (Zj1 (c::r)))=if Zj1 (c::r)=0 then 0 else 4
   rw [if_neg hn]
   match r with
   | [] =>
    rw [Zrk] at hn ⊢
    cases hs:signsL.contains [c] with
    | false=>rw [hs] at hn;simp at hn
    | true=>rw [if_pos rfl,List.take_succ_cons,List.take_zero,Zzg h,hs];rfl
   | d::r =>
    rw [Z0f] at hn ⊢
    cases hs:sg2.contains [c,d] with
    | true=>rw [if_pos rfl,List.take_succ_cons,List.take_succ_cons,List.take_zero,Zzn h,hs];rfl
    | false =>
     rw [hs] at hn;rw [if_neg (by simp)] at hn ⊢
     cases hs1:sg1.contains [c] with
     | false=>rw [hs1] at hn;simp at hn
     | true=>rw [if_pos rfl,List.take_succ_cons,List.take_zero,Zjv h,hs1];rfl
end Go.Hs
end

section
namespace Go.Hs
open Go
def Zpi (s:List UInt8):Bool :=
 let t:=Lib.trimPrefix s [45]
 t.all Zja && (s==[48] || (!(t==[]) && !(t.head? == some 48)))
def rdv (acc:Nat) (l:List UInt8):Nat:=l.foldl (fun a c=>a * 10+Zeh c) acc
theorem Z35:∀ (l:List UInt8) (acc:Nat),rdv acc l=acc * 10 ^ l.length+val (l.reverse.map Zeh)
 | [],acc=>by simp [rdv,val]
 | c::r,acc=>by
  have:=Z35 r (acc * 10+Zeh c);rw [show rdv acc (c::r)=rdv (acc * 10+Zeh c) r from rfl,this,List.reverse_cons,List.map_append,Zsl,List.length_cons,Nat.pow_succ,List.length_map,List.length_reverse];simp only [List.map_cons,List.map_nil,val,Nat.mul_zero,Nat.add_zero];rw [Nat.add_mul,Nat.mul_assoc,Nat.mul_comm 10 (10 ^ r.length),Nat.mul_comm (Zeh c)];omega
theorem Zmba:∀ (l:List UInt8) (acc:Nat),acc≤rdv acc l
 | [],acc=>Nat.le_refl _
 | c::r,acc=>by
  have:=Zmba r (acc * 10+Zeh c);rw [show rdv acc (c::r)=rdv (acc * 10+Zeh c) r from rfl];omega
theorem Zej:∀ (l:List UInt8) (acc:Nat),l.all Zja=true→acc≤18446744073709551615 →
  Lib.parseUintM 18446744073709551615 acc l=if rdv acc l≤18446744073709551615 then .ok (rdv acc l) else .range
 | [],acc,_,h=>by simp [Lib.parseUintM,rdv,h]
 | c::r,acc,hd,h=>by
  rw [List.all_cons,Bool.and_eq_true] at hd
  have hc:48≤c.toNat∧c.toNat≤57:=by have:=hd.1;unfold Zja at this;simpa using this
  have hge:=Zmba r (acc * 10+Zeh c);have hdv:Zeh c=c.toNat-48:=rfl;rw [Lib.parseUintM,if_pos hc,show rdv acc (c::r)=rdv (acc * 10+Zeh c) r from rfl]
  by_cases h1:1844674407370955162≤acc
  ·rw [if_pos h1,if_neg (by omega)]
  ·rw [if_neg h1]
   by_cases h2:18446744073709551615<acc * 10+(c.toNat-48)
   ·rw [if_pos h2,if_neg (by omega)]
   ·rw [if_neg h2]
    exact Zej r _ hd.2 (by omega)
theorem Zfj {l:List UInt8} (hl:l≠[]) (hd:l.all Zja=true) :
  Lib.parseUintB 64 l=if val (l.reverse.map Zeh)≤18446744073709551615 then .ok (val (l.reverse.map Zeh)) else .range:=by
 have:=Zej l 0 hd (by omega);rw [Z35,Nat.zero_mul,Nat.zero_add] at this;rw [Lib.parseUintB,if_neg hl];exact this
theorem Z9r {x:Int} (h : -9223372036854775808≤x∧x≤9223372036854775807):Zdv x=(x,0):=by
 unfold Zdv Z1w;rw [if_pos (decide_eq_true h)]
theorem Z80 {x:Int} (h:¬ (-9223372036854775808≤x∧x≤9223372036854775807)):Zdv x=(0,60):=by
 unfold Zdv Z1w;rw [if_neg (by simpa using h)]
theorem Zg5 (s:List UInt8):Lib.trimPrefix s [45]=if s.head? = some 45 then s.drop 1 else s:=by
 cases s with
 | nil=>rfl
 | cons c r =>
  unfold Lib.trimPrefix Lib.hasPrefix
  by_cases h:c=45
  ·subst h;simp
  ·have h':¬ (45:UInt8)=c:=fun e=>h e.symm
   simp [h,h']
theorem Ze6 (s:List UInt8):(Zpi s=false∧Zrb s=(0,2))∨(Zpi s=true∧((∃ v,Lib.parseIntB 64 s = .ok v∧Zrb s=(v,0))∨(Lib.parseIntB 64 s = .range∧Zrb s=(0,60)))):=by
 cases s with
 | nil=>exact .inl ⟨by decide,rfl⟩
 | cons c r =>
  unfold Zpi Zrb;rw [Zg5]
  by_cases hc:c=45
  ·subst hc
   simp only [List.head?_cons,if_true,List.drop_succ_cons,List.drop_zero];have e1:((some (45:UInt8))==some 45)=true:=rfl
   have e2:((45::r:List UInt8)==[48])=false:=by simp
   simp only [e1,e2,if_true,Bool.false_or]
   by_cases hd:r.all Zja=true
   ·cases r with
    | nil=>left;simp
    | cons d q =>
     by_cases h0:d=48
     ·subst h0;left;simp
     ·right
      have h0':¬ ((some d:Option UInt8)==some 48)=true:=by simpa using h0
      refine ⟨by simp [hd,h0],?_⟩;rw [if_neg (by simp only [List.head?_cons,Option.some.injEq,h0,hd,Bool.true_eq_false,reduceCtorEq,false_and,or_self,not_false_eq_true])];rw [Lib.parseIntB_minus,Zfj (by simp) hd];generalize val ((d::q).reverse.map Zeh)=m
      by_cases hm:m≤9223372036854775808
      ·left
       refine ⟨-(m:Int),?_,Z9r (by omega)⟩;rw [if_pos (by omega)];simp only [Lib.signedC];rw [if_neg (by omega)]
      ·right
       refine ⟨?_,Z80 (by omega)⟩
       by_cases hm2:m≤18446744073709551615
       ·rw [if_pos hm2]
        simp only [Lib.signedC];rw [if_pos (by omega)]
       ·rw [if_neg hm2]
        rfl
   ·left
    have hd':r.all Zja=false:=by simpa using hd
    simp [hd']
  ·have e1:((some c:Option UInt8)==some 45)=false:=by simpa using hc
   simp only [List.head?_cons,e1,Option.some.injEq,hc,if_false,Bool.false_eq_true]
   by_cases hd:(c::r).all Zja=true
   ·have hdig:48≤c.toNat∧c.toNat≤57:=by
     have:=hd;rw [List.all_cons,Bool.and_eq_true] at this;have:=this.1;unfold Zja at this;simpa using this
    by_cases h0:c=48∧r≠[]
    ·left
     obtain ⟨rfl,h1⟩:=h0
     have hlen:(48::r:List UInt8).length > 1:=by
      cases r with
      | nil=>exact absurd rfl h1
      | cons _ _=>simp
     refine ⟨by simp [h1],?_⟩;rw [if_pos (.inr (.inl ⟨rfl,.inl hlen⟩))]
    ·right
     refine ⟨?_,?_⟩
     ·rw [hd]
      by_cases h1:c=48
      ·have:r=[]:=by
        by_cases h2:r=[]
        ·exact h2
        ·exact absurd ⟨h1,h2⟩ h0
       subst h1 this;rfl
      ·simp [h1]
     ·rw [if_neg (by
       simp only [List.head?_cons,Option.some.injEq,hd,Bool.true_eq_false,reduceCtorEq,or_false,false_or,not_and,List.length_cons];intro h1 h2;apply h0;refine ⟨h1,fun h3=>?_⟩;subst h3
       simp at h2)]
      rw [Lib.parseIntB_plain 64 c r (by omega) (by omega),Zfj (by simp) hd];generalize val ((c::r).reverse.map Zeh)=m
      by_cases hm:m≤9223372036854775807
      ·left
       refine ⟨(m:Int),?_,Z9r (by omega)⟩;rw [if_pos (by omega)];simp only [Lib.signlessC];rw [if_neg (by omega)]
      ·right
       refine ⟨?_,Z80 (by omega)⟩
       by_cases hm2:m≤18446744073709551615
       ·rw [if_pos hm2]
        simp only [Lib.signlessC];rw [if_pos (by omega)]
       ·rw [if_neg hm2]
        rfl
   ·left
    have hd':(c::r).all Zja=false:=by simpa using hd
    rw [hd'];exact ⟨rfl,by rw [if_pos (.inr (.inr rfl))]⟩
end Go.Hs
end

section
namespace Go.Hs
theorem Zyj (n:Int):InK .i64 n ↔ -9223372036854775808≤n∧n≤9223372036854775807:=Iff.rfl
theorem Zb1 (a b:Int):a.tdiv b=if (decide (a<0) != decide (b<0))=true then -((a.natAbs / b.natAbs:Nat):Int) else ((a.natAbs / b.natAbs:Nat):Int):=by
 cases a with
 | ofNat m=>cases b with
  | ofNat n=>simp [Int.tdiv];omega
  | negSucc n=>simp [Int.tdiv,Int.negSucc_lt_zero]
 | negSucc m=>cases b with
  | ofNat n=>simp [Int.tdiv,Int.negSucc_lt_zero]
  | negSucc n=>simp [Int.tdiv,Int.negSucc_lt_zero]
theorem Za9 (a b:Int):a.tmod b=if decide (a<0)=true then -((a.natAbs % b.natAbs:Nat):Int) else ((a.natAbs % b.natAbs:Nat):Int):=by
 cases a with
 | ofNat m=>cases b with
  | ofNat n=>simp [Int.tmod];omega
  | negSucc n=>simp [Int.tmod];omega
 | negSucc m=>cases b with
  | ofNat n=>simp [Int.tmod,Int.negSucc_lt_zero]
  | negSucc n=>simp [Int.tmod,Int.negSucc_lt_zero]
theorem Z8r {x:Int} (h:Z1w x=true):Zdv x=(x,0):=by rw [Zdv,if_pos h]
theorem Zuy {x:Int} (h:Z1w x=false):Zdv x=(0,60):=by rw [Zdv,h];simp
end Go.Hs
end

section
namespace Go.Hs
open Go.Proofs
set_option maxRecDepth 10000
@[go_sem] theorem Zb9 (s:List UInt8) (k:Nat):(s.drop k).take (s.length-k)=s.drop k:=List.take_of_length_le (by simp)
theorem Zdm {l:List UInt8} {k:Nat} (h:k<l.length):l[k]? = some l[k]:=List.getElem?_eq_getElem h
theorem Zwj (G:Nat→V) (hG:GOk G) (c:UInt8):Spec Tryz.prog G 147 [.int .u8 c.toNat] Zl (fun v _=>v = .bool (Zja c)):=by
 refine Zo 0 9 [.tmp 2] Tryz.func147 fun X=>?_;refine Z1 ?_
 by_cases h:48≤c.toNat
 ·have h1:decide ((c.toNat:Int)≥48)=true:=zT
  refine Zf h1 ?_;unfold Zja;simp [h];omega
 ·have h1:decide ((c.toNat:Int)≥48)=false:=zF
  refine Zf h1 ?_;unfold Zja;simp [h]
theorem u8q (c:UInt8) (n:Nat) (hn:n<256):((c.toNat:Int)==(n:Int))=(c==UInt8.ofNat n):=by
 by_cases h:c.toNat=n
 ·have h1:c=UInt8.ofNat n:=by
   apply UInt8.toNat_inj.1;rw [h,UInt8.toNat_ofNat'];omega
  rw [h1];simp;omega
 ·have h1:¬ c=UInt8.ofNat n:=by
   intro e;apply h;rw [e,UInt8.toNat_ofNat'];omega
  have h2:¬ (c.toNat:Int)=(n:Int):=by omega
  rw [show (c==UInt8.ofNat n)=false by simpa using h1,show ((c.toNat:Int)==(n:Int))=false from beq_eq_false_iff_ne.2 h2]
theorem Z58 (c:UInt8):((c.toNat:Int)==10)=(c==10):=u8q c 10 (by decide)
theorem u8q9 (c:UInt8):((c.toNat:Int)==9)=(c==9):=u8q c 9 (by decide)
theorem Zb5 (c:UInt8):((c.toNat:Int)==32)=(c==32):=u8q c 32 (by decide)
theorem Zc5 (c:UInt8):((c.toNat:Int)==13)=(c==13):=u8q c 13 (by decide)
theorem Z48 (c:UInt8):((c.toNat:Int)==95)=(c==95):=u8q c 95 (by decide)
theorem u8q45 (c:UInt8):((c.toNat:Int)==45)=(c==45):=u8q c 45 (by decide)
theorem Z13 (G:Nat→V) (hG:GOk G) (c:UInt8):Spec Tryz.prog G 146 [.int .u8 c.toNat] Zl (fun v _=>v = .bool (Z4l c)):=by
 refine Zo 0 5 [.tmp 2] Tryz.func146 fun X=>?_;refine Z ?_;unfold Z4l;rw [bne,Z58]
theorem Zjaa (G:Nat→V) (hG:GOk G) (c:UInt8):Spec Tryz.prog G 144 [.int .u8 c.toNat] Zl (fun v _=>v = .bool (Znh c)):=by
 refine Zo 0 17 [.tmp 2] Tryz.func144 fun X=>?_
 have key:Znh c=(c==32 || (decide ((c.toNat:Int)≥9) && decide ((c.toNat:Int)≤10)) || c==13):=by
  unfold Znh
  congr 3
  ·rw [decide_eq_decide];omega
  ·rw [decide_eq_decide];omega
 rw [key];refine Z1 ?_
 cases h1:(c==32) with
 | true =>
  exact Zq (zi @Zb5 (zi @Zc5 h1))
 | false =>
  cases h2:decide ((c.toNat:Int)≥9) with
  | false =>
   exact Zq (zi @Zb5 (zi @Zc5 (zi h1 h2)))
  | true =>
   cases h3:decide ((c.toNat:Int)≤10) with
   | false =>
    exact Zq (zi @Zb5 (zi @Zc5 (zi h1 (zi h2 h3))))
   | true =>
    exact Zq (zi @Zb5 (zi @Zc5 (zi h1 (zi h2 h3))))
theorem Zzh (G:Nat→V) (hG:GOk G) (c:UInt8):Spec Tryz.prog G 148 [.int .u8 c.toNat] Zl (fun v _=>v = .bool (Zhj c)):=by
 refine Zo 0 15 [.tmp 2] Tryz.func148 fun X=>?_;refine Z1 ?_
 cases h1:(c==95) with
 | true =>
  refine Zf (zi @Z48 h1) ?_;unfold Zhj
  rw [h1]<;>rfl
 | false =>
  have ho:orZ .u8 (c.toNat:Int) 32=((c.toNat ||| 32:Nat):Int):=by
   have:=Z1n (fun c=>orZ .u8 (c.toNat:Int) 32==((c.toNat ||| 32:Nat):Int)) (by decide +kernel) c;simpa using this
  have hL:Zhj c=(decide (((c.toNat ||| 32:Nat):Int)≥97) && decide (((c.toNat ||| 32:Nat):Int)≤122)):=by
   unfold Zhj;rw [h1,Bool.false_or]
   congr 1
   ·rw [decide_eq_decide];omega
   ·rw [decide_eq_decide];omega
  rw [hL];generalize ((c.toNat ||| 32:Nat):Int)=x at ho ⊢
  cases h2:decide (x≥97) with
  | false =>
   exact Zq (zi @Z48 (zi h1 (zi ho h2)))
  | true =>
   exact Zq (zi @Z48 (zi h1 (zi ho h2)))
theorem Zkaa (G:Nat→V) (hG:GOk G) (c:UInt8):Spec Tryz.prog G 149 [.int .u8 c.toNat] Zl (fun v _=>v = .bool (Zzd c)):=by
 refine Zo 0 9 [.tmp 2] Tryz.func149 fun X=>?_;refine Z1 ?_;unfold Zzd
 cases h1:Zhj c with
 | true =>
  refine Z1 ?_;refine Zn hG ?_ (s:=(Zzh G hG c));refine Zsf h1 ?_;exact Zr
 | false =>
  refine Z1 ?_;refine Zn hG ?_ (s:=(Zzh G hG c));refine Zsf h1 ?_;refine Zn hG ?_ (s:=(Zwj G hG c));refine Zsf h1 ?_;exact Zr
structure FnB (G:Nat→V) (f:FuncId) (p:UInt8→Bool):Prop where
 en:Zka Tryz.prog f=true
 sp:∀ c:UInt8,Spec Tryz.prog G f [.int .u8 c.toNat] Zl (fun v _=>v = .bool (p c))
theorem fDigit {G:Nat→V} (hG:GOk G):FnB G 147 Zja:=⟨by kernel_rfl,Zwj G hG⟩
theorem fNoNl {G:Nat→V} (hG:GOk G):FnB G 146 Z4l:=⟨by kernel_rfl,Z13 G hG⟩
theorem fBl {G:Nat→V} (hG:GOk G):FnB G 144 Znh:=⟨by kernel_rfl,Zjaa G hG⟩
theorem fAl {G:Nat→V} (hG:GOk G):FnB G 149 Zzd:=⟨by kernel_rfl,Zkaa G hG⟩
theorem Z4k (G:Nat→V) (hG:GOk G) (s:List UInt8) (hs:s.length<1000000000000000) {f:FuncId} {p:UInt8→Bool} (hf:FnB G f p) :
  Spec Tryz.prog G 143 [.str s,.func (.func f) [] []] Zl (fun v _=>v = .int .i64 (Zxc p s)):=by
 refine Zo 0 20 [.tmp 4] Tryz.func143 fun X=>?_;refine Z1 ?_;refine Z1 ?_;refine Zy ?_;refine AW.block ?_
 refine Zua s.length (fun k (_:Unit)=>st [(0,.str s),(1,.func (.func f) [] []),(5,.int .i64 k)] []) (fun k _=>Zxc p s=k+Zxc p (s.drop k)) 0 () (Nat.zero_le _) (by simp)
  (Zb zp zp) ?_
 intro k _ hk hR L2 hL2;refine Zy ?_
 by_cases hk1:k<s.length
 ·have h1:decide ((k:Int)<s.length)=true:=zT
  have hg:=Zdm hk1;have hd:s.drop k=s[k]::s.drop (k+1):=List.drop_eq_getElem_cons hk1;generalize s[k]=c at hg hd;rw [hd] at hR;refine Z1f (zi h1 hg) ?_;refine CallA.pure hG hf.en ?_;refine Zs ?_;refine (hf.sp c).mono ?_;rintro _ _ rfl;refine Zsf h1 ?_;rw [Zjg] at hR;refine Za rfl (fun h4=>?_) (fun h4=>?_)
  ·rw [if_pos h4] at hR
   refine Z1 ?_;refine hL2 _ ⟨hk1,(),by omega,Zb zw zp⟩
  ·rw [if_neg (by simp [h4])] at hR
   refine Z ?_;have hR:Zxc p s=k+0:=hR
   rw [hR]<;>rfl
 ·have h1:decide ((k:Int)<s.length)=false:=zF
  have hk2:k=s.length:=by omega
  refine Z1f h1 ?_;refine Zta rfl ?_
  ·refine Z ?_
   rw [hR,hk2,List.drop_length]<;>rfl
end Go.Hs
end

section
namespace Go.Hs
open Go.Proofs
set_option maxRecDepth 10000
def encR (r:Int × Int):V := .tuple [.int .i64 r.1,.int .i64 r.2]
end Go.Hs
end

section
namespace Go.Hs
open Go.Proofs
set_option maxRecDepth 10000
def Z5o (l:List Nat):List Int:=l.map (fun (d:Nat)=>(d:Int))
@[simp] theorem Zbh (l:List Nat):(Z5o l).length=l.length:=by simp [Z5o]
theorem Zc2 (l:List Nat) (k:Nat):(Z5o l)[k]? = (l[k]?).map (fun (d:Nat)=>(d:Int)):=by simp [Z5o]
theorem Zun (a b:List Nat):Z5o (a++b)=Z5o a++Z5o b:=by simp [Z5o]
def slD (nl:Bool) (l:List Nat):Sl Int:=if nl then .nil else .mk false (Z5o l)
theorem Zf5 (G:Nat→V) (hG:GOk G) (c:Col) (nl:Bool) (l:List Nat) (hnl:nl=true→l=[]) (hl:l.length<1000000000) :
  Spec Tryz.prog G 275 [Zd c 1 (V.int .i64) (slD nl l)] Zl (fun v _=>v=Zd c 1 (V.int .i64) (slD nl (Zpv l.length l))):=by
 refine Zo 0 21 [.tmp 2] Tryz.func275 fun X=>?_
 have hsl:(slD nl l).l=Z5o l:=by
  cases nl with
  | true=>rw [hnl rfl]<;>rfl
  | false=>rfl
 refine Z1 ?_;refine Zy ?_;refine AW.block ?_
 refine Zwc (fun (m:List Nat)=>st [(0,Zd c 1 (V.int .i64) (slD nl m))] []) (fun m=>Zpv m.length m=Zpv l.length l∧(nl=true→m=[])∧m.length≤l.length) (fun m=>m.length) l ⟨rfl,hnl,Nat.le_refl _⟩
  (Zb zp zp) ?_
 rintro m ⟨hm,hmn,hml⟩ L2 hL2
 have hsm:(slD nl m).l=Z5o m:=by
  cases nl with
  | true=>rw [hmn rfl]<;>rfl
  | false=>rfl
 refine Zy ?_
 rcases List.eq_nil_or_concat m with rfl | ⟨m',d,hme⟩
 ·refine Z1f (zi hsm @Zbh) ?_
  refine Za rfl (fun h4=>?_) (fun h4=>?_)
  ·simp at h4
  ·refine Z ?_
   rw [← hm]
   try rfl
 ·rw [List.concat_eq_append] at hme
  have hlen:m.length=m'.length+1:=by rw [hme];simp
  have hw:IntKind.i64.wrap ((m.length:Int)-1)=(m'.length:Int):=by rw [w64 (by omega) (by omega)];omega
  have hg:(Z5o m)[m'.length]? = some (d:Int):=by rw [hme,Zc2];simp
  have hpos:decide ((m.length:Int) > 0)=true:=zT
  have hlast:m.getLast? = some d:=by rw [hme];simp
  have hnlf:nl=false:=by
   cases nl with
   | true=>rw [hmn rfl] at hlen;simp at hlen
   | false=>rfl
  subst hnlf
  by_cases hd:d=0
  ·subst hd
   refine Z1f (zi hsm (zi @Zbh (zi hpos (zi hw hg)))) ?_;refine Za rfl (fun h4=>?_) (fun h4=>?_)
   ·refine Z0 ?_
    refine AW.block ?_
    have hle:m'.length≤m.length:=by omega
    refine Z1f (zi hsm (zi @Zbh (zi hw hle))) ?_
    have hsub:(slD false m).sub 0 m'.length=slD false m':=by
     rw [hme];simp [slD,Sl.sub,Zun,Zbh]
    refine hL2 _ ⟨m',by omega,⟨?_,by simp,by omega⟩,Zb (zpf hsub) zp⟩;rw [← hm,hlen,Zpv,if_pos (by rw [hlast]),hme];simp
   ·simp at h4
  ·have hd0:((d:Int)==0)=false:=by simpa using hd
   refine Z1f (zi hsm (zi @Zbh (zi hpos (zi hw (zi hg hd0))))) ?_;refine Za rfl (fun h4=>?_) (fun h4=>?_)
   ·simp at h4
   ·refine Z ?_
    rw [← hm,hlen,Zpv,if_neg (by rw [hlast];simpa using hd)]
def encLong (c:Col) (nl:Bool) (l:List Nat) (below:Bool):V := .agg [Zd c 1 (V.int .i64) (slD nl l),.bool below]
theorem slD_l {nl:Bool} {l:List Nat} (h:nl=true→l=[]):(slD nl l).l=Z5o l:=by
 cases nl with
 | true=>rw [h rfl]<;>rfl
 | false=>rfl
theorem Zv9 (G:Nat→V) (hG:GOk G) (n:Int) (hn:InK .i64 n):Spec Tryz.prog G 235 [.int .i64 n] Zl (fun v _=>v=encLong .new (decide (n=0)) (dg n.natAbs) (decide (n<0))):=by
 have hn':=(Zyj n).1 hn;refine Zo 0 24 [.cell 2 279] Tryz.func235 fun X=>?_;refine Z1 ?_;intro g2;refine Z1 ?_;intro g3;refine Zy ?_;refine AW.block ?_
 refine Zwc (fun (x:Nat × Int × List Nat)=>st [(0,.int .i64 x.2.1),(2,.ptr 2 g2 0),(3,.ptr 3 g3 0)] [(2,.cells .new g2 0 [.nils,.bool false]),(3,.cells .new g3 0 [grown 19 x.1 1 (Z5o x.2.2),.bool (decide (n<0))]),(19,Zjb x.1 (V.int .i64) (Z5o x.2.2))])
  (fun x=>InK .i64 x.2.1∧(x.2.1≤0∧n≤0∨0≤x.2.1∧0≤n)∧x.2.2++dg x.2.1.natAbs=dg n.natAbs) (fun x=>x.2.1.natAbs) (0,n,[]) ⟨hn,by show n≤0∧n≤0∨0≤n∧0≤n;omega,rfl⟩
  (Zb zp (by simp -implicitDefEqProofs only[go_sem,seval,↓reduceIte];try exact ⟨rfl,rfl⟩)) ?_
 rintro ⟨gx,m,out⟩ ⟨hm,hsg,hout⟩ L2 hL2;have hm:InK .i64 m:=hm;have hm':=(Zyj m).1 hm;have hout:out++dg m.natAbs=dg n.natAbs:=hout
 have hol:out.length+(dg m.natAbs).length≤20:=by
  rw [← List.length_append,hout];exact Zl2 (by omega)
 refine Z1 ?_;refine Za rfl (fun h4=>?_) (fun h4=>?_)
 ·have h5:m≠0:=by simpa using h4
  refine Z1 ?_
  have ht:m.tdiv 10=if m<0 then -((m.natAbs / 10:Nat):Int) else ((m.natAbs / 10:Nat):Int):=by
   rw [Zb1]
   by_cases h:m<0<;>simp [h]
  have hr:m.tmod 10=if m<0 then -((m.natAbs % 10:Nat):Int) else ((m.natAbs % 10:Nat):Int):=by
   rw [Za9]
   by_cases h:m<0<;>simp [h]
  have hd:(if IntKind.i64.wrap (0-m.tmod 10) > m.tmod 10 then IntKind.i64.wrap (0-m.tmod 10) else m.tmod 10)=((m.natAbs % 10:Nat):Int):=by
   rw [w64 (by rw [hr];split<;>omega) (by rw [hr];split<;>omega),hr]
   split<;>split<;>omega
  have hw:IntKind.i64.wrap (m.tdiv 10)=m.tdiv 10:=w64 (by rw [ht];split<;>omega) (by rw [ht];split<;>omega);refine Z1f hd ?_;intro g18
  have hdl:(dg m.natAbs).length=(dg (m.natAbs / 10)).length+1:=by rw [Zai (by omega)]<;>rfl
  refine Zpb (f:=V.int .i64) (l:=Z5o out) (l2:=[((m.natAbs % 10:Nat):Int)]) (g:=gx) (fun _=>rfl) rfl rfl rfl rfl (Zda (by omega) (by simp;omega)) fun g19=>?_;refine Zs ?_;refine Z1f hw ?_
  have hn2:(m.tdiv 10).natAbs=m.natAbs / 10:=by rw [ht];split<;>omega
  refine hL2 _ ⟨(g19,m.tdiv 10,out++[m.natAbs % 10]),?_,⟨(show InK .i64 (m.tdiv 10) from (Zyj _).2 (by rw [ht];split<;>omega)),?_,?_⟩,Zb zp (by simp -implicitDefEqProofs only[go_sem,seval,↓reduceIte,Zun];try exact ⟨rfl,rfl⟩)⟩
  ·show (m.tdiv 10).natAbs<m.natAbs
   rw [hn2];omega
  ·show m.tdiv 10≤0∧n≤0∨0≤m.tdiv 10∧0≤n
   have hsg:m≤0∧n≤0∨0≤m∧0≤n:=hsg
   rw [ht];split<;>omega
  ·show out++[m.natAbs % 10]++dg (m.tdiv 10).natAbs=dg n.natAbs
   rw [hn2,← hout,Zai (n:=m.natAbs) (by omega)];simp
 ·have h5:m=0:=by simpa using h4
  subst h5
  have hout:out=dg n.natAbs:=by simpa [Zdg] using hout
  refine Z0 ?_;refine AW.weak (Z2 (fun o=>o==19) (l:=[(2,.ptr 2 g2 0),(3,.ptr 3 g3 0)]) (m:=[(2,.cells .new g2 0 [.nils,.bool false]),(3,.cells .new g3 0 [Zd .new 1 (V.int .i64) (Zea (Z5o out)),.bool (decide (n<0))])]) ?_ ?_) ?_
  ·refine Zs ?_
   exact ⟨Ze _,Ze _⟩
  ·simp only [Zp,Zz,and_true]
   exact ⟨FzO.keep rfl zp,Zol rfl rfl ⟨Zyb rfl rfl (fun _=>rfl),Ze _,trivial⟩⟩
  refine Z ?_;rw [hout]
  have:Zea (Z5o (dg n.natAbs))=slD (decide (n=0)) (dg n.natAbs):=by
   by_cases h:n=0
   ·subst h;rfl
   ·have:dg n.natAbs≠[]:=by rw [Ne,dg_ne];omega
    rw [show decide (n=0)=false by simpa using h]
    revert this
    cases dg n.natAbs with
    | nil=>intro h;exact absurd rfl h
    | cons x r=>intro _;rfl
  rw [this]
  try rfl
end Go.Hs
end

section
namespace Go.Hs
open Go.Proofs
set_option maxRecDepth 10000
theorem Zlk (l:List Nat) (k:Nat):val (l.drop k)=l.getD k 0+10 * val (l.drop (k+1)):=by
 by_cases h:k<l.length
 ·rw [List.drop_eq_getElem_cons h,val,List.getD_eq_getElem?_getD,List.getElem?_eq_getElem h]
  try rfl
 ·rw [List.drop_eq_nil_of_le (by omega),List.drop_eq_nil_of_le (by omega),List.getD_eq_getElem?_getD,List.getElem?_eq_none (by omega)]
  try rfl
theorem Z2s {l:List Nat} (h:Dig l) (k:Nat):l.getD k 0<10:=by
 rw [List.getD_eq_getElem?_getD]
 by_cases hk:k<l.length
 ·rw [List.getElem?_eq_getElem hk]
  exact h _ (List.getElem_mem hk)
 ·rw [List.getElem?_eq_none (by omega)]
  decide
theorem Z8k {l:List Nat} {k:Nat} (h:k<l.length):(Z5o l)[k]? = some ((l.getD k 0:Nat):Int):=by
 rw [Zc2,List.getElem?_eq_getElem h,List.getD_eq_getElem?_getD,List.getElem?_eq_getElem h]
 try rfl
theorem Z95 (k:Nat):0<10 ^ k:=Nat.pow_pos (by decide)
theorem Zsz {l:List Nat} {nl:Bool} (h:nl=decide (l=[])):Zea (Z5o l)=slD nl l:=by
 cases l with
 | nil=>subst h;rfl
 | cons x r =>
  subst h;rw [show decide (x::r=[])=false by simp]
  try rfl
theorem Z4aa {K n A B o V:Nat} (h:o+K * (n+10 * A+10 * B)=V):(o+K * (n % 10))+(K * 10) * (n / 10+A+B)=V:=by
 rw [← h,Nat.mul_assoc,Nat.add_assoc,← Nat.mul_add]
 congr 2
 omega
structure AddI (la lb:List Nat) (M k:Nat) (out:List Nat) (cr:Nat):Prop where
 len:out.length=k
 dig:Dig out
 hcr:cr≤1
 v:val out+10 ^ k * (cr+val (la.drop k)+val (lb.drop k))=val la+val lb
 last:k=M+1→cr=0
 emp:M=0→k=0∧cr=0
theorem AddI.zero (la lb:List Nat) (M:Nat):AddI la lb M 0 [] 0:={ len:=rfl,dig:=fun d hd=>by simp at hd,hcr:=by omega,v:=by simp [val],last:=fun _=>rfl,emp:=fun _=>⟨rfl,rfl⟩ }
theorem AddI.step {la lb:List Nat} {M k:Nat} {out:List Nat} {cr:Nat} (h:AddI la lb M k out cr) (hM:M=max la.length lb.length) (da:Dig la) (db:Dig lb) (hgo:k<M∨cr > 0) {n:Nat} (hn:n=la.getD k 0+lb.getD k 0+cr) (hk:k≤M) :
  AddI la lb M (k+1) (out++[n % 10]) (n / 10):=by
 have h1:=Z2s da k;have h2:=Z2s db k;have h3:=h.hcr;refine ⟨by simp [h.len],Dig.app.2 ⟨h.dig,Dig.one (by omega)⟩,by omega,?_,fun e=>?_,fun e=>?_⟩
 ·have hv:=h.v
  rw [Zlk la k,Zlk lb k] at hv;rw [Zsl,h.len,Nat.pow_succ]
  have e:val out+10 ^ k * (n+10 * val (la.drop (k+1))+10 * val (lb.drop (k+1)))=val la+val lb:=by
   rw [← hv,hn]
   congr 2
   omega
  simpa [val] using Z4aa e
 ·have e1:la.getD k 0=0:=by rw [List.getD_eq_getElem?_getD,List.getElem?_eq_none (by omega)]<;>rfl
  have e2:lb.getD k 0=0:=by rw [List.getD_eq_getElem?_getD,List.getElem?_eq_none (by omega)]<;>rfl
  omega
 ·have:=h.emp e
  omega
end Go.Hs
end

section
namespace Go.Hs
open Go.Proofs
set_option maxRecDepth 10000
structure TakeI (la lb:List Nat) (k:Nat) (out:List Nat) (br:Nat):Prop where
 len:out.length=k
 dig:Dig out
 hbr:br≤1
 v:(val out:Int)+(10:Int) ^ k * ((val (la.drop k):Int)-br-val (lb.drop k))=val la-val lb
theorem TakeI.zero (la lb:List Nat):TakeI la lb 0 [] 0:={ len:=rfl,dig:=fun d hd=>by simp at hd,hbr:=by omega,v:=by simp [val] }
theorem Zk5 {K x A B o V b:Int} {d br':Int} (h:o+K * (x+10 * A-b-(d+10 * B))=V) {n:Int} (hn:n=x-d-b+10 * br'):(o+K * n)+(K * 10) * (A-br'-B)=V:=by
 rw [← h,hn,Int.mul_assoc,Int.add_assoc,← Int.mul_add]
 congr 2
 omega
theorem TakeI.step {la lb:List Nat} {k:Nat} {out:List Nat} {br:Nat} (h:TakeI la lb k out br) {n br':Nat} (hn:(n:Int)=(la.getD k 0:Nat)-(lb.getD k 0:Nat)-br+10 * br') (hn10:n<10) (hb:br'≤1) :
  TakeI la lb (k+1) (out++[n]) br':=by
 refine ⟨by simp [h.len],Dig.app.2 ⟨h.dig,Dig.one hn10⟩,hb,?_⟩;have hv:=h.v;rw [Zlk la k,Zlk lb k] at hv;rw [Zsl,h.len,Int.pow_succ]
 have e:(val out:Int)+(10:Int) ^ k * (((la.getD k 0:Nat):Int)+10 * (val (la.drop (k+1)):Int)-(br:Int)-(((lb.getD k 0:Nat):Int)+10 * (val (lb.drop (k+1)):Int)))=val la-val lb:=by
  rw [← hv]
  congr 2
 have:=Zk5 e hn;simpa [val] using this
end Go.Hs
end

section
namespace Go.Hs
open Go.Proofs
set_option maxRecDepth 10000
def sgn (below:Bool) (n:Nat):Int:=if below then -(n:Int) else n
theorem Zty (l:List Nat) (i:Nat):val (l.drop i)≤val l:=by
 have h:val l=val (l.take i)+10 ^ (l.take i).length * val (l.drop i):=by rw [← Zsl,List.take_append_drop]
 have:=Nat.le_mul_of_pos_left (val (l.drop i)) (Z95 (l.take i).length);omega
theorem Zr3 (G:Nat→V) (hG:GOk G) (c:Col) (nl:Bool) (l:List Nat) (below:Bool) (hnl:nl=true→l=[]) (hd:Dig l) (hll:l.length<1000000) :
  Spec Tryz.prog G 289 [encLong c nl l below] Zl (fun v _=>v = .tuple [.int .i64 (Zdv (sgn below (val l))).1,.bool (Z1w (sgn below (val l)))]):=by
 have hsl:=slD_l hnl;refine Zo 0 40 [.tmp 2,.tmp 3] Tryz.func289 fun X=>?_;simp only [encLong];refine Z1 ?_;intro g1;refine Z1 ?_;refine Z1f (zi hsl @Zbh) ?_;refine AW.block ?_
 refine Zua l.length (fun k (_:Unit)=>st [(1,.ptr 1 g1 0),(4,.int .i64 (-(val (l.drop (l.length-k)):Int))),(5,.int .i64 ((l.length:Int)-1-k))] [(1,.cells .new g1 0 [Zd c 1 (V.int .i64) (slD nl l),.bool below])]) (fun k _=>val (l.drop (l.length-k))≤9223372036854775808) 0 () (Nat.zero_le _) (by rw [List.drop_eq_nil_of_le (by omega)];simp [val])
  (Zb (by simp -implicitDefEqProofs only[go_sem,seval,↓reduceIte];rw [List.drop_eq_nil_of_le (by omega)];exact ⟨rfl,congrArg _ (by rw [w64 (by omega) (by omega)];omega)⟩) zp) ?_
 intro k _ hk hR L2 hL2;refine Z1 ?_;refine Za rfl (fun h4=>?_) (fun h4=>?_)
 ·have hk1:k<l.length:=by have:=of_decide_eq_true h4;omega
  refine Z0 ?_;obtain ⟨i,hi⟩:∃ i,i=l.length-1-k:=⟨_,rfl⟩
  have e0:((l.length:Int)-1-k)=(i:Int):=by omega
  have g2:=Z8k (l:=l) (k:=i) (by omega);have h5:=Z2s hd i;have hvd:=Zlk l i;have hvl:=Zty l i;rw [show l.length-k=i+1 by omega] at hR ⊢;rw [e0];generalize l.getD i 0=d at g2 h5 hvd;generalize val (l.drop (i+1))=m at hR hvd;refine Z1f (zi hsl g2) ?_;refine Zy ?_;have hw:IntKind.i64.wrap (-9223372036854775808+(d:Int)) = -9223372036854775808+(d:Int):=w64 (by omega) (by omega)
  have hT:IntKind.i64.wrap ((-9223372036854775808+(d:Int)).tdiv 10) = -(((9223372036854775808-d) / 10:Nat):Int):=by
   have e1:(-9223372036854775808+(d:Int)).natAbs=9223372036854775808-d:=by omega
   have e2:(-9223372036854775808+(d:Int)).tdiv 10 = -(((9223372036854775808-d) / 10:Nat):Int):=by
    rw [Zb1,e1]
    have:(-9223372036854775808+(d:Int))<0:=by omega
    simp [this]
   rw [e2,w64 (by omega) (by omega)]
  refine Z1f (zi hw hT) ?_;refine Za rfl (fun h7=>?_) (fun h7=>?_)
  ·have h7':=of_decide_eq_true h7
   refine Z ?_
   have hf:Z1w (sgn below (val l))=false:=by
    unfold Z1w sgn;rw [decide_eq_false_iff_not]
    split<;>omega
   rw [Zuy hf,hf]
  ·have h7':=of_decide_eq_false h7
   refine Z1 ?_;refine Z1 ?_;refine hL2 _ ⟨hk1,(),?_,Zb (by simp -implicitDefEqProofs only[go_sem,seval,↓reduceIte];rw [show l.length-(k+1)=i by omega,hvd];exact ⟨congrArg _ (by rw [w64 (n:=10 * -(m:Int)) (by omega) (by omega),w64 (by omega) (by omega)];omega),congrArg _ (by rw [w64 (by omega) (by omega)];omega)⟩) zp⟩;rw [show l.length-(k+1)=i by omega,hvd];omega
 ·have hk1:k=l.length:=by have:=of_decide_eq_false h4;omega
  subst hk1;refine Z0 ?_;rw [Nat.sub_self,List.drop_zero] at hR ⊢;generalize hm:val l=m at hR;have stop:(below=true∨m=0)∨¬ (below=true∨m=0):=Classical.em _;refine Z9 (fun (_:Unit)=>st [(4,.int .i64 (-(m:Int)))] []) (fun _=>below=false∧m≠0) (fun K8 hK8=>?_) ?_
  ·have yes:(below=true∨m=0)→V.tuple [.int .i64 (-(m:Int)),.bool true]=V.tuple [.int .i64 (Zdv (sgn below m)).1,.bool (Z1w (sgn below m))]:=by
    intro h
    have hs:sgn below m = -(m:Int):=by
     unfold sgn
     split
     ·rfl
     ·rename_i hb
      have:m=0:=h.resolve_left hb;omega
    have hf:Z1w (-(m:Int))=true:=by unfold Z1w;rw [decide_eq_true_iff];omega
    rw [hs,Z8r hf,hf]
   cases hb:below with
   | true =>
    refine Z1f hb ?_;refine Za rfl (fun h9=>?_) (fun h9=>?_)
    ·refine Z ?_
     rw [hb] at yes;exact yes (.inl rfl)
    ·simp at h9
   | false =>
    refine Z1f hb ?_;refine Za rfl (fun h9=>?_) (fun h9=>?_)
    ·have h0:m=0:=by
      have : -(m:Int)=0:=by simpa using h9
      omega
     refine Z ?_;rw [hb] at yes;exact yes (.inr h0)
    ·have h0:m≠0:=by rintro rfl;simp at h9
     refine Z0 ?_;exact hK8 _ () ⟨hb,h0⟩ (Zb zp zp)
  ·rintro _ ⟨hb,h0⟩
   subst hb;refine Z1 ?_;refine Za rfl (fun h10=>?_) (fun h10=>?_)
   ·have h1:m=9223372036854775808:=by
     have : -(m:Int) = -9223372036854775808:=by simpa using h10
     omega
    refine Z ?_
    have hf:Z1w (sgn false m)=false:=by unfold Z1w sgn;rw [decide_eq_false_iff_not];simp;omega
    rw [Zuy hf,hf]
   ·have h1:m≠9223372036854775808:=by rintro rfl;simp at h10
    refine Z ?_
    have hf:Z1w (sgn false m)=true:=by unfold Z1w sgn;rw [decide_eq_true_iff];simp;omega
    rw [Z8r hf,hf,w64 (by omega) (by omega)];simp [sgn]
theorem Zp3 (G:Nat→V) (hG:GOk G) (c:Col) (nl:Bool) (l:List Nat) (below:Bool) (hnl:nl=true→l=[]) (hd:Dig l) (hll:l.length<1000000) :
  Spec Tryz.prog G 274 [encLong c nl l below] Zl (fun v _=>v=encR (Zdv (sgn below (val l)))):=by
 have hF:=Zr3 G hG c.ent nl l below hnl hd hll;generalize sgn below (val l)=x at hF;refine Zo 0 14 [.tmp 2,.tmp 3] Tryz.func274 fun X=>?_;simp only [encLong];refine Z1 ?_;intro g1;refine Z1 ?_;refine Zc hG ?_ (s:=hF);refine Zy ?_
 cases hf:Z1w x with
 | true =>
  refine Z1 ?_;refine Za rfl (fun h2=>?_) (fun h2=>?_)
  ·simp at h2
  ·refine Z ?_
   rw [Z8r hf]
   try rfl
 | false =>
  refine Z1 ?_;refine Za rfl (fun h2=>?_) (fun h2=>?_)
  ·refine Z ?_
   rw [Zuy hf]
   try rfl
  ·simp at h2
end Go.Hs
end

section
namespace Go.Proofs
open Go.Shelf
def Zwp:Go.Shelf.Ren:=⟨fun | 174=>299 | 247=>305 | 245=>306 | 287=>312 | 279=>313 | 280=>314 | 281=>315 | 282=>316 | 321=>319 | 322=>320 | 316=>321 | 171=>323 | 205=>322 | 243=>324 | 246=>257 | 283=>270 | 284=>271 | 285=>272 | 286=>273 | 129=>285 | 317=>284 | 318=>286 | 319=>287 | 320=>288 | 337=>292 | 338=>293 | n=>n,fun | 9=>9 | 3=>3 | 2=>2 | 75=>177 | 85=>332 | 4=>4 | 167=>346 | 5=>5 | 53=>303 | 175=>347 | 46=>296 | 168=>349 | 37=>166 | 0=>0 | 210=>371 | 21=>21 | 127=>229 | 145=>375 | 143=>373 | 171=>302 | 173=>306 | 212=>317 | 51=>310 | 20=>20 | 213=>318 | 232=>335 | 233=>336 | 80=>180 | n=>n,fun | 15=>8 | 16=>3 | 17=>2 | 18=>4 | 19=>5 | n=>n⟩
theorem Zxp:Go.Proofs.LaysC.n174 Tryz.prog Zwp:={
 mixed:=by kernel_rfl
 f129:=Tryz.func285.trans (congrArg some (by kernel_rfl))
 f171:=Tryz.func323.trans (congrArg some (by kernel_rfl))
 f174:=Tryz.func299.trans (congrArg some (by kernel_rfl))
 f205:=Tryz.func322.trans (congrArg some (by kernel_rfl))
 f243:=Tryz.func324.trans (congrArg some (by kernel_rfl))
 f245:=Tryz.func306.trans (congrArg some (by kernel_rfl))
 f246:=Tryz.func257.trans (congrArg some (by kernel_rfl))
 f247:=Tryz.func305.trans (congrArg some (by kernel_rfl))
 f279:=Tryz.func313.trans (congrArg some (by kernel_rfl))
 f280:=Tryz.func314.trans (congrArg some (by kernel_rfl))
 f281:=Tryz.func315.trans (congrArg some (by kernel_rfl))
 f282:=Tryz.func316.trans (congrArg some (by kernel_rfl))
 f283:=Tryz.func270.trans (congrArg some (by kernel_rfl))
 f284:=Tryz.func271.trans (congrArg some (by kernel_rfl))
 f285:=Tryz.func272.trans (congrArg some (by kernel_rfl))
 f286:=Tryz.func273.trans (congrArg some (by kernel_rfl))
 f287:=Tryz.func312.trans (congrArg some (by kernel_rfl))
 f316:=Tryz.func321.trans (congrArg some (by kernel_rfl))
 f317:=Tryz.func284.trans (congrArg some (by kernel_rfl))
 f318:=Tryz.func286.trans (congrArg some (by kernel_rfl))
 f319:=Tryz.func287.trans (congrArg some (by kernel_rfl))
 f320:=Tryz.func288.trans (congrArg some (by kernel_rfl))
 f321:=Tryz.func319.trans (congrArg some (by kernel_rfl))
 f322:=Tryz.func320.trans (congrArg some (by kernel_rfl))
 f337:=Tryz.func292.trans (congrArg some (by kernel_rfl))
 f338:=Tryz.func293.trans (congrArg some (by kernel_rfl))
 t0:=Tryz.underlying0
 a0:=Tryz.isAgg0
 z0:=Tryz.sizeOf0
 v0:=Tryz.zeroValue0
 t2:=Tryz.underlying2
 a2:=Tryz.isAgg2
 z2:=Tryz.sizeOf2
 v2:=Tryz.zeroValue2
 t3:=Tryz.underlying3
 a3:=Tryz.isAgg3
 z3:=Tryz.sizeOf3
 v3:=Tryz.zeroValue3
 t4:=Tryz.underlying4
 a4:=Tryz.isAgg4
 z4:=Tryz.sizeOf4
 v4:=Tryz.zeroValue4
 t5:=Tryz.underlying5
 a5:=Tryz.isAgg5
 z5:=Tryz.sizeOf5
 v5:=Tryz.zeroValue5
 t9:=Tryz.underlying9
 a9:=Tryz.isAgg9
 z9:=Tryz.sizeOf9
 v9:=Tryz.zeroValue9
 t20:=Tryz.underlying20
 a20:=Tryz.isAgg20
 z20:=Tryz.sizeOf20
 v20:=Tryz.zeroValue20
 t21:=Tryz.underlying21
 a21:=Tryz.isAgg21
 z21:=Tryz.sizeOf21
 v21:=Tryz.zeroValue21
 t37:=Tryz.underlying166
 a37:=Tryz.isAgg166
 z37:=Tryz.sizeOf166
 v37:=Tryz.zeroValue166
 t46:=Tryz.underlying296
 a46:=Tryz.isAgg296
 z46:=Tryz.sizeOf296
 v46:=Tryz.zeroValue296
 t51:=Tryz.underlying310
 a51:=Tryz.isAgg310
 z51:=Tryz.sizeOf310
 v51:=Tryz.zeroValue310
 t53:=Tryz.underlying303
 a53:=Tryz.isAgg303
 z53:=Tryz.sizeOf303
 v53:=Tryz.zeroValue303
 t75:=Tryz.underlying177
 a75:=Tryz.isAgg177
 z75:=Tryz.sizeOf177
 v75:=Tryz.zeroValue177
 t85:=Tryz.underlying332
 a85:=Tryz.isAgg332
 z85:=Tryz.sizeOf332
 v85:=Tryz.zeroValue332
 t127:=Tryz.underlying229
 a127:=Tryz.isAgg229
 z127:=Tryz.sizeOf229
 v127:=Tryz.zeroValue229
 t143:=Tryz.underlying373
 a143:=Tryz.isAgg373
 z143:=Tryz.sizeOf373
 v143:=Tryz.zeroValue373
 t145:=Tryz.underlying375
 a145:=Tryz.isAgg375
 z145:=Tryz.sizeOf375
 v145:=Tryz.zeroValue375
 t167:=Tryz.underlying346
 a167:=Tryz.isAgg346
 z167:=Tryz.sizeOf346
 v167:=Tryz.zeroValue346
 t168:=Tryz.underlying349
 a168:=Tryz.isAgg349
 z168:=Tryz.sizeOf349
 v168:=Tryz.zeroValue349
 t171:=Tryz.underlying302
 a171:=Tryz.isAgg302
 z171:=Tryz.sizeOf302
 v171:=Tryz.zeroValue302
 t173:=Tryz.underlying306
 a173:=Tryz.isAgg306
 z173:=Tryz.sizeOf306
 v173:=Tryz.zeroValue306
 t175:=Tryz.underlying347
 a175:=Tryz.isAgg347
 z175:=Tryz.sizeOf347
 v175:=Tryz.zeroValue347
 t210:=Tryz.underlying371
 a210:=Tryz.isAgg371
 z210:=Tryz.sizeOf371
 v210:=Tryz.zeroValue371
 t212:=Tryz.underlying317
 a212:=Tryz.isAgg317
 z212:=Tryz.sizeOf317
 v212:=Tryz.zeroValue317
 t213:=Tryz.underlying318
 a213:=Tryz.isAgg318
 z213:=Tryz.sizeOf318
 t232:=Tryz.underlying335
 a232:=Tryz.isAgg335
 z232:=Tryz.sizeOf335
 v232:=Tryz.zeroValue335
 t233:=Tryz.underlying336
 a233:=Tryz.isAgg336
 z233:=Tryz.sizeOf336
 v233:=Tryz.zeroValue336
 g15:=by kernel_rfl
 g16:=by kernel_rfl
 g17:=by kernel_rfl
 g18:=by kernel_rfl
 g19:=by kernel_rfl
 t80:=Tryz.underlying180
 a80:=Tryz.isAgg180
 z80:=Tryz.sizeOf180
 v80:=Tryz.zeroValue180
 i0:=by kernel_rfl
 i2:=by kernel_rfl
 i3:=by kernel_rfl
 i4:=by kernel_rfl
 i5:=by kernel_rfl
 i9:=by kernel_rfl
 i20:=by kernel_rfl
 i21:=by kernel_rfl
 i37:=by kernel_rfl
 i46:=by kernel_rfl
 i51:=by kernel_rfl
 i53:=by kernel_rfl
 i75:=by kernel_rfl
 i80:=by kernel_rfl
 i85:=by kernel_rfl
 i127:=by kernel_rfl
 i143:=by kernel_rfl
 i145:=by kernel_rfl
 i167:=by kernel_rfl
 i168:=by kernel_rfl
 i171:=by kernel_rfl
 i173:=by kernel_rfl
 i175:=by kernel_rfl
 i210:=by kernel_rfl
 i212:=by kernel_rfl
 i232:=by kernel_rfl
 i233:=by kernel_rfl
 m15:=by kernel_rfl
 m16:=by kernel_rfl
 m17:=by kernel_rfl
 m18:=by kernel_rfl
 m19:=by kernel_rfl
 c0:=by kernel_rfl
 c2:=by kernel_rfl
 c3:=by kernel_rfl
 c4:=by kernel_rfl
 c5:=by kernel_rfl
 c9:=by kernel_rfl
 c20:=by kernel_rfl
 c21:=by kernel_rfl
 c37:=by kernel_rfl
 c46:=by kernel_rfl
 c51:=by kernel_rfl
 c53:=by kernel_rfl
 c75:=by kernel_rfl
 c80:=by kernel_rfl
 c85:=by kernel_rfl
 c127:=by kernel_rfl
 c143:=by kernel_rfl
 c145:=by kernel_rfl
 c167:=by kernel_rfl
 c168:=by kernel_rfl
 c171:=by kernel_rfl
 c173:=by kernel_rfl
 c175:=by kernel_rfl
 c210:=by kernel_rfl
 c212:=by kernel_rfl
 c213:=by kernel_rfl
 c232:=by kernel_rfl
 c233:=by kernel_rfl }
def Z1p:Go.Shelf.Ren:=⟨fun | 173=>231 | 246=>257 | 283=>270 | 284=>271 | 285=>272 | 286=>273 | 129=>285 | 317=>284 | 318=>286 | 319=>287 | 320=>288 | 337=>292 | 338=>293 | n=>n,fun | 2=>2 | 3=>3 | 9=>9 | 4=>4 | 171=>302 | 0=>0 | 53=>303 | 37=>166 | 5=>5 | 173=>306 | 212=>317 | 51=>310 | 20=>20 | 213=>318 | 46=>296 | 232=>335 | 233=>336 | n=>n,fun | 17=>2 | 18=>4 | 19=>5 | n=>n⟩
theorem Zp0:Go.Proofs.LaysM.n173 Tryz.prog Z1p:={
 mixed:=by kernel_rfl
 f129:=Tryz.func285.trans (congrArg some (by kernel_rfl))
 f173:=Tryz.func231.trans (congrArg some (by kernel_rfl))
 f246:=Tryz.func257.trans (congrArg some (by kernel_rfl))
 f283:=Tryz.func270.trans (congrArg some (by kernel_rfl))
 f284:=Tryz.func271.trans (congrArg some (by kernel_rfl))
 f285:=Tryz.func272.trans (congrArg some (by kernel_rfl))
 f286:=Tryz.func273.trans (congrArg some (by kernel_rfl))
 f317:=Tryz.func284.trans (congrArg some (by kernel_rfl))
 f318:=Tryz.func286.trans (congrArg some (by kernel_rfl))
 f319:=Tryz.func287.trans (congrArg some (by kernel_rfl))
 f320:=Tryz.func288.trans (congrArg some (by kernel_rfl))
 f337:=Tryz.func292.trans (congrArg some (by kernel_rfl))
 f338:=Tryz.func293.trans (congrArg some (by kernel_rfl))
 t0:=Tryz.underlying0
 a0:=Tryz.isAgg0
 z0:=Tryz.sizeOf0
 v0:=Tryz.zeroValue0
 t2:=Tryz.underlying2
 a2:=Tryz.isAgg2
 z2:=Tryz.sizeOf2
 v2:=Tryz.zeroValue2
 t3:=Tryz.underlying3
 a3:=Tryz.isAgg3
 z3:=Tryz.sizeOf3
 v3:=Tryz.zeroValue3
 t4:=Tryz.underlying4
 a4:=Tryz.isAgg4
 z4:=Tryz.sizeOf4
 v4:=Tryz.zeroValue4
 t5:=Tryz.underlying5
 a5:=Tryz.isAgg5
 z5:=Tryz.sizeOf5
 v5:=Tryz.zeroValue5
 t9:=Tryz.underlying9
 a9:=Tryz.isAgg9
 z9:=Tryz.sizeOf9
 v9:=Tryz.zeroValue9
 t20:=Tryz.underlying20
 a20:=Tryz.isAgg20
 z20:=Tryz.sizeOf20
 v20:=Tryz.zeroValue20
 t37:=Tryz.underlying166
 a37:=Tryz.isAgg166
 z37:=Tryz.sizeOf166
 v37:=Tryz.zeroValue166
 t46:=Tryz.underlying296
 a46:=Tryz.isAgg296
 z46:=Tryz.sizeOf296
 v46:=Tryz.zeroValue296
 t51:=Tryz.underlying310
 a51:=Tryz.isAgg310
 z51:=Tryz.sizeOf310
 v51:=Tryz.zeroValue310
 t53:=Tryz.underlying303
 a53:=Tryz.isAgg303
 z53:=Tryz.sizeOf303
 v53:=Tryz.zeroValue303
 t171:=Tryz.underlying302
 a171:=Tryz.isAgg302
 z171:=Tryz.sizeOf302
 v171:=Tryz.zeroValue302
 t173:=Tryz.underlying306
 a173:=Tryz.isAgg306
 z173:=Tryz.sizeOf306
 v173:=Tryz.zeroValue306
 t212:=Tryz.underlying317
 a212:=Tryz.isAgg317
 z212:=Tryz.sizeOf317
 v212:=Tryz.zeroValue317
 t213:=Tryz.underlying318
 a213:=Tryz.isAgg318
 z213:=Tryz.sizeOf318
 t232:=Tryz.underlying335
 a232:=Tryz.isAgg335
 z232:=Tryz.sizeOf335
 v232:=Tryz.zeroValue335
 t233:=Tryz.underlying336
 a233:=Tryz.isAgg336
 z233:=Tryz.sizeOf336
 v233:=Tryz.zeroValue336
 g17:=by kernel_rfl
 g18:=by kernel_rfl
 g19:=by kernel_rfl
 i0:=by kernel_rfl
 i2:=by kernel_rfl
 i3:=by kernel_rfl
 i4:=by kernel_rfl
 i5:=by kernel_rfl
 i9:=by kernel_rfl
 i20:=by kernel_rfl
 i37:=by kernel_rfl
 i46:=by kernel_rfl
 i51:=by kernel_rfl
 i53:=by kernel_rfl
 i171:=by kernel_rfl
 i173:=by kernel_rfl
 i212:=by kernel_rfl
 i232:=by kernel_rfl
 i233:=by kernel_rfl
 m17:=by kernel_rfl
 m18:=by kernel_rfl
 m19:=by kernel_rfl }
def Zup:Go.Shelf.Ren:=⟨fun | 101=>304 | 208=>311 | 206=>224 | n=>n,fun | 9=>9 | 4=>4 | 3=>3 | n=>n,fun | n=>n⟩
theorem Zl0:Go.Proofs.Lays.n101 Tryz.prog Zup:={
 mixed:=by kernel_rfl
 f101:=Tryz.func304.trans (congrArg some (by kernel_rfl))
 f206:=Tryz.func224.trans (congrArg some (by kernel_rfl))
 f208:=Tryz.func311.trans (congrArg some (by kernel_rfl))
 t3:=Tryz.underlying3
 a3:=Tryz.isAgg3
 z3:=Tryz.sizeOf3
 v3:=Tryz.zeroValue3
 t4:=Tryz.underlying4
 a4:=Tryz.isAgg4
 z4:=Tryz.sizeOf4
 v4:=Tryz.zeroValue4
 t9:=Tryz.underlying9
 a9:=Tryz.isAgg9
 z9:=Tryz.sizeOf9
 v9:=Tryz.zeroValue9 }
end Go.Proofs
end
