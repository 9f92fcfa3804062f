/- A part. No condition. -/
import Derived.Lib.ParseIntB
import Derived.Lib.ItoaNum
import Derived.Lib.Index
import Derived.Lib.IndexMore
import Derived.Lib.ParseIntBCases
import Derived.Test.YtegjlbpnpiigkaaGreatDoorP30
import Derived.Test.YtegjlbpnpiigkaaGreatDoorP18
import Derived.Lib.Mul64
import Derived.Test.YtegjlbpnpiigkaaGreatDoorChecked
import Derived.Shelf.Strconv.ParseIntPublic10
import Derived.Shelf.Strconv.ErrVarParseInt
import Derived.Shelf.Strconv.Itoa4
import Derived.Shelf.Strings.Prefix
import Derived.Ground.NamesProg
set_option linter.all false
section
namespace Go.Hs
def dgF:Nat->Nat->List Nat
 |0,_=>[]
 |f+1,n=>if n=0 then[]else(n%10)::dgF f (n/10)
def dg(n:Nat):List Nat:=dgF n n
theorem Zhpa:∀ (f f' n:Nat),n<=f->n<=f'->dgF f n=dgF f' n
 |0,f',n,h,_=>by
  have:n=0:=by omega
  subst this
  cases f'<;>simp[dgF]
 |f+1,0,n,_,h=>by
  have:n=0:=by omega
  subst this;simp[dgF]
 |f+1,f'+1,n,h,h'=>by
  simp only[dgF]
  split
  rfl;rw[Zhpa f f' (n/10) (by omega) (by omega)]
theorem Z6p:dg 0=[]:=rfl
theorem Z4w{n:Nat}(h:0<n):dg n=(n%10)::dg (n/10):=by
 obtain⟨k,rfl⟩:∃ k,n=k+1:=⟨n-1,by omega⟩
 show dgF (k+1) (k+1)=_
 rw[dgF,if_neg (by omega),Zhpa k ((k+1)/10) _ (by omega) (Nat.le_refl _)];rfl
def val:List Nat->Nat
 |[]=>0
 |d::r=>d+10*val r
theorem Zll:∀ (a b:List Nat),val (a++b)=val a+10^a.length*val b
 |[],b=>by simp[val]
 |d::a,b=>by
  rw[List.cons_append,val,Zll a b,val,List.length_cons,Nat.pow_succ];rw[Nat.mul_add,<- Nat.mul_assoc,Nat.mul_comm 10 (10^a.length)];omega
def Dig(l:List Nat):Prop:=∀ d∈l,d<10
theorem Zgla{a b:List Nat}:Dig (a++b)↔Dig a/\Dig b:=by
 constructor
 exact λh=>⟨λd hd=>h d (by simp[hd]),λd hd=>h d (by simp[hd])⟩;rintro⟨h1,h2⟩ d hd
 rcases List.mem_append.1 hd with h|h
 exact h1 d h;exact h2 d h
theorem Dig.one{d:Nat}(h:d<10):Dig [d]:=by intro x hx;simp at hx;omega
theorem Z3oa:∀ {l:List Nat},Dig l->val l<10^l.length
 |[],_=>by simp[val]
 |d::r,h=>by
  have h1:=Z3oa (l:=r) λx hx=>h x (by simp[hx]);have h2:=h d (by simp);rw[val,List.length_cons,Nat.pow_succ];omega
theorem val_dg(n:Nat):val (dg n)=n:=by
 induction n using Nat.strongRecOn with
 |_ n ih=>
  rcases Nat.eq_zero_or_pos n with h|h
  subst h;rfl;rw[Z4w h,val,ih (n/10) (by omega)];omega
theorem dig_dg(n:Nat):Dig (dg n):=by
 induction n using Nat.strongRecOn with
 |_ n ih=>
  rcases Nat.eq_zero_or_pos n with h|h
  subst h;intro d hd;simp[Z6p]at hd;rw[Z4w h];intro d hd
  rcases List.mem_cons.1 hd with rfl|hd
  omega;exact ih (n/10) (by omega) d hd
theorem Zgpa:∀ {l:List Nat},Dig l->(∀ d,l.getLast?=some d->d≠0)->dg (val l)=l
 |[],_,_=>rfl
 |d::r,h,hl=>by
  have hd:=h d (by simp);have hr:Dig r:=λx hx=>h x (by simp[hx])
  rcases hrn:r with _|⟨x,s⟩
  subst hrn;have:=hl d (by simp);rw[val,val,Z4w (by omega)]
  have e1:(d+10*0)%10=d:=by omega
  have e2:(d+10*0)/10=0:=by omega
  rw[e1,e2,Z6p];rw[<- hrn]
  have hne:r≠[]:=by rw[hrn];simp
  have hl2:∀ y,r.getLast?=some y->y≠0:=λy hy=>hl y (by rw[List.getLast?_cons_of_ne_nil hne];exact hy);have ih:=Zgpa hr hl2
  have hp:0<val r:=by
   rcases Nat.eq_zero_or_pos (val r)with h0|h0
   rw[h0,Z6p]at ih;exact absurd ih.symm hne;exact h0
  rw[val,Z4w (by omega)]
  have e1:(d+10*val r)%10=d:=by omega
  have e2:(d+10*val r)/10=val r:=by omega
  rw[e1,e2,ih]
def Zdv:Nat->List Nat->List Nat
 |0,l=>l
 |n+1,l=>if l.getLast?=some 0 then Zdv n l.dropLast else l
theorem Z67:∀ (n:Nat) (l:List Nat),l.length<=n->Dig l->Zdv n l=dg (val l)
 |0,l,h,_=>by
  have:l=[]:=List.length_eq_zero_iff.1 (by omega);subst this;rfl
 |n+1,l,h,hd=>by
  rw[Zdv]
  split
  rename_i h0
  have hne:l≠[]:=by rintro rfl;simp at h0
  have e:l=l.dropLast++[0]:=by
   have:=List.dropLast_concat_getLast hne;rw[List.getLast?_eq_some_getLast hne]at h0;rw[Option.some.inj h0]at this;exact this.symm
  have hv:val l=val l.dropLast:=by
   conv=>lhs;rw[e]
   rw[Zll];simp[val]
  rw[Z67 n l.dropLast (by rw[List.length_dropLast];omega) (λx hx=>hd x (List.dropLast_subset _ hx)),hv];rename_i h0;rw[Zgpa hd];rintro d hl rfl;exact h0 hl
theorem dg_len{n k:Nat}(h:n<10^k):(dg n).length<=k:=by
 induction k generalizing n with
 |zero=>
  have:n=0:=by simp at h;exact h
  subst this;simp[Z6p]
 |succ k ih=>
  rcases Nat.eq_zero_or_pos n with h0|h0
  subst h0;simp[Z6p];rw[Z4w h0,List.length_cons];have:=ih (n:=n/10) (by rw[Nat.pow_succ]at h;omega);omega
def Z90(x:Int):Bool:=decide (-9223372036854775808<=x/\x<=9223372036854775807)
def Z80(x:Int):Int×Int:=if Z90 x then(x,0)else(0,60)
def Zoa(c:UInt8):Bool:=48<=c.toNat&&c.toNat<=57
def Zyi(c:UInt8):Nat:=c.toNat-48
def Zec(s:List UInt8):Int×Int:=
 let below:=s.head? == some 45
 let t:=if below then s.drop 1 else s
 if t=[]\/(t.head?=some 48/\(t.length>1\/below=true))\/t.all Zoa=false then(0,2)
 else Z80 (if below then -(val (t.reverse.map Zyi):Int)else val (t.reverse.map Zyi))
end Go.Hs
end

section
namespace Go.Hs
open Go
structure Tk where
 kind:Int
 text:List UInt8
 pos:Int
 deriving DecidableEq,Inhabited
def Zej(c:UInt8):Bool:=c==95||(decide (97<=(c.toNat ||| 32))&&decide ((c.toNat ||| 32)<=122))
def Z7d(c:UInt8):Bool:=Zej c||Zoa c
def Zfj(c:UInt8):Bool:=c==32||(decide (9<=c.toNat)&&decide (c.toNat<=10))||c==13
def Z1n(c:UInt8):Bool := !(c==10)
def Zwc(p:UInt8->Bool):List UInt8->Nat
 |[]=>0
 |c::r=>if p c then Zwc p r+1 else 0
theorem Zgk(p:UInt8->Bool)(c:UInt8)(r:List UInt8):Zwc p (c::r)=if p c then Zwc p r+1 else 0:=rfl
theorem Zdf(p:UInt8->Bool):∀ s,Zwc p s<=s.length
 |[]=>Nat.le_refl _
 |c::r=>by
  have:=Zdf p r;unfold Zwc
  split
  simp only[List.length_cons];omega;exact Nat.zero_le _
def Zra(p s:List UInt8):Bool:=p.isPrefixOf s
theorem Zqc(s:List UInt8):Zra [] s=true:=by cases s<;>rfl
theorem Zod(a:UInt8)(p:List UInt8):Zra (a::p) []=false:=rfl
theorem Zcb(a c:UInt8)(p s:List UInt8):Zra (a::p) (c::s)=(a==c&&Zra p s):=rfl
def blkF:Nat->List UInt8->Nat
 |0,_=>0
 |_+1,[]=>0
 |f+1,c::r=>if Zfj c then blkF f r+1 else if Zra [45,45] (c::r)then Zwc Z1n (c::r)+blkF f ((c::r).drop (Zwc Z1n (c::r)))else 0
def blk(s:List UInt8):Nat:=blkF s.length s
theorem Z4g{s:List UInt8}(h:Zra [45,45] s=true):2<=Zwc Z1n s/\2<=s.length:=by
 match s with
 |[]=>simp[Zra]at h
 |[_]=>simp[Zra]at h
 |a::b::r=>
  simp[Zra]at h;obtain⟨rfl,rfl⟩:=h;simp[Zwc,Z1n]
theorem Z62:∀ (f f':Nat) (s:List UInt8),s.length<=f->s.length<=f'->blkF f s=blkF f' s
 |0,f',s,h,_=>by
  have:s=[]:=List.length_eq_zero_iff.1 (by omega);subst this
  cases f'<;>rfl
 |f+1,0,s,_,h=>by
  have:s=[]:=List.length_eq_zero_iff.1 (by omega);subst this;rfl
 |f+1,f'+1,[],_,_=>rfl
 |f+1,f'+1,c::r,h,h'=>by
  simp only[List.length_cons]at h h';unfold blkF
  split
  rw[Z62 f f' r (by omega) (by omega)]
  split
  rename_i hp;have:=Z4g hp;rw[Z62 f f' _ (by simp only[List.length_drop,List.length_cons];omega) (by simp only[List.length_drop,List.length_cons];omega)];rfl
theorem Zwja:blk []=0:=rfl
theorem Zm9{c:UInt8}{r:List UInt8}(h:Zfj c=true):blk (c::r)=blk r+1:=by
 unfold blk;rw[List.length_cons,blkF,if_pos h]
theorem Zhu{s:List UInt8}(h:Zra [45,45] s=true):blk s=Zwc Z1n s+blk (s.drop (Zwc Z1n s)):=by
 match s with
 |[]=>simp[Zra]at h
 |c::r=>
  have hc:Zfj c=false:=by
   cases r with
   |nil=>simp[Zra]at h
   |cons d r=>simp[Zra]at h;rw[<- h.1];decide
  have:=Z4g h;unfold blk;rw[List.length_cons,blkF,if_neg (by simp[hc]),if_pos h];rw[Z62 r.length _ _ (by simp only[List.length_drop,List.length_cons];omega) (Nat.le_refl _)]
theorem Zk9{c:UInt8}{r:List UInt8}(h:Zfj c=false)(h2:Zra [45,45] (c::r)=false):blk (c::r)=0:=by
 unfold blk;rw[List.length_cons,blkF,if_neg (by simp[h]),if_neg (by simp[h2])]
theorem Zhx(s:List UInt8):blk s<=s.length:=by
 have key:∀ (n:Nat) (s:List UInt8),s.length<=n->blk s<=s.length:=by
  intro n
  induction n with
  |zero=>
   intro s h;have:s=[]:=List.length_eq_zero_iff.1 (by omega);subst this;exact Nat.le_refl _
  |succ n ih=>
   intro s h
   match s with
   |[]=>exact Nat.le_refl _
   |c::r=>
    cases hb:Zfj c with
    |true=>
     rw[Zm9 hb];have:=ih r (by simp only[List.length_cons]at h;omega);simp only[List.length_cons];omega
    |false=>
     cases hp:Zra [45,45] (c::r)with
     |false=>rw[Zk9 hb hp];exact Nat.zero_le _
     |true=>
      have h1:=Z4g hp;have h2:=Zdf Z1n (c::r);rw[Zhu hp];have:=ih ((c::r).drop (Zwc Z1n (c::r))) (by rw[List.length_drop];omega);rw[List.length_drop]at this;omega
 exact key s.length s (Nat.le_refl _)
def Zh9(s:List UInt8):Prop:=∀ c r,s=c::r->Zfj c=false/\Zra [45,45] s=false
theorem Zix(s:List UInt8):Zh9 (s.drop (blk s)):=by
 have key:∀ (n:Nat) (s:List UInt8),s.length<=n->Zh9 (s.drop (blk s)):=by
  intro n
  induction n with
  |zero=>
   intro s h;have:s=[]:=List.length_eq_zero_iff.1 (by omega);subst this;intro c r hh;simp[Zwja]at hh
  |succ n ih=>
   intro s h
   match s with
   |[]=>intro c r hh;simp[Zwja]at hh
   |c::r=>
    cases hb:Zfj c with
    |true=>
     rw[Zm9 hb,List.drop_succ_cons];exact ih r (by simp only[List.length_cons]at h;omega)
    |false=>
     cases hp:Zra [45,45] (c::r)with
     |false=>
      rw[Zk9 hb hp,List.drop_zero];intro c' r' hh;cases hh;exact⟨hb,hp⟩
     |true=>
      have h1:=Z4g hp;have h2:=Zdf Z1n (c::r);rw[Zhu hp,<- List.drop_drop];exact ih _ (by rw[List.length_drop];omega)
 exact key s.length s (Nat.le_refl _)
def signsL:List (List UInt8):=[[58,61],[60,62],[60,61],[62,61],[60],[62],[61],[43],[45],[42],[40],[41],[44],[59]]
def wordsL:List (List UInt8):=[[97,110,100],[100,105,118],[101,108,115,101],[101,109,105,116],[101,110,100,105,102],[102,97,108,115,101],[105,102],[105,109,112,108,105,101,115],[109,111,100],[110,111,116],[111,114],[116,104,101,110],[116,114,117,101],[120,111,114]]
def Z1oa:List UInt8:=32::wordsL.flatMap (· ++ [32])
def Z1a(s:List UInt8):Nat×Nat:=
 match s with
 |[]=>(0,0)
 |c::_=>
  if Zra [45,45] s then(0,0)
  else if Zoa c then(Zwc Zoa s,1)
  else if Zej c then(Zwc Z7d s,if wordsL.contains (s.take (Zwc Z7d s))then 3 else 2)
  else match signsL.find? (Zra · s)with
   |some t=>(t.length,4)
   |none=>(0,0)
def isP(s:List UInt8):Nat:=if(Z1a s).1≠s.length\/(Z1a s).1>64 then 0 else(Z1a s).2
theorem Zmf(c:UInt8)(r:List UInt8):Z1a (c::r) =
  if Zra [45,45] (c::r)then(0,0)
  else if Zoa c then(Zwc Zoa (c::r),1)
  else if Zej c then(Zwc Z7d (c::r),if wordsL.contains ((c::r).take (Zwc Z7d (c::r)))then 3 else 2)
  else match signsL.find? (Zra · (c::r))with
   |some t=>(t.length,4)
   |none=>(0,0):=rfl
theorem Zyw(s:List UInt8):(Z1a s).1<=s.length:=by
 unfold Z1a
 split
 exact Nat.le_refl _
 split
 exact Nat.zero_le _
 split
 exact Zdf _ _
 split
 exact Zdf _ _
 split
 rename_i h;have:=List.find?_some h;exact(List.isPrefixOf_iff_prefix.1 this).length_le;exact Nat.zero_le _
def Zyd:Nat->List UInt8->Nat->List Tk->List Tk×Int×Int
 |0,_,_,acc=>(acc,0,0)
 |f+1,s,i,acc=>
  if i<s.length then
   if(Z1a (s.drop i)).1=0\/(Z1a (s.drop i)).1>64 then([],i,70)
   else Zyd f s (i+(Z1a (s.drop i)).1+blk (s.drop (i+(Z1a (s.drop i)).1))) (acc++[⟨(Z1a (s.drop i)).2,(s.drop i).take (Z1a (s.drop i)).1,i⟩])
  else(acc,0,0)
def Zja(s:List UInt8):List Tk×Int×Int:=if s.length>65536 then([],0,3)else Zyd (s.length+1) s (blk s) []
theorem Z97:∀ (f f':Nat) (s:List UInt8) (i:Nat) (acc:List Tk),s.length<f+i->s.length<f'+i->Zyd f s i acc=Zyd f' s i acc
 |0,f',s,i,acc,h,_=>by
  cases f' with
  |zero=>rfl
  |succ f'=>rw[Zyd,Zyd,if_neg (by omega)]
 |f+1,0,s,i,acc,_,h=>by rw[Zyd,Zyd,if_neg (by omega)]
 |f+1,f'+1,s,i,acc,h,h'=>by
  unfold Zyd
  split
  split
  rfl;rename_i hn;exact Z97 f f' _ _ _ (by omega) (by omega);rfl
theorem Zrr{f:Nat}{s:List UInt8}{i:Nat}{acc:List Tk}(h:i<s.length)(hf:s.length<f+i)(hn:¬ ((Z1a (s.drop i)).1=0\/(Z1a (s.drop i)).1>64)):
  Zyd f s i acc=Zyd f s (i+(Z1a (s.drop i)).1+blk (s.drop (i+(Z1a (s.drop i)).1))) (acc++[⟨(Z1a (s.drop i)).2,(s.drop i).take (Z1a (s.drop i)).1,i⟩]):=by
 cases f with
 |zero=>omega
 |succ f=>
  rw[Zyd,if_pos h,if_neg hn];exact Z97 _ _ _ _ _ (by omega) (by omega)
theorem Zhv{f:Nat}{s:List UInt8}{i:Nat}{acc:List Tk}(h:i<s.length)(hf:s.length<f+i)(hn:(Z1a (s.drop i)).1=0\/(Z1a (s.drop i)).1>64):Zyd f s i acc=([],(i:Int),70):=by
 cases f with
 |zero=>omega
 |succ f=>rw[Zyd,if_pos h,if_pos hn]
theorem Zgv{f:Nat}{s:List UInt8}{i:Nat}{acc:List Tk}(h:¬ i<s.length):Zyd f s i acc=(acc,0,0):=by
 cases f with
 |zero=>rfl
 |succ f=>rw[Zyd,if_neg h]
def Z6b(s:List UInt8):Nat:=
 if signsL.contains s then 4 else if wordsL.contains s then 3 else match s with
 |[]=>0
 |c::_=>if s.all Zoa then 1 else if Zej c&&s.all Z7d then 2 else 0
theorem Zav(p:UInt8->Bool)(h:(List.range 256).all (λn=>p (UInt8.ofNat n))=true)(c:UInt8):p c=true:=by
 have h2:=List.all_eq_true.1 h c.toNat (List.mem_range.2 c.toNat_lt)
 have e:UInt8.ofNat c.toNat=c:=by simp
 rw[e]at h2;exact h2
theorem Zzt{c:UInt8}(h:Zoa c=true):Zej c=false/\Z7d c=true:=by
 revert h
 unfold Z7d;have:=Zav (λc => !Zoa c||(!Zej c&&(Zej c||Zoa c))) (by decide +kernel) c;intro h;simpa[h]using this
theorem Zxg{p:UInt8->Bool}:∀ {s:List UInt8},(Zwc p s=s.length)=(s.all p=true)
 |[]=>by simp[Zwc]
 |c::r=>by
  unfold Zwc;rw[List.all_cons,Bool.and_eq_true,<- Zxg (s:=r)]
  by_cases h:p c=true
  simp[h];simp[h]
theorem Zxo{p:UInt8->Bool}:∀ (s:List UInt8) (k:Nat),Zwc p (s.take k)=min k (Zwc p s)
 |[],k=>by simp[Zwc]
 |c::r,0=>by simp[Zwc]
 |c::r,k+1=>by
  rw[List.take_succ_cons];unfold Zwc
  split
  rw[Zxo r k];omega;simp
theorem Zmn:∀ w∈wordsL,w.all Z7d=true/\w≠[]/\(∀ c∈w.head?,Zej c=true):=by decide +kernel
theorem Zrn:∀ w∈signsL,w≠[]/\w.length<=2/\(∀ c∈w,Z7d c=false):=by decide +kernel
theorem Zon{c:UInt8}{r:List UInt8}(h:Zoa c=true):Z6b (c::r)=if(c::r).all Zoa then 1 else 0:=by
 have h1:=Zzt h
 have h2:signsL.contains (c::r)=false:=by
  rw[Bool.eq_false_iff];intro hc;have:=(Zrn (c::r) (by simpa using hc)).2.2 c (by simp);rw[h1.2]at this;cases this
 have h3:wordsL.contains (c::r)=false:=by
  rw[Bool.eq_false_iff];intro hc;have:=(Zmn (c::r) (by simpa using hc)).2.2 c (by simp);rw[h1.1]at this;cases this
 unfold Z6b;simp only[h2,h3,h1.1,Bool.false_and];simp
theorem Znn{c:UInt8}{r:List UInt8}(h:Zej c=true):Z6b (c::r)=if(c::r).all Z7d then(if wordsL.contains (c::r)then 3 else 2)else 0:=by
 have h1:Zoa c=false:=by
  rw[Bool.eq_false_iff];intro hd;rw[(Zzt hd).1]at h;cases h
 have h1':Z7d c=true:=by unfold Z7d;rw[h];rfl
 have h2:signsL.contains (c::r)=false:=by
  rw[Bool.eq_false_iff];intro hc;have:=(Zrn (c::r) (by simpa using hc)).2.2 c (by simp);rw[h1']at this;cases this
 have h3:(c::r).all Zoa=false:=by rw[List.all_cons,h1];rfl
 unfold Z6b;simp only[h2,h3,h,Bool.true_and]
 by_cases h4:wordsL.contains (c::r)=true
 rw[if_neg (by simp),if_pos h4,if_pos ((Zmn _ (by simpa using h4)).1),if_pos h4];rw[if_neg (by simp),if_neg h4,if_neg (by simp),if_neg h4]
theorem Zug{c:UInt8}{r:List UInt8}(h:Z7d c=false):Z6b (c::r)=if signsL.contains (c::r)then 4 else 0:=by
 have h1:Zej c=false/\Zoa c=false:=by unfold Z7d at h;simpa using h
 have h2:wordsL.contains (c::r)=false:=by
  rw[Bool.eq_false_iff];intro hc;have:=(Zmn (c::r) (by simpa using hc)).2.2 c (by simp);rw[h1.1]at this;cases this
 have h3:(c::r).all Zoa=false:=by rw[List.all_cons,h1.2];rfl
 unfold Z6b;simp only[h2,h3,h1.1,Bool.false_and]
 split<;>rfl
theorem contains_nil(c:UInt8)(q:List UInt8):Lib.contains [] (c::q)=false:=by simp[Lib.contains,Lib.index]
theorem contains_cons(b:UInt8)(l p:List UInt8):Lib.contains (b::l) p=(p.isPrefixOf (b::l)||Lib.contains l p):=by
 unfold Lib.contains;rw[Lib.index]
 by_cases h:p.isPrefixOf (b::l)=true
 rw[if_pos h,h];simp;have h':p.isPrefixOf (b::l)=false:=Bool.eq_false_iff.2 h;rw[if_neg h,h',Bool.false_or]
 rcases Lib.index_spec l p with ⟨h1,_⟩|⟨i,h1,_⟩
 rw[h1];simp;rw[h1]
 have:((i:Int) == -1)=false:=by rw[beq_eq_false_iff_ne];omega
 simp only[this];simp;omega
theorem Z8oa:∀ (w v rest:List UInt8),(∀ c∈w,c≠32)->(∀ c∈v,c≠32)->(w++[32]).isPrefixOf (v++32::rest)=(w==v)
 |[],[],rest,_,_=>by simp
 |[],b::v,rest,_,hv=>by
  have:=hv b (by simp);simp[List.isPrefixOf];exact λh=>absurd h.symm this
 |a::w,[],rest,hw,_=>by
  have:=hw a (by simp);simp[List.isPrefixOf];exact λh=>absurd h this
 |a::w,b::v,rest,hw,hv=>by
  have:=Z8oa w v rest (λc hc=>hw c (by simp[hc])) (λc hc=>hv c (by simp[hc]));simp only[List.cons_append,List.isPrefixOf,this];simp[List.cons_beq_cons]
theorem Z3k(q:List UInt8):∀ (v l:List UInt8),(∀ c∈v,c≠32)->Lib.contains (v++l) (32::q)=Lib.contains l (32::q)
 |[],_,_=>rfl
 |b::v,l,hv=>by
  have h1:=hv b (by simp);rw[List.cons_append,contains_cons,Z3k q v l λc hc=>hv c (by simp[hc])]
  have:((32::q).isPrefixOf (b::(v++l)))=false:=by
   simp only[List.isPrefixOf,Bool.and_eq_false_iff]
   left
   simpa using λh=>h1 h.symm
  rw[this,Bool.false_or]
theorem Zhj(w:List UInt8)(hw:∀ c∈w,c≠32):∀ (Ws:List (List UInt8)),(∀ v∈Ws,∀ c∈v,c≠32) ->
  Lib.contains (32::Ws.flatMap (· ++ [32])) (32::(w++[32]))=Ws.contains w
 |[],_=>by
  rw[List.flatMap_nil,contains_cons,contains_nil]
  cases w with
  |nil=>rfl
  |cons=>rfl
 |v::Ws,h=>by
  have hv:=h v (by simp);rw[List.flatMap_cons,contains_cons,List.append_assoc,Z3k _ _ _ hv,List.singleton_append,Zhj w hw Ws λx hx=>h x (by simp[hx]),List.contains_cons]
  congr 1
  simp only[List.isPrefixOf,beq_self_eq_true,Bool.true_and];exact Z8oa w v _ hw hv
theorem al_no{c:UInt8}(h:Z7d c=true):c≠32:=by rintro rfl;revert h;decide
theorem Z1q(w:List UInt8)(hw:w.all Z7d=true):Lib.contains Z1oa (32::(w++[32]))=wordsL.contains w:=by
 rw[List.all_eq_true]at hw
 exact Zhj w (λc hc=>al_no (hw c hc)) wordsL λv hv c hc=>by
  have:=(Zmn v hv).1;rw[List.all_eq_true]at this;exact al_no (this c hc)
theorem Zwe(p:UInt8->Bool):∀ s:List UInt8,(s.take (Zwc p s)).all p=true
 |[]=>rfl
 |c::r=>by
  unfold Zwc
  split
  rename_i h;rw[List.take_succ_cons,List.all_cons,h,Zwe p r];rfl;rfl
theorem Zao(c:UInt8):Zoa c=true\/(Zoa c=false/\Zej c=true)\/(Z7d c=false/\Zoa c=false/\Zej c=false):=by
 unfold Z7d
 cases h:Zoa c with
 |true=>exact .inl rfl
 |false=>
  cases h2:Zej c with
  |true=>exact .inr (.inl ⟨rfl,rfl⟩)
  |false=>exact .inr (.inr ⟨rfl,rfl,rfl⟩)
def sgnN(s:List UInt8):Nat:=match signsL.find? (Zra · s)with|some t=>t.length|none=>0
theorem Zzk{c:UInt8}{r:List UInt8}(h:Zoa c=true):Z1a (c::r)=(Zwc Zoa (c::r),1):=by
 have h1:Zra [45,45] (c::r)=false:=by
  have:(45==c)=false:=by
   rw[beq_eq_false_iff_ne];rintro rfl;revert h;decide
  rw[Zcb,this];rfl
 rw[Zmf,if_neg (by simp[h1]),if_pos h]
theorem Z5n{c:UInt8}{r:List UInt8}(h:Zej c=true):Z1a (c::r)=(Zwc Z7d (c::r),if wordsL.contains ((c::r).take (Zwc Z7d (c::r)))then 3 else 2):=by
 have h1:Zra [45,45] (c::r)=false:=by
  have:(45==c)=false:=by
   rw[beq_eq_false_iff_ne];rintro rfl;revert h;decide
  rw[Zcb,this];rfl
 have h2:Zoa c=false:=by
  rw[Bool.eq_false_iff];intro hd;rw[(Zzt hd).1]at h;cases h
 rw[Zmf,if_neg (by simp[h1]),if_neg (by simp[h2]),if_pos h]
theorem Zwi{c:UInt8}{r:List UInt8}(h:Z7d c=false)(h1:Zra [45,45] (c::r)=false):Z1a (c::r)=(sgnN (c::r),if sgnN (c::r)=0 then 0 else 4):=by
 have h2:Zej c=false/\Zoa c=false:=by unfold Z7d at h;simpa using h
 unfold sgnN;rw[Zmf,if_neg (by simp[h1]),if_neg (by simp[h2.2]),if_neg (by simp[h2.1])]
 cases hf:signsL.find? (Zra · (c::r))with
 |none=>rfl
 |some t=>
  have:=List.mem_of_find?_eq_some hf;have:=(Zrn t this).1;have:t.length≠0:=λh=>this (List.length_eq_zero_iff.1 h);simp[this]
theorem Z98:∀ (L:List (List UInt8)) (c:UInt8),(∀ t∈L,t≠[])->(match L.find? (Zra · [c])with|some t=>t.length|none=>0)=if L.contains [c]then 1 else 0
 |[],c,_=>rfl
 |t::L,c,h=>by
  have ih:=Z98 L c λx hx=>h x (by simp[hx]);rw[List.find?_cons,List.contains_cons]
  match t,h t (by simp)with
  |[a],_=>
   by_cases e:a=c
   subst e;simp[Zcb,Zqc,Zod]
   have:Zra [a] [c]=false:=by simp[Zcb,Zqc,Zod,e]
   rw[this]
   have:(([c]:List UInt8)==[a])=false:=by simpa using λh=>e h.symm
   rw[this,Bool.false_or];exact ih
  |a::b::r,_=>
   have:Zra (a::b::r) [c]=false:=by simp[Zcb,Zqc,Zod]
   rw[this]
   have:(([c]:List UInt8)==a::b::r)=false:=by simp
   rw[this,Bool.false_or];exact ih
theorem Zxp:∀ (L M:List (List UInt8)) (c d:UInt8) (r:List UInt8),(∀ t∈L,t.length=2)->(∀ t∈M,t.length=1) ->
  (match(L++M).find? (Zra · (c::d::r))with|some t=>t.length|none=>0)=if L.contains [c,d]then 2 else if M.contains [c]then 1 else 0
 |[],[],c,d,r,_,_=>rfl
 |[],t::M,c,d,r,hL,hM=>by
  have ih:=Zxp [] M c d r hL λx hx=>hM x (by simp[hx]);rw[List.nil_append]at ih⊢
  match t,hM t (by simp)with
  |[a],_=>
   rw[List.find?_cons,List.contains_cons]
   by_cases e:a=c
   subst e;simp[Zcb,Zqc,Zod]
   have:Zra [a] (c::d::r)=false:=by simp[Zcb,Zqc,Zod,e]
   rw[this]
   have:(([c]:List UInt8)==[a])=false:=by simpa using λh=>e h.symm
   rw[this,Bool.false_or];exact ih
 |t::L,M,c,d,r,hL,hM=>by
  have ih:=Zxp L M c d r (λx hx=>hL x (by simp[hx])) hM
  match t,hL t (by simp)with
  |[a,b],_=>
   rw[List.cons_append,List.find?_cons,List.contains_cons]
   by_cases e:a=c/\b=d
   obtain⟨rfl,rfl⟩:=e;simp[Zcb,Zqc,Zod]
   have:Zra [a,b] (c::d::r)=false:=by simpa[Zcb,Zqc,Zod]using e
   rw[this]
   have:(([c,d]:List UInt8)==[a,b])=false:=by simpa using λh1 h2=>e ⟨h1.symm,h2.symm⟩
   rw[this,Bool.false_or];exact ih
def sg2:List (List UInt8):=[[58,61],[60,62],[60,61],[62,61]]
def sg1:List (List UInt8):=[[60],[62],[61],[43],[45],[42],[40],[41],[44],[59]]
theorem Z6s(c:UInt8):sgnN [c]=if signsL.contains [c]then 1 else 0:=Z98 signsL c λt ht=>(Zrn t ht).1
theorem Zsn(c d:UInt8)(r:List UInt8):sgnN (c::d::r)=if sg2.contains [c,d]then 2 else if sg1.contains [c]then 1 else 0:=Zxp sg2 sg1 c d r (by decide) (by decide)
theorem Zgg(x:List UInt8):signsL.contains x=(sg2.contains x||sg1.contains x):=by
 show(sg2++sg1).contains x=_
 simp
theorem Znga{x:List UInt8}(h:x.length≠1):sg1.contains x=false:=by
 rw[Bool.eq_false_iff];intro hc
 have:∀ t∈sg1,t.length=1:=by decide
 exact h (this x (by simpa using hc))
theorem Zmga{x:List UInt8}(h:x.length≠2):sg2.contains x=false:=by
 rw[Bool.eq_false_iff];intro hc
 have:∀ t∈sg2,t.length=2:=by decide
 exact h (this x (by simpa using hc))
theorem Z4u{c:UInt8}(h:Z7d c=false):Z6b [c]=if sg1.contains [c]then 4 else 0:=by
 rw[Zug h,Zgg,Zmga (by simp),Bool.false_or]
theorem Zfo{c d:UInt8}(h:Z7d c=false):Z6b [c,d]=if sg2.contains [c,d]then 4 else 0:=by
 rw[Zug h,Zgg,Znga (by simp),Bool.or_false]
theorem Zor{c d e:UInt8}{r:List UInt8}(h:Z7d c=false):Z6b (c::d::e::r)=0:=by
 rw[Zug h,Zgg,Znga (by simp),Zmga (by simp)];rfl
theorem Zmw(s:List UInt8):isP s=if s.length>64 then 0 else Z6b s:=by
 have key:(if(Z1a s).1≠s.length then 0 else(Z1a s).2)=Z6b s:=by
  match s with
  |[]=>rfl
  |c::r=>
   rcases Zao c with h|⟨_,h⟩|⟨h,_⟩
   rw[Zzk h,Zon h]
   by_cases ha:(c::r).all Zoa=true
   rw[if_pos ha,if_neg (by rw[ne_eq,Decidable.not_not,Zxg];exact ha)];rw[if_neg ha,if_pos (by rw[ne_eq,Zxg];exact ha)];rw[Z5n h,Znn h]
   by_cases ha:(c::r).all Z7d=true
   have hl:Zwc Z7d (c::r)=(c::r).length:=by rw[Zxg];exact ha
   rw[if_pos ha,hl,List.take_length,if_neg (by simp)];rw[if_neg ha,if_pos (by rw[ne_eq,Zxg];exact ha)]
   .match r with
    |[]=>
     rw[Zwi h (by simp[Zcb,Zqc,Zod]),Z6s,Zug h];generalize signsL.contains [c]=x
     cases x<;>simp
    |[d]=>
     rw[Zfo h]
     cases hp:Zra [45,45] [c,d]with
     |true=>
      have:c=45/\d=45:=by
       rw[Zcb,Zcb,Zqc,Bool.and_true,Bool.and_eq_true,beq_iff_eq,beq_iff_eq]at hp;exact⟨hp.1.symm,hp.2.symm⟩
      obtain⟨rfl,rfl⟩:=this
      decide
     |false=>
      rw[Zwi h hp,Zsn];generalize sg2.contains [c,d]=x;generalize sg1.contains [c]=y
      cases x<;>cases y<;>simp
    |d::e::r=>
     rw[Zor h]
     cases hp:Zra [45,45] (c::d::e::r)with
     |true=>
      have:Z1a (c::d::e::r)=(0,0):=by rw[Zmf,if_pos hp]
      rw[this];simp
     |false=>
      rw[Zwi h hp,Zsn];generalize sg2.contains [c,d]=x;generalize sg1.contains [c]=y
      cases x<;>cases y<;>simp
 unfold isP
 by_cases h1:(Z1a s).1=s.length
 rw[<- key,if_neg (show ¬ (Z1a s).1≠s.length by simpa using h1),h1]
 by_cases h2:s.length>64
 rw[if_pos (.inr h2),if_pos h2];rw[if_neg (by simpa using h2),if_neg h2];rw[if_pos (.inl h1)];rw[if_pos h1]at key;rw[<- key];simp
def Zhf(s:List UInt8):Nat->Nat
 |0=>0
 |k+1=>if k=0 then 0 else if Z6b (s.take k)=0 then Zhf s k else k
theorem Ztk(s:List UInt8):Zhf s 1=0:=by simp[Zhf]
theorem Z4e(s:List UInt8){k:Nat}(hk:1<=k):Zhf s (k+1)=if Z6b (s.take k)=0 then Zhf s k else k:=by rw[Zhf,if_neg (by omega)]
theorem Z2q{c:UInt8}{r:List UInt8}(h:Zoa c=true){k:Nat}(hk:1<=k)(hk2:k<=(c::r).length):Z6b ((c::r).take k)≠0↔k<=Zwc Zoa (c::r):=by
 obtain⟨k,rfl⟩:∃ j,k=j+1:=⟨k-1,by omega⟩;have:(c::r).take (k+1)=c::r.take k:=rfl;rw[this,Zon h,<- this]
 have hlen:((c::r).take (k+1)).length=k+1:=by rw[List.length_take];omega
 have h1:((c::r).take (k+1)).all Zoa=true↔k+1<=Zwc Zoa (c::r):=by
  rw[<- Zxg,Zxo,hlen];omega
 by_cases ha:((c::r).take (k+1)).all Zoa=true
 rw[if_pos ha];have:=h1.1 ha;simp;exact this;have:=λh=>ha (h1.2 h);rw[if_neg ha];simp;exact Nat.lt_of_not_le this
theorem Zzs{c:UInt8}{r:List UInt8}(h:Zej c=true){k:Nat}(hk:1<=k)(hk2:k<=(c::r).length):Z6b ((c::r).take k)≠0↔k<=Zwc Z7d (c::r):=by
 obtain⟨k,rfl⟩:∃ j,k=j+1:=⟨k-1,by omega⟩;have:(c::r).take (k+1)=c::r.take k:=rfl;rw[this,Znn h,<- this]
 have hlen:((c::r).take (k+1)).length=k+1:=by rw[List.length_take];omega
 have h1:((c::r).take (k+1)).all Z7d=true↔k+1<=Zwc Z7d (c::r):=by
  rw[<- Zxg,Zxo,hlen];omega
 by_cases ha:((c::r).take (k+1)).all Z7d=true
 rw[if_pos ha];have:=h1.1 ha
 split<;>simp<;>exact this
 have:=λh=>ha (h1.2 h);rw[if_neg ha];simp;exact Nat.lt_of_not_le this
theorem Zpp{s:List UInt8}{R:Nat}(h:∀ k,1<=k->k<=s.length->(Z6b (s.take k)≠0↔k<=R)):∀ k,1<=k->k<=s.length+1->Zhf s k=min (k-1) R
 |0,h0,_=>by omega
 |1,_,_=>by rw[Ztk];simp
 |k+2,_,hk=>by
  rw[Z4e s (by omega),Zpp h (k+1) (by omega) (by omega)];have:=h (k+1) (by omega) (by omega)
  by_cases hw:Z6b (s.take (k+1))=0
  rw[if_pos hw];have:=λx=>(this.2 x) hw;omega;rw[if_neg hw];have:=this.1 hw;omega
theorem Z28{c:UInt8}(h:Z7d c=false){r:List UInt8}:∀ k,3<=k->k<=(c::r).length+1->Zhf (c::r) k=sgnN (c::r)
 |0,h0,_=>by omega
 |1,h0,_=>by omega
 |2,h0,_=>by omega
 |3,_,hk=>by
  match r with
  |[]=>simp at hk
  |d::r=>
   rw[Z4e _ (by omega),Z4e _ (by omega),Ztk,Zsn];simp only[List.take_succ_cons,List.take_zero,Zfo h,Z4u h];generalize sg2.contains [c,d]=x;generalize sg1.contains [c]=y
   cases x<;>cases y<;>simp
 |k+4,_,hk=>by
  rw[Z4e _ (by omega),Z28 h (k+3) (by omega) (by omega)]
  match r with
  |[]=>simp at hk
  |[_]=>simp at hk
  |d::e::r=>
   rw[if_pos];rw[List.take_succ_cons,List.take_succ_cons,List.take_succ_cons,Zor h]
theorem Z3ha{s:List UInt8}(hs:s≠[])(hc:Zra [45,45] s=false){k:Nat}(h1:1<=k)(h2:k<=s.length+1)(he:k=s.length+1\/(3<=k/\Zhf s k≠k-1)):Zhf s k=(Z1a s).1:=by
 match s,hs with
 |c::r,_=>
  rcases Zao c with h|⟨_,h⟩|⟨h,_⟩
  have hr:=Zpp (s:=c::r) (R:=Zwc Zoa (c::r)) λk a b=>Z2q h a b;rw[Zzk h];have h3:=hr k h1 h2;have h4:=Zdf Zoa (c::r)
  rcases he with he|⟨_,he⟩
  rw[h3];show min _ _=_;omega
  rw[h3]at he⊢;show min _ _=_;omega
  have hr:=Zpp (s:=c::r) (R:=Zwc Z7d (c::r)) λk a b=>Zzs h a b;rw[Z5n h];have h3:=hr k h1 h2;have h4:=Zdf Z7d (c::r)
  rcases he with he|⟨_,he⟩
  rw[h3];show min _ _=_;omega
  rw[h3]at he⊢;show min _ _=_;omega
  rw[Zwi h hc]
  by_cases h3:3<=k
  exact Z28 h k h3 h2
  .have he:k=(c::r).length+1:=by rcases he with he|he;exact he;omega
   match r with
   |[]=>
    simp at he;subst he;rw[Z4e _ (by omega),Ztk,Z6s];simp only[List.take_succ_cons,List.take_zero,Zug h]
    cases signsL.contains [c]<;>simp
   |d::r=>simp at he;omega
theorem Z38(s:List UInt8):∀ k,Zhf s k<=k
 |0=>Nat.le_refl _
 |k+1=>by
  have:=Z38 s k;rw[Zhf]
  split
  omega
  split<;>omega
theorem Z9ba{s:List UInt8}(hc:Zra [45,45] s=false)(hn:(Z1a s).1≠0):Z6b (s.take (Z1a s).1)=(Z1a s).2/\(Z1a s).2≠0:=by
 match s with
 |[]=>exact absurd rfl hn
 |c::r=>
  rcases Zao c with h|⟨_,h⟩|⟨h,_⟩
  have e:=Zzk (r:=r) h;rw[e]at hn⊢;have hn:Zwc Zoa (c::r)≠0:=hn;obtain⟨k,hk⟩:∃ j,Zwc Zoa (c::r)=j+1:=⟨Zwc Zoa (c::r)-1,by omega⟩;have h2:=Zwe Zoa (c::r);refine⟨?_,by simp⟩
  show Z6b ((c::r).take (Zwc Zoa (c::r)))=1
  rw[hk]at h2⊢;rw[List.take_succ_cons]at h2⊢;rw[Zon h,if_pos h2];have e:=Z5n (r:=r) h;rw[e]at hn⊢;have hn:Zwc Z7d (c::r)≠0:=hn;obtain⟨k,hk⟩:∃ j,Zwc Z7d (c::r)=j+1:=⟨Zwc Z7d (c::r)-1,by omega⟩;have h2:=Zwe Z7d (c::r);refine⟨?_,by show(if _ then 3 else 2)≠0;split<;>simp⟩
  show Z6b ((c::r).take (Zwc Z7d (c::r)))=if wordsL.contains ((c::r).take (Zwc Z7d (c::r)))then 3 else 2
  rw[hk]at h2⊢;rw[List.take_succ_cons]at h2⊢;rw[Znn h,if_pos h2]
  .have e:=Zwi (r:=r) h hc
   rw[e]at hn⊢;have hn:sgnN (c::r)≠0:=hn;refine⟨?_,by show(if _ then 0 else 4)≠0;rw[if_neg hn];simp⟩
   show Z6b ((c::r).take (sgnN (c::r)))=if sgnN (c::r)=0 then 0 else 4
   rw[if_neg hn]
   match r with
   |[]=>
    rw[Z6s]at hn⊢
    cases hs:signsL.contains [c]with
    |false=>rw[hs]at hn;simp at hn
    |true=>rw[if_pos rfl,List.take_succ_cons,List.take_zero,Zug h,hs];rfl
   |d::r=>
    rw[Zsn]at hn⊢
    cases hs:sg2.contains [c,d]with
    |true=>rw[if_pos rfl,List.take_succ_cons,List.take_succ_cons,List.take_zero,Zfo h,hs];rfl
    |false=>
     rw[hs]at hn;rw[if_neg (by simp)]at hn⊢
     cases hs1:sg1.contains [c]with
     |false=>rw[hs1]at hn;simp at hn
     |true=>rw[if_pos rfl,List.take_succ_cons,List.take_zero,Z4u h,hs1];rfl
def Zci(s:List UInt8):Bool:=
 let t:=Lib.trimPrefix s [45]
 t.all Zoa&&(s==[48]||(!(t==[]) && !(t.head? == some 48)))
def rdv(acc:Nat)(l:List UInt8):Nat:=l.foldl (λa c=>a*10+Zyi c) acc
theorem Zyga:∀ (l:List UInt8) (acc:Nat),rdv acc l=acc*10^l.length+val (l.reverse.map Zyi)
 |[],acc=>by simp[rdv,val]
 |c::r,acc=>by
  have:=Zyga r (acc*10+Zyi c);rw[show rdv acc (c::r)=rdv (acc*10+Zyi c) r from rfl,this,List.reverse_cons,List.map_append,Zll,List.length_cons,Nat.pow_succ,List.length_map,List.length_reverse];simp only[List.map_cons,List.map_nil,val,Nat.mul_zero,Nat.add_zero];rw[Nat.add_mul,Nat.mul_assoc,Nat.mul_comm 10 (10^r.length),Nat.mul_comm (Zyi c)];omega
theorem Z7oa:∀ (l:List UInt8) (acc:Nat),acc<=rdv acc l
 |[],acc=>Nat.le_refl _
 |c::r,acc=>by
  have:=Z7oa r (acc*10+Zyi c);rw[show rdv acc (c::r)=rdv (acc*10+Zyi c) r from rfl];omega
theorem Zbj:∀ (l:List UInt8) (acc:Nat),l.all Zoa=true->acc<=18446744073709551615 ->
  Lib.parseUintM 18446744073709551615 acc l=if rdv acc l<=18446744073709551615 then .ok (rdv acc l)else .range
 |[],acc,_,h=>by simp[Lib.parseUintM,rdv,h]
 |c::r,acc,hd,h=>by
  rw[List.all_cons,Bool.and_eq_true]at hd
  have hc:48<=c.toNat/\c.toNat<=57:=by have:=hd.1;unfold Zoa at this;simpa using this
  have hge:=Z7oa r (acc*10+Zyi c);have hdv:Zyi c=c.toNat-48:=rfl;rw[Lib.parseUintM,if_pos hc,show rdv acc (c::r)=rdv (acc*10+Zyi c) r from rfl]
  by_cases h1:1844674407370955162<=acc
  rw[if_pos h1,if_neg (by omega)];rw[if_neg h1]
  by_cases h2:18446744073709551615<acc*10+(c.toNat-48)
  rw[if_pos h2,if_neg (by omega)];rw[if_neg h2];exact Zbj r _ hd.2 (by omega)
theorem Zcj{l:List UInt8}(hl:l≠[])(hd:l.all Zoa=true):
  Lib.parseUintB 64 l=if val (l.reverse.map Zyi)<=18446744073709551615 then .ok (val (l.reverse.map Zyi))else .range:=by
 have:=Zbj l 0 hd (by omega);rw[Zyga,Nat.zero_mul,Nat.zero_add]at this;rw[Lib.parseUintB,if_neg hl];exact this
theorem Z4fa{x:Int}(h : -9223372036854775808<=x/\x<=9223372036854775807):Z80 x=(x,0):=by
 unfold Z80 Z90;rw[if_pos (decide_eq_true h)]
theorem Z87{x:Int}(h:¬ (-9223372036854775808<=x/\x<=9223372036854775807)):Z80 x=(0,60):=by
 unfold Z80 Z90;rw[if_neg (by simpa using h)]
theorem Z2fa(s:List UInt8):Lib.trimPrefix s [45]=if s.head?=some 45 then s.drop 1 else s:=by
 cases s with
 |nil=>rfl
 |cons c r=>
  unfold Lib.trimPrefix Lib.hasPrefix
  by_cases h:c=45
  subst h;simp;have h':¬ (45:UInt8)=c:=λe=>h e.symm;simp[h,h']
theorem Zaha(s:List UInt8):(Zci s=false/\Zec s=(0,2))\/(Zci s=true/\((∃ v,Lib.parseIntB 64 s=.ok v/\Zec s=(v,0))\/(Lib.parseIntB 64 s=.range/\Zec s=(0,60)))):=by
 cases s with
 |nil=>exact .inl ⟨by decide,rfl⟩
 |cons c r=>
  unfold Zci Zec;rw[Z2fa]
  by_cases hc:c=45
  subst hc;simp only[List.head?_cons,if_true,List.drop_succ_cons,List.drop_zero];have e1:((some (45:UInt8))==some 45)=true:=rfl
  have e2:((45::r:List UInt8)==[48])=false:=by simp
  simp only[e1,e2,if_true,Bool.false_or]
  by_cases hd:r.all Zoa=true
  .cases r with
   |nil=>left;simp
   |cons d q=>
    by_cases h0:d=48
    subst h0;left;simp
    right
    have h0':¬ ((some d:Option UInt8)==some 48)=true:=by simpa using h0
    refine⟨by simp[hd,h0],?_⟩;rw[if_neg (by simp only[List.head?_cons,Option.some.injEq,h0,hd,Bool.true_eq_false,reduceCtorEq,false_and,or_self,not_false_eq_true])];rw[Lib.parseIntB_minus,Zcj (by simp) hd];generalize val ((d::q).reverse.map Zyi)=m
    by_cases hm:m<=9223372036854775808
    left
    refine⟨-(m:Int),?_,Z4fa (by omega)⟩;rw[if_pos (by omega)];simp only[Lib.signedC];rw[if_neg (by omega)]
    right
    refine⟨?_,Z87 (by omega)⟩
    by_cases hm2:m<=18446744073709551615
    rw[if_pos hm2];simp only[Lib.signedC];rw[if_pos (by omega)];rw[if_neg hm2];rfl
  left
  have hd':r.all Zoa=false:=by simpa using hd
  simp[hd']
  have e1:((some c:Option UInt8)==some 45)=false:=by simpa using hc
  simp only[List.head?_cons,e1,Option.some.injEq,hc,if_false,Bool.false_eq_true]
  by_cases hd:(c::r).all Zoa=true
  have hdig:48<=c.toNat/\c.toNat<=57:=by
   have:=hd;rw[List.all_cons,Bool.and_eq_true]at this;have:=this.1;unfold Zoa at this;simpa using this
  by_cases h0:c=48/\r≠[]
  left
  obtain⟨rfl,h1⟩:=h0
  have hlen:(48::r:List UInt8).length>1:=by
   cases r with
   |nil=>exact absurd rfl h1
   |cons _ _=>simp
  refine⟨by simp[h1],?_⟩;rw[if_pos (.inr (.inl ⟨rfl,.inl hlen⟩))]
  right
  refine⟨?_,?_⟩;rw[hd]
  by_cases h1:c=48
  have:r=[]:=by
   by_cases h2:r=[]
   exact h2;exact absurd ⟨h1,h2⟩ h0
  subst h1 this;rfl;simp[h1]
  rw[if_neg (by
   simp only[List.head?_cons,Option.some.injEq,hd,Bool.true_eq_false,reduceCtorEq,or_false,false_or,not_and,List.length_cons];intro h1 h2;apply h0;refine⟨h1,λh3=>?_⟩;subst h3
   simp at h2)]
  rw[Lib.parseIntB_plain 64 c r (by omega) (by omega),Zcj (by simp) hd];generalize val ((c::r).reverse.map Zyi)=m
  by_cases hm:m<=9223372036854775807
  left
  refine⟨(m:Int),?_,Z4fa (by omega)⟩;rw[if_pos (by omega)];simp only[Lib.signlessC];rw[if_neg (by omega)]
  right
  refine⟨?_,Z87 (by omega)⟩
  by_cases hm2:m<=18446744073709551615
  rw[if_pos hm2];simp only[Lib.signlessC];rw[if_pos (by omega)];rw[if_neg hm2];rfl
  left
  have hd':(c::r).all Zoa=false:=by simpa using hd
  rw[hd'];exact⟨rfl,by rw[if_pos (.inr (.inr rfl))]⟩
end Go.Hs
end

section
namespace Go.Hs
theorem Zxla(a b:Int):a.tdiv b=if(decide (a<0) != decide (b<0))=true then -((a.natAbs/b.natAbs:Nat):Int)else((a.natAbs/b.natAbs:Nat):Int):=by
 cases a with
 |ofNat m=>cases b with
  |ofNat n=>simp[Int.tdiv];omega
  |negSucc n=>simp[Int.tdiv,Int.negSucc_lt_zero]
 |negSucc m=>cases b with
  |ofNat n=>simp[Int.tdiv,Int.negSucc_lt_zero]
  |negSucc n=>simp[Int.tdiv,Int.negSucc_lt_zero]
theorem Z2s{x:Int}(h:Z90 x=true):Z80 x=(x,0):=by rw[Z80,if_pos h]
theorem Zh1{x:Int}(h:Z90 x=false):Z80 x=(0,60):=by rw[Z80,h];simp
end Go.Hs
end

section
namespace Go.Hs
open Go.Proofs
set_option maxRecDepth 10000
@[go_sem] theorem Zzla(s:List UInt8)(k:Nat):(s.drop k).take (s.length-k)=s.drop k:=List.take_of_length_le zS
theorem Z6l{l:List UInt8}{k:Nat}(h:k<l.length):l[k]?=some l[k]:=List.getElem?_eq_getElem h
theorem Zuj(G:Nat->V)(hG:GOk G)(c:UInt8):Spec Tryz.prog G 250 [.int .u8 c.toNat] Zk (λv _=>v=.bool (Zoa c)):=by
 refine Zo 0 9 [.tmp 2] Tryz.func250 λX=>?_;refine Z1 ?_
 by_cases h:48<=c.toNat
 have h1:decide ((c.toNat:Int)>=48)=true:=zT;refine Zf h1 ?_;unfold Zoa;simp[h];omega;have h1:decide ((c.toNat:Int)>=48)=false:=zF;refine Zf h1 ?_;unfold Zoa;simp[h]
theorem u8q(c:UInt8)(n:Nat)(hn:n<256):((c.toNat:Int)==(n:Int))=(c==UInt8.ofNat n):=by
 by_cases h:c.toNat=n
 have h1:c=UInt8.ofNat n:=by
  apply UInt8.toNat_inj.1;rw[h,UInt8.toNat_ofNat'];omega
 rw[h1];simp;omega
 have h1:¬ c=UInt8.ofNat n:=by
  intro e;apply h;rw[e,UInt8.toNat_ofNat'];omega
 have h2:¬ (c.toNat:Int)=(n:Int):=zo;rw[show(c==UInt8.ofNat n)=false by simpa using h1,show((c.toNat:Int)==(n:Int))=false from beq_eq_false_iff_ne.2 h2]
theorem Zsla(c:UInt8):((c.toNat:Int)==10)=(c==10):=u8q c 10 zd
theorem u8q9(c:UInt8):((c.toNat:Int)==9)=(c==9):=u8q c 9 zd
theorem Zwfa(c:UInt8):((c.toNat:Int)==32)=(c==32):=u8q c 32 zd
theorem Zxfa(c:UInt8):((c.toNat:Int)==13)=(c==13):=u8q c 13 zd
theorem Zrla(c:UInt8):((c.toNat:Int)==95)=(c==95):=u8q c 95 zd
theorem u8q45(c:UInt8):((c.toNat:Int)==45)=(c==45):=u8q c 45 zd
theorem Z2ba(G:Nat->V)(hG:GOk G)(c:UInt8):Spec Tryz.prog G 260 [.int .u8 c.toNat] Zk (λv _=>v=.bool (Z1n c)):=by
 refine Zo 0 5 [.tmp 2] Tryz.func260 λX=>?_;refine Z ?_;unfold Z1n;rw[bne,Zsla]
theorem Zxna(G:Nat->V)(hG:GOk G)(c:UInt8):Spec Tryz.prog G 259 [.int .u8 c.toNat] Zk (λv _=>v=.bool (Zfj c)):=by
 refine Zo 0 17 [.tmp 2] Tryz.func259 λX=>?_
 have key:Zfj c=(c==32||(decide ((c.toNat:Int)>=9)&&decide ((c.toNat:Int)<=10))||c==13):=by
  unfold Zfj
  congr 3
  rw[decide_eq_decide];omega;rw[decide_eq_decide];omega
 rw[key];refine Z1 ?_
 cases h1:(c==32)with
 |true=>
  exact Zq (zi @Zwfa (zi @Zxfa h1))
 |false=>
  cases h2:decide ((c.toNat:Int)>=9)with
  |false=>
   exact Zq (zi @Zwfa (zi @Zxfa (zi h1 h2)))
  |true=>
   cases h3:decide ((c.toNat:Int)<=10)with
   |false=>
    exact Zq (zi @Zwfa (zi @Zxfa (zi h1 (zi h2 h3))))
   |true=>
    exact Zq (zi @Zwfa (zi @Zxfa (zi h1 (zi h2 h3))))
theorem Zxh(G:Nat->V)(hG:GOk G)(c:UInt8):Spec Tryz.prog G 252 [.int .u8 c.toNat] Zk (λv _=>v=.bool (Zej c)):=by
 refine Zo 0 15 [.tmp 2] Tryz.func252 λX=>?_;refine Z1 ?_
 cases h1:(c==95)with
 |true=>
  refine Zf (zi @Zrla h1) ?_;unfold Zej
  rw[h1]<;>rfl
 |false=>
  have ho:orZ .u8 (c.toNat:Int) 32=((c.toNat ||| 32:Nat):Int):=by
   have:=Zav (λc=>orZ .u8 (c.toNat:Int) 32==((c.toNat ||| 32:Nat):Int)) (by decide +kernel) c;simpa using this
  have hL:Zej c=(decide (((c.toNat ||| 32:Nat):Int)>=97)&&decide (((c.toNat ||| 32:Nat):Int)<=122)):=by
   unfold Zej;rw[h1,Bool.false_or]
   congr 1
   rw[decide_eq_decide];omega;rw[decide_eq_decide];omega
  rw[hL];generalize((c.toNat ||| 32:Nat):Int)=x at ho⊢
  cases h2:decide (x>=97)with
  |false=>
   exact Zq (zi @Zrla (zi h1 (zi ho h2)))
  |true=>
   exact Zq (zi @Zrla (zi h1 (zi ho h2)))
theorem Zyna(G:Nat->V)(hG:GOk G)(c:UInt8):Spec Tryz.prog G 253 [.int .u8 c.toNat] Zk (λv _=>v=.bool (Z7d c)):=by
 refine Zo 0 9 [.tmp 2] Tryz.func253 λX=>?_;refine Z1 ?_;unfold Z7d
 cases h1:Zej c with
 |true=>
  refine Z1 ?_;refine Zn hG ?_ (s:=(Zxh G hG c));refine Zsf h1 ?_;exact Zr
 |false=>
  refine Z1 ?_;refine Zn hG ?_ (s:=(Zxh G hG c));refine Zsf h1 ?_;refine Zn hG ?_ (s:=(Zuj G hG c));refine Zsf h1 ?_;exact Zr
structure FnB(G:Nat->V)(f:FuncId)(p:UInt8->Bool):Prop where
 en:Zia Tryz.prog f=true
 sp:∀ c:UInt8,Spec Tryz.prog G f [.int .u8 c.toNat] Zk (λv _=>v=.bool (p c))
theorem fDigit{G:Nat->V}(hG:GOk G):FnB G 250 Zoa:=⟨by kernel_rfl,Zuj G hG⟩
theorem fNoNl{G:Nat->V}(hG:GOk G):FnB G 260 Z1n:=⟨by kernel_rfl,Z2ba G hG⟩
theorem fBl{G:Nat->V}(hG:GOk G):FnB G 259 Zfj:=⟨by kernel_rfl,Zxna G hG⟩
theorem fAl{G:Nat->V}(hG:GOk G):FnB G 253 Z7d:=⟨by kernel_rfl,Zyna G hG⟩
theorem Zuk(G:Nat->V)(hG:GOk G)(s:List UInt8)(hs:s.length<1000000000000000){f:FuncId}{p:UInt8->Bool}(hf:FnB G f p):
  Spec Tryz.prog G 251 [.str s,.func (.func f) [] []] Zk (λv _=>v=.int .i64 (Zwc p s)):=by
 refine Zo 0 20 [.tmp 4] Tryz.func251 λX=>?_;refine Z1 ?_;refine Z1 ?_;refine Z4 ?_;refine AW.block ?_
 refine Z9 s.length (λk (_:Unit)=>st [(0,.str s),(1,.func (.func f) [] []),(5,.int .i64 k)] []) (λk _=>Zwc p s=k+Zwc p (s.drop k)) 0 () (Nat.zero_le _) zS
  (Za zp zp) ?_
 intro k _ hk hR L2 hL2;refine Z4 ?_
 by_cases hk1:k<s.length
 have h1:decide ((k:Int)<s.length)=true:=zT;have hg:=Z6l hk1;have hd:s.drop k=s[k]::s.drop (k+1):=List.drop_eq_getElem_cons hk1;generalize s[k]=c at hg hd;rw[hd]at hR;refine Z1f (zi h1 hg) ?_;refine CallA.pure hG hf.en ?_;refine Zs ?_;refine(hf.sp c).mono ?_;rintro _ _ rfl;refine Zsf h1 ?_;rw[Zgk]at hR;refine Zi rfl (λh4=>?_) (λh4=>?_);rw[if_pos h4]at hR;refine Z1 ?_;refine hL2 _ ⟨hk1,(),zo,Za zw zp⟩;rw[if_neg (by simp[h4])]at hR;refine Z ?_;have hR:Zwc p s=k+0:=hR
 rw[hR]<;>rfl
 have h1:decide ((k:Int)<s.length)=false:=zF;have hk2:k=s.length:=zo;refine Z1f h1 ?_;refine Zbb rfl ?_;refine Z ?_
 rw[hR,hk2,List.drop_length]<;>rfl
def encR(r:Int×Int):V:=.tuple [.int .i64 r.1,.int .i64 r.2]
def Zvu(l:List Nat):List Int:=l.map (fun(d:Nat)=>(d:Int))
@[simp] theorem Zui(l:List Nat):(Zvu l).length=l.length:=by simp[Zvu]
theorem Z58(l:List Nat)(k:Nat):(Zvu l)[k]?=(l[k]?).map (fun(d:Nat)=>(d:Int)):=by simp[Zvu]
theorem Z1t(a b:List Nat):Zvu (a++b)=Zvu a++Zvu b:=by simp[Zvu]
def slD(nl:Bool)(l:List Nat):Sl Int:=if nl then .nil else .mk false (Zvu l)
theorem Z1fa(G:Nat->V)(hG:GOk G)(c:Col)(nl:Bool)(l:List Nat)(hnl:nl=true->l=[])(hl:l.length<1000000000):
  Spec Tryz.prog G 350 [Zb c 1 (V.int .i64) (slD nl l)] Zk (λv _=>v=Zb c 1 (V.int .i64) (slD nl (Zdv l.length l))):=by
 refine Zo 0 21 [.tmp 2] Tryz.func350 λX=>?_
 have hsl:(slD nl l).l=Zvu l:=by
  cases nl with
  |true=>rw[hnl rfl]<;>rfl
  |false=>rfl
 refine Z1 ?_;refine Z4 ?_;refine AW.block ?_
 refine Zpb (fun(m:List Nat)=>st [(0,Zb c 1 (V.int .i64) (slD nl m))] []) (λm=>Zdv m.length m=Zdv l.length l/\(nl=true->m=[])/\m.length<=l.length) (λm=>m.length) l ⟨rfl,hnl,Nat.le_refl _⟩
  (Za zp zp) ?_
 rintro m ⟨hm,hmn,hml⟩ L2 hL2
 have hsm:(slD nl m).l=Zvu m:=by
  cases nl with
  |true=>rw[hmn rfl]<;>rfl
  |false=>rfl
 refine Z4 ?_
 rcases List.eq_nil_or_concat m with rfl|⟨m',d,hme⟩
 refine Z1f (zi hsm @Zui) ?_;refine Zi rfl (λh4=>?_) (λh4=>?_);simp at h4
 .refine Z ?_
  rw[<- hm]
  try rfl
 rw[List.concat_eq_append]at hme
 have hlen:m.length=m'.length+1:=by rw[hme];simp
 have hw:IntKind.i64.wrap ((m.length:Int)-1)=(m'.length:Int):=by rw[w64 zo zo];omega
 have hg:(Zvu m)[m'.length]?=some (d:Int):=by rw[hme,Z58];simp
 have hpos:decide ((m.length:Int)>0)=true:=zT
 have hlast:m.getLast?=some d:=by rw[hme];simp
 have hnlf:nl=false:=by
  cases nl with
  |true=>rw[hmn rfl]at hlen;simp at hlen
  |false=>rfl
 subst hnlf
 by_cases hd:d=0
 subst hd;refine Z1f (zi hsm (zi @Zui (zi hpos (zi hw hg)))) ?_;refine Zi rfl (λh4=>?_) (λh4=>?_);refine Z0 ?_;refine AW.block ?_;have hle:m'.length<=m.length:=zo;refine Z1f (zi hsm (zi @Zui (zi hw hle))) ?_
 have hsub:(slD false m).sub 0 m'.length=slD false m':=by
  rw[hme];simp[slD,Sl.sub,Z1t,Zui]
 refine hL2 _ ⟨m',zo,⟨?_,zS,zo⟩,Za (zpf hsub) zp⟩;rw[<- hm,hlen,Zdv,if_pos (by rw[hlast]),hme];simp;simp at h4;have hd0:((d:Int)==0)=false:=zu hd;refine Z1f (zi hsm (zi @Zui (zi hpos (zi hw (zi hg hd0))))) ?_;refine Zi rfl (λh4=>?_) (λh4=>?_);simp at h4;refine Z ?_;rw[<- hm,hlen,Zdv,if_neg (by rw[hlast];simpa using hd)]
def Z0p(c:Col)(nl:Bool)(l:List Nat)(below:Bool):V:=.agg [Zb c 1 (V.int .i64) (slD nl l),.bool below]
theorem slD_l{nl:Bool}{l:List Nat}(h:nl=true->l=[]):(slD nl l).l=Zvu l:=by
 cases nl with
 |true=>rw[h rfl]<;>rfl
 |false=>rfl
theorem Zak(l:List Nat)(k:Nat):val (l.drop k)=l.getD k 0+10*val (l.drop (k+1)):=by
 by_cases h:k<l.length
 .rw[List.drop_eq_getElem_cons h,val,List.getD_eq_getElem?_getD,List.getElem?_eq_getElem h]
  try rfl
 .rw[List.drop_eq_nil_of_le zo,List.drop_eq_nil_of_le zo,List.getD_eq_getElem?_getD,List.getElem?_eq_none zo]
  try rfl
theorem Zx2{l:List Nat}(h:Dig l)(k:Nat):l.getD k 0<10:=by
 rw[List.getD_eq_getElem?_getD]
 by_cases hk:k<l.length
 rw[List.getElem?_eq_getElem hk];exact h _ (List.getElem_mem hk);rw[List.getElem?_eq_none zo]
 decide
theorem Z0t{l:List Nat}{k:Nat}(h:k<l.length):(Zvu l)[k]?=some ((l.getD k 0:Nat):Int):=by
 rw[Z58,List.getElem?_eq_getElem h,List.getD_eq_getElem?_getD,List.getElem?_eq_getElem h]
 try rfl
theorem Z6ga(k:Nat):0<10^k:=Nat.pow_pos zd
theorem Zw2{l:List Nat}{nl:Bool}(h:nl=decide (l=[])):Zl (Zvu l)=slD nl l:=by
 cases l with
 |nil=>subst h;rfl
 |cons x r=>
  subst h;rw[show decide (x::r=[])=false by simp]
  try rfl
theorem Zvoa{K n A B o V:Nat}(h:o+K*(n+10*A+10*B)=V):(o+K*(n%10))+(K*10)*(n/10+A+B)=V:=by
 rw[<- h,Nat.mul_assoc,Nat.add_assoc,<- Nat.mul_add]
 congr 2
 omega
structure AddI(la lb:List Nat)(M k:Nat)(out:List Nat)(cr:Nat):Prop where
 len:out.length=k
 dig:Dig out
 hcr:cr<=1
 v:val out+10^k*(cr+val (la.drop k)+val (lb.drop k))=val la+val lb
 last:k=M+1->cr=0
 emp:M=0->k=0/\cr=0
theorem AddI.zero(la lb:List Nat)(M:Nat):AddI la lb M 0 [] 0:={ len:=rfl,dig:=λd hd=>by simp at hd,hcr:=zo,v:=by simp[val],last:=λ_=>rfl,emp:=λ_=>⟨rfl,rfl⟩ }
theorem AddI.step{la lb:List Nat}{M k:Nat}{out:List Nat}{cr:Nat}(h:AddI la lb M k out cr)(hM:M=max la.length lb.length)(da:Dig la)(db:Dig lb)(hgo:k<M\/cr>0){n:Nat}(hn:n=la.getD k 0+lb.getD k 0+cr)(hk:k<=M):
  AddI la lb M (k+1) (out++[n%10]) (n/10):=by
 have h1:=Zx2 da k;have h2:=Zx2 db k;have h3:=h.hcr;refine⟨by simp[h.len],Zgla.2 ⟨h.dig,Dig.one zo⟩,zo,?_,λe=>?_,λe=>?_⟩;have hv:=h.v;rw[Zak la k,Zak lb k]at hv;rw[Zll,h.len,Nat.pow_succ]
 have e:val out+10^k*(n+10*val (la.drop (k+1))+10*val (lb.drop (k+1)))=val la+val lb:=by
  rw[<- hv,hn]
  congr 2
  omega
 simpa[val]using Zvoa e
 have e1:la.getD k 0=0:=by rw[List.getD_eq_getElem?_getD,List.getElem?_eq_none zo]<;>rfl
 have e2:lb.getD k 0=0:=by rw[List.getD_eq_getElem?_getD,List.getElem?_eq_none zo]<;>rfl
 omega;have:=h.emp e;omega
structure TakeI(la lb:List Nat)(k:Nat)(out:List Nat)(br:Nat):Prop where
 len:out.length=k
 dig:Dig out
 hbr:br<=1
 v:(val out:Int)+(10:Int)^k*((val (la.drop k):Int)-br-val (lb.drop k))=val la-val lb
theorem TakeI.zero(la lb:List Nat):TakeI la lb 0 [] 0:={ len:=rfl,dig:=λd hd=>by simp at hd,hbr:=zo,v:=by simp[val] }
theorem Z6fa{K x A B o V b:Int}{d br':Int}(h:o+K*(x+10*A-b-(d+10*B))=V){n:Int}(hn:n=x-d-b+10*br'):(o+K*n)+(K*10)*(A-br'-B)=V:=by
 rw[<- h,hn,Int.mul_assoc,Int.add_assoc,<- Int.mul_add]
 congr 2
 omega
theorem TakeI.step{la lb:List Nat}{k:Nat}{out:List Nat}{br:Nat}(h:TakeI la lb k out br){n br':Nat}(hn:(n:Int)=(la.getD k 0:Nat)-(lb.getD k 0:Nat)-br+10*br')(hn10:n<10)(hb:br'<=1):
  TakeI la lb (k+1) (out++[n]) br':=by
 refine⟨by simp[h.len],Zgla.2 ⟨h.dig,Dig.one hn10⟩,hb,?_⟩;have hv:=h.v;rw[Zak la k,Zak lb k]at hv;rw[Zll,h.len,Int.pow_succ]
 have e:(val out:Int)+(10:Int)^k*(((la.getD k 0:Nat):Int)+10*(val (la.drop (k+1)):Int)-(br:Int)-(((lb.getD k 0:Nat):Int)+10*(val (lb.drop (k+1)):Int)))=val la-val lb:=by
  rw[<- hv]
  congr 2
 have:=Z6fa e hn;simpa[val]using this
def sgn(below:Bool)(n:Nat):Int:=if below then -(n:Int)else n
theorem Zg1(l:List Nat)(i:Nat):val (l.drop i)<=val l:=by
 have h:val l=val (l.take i)+10^(l.take i).length*val (l.drop i):=by rw[<- Zll,List.take_append_drop]
 have:=Nat.le_mul_of_pos_left (val (l.drop i)) (Z6ga (l.take i).length);omega
theorem Zwaa(G:Nat->V)(hG:GOk G)(c:Col)(nl:Bool)(l:List Nat)(below:Bool)(hnl:nl=true->l=[])(hd:Dig l)(hll:l.length<1000000):
  Spec Tryz.prog G 359 [Z0p c nl l below] Zk (λv _=>v=.tuple [.int .i64 (Z80 (sgn below (val l))).1,.bool (Z90 (sgn below (val l)))]):=by
 have hsl:=slD_l hnl;refine Zo 0 40 [.tmp 2,.tmp 3] Tryz.func359 λX=>?_;simp only[Z0p];refine Z1 ?_;intro g1;refine Z1 ?_;refine Z1f (zi hsl @Zui) ?_;refine AW.block ?_
 refine Z9 l.length (λk (_:Unit)=>st [(1,.ptr 1 g1 0),(4,.int .i64 (-(val (l.drop (l.length-k)):Int))),(5,.int .i64 ((l.length:Int)-1-k))] [(1,.cells .new g1 0 [Zb c 1 (V.int .i64) (slD nl l),.bool below])]) (λk _=>val (l.drop (l.length-k))<=9223372036854775808) 0 () (Nat.zero_le _) (by rw[List.drop_eq_nil_of_le zo];simp[val])
  (Za (by refine Zs ?_;rw[List.drop_eq_nil_of_le zo];exact⟨rfl,congrArg _ (by rw[w64 zo zo];omega)⟩) zp) ?_
 intro k _ hk hR L2 hL2;refine Z1 ?_;refine Zi rfl (λh4=>?_) (λh4=>?_)
 have hk1:k<l.length:=by have:=of_decide_eq_true h4;omega
 refine Z0 ?_;obtain⟨i,hi⟩:∃ i,i=l.length-1-k:=⟨_,rfl⟩;have e0:((l.length:Int)-1-k)=(i:Int):=zo;have g2:=Z0t (l:=l) (k:=i) zo;have h5:=Zx2 hd i;have hvd:=Zak l i;have hvl:=Zg1 l i;rw[show l.length-k=i+1 by omega]at hR⊢;rw[e0];generalize l.getD i 0=d at g2 h5 hvd;generalize val (l.drop (i+1))=m at hR hvd;refine Z1f (zi hsl g2) ?_;refine Z4 ?_;have hw:IntKind.i64.wrap (-9223372036854775808+(d:Int)) = -9223372036854775808+(d:Int):=w64 zo zo
 have hT:IntKind.i64.wrap ((-9223372036854775808+(d:Int)).tdiv 10) = -(((9223372036854775808-d)/10:Nat):Int):=by
  have e1:(-9223372036854775808+(d:Int)).natAbs=9223372036854775808-d:=zo
  have e2:(-9223372036854775808+(d:Int)).tdiv 10 = -(((9223372036854775808-d)/10:Nat):Int):=by
   rw[Zxla,e1];have:(-9223372036854775808+(d:Int))<0:=zo;simp[this]
  rw[e2,w64 zo zo]
 refine Z1f (zi hw hT) ?_;refine Zi rfl (λh7=>?_) (λh7=>?_);have h7':=of_decide_eq_true h7;refine Z ?_
 have hf:Z90 (sgn below (val l))=false:=by
  unfold Z90 sgn;rw[decide_eq_false_iff_not]
  split<;>omega
 rw[Zh1 hf,hf];have h7':=of_decide_eq_false h7;refine Z1 ?_;refine Z1 ?_;refine hL2 _ ⟨hk1,(),?_,Za (by refine Zs ?_;rw[show l.length-(k+1)=i by omega,hvd];exact⟨congrArg _ (by rw[w64 (n:=10 * -(m:Int)) zo zo,w64 zo zo];omega),congrArg _ (by rw[w64 zo zo];omega)⟩) zp⟩;rw[show l.length-(k+1)=i by omega,hvd];omega
 have hk1:k=l.length:=by have:=of_decide_eq_false h4;omega
 subst hk1;refine Z0 ?_;rw[Nat.sub_self,List.drop_zero]at hR⊢;generalize hm:val l=m at hR;have stop:(below=true\/m=0)\/¬ (below=true\/m=0):=Classical.em _;refine Zda (fun(_:Unit)=>st [(4,.int .i64 (-(m:Int)))] []) (λ_=>below=false/\m≠0) (λK8 hK8=>?_) ?_
 .have yes:(below=true\/m=0)->V.tuple [.int .i64 (-(m:Int)),.bool true]=V.tuple [.int .i64 (Z80 (sgn below m)).1,.bool (Z90 (sgn below m))]:=by
   intro h
   have hs:sgn below m = -(m:Int):=by
    unfold sgn
    split
    rfl;rename_i hb;have:m=0:=h.resolve_left hb;omega
   have hf:Z90 (-(m:Int))=true:=by unfold Z90;rw[decide_eq_true_iff];omega
   rw[hs,Z2s hf,hf]
  cases hb:below with
  |true=>
   refine Z1f hb ?_;refine Zi rfl (λh9=>?_) (λh9=>?_);refine Z ?_;rw[hb]at yes;exact yes (.inl rfl);simp at h9
  |false=>
   refine Z1f hb ?_;refine Zi rfl (λh9=>?_) (λh9=>?_)
   have h0:m=0:=by
    have : -(m:Int)=0:=zu h9;omega
   refine Z ?_;rw[hb]at yes;exact yes (.inr h0)
   have h0:m≠0:=by rintro rfl;simp at h9
   refine Z0 ?_;exact hK8 _ () ⟨hb,h0⟩ (Za zp zp)
 rintro _ ⟨hb,h0⟩;subst hb;refine Z1 ?_;refine Zi rfl (λh10=>?_) (λh10=>?_)
 have h1:m=9223372036854775808:=by
  have : -(m:Int) = -9223372036854775808:=zu h10;omega
 refine Z ?_
 have hf:Z90 (sgn false m)=false:=by unfold Z90 sgn;rw[decide_eq_false_iff_not];simp;omega
 rw[Zh1 hf,hf]
 have h1:m≠9223372036854775808:=by rintro rfl;simp at h10
 refine Z ?_
 have hf:Z90 (sgn false m)=true:=by unfold Z90 sgn;rw[decide_eq_true_iff];simp;omega
 rw[Z2s hf,hf,w64 zo zo];simp[sgn]
theorem Zvaa(G:Nat->V)(hG:GOk G)(c:Col)(nl:Bool)(l:List Nat)(below:Bool)(hnl:nl=true->l=[])(hd:Dig l)(hll:l.length<1000000):
  Spec Tryz.prog G 349 [Z0p c nl l below] Zk (λv _=>v=encR (Z80 (sgn below (val l)))):=by
 have hF:=Zwaa G hG c.ent nl l below hnl hd hll;generalize sgn below (val l)=x at hF;refine Zo 0 14 [.tmp 2,.tmp 3] Tryz.func349 λX=>?_;simp only[Z0p];refine Z1 ?_;intro g1;refine Z1 ?_;refine Zc hG ?_ (s:=hF);refine Z4 ?_
 cases hf:Z90 x with
 |true=>
  refine Z1 ?_;refine Zi rfl (λh2=>?_) (λh2=>?_);simp at h2
  .refine Z ?_
   rw[Z2s hf]
   try rfl
 |false=>
  refine Z1 ?_;refine Zi rfl (λh2=>?_) (λh2=>?_)
  .refine Z ?_
   rw[Zh1 hf]
   try rfl
  simp at h2
end Go.Hs
end

section
namespace Go.Proofs
open Go.Shelf
def Ztq:Go.Shelf.Ren:=⟨fun|174=>347|247=>355|245=>356|287=>363|279=>364|280=>365|281=>366|282=>367|321=>370|322=>371|316=>372|171=>374|205=>373|243=>375|246=>376|283=>377|284=>378|285=>379|286=>380|129=>238|317=>381|318=>382|319=>383|320=>384|337=>385|338=>386|n=>n,fun|9=>9|3=>3|2=>2|75=>379|85=>380|4=>4|167=>397|5=>5|53=>265|175=>398|46=>219|168=>400|37=>136|0=>0|210=>422|21=>21|127=>425|145=>428|143=>426|171=>430|173=>432|212=>435|51=>263|20=>20|213=>436|232=>437|233=>438|80=>362|n=>n,fun|15=>5|16=>2|17=>6|18=>7|19=>8|n=>n⟩
theorem Zuq:Go.Proofs.LaysC.n174 Tryz.prog Ztq:={
 mixed:=by kernel_rfl
 f129:=Tryz.func238.trans (congrArg some (by kernel_rfl))
 f171:=Tryz.func374.trans (congrArg some (by kernel_rfl))
 f174:=Tryz.func347.trans (congrArg some (by kernel_rfl))
 f205:=Tryz.func373.trans (congrArg some (by kernel_rfl))
 f243:=Tryz.func375.trans (congrArg some (by kernel_rfl))
 f245:=Tryz.func356.trans (congrArg some (by kernel_rfl))
 f246:=Tryz.func376.trans (congrArg some (by kernel_rfl))
 f247:=Tryz.func355.trans (congrArg some (by kernel_rfl))
 f279:=Tryz.func364.trans (congrArg some (by kernel_rfl))
 f280:=Tryz.func365.trans (congrArg some (by kernel_rfl))
 f281:=Tryz.func366.trans (congrArg some (by kernel_rfl))
 f282:=Tryz.func367.trans (congrArg some (by kernel_rfl))
 f283:=Tryz.func377.trans (congrArg some (by kernel_rfl))
 f284:=Tryz.func378.trans (congrArg some (by kernel_rfl))
 f285:=Tryz.func379.trans (congrArg some (by kernel_rfl))
 f286:=Tryz.func380.trans (congrArg some (by kernel_rfl))
 f287:=Tryz.func363.trans (congrArg some (by kernel_rfl))
 f316:=Tryz.func372.trans (congrArg some (by kernel_rfl))
 f317:=Tryz.func381.trans (congrArg some (by kernel_rfl))
 f318:=Tryz.func382.trans (congrArg some (by kernel_rfl))
 f319:=Tryz.func383.trans (congrArg some (by kernel_rfl))
 f320:=Tryz.func384.trans (congrArg some (by kernel_rfl))
 f321:=Tryz.func370.trans (congrArg some (by kernel_rfl))
 f322:=Tryz.func371.trans (congrArg some (by kernel_rfl))
 f337:=Tryz.func385.trans (congrArg some (by kernel_rfl))
 f338:=Tryz.func386.trans (congrArg some (by kernel_rfl))
 t0:=Tryz.underlying0
 a0:=Tryz.isAgg0
 z0:=Tryz.sizeOf0
 v0:=Tryz.zeroValue0
 t2:=Tryz.underlying2
 a2:=Tryz.isAgg2
 z2:=Tryz.sizeOf2
 v2:=Tryz.zeroValue2
 t3:=Tryz.underlying3
 a3:=Tryz.isAgg3
 z3:=Tryz.sizeOf3
 v3:=Tryz.zeroValue3
 t4:=Tryz.underlying4
 a4:=Tryz.isAgg4
 z4:=Tryz.sizeOf4
 v4:=Tryz.zeroValue4
 t5:=Tryz.underlying5
 a5:=Tryz.isAgg5
 z5:=Tryz.sizeOf5
 v5:=Tryz.zeroValue5
 t9:=Tryz.underlying9
 a9:=Tryz.isAgg9
 z9:=Tryz.sizeOf9
 v9:=Tryz.zeroValue9
 t20:=Tryz.underlying20
 a20:=Tryz.isAgg20
 z20:=Tryz.sizeOf20
 v20:=Tryz.zeroValue20
 t21:=Tryz.underlying21
 a21:=Tryz.isAgg21
 z21:=Tryz.sizeOf21
 v21:=Tryz.zeroValue21
 t37:=Tryz.underlying136
 a37:=Tryz.isAgg136
 z37:=Tryz.sizeOf136
 v37:=Tryz.zeroValue136
 t46:=Tryz.underlying219
 a46:=Tryz.isAgg219
 z46:=Tryz.sizeOf219
 v46:=Tryz.zeroValue219
 t51:=Tryz.underlying263
 a51:=Tryz.isAgg263
 z51:=Tryz.sizeOf263
 v51:=Tryz.zeroValue263
 t53:=Tryz.underlying265
 a53:=Tryz.isAgg265
 z53:=Tryz.sizeOf265
 v53:=Tryz.zeroValue265
 t75:=Tryz.underlying379
 a75:=Tryz.isAgg379
 z75:=Tryz.sizeOf379
 v75:=Tryz.zeroValue379
 t85:=Tryz.underlying380
 a85:=Tryz.isAgg380
 z85:=Tryz.sizeOf380
 v85:=Tryz.zeroValue380
 t127:=Tryz.underlying425
 a127:=Tryz.isAgg425
 z127:=Tryz.sizeOf425
 v127:=Tryz.zeroValue425
 t143:=Tryz.underlying426
 a143:=Tryz.isAgg426
 z143:=Tryz.sizeOf426
 v143:=Tryz.zeroValue426
 t145:=Tryz.underlying428
 a145:=Tryz.isAgg428
 z145:=Tryz.sizeOf428
 v145:=Tryz.zeroValue428
 t167:=Tryz.underlying397
 a167:=Tryz.isAgg397
 z167:=Tryz.sizeOf397
 v167:=Tryz.zeroValue397
 t168:=Tryz.underlying400
 a168:=Tryz.isAgg400
 z168:=Tryz.sizeOf400
 v168:=Tryz.zeroValue400
 t171:=Tryz.underlying430
 a171:=Tryz.isAgg430
 z171:=Tryz.sizeOf430
 v171:=Tryz.zeroValue430
 t173:=Tryz.underlying432
 a173:=Tryz.isAgg432
 z173:=Tryz.sizeOf432
 v173:=Tryz.zeroValue432
 t175:=Tryz.underlying398
 a175:=Tryz.isAgg398
 z175:=Tryz.sizeOf398
 v175:=Tryz.zeroValue398
 t210:=Tryz.underlying422
 a210:=Tryz.isAgg422
 z210:=Tryz.sizeOf422
 v210:=Tryz.zeroValue422
 t212:=Tryz.underlying435
 a212:=Tryz.isAgg435
 z212:=Tryz.sizeOf435
 v212:=Tryz.zeroValue435
 t213:=Tryz.underlying436
 a213:=Tryz.isAgg436
 z213:=Tryz.sizeOf436
 t232:=Tryz.underlying437
 a232:=Tryz.isAgg437
 z232:=Tryz.sizeOf437
 v232:=Tryz.zeroValue437
 t233:=Tryz.underlying438
 a233:=Tryz.isAgg438
 z233:=Tryz.sizeOf438
 v233:=Tryz.zeroValue438
 g15:=by kernel_rfl
 g16:=by kernel_rfl
 g17:=by kernel_rfl
 g18:=by kernel_rfl
 g19:=by kernel_rfl
 t80:=Tryz.underlying362
 a80:=Tryz.isAgg362
 z80:=Tryz.sizeOf362
 v80:=Tryz.zeroValue362
 i0:=by kernel_rfl
 i2:=by kernel_rfl
 i3:=by kernel_rfl
 i4:=by kernel_rfl
 i5:=by kernel_rfl
 i9:=by kernel_rfl
 i20:=by kernel_rfl
 i21:=by kernel_rfl
 i37:=by kernel_rfl
 i46:=by kernel_rfl
 i51:=by kernel_rfl
 i53:=by kernel_rfl
 i75:=by kernel_rfl
 i80:=by kernel_rfl
 i85:=by kernel_rfl
 i127:=by kernel_rfl
 i143:=by kernel_rfl
 i145:=by kernel_rfl
 i167:=by kernel_rfl
 i168:=by kernel_rfl
 i171:=by kernel_rfl
 i173:=by kernel_rfl
 i175:=by kernel_rfl
 i210:=by kernel_rfl
 i212:=by kernel_rfl
 i232:=by kernel_rfl
 i233:=by kernel_rfl
 m15:=by kernel_rfl
 m16:=by kernel_rfl
 m17:=by kernel_rfl
 m18:=by kernel_rfl
 m19:=by kernel_rfl
 c0:=by kernel_rfl
 c2:=by kernel_rfl
 c3:=by kernel_rfl
 c4:=by kernel_rfl
 c5:=by kernel_rfl
 c9:=by kernel_rfl
 c20:=by kernel_rfl
 c21:=by kernel_rfl
 c37:=by kernel_rfl
 c46:=by kernel_rfl
 c51:=by kernel_rfl
 c53:=by kernel_rfl
 c75:=by kernel_rfl
 c80:=by kernel_rfl
 c85:=by kernel_rfl
 c127:=by kernel_rfl
 c143:=by kernel_rfl
 c145:=by kernel_rfl
 c167:=by kernel_rfl
 c168:=by kernel_rfl
 c171:=by kernel_rfl
 c173:=by kernel_rfl
 c175:=by kernel_rfl
 c210:=by kernel_rfl
 c212:=by kernel_rfl
 c213:=by kernel_rfl
 c232:=by kernel_rfl
 c233:=by kernel_rfl }
def Zrq:Go.Shelf.Ren:=⟨fun|101=>354|208=>362|206=>277|n=>n,fun|9=>9|4=>4|3=>3|n=>n,fun|n=>n⟩
theorem Zv4:Go.Proofs.Lays.n101 Tryz.prog Zrq:={
 mixed:=by kernel_rfl
 f101:=Tryz.func354.trans (congrArg some (by kernel_rfl))
 f206:=Tryz.func277.trans (congrArg some (by kernel_rfl))
 f208:=Tryz.func362.trans (congrArg some (by kernel_rfl))
 t3:=Tryz.underlying3
 a3:=Tryz.isAgg3
 z3:=Tryz.sizeOf3
 v3:=Tryz.zeroValue3
 t4:=Tryz.underlying4
 a4:=Tryz.isAgg4
 z4:=Tryz.sizeOf4
 v4:=Tryz.zeroValue4
 t9:=Tryz.underlying9
 a9:=Tryz.isAgg9
 z9:=Tryz.sizeOf9
 v9:=Tryz.zeroValue9 }
end Go.Proofs
end
