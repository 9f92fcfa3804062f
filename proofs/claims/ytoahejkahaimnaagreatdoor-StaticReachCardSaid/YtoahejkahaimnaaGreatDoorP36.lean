/- A part. No condition. -/
import Derived.Lib.ParseIntB
import Derived.Lib.ItoaNum
import Derived.Lib.Index
import Derived.Lib.IndexMore
import Derived.Test.YtoahejkahaimnaaGreatDoorP18
import Derived.Test.YtoahejkahaimnaaGreatDoorP22
import Derived.Test.YtoahejkahaimnaaGreatDoorP34
import Derived.Test.YtoahejkahaimnaaGreatDoorP35
set_option linter.all false
section
namespace Go.Hs
def val:List Nat->Nat
 |[]=>0
 |d::r=>d+10*val r
theorem Zzr:∀ (a b:List Nat),val (a++b)=val a+10^a.length*val b
 |[],b=>by simp[val]
 |d::a,b=>by
  rw[List.cons_append,val,Zzr a b,val,List.length_cons,Nat.pow_succ];rw[Nat.mul_add,<- Nat.mul_assoc,Nat.mul_comm 10 (10^a.length)];omega
def Dig(l:List Nat):Prop:=∀ d∈l,d<10
theorem Dig.app{a b:List Nat}:Dig (a++b)↔Dig a/\Dig b:=by
 constructor
 exact λh=>⟨λd hd=>h d (by simp[hd]),λd hd=>h d (by simp[hd])⟩;rintro⟨h1,h2⟩ d hd
 rcases List.mem_append.1 hd with h|h
 exact h1 d h;exact h2 d h
theorem Dig.one{d:Nat}(h:d<10):Dig [d]:=by intro x hx;simp at hx;omega
theorem Zaoa:∀ {l:List Nat},Dig l->val l<10^l.length
 |[],_=>by simp[val]
 |d::r,h=>by
  have h1:=Zaoa (l:=r) λx hx=>h x (by simp[hx]);have h2:=h d (by simp);rw[val,List.length_cons,Nat.pow_succ];omega
def fits(x:Int):Bool:=decide (-9223372036854775808<=x/\x<=9223372036854775807)
def told(x:Int):Int×Int:=if fits x then(x,0)else(0,60)
def Zqb(c:UInt8):Bool:=48<=c.toNat&&c.toNat<=57
def Z8y(c:UInt8):Nat:=c.toNat-48
def Zje(s:List UInt8):Int×Int:=
 let below:=s.head? == some 45
 let t:=if below then s.drop 1 else s
 if t=[]\/(t.head?=some 48/\(t.length>1\/below=true))\/t.all Zqb=false then(0,2)
 else told (if below then -(val (t.reverse.map Z8y):Int)else val (t.reverse.map Z8y))
end Go.Hs
end

section
namespace Go.Hs
open Go
structure Tk where
 kind:Int
 text:List UInt8
 pos:Int
 deriving DecidableEq,Inhabited
def Z8q(c:UInt8):Bool:=c==95||(decide (97<=(c.toNat ||| 32))&&decide ((c.toNat ||| 32)<=122))
def Z9h(c:UInt8):Bool:=Z8q c||Zqb c
def Z8k(c:UInt8):Bool:=c==32||(decide (9<=c.toNat)&&decide (c.toNat<=10))||c==13
def Z85(c:UInt8):Bool := !(c==10)
def Zse(p:UInt8->Bool):List UInt8->Nat
 |[]=>0
 |c::r=>if p c then Zse p r+1 else 0
theorem Zmn(p:UInt8->Bool)(c:UInt8)(r:List UInt8):Zse p (c::r)=if p c then Zse p r+1 else 0:=rfl
theorem Zui(p:UInt8->Bool):∀ s,Zse p s<=s.length
 |[]=>Nat.le_refl _
 |c::r=>by
  have:=Zui p r;unfold Zse
  split
  simp only[List.length_cons];omega;exact Nat.zero_le _
def Zoa(p s:List UInt8):Bool:=p.isPrefixOf s
theorem Z0c(s:List UInt8):Zoa [] s=true:=by cases s<;>rfl
theorem Zjd(a:UInt8)(p:List UInt8):Zoa (a::p) []=false:=rfl
theorem Zab(a c:UInt8)(p s:List UInt8):Zoa (a::p) (c::s)=(a==c&&Zoa p s):=rfl
def blkF:Nat->List UInt8->Nat
 |0,_=>0
 |_+1,[]=>0
 |f+1,c::r=>if Z8k c then blkF f r+1 else if Zoa [45,45] (c::r)then Zse Z85 (c::r)+blkF f ((c::r).drop (Zse Z85 (c::r)))else 0
def blk(s:List UInt8):Nat:=blkF s.length s
theorem Zqm{s:List UInt8}(h:Zoa [45,45] s=true):2<=Zse Z85 s/\2<=s.length:=by
 match s with
 |[]=>simp[Zoa]at h
 |[_]=>simp[Zoa]at h
 |a::b::r=>
  simp[Zoa]at h;obtain⟨rfl,rfl⟩:=h;simp[Zse,Z85]
theorem Z00:∀ (f f':Nat) (s:List UInt8),s.length<=f->s.length<=f'->blkF f s=blkF f' s
 |0,f',s,h,_=>by
  have:s=[]:=List.length_eq_zero_iff.1 (by omega);subst this
  cases f'<;>rfl
 |f+1,0,s,_,h=>by
  have:s=[]:=List.length_eq_zero_iff.1 (by omega);subst this;rfl
 |f+1,f'+1,[],_,_=>rfl
 |f+1,f'+1,c::r,h,h'=>by
  simp only[List.length_cons]at h h';unfold blkF
  split
  rw[Z00 f f' r (by omega) (by omega)]
  split
  rename_i hp;have:=Zqm hp;rw[Z00 f f' _ (by simp only[List.length_drop,List.length_cons];omega) (by simp only[List.length_drop,List.length_cons];omega)];rfl
theorem Zyoa{c:UInt8}{r:List UInt8}(h:Z8k c=true):blk (c::r)=blk r+1:=by
 unfold blk;rw[List.length_cons,blkF,if_pos h]
theorem Zfia{s:List UInt8}(h:Zoa [45,45] s=true):blk s=Zse Z85 s+blk (s.drop (Zse Z85 s)):=by
 match s with
 |[]=>simp[Zoa]at h
 |c::r=>
  have hc:Z8k c=false:=by
   cases r with
   |nil=>simp[Zoa]at h
   |cons d r=>simp[Zoa]at h;rw[<- h.1];decide
  have:=Zqm h;unfold blk;rw[List.length_cons,blkF,if_neg (by simp[hc]),if_pos h];rw[Z00 r.length _ _ (by simp only[List.length_drop,List.length_cons];omega) (Nat.le_refl _)]
theorem Zxoa{c:UInt8}{r:List UInt8}(h:Z8k c=false)(h2:Zoa [45,45] (c::r)=false):blk (c::r)=0:=by
 unfold blk;rw[List.length_cons,blkF,if_neg (by simp[h]),if_neg (by simp[h2])]
theorem Zgia(s:List UInt8):blk s<=s.length:=by
 have key:∀ (n:Nat) (s:List UInt8),s.length<=n->blk s<=s.length:=by
  intro n
  induction n with
  |zero=>
   intro s h;have:s=[]:=List.length_eq_zero_iff.1 (by omega);subst this;exact Nat.le_refl _
  |succ n ih=>
   intro s h
   match s with
   |[]=>exact Nat.le_refl _
   |c::r=>
    cases hb:Z8k c with
    |true=>
     rw[Zyoa hb];have:=ih r (by simp only[List.length_cons]at h;omega);simp only[List.length_cons];omega
    |false=>
     cases hp:Zoa [45,45] (c::r)with
     |false=>rw[Zxoa hb hp];exact Nat.zero_le _
     |true=>
      have h1:=Zqm hp;have h2:=Zui Z85 (c::r);rw[Zfia hp];have:=ih ((c::r).drop (Zse Z85 (c::r))) (by rw[List.length_drop];omega);rw[List.length_drop]at this;omega
 exact key s.length s (Nat.le_refl _)
def signsL:List (List UInt8):=[[58,61],[60,62],[60,61],[62,61],[60],[62],[61],[43],[45],[42],[40],[41],[44],[59]]
def wordsL:List (List UInt8):=[[97,110,100],[100,105,118],[101,108,115,101],[101,109,105,116],[101,110,100,105,102],[102,97,108,115,101],[105,102],[105,109,112,108,105,101,115],[109,111,100],[110,111,116],[111,114],[116,104,101,110],[116,114,117,101],[120,111,114]]
def Z8na:List UInt8:=32::wordsL.flatMap (· ++ [32])
def Z0a(s:List UInt8):Nat×Nat:=
 match s with
 |[]=>(0,0)
 |c::_=>
  if Zoa [45,45] s then(0,0)
  else if Zqb c then(Zse Zqb s,1)
  else if Z8q c then(Zse Z9h s,if wordsL.contains (s.take (Zse Z9h s))then 3 else 2)
  else match signsL.find? (Zoa · s)with
   |some t=>(t.length,4)
   |none=>(0,0)
def isP(s:List UInt8):Nat:=if(Z0a s).1≠s.length\/(Z0a s).1>64 then 0 else(Z0a s).2
theorem Z8e(c:UInt8)(r:List UInt8):Z0a (c::r) =
  if Zoa [45,45] (c::r)then(0,0)
  else if Zqb c then(Zse Zqb (c::r),1)
  else if Z8q c then(Zse Z9h (c::r),if wordsL.contains ((c::r).take (Zse Z9h (c::r)))then 3 else 2)
  else match signsL.find? (Zoa · (c::r))with
   |some t=>(t.length,4)
   |none=>(0,0):=rfl
theorem Zaha(s:List UInt8):(Z0a s).1<=s.length:=by
 unfold Z0a
 split
 exact Nat.le_refl _
 split
 exact Nat.zero_le _
 split
 exact Zui _ _
 split
 exact Zui _ _
 split
 rename_i h;have:=List.find?_some h;exact(List.isPrefixOf_iff_prefix.1 this).length_le;exact Nat.zero_le _
def Zoe:Nat->List UInt8->Nat->List Tk->List Tk×Int×Int
 |0,_,_,acc=>(acc,0,0)
 |f+1,s,i,acc=>
  if i<s.length then
   if(Z0a (s.drop i)).1=0\/(Z0a (s.drop i)).1>64 then([],i,70)
   else Zoe f s (i+(Z0a (s.drop i)).1+blk (s.drop (i+(Z0a (s.drop i)).1))) (acc++[⟨(Z0a (s.drop i)).2,(s.drop i).take (Z0a (s.drop i)).1,i⟩])
  else(acc,0,0)
def Zra(s:List UInt8):List Tk×Int×Int:=if s.length>65536 then([],0,3)else Zoe (s.length+1) s (blk s) []
theorem Zh5:∀ (f f':Nat) (s:List UInt8) (i:Nat) (acc:List Tk),s.length<f+i->s.length<f'+i->Zoe f s i acc=Zoe f' s i acc
 |0,f',s,i,acc,h,_=>by
  cases f' with
  |zero=>rfl
  |succ f'=>rw[Zoe,Zoe,if_neg (by omega)]
 |f+1,0,s,i,acc,_,h=>by rw[Zoe,Zoe,if_neg (by omega)]
 |f+1,f'+1,s,i,acc,h,h'=>by
  unfold Zoe
  split
  split
  rfl;rename_i hn;exact Zh5 f f' _ _ _ (by omega) (by omega);rfl
theorem Zw7{f:Nat}{s:List UInt8}{i:Nat}{acc:List Tk}(h:i<s.length)(hf:s.length<f+i)(hn:¬ ((Z0a (s.drop i)).1=0\/(Z0a (s.drop i)).1>64)):
  Zoe f s i acc=Zoe f s (i+(Z0a (s.drop i)).1+blk (s.drop (i+(Z0a (s.drop i)).1))) (acc++[⟨(Z0a (s.drop i)).2,(s.drop i).take (Z0a (s.drop i)).1,i⟩]):=by
 cases f with
 |zero=>omega
 |succ f=>
  rw[Zoe,if_pos h,if_neg hn];exact Zh5 _ _ _ _ _ (by omega) (by omega)
theorem Z2da{f:Nat}{s:List UInt8}{i:Nat}{acc:List Tk}(h:i<s.length)(hf:s.length<f+i)(hn:(Z0a (s.drop i)).1=0\/(Z0a (s.drop i)).1>64):Zoe f s i acc=([],(i:Int),70):=by
 cases f with
 |zero=>omega
 |succ f=>rw[Zoe,if_pos h,if_pos hn]
theorem Z1da{f:Nat}{s:List UInt8}{i:Nat}{acc:List Tk}(h:¬ i<s.length):Zoe f s i acc=(acc,0,0):=by
 cases f with
 |zero=>rfl
 |succ f=>rw[Zoe,if_neg h]
def Zgi(s:List UInt8):Nat:=
 if signsL.contains s then 4 else if wordsL.contains s then 3 else match s with
 |[]=>0
 |c::_=>if s.all Zqb then 1 else if Z8q c&&s.all Z9h then 2 else 0
theorem Zboa(p:UInt8->Bool)(h:(List.range 256).all (λn=>p (UInt8.ofNat n))=true)(c:UInt8):p c=true:=by
 have h2:=List.all_eq_true.1 h c.toNat (List.mem_range.2 c.toNat_lt)
 have e:UInt8.ofNat c.toNat=c:=by simp
 rw[e]at h2;exact h2
theorem Z3s{c:UInt8}(h:Zqb c=true):Z8q c=false/\Z9h c=true:=by
 revert h
 unfold Z9h;have:=Zboa (λc => !Zqb c||(!Z8q c&&(Z8q c||Zqb c))) (by decide +kernel) c;intro h;simpa[h]using this
theorem Zpj{p:UInt8->Bool}:∀ {s:List UInt8},(Zse p s=s.length)=(s.all p=true)
 |[]=>by simp[Zse]
 |c::r=>by
  unfold Zse;rw[List.all_cons,Bool.and_eq_true,<- Zpj (s:=r)]
  by_cases h:p c=true
  simp[h];simp[h]
theorem Zcm:∀ w∈wordsL,w.all Z9h=true/\w≠[]/\(∀ c∈w.head?,Z8q c=true):=by decide +kernel
theorem Zhm:∀ w∈signsL,w≠[]/\w.length<=2/\(∀ c∈w,Z9h c=false):=by decide +kernel
theorem Za5{c:UInt8}{r:List UInt8}(h:Zqb c=true):Zgi (c::r)=if(c::r).all Zqb then 1 else 0:=by
 have h1:=Z3s h
 have h2:signsL.contains (c::r)=false:=by
  rw[Bool.eq_false_iff];intro hc;have:=(Zhm (c::r) (by simpa using hc)).2.2 c (by simp);rw[h1.2]at this;cases this
 have h3:wordsL.contains (c::r)=false:=by
  rw[Bool.eq_false_iff];intro hc;have:=(Zcm (c::r) (by simpa using hc)).2.2 c (by simp);rw[h1.1]at this;cases this
 unfold Zgi;simp only[h2,h3,h1.1,Bool.false_and];simp
theorem Z94{c:UInt8}{r:List UInt8}(h:Z8q c=true):Zgi (c::r)=if(c::r).all Z9h then(if wordsL.contains (c::r)then 3 else 2)else 0:=by
 have h1:Zqb c=false:=by
  rw[Bool.eq_false_iff];intro hd;rw[(Z3s hd).1]at h;cases h
 have h1':Z9h c=true:=by unfold Z9h;rw[h];rfl
 have h2:signsL.contains (c::r)=false:=by
  rw[Bool.eq_false_iff];intro hc;have:=(Zhm (c::r) (by simpa using hc)).2.2 c (by simp);rw[h1']at this;cases this
 have h3:(c::r).all Zqb=false:=by rw[List.all_cons,h1];rfl
 unfold Zgi;simp only[h2,h3,h,Bool.true_and]
 by_cases h4:wordsL.contains (c::r)=true
 rw[if_neg (by simp),if_pos h4,if_pos ((Zcm _ (by simpa using h4)).1),if_pos h4];rw[if_neg (by simp),if_neg h4,if_neg (by simp),if_neg h4]
theorem Zdm{c:UInt8}{r:List UInt8}(h:Z9h c=false):Zgi (c::r)=if signsL.contains (c::r)then 4 else 0:=by
 have h1:Z8q c=false/\Zqb c=false:=by unfold Z9h at h;simpa using h
 have h2:wordsL.contains (c::r)=false:=by
  rw[Bool.eq_false_iff];intro hc;have:=(Zcm (c::r) (by simpa using hc)).2.2 c (by simp);rw[h1.1]at this;cases this
 have h3:(c::r).all Zqb=false:=by rw[List.all_cons,h1.2];rfl
 unfold Zgi;simp only[h2,h3,h1.1,Bool.false_and]
 split<;>rfl
theorem contains_nil(c:UInt8)(q:List UInt8):Lib.contains [] (c::q)=false:=by simp[Lib.contains,Lib.index]
theorem contains_cons(b:UInt8)(l p:List UInt8):Lib.contains (b::l) p=(p.isPrefixOf (b::l)||Lib.contains l p):=by
 unfold Lib.contains;rw[Lib.index]
 by_cases h:p.isPrefixOf (b::l)=true
 rw[if_pos h,h];simp;have h':p.isPrefixOf (b::l)=false:=Bool.eq_false_iff.2 h;rw[if_neg h,h',Bool.false_or]
 rcases Lib.index_spec l p with ⟨h1,_⟩|⟨i,h1,_⟩
 rw[h1];simp;rw[h1]
 have:((i:Int) == -1)=false:=by rw[beq_eq_false_iff_ne];omega
 simp only[this];simp;omega
theorem Zgoa:∀ (w v rest:List UInt8),(∀ c∈w,c≠32)->(∀ c∈v,c≠32)->(w++[32]).isPrefixOf (v++32::rest)=(w==v)
 |[],[],rest,_,_=>by simp
 |[],b::v,rest,_,hv=>by
  have:=hv b (by simp);simp[List.isPrefixOf];exact λh=>absurd h.symm this
 |a::w,[],rest,hw,_=>by
  have:=hw a (by simp);simp[List.isPrefixOf];exact λh=>absurd h this
 |a::w,b::v,rest,hw,hv=>by
  have:=Zgoa w v rest (λc hc=>hw c (by simp[hc])) (λc hc=>hv c (by simp[hc]));simp only[List.cons_append,List.isPrefixOf,this];simp[List.cons_beq_cons]
theorem Zhk(q:List UInt8):∀ (v l:List UInt8),(∀ c∈v,c≠32)->Lib.contains (v++l) (32::q)=Lib.contains l (32::q)
 |[],_,_=>rfl
 |b::v,l,hv=>by
  have h1:=hv b (by simp);rw[List.cons_append,contains_cons,Zhk q v l λc hc=>hv c (by simp[hc])]
  have:((32::q).isPrefixOf (b::(v++l)))=false:=by
   simp only[List.isPrefixOf,Bool.and_eq_false_iff]
   left
   simpa using λh=>h1 h.symm
  rw[this,Bool.false_or]
theorem Zni(w:List UInt8)(hw:∀ c∈w,c≠32):∀ (Ws:List (List UInt8)),(∀ v∈Ws,∀ c∈v,c≠32) ->
  Lib.contains (32::Ws.flatMap (· ++ [32])) (32::(w++[32]))=Ws.contains w
 |[],_=>by
  rw[List.flatMap_nil,contains_cons,contains_nil]
  cases w with
  |nil=>rfl
  |cons=>rfl
 |v::Ws,h=>by
  have hv:=h v (by simp);rw[List.flatMap_cons,contains_cons,List.append_assoc,Zhk _ _ _ hv,List.singleton_append,Zni w hw Ws λx hx=>h x (by simp[hx]),List.contains_cons]
  congr 1
  simp only[List.isPrefixOf,beq_self_eq_true,Bool.true_and];exact Zgoa w v _ hw hv
theorem al_no{c:UInt8}(h:Z9h c=true):c≠32:=by rintro rfl;revert h;decide
theorem Zyp(w:List UInt8)(hw:w.all Z9h=true):Lib.contains Z8na (32::(w++[32]))=wordsL.contains w:=by
 rw[List.all_eq_true]at hw
 exact Zni w (λc hc=>al_no (hw c hc)) wordsL λv hv c hc=>by
  have:=(Zcm v hv).1;rw[List.all_eq_true]at this;exact al_no (this c hc)
theorem Zoj(p:UInt8->Bool):∀ s:List UInt8,(s.take (Zse p s)).all p=true
 |[]=>rfl
 |c::r=>by
  unfold Zse
  split
  rename_i h;rw[List.take_succ_cons,List.all_cons,h,Zoj p r];rfl;rfl
theorem Zd7(c:UInt8):Zqb c=true\/(Zqb c=false/\Z8q c=true)\/(Z9h c=false/\Zqb c=false/\Z8q c=false):=by
 unfold Z9h
 cases h:Zqb c with
 |true=>exact .inl rfl
 |false=>
  cases h2:Z8q c with
  |true=>exact .inr (.inl ⟨rfl,rfl⟩)
  |false=>exact .inr (.inr ⟨rfl,rfl,rfl⟩)
def sgnN(s:List UInt8):Nat:=match signsL.find? (Zoa · s)with|some t=>t.length|none=>0
theorem Zpv{c:UInt8}{r:List UInt8}(h:Zqb c=true):Z0a (c::r)=(Zse Zqb (c::r),1):=by
 have h1:Zoa [45,45] (c::r)=false:=by
  have:(45==c)=false:=by
   rw[beq_eq_false_iff_ne];rintro rfl;revert h;decide
  rw[Zab,this];rfl
 rw[Z8e,if_neg (by simp[h1]),if_pos h]
theorem Zo6{c:UInt8}{r:List UInt8}(h:Z8q c=true):Z0a (c::r)=(Zse Z9h (c::r),if wordsL.contains ((c::r).take (Zse Z9h (c::r)))then 3 else 2):=by
 have h1:Zoa [45,45] (c::r)=false:=by
  have:(45==c)=false:=by
   rw[beq_eq_false_iff_ne];rintro rfl;revert h;decide
  rw[Zab,this];rfl
 have h2:Zqb c=false:=by
  rw[Bool.eq_false_iff];intro hd;rw[(Z3s hd).1]at h;cases h
 rw[Z8e,if_neg (by simp[h1]),if_neg (by simp[h2]),if_pos h]
theorem Zrm{c:UInt8}{r:List UInt8}(h:Z9h c=false)(h1:Zoa [45,45] (c::r)=false):Z0a (c::r)=(sgnN (c::r),if sgnN (c::r)=0 then 0 else 4):=by
 have h2:Z8q c=false/\Zqb c=false:=by unfold Z9h at h;simpa using h
 unfold sgnN;rw[Z8e,if_neg (by simp[h1]),if_neg (by simp[h2.2]),if_neg (by simp[h2.1])]
 cases hf:signsL.find? (Zoa · (c::r))with
 |none=>rfl
 |some t=>
  have:=List.mem_of_find?_eq_some hf;have:=(Zhm t this).1;have:t.length≠0:=λh=>this (List.length_eq_zero_iff.1 h);simp[this]
theorem Zp6:∀ (L:List (List UInt8)) (c:UInt8),(∀ t∈L,t≠[])->(match L.find? (Zoa · [c])with|some t=>t.length|none=>0)=if L.contains [c]then 1 else 0
 |[],c,_=>rfl
 |t::L,c,h=>by
  have ih:=Zp6 L c λx hx=>h x (by simp[hx]);rw[List.find?_cons,List.contains_cons]
  match t,h t (by simp)with
  |[a],_=>
   by_cases e:a=c
   subst e;simp[Zab,Z0c,Zjd]
   have:Zoa [a] [c]=false:=by simp[Zab,Z0c,Zjd,e]
   rw[this]
   have:(([c]:List UInt8)==[a])=false:=by simpa using λh=>e h.symm
   rw[this,Bool.false_or];exact ih
  |a::b::r,_=>
   have:Zoa (a::b::r) [c]=false:=by simp[Zab,Z0c,Zjd]
   rw[this]
   have:(([c]:List UInt8)==a::b::r)=false:=by simp
   rw[this,Bool.false_or];exact ih
theorem Zro:∀ (L M:List (List UInt8)) (c d:UInt8) (r:List UInt8),(∀ t∈L,t.length=2)->(∀ t∈M,t.length=1) ->
  (match(L++M).find? (Zoa · (c::d::r))with|some t=>t.length|none=>0)=if L.contains [c,d]then 2 else if M.contains [c]then 1 else 0
 |[],[],c,d,r,_,_=>rfl
 |[],t::M,c,d,r,hL,hM=>by
  have ih:=Zro [] M c d r hL λx hx=>hM x (by simp[hx]);rw[List.nil_append]at ih⊢
  match t,hM t (by simp)with
  |[a],_=>
   rw[List.find?_cons,List.contains_cons]
   by_cases e:a=c
   subst e;simp[Zab,Z0c,Zjd]
   have:Zoa [a] (c::d::r)=false:=by simp[Zab,Z0c,Zjd,e]
   rw[this]
   have:(([c]:List UInt8)==[a])=false:=by simpa using λh=>e h.symm
   rw[this,Bool.false_or];exact ih
 |t::L,M,c,d,r,hL,hM=>by
  have ih:=Zro L M c d r (λx hx=>hL x (by simp[hx])) hM
  match t,hL t (by simp)with
  |[a,b],_=>
   rw[List.cons_append,List.find?_cons,List.contains_cons]
   by_cases e:a=c/\b=d
   obtain⟨rfl,rfl⟩:=e;simp[Zab,Z0c,Zjd]
   have:Zoa [a,b] (c::d::r)=false:=by simpa[Zab,Z0c,Zjd]using e
   rw[this]
   have:(([c,d]:List UInt8)==[a,b])=false:=by simpa using λh1 h2=>e ⟨h1.symm,h2.symm⟩
   rw[this,Bool.false_or];exact ih
def sg2:List (List UInt8):=[[58,61],[60,62],[60,61],[62,61]]
def sg1:List (List UInt8):=[[60],[62],[61],[43],[45],[42],[40],[41],[44],[59]]
theorem Z0ka(c:UInt8):sgnN [c]=if signsL.contains [c]then 1 else 0:=Zp6 signsL c λt ht=>(Zhm t ht).1
theorem Zo5(c d:UInt8)(r:List UInt8):sgnN (c::d::r)=if sg2.contains [c,d]then 2 else if sg1.contains [c]then 1 else 0:=Zro sg2 sg1 c d r (by decide) (by decide)
theorem Zoi(x:List UInt8):signsL.contains x=(sg2.contains x||sg1.contains x):=by
 show(sg2++sg1).contains x=_
 simp
theorem Zmea{x:List UInt8}(h:x.length≠1):sg1.contains x=false:=by
 rw[Bool.eq_false_iff];intro hc
 have:∀ t∈sg1,t.length=1:=by decide
 exact h (this x (by simpa using hc))
theorem sg2_len{x:List UInt8}(h:x.length≠2):sg2.contains x=false:=by
 rw[Bool.eq_false_iff];intro hc
 have:∀ t∈sg2,t.length=2:=by decide
 exact h (this x (by simpa using hc))
theorem Znda{c d:UInt8}(h:Z9h c=false):Zgi [c,d]=if sg2.contains [c,d]then 4 else 0:=by
 rw[Zdm h,Zoi,Zmea (by simp),Bool.or_false]
theorem Zo7{c d e:UInt8}{r:List UInt8}(h:Z9h c=false):Zgi (c::d::e::r)=0:=by
 rw[Zdm h,Zoi,Zmea (by simp),sg2_len (by simp)];rfl
theorem Znga(s:List UInt8):isP s=if s.length>64 then 0 else Zgi s:=by
 have key:(if(Z0a s).1≠s.length then 0 else(Z0a s).2)=Zgi s:=by
  match s with
  |[]=>rfl
  |c::r=>
   rcases Zd7 c with h|⟨_,h⟩|⟨h,_⟩
   rw[Zpv h,Za5 h]
   by_cases ha:(c::r).all Zqb=true
   rw[if_pos ha,if_neg (by rw[ne_eq,Decidable.not_not,Zpj];exact ha)];rw[if_neg ha,if_pos (by rw[ne_eq,Zpj];exact ha)];rw[Zo6 h,Z94 h]
   by_cases ha:(c::r).all Z9h=true
   have hl:Zse Z9h (c::r)=(c::r).length:=by rw[Zpj];exact ha
   rw[if_pos ha,hl,List.take_length,if_neg (by simp)];rw[if_neg ha,if_pos (by rw[ne_eq,Zpj];exact ha)]
   .match r with
    |[]=>
     rw[Zrm h (by simp[Zab,Z0c,Zjd]),Z0ka,Zdm h];generalize signsL.contains [c]=x
     cases x<;>simp
    |[d]=>
     rw[Znda h]
     cases hp:Zoa [45,45] [c,d]with
     |true=>
      have:c=45/\d=45:=by
       rw[Zab,Zab,Z0c,Bool.and_true,Bool.and_eq_true,beq_iff_eq,beq_iff_eq]at hp;exact⟨hp.1.symm,hp.2.symm⟩
      obtain⟨rfl,rfl⟩:=this
      decide
     |false=>
      rw[Zrm h hp,Zo5];generalize sg2.contains [c,d]=x;generalize sg1.contains [c]=y
      cases x<;>cases y<;>simp
    |d::e::r=>
     rw[Zo7 h]
     cases hp:Zoa [45,45] (c::d::e::r)with
     |true=>
      have:Z0a (c::d::e::r)=(0,0):=by rw[Z8e,if_pos hp]
      rw[this];simp
     |false=>
      rw[Zrm h hp,Zo5];generalize sg2.contains [c,d]=x;generalize sg1.contains [c]=y
      cases x<;>cases y<;>simp
 unfold isP
 by_cases h1:(Z0a s).1=s.length
 rw[<- key,if_neg (show ¬ (Z0a s).1≠s.length by simpa using h1),h1]
 by_cases h2:s.length>64
 rw[if_pos (.inr h2),if_pos h2];rw[if_neg (by simpa using h2),if_neg h2];rw[if_pos (.inl h1)];rw[if_pos h1]at key;rw[<- key];simp
structure XN where
 op:Int
 num:Int
 name:List UInt8
 a:Int
 b:Int
 c:Int
 deriving DecidableEq,Inhabited
structure Sg where
 text:List UInt8
 level:Int
 parts:Int
 deriving DecidableEq,Inhabited
def tabL:List Sg:=[⟨[],0,0⟩,⟨[],10,0⟩,⟨[],10,0⟩,⟨[116,114,117,101],10,0⟩,⟨[102,97,108,115,101],10,0⟩,⟨[45],9,1⟩,⟨[110,111,116],9,1⟩,
 ⟨[42],8,2⟩,⟨[100,105,118],8,2⟩,⟨[109,111,100],8,2⟩,⟨[43],7,2⟩,⟨[45],7,2⟩,⟨[60],6,2⟩,⟨[60,61],6,2⟩,⟨[62],6,2⟩,⟨[62,61],6,2⟩,⟨[61],5,2⟩,⟨[60,62],5,2⟩,
 ⟨[97,110,100],4,2⟩,⟨[111,114],3,2⟩,⟨[120,111,114],2,2⟩,⟨[105,109,112,108,105,101,115],1,2⟩,⟨[105,102],10,3⟩]
def sgIs(t:List UInt8)(p:Int)(s:Sg):Bool:=s.text==t&&s.parts==p && !(s.text==[])
def ofI(t:List UInt8)(p:Int):Option Nat:=tabL.findIdx? (sgIs t p)
def ofP(t:List UInt8)(p:Int):Nat×Bool:=match ofI t p with|some i=>(i,true)|none=>(0,false)
def lvl(op:Nat):Int:=(tabL.getD op ⟨[],0,0⟩).level
theorem Z45{t:List UInt8}{p:Int}{i:Nat}(h:ofI t p=some i):∃ s,tabL[i]?=some s/\s.text=t/\s.parts=p/\t≠[]:=by
 obtain⟨h1,h2,_⟩:=List.findIdx?_eq_some_iff_getElem.1 h;refine⟨tabL[i],List.getElem?_eq_getElem h1,?_⟩;unfold sgIs at h2;simp only[Bool.and_eq_true,beq_iff_eq,Bool.not_eq_true',beq_eq_false_iff_ne]at h2;exact⟨h2.1.1,h2.1.2,by rw[<- h2.1.1];exact h2.2⟩
theorem Z1la{t:List UInt8}{i:Nat}(h:ofI t 0=some i):t=[116,114,117,101]/\i=3\/t=[102,97,108,115,101]/\i=4:=by
 obtain⟨s,h1,h2,h3,h4⟩:=Z45 h
 have hi:i<23:=by rw[List.getElem?_eq_some_iff]at h1;exact h1.1
 have key:∀ i,i<23->∀ s,tabL[i]?=some s->s.parts=0->s.text≠[]->s.text=[116,114,117,101]/\i=3\/s.text=[102,97,108,115,101]/\i=4:=by
  intro i hi s h1 h3
  have:((List.range 23).all λi=>match tabL[i]? with|some s => !(s.parts==0)||s.text==[]||(s.text==[116,114,117,101]&&i==3)||(s.text==[102,97,108,115,101]&&i==4)|none=>true)=true:=by decide +kernel
  have:=List.all_eq_true.1 this i (List.mem_range.2 hi);intro h4;rw[h1]at this;simp only[h3,Bool.or_eq_true,Bool.and_eq_true,beq_iff_eq,h4,or_false]at this;simpa using this
 rw[<- h2];exact key i hi s h1 h3 (by rw[h2];exact h4)
theorem Zlfa{t:List UInt8}{i:Nat}(h:ofI t 2=some i):7<=i/\i<=21/\1<=lvl i/\lvl i<=8/\isP t≠0:=by
 obtain⟨s,h1,h2,h3,_⟩:=Z45 h
 have hi:i<23:=by rw[List.getElem?_eq_some_iff]at h1;exact h1.1
 have key:∀ i,i<23->(tabL[i]?.map (·.parts))=some 2->7<=i/\i<=21/\1<=lvl i/\lvl i<=8/\(tabL[i]?.map λs=>isP s.text)≠some 0:=by decide +kernel
 have:=key i hi (by rw[h1];simp[h3]);rw[h1]at this;rw[<- h2];simpa using this
def Zma(l:List Tk)(i:Nat):Tk:=match l[i]? with
 |some t=>if(isP t.text:Int)=t.kind then t else⟨0,[],0⟩
 |none=>⟨0,[],0⟩
theorem Zss(l:List Tk)(i:Nat):(isP (Zma l i).text:Int)=(Zma l i).kind:=by
 unfold Zma
 split
 split
 assumption
 rfl;rfl
theorem Z5j{l:List Tk}{i:Nat}(h:(Zma l i).kind≠0):i<l.length:=by
 rw[<- Nat.not_le];intro h2;apply h;unfold Zma;rw[List.getElem?_eq_none h2]
structure RS where
 i:Nat
 nodes:List XN
 e:Int
 deriving DecidableEq,Inhabited
def RS.put(r:RS)(n:XN):RS:={ r with nodes:=r.nodes++[n] }
def RS.last(r:RS):Int:=(r.nodes.length:Int)-1
def RS.adv(r:RS):RS:={ r with i:=r.i+1 }
def RS.err(r:RS)(e:Int):RS:={ r with e:=e }
@[simp] theorem RS.put_i(r:RS)(n:XN):(r.put n).i=r.i:=rfl
@[simp] theorem RS.adv_i(r:RS):r.adv.i=r.i+1:=rfl
@[simp] theorem RS.err_i(r:RS)(e:Int):(r.err e).i=r.i:=rfl
abbrev Inner:=Int->RS->Bool×RS
def andThen(x:Bool×RS)(k:RS->Bool×RS):Bool×RS:=if x.1 then k x.2 else(false,x.2)
theorem Zkd(r:RS)(k:RS->Bool×RS):andThen (true,r) k=k r:=rfl
theorem Zpd(r:RS)(k:RS->Bool×RS):andThen (false,r) k=(false,r):=rfl
def Z0l(l:List Tk)(w:List UInt8)(r:RS):Bool×RS:=if(Zma l r.i).kind=0\/(Zma l r.i).text≠w then(false,r.err 80)else(true,r.adv)
def Zws(r:RS)(op num:Int)(name:List UInt8):Bool×RS:=(true,r.adv.put ⟨op,num,name,-1,-1,-1⟩)
def Zzg(t:List UInt8):List UInt8:=if t.dropWhile (· == 48)=[]then[48]else t.dropWhile (· == 48)
def Zkg(r:RS)(t:List UInt8):Bool×RS:=if(Zje (Zzg t)).2≠0 then(false,r.err (Zje (Zzg t)).2)else Zws r 1 (Zje (Zzg t)).1 []
def wIf:List UInt8:=[105,102]
def Zq7:List UInt8:=[116,104,101,110]
def Zs7:List UInt8:=[101,108,115,101]
def Z4m:List UInt8:=[101,110,100,105,102]
def Zxc(l:List Tk)(inner:Inner)(r:RS):Bool×RS:=
 andThen (Z0l l wIf r) λr1=>andThen (inner 1 r1) λa=>andThen (Z0l l Zq7 a) λr2=>andThen (inner 1 r2) λb=>
 andThen (Z0l l Zs7 b) λr3=>andThen (inner 1 r3) λc=>andThen (Z0l l Z4m c) λr4=>(true,r4.put ⟨22,0,[],a.last,b.last,c.last⟩)
def Zuh(l:List Tk)(inner:Inner)(r:RS):Bool×RS:=
 if(Zma l r.i).kind=1 then Zkg r (Zma l r.i).text
 else if(Zma l r.i).kind=2 then Zws r 2 0 (Zma l r.i).text
 else if(Zma l r.i).kind=0 then(false,r.err 80)
 else if(ofP (Zma l r.i).text 1).2 then andThen (inner 9 r.adv) λa=>(true,a.put ⟨(ofP (Zma l r.i).text 1).1,0,[],a.last,-1,-1⟩)
 else if(Zma l r.i).text=[40]then andThen (inner 1 r.adv) (Z0l l [41])
 else if(Zma l r.i).text=wIf then Zxc l inner r
 else if(ofP (Zma l r.i).text 0).2/\(Zma l r.i).kind=3 then Zws r (ofP (Zma l r.i).text 0).1 0 []
 else(false,r.err 80)
def Z35(l:List Tk)(i:Nat):Option Nat:=if(Zma l i).kind=0 then none else ofI (Zma l i).text 2
def Zco(l:List Tk)(inner:Inner)(n:Int):Nat->RS->Bool×RS
 |0,r=>(true,r)
 |m+1,r=>match Z35 l r.i with
  |none=>(true,r)
  |some op=>if lvl op<n then(true,r)else andThen (inner (lvl op+1) r.adv) λa=>Zco l inner n m (a.put ⟨op,0,[],r.last,a.last,-1⟩)
def Zgb(l:List Tk):Nat->Inner
 |0,_,r=>(false,r)
 |f+1,n,r=>andThen (Zuh l (Zgb l f) r) (Zco l (Zgb l f) n (l.length+1))
theorem Zkfa{l:List Tk}{i op:Nat}(h:Z35 l i=some op):i<l.length:=by
 unfold Z35 at h
 split at h
 cases h;exact Z5j (by assumption)
theorem Zzla{l:List Tk}{i:Nat}:Z35 l i=ofI (Zma l i).text 2:=by
 unfold Z35
 split
 .rename_i h
  cases ho:ofI (Zma l i).text 2 with
  |none=>rfl
  |some op=>
   have h1:=(Zlfa ho).2.2.2.2;have h2:=Zss l i;rw[h]at h2;omega
 rfl
theorem op_pos{l:List Tk}{i op:Nat}(h:Z35 l i=some op):7<=op/\op<=21/\1<=lvl op/\lvl op<=8:=by
 rw[Zzla]at h;obtain⟨h1,h2,h3,h4,_⟩:=Zlfa h;exact⟨h1,h2,h3,h4⟩
theorem isP_dig{t:List UInt8}(h:isP t=1):t≠[]/\t.all Zqb=true:=by
 rw[Znga]at h
 split at h
 cases h
 .match t with
  |[]=>cases h
  |c::r=>
   refine⟨by simp,?_⟩
   rcases Zd7 c with hc|⟨_,hc⟩|⟨hc,_⟩
   rw[Za5 hc]at h
   split at h
   assumption
   cases h;rw[Z94 hc]at h
   split at h
   split at h<;>cases h
   cases h;rw[Zdm hc]at h
   split at h<;>cases h
end Go.Hs
end

section
namespace Go.Hs
structure Bal(l:List Tk)(k:Nat)(r r':RS):Prop where
 up:r.i<=r'.i
 inn:r.i<=l.length->r'.i<=l.length
 cnt:r'.nodes.length+r.i+k<=r.nodes.length+r'.i
theorem Bal.refl(l:List Tk)(r:RS):Bal l 0 r r:=⟨Nat.le_refl _,id,Nat.le_refl _⟩
theorem Bal.trans{l:List Tk}{k k':Nat}{r r' r'':RS}(h:Bal l k r r')(h':Bal l k' r' r''):Bal l (k+k') r r'':=
 ⟨Nat.le_trans h.up h'.up,λx=>h'.inn (h.inn x),by have:=h.cnt;have:=h'.cnt;omega⟩
theorem Bal.weak{l:List Tk}{k k':Nat}{r r':RS}(h:Bal l k r r')(hk:k'<=k):Bal l k' r r':=⟨h.up,h.inn,by have:=h.cnt;omega⟩
theorem Bal.adv{l:List Tk}{r:RS}(h:r.i<l.length):Bal l 1 r r.adv:=⟨Nat.le_succ _,λ_=>h,by show r.nodes.length+r.i+1<=r.nodes.length+(r.i+1);omega⟩
theorem Bal.err(l:List Tk)(r:RS)(e:Int):Bal l 0 r (r.err e):=⟨Nat.le_refl _,id,Nat.le_refl _⟩
theorem Bal.put{l:List Tk}{k:Nat}{r r':RS}(h:Bal l (k+1) r r')(n:XN):Bal l k r (r'.put n):=
 ⟨h.up,h.inn,by have:=h.cnt;show(r'.nodes++[n]).length+r.i+k<=_;rw[List.length_append,List.length_singleton];show _<=r.nodes.length+r'.i;omega⟩
def Bals(l:List Tk)(inner:Inner):Prop:=∀ n r,Bal l 0 r (inner n r).2
theorem Bal.then{l:List Tk}{r:RS}{x:Bool×RS}{k:RS->Bool×RS}(h:Bal l 0 r x.2)(hk:x.1=true->Bal l 0 r (k x.2).2):Bal l 0 r (andThen x k).2:=by
 obtain⟨b,r1⟩:=x;cases b;exact h;exact hk rfl
theorem Zrg(l:List Tk)(w:List UInt8)(r:RS):Bal l 0 r (Z0l l w r).2/\((Z0l l w r).1=true->Bal l 1 r (Z0l l w r).2):=by
 unfold Z0l
 split
 exact⟨Bal.err _ _ _,λh=>by cases h⟩;rename_i h;have hk:(Zma l r.i).kind≠0:=λhh=>h (.inl hh);have:=Bal.adv (Z5j hk);exact⟨this.weak (Nat.zero_le _),λ_=>this⟩
theorem Zeo{l:List Tk}{r:RS}(h:(Zma l r.i).kind≠0)(op num:Int)(name:List UInt8):Bal l 0 r (Zws r op num name).2:=(Bal.adv (Z5j h)).put _
theorem Zd0{l:List Tk}{r:RS}(h:(Zma l r.i).kind≠0)(t:List UInt8):Bal l 0 r (Zkg r t).2:=by
 unfold Zkg
 split
 exact Bal.err _ _ _;exact Zeo h _ _ _
theorem Zjt{l:List Tk}{inner:Inner}(h:Bals l inner)(r:RS):Bal l 0 r (Zxc l inner r).2:=by
 unfold Zxc;have e1:=Zrg l wIf r;refine Bal.then e1.1 λh1=>?_;have b1:=e1.2 h1;generalize(Z0l l wIf r).2=r1 at b1⊢;have b2:=b1.trans (h 1 r1);refine Bal.then (b2.weak (Nat.zero_le _)) λ_=>?_;generalize(inner 1 r1).2=a at b2⊢;have e2:=Zrg l Zq7 a;refine Bal.then ((b2.trans e2.1).weak (Nat.zero_le _)) λh2=>?_;have b3:=b2.trans (e2.2 h2);generalize(Z0l l Zq7 a).2=r2 at b3⊢;have b4:=b3.trans (h 1 r2);refine Bal.then (b4.weak (Nat.zero_le _)) λ_=>?_;generalize(inner 1 r2).2=b at b4⊢;have e3:=Zrg l Zs7 b;refine Bal.then ((b4.trans e3.1).weak (Nat.zero_le _)) λh3=>?_;have b5:=b4.trans (e3.2 h3);generalize(Z0l l Zs7 b).2=r3 at b5⊢;have b6:=b5.trans (h 1 r3);refine Bal.then (b6.weak (Nat.zero_le _)) λ_=>?_;generalize(inner 1 r3).2=c at b6⊢;have e4:=Zrg l Z4m c;refine Bal.then ((b6.trans e4.1).weak (Nat.zero_le _)) λh4=>?_;have b7:=b6.trans (e4.2 h4);exact(b7.put _).weak (Nat.zero_le _)
theorem Zor{l:List Tk}{inner:Inner}(h:Bals l inner)(r:RS):Bal l 0 r (Zuh l inner r).2:=by
 unfold Zuh
 split
 rename_i hk;exact Zd0 (by rw[hk];decide) _
 split
 rename_i hk;exact Zeo (by rw[hk];decide) _ _ _
 split
 exact Bal.err _ _ _;rename_i h0;have ba:=Bal.adv (Z5j h0)
 split
 have b1:=ba.trans (h 9 r.adv);exact Bal.then (b1.weak (Nat.zero_le _)) λ_=>b1.put _
 split
 have b1:=ba.trans (h 1 r.adv);exact Bal.then (b1.weak (Nat.zero_le _)) λ_=>(b1.trans (Zrg l [41] _).1).weak (Nat.zero_le _)
 split
 exact Zjt h r
 split
 exact Zeo h0 _ _ _;exact Bal.err _ _ _
theorem Z5u{l:List Tk}{inner:Inner}(h:Bals l inner)(n:Int):∀ (m:Nat) (r:RS),Bal l 0 r (Zco l inner n m r).2
 |0,r=>Bal.refl l r
 |m+1,r=>by
  rw[Zco]
  cases ho:Z35 l r.i with
  |none=>exact Bal.refl l r
  |some op=>
   simp only
   split
   exact Bal.refl l r;have b1:=(Bal.adv (Zkfa ho)).trans (h (lvl op+1) r.adv);exact Bal.then (b1.weak (Nat.zero_le _)) λ_=>((b1.put _).trans (Z5u h n m _)).weak (Nat.zero_le _)
theorem Z5d(l:List Tk):∀ f,Bals l (Zgb l f)
 |0=>λ_ r=>Bal.refl l r
 |f+1=>λn r=>by
  rw[Zgb];have b1:=Zor (Z5d l f) r;exact Bal.then b1 λ_=>(b1.trans (Z5u (Z5d l f) n _ _)).weak (Nat.zero_le _)
def Zi7(l:List Tk)(r:RS):Prop:=r.i<=l.length/\r.nodes.length<=r.i
theorem Bal.ok{l:List Tk}{k:Nat}{r r':RS}(h:Bal l k r r')(hr:Zi7 l r):Zi7 l r':=⟨h.inn hr.1,by have:=h.cnt;have:=h.up;have:=hr.2;omega⟩
inductive X where
 |leaf (op num:Int) (name:List UInt8)
 |un (op:Int) (a:X)
 |bin (op:Int) (a b:X)
 |ite (a b c:X)
 deriving DecidableEq,Inhabited
namespace X
def size:X->Nat
 |leaf .. => 1
 |un _ a=>a.size+1
 |bin _ a b=>a.size+b.size+1
 |ite a b c=>a.size+b.size+c.size+1
def depth:X->Nat
 |leaf .. => 1
 |un _ a=>a.depth+1
 |bin _ a b=>max a.depth b.depth+1
 |ite a b c=>max (max a.depth b.depth) c.depth+1
end X
def Zxg(n:XN):Bool:=
 if n.op<1\/n.op>22\/n.num<0 then false else if n.op=2 then n.num==0&&isP n.name==2 else n.name==[]&&(n.op==1||n.num==0)
namespace X
def ok:X->Bool
 |leaf op num name=>Zxg ⟨op,num,name,-1,-1,-1⟩&&decide (op<=4)
 |un op a=>decide (5<=op)&&decide (op<=6)&&a.ok
 |bin op a b=>decide (7<=op)&&decide (op<=21)&&a.ok&&b.ok
 |ite a b c=>a.ok&&b.ok&&c.ok
def row:X->Int->List XN
 |leaf op num name,_=>[⟨op,num,name,-1,-1,-1⟩]
 |un op a,k=>a.row k++[⟨op,0,[],k+a.size-1,-1,-1⟩]
 |bin op a b,k=>a.row k++b.row (k+a.size)++[⟨op,0,[],k+a.size-1,k+a.size+b.size-1,-1⟩]
 |ite a b c,k=>a.row k++b.row (k+a.size)++c.row (k+a.size+b.size)++[⟨22,0,[],k+a.size-1,k+a.size+b.size-1,k+a.size+b.size+c.size-1⟩]
theorem row_len:∀ (x:X) (k:Int),(x.row k).length=x.size
 |leaf ..,_=>rfl
 |un _ a,k=>by simp[row,size,row_len a]
 |bin _ a b,k=>by simp[row,size,row_len a,row_len b];omega
 |ite a b c,k=>by simp[row,size,row_len a,row_len b,row_len c];omega
theorem size_pos:∀ x:X,0<x.size
 |leaf .. => by simp[size]
 |un .. => by simp[size]
 |bin .. => by simp[size]
 |ite .. => by simp[size]
def top:X->Int->XN
 |leaf op num name,_=>⟨op,num,name,-1,-1,-1⟩
 |un op a,k=>⟨op,0,[],k+a.size-1,-1,-1⟩
 |bin op a b,k=>⟨op,0,[],k+a.size-1,k+a.size+b.size-1,-1⟩
 |ite a b c,k=>⟨22,0,[],k+a.size-1,k+a.size+b.size-1,k+a.size+b.size+c.size-1⟩
end X
theorem Zcz{op:Int}(h:3<=op/\op<=22)(a b c:Int):Zxg ⟨op,0,[],a,b,c⟩=true:=by
 unfold Zxg;rw[if_neg (by simp;omega),if_neg (by simp;omega)];simp
theorem Zaka{n:XN}(h:Zxg n=true)(h3:n.op≠1):n.num=0/\(n.op≠2->n.name=[])/\1<=n.op/\n.op<=22:=by
 unfold Zxg at h
 split at h
 cases h;rename_i h0;simp only[not_or,Int.not_lt]at h0
 split at h
 rename_i h2;simp only[Bool.and_eq_true,beq_iff_eq]at h;exact⟨h.1,λhh=>absurd h2 hh,by omega,by omega⟩;simp only[Bool.and_eq_true,beq_iff_eq,Bool.or_eq_true]at h;exact⟨h.2.resolve_left h3,λ_=>h.1,by omega,by omega⟩
theorem Zwk{n:XN}(h:Zxg n=true):1<=n.op/\n.op<=22:=by
 unfold Zxg at h
 split at h
 cases h;rename_i h0;simp only[not_or,Int.not_lt]at h0;omega
def Z5(op:Int):Nat:=if op<=4 then 0 else if op<=6 then 1 else if op<=21 then 2 else 3
def Zgc(l:List (Int×Int)):List Int:=[(l.map (·.1)).getD 0 (-1),(l.map (·.1)).getD 1 (-1),(l.map (·.1)).getD 2 (-1)]
def Zfd(l:List (Int×Int)):Int:=l.foldl (λd p=>max d p.2) 0
def Zel(i:Int)(n:XN)(opn:List (Int×Int)):Option (List (Int×Int)):=
 if Zxg n=false then none else if opn.length<Z5 n.op then none
 else if Zgc (opn.drop (opn.length-Z5 n.op))≠[n.a,n.b,n.c]then none
 else some (opn.take (opn.length-Z5 n.op)++[(i,Zfd (opn.drop (opn.length-Z5 n.op))+1)])
def Zfk:List XN->Int->List (Int×Int)->Option (List (Int×Int))
 |[],_,opn=>some opn
 |n::r,i,opn=>match Zel i n opn with
  |some o=>Zfk r (i+1) o
  |none=>none
def Zod(l:List XN):Int:=match Zfk l 0 []with
 |some [x]=>x.2
 |_=>0
def Zzp:Int->List X->List XN
 |_,[]=>[]
 |k,x::r=>x.row k++Zzp (k+x.size) r
def Z2e(F:List X):Nat:=(F.map X.size).sum
def Zlb:Int->List X->List (Int×Int)
 |_,[]=>[]
 |k,x::r=>(k+x.size-1,(x.depth:Int))::Zlb (k+x.size) r
theorem Zyk(x:X)(r:List X):Z2e (x::r)=x.size+Z2e r:=by simp[Z2e]
theorem Zjea(a b:List X):Z2e (a++b)=Z2e a+Z2e b:=by simp[Z2e]
theorem Zas:∀ (a b:List X) (k:Int),Zzp k (a++b)=Zzp k a++Zzp (k+Z2e a) b
 |[],b,k=>by simp[Zzp,Z2e]
 |x::a,b,k=>by
  rw[List.cons_append,Zzp,Zzp,Zas a b,List.append_assoc,Zyk]
  congr 3;omega
theorem Z5h:∀ (a b:List X) (k:Int),Zlb k (a++b)=Zlb k a++Zlb (k+Z2e a) b
 |[],b,k=>by simp[Zlb,Z2e]
 |x::a,b,k=>by
  rw[List.cons_append,Zlb,Zlb,Z5h a b,List.cons_append,Zyk]
  congr 3;omega
theorem Z4h:∀ (F:List X) (k:Int),(Zlb k F).length=F.length
 |[],_=>rfl
 |x::r,k=>by simp[Zlb,Z4h r]
theorem Zkm:∀ (F:List X) (k:Int),(Zzp k F).length=Z2e F
 |[],_=>rfl
 |x::r,k=>by rw[Zzp,List.length_append,X.row_len,Zkm r,Zyk]
theorem Z57{F:List X}{p:Nat}(h:p<=F.length):∃ A B,F=A++B/\B.length=p:=⟨F.take (F.length-p),F.drop (F.length-p),(List.take_append_drop _ _).symm,by simp;omega⟩
theorem Zwv{F:List X}{n:XN}{o:List (Int×Int)}(hF:∀ x∈F,x.ok=true)(h:Zel (Z2e F) n (Zlb 0 F)=some o):
  ∃ F',(∀ x∈F',x.ok=true)/\Zzp 0 F'=Zzp 0 F++[n]/\o=Zlb 0 F':=by
 unfold Zel at h;rw[Z4h]at h
 split at h
 cases h;rename_i hw
 have hw:Zxg n=true:=by simpa using hw
 have hrg:=Zwk hw
 split at h
 cases h;rename_i hlen;obtain⟨A,B,rfl,hB⟩:=Z57 (F:=F) (p:=Z5 n.op) (by omega)
 have hAl:(A++B).length-Z5 n.op=A.length:=by rw[List.length_append,hB];omega
 have hdrop:(Zlb 0 (A++B)).drop A.length=Zlb (Z2e A) B:=by
  rw[Z5h,List.drop_left' (Z4h _ _),Int.zero_add]
 have htake:(Zlb 0 (A++B)).take A.length=Zlb 0 A:=by
  rw[Z5h,List.take_left' (Z4h _ _)]
 rw[hAl,hdrop,htake]at h
 split at h
 cases h;rename_i hpl;simp only[ne_eq,Decidable.not_not]at hpl;simp only[Option.some.injEq]at h;have hokA:∀ x∈A,x.ok=true:=λx hx=>hF x (by simp[hx])
 have fin:∀ x:X,x.ok=true->x.row (Z2e A)=Zzp (Z2e A) B++[n]->(x.depth:Int)=Zfd (Zlb (Z2e A) B)+1 ->
   ∃ F',(∀ x∈F',x.ok=true)/\Zzp 0 F'=Zzp 0 (A++B)++[n]/\o=Zlb 0 F':=by
  intro x hx hr hd;refine⟨A++[x],λy hy=>?_,?_,?_⟩
  rcases List.mem_append.1 hy with h1|h1
  exact hokA y h1;rw[List.mem_singleton.1 h1];exact hx;rw[Zas,Zas,List.append_assoc,Int.zero_add,<- hr];simp[Zzp];rw[<- h,Z5h,Zlb,Zlb,hd];have h1:(x.row (Z2e A)).length=x.size:=X.row_len _ _;rw[hr,List.length_append,Zkm,List.length_singleton]at h1;rw[Zjea]
  congr 4
  omega
 obtain⟨op,num,name,a,b,c⟩:=n;simp only at hB hpl hrg;unfold Z5 at hB
 split at hB
 rename_i h4;obtain rfl:B=[]:=List.length_eq_zero_iff.1 hB;simp only[Zgc,Zlb,List.map_nil,List.getD_nil,List.cons.injEq,and_true]at hpl;obtain⟨rfl,rfl,rfl⟩:=hpl;exact fin (.leaf op num name) (by unfold X.ok;rw[hw];simp;omega) rfl rfl;rename_i h4;have hn:=Zaka hw (show op≠1 by omega);simp only at hn;obtain⟨rfl,hnm,_⟩:=hn;obtain rfl:=hnm (by omega)
 split at hB
 rename_i h6;obtain⟨x,rfl⟩:=List.length_eq_one_iff.1 hB;simp only[Zgc,Zlb,List.map_cons,List.map_nil,List.getD_cons_zero,List.getD_cons_succ,List.getD_nil,List.cons.injEq,and_true]at hpl;obtain⟨rfl,rfl,rfl⟩:=hpl;refine fin (.un op x) (by unfold X.ok;rw[hF x (by simp)];simp;omega) ?_ ?_;simp[X.row,Zzp];simp[X.depth,Zlb,Zfd];rename_i h6
 split at hB
 rename_i h21
 obtain⟨x,y,rfl⟩:∃ x y,B=[x,y]:=by
  match B,hB with
  |[x,y],_=>exact⟨x,y,rfl⟩
 simp only[Zgc,Zlb,List.map_cons,List.map_nil,List.getD_cons_zero,List.getD_cons_succ,List.getD_nil,List.cons.injEq,and_true]at hpl;obtain⟨rfl,rfl,rfl⟩:=hpl;refine fin (.bin op x y) (by unfold X.ok;rw[hF x (by simp),hF y (by simp)];simp;omega) ?_ ?_;simp[X.row,Zzp];simp[X.depth,Zlb,Zfd];omega;rename_i h21
 obtain⟨x,y,z,rfl⟩:∃ x y z,B=[x,y,z]:=by
  match B,hB with
  |[x,y,z],_=>exact⟨x,y,z,rfl⟩
 simp only[Zgc,Zlb,List.map_cons,List.map_nil,List.getD_cons_zero,List.getD_cons_succ,List.cons.injEq,and_true]at hpl;obtain⟨rfl,rfl,rfl⟩:=hpl
 obtain rfl:op=22:=by omega
 refine fin (.ite x y z) (by unfold X.ok;rw[hF x (by simp),hF y (by simp),hF z (by simp)];rfl) ?_ ?_;simp[X.row,Zzp];simp[X.depth,Zlb,Zfd];omega
theorem Zgr:∀ (l:List XN) (F:List X) (opn:List (Int×Int)),(∀ x∈F,x.ok=true)->Zfk l (Z2e F) (Zlb 0 F)=some opn ->
  ∃ F',(∀ x∈F',x.ok=true)/\Zzp 0 F'=Zzp 0 F++l/\opn=Zlb 0 F'
 |[],F,opn,hF,h=>⟨F,hF,by simp,by simpa[Zfk]using h.symm⟩
 |n::r,F,opn,hF,h=>by
  rw[Zfk]at h
  cases hs:Zel (Z2e F) n (Zlb 0 F)with
  |none=>rw[hs]at h;cases h
  |some o=>
   rw[hs]at h;obtain⟨F1,h1,h2,rfl⟩:=Zwv hF hs
   have hsz:(Z2e F:Int)+1=Z2e F1:=by
    have:=congrArg List.length h2;rw[List.length_append,Zkm,Zkm,List.length_singleton]at this;omega
   simp only at h;rw[hsz]at h;obtain⟨F',h3,h4,h5⟩:=Zgr r F1 opn h1 h;exact⟨F',h3,by rw[h4,h2];simp,h5⟩
theorem Zhaa{l:List XN}(h:Zod l≠0):∃ x:X,x.ok=true/\l=x.row 0:=by
 unfold Zod at h
 split at h
 .rename_i y hy
  obtain⟨F,h1,h2,h3⟩:=Zgr l [] _ (by simp) (by simpa[Z2e,Zlb]using hy)
  match F,h3 with
  |[x],_=>exact⟨x,h1 x (by simp),by simpa[Zzp]using h2.symm⟩
  |[],h3=>simp[Zlb]at h3
  |_::_::_,h3=>simp[Zlb]at h3
 exact absurd rfl h
def Zwb(l:List Tk):List XN×Int×Int:=if(Zgb l (l.length+1) 1 ⟨0,[],0⟩).1=false then([],(Zgb l (l.length+1) 1 ⟨0,[],0⟩).2.i,(Zgb l (l.length+1) 1 ⟨0,[],0⟩).2.e)
 else if Zod (Zgb l (l.length+1) 1 ⟨0,[],0⟩).2.nodes>64 then([],0,3)else((Zgb l (l.length+1) 1 ⟨0,[],0⟩).2.nodes,(Zgb l (l.length+1) 1 ⟨0,[],0⟩).2.i,0)
def Zcg(s:List UInt8):List XN×Int×Int:=
 if(Zra s).2.2≠0 then([],(Zra s).2.1,(Zra s).2.2)
 else if(Zwb (Zra s).1).2.2=3 then([],0,3)
 else if(Zwb (Zra s).1).2.2=0/\(Zwb (Zra s).1).2.1=((Zra s).1.length:Nat)then((Zwb (Zra s).1).1,0,0)
 else([],if(Zwb (Zra s).1).2.1=((Zra s).1.length:Nat)then(s.length:Int)else((Zra s).1.getD (Zwb (Zra s).1).2.1.toNat ⟨0,[],0⟩).pos,if(Zwb (Zra s).1).2.2=0 then 80 else(Zwb (Zra s).1).2.2)
theorem Zmh{l:List Tk}:0<=(Zwb l).2.1/\(Zwb l).2.1<=(l.length:Nat):=by
 have hok:=((Z5d l (l.length+1) 1 ⟨0,[],0⟩).ok ⟨Nat.zero_le _,Nat.le_refl _⟩).1;unfold Zwb
 split
 exact⟨Int.natCast_nonneg _,Int.ofNat_le.2 hok⟩
 split
 exact⟨Int.le_refl _,Int.natCast_nonneg _⟩;exact⟨Int.natCast_nonneg _,Int.ofNat_le.2 hok⟩
theorem Zjv{l:List Tk}(h:(Zwb l).2.2≠0):(Zwb l).1=[]:=by
 unfold Zwb at h⊢
 split
 rfl
 split
 rfl;rename_i h1 h2;rw[if_neg h1,if_neg h2]at h;exact absurd rfl h
structure ASt where
 kind:Int
 name:List UInt8
 x:List XN
 deriving DecidableEq,Inhabited
def Zcl:List UInt8:=[101,109,105,116]
def Zld(l:List Tk)(i:Nat):List UInt8:=match l[i]? with|some t=>t.text|none=>[]
def Z9l(l:List Tk)(i:Nat):Bool:=match l[i]? with|some t=>t.kind==2|none=>false
theorem Zeu{l:List Tk}{i:Nat}{t:Tk}(h:l[i]?=some t):Zld l i=t.text:=by unfold Zld;rw[h]
theorem Z8m{l:List Tk}{i:Nat}(h:l.length<=i):Zld l i=[]:=by unfold Zld;rw[List.getElem?_eq_none h]
theorem Z6q{l:List Tk}{i:Nat}{t:Tk}(h:l[i]?=some t):Z9l l i=(t.kind==2):=by unfold Z9l;rw[h]
theorem Z4k{l:List Tk}{i:Nat}(h:l.length<=i):Z9l l i=false:=by unfold Z9l;rw[List.getElem?_eq_none h]
def Zvd(l:List Tk):List (List UInt8)->Nat->Bool×Nat
 |[],i=>(true,i)
 |w::r,i=>if Zld l i=w then Zvd l r (i+1)else(false,i)
def Z4r(l:List Tk)(s:ASt)(ws:List (List UInt8))(i:Nat):ASt×Int×Int:=
 ((s,((Zvd l ws i).2:Int),if(Zvd l ws i).1=true then 0 else 110))
def Zuv(l:List Tk)(k:Int)(nm:List UInt8)(ws:List (List UInt8))(i:Nat):ASt×Int×Int:=
 if(Zwb (l.drop i)).2.2≠0 then(⟨k,nm,[]⟩,(i:Int)+(Zwb (l.drop i)).2.1,(Zwb (l.drop i)).2.2)
 else Z4r l ⟨k,nm,(Zwb (l.drop i)).1⟩ ws (i+(Zwb (l.drop i)).2.1.toNat)
def Z3f(l:List Tk)(k:Int)(w:List UInt8)(ws:List (List UInt8))(i:Nat):ASt×Int×Int:=
 if Z9l l i=false then(⟨k,[],[]⟩,(i:Int),110)
 else if Zld l (i+1)≠w then(⟨k,Zld l i,[]⟩,((i+1:Nat):Int),110)
 else if k=2/\Zld l (i+2)=[41]then Z4r l ⟨k,Zld l i,[]⟩ ws (i+2)
 else Zuv l k (Zld l i) ws (i+2)
def Zpe(l:List Tk)(i:Nat):ASt×Int×Int:=
 if Zld l i=Zcl then Z3f l 2 [40] [[41],[59]] (i+1)else Z3f l 1 [58,61] [[59]] i
theorem Zj5{l:List Tk}:∀ (ws:List (List UInt8)) (i:Nat),i<=(Zvd l ws i).2
 |[],i=>Nat.le_refl _
 |w::r,i=>by
  rw[Zvd]
  split
  exact Nat.le_trans (Nat.le_succ i) (Zj5 r (i+1));exact Nat.le_refl _
theorem Z9m{l:List Tk}{i:Nat}(h:Zld l i≠[]):i<l.length:=by
 refine Classical.byContradiction λh2=>h (Z8m (by omega))
theorem Zi5{l:List Tk}:∀ (ws:List (List UInt8)) (i:Nat),(∀ w∈ws,w≠[])->(Zvd l ws i).1=true->(Zvd l ws i).2=i+ws.length/\(ws≠[]->(Zvd l ws i).2<=l.length)
 |[],i,_,_=>⟨rfl,λh=>absurd rfl h⟩
 |w::r,i,hw,h=>by
  rw[Zvd]at h⊢
  split at h
  .rename_i h1
   rw[if_pos h1];obtain⟨h2,h3⟩:=Zi5 r (i+1) (λx hx=>hw x (List.mem_cons_of_mem _ hx)) h;refine⟨by rw[h2,List.length_cons];omega,λ_=>?_⟩;have h4:=Z9m (l:=l) (i:=i) (by rw[h1];exact hw w (List.mem_cons_self ..))
   cases r with
   |nil=>rw[h2];exact h4
   |cons a b=>exact h3 (by simp)
  cases h
structure StB(l:List Tk)(i:Nat)(r:ASt×Int×Int):Prop where
 ge:(i:Int)<=r.2.1
 ok:r.2.2=0->(i:Int)<r.2.1/\r.2.1<=l.length
theorem Zkea{l:List Tk}{s:ASt}{ws:List (List UInt8)}{i j:Nat}(hw:∀ w∈ws,w≠[])(hn:ws≠[])(hij:i<=j):StB l i (Z4r l s ws j):=by
 have h1:=Zj5 (l:=l) ws j;refine⟨by show(i:Int)<=((Zvd l ws j).2:Int);omega,λh=>?_⟩
 have ht:(Zvd l ws j).1=true:=by
  refine Classical.byContradiction λh2=>?_;have h:(if(Zvd l ws j).1=true then(0:Int)else 110)=0:=h;rw[if_neg h2]at h;cases h
 obtain⟨h3,h4⟩:=Zi5 ws j hw ht;have h5:=h4 hn;have h6:0<ws.length:=List.length_pos_iff.2 hn
 show(i:Int)<((Zvd l ws j).2:Int)/\((Zvd l ws j).2:Int)<=l.length
 omega
theorem exprS_b{l:List Tk}{k:Int}{nm:List UInt8}{ws:List (List UInt8)}{i j:Nat}(hw:∀ w∈ws,w≠[])(hn:ws≠[])(hij:i<=j):StB l i (Zuv l k nm ws j):=by
 unfold Zuv;have hb:=(Zmh (l:=l.drop j)).1
 split
 rename_i h;exact⟨by show(i:Int)<=(j:Int)+(Zwb (l.drop j)).2.1;omega,λh2=>absurd h2 h⟩;exact Zkea hw hn (by omega)
theorem Z9da{l:List Tk}{k:Int}{w:List UInt8}{ws:List (List UInt8)}{i j:Nat}(hw:∀ w∈ws,w≠[])(hn:ws≠[])(hij:i<=j):StB l i (Z3f l k w ws j):=by
 unfold Z3f
 split
 exact⟨by show(i:Int)<=(j:Int);omega,λh=>by cases h⟩
 split
 exact⟨by show(i:Int)<=((j+1:Nat):Int);omega,λh=>by cases h⟩
 split
 exact Zkea hw hn (by omega);exact exprS_b hw hn (by omega)
theorem Z3r(l:List Tk)(i:Nat):StB l i (Zpe l i):=by
 unfold Zpe
 split
 exact Z9da (by decide) (by decide) (by omega);exact Z9da (by decide) (by decide) (Nat.le_refl _)
def Zzq(l:List Tk)(n:Nat)(i:Int):Int:=if i<l.length then(l.getD i.toNat ⟨0,[],0⟩).pos else n
def Zgq(l:List Tk)(n:Nat):Nat->Nat->List ASt->List ASt×Int×Int
 |0,_,acc=>(acc,0,0)
 |f+1,i,acc=>
  if l.length<=i then(acc,0,0)
  else if acc.length=512 then([],Zzq l n i,3)
  else if(Zpe l i).2.2≠0 then([],Zzq l n (Zpe l i).2.1,(Zpe l i).2.2)
  else Zgq l n f (Zpe l i).2.1.toNat (acc++[(Zpe l i).1])
def Zkt(s:List UInt8):List ASt×Int×Int:=
 if(Zra s).2.2≠0 then([],(Zra s).2.1,(Zra s).2.2)else Zgq (Zra s).1 s.length ((Zra s).1.length+1) 0 []
section
structure VP where
 name:List UInt8
 kind:Int
 region:Int
 of:Int
 entry:List UInt8
 exit:List UInt8
 defers:List (List UInt8)
 sub:List UInt8
structure WP where
 name:List UInt8
 source:Int
 target:Int
 triggers:List (List UInt8)
 after:Int
 guard:List UInt8
 effect:List UInt8
 kind:Int
structure PM where
 name:List UInt8
 vars:List (List UInt8×Int)
 events:List (List UInt8)
 regions:List (List UInt8×Int)
 vertices:List VP
 ways:List WP
def vx0:VP:=⟨[],0,0,0,[],[],[],[]⟩
def wy0:WP:=⟨[],0,0,[],0,[],[],0⟩
namespace PM
variable(m:PM)
def vx(v:Int):VP:=m.vertices.getD v.toNat vx0
def wy(i:Int):WP:=m.ways.getD i.toNat wy0
def ow(r:Int):Int:=(m.regions.getD r.toNat ([],0)).2
def around(v:Int):Int:=if 0<=(m.vx v).of then(m.vx v).of else m.ow (m.vx v).region
def upsF:Nat->Int->List Int
 |0,_=>[]
 |f+1,v=>if m.around v<0 then[]else m.around v::upsF f (m.around v)
def ups(v:Int):List Int:=m.upsF 65 v
def withinB(v r:Int):Bool:=(v::m.ups v).any λu=>(m.vx u).region==r
def inB(v s:Int):Bool:=(m.ups v).contains s
def regU(v s:Int):Int:=match(v::m.ups v).find? (λu=>m.around u==s)with|some u=>(m.vx u).region|none => -1
end PM
def Zdl:List Int->List Int->Bool
 |_,[]=>true
 |acc,r::t=>decide (0<=r) && !acc.contains r&&Zdl (acc++[r]) t
def Zfi:List Int->List Int->List Int
 |acc,[]=>acc
 |acc,r::t=>Zfi (if 0<=r/\acc.contains r=false then acc++[r]else acc) t
theorem Z8r:∀ (l acc:List Int),(Zfi acc l).length<=acc.length+l.length
 |[],acc=>Nat.le_refl _
 |r::t,acc=>by
  rw[Zfi];have:=Z8r t (if 0<=r/\acc.contains r=false then acc++[r]else acc)
  split at this
  rename_i h;rw[if_pos h];simp only[List.length_append,List.length_cons,List.length_nil]at this⊢;omega;rename_i h;rw[if_neg h];simp only[List.length_cons]at this⊢;omega
theorem Zkn:∀ (l acc:List Int),decide ((Zfi acc l).length=acc.length+l.length)=Zdl acc l
 |[],acc=>by simp[Zfi,Zdl]
 |r::t,acc=>by
  rw[Zfi,Zdl]
  by_cases h:0<=r/\acc.contains r=false
  rw[if_pos h,h.2,decide_eq_true h.1];have:=Zkn t (acc++[r]);rw[<- Zkn t (acc++[r])];simp only[List.length_append,List.length_cons,List.length_nil,Nat.zero_add,Bool.not_false,Bool.true_and,Nat.add_assoc,Nat.add_comm 1];rw[if_neg h];have h1:=Z8r t acc
  have h2:(decide (0<=r) && !acc.contains r)=false:=by
   cases hr:acc.contains r with
   |true=>simp
   |false=>rw[decide_eq_false (λq=>h ⟨q,hr⟩)];rfl
  rw[h2,Bool.false_and];refine decide_eq_false ?_;rw[List.length_cons];omega
namespace PM
variable(m:PM)
structure Acy:Prop where
 rng:∀ v:Int,0<=v->v<m.vertices.length->m.around v = -1\/(0<=m.around v/\m.around v<m.vertices.length)
 dep:∀ v:Int,0<=v->v<m.vertices.length->(m.ups v).length<=64
 pt:∀ v:Int,0<=v->v<m.vertices.length->0<=(m.vx v).of->(m.vx v).region = -1
 rg:∀ v:Int,0<=v->v<m.vertices.length->(m.vx v).of<0->0<=(m.vx v).region/\(m.vx v).region<m.regions.length
variable{m}
theorem Z5m:∀ (f k:Nat) (v:Int),(m.upsF f v).length<f->m.upsF (f+k) v=m.upsF f v
 |0,_,_,h=>absurd h (Nat.not_lt_zero _)
 |f+1,k,v,h=>by
  rw[show f+1+k=(f+k)+1 by omega,upsF,upsF];rw[upsF]at h
  split
  rfl;rename_i h1;rw[if_neg h1,List.length_cons]at h;rw[Z5m f k _ (by omega)]
theorem Acy.ups_nil{v:Int}(h:m.around v<0):m.ups v=[]:=by
 rw[ups,upsF,if_pos h]
theorem Acy.ups_cons(a:m.Acy){v:Int}(h0:0<=v)(h1:v<m.vertices.length)(h:0<=m.around v):m.ups v=m.around v::m.ups (m.around v):=by
 have hd:=a.dep v h0 h1;rw[ups,upsF,if_neg (by omega)]at hd⊢;rw[List.length_cons]at hd;rw[ups,Z5m 64 1 _ (by omega)]
theorem Acy.ind(a:m.Acy){P:Int->Prop}(z:∀ v:Int,0<=v->v<m.vertices.length->m.around v<0->P v)
  (s:∀ v:Int,0<=v->v<m.vertices.length->0<=m.around v->m.around v<m.vertices.length->P (m.around v)->P v) {v:Int} (h0:0<=v) (h1:v<m.vertices.length):P v:=by
 have key:∀ (n:Nat) (v:Int),0<=v->v<m.vertices.length->(m.ups v).length=n->P v:=by
  intro n
  induction n with
  |zero=>
   intro v h0 h1 hn
   rcases a.rng v h0 h1 with q|⟨q1,q2⟩
   exact z v h0 h1 (by omega);rw[a.ups_cons h0 h1 q1]at hn;cases hn
  |succ n ih=>
   intro v h0 h1 hn
   rcases a.rng v h0 h1 with q|⟨q1,q2⟩
   exact z v h0 h1 (by omega);rw[a.ups_cons h0 h1 q1,List.length_cons]at hn;exact s v h0 h1 q1 q2 (ih _ q1 q2 (by omega))
 exact key _ v h0 h1 rfl
theorem Acy.ups_rng(a:m.Acy){v:Int}(h0:0<=v)(h1:v<m.vertices.length):∀ u∈m.ups v,0<=u/\u<m.vertices.length/\(m.ups u).length<(m.ups v).length:=by
 refine a.ind (P:=λv=>∀ u∈m.ups v,0<=u/\u<m.vertices.length/\(m.ups u).length<(m.ups v).length) ?_ ?_ h0 h1;intro v _ _ h u hu;rw[Acy.ups_nil h]at hu;cases hu;intro v h0 h1 q1 q2 ih u hu;rw[a.ups_cons h0 h1 q1]at hu⊢
 rcases List.mem_cons.1 hu with rfl|hu
 exact⟨q1,q2,Nat.lt_succ_self _⟩;obtain⟨x,y,z⟩:=ih u hu;exact⟨x,y,Nat.lt_succ_of_lt z⟩
theorem regU_nil{v s:Int}(h:m.around v<0)(hs:0<=s):m.regU v s = -1:=by
 rw[regU,Acy.ups_nil h,List.find?_cons_of_neg (by simp;omega)];rfl
theorem Acy.regU_at{v s:Int}(h:m.around v=s):m.regU v s=(m.vx v).region:=by
 rw[regU,List.find?_cons_of_pos (by simp[h])]
theorem Acy.regU_up(a:m.Acy){v s:Int}(h0:0<=v)(h1:v<m.vertices.length)(h:0<=m.around v)(hs:m.around v≠s):m.regU v s=m.regU (m.around v) s:=by
 rw[regU,regU,a.ups_cons h0 h1 h,List.find?_cons_of_neg (by simp[hs])]
theorem Acy.inB_up(a:m.Acy){v s:Int}(h0:0<=v)(h1:v<m.vertices.length)(h:0<=m.around v):m.inB v s=(m.around v==s||m.inB (m.around v) s):=by
 rw[inB,inB,a.ups_cons h0 h1 h,List.contains_cons,BEq.comm]
theorem inB_nil{v s:Int}(h:m.around v<0):m.inB v s=false:=by
 rw[inB,Acy.ups_nil h];rfl
theorem Acy.withinB_up(a:m.Acy){v r:Int}(h0:0<=v)(h1:v<m.vertices.length)(h:0<=m.around v):m.withinB v r=((m.vx v).region==r||m.withinB (m.around v) r):=by
 rw[withinB,withinB,a.ups_cons h0 h1 h,List.any_cons]
theorem withinB_nil{v r:Int}(h:m.around v<0):m.withinB v r=((m.vx v).region==r):=by
 rw[withinB,Acy.ups_nil h,List.any_cons,List.any_nil,Bool.or_false]
theorem Acy.regU_of(a:m.Acy){v s u:Int}(h0:0<=v)(h1:v<m.vertices.length)(hs:0<=s)(hu:u∈v::m.ups v)(h:m.around u=s):m.regU v s=(m.vx u).region:=by
 refine a.ind (P:=λv=>u∈v::m.ups v->m.regU v s=(m.vx u).region) ?_ ?_ h0 h1 hu;intro v _ _ q hu;rw[Acy.ups_nil q]at hu;obtain rfl:=List.mem_singleton.1 hu;omega;intro v h0 h1 q1 q2 ih hu
 rcases List.mem_cons.1 hu with rfl|hu
 exact Acy.regU_at h;rw[a.ups_cons h0 h1 q1]at hu
 by_cases hv:m.around v=s
 exfalso
 rw[hv]at hu q1 q2
 have hu0:0<=u/\u<m.vertices.length:=by
  rcases List.mem_cons.1 hu with rfl|hu
  exact⟨q1,q2⟩;have:=a.ups_rng q1 q2 u hu;exact⟨this.1,this.2.1⟩
 have h3:=a.ups_cons hu0.1 hu0.2 (by omega);rw[h]at h3
 have h4:(m.ups s).length<(m.ups u).length:=by rw[h3];exact Nat.lt_succ_self _
 rcases List.mem_cons.1 hu with rfl|hu
 omega;have:=(a.ups_rng q1 q2 u hu).2.2;omega;rw[a.regU_up h0 h1 q1 hv];exact ih hu
def partU(m:PM)(l:List Int):Bool:=(m.ups (l.headD 0)).any λs=>Zdl [] (l.map (m.regU · s))
end PM
end
section
def Zap:List UInt8:=[97,114,103]
def elsW:List UInt8:=[101,108,115,101]
def Z5e(s:List UInt8):Bool:=s==[]||isP s==2
def evB(ev l:List (List UInt8)):Bool:=(List.range l.length).all λi=>ev.contains (l.getD i []) && !(l.take i).contains (l.getD i [])
def Zpb(part most:Nat)(p:Nat->Bool)(n:Nat):Nat×Int×Int:=
 match(List.range n).find? (λi=>i==most || !p i)with
 |none=>(0,0,0)
 |some i=>(part,(i:Int),if i=most then 3 else 130)
def orE(a b:Nat×Int×Int):Nat×Int×Int:=if a.1≠0 then a else b
theorem Z4f{part most:Nat}{p:Nat->Bool}{n:Nat}(h:∀ i,i<n->i≠most/\p i=true):Zpb part most p n=(0,0,0):=by
 rw[Zpb,List.find?_eq_none.2 (λi hi=>by
  obtain⟨a,b⟩:=h i (List.mem_range.1 hi)
  simp[a,b])]
theorem Zoc{part most:Nat}{p:Nat->Bool}{n i:Nat}(hi:i<n)(h:∀ k,k<i->k≠most/\p k=true)(hb:i=most\/p i=false):Zpb part most p n=(part,(i:Int),if i=most then 3 else 130):=by
 have:(List.range n).find? (λi=>i==most || !p i)=some i:=by
  rw[List.find?_range_eq_some];refine⟨?_,List.mem_range.2 hi,λk hk=>?_⟩
  rcases hb with q|q
  simp[q];simp[q];obtain⟨a,b⟩:=h k hk;simp[a,b]
 rw[Zpb,this]
theorem Zkf{part most:Nat}{p:Nat->Bool}{n:Nat}(hp:part≠0)(h:(Zpb part most p n).1=0):n<=most/\∀ i,i<n->p i=true:=by
 rw[Zpb]at h
 cases hf:(List.range n).find? (λi=>i==most || !p i)with
 |some i=>rw[hf]at h;exact absurd h hp
 |none=>
  have:=List.find?_eq_none.1 hf;refine⟨?_,λi hi=>?_⟩
  rcases Nat.lt_or_ge most n with q|q
  have:=this most (List.mem_range.2 q);simp at this;exact q;have:=this i (List.mem_range.2 hi);simpa using(by simpa using this:_/\_).2
theorem Z1q{a b:Nat×Int×Int}(h:(orE a b).1=0):a.1=0/\b.1=0:=by
 rw[orE]at h
 split at h
 rename_i q;exact absurd h q;rename_i q;exact⟨Decidable.not_not.1 q,h⟩
namespace PM
variable(m:PM)
def stateB(v:Int):Bool:=decide (0<=v)&&decide (v<m.vertices.length)&&((m.vx v).kind==1)
def nameAt(i:Nat):List UInt8:=(m.vars.getD i ([],0)).1
def varB(i:Nat):Bool:=(isP (m.nameAt i)==2) && !(m.nameAt i==Zap) && !((m.vars.take i).any λy=>y.1==m.nameAt i)
def signalB(i:Nat):Bool:=(isP (m.events.getD i [])==2) && !(m.events.take i).contains (m.events.getD i [])
def regionB(i:Nat):Bool:=Z5e (m.regions.getD i ([],0)).1&&(if i=0 then m.ow 0 == -1 else m.stateB (m.ow i)&&(m.vx (m.ow i)).sub==[])
def liesB(x:VP):Bool:=if x.kind=10\/x.kind=11 then(x.region == -1)&&m.stateB x.of else(x.of == -1)&&decide (0<=x.region)&&decide (x.region<m.regions.length)
def vertexB(x:VP):Bool:=
 Z5e x.name&&decide (1<=x.kind)&&decide (x.kind<=12)&&m.liesB x&&((x.entry==[]&&x.exit==[]&&decide (x.defers.length=0)&&x.sub==[])||x.kind==1)&&Z5e x.sub &&
  decide (x.entry.length<=4096)&&decide (x.exit.length<=4096)&&evB m.events x.defers
def depth(v:Int):Nat:=(m.ups v).length
def deepB(i:Nat):Bool:=decide (m.depth i<=64)
def inV(v:Int):Bool:=decide (0<=v)&&decide (v<m.vertices.length)
def wayB(x:WP):Bool:=
 Z5e x.name&&m.inV x.source&&m.inV x.target&&evB m.events x.triggers&&decide (0<=x.after)&&decide (x.after<=65535)&&(x.after==0||decide (x.triggers.length=0)) &&
  decide (1<=x.kind)&&decide (x.kind<=3)&&decide (x.guard.length<=4096)&&decide (x.effect.length<=4096)
def ruleF(k:Nat):Nat×Int×Int:=
 match k with
 |0=>if isP m.name=2 then(0,0,0)else(1,0,130)
 |1=>Zpb 2 64 m.varB m.vars.length
 |2=>Zpb 3 64 m.signalB m.events.length
 |3=>if m.regions=[]then(4,0,130)else Zpb 4 512 m.regionB m.regions.length
 |4=>Zpb 5 512 (λi=>m.vertexB (m.vx i)) m.vertices.length
 |5=>Zpb 5 512 m.deepB m.vertices.length
 |_=>Zpb 6 512 (λi=>m.wayB (m.wy i)) m.ways.length
def rightP:Nat×Int×Int:=orE (m.ruleF 0) (orE (m.ruleF 1) (orE (m.ruleF 2) (orE (m.ruleF 3) (orE (m.ruleF 4) (orE (m.ruleF 5) (m.ruleF 6))))))
structure Rt5:Prop where
 rnz:m.regions≠[]
 rgn:∀ i,i<m.regions.length->m.regionB i=true
 vtx:∀ i,i<m.vertices.length->m.vertexB (m.vx i)=true
structure Rt:Prop extends Rt5 m where
 nm:isP m.name=2
 var:∀ i,i<m.vars.length->m.varB i=true
 sig:∀ i,i<m.events.length->m.signalB i=true
 deep:∀ i,i<m.vertices.length->m.depth i<=64
 way:∀ i,i<m.ways.length->m.wayB (m.wy i)=true
 lv:m.vars.length<=64
 le:m.events.length<=64
 lr:m.regions.length<=512
 lx:m.vertices.length<=512
 lw:m.ways.length<=512
variable{m}
theorem rt_vt(h3:(m.ruleF 3).1=0)(h4:(m.ruleF 4).1=0):m.Rt5:=by
 have h3:(if m.regions=[]then((4,0,130):Nat×Int×Int)else Zpb 4 512 m.regionB m.regions.length).1=0:=h3
 by_cases h:m.regions=[]
 rw[if_pos h]at h3;cases h3;rw[if_neg h]at h3;exact⟨h,(Zkf (by decide) h3).2,(Zkf (by decide) h4).2⟩
theorem rt_of(h:(m.rightP).1=0):m.Rt:=by
 obtain⟨h0,h⟩:=Z1q h;obtain⟨h1,h⟩:=Z1q h;obtain⟨h2,h⟩:=Z1q h;obtain⟨h3,h⟩:=Z1q h;obtain⟨h4,h⟩:=Z1q h;obtain⟨h5,h6⟩:=Z1q h;have r5:=rt_vt h3 h4;have a1:=Zkf (by decide) (show(Zpb 2 64 m.varB m.vars.length).1=0 from h1);have a2:=Zkf (by decide) (show(Zpb 3 64 m.signalB m.events.length).1=0 from h2);have h3:(if m.regions=[]then((4,0,130):Nat×Int×Int)else Zpb 4 512 m.regionB m.regions.length).1=0:=h3;rw[if_neg r5.rnz]at h3;have a3:=Zkf (by decide) h3;have a4:=Zkf (by decide) (show(Zpb 5 512 (λi=>m.vertexB (m.vx i)) m.vertices.length).1=0 from h4);have a5:=Zkf (by decide) (show(Zpb 5 512 m.deepB m.vertices.length).1=0 from h5);have a6:=Zkf (by decide) (show(Zpb 6 512 (λi=>m.wayB (m.wy i)) m.ways.length).1=0 from h6);have h0:(if isP m.name=2 then((0,0,0):Nat×Int×Int)else(1,0,130)).1=0:=h0
 have h0:isP m.name=2:=by
  by_cases q:isP m.name=2
  exact q;rw[if_neg q]at h0;cases h0
 exact⟨r5,h0,a1.2,a2.2,λi hi=>by simpa[deepB]using a5.2 i hi,a6.2,a1.1,a2.1,a3.1,a4.1,a6.1⟩
theorem Zig(k:Nat):(m.ruleF k).2.2=0↔(m.ruleF k).1=0:=by
 have s:∀ {part most:Nat} {p:Nat->Bool} {n:Nat},part≠0->((Zpb part most p n).2.2=0↔(Zpb part most p n).1=0):=by
  intro part most p n hp;rw[Zpb]
  cases(List.range n).find? (λi=>i==most || !p i)with
  |none=>exact⟨λ_=>rfl,λ_=>rfl⟩
  |some i=>
   show(if i=most then(3:Int)else 130)=0↔part=0
   split
   exact⟨λh=>(by cases h),λh=>absurd h hp⟩;exact⟨λh=>(by cases h),λh=>absurd h hp⟩
 match k with
 |0=>
  show(if isP m.name=2 then((0,0,0):Nat×Int×Int)else(1,0,130)).2.2=0↔(if isP m.name=2 then((0,0,0):Nat×Int×Int)else(1,0,130)).1=0
  split<;>simp
 |1=>exact s (by decide)
 |2=>exact s (by decide)
 |3=>
  show(if m.regions=[]then((4,0,130):Nat×Int×Int)else Zpb 4 512 m.regionB m.regions.length).2.2=0↔(if m.regions=[]then((4,0,130):Nat×Int×Int)else Zpb 4 512 m.regionB m.regions.length).1=0
  split
  simp;exact s (by decide)
 |4=>exact s (by decide)
 |5=>exact s (by decide)
 |k+6=>exact s (by decide)
theorem Z2q{a b:Nat×Int×Int}(ha:a.2.2=0↔a.1=0)(hb:b.2.2=0↔b.1=0):(orE a b).2.2=0↔(orE a b).1=0:=by
 rw[orE];split;exact ha;exact hb
theorem right_er:(m.rightP).2.2=0↔(m.rightP).1=0:=
 Z2q (Zig 0) (Z2q (Zig 1) (Z2q (Zig 2) (Z2q (Zig 3) (Z2q (Zig 4) (Z2q (Zig 5) (Zig 6))))))
theorem Rt5.vert(h:m.Rt5){v:Int}(h0:0<=v)(h1:v<m.vertices.length):m.vertexB (m.vx v)=true:=by
 have:=h.vtx v.toNat (by omega);rwa [show((v.toNat:Nat):Int)=v by omega]at this
theorem Rt5.lies(h:m.Rt5){v:Int}(h0:0<=v)(h1:v<m.vertices.length):m.liesB (m.vx v)=true:=by
 have:=h.vert h0 h1;simp only[vertexB,Bool.and_eq_true]at this;exact this.1.1.1.1.1.2
theorem Rt5.pt(h:m.Rt5){v:Int}(h0:0<=v)(h1:v<m.vertices.length):(0<=(m.vx v).of/\(m.vx v).of<m.vertices.length/\(m.vx v).region = -1/\m.stateB (m.vx v).of=true/\((m.vx v).kind=10\/(m.vx v).kind=11)) \/
  ((m.vx v).of = -1/\0<=(m.vx v).region/\(m.vx v).region<m.regions.length/\¬ ((m.vx v).kind=10\/(m.vx v).kind=11)):=by
 have:=h.lies h0 h1;rw[liesB]at this
 split at this
 rename_i q
 left
 have hs:m.stateB (m.vx v).of=true:=by simpa using(Bool.and_eq_true _ _ ▸ this:_/\_).2
 have hs':=hs;simp only[stateB,Bool.and_eq_true,decide_eq_true_eq,beq_iff_eq]at hs' this;exact⟨hs'.1.1,hs'.1.2,this.1,hs,q⟩;rename_i q
 right
 simp only[Bool.and_eq_true,decide_eq_true_eq,beq_iff_eq]at this;exact⟨this.1.1,this.1.2,this.2,q⟩
theorem Rt5.own(h:m.Rt5){r:Int}(h0:0<=r)(h1:r<m.regions.length):(r=0/\m.ow r = -1)\/(r≠0/\0<=m.ow r/\m.ow r<m.vertices.length):=by
 have:=h.rgn r.toNat (by omega);simp only[regionB,Bool.and_eq_true]at this;have h2:=this.2
 split at h2
 rename_i q
 have:r=0:=by omega
 subst this;exact .inl ⟨rfl,by simpa using h2⟩;rename_i q;rw[show((r.toNat:Nat):Int)=r by omega]at h2;simp only[stateB,Bool.and_eq_true,decide_eq_true_eq]at h2;exact .inr ⟨by omega,h2.1.1.1,h2.1.1.2⟩
theorem Rt5.rng(h:m.Rt5){v:Int}(h0:0<=v)(h1:v<m.vertices.length):m.around v = -1\/(0<=m.around v/\m.around v<m.vertices.length):=by
 rw[around]
 rcases h.pt h0 h1 with ⟨a,b,_⟩|⟨a,b,c,_⟩
 rw[if_pos a];exact .inr ⟨a,b⟩;rw[if_neg (by omega)]
 rcases h.own b c with ⟨_,q⟩|⟨_,q⟩
 exact .inl q;exact .inr q
theorem Rt.acy(h:m.Rt):m.Acy:=
 ⟨λv h0 h1=>h.toRt5.rng h0 h1,λv h0 h1=>by
  have:=h.deep v.toNat (by omega)
  rwa [depth,show((v.toNat:Nat):Int)=v by omega]at this,
 λv h0 h1 q=>by
  rcases h.toRt5.pt h0 h1 with ⟨_,_,a,_⟩|⟨a,_⟩
  exact a
  omega,
 λv h0 h1 q=>by
  rcases h.toRt5.pt h0 h1 with ⟨a,_⟩|⟨_,a,b,_⟩
  omega
  exact⟨a,b⟩⟩
end PM
end
section
def Zek(s:List UInt8):Bool:=(Zra s).2.2==0&&(Zra s).1.length==1&&(Zld (Zra s).1 0==elsW)
namespace PM
variable(m:PM)(bd:List (List UInt8)->List (List UInt8)->List UInt8->Bool)(gd:List (List UInt8)->List UInt8->Int)
def inc(v:Int):List Int:=(m.ways.filter λt=>t.target==v).map (·.source)
def out(v:Int):List Int:=(m.ways.filter λt=>t.source==v).map (·.target)
def vn:List (List UInt8):=m.vars.map (·.1)
def kd(v:Int):Int:=(m.vx v).kind
def body(s:List UInt8):Bool:=bd m.vn m.events s
def k1(r:Int):Bool:=(m.vertices.filter λx=>x.kind==3&&x.region==r).length==1
def k2(v:Int):Bool := !(m.kd v==3)||((m.out v).length==1&&m.withinB ((m.out v).headD 0) (m.vx v).region&&(m.inc v).length==0)
def k3(v:Int):Bool := !(m.kd v==2||m.kd v==12)||(m.out v).length==0
def k4(v:Int):Bool := !(m.kd v==6)||((m.inc v).length==1&&decide (1<(m.out v).length)&&m.partU (m.out v))
def k5(v:Int):Bool := !(m.kd v==7)||((m.out v).length==1&&decide (1<(m.inc v).length)&&((m.inc v).all λu=>m.kd u==1)&&m.partU (m.inc v))
def elses(v:Int):Nat:=(m.ways.filter λt=>t.source==v&&Zek t.guard).length
def k6(v:Int):Bool := !(m.kd v==4||m.kd v==5)||(decide (0<(m.inc v).length)&&decide (0<(m.out v).length)&&decide (m.elses v<=1))
def twins(v:Int):Nat:=(m.vertices.filter λy=>y.kind==m.kd v&&y.region==(m.vx v).region).length
def k7(v:Int):Bool := !(m.kd v==8||m.kd v==9) ||
 (!((m.vx v).region==0)&&m.twins v==1&&decide ((m.out v).length<=1)&&((m.out v).length==0||m.withinB ((m.out v).headD 0) (m.vx v).region))
def k8(v:Int):Bool:=if m.kd v=11 then(m.out v).length==1 && !m.inB ((m.out v).headD 0) (m.vx v).of
 else if m.kd v=10 then Zdl [] ((m.out v).map (m.regU · (m.vx v).of))&&decide (0<(m.out v).length)else true
def k9(t:Int):Bool:=((m.wy t).triggers.length==0&&(m.wy t).after==0)||m.kd (m.wy t).source==1
def k10(t:Int):Bool:=((m.kd (m.wy t).source==4||m.kd (m.wy t).source==5)&&Zek (m.wy t).guard) ||
 (gd (m.vn++[Zap]) (m.wy t).guard==0&&((Zra (m.wy t).guard).1.length==0||m.kd (m.wy t).source==1||m.kd (m.wy t).source==4||m.kd (m.wy t).source==5))
def k11(t:Int):Bool:=if(m.wy t).kind=3 then(m.wy t).source==(m.wy t).target&&m.kd (m.wy t).source==1
 else if(m.wy t).kind=2 then m.kd (m.wy t).source==1&&m.inB (m.wy t).target (m.wy t).source else true
def k12(t:Int):Bool:=m.body bd (m.wy t).effect
def k13(v:Int):Bool := !(m.kd v==1)||(m.body bd (m.vx v).entry&&m.body bd (m.vx v).exit)
def k14(t:Int):Bool := !m.partU [(m.wy t).source,(m.wy t).target]
def k15(t:Int):Bool:=if m.kd (m.wy t).target=10 then !((m.wy t).source==(m.vx (m.wy t).target).of) && !m.inB (m.wy t).source (m.vx (m.wy t).target).of
 else if m.kd (m.wy t).target=11 then m.inB (m.wy t).source (m.vx (m.wy t).target).of && !((m.vx (m.wy t).source).of==(m.vx (m.wy t).target).of)else true
def keep(rule:Nat)(at_:Int):Bool:=
 match rule with
 |1=>m.k1 at_
 |2=>m.k2 at_
 |3=>m.k3 at_
 |4=>m.k4 at_
 |5=>m.k5 at_
 |6=>m.k6 at_
 |7=>m.k7 at_
 |8=>m.k8 at_
 |9=>m.k9 at_
 |10=>m.k10 gd at_
 |11=>m.k11 at_
 |12=>m.k12 bd at_
 |13=>m.k13 bd at_
 |14=>m.k14 at_
 |15=>m.k15 at_
 |_=>false
def places(rule:Nat):Nat:=if rule=1 then m.regions.length else if rule<=8\/rule=13 then m.vertices.length else m.ways.length
def badAt(rule n:Nat):List (Nat×Int):=((List.range n).filter fun(a:Nat) => !m.keep bd gd rule (a:Int)).map fun(a:Nat)=>(rule,(a:Int))
def badL(k:Nat):List (Nat×Int):=(List.range k).flatMap λr=>m.badAt bd gd (r+1) (m.places (r+1))
def checkW:List (Nat×Int)×Int:=if(m.rightP).2.2≠0 then([],(m.rightP).2.2)else(m.badL bd gd 15,0)
variable{m bd gd}
theorem badAt_succ(rule n:Nat):m.badAt bd gd rule (n+1)=m.badAt bd gd rule n++(if m.keep bd gd rule (n:Int)=true then[]else[(rule,(n:Int))]):=by
 rw[badAt,List.range_succ,List.filter_append,List.map_append,badAt]
 congr 1
 by_cases h:m.keep bd gd rule (n:Int)=true
 rw[if_pos h,List.filter_cons_of_neg (by simp[h])];rfl;rw[if_neg h,List.filter_cons_of_pos (by simpa using h)];rfl
theorem badL_succ(k:Nat):m.badL bd gd (k+1)=m.badL bd gd k++m.badAt bd gd (k+1) (m.places (k+1)):=by
 rw[badL,List.range_succ,List.flatMap_append,badL,List.flatMap_singleton]
theorem badAt_len(rule n:Nat):(m.badAt bd gd rule n).length<=n:=by
 rw[badAt,List.length_map];exact Nat.le_trans (List.length_filter_le _ _) (by rw[List.length_range];exact Nat.le_refl _)
end PM
end
section
namespace PM
variable{m:PM}
def wysI(m:PM)(v:Int)(to:Bool)(n:Nat):List Int:=((List.range n).filter fun(i:Nat)=>(to&&(m.wy (i:Int)).target==v)||(!to&&(m.wy (i:Int)).source==v)).map fun(i:Nat)=>(i:Int)
theorem Z0t(v:Int)(to:Bool)(n:Nat):m.wysI v to (n+1)=m.wysI v to n++(if((to&&(m.wy (n:Int)).target==v)||(!to&&(m.wy (n:Int)).source==v))=true then[(n:Int)]else[]):=by
 rw[wysI,List.range_succ,List.filter_append,List.map_append,wysI]
 congr 1
 split
 rename_i h;rw[List.filter_cons,if_pos h];rfl;rename_i h;rw[List.filter_cons,if_neg h];rfl
theorem wysI_len(v:Int)(to:Bool)(n:Nat):(m.wysI v to n).length<=n:=by
 rw[wysI,List.length_map];exact Nat.le_trans (List.length_filter_le _ (List.range n)) (by rw[List.length_range];exact Nat.le_refl _)
theorem Zfj{v:Int}{to:Bool}{n:Nat}{i:Int}(h:i∈m.wysI v to n):0<=i/\i<n:=by
 obtain⟨k,hk,rfl⟩:=List.mem_map.1 h;have:=List.mem_range.1 (List.mem_filter.1 hk).1;omega
theorem Z0k{α β : Type}(d : α)(p : α -> Bool)(f : α -> β):∀ l:List α,((List.range l.length).filter λi=>p (l.getD i d)).map (λi=>f (l.getD i d))=(l.filter p).map f
 |[]=>rfl
 |x::t=>by
  rw[List.length_cons,List.range_succ_eq_map,List.filter_cons,List.filter_map];have ih:=Z0k d p f t
  have e:(λi=>p ((x::t).getD i d))∘Nat.succ=λi=>p (t.getD i d):=by funext i;rfl
  rw[e]
  by_cases h:p x=true
  rw[if_pos (show p ((x::t).getD 0 d)=true from h),List.filter_cons_of_pos h,List.map_cons,List.map_cons,List.map_map]
  congr 1
  rw[if_neg (show ¬ p ((x::t).getD 0 d)=true from h),List.filter_cons_of_neg h,List.map_map];exact ih
theorem Zkda(v:Int):(m.wysI v true m.ways.length).map (λi=>(m.wy i).source)=m.inc v:=by
 rw[wysI,List.map_map,inc,<- Z0k wy0 (λt=>t.target==v) (·.source) m.ways];simp only[Bool.true_and,Bool.not_true,Bool.false_and,Bool.or_false,wy,Int.toNat_natCast];rfl
theorem wys_out(v:Int):(m.wysI v false m.ways.length).map (λi=>(m.wy i).target)=m.out v:=by
 rw[wysI,List.map_map,out,<- Z0k wy0 (λt=>t.source==v) (·.target) m.ways];simp only[Bool.true_and,Bool.not_false,Bool.false_and,Bool.false_or,wy,Int.toNat_natCast];rfl
end PM
end
section
namespace PM
variable{m:PM}{bd:List (List UInt8)->List (List UInt8)->List UInt8->Bool}{gd:List (List UInt8)->List UInt8->Int}
theorem Z8o(rule a:Nat):∀ n,a<n->∃ t,m.badAt bd gd rule n=m.badAt bd gd rule a++(if m.keep bd gd rule (a:Int)=true then[]else[(rule,(a:Int))])++t/\∀ x∈t,x.1=rule/\(a:Int)<x.2
 |0,h=>absurd h (Nat.not_lt_zero _)
 |n+1,h=>by
  rcases Nat.lt_or_ge a n with q|q
  obtain⟨t,e,ht⟩:=Z8o rule a n q;rw[badAt_succ,e];refine⟨_,List.append_assoc _ _ _,λx hx=>?_⟩
  rcases List.mem_append.1 hx with hx|hx
  exact ht x hx
  split at hx
  cases hx;rw[List.mem_singleton.1 hx];exact⟨rfl,by show(a:Int)<(n:Int);omega⟩
  obtain rfl:a=n:=by omega
  exact⟨[],by rw[badAt_succ,List.append_nil],λx hx=>by cases hx⟩
theorem Zlr(r:Nat):∀ k,r<=k->∃ t,m.badL bd gd k=m.badL bd gd r++t/\∀ x∈t,r<x.1
 |0,h=>by
  obtain rfl:r=0:=by omega
  exact⟨[],(List.append_nil _).symm,λx hx=>by cases hx⟩
 |k+1,h=>by
  rcases Nat.lt_or_ge r (k+1)with q|q
  obtain⟨t,e,ht⟩:=Zlr r k (by omega);rw[badL_succ,e];refine⟨_,List.append_assoc _ _ _,λx hx=>?_⟩
  rcases List.mem_append.1 hx with hx|hx
  exact ht x hx;rw[badAt]at hx;obtain⟨i,_,rfl⟩:=List.mem_map.1 hx;exact q
  obtain rfl:r=k+1:=by omega
  exact⟨[],(List.append_nil _).symm,λx hx=>by cases hx⟩
def ahead(m:PM)(bd:List (List UInt8)->List (List UInt8)->List UInt8->Bool)(gd:List (List UInt8)->List UInt8->Int)(rule a:Nat):Nat:=(m.badL bd gd (rule-1)).length+(m.badAt bd gd rule a).length
theorem told_eq{rule a:Nat}(h1:1<=rule)(h2:rule<=15)(ha:a<m.places rule):
  (m.keep bd gd rule (a:Int)=false/\(m.badL bd gd 15)[m.ahead bd gd rule a]?=some (rule,(a:Int)))\/(m.keep bd gd rule (a:Int)=true/\(m.badL bd gd 15)[m.ahead bd gd rule a]?≠some (rule,(a:Int))):=by
 obtain⟨r,rfl⟩:∃ r,rule=r+1:=⟨rule-1,by omega⟩;obtain⟨t,e,ht⟩:=Zlr (m:=m) (bd:=bd) (gd:=gd) (r+1) 15 h2;obtain⟨u,f,hu⟩:=Z8o (m:=m) (bd:=bd) (gd:=gd) (r+1) a _ ha;rw[badL_succ r,f]at e;rw[e,ahead,Nat.add_sub_cancel]
 cases hk:m.keep bd gd (r+1) (a:Int)with
 |false=>
  refine .inl ⟨rfl,?_⟩;rw[if_neg (by decide),List.append_assoc,List.append_assoc,List.append_assoc,List.getElem?_append_right (Nat.le_add_right _ _),List.getElem?_append_right (by omega)];rw[show(m.badL bd gd r).length+(m.badAt bd gd (r+1) a).length-(m.badL bd gd r).length-(m.badAt bd gd (r+1) a).length=0 by omega];rfl
 |true=>
  refine .inr ⟨rfl,λh=>?_⟩;rw[if_pos rfl,List.append_nil,List.append_assoc,List.append_assoc,List.getElem?_append_right (Nat.le_add_right _ _),List.getElem?_append_right (by omega)]at h;have:=List.mem_of_getElem? h
  rcases List.mem_append.1 this with q|q
  have:=(hu _ q).2;simp only at this;omega;have:=ht _ q;simp only at this;omega
end PM
end
section
structure StP where
 sources:List Int
 first:Int
 guards:List Int
 effects:List Int
 ends:List (Int×List Int)
namespace PM
variable(m:PM)
def outI(v:Int):List Int:=m.wysI v false m.ways.length
def intoI(v:Int):List Int:=m.wysI v true m.ways.length
def tg(t:Int):Int:=(m.wy t).target
def sc(t:Int):Int:=(m.wy t).source
def oneP(v:Int):Bool:=(m.kd v==5||m.kd v==11)||(m.kd v==10&&(m.outI v).length==1)
def allP(v:Int):Bool:=m.kd v==6||(m.kd v==10&&decide (1<(m.outI v).length))
def walkF:Nat->Int->List Int->List (List Int×Int)
 |0,v,path=>[(path,v)]
 |f+1,v,path=>if m.oneP v=true then(m.outI v).flatMap λt=>if path.contains t=true then[(path++[t],-1)]else walkF f (m.tg t) (path++[t])else[(path,v)]
def walkL(v:Int)(path:List Int):List (List Int×Int):=m.walkF (m.ways.length+1-path.length) v path
def waysL(t:Int):List (List Int×Int):=m.walkL (m.tg t) [t]
def forkF:List Int->List (Int×List Int)->List (List (Int×List Int))
 |[],ends=>[ends]
 |o::r,ends=>(m.waysL o).flatMap λw=>forkF r (ends++[(w.2,w.1)])
def strW(sources:List Int)(first:Int)(into:List Int)(w:List Int×Int):List StP:=
 if w.2 ≠ -1/\m.allP w.2=true then(m.forkF (m.outI w.2) []).map λends=>⟨sources,first,w.1++ends.flatMap (·.2),into++w.1,ends⟩
 else[⟨sources,first,w.1,into++w.1,[(w.2,[])]⟩]
def strL(sources into:List Int)(by_:Int):List StP:=(m.waysL by_).flatMap (m.strW sources (into.headD by_) into)
def beginL(t:Int):List StP:=
 if m.kd (m.tg t)=7 then(if(m.intoI (m.tg t)).headD (-1)=t then m.strL ((m.intoI (m.tg t)).map m.sc) (m.intoI (m.tg t)) ((m.outI (m.tg t)).headD 0)else[])
 else if m.kd (m.sc t)=1\/m.kd (m.sc t)=3\/m.kd (m.sc t)=4\/m.kd (m.sc t)=8\/m.kd (m.sc t)=9 then m.strL [m.sc t] [] t else[]
def allL:List StP:=(List.range m.ways.length).flatMap fun(t:Nat)=>m.beginL t
end PM
end
section
structure WayP where
 path:List Int
 at_:Int
 twice:Bool
namespace PM
variable(m:PM)
def exF:Nat->Int->List Int->List WayP
 |0,v,path=>[⟨path,v,false⟩]
 |f+1,v,path=>if m.oneP v=true then(m.outI v).flatMap λt=>if path.contains t=true then[⟨path++[t],m.tg t,true⟩]else exF f (m.tg t) (path++[t])else[⟨path,v,false⟩]
def exW(w:WayP):List WayP:=if w.twice=true then[w]else m.exF (m.ways.length+1-w.path.length) w.at_ w.path
def doneW(w:WayP):Bool:=w.twice || !m.oneP w.at_
def cntF:Nat->Int->List Int->Nat
 |0,_,_=>1
 |f+1,v,path=>if m.oneP v=true then 1+((m.outI v).map λt=>if path.contains t=true then 1 else cntF f (m.tg t) (path++[t])).sum else 1
def cntW(w:WayP):Nat:=if w.twice=true then 1 else m.cntF (m.ways.length+1-w.path.length) w.at_ w.path
structure WayOk(w:WayP):Prop where
 rng:∀ t∈w.path,0<=t/\t<m.ways.length
 at_:0<=w.at_/\w.at_<m.vertices.length
 nd:w.twice=false->w.path.Nodup
variable{m}
theorem Zbha{n:Nat}:∀ {l:List Nat},l.Nodup->l.length<=(l.filter (· != n)).length+1
 |[],_=>Nat.zero_le _
 |a::t,h=>by
  rw[List.nodup_cons]at h
  by_cases e:a=n
  subst e
  have:t.filter (· != a)=t:=List.filter_eq_self.2 λx hx=>by
   rw[bne_iff_ne];rintro rfl;exact h.1 hx
  rw[List.filter_cons_of_neg (by simp),this,List.length_cons];exact Nat.le_refl _;have:=Zbha (n:=n) h.2;rw[List.filter_cons_of_pos (by simpa using e),List.length_cons,List.length_cons];omega
theorem Z75:∀ (n:Nat) (l:List Nat),l.Nodup->(∀ x∈l,x<n)->l.length<=n
 |0,l,_,h=>by
  cases l with
  |nil=>exact Nat.le_refl _
  |cons a t=>exact absurd (h a (by simp)) (Nat.not_lt_zero _)
 |n+1,l,hd,h=>by
  have h1:=Z75 n (l.filter (· != n)) (hd.filter _) λx hx=>by
   obtain⟨q1,q2⟩:=List.mem_filter.1 hx;have:=h x q1;have:=bne_iff_ne.1 q2;omega
  have:=Zbha (n:=n) hd;omega
theorem nodup_len{n:Nat}{l:List Int}(h:l.Nodup)(hr:∀ t∈l,0<=t/\t<n):l.length<=n:=by
 have h2:(l.map Int.toNat).Nodup:=by
  rw[List.nodup_iff_pairwise_ne]at h⊢;rw[List.pairwise_map];refine h.imp_of_mem fun{a b} ha hb hab e=>hab ?_;have:=hr a ha;have:=hr b hb;omega
 have:=Z75 n _ h2 λx hx=>by
  obtain⟨t,ht,rfl⟩:=List.mem_map.1 hx;have:=hr t ht;omega
 rwa [List.length_map]at this
theorem WayOk.len{w:WayP}(h:m.WayOk w)(ht:w.twice=false):w.path.length<=m.ways.length:=nodup_len (h.nd ht) h.rng
theorem Zana{w:WayP}(hd:m.doneW w=true):m.exW w=[w]:=by
 obtain⟨p,a,tw⟩:=w
 cases tw with
 |true=>exact if_pos rfl
 |false=>
  have hd2:m.oneP a=false:=by
   cases q:m.oneP a with
   |false=>rfl
   |true=>have:(false || !m.oneP a)=true:=hd;rw[q]at this;cases this
  show m.exF (m.ways.length+1-p.length) a p=_
  cases m.ways.length+1-p.length with
  |zero=>rfl
  |succ f=>rw[exF,if_neg (by rw[hd2];decide)]
theorem Zfna(w:WayP):1<=m.cntW w:=by
 rw[cntW]
 split
 exact Nat.le_refl _
 .cases m.ways.length+1-w.path.length with
  |zero=>exact Nat.le_refl _
  |succ f=>rw[cntF];split<;>omega
structure WInv(m:PM)(full l:List WayP)(i:Nat):Prop where
 all:l.flatMap m.exW=full
 ok:∀ w∈l,m.WayOk w
 dn:∀ w∈l.take i,m.doneW w=true
 le:i<=l.length
def WInv.cnt(m:PM)(l:List WayP)(i:Nat):Nat:=((l.drop i).map m.cntW).sum
theorem WInv.fin{full l:List WayP}(h:WInv m full l l.length):l=full:=by
 have hd:=h.dn;rw[List.take_length]at hd;rw[<- h.all];clear h
 induction l with
 |nil=>rfl
 |cons w t ih=>rw[List.flatMap_cons,Zana (hd w (by simp)),<- ih λu hu=>hd u (by simp[hu])];rfl
theorem drop_at{α : Type}{l:List α}{i:Nat}{w : α}(h:l[i]?=some w):l.drop i=w::l.drop (i+1):=by
 obtain⟨hi,rfl⟩:=List.getElem?_eq_some_iff.1 h;exact List.drop_eq_getElem_cons hi
theorem Z5da{α : Type}{l:List α}{i:Nat}{w : α}(h:l[i]?=some w):l.take (i+1)=l.take i++[w]:=by
 obtain⟨hi,rfl⟩:=List.getElem?_eq_some_iff.1 h;exact List.take_succ_eq_append_getElem hi
theorem WInv.next{full l:List WayP}{i:Nat}{w:WayP}(h:WInv m full l i)(hw:l[i]?=some w)(hd:m.doneW w=true):WInv m full l (i+1)/\WInv.cnt m l (i+1)<WInv.cnt m l i:=by
 refine⟨⟨h.all,h.ok,λu hu=>?_,(List.getElem?_eq_some_iff.1 hw).1⟩,?_⟩;rw[Z5da hw]at hu
 rcases List.mem_append.1 hu with hu|hu
 exact h.dn u hu;rw[List.mem_singleton.1 hu];exact hd;unfold cnt;rw[drop_at hw,List.map_cons,List.sum_cons];have:=Zfna (m:=m) w;omega
def OutsOk(m:PM):Prop:=∀ v:Int,0<=v->v<m.vertices.length->m.oneP v=true->m.outI v≠[]
theorem Zqoa(hr:∀ t:Int,0<=t->t<m.ways.length->0<=m.tg t/\m.tg t<m.vertices.length)(ho:m.OutsOk):∀ (f:Nat) (v:Int) (path:List Int),0<=v->v<m.vertices.length->m.exF f v path≠[]
 |0,_,_,_,_=>by rw[exF];simp
 |f+1,v,path,h0,h1=>by
  rw[exF]
  split
  .rename_i q
   have hne:=ho v h0 h1 q
   cases e:m.outI v with
   |nil=>exact absurd e hne
   |cons t r=>
    have htr:=Zfj (m:=m) (v:=v) (to:=false) (n:=m.ways.length) (i:=t) (by show t∈m.outI v;rw[e];simp);have ht:=hr t htr.1 htr.2;rw[List.flatMap_cons];intro h;have:=(List.append_eq_nil_iff.1 h).1
    split at this
    cases this;exact Zqoa hr ho f _ _ ht.1 ht.2 this
  simp
theorem WInv.len{full l:List WayP}{i:Nat}(hr:∀ t:Int,0<=t->t<m.ways.length->0<=m.tg t/\m.tg t<m.vertices.length)(ho:m.OutsOk)(h:WInv m full l i):l.length<=full.length:=by
 have hok:=h.ok;rw[<- h.all];clear h
 induction l with
 |nil=>exact Nat.zero_le _
 |cons w t ih=>
  rw[List.flatMap_cons,List.length_append,List.length_cons];have h1:=ih λu hu=>hok u (by simp[hu])
  have h2:m.exW w≠[]:=by
   rw[exW]
   split
   simp;have:=(hok w (by simp)).at_;exact Zqoa hr ho _ _ _ this.1 this.2
  have:=List.length_pos_iff.2 h2;omega
end PM
end
section
namespace PM
variable{m:PM}
theorem Acy.ups_tr(a:m.Acy){u s w:Int}(h:m.around u=s)(hs:0<=s)(w0:0<=w)(w1:w<m.vertices.length)(hu:u∈w::m.ups w):s∈m.ups w:=by
 refine a.ind (P:=λw=>u∈w::m.ups w->s∈m.ups w) ?_ ?_ w0 w1 hu;intro w _ _ q hw;rw[Acy.ups_nil q]at hw;obtain rfl:=List.mem_singleton.1 hw;omega;intro w w0 w1 q1 q2 ih hw;rw[a.ups_cons w0 w1 q1]at hw⊢
 rcases List.mem_cons.1 hw with rfl|hw
 rw[h];exact List.mem_cons_self ..;exact List.mem_cons_of_mem _ (ih hw)
theorem Acy.chain(a:m.Acy){v:Int}(h0:0<=v)(h1:v<m.vertices.length){u:Int}(hu:u∈v::m.ups v):0<=u/\u<m.vertices.length:=by
 rcases List.mem_cons.1 hu with rfl|hu
 exact⟨h0,h1⟩;have:=a.ups_rng h0 h1 u hu;exact⟨this.1,this.2.1⟩
theorem Acy.ups_sub(a:m.Acy){v s u:Int}(h0:0<=v)(h1:v<m.vertices.length)(hs:s∈v::m.ups v)(hu:u∈s::m.ups s):u∈v::m.ups v:=by
 have hsr:=a.chain h0 h1 hs
 rcases List.mem_cons.1 hu with rfl|hu
 exact hs;refine a.ind (P:=λv=>s∈v::m.ups v->u∈v::m.ups v) ?_ ?_ h0 h1 hs;intro v _ _ q hs;rw[Acy.ups_nil q]at hs;obtain rfl:=List.mem_singleton.1 hs;exact List.mem_cons_of_mem _ hu;intro v v0 v1 q1 q2 ih hs
 rcases List.mem_cons.1 hs with rfl|hs
 exact List.mem_cons_of_mem _ hu;rw[a.ups_cons v0 v1 q1]at hs⊢;exact List.mem_cons_of_mem _ (ih hs)
theorem Acy.regU_in(a:m.Acy){v s:Int}(h:0<=m.regU v s):∃ u∈v::m.ups v,m.around u=s/\m.regU v s=(m.vx u).region:=by
 unfold regU at h⊢
 split at h
 rename_i u q;refine⟨u,List.mem_of_find?_eq_some q,?_,rfl⟩;have:=List.find?_some q;simpa using this;omega
theorem Acy.regU_mem(a:m.Acy){v s:Int}(h0:0<=v)(h1:v<m.vertices.length)(hs:0<=s)(h:0<=m.regU v s):s∈m.ups v:=by
 obtain⟨u,hu,hr,_⟩:=a.regU_in h;exact a.ups_tr hr hs h0 h1 hu
theorem Acy.mem_around(a:m.Acy){v s:Int}(h0:0<=v)(h1:v<m.vertices.length)(h:s∈m.ups v):∃ u∈v::m.ups v,m.around u=s:=by
 refine a.ind (P:=λv=>s∈m.ups v->∃ u∈v::m.ups v,m.around u=s) ?_ ?_ h0 h1 h;intro v _ _ q h;rw[Acy.ups_nil q]at h;cases h;intro v v0 v1 q1 q2 ih h;rw[a.ups_cons v0 v1 q1]at h⊢
 rcases List.mem_cons.1 h with rfl|h
 exact⟨v,List.mem_cons_self ..,rfl⟩;obtain⟨u,hu,e⟩:=ih h;exact⟨u,List.mem_cons_of_mem _ hu,e⟩
theorem Acy.regU_far(a:m.Acy){v s t:Int}(h0:0<=v)(h1:v<m.vertices.length)(hs:s∈v::m.ups v)(ht:t∈m.ups s):m.regU v t=m.regU s t:=by
 have hsr:=a.chain h0 h1 hs;obtain⟨u,hu,e⟩:=a.mem_around hsr.1 hsr.2 ht;have ht0:=(a.ups_rng hsr.1 hsr.2 t ht).1;rw[a.regU_of hsr.1 hsr.2 ht0 hu e,a.regU_of h0 h1 ht0 (a.ups_sub h0 h1 hs hu) e]
def bothB(m:PM)(a b s:Int):Bool:=decide (0<=m.regU a s)&&decide (0<=m.regU b s)
def orthoB(m:PM)(a b:Int):Bool:=(m.ups a).any λs=>m.bothB a b s&&(m.regU a s != m.regU b s)
def orthoF(m:PM)(a b:Int):List Int->Bool
 |[]=>false
 |s::r=>if m.bothB a b s=true then m.regU a s != m.regU b s else orthoF m a b r
theorem Acy.ortho_first(k:m.Acy){a b:Int}(a0:0<=a)(a1:a<m.vertices.length)(b0:0<=b)(b1:b<m.vertices.length):m.orthoF a b (m.ups a)=m.orthoB a b:=by
 have far:∀ s,s∈a::m.ups a->s∈b::m.ups b->(m.ups s).any (λs=>m.bothB a b s&&(m.regU a s != m.regU b s))=false:=by
  intro s ha hb;rw[List.any_eq_false];intro t ht;rw[k.regU_far a0 a1 ha ht,k.regU_far b0 b1 hb ht];simp
 have key:∀ v:Int,0<=v->v<m.vertices.length->v∈a::m.ups a->m.orthoF a b (m.ups v)=(m.ups v).any λs=>m.bothB a b s&&(m.regU a s != m.regU b s):=by
  intro v v0 v1;refine k.ind (P:=λv=>v∈a::m.ups a->m.orthoF a b (m.ups v)=(m.ups v).any λs=>m.bothB a b s&&(m.regU a s != m.regU b s)) ?_ ?_ v0 v1;intro v _ _ q _;rw[Acy.ups_nil q];rfl;intro v v0 v1 q1 q2 ih hv;have hp:m.around v∈a::m.ups a:=List.mem_cons_of_mem _ (k.ups_tr rfl q1 a0 a1 hv);rw[k.ups_cons v0 v1 q1,orthoF,List.any_cons]
  by_cases c:m.bothB a b (m.around v)=true
  rw[if_pos c,c,Bool.true_and]
  have c2:0<=m.regU b (m.around v):=by
   unfold bothB at c;simp only[Bool.and_eq_true,decide_eq_true_eq]at c;exact c.2
  rw[far _ hp (List.mem_cons_of_mem _ (k.regU_mem b0 b1 q1 c2)),Bool.or_false];rw[if_neg c,ih hp];rw[Bool.not_eq_true]at c;rw[c,Bool.false_and,Bool.false_or]
 exact key a a0 a1 (List.mem_cons_self ..)
end PM
end
section
def StP.lost(s:StP):Bool:=s.ends.any λe=>e.1 == -1
namespace PM
variable(m:PM)
variable{m}
end PM
end
section
def StP.at_(s:StP):List Int:=if s.lost=true then[]else s.ends.map (·.1)
def Zjl(q es:List Int):List Int:=es.foldl (λq e=>if q.contains e=true then q else q++[e]) q
namespace PM
variable(m:PM)
def nextQ(L:List StP)(q:List Int)(v:Int):List Int:=if m.kd v=4 then(L.filter λs=>s.sources.contains v).foldl (λq s=>Zjl q s.at_) q else q
def bfsF(L:List StP):Nat->List Int->Nat->List Int
 |0,q,_=>q
 |f+1,q,i=>match q[i]? with
  |none=>q
  |some v=>bfsF L f (m.nextQ L q v) (i+1)
def reachQ(L:List StP)(s:StP):List Int:=m.bfsF L (m.vertices.length+1) (Zjl [] s.at_) 0
def reachL(L:List StP)(s:StP):List Int:=((List.range m.vertices.length).filter fun(v:Nat)=>(m.reachQ L s).contains (v:Int)).map fun(v:Nat)=>(v:Int)
end PM
theorem Ze7(q:List Int):Zjl q []=q:=rfl
theorem Zvh(q:List Int)(e:Int)(es:List Int):Zjl q (e::es)=Zjl (if q.contains e=true then q else q++[e]) es:=rfl
theorem Zyna(q a b:List Int):Zjl q (a++b)=Zjl (Zjl q a) b:=List.foldl_append
theorem Zpt:∀ (es q:List Int),∃ t,Zjl q es=q++t
 |[],q=>⟨[],(List.append_nil q).symm⟩
 |e::es,q=>by
  obtain⟨t,ht⟩:=Zpt es (if q.contains e=true then q else q++[e]);rw[Zvh,ht]
  split
  exact⟨t,rfl⟩;exact⟨e::t,by simp⟩
theorem Zqt:∀ (es q:List Int) (v:Int),v∈Zjl q es↔v∈q\/v∈es
 |[],q,v=>by simp[Ze7]
 |e::es,q,v=>by
  rw[Zvh,Zqt es,List.mem_cons]
  split
  rename_i h;rw[List.contains_eq_mem,decide_eq_true_eq]at h
  constructor
  rintro(h1|h1);exact .inl h1;exact .inr (.inr h1);rintro(h1|rfl|h1);exact .inl h1;exact .inl h;exact .inr h1;rw[List.mem_append,List.mem_singleton,or_assoc]
theorem Zd1:∀ (es q:List Int),q.Nodup->(Zjl q es).Nodup
 |[],q,h=>h
 |e::es,q,h=>by
  rw[Zvh];refine Zd1 es _ ?_
  split
  exact h;rename_i hn;rw[List.contains_eq_mem,decide_eq_true_eq]at hn;rw[List.nodup_append];refine⟨h,by simp,λa ha b hb=>?_⟩;rw[List.mem_singleton.1 hb];rintro rfl;exact hn ha
namespace PM
variable{m:PM}
theorem Zm6:∀ (L:List StP) (q:List Int),∃ t,L.foldl (λq s=>Zjl q s.at_) q=q++t
 |[],q=>⟨[],(List.append_nil q).symm⟩
 |s::L,q=>by
  obtain⟨t,ht⟩:=Zpt s.at_ q;obtain⟨u,hu⟩:=Zm6 L (Zjl q s.at_);rw[List.foldl_cons,hu,ht];exact⟨t++u,by rw[List.append_assoc]⟩
theorem Zn6:∀ (L:List StP) (q:List Int) (v:Int),v∈L.foldl (λq s=>Zjl q s.at_) q↔v∈q\/∃ s∈L,v∈s.at_
 |[],q,v=>by simp
 |s::L,q,v=>by
  rw[List.foldl_cons,Zn6 L,Zqt];simp only[List.mem_cons,exists_eq_or_imp,or_assoc]
theorem Z5ga:∀ (L:List StP) (q:List Int),q.Nodup->(L.foldl (λq s=>Zjl q s.at_) q).Nodup
 |[],q,h=>h
 |s::L,q,h=>Z5ga L _ (Zd1 _ _ h)
theorem Zwfa(L:List StP)(q:List Int)(v:Int):∃ t,m.nextQ L q v=q++t:=by
 rw[nextQ]
 split
 exact Zm6 _ _;exact⟨[],(List.append_nil q).symm⟩
theorem Z8g{L:List StP}{q:List Int}{v u:Int}:u∈m.nextQ L q v↔u∈q\/(m.kd v=4/\∃ s∈L,v∈s.sources/\u∈s.at_):=by
 rw[nextQ]
 split
 rename_i h;rw[Zn6];simp only[List.mem_filter,List.contains_eq_mem,decide_eq_true_eq,and_assoc,h,true_and];rename_i h;simp[h]
theorem Z6la{L:List StP}{q:List Int}(v:Int)(h:q.Nodup):(m.nextQ L q v).Nodup:=by
 rw[nextQ]
 split
 exact Z5ga _ _ h;exact h
def Closed(m:PM)(L:List StP)(S:Int->Prop):Prop:=∀ s∈L,∀ v∈s.sources,S v->m.kd v=4->∀ u∈s.at_,S u
def AtOk(m:PM)(s:StP):Prop:=∀ v∈s.at_,0<=v/\v<m.vertices.length
structure QInv(m:PM)(L:List StP)(s:StP)(q:List Int)(i:Nat):Prop where
 nd:q.Nodup
 rng:∀ v∈q,0<=v/\v<m.vertices.length
 st:∀ v∈s.at_,v∈q
 cl:∀ x∈L,∀ v∈x.sources,v∈q.take i->m.kd v=4->∀ u∈x.at_,u∈q
 low:∀ S:Int->Prop,(∀ v∈s.at_,S v)->m.Closed L S->∀ v∈q,S v
 le:i<=q.length
theorem QInv.zero{L:List StP}{s:StP}(hs:m.AtOk s):QInv m L s (Zjl [] s.at_) 0:=by
 have e:∀ v,v∈Zjl [] s.at_↔v∈s.at_:=λv=>by rw[Zqt];simp
 refine⟨Zd1 _ _ (List.nodup_nil),λv hv=>hs v ((e v).1 hv),λv hv=>(e v).2 hv,λx _ v _ hv=>?_,λS h1 _ v hv=>h1 v ((e v).1 hv),Nat.zero_le _⟩;rw[List.take_zero]at hv;cases hv
theorem QInv.next{L:List StP}{s:StP}{q:List Int}{i:Nat}{v:Int}(hL:∀ x∈L,m.AtOk x)(h:QInv m L s q i)(hv:q[i]?=some v):QInv m L s (m.nextQ L q v) (i+1):=by
 obtain⟨t,ht⟩:=Zwfa (m:=m) L q v;have hlt:=(List.getElem?_eq_some_iff.1 hv).1;refine⟨Z6la v h.nd,λu hu=>?_,λu hu=>Z8g.2 (.inl (h.st u hu)),λx hx u hu hq hk w hw=>?_,λS h1 h2 u hu=>?_,by rw[ht,List.length_append];omega⟩
 rcases Z8g.1 hu with q|⟨_,x,hx,_,q⟩
 exact h.rng u q;exact hL x hx u q;rw[ht,List.take_append_of_le_length (by omega),Z5da hv,List.mem_append,List.mem_singleton]at hq
 rcases hq with hq|rfl
 exact Z8g.2 (.inl (h.cl x hx u hu hq hk w hw));exact Z8g.2 (.inr ⟨hk,x,hx,hu,hw⟩)
 rcases Z8g.1 hu with q|⟨hk,x,hx,hv2,q⟩
 exact h.low S h1 h2 u q;exact h2 x hx v hv2 (h.low S h1 h2 v (List.mem_of_getElem? hv)) hk u q
theorem QInv.len{L:List StP}{s:StP}{q:List Int}{i:Nat}(h:QInv m L s q i):q.length<=m.vertices.length:=nodup_len h.nd h.rng
structure QEnd(m:PM)(L:List StP)(s:StP)(q:List Int):Prop where
 nd:q.Nodup
 rng:∀ v∈q,0<=v/\v<m.vertices.length
 st:∀ v∈s.at_,v∈q
 cl:m.Closed L (· ∈ q)
 low:∀ S:Int->Prop,(∀ v∈s.at_,S v)->m.Closed L S->∀ v∈q,S v
theorem QInv.fin{L:List StP}{s:StP}{q:List Int}(h:QInv m L s q q.length):QEnd m L s q:=
 ⟨h.nd,h.rng,h.st,λx hx v hv hq hk u hu=>h.cl x hx v hv (by rw[List.take_length];exact hq) hk u hu,h.low⟩
theorem Z96{L:List StP}{s:StP}(hL:∀ x∈L,m.AtOk x):∀ (f:Nat) (q:List Int) (i:Nat),QInv m L s q i->m.vertices.length<f+i->QEnd m L s (m.bfsF L f q i)
 |0,q,i,h,hf=>by
  have:=h.len;have:=h.le;omega
 |f+1,q,i,h,hf=>by
  rw[bfsF]
  cases hv:q[i]? with
  |none=>
   have:=h.le
   have hi:i=q.length:=by
    rw[List.getElem?_eq_none_iff]at hv;omega
   subst hi;exact h.fin
  |some v=>exact Z96 hL f _ _ (h.next hL hv) (by omega)
theorem Z8f{L:List StP}{s:StP}(hL:∀ x∈L,m.AtOk x)(hs:m.AtOk s):QEnd m L s (m.reachQ L s):=Z96 hL _ _ _ (.zero hs) (by omega)
theorem QEnd.same{L:List StP}{s:StP}{q p:List Int}(h:QEnd m L s q)(k:QEnd m L s p)(v:Int):v∈q↔v∈p:=
 ⟨h.low _ k.st k.cl v,k.low _ h.st h.cl v⟩
theorem Z0ea{L:List StP}{s:StP}{q:List Int}(hL:∀ x∈L,m.AtOk x)(hs:m.AtOk s)(h:QEnd m L s q):m.reachL L s=((List.range m.vertices.length).filter fun(v:Nat)=>q.contains (v:Int)).map fun(v:Nat)=>(v:Int):=by
 rw[reachL]
 congr 1
 refine List.filter_congr λv _=>?_;rw[List.contains_eq_mem,List.contains_eq_mem];exact decide_eq_decide.2 ((Z8f hL hs).same h v)
end PM
end
section
namespace PM
variable{m:PM}{bd:List (List UInt8)->List (List UInt8)->List UInt8->Bool}{gd:List (List UInt8)->List UInt8->Int}
theorem keep_of(h:m.badL bd gd 15=[]){rule:Nat}(h1:1<=rule)(h2:rule<=15){a:Nat}(ha:a<m.places rule):m.keep bd gd rule (a:Int)=true:=by
 rcases told_eq (m:=m) (bd:=bd) (gd:=gd) h1 h2 ha with ⟨_,q⟩|⟨q,_⟩
 rw[h]at q;cases q;exact q
theorem Zho(h:m.badL bd gd 15=[]){rule:Nat}(h1:1<=rule)(h2:rule<=15){a:Int}(h0:0<=a)(ha:a<m.places rule):m.keep bd gd rule a=true:=by
 obtain⟨n,rfl⟩:∃ n:Nat,a=(n:Int):=⟨a.toNat,by omega⟩;exact keep_of h h1 h2 (by omega)
structure Wfd(m:PM):Prop where
 acy:m.Acy
 tg:∀ t:Int,0<=t->t<m.ways.length->0<=m.tg t/\m.tg t<m.vertices.length
 sc:∀ t:Int,0<=t->t<m.ways.length->0<=m.sc t/\m.sc t<m.vertices.length
 kind:∀ v:Int,0<=v->v<m.vertices.length->1<=m.kd v/\m.kd v<=12
 outs:m.OutsOk
 entry:∀ v:Int,0<=v->v<m.vertices.length->m.kd v=10->m.outI v≠[]
 fork:∀ v:Int,0<=v->v<m.vertices.length->m.kd v=6->1<(m.outI v).length
 join:∀ v:Int,0<=v->v<m.vertices.length->m.kd v=7->(m.outI v).length=1/\1<(m.intoI v).length/\∀ t∈m.intoI v,m.kd (m.sc t)=1
 init:∀ v:Int,0<=v->v<m.vertices.length->m.kd v=3->m.intoI v=[]
 lx:m.vertices.length<=512
 lw:m.ways.length<=512
 fix:∀ v:Int,0<=v->v<m.vertices.length->m.kd v≠10->m.kd v≠11->(m.vx v).of = -1/\0<=(m.vx v).region/\(m.vx v).region<m.regions.length
theorem Z0j(v:Int):(m.outI v).length=(m.out v).length:=by rw[<- wys_out v,List.length_map];rfl
theorem Zav(v:Int):(m.intoI v).length=(m.inc v).length:=by rw[<- Zkda v,List.length_map];rfl
theorem mem_out{v t:Int}:t∈m.outI v↔(0<=t/\t<m.ways.length)/\m.sc t=v:=by
 rw[outI,wysI,List.mem_map]
 constructor
 rintro⟨k,hk,rfl⟩;have:=List.mem_filter.1 hk;have h1:=List.mem_range.1 this.1;refine⟨by omega,?_⟩;have h2:=this.2;simp at h2;exact h2;rintro⟨⟨h0,h1⟩,h2⟩;refine⟨t.toNat,List.mem_filter.2 ⟨List.mem_range.2 (by omega),?_⟩,by omega⟩;rw[show((t.toNat:Nat):Int)=t by omega];simp[show(m.wy t).source=v from h2]
theorem mem_into{v t:Int}:t∈m.intoI v↔(0<=t/\t<m.ways.length)/\m.tg t=v:=by
 rw[intoI,wysI,List.mem_map]
 constructor
 rintro⟨k,hk,rfl⟩;have:=List.mem_filter.1 hk;have h1:=List.mem_range.1 this.1;refine⟨by omega,?_⟩;have h2:=this.2;simp at h2;exact h2;rintro⟨⟨h0,h1⟩,h2⟩;refine⟨t.toNat,List.mem_filter.2 ⟨List.mem_range.2 (by omega),?_⟩,by omega⟩;rw[show((t.toNat:Nat):Int)=t by omega];simp[show(m.wy t).target=v from h2]
theorem Rt.wfd(r:m.Rt)(h:m.badL bd gd 15=[]):m.Wfd:=by
 have wayr:∀ t:Int,0<=t->t<m.ways.length->(0<=m.sc t/\m.sc t<m.vertices.length)/\(0<=m.tg t/\m.tg t<m.vertices.length):=by
  intro t h0 h1;have:=r.way t.toNat (by omega);rw[show((t.toNat:Nat):Int)=t by omega]at this;simp only[wayB,inV,Bool.and_eq_true,decide_eq_true_eq]at this;exact⟨this.1.1.1.1.1.1.1.1.1.2,this.1.1.1.1.1.1.1.1.2⟩
 have pv:∀ rule:Nat,rule=2\/rule=4\/rule=5\/rule=6\/rule=8->m.places rule=m.vertices.length:=by
  rintro _ (rfl|rfl|rfl|rfl|rfl)<;>rfl
 have k4:∀ v:Int,0<=v->v<m.vertices.length->m.k4 v=true:=λv h0 h1=>Zho (rule:=4) h (by decide) (by decide) h0 (by rw[pv 4 (by simp)];exact h1);have k5:∀ v:Int,0<=v->v<m.vertices.length->m.k5 v=true:=λv h0 h1=>Zho (rule:=5) h (by decide) (by decide) h0 (by rw[pv 5 (by simp)];exact h1);have k6:∀ v:Int,0<=v->v<m.vertices.length->m.k6 v=true:=λv h0 h1=>Zho (rule:=6) h (by decide) (by decide) h0 (by rw[pv 6 (by simp)];exact h1);have k8:∀ v:Int,0<=v->v<m.vertices.length->m.k8 v=true:=λv h0 h1=>Zho (rule:=8) h (by decide) (by decide) h0 (by rw[pv 8 (by simp)];exact h1);have k2:∀ v:Int,0<=v->v<m.vertices.length->m.k2 v=true:=λv h0 h1=>Zho (rule:=2) h (by decide) (by decide) h0 (by rw[pv 2 (by simp)];exact h1)
 have entry:∀ v:Int,0<=v->v<m.vertices.length->m.kd v=10->m.outI v≠[]:=by
  intro v h0 h1 hk e;have:=k8 v h0 h1;rw[PM.k8,if_neg (by rw[show m.kd v=10 from hk];decide),if_pos hk]at this;have hl:=Z0j (m:=m) v;rw[e]at hl;simp only[Bool.and_eq_true,decide_eq_true_eq]at this;have:=this.2;rw[<- hl]at this;simp at this
 refine⟨r.acy,λt h0 h1=>(wayr t h0 h1).2,λt h0 h1=>(wayr t h0 h1).1,λv h0 h1=>?_,?_,entry,?_,?_,?_,r.lx,r.lw,?_⟩;have:=r.toRt5.vert h0 h1;simp only[vertexB,Bool.and_eq_true,decide_eq_true_eq]at this;exact⟨this.1.1.1.1.1.1.1.2,this.1.1.1.1.1.1.2⟩;intro v h0 h1 hk e;simp only[oneP,Bool.or_eq_true,beq_iff_eq,Bool.and_eq_true]at hk
 rcases hk with (hk|hk)|⟨hk,_⟩
 have:=k6 v h0 h1;rw[PM.k6,hk]at this;have hl:=Z0j (m:=m) v;rw[e]at hl;simp[<- hl]at this;have:=k8 v h0 h1;rw[PM.k8,if_pos hk]at this;have hl:=Z0j (m:=m) v;rw[e]at hl;simp[<- hl]at this;exact entry v h0 h1 hk e;intro v h0 h1 hk;have:=k4 v h0 h1;rw[PM.k4,hk]at this;rw[Z0j];simp only[beq_self_eq_true,Bool.not_true,Bool.false_or,Bool.and_eq_true,decide_eq_true_eq]at this;exact this.1.2;intro v h0 h1 hk;have:=k5 v h0 h1;rw[PM.k5,hk]at this;rw[Z0j,Zav];simp only[beq_self_eq_true,Bool.not_true,Bool.false_or,Bool.and_eq_true,decide_eq_true_eq,beq_iff_eq,List.all_eq_true]at this;refine⟨this.1.1.1,this.1.1.2,λt ht=>?_⟩;refine this.1.2 _ ?_;rw[<- Zkda v];exact List.mem_map.2 ⟨t,ht,rfl⟩;intro v h0 h1 hk;have:=k2 v h0 h1;rw[PM.k2,hk]at this;simp only[beq_self_eq_true,Bool.not_true,Bool.false_or,Bool.and_eq_true,beq_iff_eq]at this;exact List.length_eq_zero_iff.1 (by rw[Zav];exact this.2);intro v h0 h1 q1 q2;have:=r.toRt5.lies h0 h1;rw[liesB,if_neg (λq=>q.elim q1 q2)]at this;simp only[Bool.and_eq_true,beq_iff_eq,decide_eq_true_eq]at this;exact⟨this.1.1,this.1.2,this.2⟩
end PM
end
section
namespace PM
variable(m:PM)
def folB:List Int->Int->Int->Bool
 |[],f,to=>f==to
 |t::r,f,to=>decide (0<=t)&&decide (t<m.ways.length)&&(m.sc t==f)&&folB r (m.tg t) to
def restB(k:Int):Bool:=k==1||k==2||k==4||k==8||k==9||k==12
variable{m}
theorem Zc5(h:m.Wfd):∀ (f:Nat) (v:Int) (path:List Int),0<=v->v<m.vertices.length->path.Nodup->(∀ t∈path,0<=t/\t<m.ways.length)->f+path.length=m.ways.length+1 ->
  ∀ w∈m.walkF f v path,(∀ t∈w.1,0<=t/\t<m.ways.length)/\w.1.length<=m.ways.length+1/\∃ r,w.1=path++r/\(∀ t∈r,m.oneP (m.sc t)=true)/\(w.2 = -1\/((0<=w.2/\w.2<m.vertices.length)/\m.oneP w.2=false/\m.folB r v w.2=true))
 |0,v,path,_,_,hn,hr,hf=>by
  have:=nodup_len hn hr;omega
 |f+1,v,path,h0,h1,hn,hr,hf=>by
  intro w hw;have hl:=nodup_len hn hr;rw[walkF]at hw
  split at hw
  rename_i hp;obtain⟨t,ht,hw⟩:=List.mem_flatMap.1 hw;obtain⟨htr,hts⟩:=mem_out.1 ht;have htg:=h.tg t htr.1 htr.2
  have hr2:∀ x∈path++[t],0<=x/\x<m.ways.length:=λx hx=>by
   rcases List.mem_append.1 hx with hx|hx
   exact hr x hx;rw[List.mem_singleton.1 hx];exact htr
  split at hw
  rw[List.mem_singleton.1 hw];exact⟨hr2,by rw[List.length_append,List.length_singleton];omega,[t],rfl,λx hx=>by rw[List.mem_singleton.1 hx,hts];exact hp,.inl rfl⟩;rename_i hc;rw[List.contains_eq_mem,decide_eq_true_eq]at hc
  have hn2:(path++[t]).Nodup:=by
   rw[List.nodup_append];refine⟨hn,by simp,λa ha b hb=>?_⟩;rw[List.mem_singleton.1 hb];rintro rfl;exact hc ha
  obtain⟨g1,g2,r,g3,g7,g4⟩:=Zc5 h f _ _ htg.1 htg.2 hn2 hr2 (by rw[List.length_append,List.length_singleton];omega) w hw;refine⟨g1,g2,t::r,by rw[g3,List.append_assoc];rfl,λx hx=>?_,?_⟩
  rcases List.mem_cons.1 hx with rfl|hx
  rw[hts];exact hp;exact g7 x hx
  rcases g4 with g4|⟨g4,g5,g6⟩
  exact .inl g4;refine .inr ⟨g4,g5,?_⟩;rw[folB,decide_eq_true htr.1,decide_eq_true htr.2,hts,g6];simp;rename_i hp;rw[List.mem_singleton.1 hw];rw[Bool.not_eq_true]at hp;exact⟨hr,by show path.length<=_;omega,[],(List.append_nil _).symm,(λx hx=>(by cases hx)),.inr ⟨⟨h0,h1⟩,hp,by simp[folB]⟩⟩
structure WayF(m:PM)(t:Int)(w:List Int×Int):Prop where
 rng:∀ x∈w.1,0<=x/\x<m.ways.length
 len:w.1.length<=m.ways.length+1
 hd:∃ r,w.1=t::r/\∀ x∈r,m.oneP (m.sc x)=true
 fo:w.2 = -1\/((0<=w.2/\w.2<m.vertices.length)/\m.oneP w.2=false/\m.folB w.1 (m.sc t) w.2=true)
theorem waysL_ok(h:m.Wfd){t:Int}(t0:0<=t)(t1:t<m.ways.length):∀ w∈m.waysL t,m.WayF t w:=by
 intro w hw;have htg:=h.tg t t0 t1;obtain⟨g1,g2,r,g3,g7,g4⟩:=Zc5 h _ _ _ htg.1 htg.2 (by simp) (λx hx=>by rw[List.mem_singleton.1 hx];exact⟨t0,t1⟩) (by rw[List.length_singleton];omega) w hw;refine⟨g1,g2,⟨r,g3,g7⟩,g4.imp id fun⟨a,b,c⟩=>⟨a,b,?_⟩⟩;rw[g3,List.singleton_append,folB,decide_eq_true t0,decide_eq_true t1,c];simp
theorem forkF_ok:∀ (os:List Int) (acc:List (Int×List Int)),∀ es∈m.forkF os acc,es.length=acc.length+os.length/\∀ e∈es,e∈acc\/∃ o∈os,(e.2,e.1)∈m.waysL o
 |[],acc,es,he=>by
  rw[forkF]at he;rw[List.mem_singleton.1 he];exact⟨by simp,λe he=>.inl he⟩
 |o::os,acc,es,he=>by
  rw[forkF]at he;obtain⟨w,hw,he⟩:=List.mem_flatMap.1 he;obtain⟨h1,h2⟩:=forkF_ok os _ es he;rw[List.length_append,List.length_singleton]at h1;refine⟨by rw[List.length_cons];omega,λe he=>?_⟩
  rcases h2 e he with q|⟨o',ho,q⟩
  rcases List.mem_append.1 q with q|q
  exact .inl q;rw[List.mem_singleton.1 q];exact .inr ⟨o,by simp,hw⟩;exact .inr ⟨o',by simp[ho],q⟩
structure StF(m:PM)(s:StP):Prop where
 first:0<=s.first/\s.first<m.ways.length
 so:s.sources≠[]
 sn:s.sources.length<=m.ways.length\/s.sources.length=1
 src:∀ v∈s.sources,0<=v/\v<m.vertices.length
 one:∀ v∈s.sources,m.kd v=4->s.sources=[v]
 en:s.ends≠[]
 el:s.ends.length<=m.ways.length+1
 bl:∀ e∈s.ends,e.2.length<=m.ways.length+1
 gl:s.guards.length<=(m.ways.length+1)*(m.ways.length+2)
 fl:s.effects.length<=m.ways.length+(m.ways.length+1)
 er:∀ t∈s.effects,0<=t/\t<m.ways.length
 gr:∀ t∈s.guards,0<=t/\t<m.ways.length
 br:∀ e∈s.ends,∀ t∈e.2,0<=t/\t<m.ways.length
 ar:∀ e∈s.ends,e.1 = -1\/(0<=e.1/\e.1<m.vertices.length)
theorem flat_le{n:Nat}:∀ (l:List (Int×List Int)),(∀ e∈l,e.2.length<=n)->(l.flatMap (·.2)).length<=l.length*n
 |[],_=>by simp
 |e::l,h=>by
  have:=flat_le l λx hx=>h x (by simp[hx]);have:=h e (by simp);rw[List.flatMap_cons,List.length_append,List.length_cons,Nat.add_mul];omega
structure Beg(m:PM)(sources into:List Int)(by_:Int):Prop where
 byr:0<=by_/\by_<m.ways.length
 first:0<=into.headD by_/\into.headD by_<m.ways.length
 so:sources≠[]
 sn:sources.length<=m.ways.length\/sources.length=1
 src:∀ v∈sources,0<=v/\v<m.vertices.length
 one:∀ v∈sources,m.kd v=4->sources=[v]
 il:into.length<=m.ways.length
 ir:∀ t∈into,0<=t/\t<m.ways.length
theorem Zlz(h:m.Wfd){sources into:List Int}{by_:Int}(b:m.Beg sources into by_):∀ s∈m.strL sources into by_,m.StF s:=by
 intro s hs;obtain⟨w,hw,hs⟩:=List.mem_flatMap.1 hs;have hf:=waysL_ok h b.byr.1 b.byr.2 w hw;have hf2:=hf.len;have hil:=b.il
 have er:∀ t∈into++w.1,0<=t/\t<m.ways.length:=λt ht=>by
  rcases List.mem_append.1 ht with ht|ht
  exact b.ir t ht;exact hf.rng t ht
 rw[strW]at hs
 split at hs
 rename_i q;obtain⟨es,he,rfl⟩:=List.mem_map.1 hs;obtain⟨k1,k2⟩:=forkF_ok _ _ es he
 have k2:∀ e∈es,∃ o:Int,(0<=o/\o<m.ways.length)/\m.WayF o (e.2,e.1):=λe he=>by
  rcases k2 e he with q|⟨o,ho,q⟩
  cases q;have:=Zfj ho;exact⟨o,this,waysL_ok h this.1 this.2 _ q⟩
 have k3:∀ e∈es,e.2.length<=m.ways.length+1:=λe he=>by obtain⟨o,_,q⟩:=k2 e he;exact q.len
 have k4:=flat_le es k3
 have k5:es.length<=m.ways.length:=by
  rw[k1,List.length_nil,Nat.zero_add];exact wysI_len ..
 have hout:m.outI w.2≠[]:=by
  have hr:0<=w.2/\w.2<m.vertices.length:=hf.fo.resolve_left q.1 |>.1
  have q2:=q.2;simp only[allP,Bool.or_eq_true,beq_iff_eq,Bool.and_eq_true,decide_eq_true_eq]at q2;intro e
  rcases q2 with q2|⟨_,q2⟩
  have:=h.fork _ hr.1 hr.2 q2;rw[e]at this;cases this;rw[e]at q2;cases q2
 refine⟨b.first,b.so,b.sn,b.src,b.one,?_,by show es.length<=_;omega,k3,?_,?_,er,?_,?_,?_⟩
 show es≠[]
 intro e;rw[e]at k1;exact hout (List.length_eq_zero_iff.1 (by simpa using k1.symm))
 show(w.1++es.flatMap (·.2)).length<=_
 rw[List.length_append];have:es.length*(m.ways.length+1)<=m.ways.length*(m.ways.length+1):=Nat.mul_le_mul_right _ k5
 have e:(m.ways.length+1)*(m.ways.length+2)=m.ways.length*(m.ways.length+1)+(m.ways.length+1)+(m.ways.length+1):=by
  rw[Nat.mul_add,Nat.mul_comm (m.ways.length+1) m.ways.length,Nat.add_mul];omega
 omega
 show(into++w.1).length<=_
 rw[List.length_append];omega;intro t ht
 rcases List.mem_append.1 ht with ht|ht
 exact hf.rng t ht;obtain⟨e,he,ht⟩:=List.mem_flatMap.1 ht;obtain⟨o,_,q⟩:=k2 e he;exact q.rng t ht;intro e he t ht;obtain⟨o,_,q⟩:=k2 e he;exact q.rng t ht;intro e he;obtain⟨o,_,q⟩:=k2 e he;exact q.fo.imp id λq=>q.1;rw[List.mem_singleton.1 hs];refine⟨b.first,b.so,b.sn,b.src,b.one,by simp,by simp,?_,?_,?_,er,hf.rng,?_,?_⟩;intro e he;rw[List.mem_singleton.1 he];exact Nat.zero_le _
 show w.1.length<=_
 exact Nat.le_trans hf2 (Nat.le_mul_of_pos_right _ (by omega))
 show(into++w.1).length<=_
 rw[List.length_append];omega;intro e he t ht;rw[List.mem_singleton.1 he]at ht;cases ht;intro e he;rw[List.mem_singleton.1 he];exact hf.fo.imp id λq=>q.1
theorem headD_mem{l:List Int}{d:Int}(h:l≠[]):l.headD d∈l:=by
 cases l with
 |nil=>exact absurd rfl h
 |cons a t=>exact List.mem_cons_self ..
theorem Zi6(h:m.Wfd){t:Int}(t0:0<=t)(t1:t<m.ways.length)(hk:m.kd (m.tg t)=7):m.Beg ((m.intoI (m.tg t)).map m.sc) (m.intoI (m.tg t)) ((m.outI (m.tg t)).headD 0):=by
 have htg:=h.tg t t0 t1;obtain⟨j1,j2,j3⟩:=h.join _ htg.1 htg.2 hk;have hin:∀ x∈m.intoI (m.tg t),0<=x/\x<m.ways.length:=λx hx=>Zfj hx
 have hne:m.intoI (m.tg t)≠[]:=by intro e;rw[e]at j2;cases j2
 have hon:m.outI (m.tg t)≠[]:=by intro e;rw[e]at j1;cases j1
 refine⟨Zfj (headD_mem hon),Zfj (headD_mem hne),by simpa using hne,.inl (by rw[List.length_map];exact wysI_len ..),λv hv=>?_,λv hv q=>?_,wysI_len ..,hin⟩;obtain⟨x,hx,rfl⟩:=List.mem_map.1 hv;have:=hin x hx;exact h.sc x this.1 this.2;obtain⟨x,hx,rfl⟩:=List.mem_map.1 hv;rw[j3 x hx]at q;cases q
theorem Zuu(h:m.Wfd){t:Int}(t0:0<=t)(t1:t<m.ways.length):m.Beg [m.sc t] [] t:=
 ⟨⟨t0,t1⟩,⟨t0,t1⟩,by simp,.inr rfl,λv hv=>by rw[List.mem_singleton.1 hv];exact h.sc t t0 t1,λv hv _=>by rw[List.mem_singleton.1 hv],Nat.zero_le _,λx hx=>by cases hx⟩
theorem Zkia(h:m.Wfd){t:Int}(t0:0<=t)(t1:t<m.ways.length):∀ s∈m.beginL t,m.StF s:=by
 intro s hs;rw[beginL]at hs
 split at hs
 rename_i hk
 split at hs
 exact Zlz h (Zi6 h t0 t1 hk) s hs;cases hs
 split at hs
 exact Zlz h (Zuu h t0 t1) s hs;cases hs
theorem allL_ok(h:m.Wfd):∀ s∈m.allL,m.StF s:=by
 intro s hs;obtain⟨t,ht,hs⟩:=List.mem_flatMap.1 hs;have:=List.mem_range.1 ht;exact Zkia h (by omega) (by omega) s hs
end PM
end
section
namespace PM
variable(m:PM)
def Z0s(p:List Int):Int:=p.getLastD (-1)
def goesB(s:StP):Bool:=
 let into:=if 1<s.sources.length then s.sources.length else 0
 let from_:=if 1<s.sources.length then m.tg (s.effects.headD 0)else s.sources.headD 0
 let path:=s.effects.drop into
 decide (s.sources≠[])&&decide (s.effects≠[])&&decide (s.ends≠[])&&decide (into<s.effects.length) &&
  ((List.range into).all λi=>m.folB [s.effects.getD i 0] (s.sources.getD i 0) from_) &&
  m.folB path from_ (m.tg (Z0s path)) &&
  (s.ends.all λe=>decide (0<=e.1)&&decide (e.1<m.vertices.length)&&m.folB e.2 (m.tg (Z0s path)) e.1 && !(decide (1<s.ends.length)&&e.2==[])&&restB (m.kd e.1)) &&
  (path++s.ends.flatMap (·.2)==s.guards)
variable{m}
theorem Zbk:∀ (p:List Int) (a b:Int),p≠[]->m.folB p a b=true->m.tg (Z0s p)=b
 |[t],a,b,_,h=>by
  simp only[folB,Bool.and_eq_true,beq_iff_eq]at h;exact h.2
 |t::u::r,a,b,_,h=>by
  rw[folB,Bool.and_eq_true]at h;have:=Zbk (u::r) _ _ (by simp) h.2;simpa[Z0s]using this
theorem Znma{p:List Int}(h:p≠[]):Z0s p∈p:=by
 unfold Z0s;rw[List.getLastD_eq_getLast?,List.getLast?_eq_some_getLast h];exact List.getLast_mem h
theorem rest_of(h:m.Wfd){by_:Int}{w:List Int×Int}(hf:m.WayF by_ w)(hb:m.kd (m.tg by_)=7->m.kd (m.sc by_)≠1)(hne:w.2 ≠ -1)(hp:m.allP w.2=false):restB (m.kd w.2)=true:=by
 obtain⟨⟨v0,v1⟩,hone,hfo⟩:=hf.fo.resolve_left hne;obtain⟨r,hr,hr2⟩:=hf.hd
 have hpn:w.1≠[]:=by rw[hr];simp
 have hl:=Zbk w.1 _ _ hpn hfo;have hlm:=Znma hpn;have hlr:=hf.rng _ hlm;have hin:Z0s w.1∈m.intoI w.2:=mem_into.2 ⟨hlr,hl⟩;have hk:=h.kind _ v0 v1
 have n3:m.kd w.2≠3:=λq=>by rw[h.init _ v0 v1 q]at hin;cases hin
 have n7:m.kd w.2≠7:=λq=>by
  have hs:=(h.join _ v0 v1 q).2.2 _ hin;rw[hr]at hlm
  rcases List.mem_cons.1 hlm with e|hlm2
  rw[<- hr]at e;rw[e]at hs hl;exact hb (by rw[hl];exact q) hs;have:=hr2 _ hlm2;rw[<- hr]at this;simp only[oneP,hs]at this;simp at this
 have n10:m.kd w.2≠10:=λq=>by
  have h1:=h.entry _ v0 v1 q;have h1:=List.length_pos_iff.2 h1;simp only[oneP,q]at hone;simp only[allP,q]at hp;simp at hone hp;omega
 have n5:m.kd w.2≠5:=λq=>by simp[oneP,q]at hone
 have n11:m.kd w.2≠11:=λq=>by simp[oneP,q]at hone
 have n6:m.kd w.2≠6:=λq=>by simp[allP,q]at hp
 generalize m.kd w.2=k at *
 have:k=1\/k=2\/k=4\/k=8\/k=9\/k=12:=by omega
 rcases this with rfl|rfl|rfl|rfl|rfl|rfl<;>rfl
def EndsR(m:PM)(s:StP):Prop:=∀ e∈s.ends,e.1 ≠ -1/\(e.2=[]\/m.kd e.1=1)
theorem Zhu(h:m.Wfd){sources into:List Int}{by_:Int}(b:m.Beg sources into by_)(hb:m.kd (m.tg by_)=7->m.kd (m.sc by_)≠1)
  (hc:(into=[]/\sources=[m.sc by_])\/(1<into.length/\sources=into.map m.sc/\∀ t∈into,m.tg t=m.sc by_)):∀ s∈m.strL sources into by_,m.EndsR s->m.goesB s=true:=by
 intro s hs he;obtain⟨w,hw,hs⟩:=List.mem_flatMap.1 hs;have hf:=waysL_ok h b.byr.1 b.byr.2 w hw;obtain⟨r,hr,hr2⟩:=hf.hd
 have hpn:w.1≠[]:=by rw[hr];simp
 have key:∀ s:StP,s.sources=sources->s.effects=into++w.1->s.ends≠[]->m.folB w.1 (m.sc by_) (m.tg (Z0s w.1))=true ->
   (∀ e∈s.ends,(0<=e.1/\e.1<m.vertices.length)/\m.folB e.2 (m.tg (Z0s w.1)) e.1=true/\(1<s.ends.length->e.2≠[])/\restB (m.kd e.1)=true)->w.1++s.ends.flatMap (·.2)=s.guards->m.goesB s=true:=by
  intro s e1 e2 e3 e4 e5 e6
  have hd:(s.effects.drop (if 1<s.sources.length then s.sources.length else 0))=w.1:=by
   rw[e1,e2]
   rcases hc with ⟨rfl,rfl⟩|⟨h1,rfl,_⟩
   rfl;rw[List.length_map,if_pos h1,List.drop_left]
  have hfr:(if 1<s.sources.length then m.tg (s.effects.headD 0)else s.sources.headD 0)=m.sc by_:=by
   rw[e1,e2]
   rcases hc with ⟨rfl,rfl⟩|⟨h1,rfl,h2⟩
   rfl
   .rw[List.length_map,if_pos h1]
    cases into with
    |nil=>cases h1
    |cons a t=>exact h2 a (by simp)
  have hlt:(if 1<s.sources.length then s.sources.length else 0)<s.effects.length:=by
   have:=List.length_pos_iff.2 hpn;rw[e1,e2,List.length_append]
   rcases hc with ⟨rfl,rfl⟩|⟨h1,rfl,h2⟩
   simpa using this;rw[List.length_map,if_pos h1];omega
  have hal:((List.range (if 1<s.sources.length then s.sources.length else 0)).all λi=>m.folB [s.effects.getD i 0] (s.sources.getD i 0) (m.sc by_))=true:=by
   rw[List.all_eq_true];intro i hi;rw[List.mem_range]at hi;rw[e1]at hi
   rcases hc with ⟨rfl,rfl⟩|⟨h1,hs2,h2⟩
   exact absurd hi (Nat.not_lt_zero _);rw[hs2,List.length_map,if_pos h1]at hi;have hg:into[i]?=some into[i]:=List.getElem?_eq_getElem hi;have hm:=List.getElem_mem hi;have hir:=b.ir _ hm;rw[e1,e2,List.getD_eq_getElem?_getD,List.getElem?_append_left hi,hg,hs2,List.getD_eq_getElem?_getD,List.getElem?_map,hg];simp only[Option.getD_some,Option.map_some,folB,decide_eq_true hir.1,decide_eq_true hir.2,h2 _ hm,beq_self_eq_true,Bool.and_self]
  rw[goesB];simp only[hd,hfr,hal,e4,e6];rw[decide_eq_true hlt,decide_eq_true e3,decide_eq_true (show s.sources≠[] by rw[e1];exact b.so),decide_eq_true (show s.effects≠[] by rw[e2];simp[hpn])];simp only[Bool.true_and,beq_self_eq_true,Bool.and_true,List.all_eq_true];intro e hem;obtain⟨⟨q1,q2⟩,q3,q4,q5⟩:=e5 e hem;rw[decide_eq_true q1,decide_eq_true q2,q3,q5]
  by_cases hlen:1<s.ends.length
  have:(e.2==[])=false:=beq_eq_false_iff_ne.2 (q4 hlen);rw[this];simp;simp[hlen]
 rw[strW]at hs
 split at hs
 rename_i q;obtain⟨es,hes,rfl⟩:=List.mem_map.1 hs;obtain⟨⟨v0,v1⟩,hone,hfo⟩:=hf.fo.resolve_left q.1;have hl:=Zbk w.1 _ _ hpn hfo;have hst:=Zlz h b _ (List.mem_flatMap.2 ⟨w,hw,by rw[strW,if_pos q];exact List.mem_map.2 ⟨es,hes,rfl⟩⟩);refine key _ rfl rfl hst.en (by rw[hl];exact hfo) (λe hem=>?_) rfl;obtain⟨_,k2⟩:=forkF_ok _ _ es hes;obtain⟨n1,n2⟩:=he e hem
 rcases k2 e hem with q3|⟨o,ho,q3⟩
 cases q3;obtain⟨hor,hos⟩:=mem_out.1 ho;have hg:=waysL_ok h hor.1 hor.2 _ q3;obtain⟨g1,g2,g3⟩:=hg.fo.resolve_left n1;obtain⟨r',hr',_⟩:=hg.hd
 have hbn:e.2≠[]:=by show e.2≠[];have:e.2=o::r':=hr';rw[this];simp
 refine⟨g1,?_,λ_=>hbn,?_⟩;rw[hl,<- hos];exact g3;rw[n2.resolve_left hbn];rfl
 .rename_i q
  have hs:=List.mem_singleton.1 hs;subst hs;have n1:w.2 ≠ -1:=(he (w.2,[]) (by simp)).1;obtain⟨⟨v0,v1⟩,hone,hfo⟩:=hf.fo.resolve_left n1;have hl:=Zbk w.1 _ _ hpn hfo;refine key _ rfl rfl (by simp) (by rw[hl];exact hfo) (λe hem=>?_) (by simp);rw[List.mem_singleton.1 hem];refine⟨⟨v0,v1⟩,by rw[hl];simp[folB],λq=>absurd q (by simp),?_⟩;refine rest_of h hf hb n1 ?_
  cases q4:m.allP w.2 with
  |false=>rfl
  |true=>exact absurd ⟨n1,q4⟩ q
theorem Z20(h:m.Wfd){t:Int}(t0:0<=t)(t1:t<m.ways.length):∀ s∈m.beginL t,m.EndsR s->m.goesB s=true:=by
 intro s hs;have htg:=h.tg t t0 t1;rw[beginL]at hs
 split at hs
 rename_i hk
 split at hs
 obtain⟨j1,j2,j3⟩:=h.join _ htg.1 htg.2 hk
 have hon:m.outI (m.tg t)≠[]:=by intro e;rw[e]at j1;cases j1
 have hb:=headD_mem (d:=0) hon;have hsb:m.sc ((m.outI (m.tg t)).headD 0)=m.tg t:=(mem_out.1 hb).2;refine Zhu h (Zi6 h t0 t1 hk) (λ_=>by rw[hsb,hk];decide) (.inr ⟨j2,rfl,λx hx=>?_⟩) s hs;rw[hsb];exact(mem_into.1 hx).2;cases hs;rename_i hk
 split at hs
 exact Zhu h (Zuu h t0 t1) (λq=>absurd q hk) (.inl ⟨rfl,rfl⟩) s hs;cases hs
end PM
end
section
namespace PM
variable(m:PM)(bd:List (List UInt8)->List (List UInt8)->List UInt8->Bool)(gd:List (List UInt8)->List UInt8->Int)
def forkedB(l:List Int):Bool:=l.any λt=>m.kd (m.sc t)==5
def endAt(s:StP)(i:Nat):Int×List Int:=s.ends.getD i (-1,[])
def endB(s:StP)(i:Nat):Bool:=
 !((endAt s i).1 == -1)&&((endAt s i).2==[]||m.kd (endAt s i).1==1) && !m.forkedB (endAt s i).2&&(List.range i).all λk=>m.orthoB (endAt s k).1 (endAt s i).1
def srcOf(s:StP):Int:=s.sources.headD 0
def fixB(v:Int):Bool:=m.kd v==3||m.kd v==8||m.kd v==9
def inReach(s:StP)(v:Int):Bool:=
 if m.fixB (srcOf s)=true then m.withinB v (m.vx (srcOf s)).region else if m.kd (srcOf s)=1/\(m.wy s.first).kind=2 then m.inB v (srcOf s)else true
def rightS(s:StP)(R:List Int):Bool:=((List.range s.ends.length).all λi=>m.endB s i) && !(m.fixB (srcOf s)&&m.forkedB s.effects)&&R.all λv=>m.inReach s v
def withR:List (StP×List Int):=m.allL.map λs=>(s,m.reachL m.allL s)
def statP:List (StP×List Int)×Int×Int:=
 if(m.checkW bd gd).2≠0 then([],0,(m.checkW bd gd).2)else if(m.checkW bd gd).1≠[]then([],0,170)else if 4096<m.allL.length then([],0,3)else
  match m.withR.find? λp => !m.rightS p.1 p.2 with
  |some p=>([],p.1.first,230)
  |none=>(m.withR,0,0)
variable{m bd gd}
structure StOk(m:PM):Prop where
 rt:m.Rt
 wfd:m.Wfd
 le:m.allL.length<=4096
 right:∀ s∈m.allL,m.rightS s (m.reachL m.allL s)=true
theorem statP_ok(h:(m.statP bd gd).2.2=0):m.StOk/\(m.statP bd gd).1=m.withR:=by
 rw[statP]at h⊢
 by_cases h1:(m.checkW bd gd).2≠0
 rw[if_pos h1]at h;exact absurd h h1;rw[if_neg h1]at h⊢
 by_cases h2:(m.checkW bd gd).1≠[]
 rw[if_pos h2]at h;cases h;rw[if_neg h2]at h⊢
 by_cases h3:4096<m.allL.length
 rw[if_pos h3]at h;cases h;rw[if_neg h3]at h⊢
 have hr:(m.rightP).2.2=0:=by
  by_cases q:(m.rightP).2.2=0
  exact q;exact absurd (by rw[checkW,if_pos q];exact q) h1
 have hb:m.badL bd gd 15=[]:=by
  rw[checkW,if_neg (by rw[hr];simp)]at h2;exact Classical.not_not.1 h2
 have rt:=rt_of (right_er.1 hr)
 split at h
 cases h;rename_i hn;refine⟨⟨rt,rt.wfd hb,by omega,λs hs=>?_⟩,rfl⟩;have:=List.find?_eq_none.1 hn (s,m.reachL m.allL s) (List.mem_map.2 ⟨s,hs,rfl⟩);simpa using this
theorem StOk.ends(h:m.StOk){s:StP}(hs:s∈m.allL):m.EndsR s:=by
 intro e he;have:=h.right s hs;simp only[rightS,Bool.and_eq_true,List.all_eq_true,List.mem_range]at this;obtain⟨i,hi,rfl⟩:=List.getElem_of_mem he;have q:=this.1.1 i hi
 have eg:endAt s i=s.ends[i]:=by rw[endAt,List.getD_eq_getElem?_getD,List.getElem?_eq_getElem hi];rfl
 simp only[endB,eg,Bool.and_eq_true,Bool.not_eq_true',beq_eq_false_iff_ne,Bool.or_eq_true,beq_iff_eq]at q;exact⟨q.1.1.1,q.1.1.2⟩
theorem StOk.lost(h:m.StOk){s:StP}(hs:s∈m.allL):s.lost=false:=by
 rw[StP.lost,List.any_eq_false];intro e he;have:=(h.ends hs e he).1;simpa using this
theorem StOk.at_(h:m.StOk){s:StP}(hs:s∈m.allL):s.at_=s.ends.map (·.1):=by
 rw[StP.at_,h.lost hs];rfl
theorem StOk.atok(h:m.StOk):∀ s∈m.allL,m.AtOk s:=by
 intro s hs v hv;rw[h.at_ hs]at hv;obtain⟨e,he,rfl⟩:=List.mem_map.1 hv;exact((allL_ok h.wfd s hs).ar e he).resolve_left (h.ends hs e he).1
theorem Wfd.atok(h:m.Wfd):∀ s∈m.allL,m.AtOk s:=by
 intro s hs v hv;unfold StP.at_ at hv
 split at hv
 cases hv;rename_i hl;rw[Bool.not_eq_true,StP.lost,List.any_eq_false]at hl;obtain⟨e,he,rfl⟩:=List.mem_map.1 hv;refine((allL_ok h s hs).ar e he).resolve_left λq=>?_;have:=hl e he;rw[q]at this;exact this rfl
theorem StOk.goes(h:m.StOk){s:StP}(hs:s∈m.allL):m.goesB s=true:=by
 obtain⟨t,ht,hs2⟩:=List.mem_flatMap.1 hs;have:=List.mem_range.1 ht;exact Z20 h.wfd (by omega) (by omega) s hs2 (h.ends hs)
theorem Zzk(h:m.StOk){s:StP}(hs:s∈m.allL){v:Int}:v∈m.reachL m.allL s↔v∈m.reachQ m.allL s:=by
 have q:=Z8f h.atok (h.atok s hs);rw[reachL,List.mem_map]
 constructor
 rintro⟨k,hk,rfl⟩;have:=(List.mem_filter.1 hk).2;rwa [List.contains_eq_mem,decide_eq_true_eq]at this;intro hv;have hr:=q.rng v hv;refine⟨v.toNat,List.mem_filter.2 ⟨List.mem_range.2 (by omega),?_⟩,by omega⟩;rw[show((v.toNat:Nat):Int)=v by omega,List.contains_eq_mem,decide_eq_true_eq];exact hv
theorem reachL_rise(L:List StP)(s:StP):List.Pairwise (· < ·) (m.reachL L s):=by
 rw[reachL,List.pairwise_map]
 refine(List.Pairwise.filter _ List.pairwise_lt_range).imp fun{a b} h=>by omega
theorem reachL_rng(L:List StP)(s:StP):∀ v∈m.reachL L s,0<=v/\v<m.vertices.length:=by
 intro v hv;rw[reachL,List.mem_map]at hv;obtain⟨k,hk,rfl⟩:=hv;have:=List.mem_range.1 (List.mem_filter.1 hk).1;omega
theorem reach_ends(h:m.StOk){s:StP}(hs:s∈m.allL):∀ e∈s.ends,e.1∈m.reachL m.allL s:=by
 intro e he;rw[Zzk h hs];refine(Z8f h.atok (h.atok s hs)).st _ ?_;rw[h.at_ hs];exact List.mem_map.2 ⟨e,he,rfl⟩
theorem reach_closed(h:m.StOk){s x:StP}(hs:s∈m.allL)(hx:x∈m.allL)(hv:srcOf x∈m.reachL m.allL s)(hk:m.kd (srcOf x)=4):∀ u∈m.reachL m.allL x,u∈m.reachL m.allL s:=by
 intro u hu;rw[Zzk h hs]at hv⊢;rw[Zzk h hx]at hu;have qs:=Z8f h.atok (h.atok s hs);have qx:=Z8f h.atok (h.atok x hx);have hm:srcOf x∈x.sources:=headD_mem (allL_ok h.wfd x hx).so;exact qx.low (· ∈ m.reachQ m.allL s) (λw hw=>qs.cl x hx _ hm hv hk w hw) qs.cl u hu
end PM
end
end Go.Hs
end

section
namespace Go.Hs
open Go.Proofs
set_option maxHeartbeats 1000000
set_option maxRecDepth 10000
structure PlM where
 parent:Int
 region:Int
 depth:Int
 state:Bool
 point:Bool
 out:Sl Int
 into:Sl Int
structure IxM where
 places:Sl PlM
 kids:V
 owned:V
 points:V
def Zwo(c:Col)(p:PlM):V:=.agg [.int .i64 p.parent,.int .i64 p.region,.int .i64 p.depth,.bool p.state,.bool p.point,Za c 1 (V.int .i64) p.out,Za c 1 (V.int .i64) p.into]
theorem Z4d(c:Col)(p:PlM):Zwo c p=.agg [.int .i64 p.parent,.int .i64 p.region,.int .i64 p.depth,.bool p.state,.bool p.point,Za c 1 (V.int .i64) p.out,Za c 1 (V.int .i64) p.into]:=rfl
theorem plCells(c:Col)(p:PlM):(Zwo c p).cells.length=7:=rfl
def ixV(b c d:Col)(x:IxM):V:=.view b (.agg [Za c 7 (Zwo d) x.places,x.kids,x.owned,x.points])
theorem Zhh(b c d:Col)(x:IxM):ixV b c d x=.view b (.agg [Za c 7 (Zwo d) x.places,x.kids,x.owned,x.points]):=rfl
def IxM.rc(g:Col->Col)(x:IxM):IxM:=⟨x.places,x.kids.recol g,x.owned.recol g,x.points.recol g⟩
theorem Z2ea(g:Col->Col)(x:IxM):(x.rc g).places=x.places:=rfl
theorem Zsu(g:Col->Col)(c d:Col)(s:Sl PlM):(Za c 7 (Zwo d) s).recol g=Za (g c) 7 (Zwo (g d)) s:=Zdb g c 7 (λp=>by simp only[Z4d,Z4a,List.map_cons,List.map_nil,Zwa,Zwq,Z7a]) s
theorem Zz5(g:Col->Col)(b c d:Col)(x:IxM):(ixV b c d x).recol g=ixV (g b) (g c) (g d) (x.rc g):=by
 simp only[Zhh,V.recol,Zja,Zsu,IxM.rc]
theorem Zina(b c d:Col)(x:IxM):(ixV b c d x).cells=[ixV b c d x]:=rfl
theorem Zxka(b c d:Col)(x:IxM):(ixV b c d x).solid=true:=rfl
attribute[go_sem]Z2ea Zsu Zz5 Zina Zxka
theorem Zhd(G:Nat->V)(b c d:Col)(x:IxM)(v:Int):Spec Tryz.prog G 112 [ixV b c d x,.int .i64 v] Zk (λw _=>w=.bool (decide (0<=v)&&decide (v<x.places.l.length))):=by
 refine Zo 0 20 [.tmp 4] Tryz.func112 λX=>?_
 by_cases h0:0<=v
 have q0:decide (v>=0)=true:=zT;have e0:decide (0<=v)=true:=zT;rw[e0];exact Zq (zi q0 Zhh);have q0:decide (v>=0)=false:=zF;have e0:decide (0<=v)=false:=zF;rw[e0];exact Zq (zi q0 Zhh)
theorem Z6m(G:Nat->V)(xv:V)(v:Int)(hc:xv.cells=[xv]:=by exact rfl)(hs:xv.solid=true:=by exact rfl):InSp Tryz.prog G 56 [xv,.int .i64 v] (Zfa Zk [(52,.dead),(53,.dead)])
  (λw H'=>∃ g2 g3,w=.func (.func 111) [] [.ptr 53 g3 0,.ptr 52 g2 0]/\H' 52=.cells .new g2 0 [xv]/\H' 53=.cells .new g3 0 [.int .i64 v]):=by
 refine Z3a 50 6 [.tmp 4] Tryz.func56 rfl rfl rfl rfl λX=>?_;simp only[Zfa];refine Zf (zi hc hs) ?_;intro g2 g3;refine Zf (zi hc hs) ?_;exact⟨g2,g3,rfl,zr,zr⟩
def chL(m:PM)(v:Int):List Int:=if 0<=v then v::m.ups v else[]
def PM.rgO(m:PM)(v:Int):Int:=if 0<=(m.vx v).of then(m.vx (m.vx v).of).region else(m.vx v).region
structure IxP(m:PM)(x:IxM):Prop where
 len:x.places.l.length=m.vertices.length
 par:∀ (i:Nat) p,x.places.l[i]?=some p->p.parent=m.around i
 reg:∀ (i:Nat) p,x.places.l[i]?=some p->p.region=m.rgO i
 st:∀ (i:Nat) p,x.places.l[i]?=some p->p.state=(m.kd i==1)
 pt:∀ (i:Nat) p,x.places.l[i]?=some p->p.point=decide (0<=(m.vx i).of)
 out:∀ (i:Nat) p,x.places.l[i]?=some p->p.out.l=m.outI i
 into:∀ (i:Nat) p,x.places.l[i]?=some p->p.into.l=m.intoI i
theorem Z36{m:PM}(a:m.Acy){v:Int}(h0:0<=v)(h1:v<m.vertices.length):chL m v=v::chL m (m.around v):=by
 unfold chL;rw[if_pos h0]
 by_cases h:0<=m.around v
 rw[if_pos h,a.ups_cons h0 h1 h];rw[if_neg h,PM.Acy.ups_nil zo]
theorem Ze5(G:Nat->V)(hG:GOk G)(b c d:Col)(x:IxM)(m:PM)(a:m.Acy)(hx:IxP m x)(v:Int)(hv:v<m.vertices.length)(g2 g3:Nat)(H:Heap)(h2:H 52=.cells .new g2 0 [ixV b c d x])(h3:H 53=.cells .new g3 0 [.int .i64 v]):
  ItSp Tryz.prog G 100 111 [.ptr 53 g3 0,.ptr 52 g2 0] H (λk:Int=>[.int .i64 k]) (chL m v):=by
 refine Zdc .plain 0 19 3 [] Tryz.func111 λX t cl σ R dom nx s0 hy hd hR _=>?_;refine AW.block ?_
 refine Zcd (fun(w:Int × σ × Heap)=>⟨Zfa emp [(0,.func t [] cl),(1,.ptr 53 g3 0),(2,.ptr 52 g2 0)],Zfa (Zia 100 w.2.2) [(52,.cells .new g2 0 [ixV b c d x]),(53,.cells .new g3 0 [.int .i64 w.1])]⟩)
  (λw=>w.1<m.vertices.length/\Z0o dom nx w.2.1 (chL m w.1)/\R w.2.1 (Zia 100 w.2.2)/\Zla nx s0 (chL m v)=Zla nx w.2.1 (chL m w.1)) (λw=>(chL m w.1).length) (v,s0,H) ⟨hv,hd,hR,rfl⟩ ?_ ?_
 exact Zva ⟨rfl,rfl,rfl,trivial⟩ ⟨h2,h3,trivial⟩ rfl;rintro⟨w,s,H1⟩ ⟨w1,wd,wR,we⟩ L hL;simp only at w1 wd wR we⊢
 by_cases h0:0<=w
 have q0:decide (w>=0)=true:=zT;rw[Z36 a h0 w1]at wd we;refine Z6 (Z6 (Zrb [5] zk (by rfl) ?_));simp -implicitDefEqProofs only[go_sem,seval,q0,Z7y];refine⟨_,rfl,Zvf hy s w zp zm wd.1 ?_ (λH2 hR2 hlow=>?_) zk (n:=5) rfl zp⟩;refine Zs ?_;exact wR;have e52:=hlow 52 zd;have e53:=hlow 53 zd;simp -implicitDefEqProofs only[go_sem,seval]at e52 e53;have wd2:=wd.2
 have we2:Zla nx s0 (chL m v)=if(nx s w).1=true then Zla nx (nx s w).2 (chL m (m.around w))else(false,(nx s w).2):=we
 generalize nx s w=r at hR2 we2 wd2⊢;obtain⟨bb,s2⟩:=r;refine Zs ?_;refine AW.weak (Zva (lo:=100) (B:=H2) (l:=[(0,.func t [] cl),(1,.ptr 53 g3 0),(2,.ptr 52 g2 0),(10,.bool bb)]) (m:=[(52,.cells .new g2 0 [ixV b c d x]),(53,.cells .new g3 0 [.int .i64 w])]) ⟨rfl,rfl,rfl,rfl,trivial⟩ ⟨e52,e53,trivial⟩ rfl) ?_;cases bb;refine Z ?_;rw[we2];refine⟨_,rfl,.inr trivial,?_⟩
 show R s2 _
 refine Zs ?_;exact hR2;obtain⟨k,rfl⟩:∃ k:Nat,w=(k:Int):=⟨w.toNat,zo⟩
 have hk:k<x.places.l.length:=by rw[hx.len];omega
 have hg:=List.getElem?_eq_getElem hk;have hp:=hx.par k _ hg;generalize x.places.l[k]=p at hg hp;refine ZTf (zi hg (zi hk (zi Z4d (zi Zhh (zi @Int.natCast_nonneg @Int.ofNat_lt))))) hG ?_;refine Zs ?_
 have hr:m.around k<m.vertices.length:=by rcases a.rng k h0 w1 with q|q<;>omega
 refine hL _ ⟨(m.around k,s2,H2),?_,⟨hr,wd2 rfl,hR2,by rw[we2]<;>rfl⟩,Zva ⟨rfl,rfl,rfl,trivial⟩ ⟨zp,?_,trivial⟩ ?_⟩
 show(chL m (m.around k)).length<(chL m k).length
 rw[Z36 a h0 w1];exact Nat.lt_succ_self _;exact zpf hp;exact zp;have q0:decide (w>=0)=false:=zF;have e0:chL m w=[]:=if_neg h0;rw[e0]at we;refine Zf q0 ?_;refine Zs ?_;rw[we];refine⟨_,rfl,.inr trivial,?_⟩
 show R s _
 refine Zs ?_;exact wR
theorem IxP.at{m:PM}{x:IxM}(h:IxP m x){v:Int}(h0:0<=v)(h1:v<m.vertices.length):∃ (k:Nat) (p:PlM),v=(k:Int)/\k<x.places.l.length/\x.places.l[k]?=some p/\p.parent=m.around v/\p.region=m.rgO v/\p.state=(m.kd v==1)/\p.point=decide (0<=(m.vx v).of)/\p.out.l=m.outI v/\p.into.l=m.intoI v:=by
 have hk:v.toNat<x.places.l.length:=by rw[h.len];omega
 have e:v=((v.toNat:Nat):Int):=zo;have hg:=List.getElem?_eq_getElem hk;refine⟨v.toNat,_,e,hk,hg,?_⟩;have h1:=h.par _ _ hg;have h2:=h.reg _ _ hg;have h3:=h.st _ _ hg;have h4:=h.pt _ _ hg;have h5:=h.out _ _ hg;have h6:=h.into _ _ hg;rw[<- e]at h1 h2 h3 h4 h5 h6;exact⟨h1,h2,h3,h4,h5,h6⟩
theorem Zft{m:PM}(a:m.Acy){v:Int}(h1:v<m.vertices.length):∀ k∈chL m v,0<=k/\k<m.vertices.length:=by
 intro k hk;unfold chL at hk
 split at hk
 rename_i h0;exact a.chain h0 h1 hk;cases hk
theorem hpEq{H H':Heap}(h:H=H':=by funext o;simp only[upd];(repeat' split)<;>first|rfl|omega):H=H':=h
def anJ(b:Bool):Option Code:=if b=true then some .ret else none
theorem Zyma(G:Nat->V)(hG:GOk G)(b c d:Col)(x:IxM)(m:PM)(a:m.Acy)(hx:IxP m x)(v r:Int)(h0:0<=v)(h1:v<m.vertices.length):
  Spec Tryz.prog G 69 [ixV b c d x,.int .i64 v,.int .i64 r] Zk (λw _=>w=.bool ((chL m v).any λu=>m.rgO u==r)):=by
 refine ZoM 100 26 [.cell 6 4] Tryz.func69 λX=>?_
 have e0:(decide (0<=v)&&decide (v<x.places.l.length))=true:=by rw[hx.len,Bool.and_eq_true];exact⟨zT,zT⟩
 refine Z ?_;intro g3 g5 g6;refine Z ?_;refine Zc hG ?_ (s:=Zhd G _ _ _ _ v);refine Zg e0 ?_;refine CallA.inl [(52,.dead),(53,.dead)] zk ?_ ((Z6m G (ixV b c d x) v).mono ?_);intro p hp;simp only[List.mem_cons,List.not_mem_nil,or_false]at hp
 rcases hp with rfl|rfl<;>rfl
 rintro w H' ⟨g2,g3',rfl,e2,e3⟩;simp -implicitDefEqProofs only[go_sem,seval,Zfa,e2,e3];refine AW.block ?_
 refine Zxh 50 100 190 150 (λs=>upd (upd (upd Zk 103 (.cells .new g3 0 [ixV b c d x])) 105 (.cells .new g5 0 [.int .i64 r])) 106 (.cells .new g6 0 [.bool s])) (λ_ k=>m.rgO k==r) anJ (λ_ k=>0<=k/\k<m.vertices.length) false rfl
  (λl r'=>Ze5 G hG b c d x m a hx v h1 g2 g3' _ zp zp) ?_ (Zci rfl λk hk _=>Zft a h1 k hk) ?_ ?_
 refine Zs ?_;exact Zea _ _ _ rfl
 .rintro l Y s k hr ⟨k0,k1⟩ hj
  cases s;rotate_left;cases hj;refine Zs ?_;refine AW.region zk ?_;refine Zs ?_;intro Z _;obtain⟨n,p,rfl,hk,hg,_,hp,_⟩:=hx.at k0 k1;refine ZTf (zi hg (zi hk (zi Z4d (zi Zhh (zi @Int.natCast_nonneg @Int.ofNat_lt))))) hG ?_;rw[hp];cases q:(m.rgO (n:Int)==r);refine Zf q ?_;exact⟨rfl,Zea _ _ _ rfl⟩;refine Zf q ?_;refine AW.ret ?_;refine Zsf q ?_;exact⟨rfl,hpEq⟩
 rintro H2 sf hs h2 h3
 have hs:sf=(chL m v).any λu=>m.rgO u==r:=by rw[hs];exact Znv (λk=>m.rgO k==r) _
 cases sf;refine AW.weak (Weak.rng (l:=[(3,.ptr 103 g3 0),(6,.ptr 106 g6 0)]) h2 ⟨rfl,rfl,trivial⟩) ?_;refine Z ?_;rw[<- hs];refine AW.weak (Weak.rng (l:=[(3,.ptr 103 g3 0),(6,.ptr 106 g6 0)]) h2 ⟨rfl,rfl,trivial⟩) ?_;refine Z ?_;rw[<- hs]
def Sl.co{α : Type}(s:Sl α):Sl α := match s with|.nil=>.nil|.mk _ l=>.mk false l
theorem Sl.co_l{α : Type}(s:Sl α):s.co.l=s.l:=by cases s<;>rfl
theorem Zjk(G:Nat->V)(c:Col)(s:Sl Int)(hs:s.l.length<1000000):Spec Tryz.prog G 113 [Za c 1 (V.int .i64) s] Zk (λv _=>v=Za .new 1 (V.int .i64) s.co):=by
 refine Zo 0 8 [.tmp 2] Tryz.func113 λX=>?_
 cases s with
 |nil=>exact Zr
 |mk b l=>
  have hl:l.length<1000000:=hs;have hq:Za c 1 (V.int .i64) (.mk b l)=.slice c b 1 (l.map (V.int .i64)):=rfl;rw[hq];refine Z ?_;intro g;refine⟨Z9 zo (by rw[List.length_map];omega),λg2=>?_⟩;refine Zs ?_;refine AW.weak (Zw (λo=>o==5) (l:=[(2,Za .new 1 (V.int .i64) (.mk false l))]) (m:=[]) ?_ trivial) ?_;rw[List.length_map];refine Zs ?_;exact Z2b (f:=V.int .i64) rfl rfl λ_=>rfl;exact Zr
theorem Zio(G:Nat->V)(hG:GOk G)(b c d:Col)(x:IxM)(m:PM)(hx:IxP m x)(hw:m.ways.length<1000000)(v:Int)(h0:0<=v)(h1:v<m.vertices.length):
  Spec Tryz.prog G 60 [ixV b c d x,.int .i64 v] Zk (λw _=>∃ s:Sl Int,s.l=m.outI v/\w=Za .new 1 (V.int .i64) s):=by
 refine Zo 0 18 [.tmp 4] Tryz.func60 λX=>?_;obtain⟨n,p,rfl,hk,hg,h⟩:=hx.at h0 h1
 have e0:(decide ((0:Int)<=(n:Int))&&decide ((n:Int)<x.places.l.length))=true:=by rw[Bool.and_eq_true];exact⟨zT,zT⟩
 refine Z ?_;refine Zc hG ?_ (s:=Zhd G _ _ _ _ _);refine Zg (zi e0 (zi hg (zi hk (zi Z4d (zi Zhh (zi @Int.natCast_nonneg @Int.ofNat_lt)))))) ?_
 have hl:p.out.l.length<1000000:=by rw[h.2.2.2.2.1,PM.outI];exact Nat.lt_of_le_of_lt (PM.wysI_len _ _ _) hw
 refine Zc hG ?_ (s:=Zjk G _ _ hl);refine Z ?_;exact⟨p.out.co,by rw[Sl.co_l];exact h.2.2.2.2.1,rfl⟩
def anO{τ : Type}(s:Option τ):Option Code:=match s with|none=>none|some _=>some .ret
theorem Zbi{κ τ : Type}(p : κ -> Bool)(g : κ -> τ):∀ xs:List κ,(Zla (fun(_:Option τ) k=>((anO (if p k=true then some (g k)else none)).isNone,(if p k=true then some (g k)else none))) none xs).2=(xs.find? p).map g
 |[]=>rfl
 |k::r=>by
  rw[Zla,List.find?_cons];cases q:p k;exact Zbi p g r;rfl
def PM.lowB(m:PM)(s k:Int):Bool:=m.around k==s && !decide (0<=(m.vx k).of)
theorem PM.Acy.low_eq{m:PM}(a:m.Acy){v s:Int}(h0:0<=v)(h1:v<m.vertices.length)(hs:0<=s):(((chL m v).find? (m.lowB s)).map m.rgO).getD (-1)=m.regU v s:=by
 have e:chL m v=v::m.ups v:=if_pos h0;rw[e]
 cases q:(v::m.ups v).find? (m.lowB s)with
 |some u=>
  have hu:=List.mem_of_find?_eq_some q;have hp:=List.find?_some q;unfold PM.lowB at hp;simp only[Bool.and_eq_true,Bool.not_eq_true',decide_eq_false_iff_not,beq_iff_eq]at hp;rw[a.regU_of h0 h1 hs hu hp.1]
  show m.rgO u=_
  rw[PM.rgO,if_neg hp.2]
 |none=>
  rw[List.find?_eq_none]at q
  cases q2:(v::m.ups v).find? (λu=>m.around u==s)with
  |none=>rw[PM.regU,q2]<;>rfl
  |some u=>
   have hu:=List.mem_of_find?_eq_some q2;have hp:=List.find?_some q2;have hb:=q u hu;have hr:=a.chain h0 h1 hu;unfold PM.lowB at hb;rw[hp,Bool.true_and,Bool.not_eq_true,Bool.not_eq_false',decide_eq_true_eq]at hb;rw[a.regU_of h0 h1 hs hu (zu hp),a.pt u hr.1 hr.2 hb]
   try rfl
theorem Zkr(G:Nat->V)(hG:GOk G)(b c d:Col)(x:IxM)(m:PM)(a:m.Acy)(hx:IxP m x)(v s:Int)(h0:0<=v)(h1:v<m.vertices.length)(hs:0<=s):
  Spec Tryz.prog G 126 [ixV b c d x,.int .i64 v,.int .i64 s] Zk (λw _=>w=.int .i64 (m.regU v s)):=by
 rw[<- a.low_eq h0 h1 hs];refine ZoM 100 41 [.cell 6 3] Tryz.func126 λX=>?_;refine Z ?_;intro g3 g5 g6;refine Z ?_;refine CallA.inl [(52,.dead),(53,.dead)] zk ?_ ((Z6m G (ixV b c d x) v).mono ?_);intro p hp;simp only[List.mem_cons,List.not_mem_nil,or_false]at hp
 rcases hp with rfl|rfl<;>rfl
 rintro w H' ⟨g2,g3',rfl,e2,e3⟩;simp -implicitDefEqProofs only[go_sem,seval,Zfa,e2,e3];refine AW.block ?_
 refine Zxh 50 100 190 150 (λs'=>upd (upd (upd Zk 103 (.cells .new g3 0 [ixV b c d x])) 105 (.cells .new g5 0 [.int .i64 s])) 106 (.cells .new g6 0 [.int .i64 (s'.getD 0)])) (λ_ k=>if m.lowB s k=true then some (m.rgO k)else none) anO (λ_ k=>0<=k/\k<m.vertices.length) none rfl
  (λl r'=>Ze5 G hG b c d x m a hx v h1 g2 g3' _ zp zp) ?_ (Zci rfl λk hk _=>Zft a h1 k hk) ?_ ?_
 refine Zs ?_;exact Zea _ _ _ rfl
 .rintro l Y s' k hr ⟨k0,k1⟩ hj
  cases s';rotate_left;cases hj;refine Zs ?_;refine AW.region zk ?_;refine Zs ?_;intro Z _;obtain⟨n,p,rfl,hk,hg,hp,hp2,_,hp3,_⟩:=hx.at k0 k1;cases q:(m.around (n:Int)==s)
  have q2:m.lowB s (n:Int)=false:=by unfold PM.lowB;rw[q]<;>rfl
  have q3:(p.parent==s)=false:=by rw[hp];exact q
  refine ZTf (zi q3 (zi hg (zi hk (zi Z4d (zi Zhh (zi @Int.natCast_nonneg @Int.ofNat_lt)))))) hG ?_;refine Zf q2 ?_;exact⟨rfl,Zea _ _ _ rfl⟩
  have q3:(p.parent==s)=true:=by rw[hp];exact q
  cases q4:decide (0<=(m.vx (n:Int)).of)
  have q2:m.lowB s (n:Int)=true:=by unfold PM.lowB;rw[q,q4]<;>rfl
  have q5:p.point=false:=by rw[hp3];exact q4
  refine ZTf (zi q3 (zi q5 (zi hg (zi hk (zi Z4d (zi Zhh (zi @Int.natCast_nonneg @Int.ofNat_lt))))))) hG ?_;refine Zf (zi q2 (zi hg (zi hk (zi Z4d (zi Zhh (zi @Int.natCast_nonneg @Int.ofNat_lt)))))) ?_;refine AW.ret ?_;refine Zsf (zi q2 hp2) ?_;exact⟨rfl,hpEq⟩
  have q2:m.lowB s (n:Int)=false:=by unfold PM.lowB;rw[q,q4]<;>rfl
  have q5:p.point=true:=by rw[hp3];exact q4
  refine ZTf (zi q3 (zi q5 (zi hg (zi hk (zi Z4d (zi Zhh (zi @Int.natCast_nonneg @Int.ofNat_lt))))))) hG ?_;refine Zf q2 ?_;exact⟨rfl,Zea _ _ _ rfl⟩
 rintro H2 sf hs h2 h3;rw[Zbi]at hs;rw[<- hs];cases sf;refine AW.weak (Weak.rng (l:=[(3,.ptr 103 g3 0),(6,.ptr 106 g6 0)]) h2 ⟨rfl,rfl,trivial⟩) ?_;refine Z ?_;rfl;refine AW.weak (Weak.rng (l:=[(3,.ptr 103 g3 0),(6,.ptr 106 g6 0)]) h2 ⟨rfl,rfl,trivial⟩) ?_;refine Z ?_;rfl
theorem Z4ha{m:PM}(a:m.Acy){v:Int}(h0:0<=v)(h1:v<m.vertices.length):chL m (m.around v)=m.ups v:=by
 unfold chL
 by_cases h:0<=m.around v
 rw[if_pos h,a.ups_cons h0 h1 h];rw[if_neg h,PM.Acy.ups_nil zo]
theorem PM.Acy.ar1{m:PM}(a:m.Acy){v:Int}(h0:0<=v)(h1:v<m.vertices.length):m.around v<m.vertices.length:=by rcases a.rng v h0 h1 with q|q<;>omega
theorem Zr6{α : Type}(p : α -> Bool):∀ l:List α,((l.find? p).map λ_=>true).getD false=l.any p
 |[]=>rfl
 |x::r=>by
  rw[List.find?_cons,List.any_cons];cases q:p x;exact Zr6 p r;rfl
theorem Zdr(m:PM)(a b:Int):∀ l:List Int,((l.find? λk=>m.bothB a b k).map λk=>m.regU a k != m.regU b k).getD false=m.orthoF a b l
 |[]=>rfl
 |x::r=>by
  rw[List.find?_cons,PM.orthoF];cases q:m.bothB a b x;rw[if_neg zS];exact Zdr m a b r;rfl
theorem IxP.rc{m:PM}{x:IxM}(h:IxP m x)(g:Col->Col):IxP m (x.rc g):=⟨h.len,h.par,h.reg,h.st,h.pt,h.out,h.into⟩
theorem Zt7(G:Nat->V)(hG:GOk G)(b c d:Col)(x:IxM)(m:PM)(a:m.Acy)(hx:IxP m x)(v s:Int)(h0:0<=v)(h1:v<m.vertices.length)(s0:0<=s)(s1:s<m.vertices.length)(hk:m.kd s=1):
  Spec Tryz.prog G 70 [ixV b c d x,.int .i64 v,.int .i64 s] Zk (λw _=>w=.bool ((m.ups v).any λk=>k==s)):=by
 rw[<- Z4ha a h0 h1,<- Zr6];refine ZoM 100 43 [.cell 6 4] Tryz.func70 λX=>?_;obtain⟨nv,pv,rfl,hkv,hgv,hpv,_⟩:=hx.at h0 h1;obtain⟨ns,ps,rfl,hks,hgs,_,_,hps,_⟩:=hx.at s0 s1
 have es:ps.state=true:=by rw[hps,hk]<;>rfl
 have t1:(decide ((0:Int)<=(nv:Int))&&decide ((nv:Int)<x.places.l.length))=true:=by rw[Bool.and_eq_true];exact⟨zT,zT⟩
 have t2:(decide ((0:Int)<=(ns:Int))&&decide ((ns:Int)<x.places.l.length))=true:=by rw[Bool.and_eq_true];exact⟨zT,zT⟩
 refine Z ?_;intro g5 g6;refine Z6 (Z6 (Zp ⟨λi=>if i=2 then .bool true else if i=7 then .bool true else .top,λ_=>.pure⟩ zk hG zk zk ?_));simp -implicitDefEqProofs only[go_sem,seval,hgs,hks,es,Z4d,Zhh,@Int.natCast_nonneg,@Int.ofNat_lt];refine⟨⟨by kernel_rfl,?_⟩,⟨by kernel_rfl,?_⟩,?_⟩;simp -implicitDefEqProofs only[go_sem,seval,List.map_nil,List.map_cons,<- Zhh]
 exact(Zhd G _ _ _ _ _).mono λv _ e=>by rw[e];exact congrArg V.bool t1
 simp -implicitDefEqProofs only[go_sem,seval,List.map_nil,List.map_cons,<- Zhh]
 exact(Zhd G _ _ _ _ _).mono λv _ e=>by rw[e];exact congrArg V.bool t2
 refine Zf (zi hgv (zi hkv (zi Z4d (zi Zhh (zi @Int.natCast_nonneg @Int.ofNat_lt))))) ?_;refine CallA.inl [(52,.dead),(53,.dead)] zk ?_ ((Z6m G (ixV _ _ _ _) _).mono ?_);intro p hp;simp only[List.mem_cons,List.not_mem_nil,or_false]at hp
 rcases hp with rfl|rfl<;>rfl
 rintro w H' ⟨g2,g3',rfl,e2,e3⟩;simp -implicitDefEqProofs only[go_sem,seval,Zfa,e2,e3,hpv];refine AW.block ?_
 refine Zxh 50 100 190 150 (λs'=>upd (upd Zk 105 (.cells .new g5 0 [.int .i64 ns])) 106 (.cells .new g6 0 [.bool (s'.getD false)])) (λ_ k=>if(k==(ns:Int))=true then some true else none) anO (λ_ k=>0<=k/\k<m.vertices.length) none rfl
  (λl r'=>Ze5 G hG b c d x m a hx _ (a.ar1 h0 h1) g2 g3' _ zp zp) ?_ (Zci rfl λk hk _=>Zft a (a.ar1 h0 h1) k hk) ?_ ?_
 refine Zs ?_;exact Zea _ _ _ rfl
 .rintro l Y s' k hr ⟨k0,k1⟩ hj
  cases s';rotate_left;cases hj;refine Zs ?_;refine AW.region zk ?_;refine Zs ?_;intro Z _;cases q:(k==(ns:Int));refine Zf q ?_;exact⟨rfl,Zea _ _ _ rfl⟩;refine Zf q ?_;refine AW.ret ?_;refine Zsf q ?_;exact⟨rfl,hpEq⟩
 rintro H2 sf hs h2 h3;rw[Zbi]at hs;rw[<- hs];cases sf;refine AW.weak (Weak.rng (l:=[(6,.ptr 106 g6 0)]) h2 ⟨rfl,trivial⟩) ?_;refine Z ?_;rfl;refine AW.weak (Weak.rng (l:=[(6,.ptr 106 g6 0)]) h2 ⟨rfl,trivial⟩) ?_;refine Z ?_;rfl
theorem Z0q(G:Nat->V)(hG:GOk G)(b c d:Col)(x:IxM)(m:PM)(a:m.Acy)(hx:IxP m x)(v s:Int)(h0:0<=v)(h1:v<m.vertices.length)(s0:0<=s)(s1:s<m.vertices.length):
  Spec Tryz.prog G 66 [ixV b c d x,.int .i64 v,.int .i64 s] Zk (λw _=>w=.bool (m.orthoB v s)):=by
 rw[<- a.ortho_first h0 h1 s0 s1,<- Z4ha a h0 h1,<- Zdr];refine ZoM 100 48 [.cell 6 4] Tryz.func66 λX=>?_
 have t1:(decide (0<=v)&&decide (v<x.places.l.length))=true:=by rw[Bool.and_eq_true,hx.len];exact⟨zT,zT⟩
 have t2:(decide (0<=s)&&decide (s<x.places.l.length))=true:=by rw[Bool.and_eq_true,hx.len];exact⟨zT,zT⟩
 refine Z ?_;intro g3 g4 g5 g6;refine Z ?_;refine Zc hG ?_ (s:=Zhd G _ _ _ _ _);refine Zg t1 ?_;refine Zc hG ?_ (s:=Zhd G _ _ _ _ _);refine Zg t2 ?_;obtain⟨nv,pv,rfl,hkv,hgv,hpv,_⟩:=hx.at h0 h1;refine Zp ⟨λ_=>.top,λi=>if i=9 then .any else .pure⟩ zk hG zk zk ?_;simp -implicitDefEqProofs only[go_sem,seval,hgv,hkv,Z4d,Zhh,@Int.natCast_nonneg,@Int.ofNat_lt];refine CallA.inl [(52,.dead),(53,.dead)] zk ?_ ((Z6m G (ixV _ _ _ _) _).mono ?_);intro p hp;simp only[List.mem_cons,List.not_mem_nil,or_false]at hp
 rcases hp with rfl|rfl<;>rfl
 rintro w H' ⟨g2,g3',rfl,e2,e3⟩;simp -implicitDefEqProofs only[go_sem,seval,Zfa,e2,e3,hpv];refine AW.block ?_
 refine Zxh 50 100 190 150 (λs'=>upd (upd (upd (upd Zk 103 (.cells .new g3 0 [ixV b c d x])) 104 (.cells .new g4 0 [.int .i64 nv])) 105 (.cells .new g5 0 [.int .i64 s])) 106 (.cells .new g6 0 [.bool (s'.getD false)])) (λ_ k=>if m.bothB (nv:Int) s k=true then some (m.regU (nv:Int) k != m.regU s k)else none) anO (λ_ k=>0<=k/\k<m.vertices.length) none rfl
  (λl r'=>Ze5 G hG b c d x m a hx _ (a.ar1 h0 h1) g2 g3' _ zp zp) ?_ (Zci rfl λk hk _=>Zft a (a.ar1 h0 h1) k hk) ?_ ?_
 refine Zs ?_;exact Zea _ _ _ rfl
 .rintro l Y s' k hr ⟨k0,k1⟩ hj
  cases s';rotate_left;cases hj;refine Zs ?_;refine AW.region zk ?_;refine Zs ?_;intro Z _;refine AW.block ?_
  repeat refine Z6 ?_
  refine Zp ⟨λi=>if i=3 then .int .i64 (m.regU (nv:Int) k)else .int .i64 (m.regU s k),λ_=>.pure⟩ zk hG zk zk ?_;refine Zs ?_;refine⟨⟨by kernel_rfl,?_⟩,⟨by kernel_rfl,?_⟩,?_⟩;simp -implicitDefEqProofs only[go_sem,seval,List.map_nil,List.map_cons]
  exact(Zkr G hG _ _ _ _ m a (hx.rc _) _ _ h0 h1 k0).mono λv _ e=>by rw[e]<;>rfl
  simp -implicitDefEqProofs only[go_sem,seval,List.map_nil,List.map_cons]
  exact(Zkr G hG _ _ _ _ m a (hx.rc _) _ _ s0 s1 k0).mono λv _ e=>by rw[e]<;>rfl
  by_cases c1:0<=m.regU (nv:Int) k
  have q1:decide (m.regU (nv:Int) k>=0)=true:=zT
  by_cases c2:0<=m.regU s k
  have q2:decide (m.regU s k>=0)=true:=zT
  have q:m.bothB (nv:Int) s k=true:=by unfold PM.bothB;rw[Bool.and_eq_true];exact⟨zT,zT⟩
  refine Zf (zi q (zi q1 q2)) ?_;refine AW.ret ?_;refine Zsf q ?_;exact⟨rfl,hpEq⟩;have q2:decide (m.regU s k>=0)=false:=zF
  have q:m.bothB (nv:Int) s k=false:=by unfold PM.bothB;rw[Bool.and_eq_false_iff];exact .inr zF
  refine Zf (zi q (zi q1 q2)) ?_;exact⟨rfl,Zea _ _ _ rfl⟩;have q1:decide (m.regU (nv:Int) k>=0)=false:=zF
  have q:m.bothB (nv:Int) s k=false:=by unfold PM.bothB;rw[Bool.and_eq_false_iff];exact .inl zF
  refine Zf (zi q q1) ?_;exact⟨rfl,Zea _ _ _ rfl⟩
 rintro H2 sf hs h2 h3;rw[Zbi]at hs;rw[<- hs];cases sf;refine AW.weak (Weak.rng (l:=[(6,.ptr 106 g6 0)]) h2 ⟨rfl,trivial⟩) ?_;refine Z ?_;rfl;refine AW.weak (Weak.rng (l:=[(6,.ptr 106 g6 0)]) h2 ⟨rfl,trivial⟩) ?_;refine Z ?_;rfl
end Go.Hs
end
