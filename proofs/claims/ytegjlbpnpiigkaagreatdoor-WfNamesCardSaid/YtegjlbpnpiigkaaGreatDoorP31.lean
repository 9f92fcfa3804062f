/- A part. No condition. -/
import Derived.Lib.ParseIntB
import Derived.Lib.ItoaNum
import Derived.Lib.Index
import Derived.Lib.IndexMore
import Derived.Lib.ParseIntBCases
import Derived.Test.YtegjlbpnpiigkaaGreatDoorP18
import Derived.Test.YtegjlbpnpiigkaaGreatDoorP30
import Derived.Lib.Mul64
import Derived.Test.YtegjlbpnpiigkaaGreatDoorChecked
import Derived.Shelf.Strconv.ParseIntPublic10
import Derived.Shelf.Strconv.ErrVarParseInt
import Derived.Shelf.Strconv.Itoa4
import Derived.Shelf.Strings.Prefix
import Derived.Ground.NamesProg
set_option linter.all false
section
namespace Go.Hs
def val:List Nat->Nat
 |[]=>0
 |d::r=>d+10*val r
theorem Zao:∀ (a b:List Nat),val (a++b)=val a+10^a.length*val b
 |[],b=>by simp[val]
 |d::a,b=>by
  rw[List.cons_append,val,Zao a b,val,List.length_cons,Nat.pow_succ];rw[Nat.mul_add,<- Nat.mul_assoc,Nat.mul_comm 10 (10^a.length)];omega
def Dig(l:List Nat):Prop:=∀ d∈l,d<10
theorem Z29{a b:List Nat}:Dig (a++b)↔Dig a/\Dig b:=by
 constructor
 exact λh=>⟨λd hd=>h d (by simp[hd]),λd hd=>h d (by simp[hd])⟩;rintro⟨h1,h2⟩ d hd
 rcases List.mem_append.1 hd with h|h
 exact h1 d h;exact h2 d h
theorem Dig.one{d:Nat}(h:d<10):Dig [d]:=by intro x hx;simp at hx;omega
def fits(x:Int):Bool:=decide (-9223372036854775808<=x/\x<=9223372036854775807)
def told(x:Int):Int×Int:=if fits x then(x,0)else(0,60)
def Z2a(c:UInt8):Bool:=48<=c.toNat&&c.toNat<=57
def Z8t(c:UInt8):Nat:=c.toNat-48
def Zbd(s:List UInt8):Int×Int:=
 let below:=s.head? == some 45
 let t:=if below then s.drop 1 else s
 if t=[]\/(t.head?=some 48/\(t.length>1\/below=true))\/t.all Z2a=false then(0,2)
 else told (if below then -(val (t.reverse.map Z8t):Int)else val (t.reverse.map Z8t))
end Go.Hs
end

section
namespace Go.Hs
open Go
structure Tk where
 kind:Int
 text:List UInt8
 pos:Int
 deriving DecidableEq,Inhabited
def Zun(c:UInt8):Bool:=c==95||(decide (97<=(c.toNat ||| 32))&&decide ((c.toNat ||| 32)<=122))
def Zjg(c:UInt8):Bool:=Zun c||Z2a c
def Zti(c:UInt8):Bool:=c==32||(decide (9<=c.toNat)&&decide (c.toNat<=10))||c==13
def Zmz(c:UInt8):Bool := !(c==10)
def Zld(p:UInt8->Bool):List UInt8->Nat
 |[]=>0
 |c::r=>if p c then Zld p r+1 else 0
theorem Zzk(p:UInt8->Bool)(c:UInt8)(r:List UInt8):Zld p (c::r)=if p c then Zld p r+1 else 0:=rfl
theorem Zzg(p:UInt8->Bool):∀ s,Zld p s<=s.length
 |[]=>Nat.le_refl _
 |c::r=>by
  have:=Zzg p r;unfold Zld
  split
  simp only[List.length_cons];omega;exact Nat.zero_le _
def Zga(p s:List UInt8):Bool:=p.isPrefixOf s
theorem Z6b(s:List UInt8):Zga [] s=true:=by cases s<;>rfl
theorem Zkc(a:UInt8)(p:List UInt8):Zga (a::p) []=false:=rfl
theorem Zta(a c:UInt8)(p s:List UInt8):Zga (a::p) (c::s)=(a==c&&Zga p s):=rfl
def blkF:Nat->List UInt8->Nat
 |0,_=>0
 |_+1,[]=>0
 |f+1,c::r=>if Zti c then blkF f r+1 else if Zga [45,45] (c::r)then Zld Zmz (c::r)+blkF f ((c::r).drop (Zld Zmz (c::r)))else 0
def blk(s:List UInt8):Nat:=blkF s.length s
theorem Zak{s:List UInt8}(h:Zga [45,45] s=true):2<=Zld Zmz s/\2<=s.length:=by
 match s with
 |[]=>simp[Zga]at h
 |[_]=>simp[Zga]at h
 |a::b::r=>
  simp[Zga]at h;obtain⟨rfl,rfl⟩:=h;simp[Zld,Zmz]
theorem Zsv:∀ (f f':Nat) (s:List UInt8),s.length<=f->s.length<=f'->blkF f s=blkF f' s
 |0,f',s,h,_=>by
  have:s=[]:=List.length_eq_zero_iff.1 (by omega);subst this
  cases f'<;>rfl
 |f+1,0,s,_,h=>by
  have:s=[]:=List.length_eq_zero_iff.1 (by omega);subst this;rfl
 |f+1,f'+1,[],_,_=>rfl
 |f+1,f'+1,c::r,h,h'=>by
  simp only[List.length_cons]at h h';unfold blkF
  split
  rw[Zsv f f' r (by omega) (by omega)]
  split
  rename_i hp;have:=Zak hp;rw[Zsv f f' _ (by simp only[List.length_drop,List.length_cons];omega) (by simp only[List.length_drop,List.length_cons];omega)];rfl
theorem Zwda{c:UInt8}{r:List UInt8}(h:Zti c=true):blk (c::r)=blk r+1:=by
 unfold blk;rw[List.length_cons,blkF,if_pos h]
theorem Zz8{s:List UInt8}(h:Zga [45,45] s=true):blk s=Zld Zmz s+blk (s.drop (Zld Zmz s)):=by
 match s with
 |[]=>simp[Zga]at h
 |c::r=>
  have hc:Zti c=false:=by
   cases r with
   |nil=>simp[Zga]at h
   |cons d r=>simp[Zga]at h;rw[<- h.1];decide
  have:=Zak h;unfold blk;rw[List.length_cons,blkF,if_neg (by simp[hc]),if_pos h];rw[Zsv r.length _ _ (by simp only[List.length_drop,List.length_cons];omega) (Nat.le_refl _)]
theorem Zvda{c:UInt8}{r:List UInt8}(h:Zti c=false)(h2:Zga [45,45] (c::r)=false):blk (c::r)=0:=by
 unfold blk;rw[List.length_cons,blkF,if_neg (by simp[h]),if_neg (by simp[h2])]
theorem Z08(s:List UInt8):blk s<=s.length:=by
 have key:∀ (n:Nat) (s:List UInt8),s.length<=n->blk s<=s.length:=by
  intro n
  induction n with
  |zero=>
   intro s h;have:s=[]:=List.length_eq_zero_iff.1 (by omega);subst this;exact Nat.le_refl _
  |succ n ih=>
   intro s h
   match s with
   |[]=>exact Nat.le_refl _
   |c::r=>
    cases hb:Zti c with
    |true=>
     rw[Zwda hb];have:=ih r (by simp only[List.length_cons]at h;omega);simp only[List.length_cons];omega
    |false=>
     cases hp:Zga [45,45] (c::r)with
     |false=>rw[Zvda hb hp];exact Nat.zero_le _
     |true=>
      have h1:=Zak hp;have h2:=Zzg Zmz (c::r);rw[Zz8 hp];have:=ih ((c::r).drop (Zld Zmz (c::r))) (by rw[List.length_drop];omega);rw[List.length_drop]at this;omega
 exact key s.length s (Nat.le_refl _)
def signsL:List (List UInt8):=[[58,61],[60,62],[60,61],[62,61],[60],[62],[61],[43],[45],[42],[40],[41],[44],[59]]
def wordsL:List (List UInt8):=[[97,110,100],[100,105,118],[101,108,115,101],[101,109,105,116],[101,110,100,105,102],[102,97,108,115,101],[105,102],[105,109,112,108,105,101,115],[109,111,100],[110,111,116],[111,114],[116,104,101,110],[116,114,117,101],[120,111,114]]
def Zbda:List UInt8:=32::wordsL.flatMap (· ++ [32])
def Zpa(s:List UInt8):Nat×Nat:=
 match s with
 |[]=>(0,0)
 |c::_=>
  if Zga [45,45] s then(0,0)
  else if Z2a c then(Zld Z2a s,1)
  else if Zun c then(Zld Zjg s,if wordsL.contains (s.take (Zld Zjg s))then 3 else 2)
  else match signsL.find? (Zga · s)with
   |some t=>(t.length,4)
   |none=>(0,0)
def isP(s:List UInt8):Nat:=if(Zpa s).1≠s.length\/(Zpa s).1>64 then 0 else(Zpa s).2
theorem Z4d(c:UInt8)(r:List UInt8):Zpa (c::r) =
  if Zga [45,45] (c::r)then(0,0)
  else if Z2a c then(Zld Z2a (c::r),1)
  else if Zun c then(Zld Zjg (c::r),if wordsL.contains ((c::r).take (Zld Zjg (c::r)))then 3 else 2)
  else match signsL.find? (Zga · (c::r))with
   |some t=>(t.length,4)
   |none=>(0,0):=rfl
theorem Zx7(s:List UInt8):(Zpa s).1<=s.length:=by
 unfold Zpa
 split
 exact Nat.le_refl _
 split
 exact Nat.zero_le _
 split
 exact Zzg _ _
 split
 exact Zzg _ _
 split
 rename_i h;have:=List.find?_some h;exact(List.isPrefixOf_iff_prefix.1 this).length_le;exact Nat.zero_le _
def Zid:Nat->List UInt8->Nat->List Tk->List Tk×Int×Int
 |0,_,_,acc=>(acc,0,0)
 |f+1,s,i,acc=>
  if i<s.length then
   if(Zpa (s.drop i)).1=0\/(Zpa (s.drop i)).1>64 then([],i,70)
   else Zid f s (i+(Zpa (s.drop i)).1+blk (s.drop (i+(Zpa (s.drop i)).1))) (acc++[⟨(Zpa (s.drop i)).2,(s.drop i).take (Zpa (s.drop i)).1,i⟩])
  else(acc,0,0)
def Zja(s:List UInt8):List Tk×Int×Int:=if s.length>65536 then([],0,3)else Zid (s.length+1) s (blk s) []
theorem Z1y:∀ (f f':Nat) (s:List UInt8) (i:Nat) (acc:List Tk),s.length<f+i->s.length<f'+i->Zid f s i acc=Zid f' s i acc
 |0,f',s,i,acc,h,_=>by
  cases f' with
  |zero=>rfl
  |succ f'=>rw[Zid,Zid,if_neg (by omega)]
 |f+1,0,s,i,acc,_,h=>by rw[Zid,Zid,if_neg (by omega)]
 |f+1,f'+1,s,i,acc,h,h'=>by
  unfold Zid
  split
  split
  rfl;rename_i hn;exact Z1y f f' _ _ _ (by omega) (by omega);rfl
theorem Zk0{f:Nat}{s:List UInt8}{i:Nat}{acc:List Tk}(h:i<s.length)(hf:s.length<f+i)(hn:¬ ((Zpa (s.drop i)).1=0\/(Zpa (s.drop i)).1>64)):
  Zid f s i acc=Zid f s (i+(Zpa (s.drop i)).1+blk (s.drop (i+(Zpa (s.drop i)).1))) (acc++[⟨(Zpa (s.drop i)).2,(s.drop i).take (Zpa (s.drop i)).1,i⟩]):=by
 cases f with
 |zero=>omega
 |succ f=>
  rw[Zid,if_pos h,if_neg hn];exact Z1y _ _ _ _ _ (by omega) (by omega)
theorem Zi5{f:Nat}{s:List UInt8}{i:Nat}{acc:List Tk}(h:i<s.length)(hf:s.length<f+i)(hn:(Zpa (s.drop i)).1=0\/(Zpa (s.drop i)).1>64):Zid f s i acc=([],(i:Int),70):=by
 cases f with
 |zero=>omega
 |succ f=>rw[Zid,if_pos h,if_pos hn]
theorem Zh5{f:Nat}{s:List UInt8}{i:Nat}{acc:List Tk}(h:¬ i<s.length):Zid f s i acc=(acc,0,0):=by
 cases f with
 |zero=>rfl
 |succ f=>rw[Zid,if_neg h]
def Zog(s:List UInt8):Nat:=
 if signsL.contains s then 4 else if wordsL.contains s then 3 else match s with
 |[]=>0
 |c::_=>if s.all Z2a then 1 else if Zun c&&s.all Zjg then 2 else 0
theorem Zdda(p:UInt8->Bool)(h:(List.range 256).all (λn=>p (UInt8.ofNat n))=true)(c:UInt8):p c=true:=by
 have h2:=List.all_eq_true.1 h c.toNat (List.mem_range.2 c.toNat_lt)
 have e:UInt8.ofNat c.toNat=c:=by simp
 rw[e]at h2;exact h2
theorem Z5o{c:UInt8}(h:Z2a c=true):Zun c=false/\Zjg c=true:=by
 revert h
 unfold Zjg;have:=Zdda (λc => !Z2a c||(!Zun c&&(Zun c||Z2a c))) (by decide +kernel) c;intro h;simpa[h]using this
theorem Zoh{p:UInt8->Bool}:∀ {s:List UInt8},(Zld p s=s.length)=(s.all p=true)
 |[]=>by simp[Zld]
 |c::r=>by
  unfold Zld;rw[List.all_cons,Bool.and_eq_true,<- Zoh (s:=r)]
  by_cases h:p c=true
  simp[h];simp[h]
theorem Zzj:∀ w∈wordsL,w.all Zjg=true/\w≠[]/\(∀ c∈w.head?,Zun c=true):=by decide +kernel
theorem Z4j:∀ w∈signsL,w≠[]/\w.length<=2/\(∀ c∈w,Zjg c=false):=by decide +kernel
theorem Zxy{c:UInt8}{r:List UInt8}(h:Z2a c=true):Zog (c::r)=if(c::r).all Z2a then 1 else 0:=by
 have h1:=Z5o h
 have h2:signsL.contains (c::r)=false:=by
  rw[Bool.eq_false_iff];intro hc;have:=(Z4j (c::r) (by simpa using hc)).2.2 c (by simp);rw[h1.2]at this;cases this
 have h3:wordsL.contains (c::r)=false:=by
  rw[Bool.eq_false_iff];intro hc;have:=(Zzj (c::r) (by simpa using hc)).2.2 c (by simp);rw[h1.1]at this;cases this
 unfold Zog;simp only[h2,h3,h1.1,Bool.false_and];simp
theorem Zwy{c:UInt8}{r:List UInt8}(h:Zun c=true):Zog (c::r)=if(c::r).all Zjg then(if wordsL.contains (c::r)then 3 else 2)else 0:=by
 have h1:Z2a c=false:=by
  rw[Bool.eq_false_iff];intro hd;rw[(Z5o hd).1]at h;cases h
 have h1':Zjg c=true:=by unfold Zjg;rw[h];rfl
 have h2:signsL.contains (c::r)=false:=by
  rw[Bool.eq_false_iff];intro hc;have:=(Z4j (c::r) (by simpa using hc)).2.2 c (by simp);rw[h1']at this;cases this
 have h3:(c::r).all Z2a=false:=by rw[List.all_cons,h1];rfl
 unfold Zog;simp only[h2,h3,h,Bool.true_and]
 by_cases h4:wordsL.contains (c::r)=true
 rw[if_neg (by simp),if_pos h4,if_pos ((Zzj _ (by simpa using h4)).1),if_pos h4];rw[if_neg (by simp),if_neg h4,if_neg (by simp),if_neg h4]
theorem Z0j{c:UInt8}{r:List UInt8}(h:Zjg c=false):Zog (c::r)=if signsL.contains (c::r)then 4 else 0:=by
 have h1:Zun c=false/\Z2a c=false:=by unfold Zjg at h;simpa using h
 have h2:wordsL.contains (c::r)=false:=by
  rw[Bool.eq_false_iff];intro hc;have:=(Zzj (c::r) (by simpa using hc)).2.2 c (by simp);rw[h1.1]at this;cases this
 have h3:(c::r).all Z2a=false:=by rw[List.all_cons,h1.2];rfl
 unfold Zog;simp only[h2,h3,h1.1,Bool.false_and]
 split<;>rfl
theorem contains_nil(c:UInt8)(q:List UInt8):Lib.contains [] (c::q)=false:=by simp[Lib.contains,Lib.index]
theorem contains_cons(b:UInt8)(l p:List UInt8):Lib.contains (b::l) p=(p.isPrefixOf (b::l)||Lib.contains l p):=by
 unfold Lib.contains;rw[Lib.index]
 by_cases h:p.isPrefixOf (b::l)=true
 rw[if_pos h,h];simp;have h':p.isPrefixOf (b::l)=false:=Bool.eq_false_iff.2 h;rw[if_neg h,h',Bool.false_or]
 rcases Lib.index_spec l p with ⟨h1,_⟩|⟨i,h1,_⟩
 rw[h1];simp;rw[h1]
 have:((i:Int) == -1)=false:=by rw[beq_eq_false_iff_ne];omega
 simp only[this];simp;omega
theorem Zida:∀ (w v rest:List UInt8),(∀ c∈w,c≠32)->(∀ c∈v,c≠32)->(w++[32]).isPrefixOf (v++32::rest)=(w==v)
 |[],[],rest,_,_=>by simp
 |[],b::v,rest,_,hv=>by
  have:=hv b (by simp);simp[List.isPrefixOf];exact λh=>absurd h.symm this
 |a::w,[],rest,hw,_=>by
  have:=hw a (by simp);simp[List.isPrefixOf];exact λh=>absurd h this
 |a::w,b::v,rest,hw,hv=>by
  have:=Zida w v rest (λc hc=>hw c (by simp[hc])) (λc hc=>hv c (by simp[hc]));simp only[List.cons_append,List.isPrefixOf,this];simp[List.cons_beq_cons]
theorem Z7h(q:List UInt8):∀ (v l:List UInt8),(∀ c∈v,c≠32)->Lib.contains (v++l) (32::q)=Lib.contains l (32::q)
 |[],_,_=>rfl
 |b::v,l,hv=>by
  have h1:=hv b (by simp);rw[List.cons_append,contains_cons,Z7h q v l λc hc=>hv c (by simp[hc])]
  have:((32::q).isPrefixOf (b::(v++l)))=false:=by
   simp only[List.isPrefixOf,Bool.and_eq_false_iff]
   left
   simpa using λh=>h1 h.symm
  rw[this,Bool.false_or]
theorem Ztg(w:List UInt8)(hw:∀ c∈w,c≠32):∀ (Ws:List (List UInt8)),(∀ v∈Ws,∀ c∈v,c≠32) ->
  Lib.contains (32::Ws.flatMap (· ++ [32])) (32::(w++[32]))=Ws.contains w
 |[],_=>by
  rw[List.flatMap_nil,contains_cons,contains_nil]
  cases w with
  |nil=>rfl
  |cons=>rfl
 |v::Ws,h=>by
  have hv:=h v (by simp);rw[List.flatMap_cons,contains_cons,List.append_assoc,Z7h _ _ _ hv,List.singleton_append,Ztg w hw Ws λx hx=>h x (by simp[hx]),List.contains_cons]
  congr 1
  simp only[List.isPrefixOf,beq_self_eq_true,Bool.true_and];exact Zida w v _ hw hv
theorem al_no{c:UInt8}(h:Zjg c=true):c≠32:=by rintro rfl;revert h;decide
theorem Zpm(w:List UInt8)(hw:w.all Zjg=true):Lib.contains Zbda (32::(w++[32]))=wordsL.contains w:=by
 rw[List.all_eq_true]at hw
 exact Ztg w (λc hc=>al_no (hw c hc)) wordsL λv hv c hc=>by
  have:=(Zzj v hv).1;rw[List.all_eq_true]at this;exact al_no (this c hc)
theorem Znh(p:UInt8->Bool):∀ s:List UInt8,(s.take (Zld p s)).all p=true
 |[]=>rfl
 |c::r=>by
  unfold Zld
  split
  rename_i h;rw[List.take_succ_cons,List.all_cons,h,Znh p r];rfl;rfl
theorem Z7z(c:UInt8):Z2a c=true\/(Z2a c=false/\Zun c=true)\/(Zjg c=false/\Z2a c=false/\Zun c=false):=by
 unfold Zjg
 cases h:Z2a c with
 |true=>exact .inl rfl
 |false=>
  cases h2:Zun c with
  |true=>exact .inr (.inl ⟨rfl,rfl⟩)
  |false=>exact .inr (.inr ⟨rfl,rfl,rfl⟩)
def sgnN(s:List UInt8):Nat:=match signsL.find? (Zga · s)with|some t=>t.length|none=>0
theorem Z6q{c:UInt8}{r:List UInt8}(h:Z2a c=true):Zpa (c::r)=(Zld Z2a (c::r),1):=by
 have h1:Zga [45,45] (c::r)=false:=by
  have:(45==c)=false:=by
   rw[beq_eq_false_iff_ne];rintro rfl;revert h;decide
  rw[Zta,this];rfl
 rw[Z4d,if_neg (by simp[h1]),if_pos h]
theorem Zvz{c:UInt8}{r:List UInt8}(h:Zun c=true):Zpa (c::r)=(Zld Zjg (c::r),if wordsL.contains ((c::r).take (Zld Zjg (c::r)))then 3 else 2):=by
 have h1:Zga [45,45] (c::r)=false:=by
  have:(45==c)=false:=by
   rw[beq_eq_false_iff_ne];rintro rfl;revert h;decide
  rw[Zta,this];rfl
 have h2:Z2a c=false:=by
  rw[Bool.eq_false_iff];intro hd;rw[(Z5o hd).1]at h;cases h
 rw[Z4d,if_neg (by simp[h1]),if_neg (by simp[h2]),if_pos h]
theorem Zck{c:UInt8}{r:List UInt8}(h:Zjg c=false)(h1:Zga [45,45] (c::r)=false):Zpa (c::r)=(sgnN (c::r),if sgnN (c::r)=0 then 0 else 4):=by
 have h2:Zun c=false/\Z2a c=false:=by unfold Zjg at h;simpa using h
 unfold sgnN;rw[Z4d,if_neg (by simp[h1]),if_neg (by simp[h2.2]),if_neg (by simp[h2.1])]
 cases hf:signsL.find? (Zga · (c::r))with
 |none=>rfl
 |some t=>
  have:=List.mem_of_find?_eq_some hf;have:=(Z4j t this).1;have:t.length≠0:=λh=>this (List.length_eq_zero_iff.1 h);simp[this]
theorem Zwz:∀ (L:List (List UInt8)) (c:UInt8),(∀ t∈L,t≠[])->(match L.find? (Zga · [c])with|some t=>t.length|none=>0)=if L.contains [c]then 1 else 0
 |[],c,_=>rfl
 |t::L,c,h=>by
  have ih:=Zwz L c λx hx=>h x (by simp[hx]);rw[List.find?_cons,List.contains_cons]
  match t,h t (by simp)with
  |[a],_=>
   by_cases e:a=c
   subst e;simp[Zta,Z6b,Zkc]
   have:Zga [a] [c]=false:=by simp[Zta,Z6b,Zkc,e]
   rw[this]
   have:(([c]:List UInt8)==[a])=false:=by simpa using λh=>e h.symm
   rw[this,Bool.false_or];exact ih
  |a::b::r,_=>
   have:Zga (a::b::r) [c]=false:=by simp[Zta,Z6b,Zkc]
   rw[this]
   have:(([c]:List UInt8)==a::b::r)=false:=by simp
   rw[this,Bool.false_or];exact ih
theorem Zrl:∀ (L M:List (List UInt8)) (c d:UInt8) (r:List UInt8),(∀ t∈L,t.length=2)->(∀ t∈M,t.length=1) ->
  (match(L++M).find? (Zga · (c::d::r))with|some t=>t.length|none=>0)=if L.contains [c,d]then 2 else if M.contains [c]then 1 else 0
 |[],[],c,d,r,_,_=>rfl
 |[],t::M,c,d,r,hL,hM=>by
  have ih:=Zrl [] M c d r hL λx hx=>hM x (by simp[hx]);rw[List.nil_append]at ih⊢
  match t,hM t (by simp)with
  |[a],_=>
   rw[List.find?_cons,List.contains_cons]
   by_cases e:a=c
   subst e;simp[Zta,Z6b,Zkc]
   have:Zga [a] (c::d::r)=false:=by simp[Zta,Z6b,Zkc,e]
   rw[this]
   have:(([c]:List UInt8)==[a])=false:=by simpa using λh=>e h.symm
   rw[this,Bool.false_or];exact ih
 |t::L,M,c,d,r,hL,hM=>by
  have ih:=Zrl L M c d r (λx hx=>hL x (by simp[hx])) hM
  match t,hL t (by simp)with
  |[a,b],_=>
   rw[List.cons_append,List.find?_cons,List.contains_cons]
   by_cases e:a=c/\b=d
   obtain⟨rfl,rfl⟩:=e;simp[Zta,Z6b,Zkc]
   have:Zga [a,b] (c::d::r)=false:=by simpa[Zta,Z6b,Zkc]using e
   rw[this]
   have:(([c,d]:List UInt8)==[a,b])=false:=by simpa using λh1 h2=>e ⟨h1.symm,h2.symm⟩
   rw[this,Bool.false_or];exact ih
def sg2:List (List UInt8):=[[58,61],[60,62],[60,61],[62,61]]
def sg1:List (List UInt8):=[[60],[62],[61],[43],[45],[42],[40],[41],[44],[59]]
theorem Zxaa(c:UInt8):sgnN [c]=if signsL.contains [c]then 1 else 0:=Zwz signsL c λt ht=>(Z4j t ht).1
theorem Z9y(c d:UInt8)(r:List UInt8):sgnN (c::d::r)=if sg2.contains [c,d]then 2 else if sg1.contains [c]then 1 else 0:=Zrl sg2 sg1 c d r (by decide) (by decide)
theorem Zug(x:List UInt8):signsL.contains x=(sg2.contains x||sg1.contains x):=by
 show(sg2++sg1).contains x=_
 simp
theorem Zz5{x:List UInt8}(h:x.length≠1):sg1.contains x=false:=by
 rw[Bool.eq_false_iff];intro hc
 have:∀ t∈sg1,t.length=1:=by decide
 exact h (this x (by simpa using hc))
theorem sg2_len{x:List UInt8}(h:x.length≠2):sg2.contains x=false:=by
 rw[Bool.eq_false_iff];intro hc
 have:∀ t∈sg2,t.length=2:=by decide
 exact h (this x (by simpa using hc))
theorem Z84{c d:UInt8}(h:Zjg c=false):Zog [c,d]=if sg2.contains [c,d]then 4 else 0:=by
 rw[Z0j h,Zug,Zz5 (by simp),Bool.or_false]
theorem Zf0{c d e:UInt8}{r:List UInt8}(h:Zjg c=false):Zog (c::d::e::r)=0:=by
 rw[Z0j h,Zug,Zz5 (by simp),sg2_len (by simp)];rfl
theorem Zh7(s:List UInt8):isP s=if s.length>64 then 0 else Zog s:=by
 have key:(if(Zpa s).1≠s.length then 0 else(Zpa s).2)=Zog s:=by
  match s with
  |[]=>rfl
  |c::r=>
   rcases Z7z c with h|⟨_,h⟩|⟨h,_⟩
   rw[Z6q h,Zxy h]
   by_cases ha:(c::r).all Z2a=true
   rw[if_pos ha,if_neg (by rw[ne_eq,Decidable.not_not,Zoh];exact ha)];rw[if_neg ha,if_pos (by rw[ne_eq,Zoh];exact ha)];rw[Zvz h,Zwy h]
   by_cases ha:(c::r).all Zjg=true
   have hl:Zld Zjg (c::r)=(c::r).length:=by rw[Zoh];exact ha
   rw[if_pos ha,hl,List.take_length,if_neg (by simp)];rw[if_neg ha,if_pos (by rw[ne_eq,Zoh];exact ha)]
   .match r with
    |[]=>
     rw[Zck h (by simp[Zta,Z6b,Zkc]),Zxaa,Z0j h];generalize signsL.contains [c]=x
     cases x<;>simp
    |[d]=>
     rw[Z84 h]
     cases hp:Zga [45,45] [c,d]with
     |true=>
      have:c=45/\d=45:=by
       rw[Zta,Zta,Z6b,Bool.and_true,Bool.and_eq_true,beq_iff_eq,beq_iff_eq]at hp;exact⟨hp.1.symm,hp.2.symm⟩
      obtain⟨rfl,rfl⟩:=this
      decide
     |false=>
      rw[Zck h hp,Z9y];generalize sg2.contains [c,d]=x;generalize sg1.contains [c]=y
      cases x<;>cases y<;>simp
    |d::e::r=>
     rw[Zf0 h]
     cases hp:Zga [45,45] (c::d::e::r)with
     |true=>
      have:Zpa (c::d::e::r)=(0,0):=by rw[Z4d,if_pos hp]
      rw[this];simp
     |false=>
      rw[Zck h hp,Z9y];generalize sg2.contains [c,d]=x;generalize sg1.contains [c]=y
      cases x<;>cases y<;>simp
 unfold isP
 by_cases h1:(Zpa s).1=s.length
 rw[<- key,if_neg (show ¬ (Zpa s).1≠s.length by simpa using h1),h1]
 by_cases h2:s.length>64
 rw[if_pos (.inr h2),if_pos h2];rw[if_neg (by simpa using h2),if_neg h2];rw[if_pos (.inl h1)];rw[if_pos h1]at key;rw[<- key];simp
def Zbg(s:List UInt8):Bool:=
 let t:=Lib.trimPrefix s [45]
 t.all Z2a&&(s==[48]||(!(t==[]) && !(t.head? == some 48)))
def rdv(acc:Nat)(l:List UInt8):Nat:=l.foldl (λa c=>a*10+Z8t c) acc
theorem Za6:∀ (l:List UInt8) (acc:Nat),rdv acc l=acc*10^l.length+val (l.reverse.map Z8t)
 |[],acc=>by simp[rdv,val]
 |c::r,acc=>by
  have:=Za6 r (acc*10+Z8t c);rw[show rdv acc (c::r)=rdv (acc*10+Z8t c) r from rfl,this,List.reverse_cons,List.map_append,Zao,List.length_cons,Nat.pow_succ,List.length_map,List.length_reverse];simp only[List.map_cons,List.map_nil,val,Nat.mul_zero,Nat.add_zero];rw[Nat.add_mul,Nat.mul_assoc,Nat.mul_comm 10 (10^r.length),Nat.mul_comm (Z8t c)];omega
theorem Zgda:∀ (l:List UInt8) (acc:Nat),acc<=rdv acc l
 |[],acc=>Nat.le_refl _
 |c::r,acc=>by
  have:=Zgda r (acc*10+Z8t c);rw[show rdv acc (c::r)=rdv (acc*10+Z8t c) r from rfl];omega
theorem Zpg:∀ (l:List UInt8) (acc:Nat),l.all Z2a=true->acc<=18446744073709551615 ->
  Lib.parseUintM 18446744073709551615 acc l=if rdv acc l<=18446744073709551615 then .ok (rdv acc l)else .range
 |[],acc,_,h=>by simp[Lib.parseUintM,rdv,h]
 |c::r,acc,hd,h=>by
  rw[List.all_cons,Bool.and_eq_true]at hd
  have hc:48<=c.toNat/\c.toNat<=57:=by have:=hd.1;unfold Z2a at this;simpa using this
  have hge:=Zgda r (acc*10+Z8t c);have hdv:Z8t c=c.toNat-48:=rfl;rw[Lib.parseUintM,if_pos hc,show rdv acc (c::r)=rdv (acc*10+Z8t c) r from rfl]
  by_cases h1:1844674407370955162<=acc
  rw[if_pos h1,if_neg (by omega)];rw[if_neg h1]
  by_cases h2:18446744073709551615<acc*10+(c.toNat-48)
  rw[if_pos h2,if_neg (by omega)];rw[if_neg h2];exact Zpg r _ hd.2 (by omega)
theorem Zqg{l:List UInt8}(hl:l≠[])(hd:l.all Z2a=true):
  Lib.parseUintB 64 l=if val (l.reverse.map Z8t)<=18446744073709551615 then .ok (val (l.reverse.map Z8t))else .range:=by
 have:=Zpg l 0 hd (by omega);rw[Za6,Nat.zero_mul,Nat.zero_add]at this;rw[Lib.parseUintB,if_neg hl];exact this
theorem Zg5{x:Int}(h : -9223372036854775808<=x/\x<=9223372036854775807):told x=(x,0):=by
 unfold told fits;rw[if_pos (decide_eq_true h)]
theorem Z0y{x:Int}(h:¬ (-9223372036854775808<=x/\x<=9223372036854775807)):told x=(0,60):=by
 unfold told fits;rw[if_neg (by simpa using h)]
theorem Ze5(s:List UInt8):Lib.trimPrefix s [45]=if s.head?=some 45 then s.drop 1 else s:=by
 cases s with
 |nil=>rfl
 |cons c r=>
  unfold Lib.trimPrefix Lib.hasPrefix
  by_cases h:c=45
  subst h;simp;have h':¬ (45:UInt8)=c:=λe=>h e.symm;simp[h,h']
theorem Zf6(s:List UInt8):(Zbg s=false/\Zbd s=(0,2))\/(Zbg s=true/\((∃ v,Lib.parseIntB 64 s=.ok v/\Zbd s=(v,0))\/(Lib.parseIntB 64 s=.range/\Zbd s=(0,60)))):=by
 cases s with
 |nil=>exact .inl ⟨by decide,rfl⟩
 |cons c r=>
  unfold Zbg Zbd;rw[Ze5]
  by_cases hc:c=45
  subst hc;simp only[List.head?_cons,if_true,List.drop_succ_cons,List.drop_zero];have e1:((some (45:UInt8))==some 45)=true:=rfl
  have e2:((45::r:List UInt8)==[48])=false:=by simp
  simp only[e1,e2,if_true,Bool.false_or]
  by_cases hd:r.all Z2a=true
  .cases r with
   |nil=>left;simp
   |cons d q=>
    by_cases h0:d=48
    subst h0;left;simp
    right
    have h0':¬ ((some d:Option UInt8)==some 48)=true:=by simpa using h0
    refine⟨by simp[hd,h0],?_⟩;rw[if_neg (by simp only[List.head?_cons,Option.some.injEq,h0,hd,Bool.true_eq_false,reduceCtorEq,false_and,or_self,not_false_eq_true])];rw[Lib.parseIntB_minus,Zqg (by simp) hd];generalize val ((d::q).reverse.map Z8t)=m
    by_cases hm:m<=9223372036854775808
    left
    refine⟨-(m:Int),?_,Zg5 (by omega)⟩;rw[if_pos (by omega)];simp only[Lib.signedC];rw[if_neg (by omega)]
    right
    refine⟨?_,Z0y (by omega)⟩
    by_cases hm2:m<=18446744073709551615
    rw[if_pos hm2];simp only[Lib.signedC];rw[if_pos (by omega)];rw[if_neg hm2];rfl
  left
  have hd':r.all Z2a=false:=by simpa using hd
  simp[hd']
  have e1:((some c:Option UInt8)==some 45)=false:=by simpa using hc
  simp only[List.head?_cons,e1,Option.some.injEq,hc,if_false,Bool.false_eq_true]
  by_cases hd:(c::r).all Z2a=true
  have hdig:48<=c.toNat/\c.toNat<=57:=by
   have:=hd;rw[List.all_cons,Bool.and_eq_true]at this;have:=this.1;unfold Z2a at this;simpa using this
  by_cases h0:c=48/\r≠[]
  left
  obtain⟨rfl,h1⟩:=h0
  have hlen:(48::r:List UInt8).length>1:=by
   cases r with
   |nil=>exact absurd rfl h1
   |cons _ _=>simp
  refine⟨by simp[h1],?_⟩;rw[if_pos (.inr (.inl ⟨rfl,.inl hlen⟩))]
  right
  refine⟨?_,?_⟩;rw[hd]
  by_cases h1:c=48
  have:r=[]:=by
   by_cases h2:r=[]
   exact h2;exact absurd ⟨h1,h2⟩ h0
  subst h1 this;rfl;simp[h1]
  rw[if_neg (by
   simp only[List.head?_cons,Option.some.injEq,hd,Bool.true_eq_false,reduceCtorEq,or_false,false_or,not_and,List.length_cons];intro h1 h2;apply h0;refine⟨h1,λh3=>?_⟩;subst h3
   simp at h2)]
  rw[Lib.parseIntB_plain 64 c r (by omega) (by omega),Zqg (by simp) hd];generalize val ((c::r).reverse.map Z8t)=m
  by_cases hm:m<=9223372036854775807
  left
  refine⟨(m:Int),?_,Zg5 (by omega)⟩;rw[if_pos (by omega)];simp only[Lib.signlessC];rw[if_neg (by omega)]
  right
  refine⟨?_,Z0y (by omega)⟩
  by_cases hm2:m<=18446744073709551615
  rw[if_pos hm2];simp only[Lib.signlessC];rw[if_pos (by omega)];rw[if_neg hm2];rfl
  left
  have hd':(c::r).all Z2a=false:=by simpa using hd
  rw[hd'];exact⟨rfl,by rw[if_pos (.inr (.inr rfl))]⟩
end Go.Hs
end

section
namespace Go.Hs
open Go.Proofs
set_option maxRecDepth 10000
@[go_sem] theorem Zgaa(s:List UInt8)(k:Nat):(s.drop k).take (s.length-k)=s.drop k:=List.take_of_length_le zS
theorem getE_of{l:List UInt8}{k:Nat}(h:k<l.length):l[k]?=some l[k]:=List.getElem?_eq_getElem h
theorem Z4g(G:Nat->V)(hG:GOk G)(c:UInt8):Spec Tryz.prog G 250 [.int .u8 c.toNat] Zk (λv _=>v=.bool (Z2a c)):=by
 refine Zo 0 9 [.tmp 2] Tryz.func250 λX=>?_;refine Z1 ?_
 by_cases h:48<=c.toNat
 have h1:decide ((c.toNat:Int)>=48)=true:=zT;refine Zf h1 ?_;unfold Z2a;simp[h];omega;have h1:decide ((c.toNat:Int)>=48)=false:=zF;refine Zf h1 ?_;unfold Z2a;simp[h]
theorem u8q(c:UInt8)(n:Nat)(hn:n<256):((c.toNat:Int)==(n:Int))=(c==UInt8.ofNat n):=by
 by_cases h:c.toNat=n
 have h1:c=UInt8.ofNat n:=by
  apply UInt8.toNat_inj.1;rw[h,UInt8.toNat_ofNat'];omega
 rw[h1];simp;omega
 have h1:¬ c=UInt8.ofNat n:=by
  intro e;apply h;rw[e,UInt8.toNat_ofNat'];omega
 have h2:¬ (c.toNat:Int)=(n:Int):=zo;rw[show(c==UInt8.ofNat n)=false by simpa using h1,show((c.toNat:Int)==(n:Int))=false from beq_eq_false_iff_ne.2 h2]
theorem u8q10(c:UInt8):((c.toNat:Int)==10)=(c==10):=u8q c 10 zd
theorem Z99(c:UInt8):((c.toNat:Int)==32)=(c==32):=u8q c 32 zd
theorem Zaaa(c:UInt8):((c.toNat:Int)==13)=(c==13):=u8q c 13 zd
theorem u8q95(c:UInt8):((c.toNat:Int)==95)=(c==95):=u8q c 95 zd
theorem Zc2(G:Nat->V)(hG:GOk G)(c:UInt8):Spec Tryz.prog G 260 [.int .u8 c.toNat] Zk (λv _=>v=.bool (Zmz c)):=by
 refine Zo 0 5 [.tmp 2] Tryz.func260 λX=>?_;refine Z ?_;unfold Zmz;rw[bne,u8q10]
theorem Zbca(G:Nat->V)(hG:GOk G)(c:UInt8):Spec Tryz.prog G 259 [.int .u8 c.toNat] Zk (λv _=>v=.bool (Zti c)):=by
 refine Zo 0 17 [.tmp 2] Tryz.func259 λX=>?_
 have key:Zti c=(c==32||(decide ((c.toNat:Int)>=9)&&decide ((c.toNat:Int)<=10))||c==13):=by
  unfold Zti
  congr 3
  rw[decide_eq_decide];omega;rw[decide_eq_decide];omega
 rw[key];refine Z1 ?_
 cases h1:(c==32)with
 |true=>
  exact Zq (zi @Z99 (zi @Zaaa h1))
 |false=>
  cases h2:decide ((c.toNat:Int)>=9)with
  |false=>
   exact Zq (zi @Z99 (zi @Zaaa (zi h1 h2)))
  |true=>
   cases h3:decide ((c.toNat:Int)<=10)with
   |false=>
    exact Zq (zi @Z99 (zi @Zaaa (zi h1 (zi h2 h3))))
   |true=>
    exact Zq (zi @Z99 (zi @Zaaa (zi h1 (zi h2 h3))))
theorem Zuf(G:Nat->V)(hG:GOk G)(c:UInt8):Spec Tryz.prog G 252 [.int .u8 c.toNat] Zk (λv _=>v=.bool (Zun c)):=by
 refine Zo 0 15 [.tmp 2] Tryz.func252 λX=>?_;refine Z1 ?_
 cases h1:(c==95)with
 |true=>
  refine Zf (zi @u8q95 h1) ?_;unfold Zun
  rw[h1]<;>rfl
 |false=>
  have ho:orZ .u8 (c.toNat:Int) 32=((c.toNat ||| 32:Nat):Int):=by
   have:=Zdda (λc=>orZ .u8 (c.toNat:Int) 32==((c.toNat ||| 32:Nat):Int)) (by decide +kernel) c;simpa using this
  have hL:Zun c=(decide (((c.toNat ||| 32:Nat):Int)>=97)&&decide (((c.toNat ||| 32:Nat):Int)<=122)):=by
   unfold Zun;rw[h1,Bool.false_or]
   congr 1
   rw[decide_eq_decide];omega;rw[decide_eq_decide];omega
  rw[hL];generalize((c.toNat ||| 32:Nat):Int)=x at ho⊢
  cases h2:decide (x>=97)with
  |false=>
   exact Zq (zi @u8q95 (zi h1 (zi ho h2)))
  |true=>
   exact Zq (zi @u8q95 (zi h1 (zi ho h2)))
theorem Zcca(G:Nat->V)(hG:GOk G)(c:UInt8):Spec Tryz.prog G 253 [.int .u8 c.toNat] Zk (λv _=>v=.bool (Zjg c)):=by
 refine Zo 0 9 [.tmp 2] Tryz.func253 λX=>?_;refine Z1 ?_;unfold Zjg
 cases h1:Zun c with
 |true=>
  refine Z1 ?_;refine Zn hG ?_ (s:=(Zuf G hG c));refine Zsf h1 ?_;exact Zr
 |false=>
  refine Z1 ?_;refine Zn hG ?_ (s:=(Zuf G hG c));refine Zsf h1 ?_;refine Zn hG ?_ (s:=(Z4g G hG c));refine Zsf h1 ?_;exact Zr
structure FnB(G:Nat->V)(f:FuncId)(p:UInt8->Bool):Prop where
 en:Z4 Tryz.prog f=true
 sp:∀ c:UInt8,Spec Tryz.prog G f [.int .u8 c.toNat] Zk (λv _=>v=.bool (p c))
theorem fDigit{G:Nat->V}(hG:GOk G):FnB G 250 Z2a:=⟨by kernel_rfl,Z4g G hG⟩
theorem fNoNl{G:Nat->V}(hG:GOk G):FnB G 260 Zmz:=⟨by kernel_rfl,Zc2 G hG⟩
theorem fBl{G:Nat->V}(hG:GOk G):FnB G 259 Zti:=⟨by kernel_rfl,Zbca G hG⟩
theorem fAl{G:Nat->V}(hG:GOk G):FnB G 253 Zjg:=⟨by kernel_rfl,Zcca G hG⟩
theorem Zzh(G:Nat->V)(hG:GOk G)(s:List UInt8)(hs:s.length<1000000000000000){f:FuncId}{p:UInt8->Bool}(hf:FnB G f p):
  Spec Tryz.prog G 251 [.str s,.func (.func f) [] []] Zk (λv _=>v=.int .i64 (Zld p s)):=by
 refine Zo 0 20 [.tmp 4] Tryz.func251 λX=>?_;refine Z1 ?_;refine Z1 ?_;refine Z8 ?_;refine AW.block ?_
 refine Zfa s.length (λk (_:Unit)=>st [(0,.str s),(1,.func (.func f) [] []),(5,.int .i64 k)] []) (λk _=>Zld p s=k+Zld p (s.drop k)) 0 () (Nat.zero_le _) zS
  (Zb zp zp) ?_
 intro k _ hk hR L2 hL2;refine Z8 ?_
 by_cases hk1:k<s.length
 have h1:decide ((k:Int)<s.length)=true:=zT;have hg:=getE_of hk1;have hd:s.drop k=s[k]::s.drop (k+1):=List.drop_eq_getElem_cons hk1;generalize s[k]=c at hg hd;rw[hd]at hR;refine Z1f (zi h1 hg) ?_;refine CallA.pure hG hf.en ?_;refine Zs ?_;refine(hf.sp c).mono ?_;rintro _ _ rfl;refine Zsf h1 ?_;rw[Zzk]at hR;refine Zj rfl (λh4=>?_) (λh4=>?_);rw[if_pos h4]at hR;refine Z1 ?_;refine hL2 _ ⟨hk1,(),zo,Zb zw zp⟩;rw[if_neg (by simp[h4])]at hR;refine Z ?_;have hR:Zld p s=k+0:=hR
 rw[hR]<;>rfl
 have h1:decide ((k:Int)<s.length)=false:=zF;have hk2:k=s.length:=zo;refine Z1f h1 ?_;refine Ztc rfl ?_;refine Z ?_
 rw[hR,hk2,List.drop_length]<;>rfl
def encR(r:Int×Int):V:=.tuple [.int .i64 r.1,.int .i64 r.2]
def ints(l:List Nat):List Int:=l.map (fun(d:Nat)=>(d:Int))
@[simp] theorem ints_len(l:List Nat):(ints l).length=l.length:=by simp[ints]
theorem Z1j(l:List Nat)(k:Nat):val (l.drop k)=l.getD k 0+10*val (l.drop (k+1)):=by
 by_cases h:k<l.length
 .rw[List.drop_eq_getElem_cons h,val,List.getD_eq_getElem?_getD,List.getElem?_eq_getElem h]
  try rfl
 .rw[List.drop_eq_nil_of_le zo,List.drop_eq_nil_of_le zo,List.getD_eq_getElem?_getD,List.getElem?_eq_none zo]
  try rfl
theorem Zr7{l:List Nat}(h:Dig l)(k:Nat):l.getD k 0<10:=by
 rw[List.getD_eq_getElem?_getD]
 by_cases hk:k<l.length
 rw[List.getElem?_eq_getElem hk];exact h _ (List.getElem_mem hk);rw[List.getElem?_eq_none zo]
 decide
theorem Z3ca{K n A B o V:Nat}(h:o+K*(n+10*A+10*B)=V):(o+K*(n%10))+(K*10)*(n/10+A+B)=V:=by
 rw[<- h,Nat.mul_assoc,Nat.add_assoc,<- Nat.mul_add]
 congr 2
 omega
structure AddI(la lb:List Nat)(M k:Nat)(out:List Nat)(cr:Nat):Prop where
 len:out.length=k
 dig:Dig out
 hcr:cr<=1
 v:val out+10^k*(cr+val (la.drop k)+val (lb.drop k))=val la+val lb
 last:k=M+1->cr=0
 emp:M=0->k=0/\cr=0
theorem AddI.zero(la lb:List Nat)(M:Nat):AddI la lb M 0 [] 0:={ len:=rfl,dig:=λd hd=>by simp at hd,hcr:=zo,v:=by simp[val],last:=λ_=>rfl,emp:=λ_=>⟨rfl,rfl⟩ }
theorem AddI.step{la lb:List Nat}{M k:Nat}{out:List Nat}{cr:Nat}(h:AddI la lb M k out cr)(hM:M=max la.length lb.length)(da:Dig la)(db:Dig lb)(hgo:k<M\/cr>0){n:Nat}(hn:n=la.getD k 0+lb.getD k 0+cr)(hk:k<=M):
  AddI la lb M (k+1) (out++[n%10]) (n/10):=by
 have h1:=Zr7 da k;have h2:=Zr7 db k;have h3:=h.hcr;refine⟨by simp[h.len],Z29.2 ⟨h.dig,Dig.one zo⟩,zo,?_,λe=>?_,λe=>?_⟩;have hv:=h.v;rw[Z1j la k,Z1j lb k]at hv;rw[Zao,h.len,Nat.pow_succ]
 have e:val out+10^k*(n+10*val (la.drop (k+1))+10*val (lb.drop (k+1)))=val la+val lb:=by
  rw[<- hv,hn]
  congr 2
  omega
 simpa[val]using Z3ca e
 have e1:la.getD k 0=0:=by rw[List.getD_eq_getElem?_getD,List.getElem?_eq_none zo]<;>rfl
 have e2:lb.getD k 0=0:=by rw[List.getD_eq_getElem?_getD,List.getElem?_eq_none zo]<;>rfl
 omega;have:=h.emp e;omega
structure TakeI(la lb:List Nat)(k:Nat)(out:List Nat)(br:Nat):Prop where
 len:out.length=k
 dig:Dig out
 hbr:br<=1
 v:(val out:Int)+(10:Int)^k*((val (la.drop k):Int)-br-val (lb.drop k))=val la-val lb
theorem TakeI.zero(la lb:List Nat):TakeI la lb 0 [] 0:={ len:=rfl,dig:=λd hd=>by simp at hd,hbr:=zo,v:=by simp[val] }
theorem Zk5{K x A B o V b:Int}{d br':Int}(h:o+K*(x+10*A-b-(d+10*B))=V){n:Int}(hn:n=x-d-b+10*br'):(o+K*n)+(K*10)*(A-br'-B)=V:=by
 rw[<- h,hn,Int.mul_assoc,Int.add_assoc,<- Int.mul_add]
 congr 2
 omega
theorem TakeI.step{la lb:List Nat}{k:Nat}{out:List Nat}{br:Nat}(h:TakeI la lb k out br){n br':Nat}(hn:(n:Int)=(la.getD k 0:Nat)-(lb.getD k 0:Nat)-br+10*br')(hn10:n<10)(hb:br'<=1):
  TakeI la lb (k+1) (out++[n]) br':=by
 refine⟨by simp[h.len],Z29.2 ⟨h.dig,Dig.one hn10⟩,hb,?_⟩;have hv:=h.v;rw[Z1j la k,Z1j lb k]at hv;rw[Zao,h.len,Int.pow_succ]
 have e:(val out:Int)+(10:Int)^k*(((la.getD k 0:Nat):Int)+10*(val (la.drop (k+1)):Int)-(br:Int)-(((lb.getD k 0:Nat):Int)+10*(val (lb.drop (k+1)):Int)))=val la-val lb:=by
  rw[<- hv]
  congr 2
 have:=Zk5 e hn;simpa[val]using this
end Go.Hs
end

section
namespace Go.Proofs
open Go.Shelf
def Zhm:Go.Shelf.Ren:=⟨fun|174=>347|247=>355|245=>356|287=>363|279=>364|280=>365|281=>366|282=>367|321=>370|322=>371|316=>372|171=>374|205=>373|243=>375|246=>376|283=>377|284=>378|285=>379|286=>380|129=>238|317=>381|318=>382|319=>383|320=>384|337=>385|338=>386|n=>n,fun|9=>9|3=>3|2=>2|75=>379|85=>380|4=>4|167=>397|5=>5|53=>265|175=>398|46=>219|168=>400|37=>136|0=>0|210=>422|21=>21|127=>425|145=>428|143=>426|171=>430|173=>432|212=>435|51=>263|20=>20|213=>436|232=>437|233=>438|80=>362|n=>n,fun|15=>5|16=>2|17=>6|18=>7|19=>8|n=>n⟩
theorem Zim:Go.Proofs.LaysC.n174 Tryz.prog Zhm:={
 mixed:=by kernel_rfl
 f129:=Tryz.func238.trans (congrArg some (by kernel_rfl))
 f171:=Tryz.func374.trans (congrArg some (by kernel_rfl))
 f174:=Tryz.func347.trans (congrArg some (by kernel_rfl))
 f205:=Tryz.func373.trans (congrArg some (by kernel_rfl))
 f243:=Tryz.func375.trans (congrArg some (by kernel_rfl))
 f245:=Tryz.func356.trans (congrArg some (by kernel_rfl))
 f246:=Tryz.func376.trans (congrArg some (by kernel_rfl))
 f247:=Tryz.func355.trans (congrArg some (by kernel_rfl))
 f279:=Tryz.func364.trans (congrArg some (by kernel_rfl))
 f280:=Tryz.func365.trans (congrArg some (by kernel_rfl))
 f281:=Tryz.func366.trans (congrArg some (by kernel_rfl))
 f282:=Tryz.func367.trans (congrArg some (by kernel_rfl))
 f283:=Tryz.func377.trans (congrArg some (by kernel_rfl))
 f284:=Tryz.func378.trans (congrArg some (by kernel_rfl))
 f285:=Tryz.func379.trans (congrArg some (by kernel_rfl))
 f286:=Tryz.func380.trans (congrArg some (by kernel_rfl))
 f287:=Tryz.func363.trans (congrArg some (by kernel_rfl))
 f316:=Tryz.func372.trans (congrArg some (by kernel_rfl))
 f317:=Tryz.func381.trans (congrArg some (by kernel_rfl))
 f318:=Tryz.func382.trans (congrArg some (by kernel_rfl))
 f319:=Tryz.func383.trans (congrArg some (by kernel_rfl))
 f320:=Tryz.func384.trans (congrArg some (by kernel_rfl))
 f321:=Tryz.func370.trans (congrArg some (by kernel_rfl))
 f322:=Tryz.func371.trans (congrArg some (by kernel_rfl))
 f337:=Tryz.func385.trans (congrArg some (by kernel_rfl))
 f338:=Tryz.func386.trans (congrArg some (by kernel_rfl))
 t0:=Tryz.underlying0
 a0:=Tryz.isAgg0
 z0:=Tryz.sizeOf0
 v0:=Tryz.zeroValue0
 t2:=Tryz.underlying2
 a2:=Tryz.isAgg2
 z2:=Tryz.sizeOf2
 v2:=Tryz.zeroValue2
 t3:=Tryz.underlying3
 a3:=Tryz.isAgg3
 z3:=Tryz.sizeOf3
 v3:=Tryz.zeroValue3
 t4:=Tryz.underlying4
 a4:=Tryz.isAgg4
 z4:=Tryz.sizeOf4
 v4:=Tryz.zeroValue4
 t5:=Tryz.underlying5
 a5:=Tryz.isAgg5
 z5:=Tryz.sizeOf5
 v5:=Tryz.zeroValue5
 t9:=Tryz.underlying9
 a9:=Tryz.isAgg9
 z9:=Tryz.sizeOf9
 v9:=Tryz.zeroValue9
 t20:=Tryz.underlying20
 a20:=Tryz.isAgg20
 z20:=Tryz.sizeOf20
 v20:=Tryz.zeroValue20
 t21:=Tryz.underlying21
 a21:=Tryz.isAgg21
 z21:=Tryz.sizeOf21
 v21:=Tryz.zeroValue21
 t37:=Tryz.underlying136
 a37:=Tryz.isAgg136
 z37:=Tryz.sizeOf136
 v37:=Tryz.zeroValue136
 t46:=Tryz.underlying219
 a46:=Tryz.isAgg219
 z46:=Tryz.sizeOf219
 v46:=Tryz.zeroValue219
 t51:=Tryz.underlying263
 a51:=Tryz.isAgg263
 z51:=Tryz.sizeOf263
 v51:=Tryz.zeroValue263
 t53:=Tryz.underlying265
 a53:=Tryz.isAgg265
 z53:=Tryz.sizeOf265
 v53:=Tryz.zeroValue265
 t75:=Tryz.underlying379
 a75:=Tryz.isAgg379
 z75:=Tryz.sizeOf379
 v75:=Tryz.zeroValue379
 t85:=Tryz.underlying380
 a85:=Tryz.isAgg380
 z85:=Tryz.sizeOf380
 v85:=Tryz.zeroValue380
 t127:=Tryz.underlying425
 a127:=Tryz.isAgg425
 z127:=Tryz.sizeOf425
 v127:=Tryz.zeroValue425
 t143:=Tryz.underlying426
 a143:=Tryz.isAgg426
 z143:=Tryz.sizeOf426
 v143:=Tryz.zeroValue426
 t145:=Tryz.underlying428
 a145:=Tryz.isAgg428
 z145:=Tryz.sizeOf428
 v145:=Tryz.zeroValue428
 t167:=Tryz.underlying397
 a167:=Tryz.isAgg397
 z167:=Tryz.sizeOf397
 v167:=Tryz.zeroValue397
 t168:=Tryz.underlying400
 a168:=Tryz.isAgg400
 z168:=Tryz.sizeOf400
 v168:=Tryz.zeroValue400
 t171:=Tryz.underlying430
 a171:=Tryz.isAgg430
 z171:=Tryz.sizeOf430
 v171:=Tryz.zeroValue430
 t173:=Tryz.underlying432
 a173:=Tryz.isAgg432
 z173:=Tryz.sizeOf432
 v173:=Tryz.zeroValue432
 t175:=Tryz.underlying398
 a175:=Tryz.isAgg398
 z175:=Tryz.sizeOf398
 v175:=Tryz.zeroValue398
 t210:=Tryz.underlying422
 a210:=Tryz.isAgg422
 z210:=Tryz.sizeOf422
 v210:=Tryz.zeroValue422
 t212:=Tryz.underlying435
 a212:=Tryz.isAgg435
 z212:=Tryz.sizeOf435
 v212:=Tryz.zeroValue435
 t213:=Tryz.underlying436
 a213:=Tryz.isAgg436
 z213:=Tryz.sizeOf436
 t232:=Tryz.underlying437
 a232:=Tryz.isAgg437
 z232:=Tryz.sizeOf437
 v232:=Tryz.zeroValue437
 t233:=Tryz.underlying438
 a233:=Tryz.isAgg438
 z233:=Tryz.sizeOf438
 v233:=Tryz.zeroValue438
 g15:=by kernel_rfl
 g16:=by kernel_rfl
 g17:=by kernel_rfl
 g18:=by kernel_rfl
 g19:=by kernel_rfl
 t80:=Tryz.underlying362
 a80:=Tryz.isAgg362
 z80:=Tryz.sizeOf362
 v80:=Tryz.zeroValue362
 i0:=by kernel_rfl
 i2:=by kernel_rfl
 i3:=by kernel_rfl
 i4:=by kernel_rfl
 i5:=by kernel_rfl
 i9:=by kernel_rfl
 i20:=by kernel_rfl
 i21:=by kernel_rfl
 i37:=by kernel_rfl
 i46:=by kernel_rfl
 i51:=by kernel_rfl
 i53:=by kernel_rfl
 i75:=by kernel_rfl
 i80:=by kernel_rfl
 i85:=by kernel_rfl
 i127:=by kernel_rfl
 i143:=by kernel_rfl
 i145:=by kernel_rfl
 i167:=by kernel_rfl
 i168:=by kernel_rfl
 i171:=by kernel_rfl
 i173:=by kernel_rfl
 i175:=by kernel_rfl
 i210:=by kernel_rfl
 i212:=by kernel_rfl
 i232:=by kernel_rfl
 i233:=by kernel_rfl
 m15:=by kernel_rfl
 m16:=by kernel_rfl
 m17:=by kernel_rfl
 m18:=by kernel_rfl
 m19:=by kernel_rfl
 c0:=by kernel_rfl
 c2:=by kernel_rfl
 c3:=by kernel_rfl
 c4:=by kernel_rfl
 c5:=by kernel_rfl
 c9:=by kernel_rfl
 c20:=by kernel_rfl
 c21:=by kernel_rfl
 c37:=by kernel_rfl
 c46:=by kernel_rfl
 c51:=by kernel_rfl
 c53:=by kernel_rfl
 c75:=by kernel_rfl
 c80:=by kernel_rfl
 c85:=by kernel_rfl
 c127:=by kernel_rfl
 c143:=by kernel_rfl
 c145:=by kernel_rfl
 c167:=by kernel_rfl
 c168:=by kernel_rfl
 c171:=by kernel_rfl
 c173:=by kernel_rfl
 c175:=by kernel_rfl
 c210:=by kernel_rfl
 c212:=by kernel_rfl
 c213:=by kernel_rfl
 c232:=by kernel_rfl
 c233:=by kernel_rfl }
def Zfm:Go.Shelf.Ren:=⟨fun|101=>354|208=>362|206=>277|n=>n,fun|9=>9|4=>4|3=>3|n=>n,fun|n=>n⟩
theorem Zww:Go.Proofs.Lays.n101 Tryz.prog Zfm:={
 mixed:=by kernel_rfl
 f101:=Tryz.func354.trans (congrArg some (by kernel_rfl))
 f206:=Tryz.func277.trans (congrArg some (by kernel_rfl))
 f208:=Tryz.func362.trans (congrArg some (by kernel_rfl))
 t3:=Tryz.underlying3
 a3:=Tryz.isAgg3
 z3:=Tryz.sizeOf3
 v3:=Tryz.zeroValue3
 t4:=Tryz.underlying4
 a4:=Tryz.isAgg4
 z4:=Tryz.sizeOf4
 v4:=Tryz.zeroValue4
 t9:=Tryz.underlying9
 a9:=Tryz.isAgg9
 z9:=Tryz.sizeOf9
 v9:=Tryz.zeroValue9 }
end Go.Proofs
end
