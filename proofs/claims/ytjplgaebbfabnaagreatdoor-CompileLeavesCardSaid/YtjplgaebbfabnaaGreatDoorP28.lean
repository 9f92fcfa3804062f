/- A part. No condition. -/
import Derived.Lib.ParseIntB
import Derived.Lib.ItoaNum
import Derived.Lib.Index
import Derived.Lib.IndexMore
import Derived.Lib.ParseIntBCases
import Derived.Test.YtjplgaebbfabnaaGreatDoorP18
import Derived.Test.YtjplgaebbfabnaaGreatDoorP27
import Derived.Lib.Mul64
import Derived.Test.YtjplgaebbfabnaaGreatDoorChecked
import Derived.Shelf.Strconv.ParseIntPublic10
import Derived.Shelf.Strconv.ErrVarParseInt
import Derived.Shelf.Strconv.Itoa4
import Derived.Shelf.Strings.Prefix
import Derived.Ground.NamesProg
set_option linter.all false
section
namespace Go.Hs
def val:List Nat->Nat
 |[]=>0
 |d::r=>d+10*val r
theorem Zdx:∀ (a b:List Nat),val (a++b)=val a+10^a.length*val b
 |[],b=>by simp[val]
 |d::a,b=>by
  rw[List.cons_append,val,Zdx a b,val,List.length_cons,Nat.pow_succ]
  grind
def fits(x:Int):Bool:=decide (-9223372036854775808<=x/\x<=9223372036854775807)
def Z34(x:Int):Int×Int:=if fits x then(x,0)else(0,60)
def Vc(c:UInt8):Bool:=48<=c.toNat&&c.toNat<=57
def K6(c:UInt8):Nat:=c.toNat-48
def Sw(s:List UInt8):Int×Int:=
 let below:=s.head? == some 45
 let t:=if below then s.drop 1 else s
 if t=[]\/(t.head?=some 48/\(t.length>1\/below=true))\/t.all Vc=false then(0,2)
 else Z34 (if below then -(val (t.reverse.map K6):Int)else val (t.reverse.map K6))
end Go.Hs
end

section
namespace Go.Hs
open Go
structure Tk where
 kind:Int
 text:List UInt8
 pos:Int
 deriving DecidableEq,Inhabited
def Ie(c:UInt8):Bool:=c==95||(decide (97<=(c.toNat ||| 32))&&decide ((c.toNat ||| 32)<=122))
def Pj(c:UInt8):Bool:=Ie c||Vc c
def Ri(c:UInt8):Bool:=c==32||(decide (9<=c.toNat)&&decide (c.toNat<=10))||c==13
def H7(c:UInt8):Bool := !(c==10)
def Vp(p:UInt8->Bool):List UInt8->Nat
 |[]=>0
 |c::r=>if p c then Vp p r+1 else 0
theorem Hi(p:UInt8->Bool)(c:UInt8)(r:List UInt8):Vp p (c::r)=if p c then Vp p r+1 else 0:=rfl
theorem Nl(p:UInt8->Bool):∀ s,Vp p s<=s.length
 |[]=>Nat.le_refl _
 |c::r=>by
  have:=Nl p r;unfold Vp
  grind
def Xs(p s:List UInt8):Bool:=p.isPrefixOf s
theorem G9(a c:UInt8)(p s:List UInt8):Xs (a::p) (c::s)=(a==c&&Xs p s):=rfl
def Znd:Nat->List UInt8->Nat
 |0,_=>0
 |_+1,[]=>0
 |f+1,c::r=>if Ri c then Znd f r+1 else if Xs [45,45] (c::r)then Vp H7 (c::r)+Znd f ((c::r).drop (Vp H7 (c::r)))else 0
def blk(s:List UInt8):Nat:=Znd s.length s
theorem J1{s:List UInt8}(h:Xs [45,45] s=true):2<=Vp H7 s/\2<=s.length:=by
 match s with
 |[]=>simp[Xs]at h
 |[_]=>simp[Xs]at h
 |a::b::r=>
  simp[Xs]at h;obtain⟨rfl,rfl⟩:=h;simp[Vp,H7]
theorem Zmd:∀ (f f':Nat) (s:List UInt8),s.length<=f->s.length<=f'->Znd f s=Znd f' s
 |0,f',s,h,_=>by
  have:s=[]:=List.length_eq_zero_iff.1 (by omega);subst this
  cases f'<;>rfl
 |f+1,0,s,_,h=>by
  have:s=[]:=List.length_eq_zero_iff.1 (by omega);subst this;rfl
 |f+1,f'+1,[],_,_=>rfl
 |f+1,f'+1,c::r,h,h'=>by
  simp only[List.length_cons]at h h';unfold Znd
  split
  rw[Zmd f f' r (by omega) (by omega)]
  split
  rename_i a;have:=J1 a;rw[Zmd f f' _ (by grind) (by grind)];rfl
theorem Zs8{c:UInt8}{r:List UInt8}(h:Ri c=true):blk (c::r)=blk r+1:=by
 unfold blk;rw[List.length_cons,Znd,if_pos h]
theorem Zmy{s:List UInt8}(h:Xs [45,45] s=true):blk s=Vp H7 s+blk (s.drop (Vp H7 s)):=by
 match s with
 |[]=>rfl
 |c::r=>
  have a:Ri c=false:=by
   cases r with
   |nil=>simp[Xs]at h
   |cons d r=>simp[Xs]at h;rw[<- h.1];decide
  have:=J1 h;unfold blk;rw[List.length_cons,Znd,if_neg (by grind),if_pos h];rw[Zmd r.length _ _ (by grind) (Nat.le_refl _)]
theorem Zr8{c:UInt8}{r:List UInt8}(h:Ri c=false)(a:Xs [45,45] (c::r)=false):blk (c::r)=0:=by
 unfold blk;rw[List.length_cons,Znd,if_neg (by grind),if_neg (by grind)]
theorem Z8t(s:List UInt8):blk s<=s.length:=by
 have a:∀ (n:Nat) (s:List UInt8),s.length<=n->blk s<=s.length:=by
  intro n
  induction n with
  |zero=>
   intro s h;have:s=[]:=List.length_eq_zero_iff.1 (by omega);subst this;exact Nat.le_refl _
  |succ n ih=>
   intro s h
   match s with
   |[]=>grind
   |c::r=>
    cases d:Ri c with
    |true=>
     rw[Zs8 d]
     grind
    |false=>
     cases b:Xs [45,45] (c::r)with
     |false=>rw[Zr8 d b];grind
     |true=>
      have f:=J1 b;have e:=Nl H7 (c::r);rw[Zmy b]
      grind
 exact a s.length s (Nat.le_refl _)
def signsL:List (List UInt8):=[[58,61],[60,62],[60,61],[62,61],[60],[62],[61],[43],[45],[42],[40],[41],[44],[59]]
def wordsL:List (List UInt8):=[[97,110,100],[100,105,118],[101,108,115,101],[101,109,105,116],[101,110,100,105,102],[102,97,108,115,101],[105,102],[105,109,112,108,105,101,115],[109,111,100],[110,111,116],[111,114],[116,104,101,110],[116,114,117,101],[120,111,114]]
def Zw4:List UInt8:=32::wordsL.flatMap (· ++ [32])
def X2(s:List UInt8):Nat×Nat:=
 match s with
 |[]=>(0,0)
 |c::_=>
  if Xs [45,45] s then(0,0)
  else if Vc c then(Vp Vc s,1)
  else if Ie c then(Vp Pj s,if wordsL.contains (s.take (Vp Pj s))then 3 else 2)
  else match signsL.find? (Xs · s)with
   |some t=>(t.length,4)
   |none=>(0,0)
def P6(s:List UInt8):Nat:=if(X2 s).1≠s.length\/(X2 s).1>64 then 0 else(X2 s).2
theorem Pw(c:UInt8)(r:List UInt8):X2 (c::r) =
  if Xs [45,45] (c::r)then(0,0)
  else if Vc c then(Vp Vc (c::r),1)
  else if Ie c then(Vp Pj (c::r),if wordsL.contains ((c::r).take (Vp Pj (c::r)))then 3 else 2)
  else match signsL.find? (Xs · (c::r))with
   |some t=>(t.length,4)
   |none=>(0,0):=rfl
theorem Zl1(s:List UInt8):(X2 s).1<=s.length:=by
 unfold X2
 split
 grind
 split
 grind
 split
 exact Nl _ _
 split
 exact Nl _ _
 split
 rename_i h;have:=List.find?_some h;exact(List.isPrefixOf_iff_prefix.1 this).length_le
 grind
def Uk:Nat->List UInt8->Nat->List Tk->List Tk×Int×Int
 |0,_,_,acc=>(acc,0,0)
 |f+1,s,i,acc=>
  if i<s.length then
   if(X2 (s.drop i)).1=0\/(X2 (s.drop i)).1>64 then([],i,70)
   else Uk f s (i+(X2 (s.drop i)).1+blk (s.drop (i+(X2 (s.drop i)).1))) (acc++[⟨(X2 (s.drop i)).2,(s.drop i).take (X2 (s.drop i)).1,i⟩])
  else(acc,0,0)
def Y4(s:List UInt8):List Tk×Int×Int:=if s.length>65536 then([],0,3)else Uk (s.length+1) s (blk s) []
theorem Z1h:∀ (f f':Nat) (s:List UInt8) (i:Nat) (acc:List Tk),s.length<f+i->s.length<f'+i->Uk f s i acc=Uk f' s i acc
 |0,f',s,i,acc,h,_=>by
  cases f' with
  |zero=>rfl
  |succ f'=>rw[Uk,Uk,if_neg (by omega)]
 |f+1,0,s,i,acc,_,h=>by rw[Uk,Uk,if_neg (by omega)]
 |f+1,f'+1,s,i,acc,h,h'=>by
  unfold Uk
  split
  split
  rfl;exact Z1h f f' _ _ _ (by omega) (by omega);rfl
theorem Zlq{f:Nat}{s:List UInt8}{i:Nat}{acc:List Tk}(h:i<s.length)(b:s.length<f+i)(a:¬ ((X2 (s.drop i)).1=0\/(X2 (s.drop i)).1>64)):
  Uk f s i acc=Uk f s (i+(X2 (s.drop i)).1+blk (s.drop (i+(X2 (s.drop i)).1))) (acc++[⟨(X2 (s.drop i)).2,(s.drop i).take (X2 (s.drop i)).1,i⟩]):=by
 cases f with
 |zero=>omega
 |succ f=>
  rw[Uk,if_pos h,if_neg a];exact Z1h _ _ _ _ _ (by omega) (by omega)
theorem Z1y{f:Nat}{s:List UInt8}{i:Nat}{acc:List Tk}(h:i<s.length)(b:s.length<f+i)(a:(X2 (s.drop i)).1=0\/(X2 (s.drop i)).1>64):Uk f s i acc=([],(i:Int),70):=by
 cases f with
 |zero=>omega
 |succ f=>rw[Uk,if_pos h,if_pos a]
theorem Z0y{f:Nat}{s:List UInt8}{i:Nat}{acc:List Tk}(h:¬ i<s.length):Uk f s i acc=(acc,0,0):=by
 cases f with
 |zero=>rfl
 |succ f=>rw[Uk,if_neg h]
theorem Z04(p:UInt8->Bool)(h:(List.range 256).all (λn=>p (UInt8.ofNat n))=true)(c:UInt8):p c=true:=by
 have a:=List.all_eq_true.1 h c.toNat (List.mem_range.2 c.toNat_lt);simp_all
theorem Zs7{c:UInt8}(h:Vc c=true):Ie c=false/\Pj c=true:=by
 revert h
 unfold Pj;have:=Z04 (λc => !Vc c||(!Ie c&&(Ie c||Vc c))) (by decide +kernel) c
 grind
theorem Zv4:∀ w∈wordsL,w.all Pj=true/\w≠[]/\(∀ c∈w.head?,Ie c=true):=by decide +kernel
theorem Zq5:∀ w∈signsL,w≠[]/\w.length<=2/\(∀ c∈w,Pj c=false):=by decide +kernel
theorem contains_nil(c:UInt8)(q:List UInt8):Lib.contains [] (c::q)=false:=by rfl
theorem contains_cons(b:UInt8)(l p:List UInt8):Lib.contains (b::l) p=(p.isPrefixOf (b::l)||Lib.contains l p):=by
 unfold Lib.contains;rw[Lib.index]
 grind
theorem Zf6:∀ (w v rest:List UInt8),(∀ c∈w,c≠32)->(∀ c∈v,c≠32)->(w++[32]).isPrefixOf (v++32::rest)=(w==v)
 |[],[],rest,_,_=>by simp
 |[],b::v,rest,_,hv=>by
  grind
 |a::w,[],rest,hw,_=>by
  grind
 |a::w,b::v,rest,hw,hv=>by
  have:=Zf6 w v rest (λc d=>hw c (by grind)) (λc d=>hv c (by grind))
  grind
theorem Km(q:List UInt8):∀ (v l:List UInt8),(∀ c∈v,c≠32)->Lib.contains (v++l) (32::q)=Lib.contains l (32::q)
 |[],_,_=>rfl
 |b::v,l,hv=>by
  have d:=hv b (by simp);rw[List.cons_append,contains_cons,Km q v l λc a=>hv c (by grind)]
  grind
theorem Lc(w:List UInt8)(a:∀ c∈w,c≠32):∀ (Ws:List (List UInt8)),(∀ v∈Ws,∀ c∈v,c≠32) ->
  Lib.contains (32::Ws.flatMap (· ++ [32])) (32::(w++[32]))=Ws.contains w
 |[],_=>by
  cases w with
  |nil=>rfl
  |cons=>rfl
 |v::Ws,h=>by
  have b:=h v (by simp);rw[List.flatMap_cons,contains_cons,List.append_assoc,Km _ _ _ b,List.singleton_append,Lc w a Ws λx d=>h x (by grind)]
  congr 1
  exact Zf6 w v _ a b
theorem Zsca{c:UInt8}(h:Pj c=true):c≠32:=by rintro rfl;revert h;decide
theorem E3(w:List UInt8)(b:w.all Pj=true):Lib.contains Zw4 (32::(w++[32]))=wordsL.contains w:=by
 rw[List.all_eq_true]at b
 exact Lc w (λc a=>Zsca (b c a)) wordsL λv d c a=>by
  have:=(Zv4 v d).1;rw[List.all_eq_true]at this;exact Zsca (this c a)
theorem Kg(p:UInt8->Bool):∀ s:List UInt8,(s.take (Vp p s)).all p=true
 |[]=>rfl
 |c::r=>by
  unfold Vp
  split
  rename_i h;rw[List.take_succ_cons,List.all_cons,h,Kg p r];rfl;rfl
def Zr5(s:List UInt8):Nat:=match signsL.find? (Xs · s)with|some t=>t.length|none=>0
theorem Zk1{c:UInt8}{r:List UInt8}(h:Vc c=true):X2 (c::r)=(Vp Vc (c::r),1):=by
 have a:Xs [45,45] (c::r)=false:=by
  have:(45==c)=false:=by
   rw[beq_eq_false_iff_ne];rintro rfl;revert h;decide
  rw[G9,this];rfl
 rw[Pw,if_neg (by grind),if_pos h]
theorem Z77{c:UInt8}{r:List UInt8}(h:Ie c=true):X2 (c::r)=(Vp Pj (c::r),if wordsL.contains ((c::r).take (Vp Pj (c::r)))then 3 else 2):=by
 have d:Xs [45,45] (c::r)=false:=by
  have:(45==c)=false:=by
   rw[beq_eq_false_iff_ne];rintro rfl;revert h;decide
  rw[G9,this];rfl
 have b:Vc c=false:=by
  rw[Bool.eq_false_iff];intro a;rw[(Zs7 a).1]at h;cases h
 rw[Pw,if_neg (by grind),if_neg (by grind),if_pos h]
theorem Z67{c:UInt8}{r:List UInt8}(h:Pj c=false)(d:Xs [45,45] (c::r)=false):X2 (c::r)=(Zr5 (c::r),if Zr5 (c::r)=0 then 0 else 4):=by
 have b:Ie c=false/\Vc c=false:=by unfold Pj at h;simpa using h
 unfold Zr5;rw[Pw,if_neg (by grind),if_neg (by grind),if_neg (by grind)]
 cases a:signsL.find? (Xs · (c::r))with
 |none=>rfl
 |some t=>
  have:=List.mem_of_find?_eq_some a;have:=(Zq5 t this).1;simp[this]
def P7(s:List UInt8):Bool:=
 let t:=Lib.trimPrefix s [45]
 t.all Vc&&(s==[48]||(!(t==[]) && !(t.head? == some 48)))
def rdv(acc:Nat)(l:List UInt8):Nat:=l.foldl (λa c=>a*10+K6 c) acc
theorem Zrx:∀ (l:List UInt8) (acc:Nat),rdv acc l=acc*10^l.length+val (l.reverse.map K6)
 |[],acc=>by simp[rdv,val]
 |c::r,acc=>by
  have:=Zrx r (acc*10+K6 c);rw[show rdv acc (c::r)=rdv (acc*10+K6 c) r from rfl,this,List.reverse_cons,List.map_append,Zdx,List.length_cons,Nat.pow_succ,List.length_map,List.length_reverse];simp only[List.map_cons,List.map_nil,val,Nat.mul_zero,Nat.add_zero]
  grind
theorem Z45:∀ (l:List UInt8) (acc:Nat),acc<=rdv acc l
 |[],acc=>Nat.le_refl _
 |c::r,acc=>by
  have:=Z45 r (acc*10+K6 c);rw[show rdv acc (c::r)=rdv (acc*10+K6 c) r from rfl];omega
theorem Mr:∀ (l:List UInt8) (acc:Nat),l.all Vc=true->acc<=18446744073709551615 ->
  Lib.parseUintM 18446744073709551615 acc l=if rdv acc l<=18446744073709551615 then .ok (rdv acc l)else .range
 |[],acc,_,h=>by simp[Lib.parseUintM,rdv,h]
 |c::r,acc,hd,h=>by
  rw[List.all_cons,Bool.and_eq_true]at hd
  have d:48<=c.toNat/\c.toNat<=57:=by have:=hd.1;unfold Vc at this;grind
  have a:=Z45 r (acc*10+K6 c);have b:K6 c=c.toNat-48:=rfl;rw[Lib.parseUintM,if_pos d,show rdv acc (c::r)=rdv (acc*10+K6 c) r from rfl]
  by_cases f:1844674407370955162<=acc
  grind
  rw[if_neg f]
  by_cases e:18446744073709551615<acc*10+(c.toNat-48)
  grind
  rw[if_neg e];exact Mr r _ hd.2 (by omega)
theorem Ms{l:List UInt8}(a:l≠[])(b:l.all Vc=true):
  Lib.parseUintB 64 l=if val (l.reverse.map K6)<=18446744073709551615 then .ok (val (l.reverse.map K6))else .range:=by
 have:=Mr l 0 b (by omega);rw[Zrx,Nat.zero_mul,Nat.zero_add]at this;rw[Lib.parseUintB,if_neg a];exact this
theorem Zix{x:Int}(h : -9223372036854775808<=x/\x<=9223372036854775807):Z34 x=(x,0):=by
 unfold Z34 fits
 grind
theorem Z0h{x:Int}(h:¬ (-9223372036854775808<=x/\x<=9223372036854775807)):Z34 x=(0,60):=by
 unfold Z34 fits
 grind
theorem Zxy(s:List UInt8):Lib.trimPrefix s [45]=if s.head?=some 45 then s.drop 1 else s:=by
 cases s with
 |nil=>rfl
 |cons c r=>
  unfold Lib.trimPrefix Lib.hasPrefix
  grind
theorem Z2z(s:List UInt8):(P7 s=false/\Sw s=(0,2))\/(P7 s=true/\((∃ v,Lib.parseIntB 64 s=.ok v/\Sw s=(v,0))\/(Lib.parseIntB 64 s=.range/\Sw s=(0,60)))):=by
 cases s with
 |nil=>exact .inl ⟨by decide,rfl⟩
 |cons c r=>
  unfold P7 Sw;rw[Zxy]
  by_cases j:c=45
  subst j;simp only[List.head?_cons,if_true,List.drop_succ_cons,List.drop_zero];have k:((some (45:UInt8))==some 45)=true:=rfl
  have t:((45::r:List UInt8)==[48])=false:=by simp
  simp only[k,t,if_true,Bool.false_or]
  by_cases b:r.all Vc=true
  .cases r with
   |nil=>left;simp
   |cons d q=>
    by_cases f:d=48
    subst f;left;simp
    right
    have p:¬ ((some d:Option UInt8)==some 48)=true:=by simpa using f
    refine⟨by simp[b,f],?_⟩;rw[if_neg (by simp only[List.head?_cons,Option.some.injEq,f,b,Bool.true_eq_false,reduceCtorEq,false_and,or_self,not_false_eq_true])];rw[Lib.parseIntB_minus,Ms (by simp) b];generalize val ((d::q).reverse.map K6)=m
    by_cases n:m<=9223372036854775808
    left
    refine⟨-(m:Int),?_,Zix (by omega)⟩;rw[if_pos (by omega)];simp only[Lib.signedC];rw[if_neg (by omega)]
    right
    refine⟨?_,Z0h (by omega)⟩
    by_cases a:m<=18446744073709551615
    rw[if_pos a];simp only[Lib.signedC];rw[if_pos (by omega)];rw[if_neg a];rfl
  left
  have g:r.all Vc=false:=by simpa using b
  simp[g]
  have k:((some c:Option UInt8)==some 45)=false:=by simpa using j
  simp only[List.head?_cons,k,Option.some.injEq,j,if_false,Bool.false_eq_true]
  by_cases b:(c::r).all Vc=true
  have l:48<=c.toNat/\c.toNat<=57:=by
   have:=b;rw[List.all_cons,Bool.and_eq_true]at this;have:=this.1;unfold Vc at this;simpa using this
  by_cases f:c=48/\r≠[]
  left
  obtain⟨rfl,e⟩:=f
  have h:(48::r:List UInt8).length>1:=by
   cases r with
   |nil=>exact absurd rfl e
   |cons _ _=>simp
  refine⟨by simp[e],?_⟩;rw[if_pos (.inr (.inl ⟨rfl,.inl h⟩))]
  right
  refine⟨?_,?_⟩;rw[b]
  by_cases e:c=48
  have:r=[]:=by
   by_cases i:r=[]
   exact i;exact absurd ⟨e,i⟩ f
  subst e this;rfl;simp[e]
  rw[if_neg (by
   simp only[List.head?_cons,Option.some.injEq,b,Bool.true_eq_false,reduceCtorEq,or_false,false_or,not_and,List.length_cons];intro e i;apply f;refine⟨e,λo=>?_⟩;subst o
   simp at i)]
  rw[Lib.parseIntB_plain 64 c r (by omega) (by omega),Ms (by simp) b];generalize val ((c::r).reverse.map K6)=m
  by_cases n:m<=9223372036854775807
  left
  refine⟨(m:Int),?_,Zix (by omega)⟩;rw[if_pos (by omega)];simp only[Lib.signlessC];rw[if_neg (by omega)]
  right
  refine⟨?_,Z0h (by omega)⟩
  by_cases a:m<=18446744073709551615
  rw[if_pos a];simp only[Lib.signlessC];rw[if_pos (by omega)];rw[if_neg a];rfl
  left
  have g:(c::r).all Vc=false:=by simpa using b
  rw[g];exact⟨rfl,by rw[if_pos (.inr (.inr rfl))]⟩
end Go.Hs
end

section
namespace Go.Hs
open Go.Proofs
set_option maxRecDepth 10000
@[go_sem] theorem Zm9(s:List UInt8)(k:Nat):(s.drop k).take (s.length-k)=s.drop k:=List.take_of_length_le zS
theorem Zeba{l:List UInt8}{k:Nat}(h:k<l.length):l[k]?=some l[k]:=List.getElem?_eq_getElem h
theorem My(G:Nat->V)(b:Y6 G)(c:UInt8):Spec Tryz.prog G 175 [.int .u8 c.toNat] Zj (λv _=>v=.bool (Vc c)):=by
 refine Zo 0 9 [.tmp 2] Tryz.func175 λX=>?_;refine Z1 ?_
 by_cases h:48<=c.toNat
 have a:decide ((c.toNat:Int)>=48)=true:=zT;refine Zf a ?_;unfold Vc;simp[h];omega;have a:decide ((c.toNat:Int)>=48)=false:=zF;refine Zf a ?_;unfold Vc;simp[h]
theorem u8q(c:UInt8)(n:Nat)(d:n<256):((c.toNat:Int)==(n:Int))=(c==UInt8.ofNat n):=by
 by_cases h:c.toNat=n
 have a:c=UInt8.ofNat n:=by
  apply UInt8.toNat_inj.1;rw[h,UInt8.toNat_ofNat'];omega
 rw[a];simp;omega
 have a:¬ c=UInt8.ofNat n:=by
  intro e;apply h;rw[e,UInt8.toNat_ofNat'];omega
 have b:¬ (c.toNat:Int)=(n:Int):=zo;rw[show(c==UInt8.ofNat n)=false by simpa using a,show((c.toNat:Int)==(n:Int))=false from beq_eq_false_iff_ne.2 b]
theorem u8q10(c:UInt8):((c.toNat:Int)==10)=(c==10):=u8q c 10 zd
theorem Zfx(c:UInt8):((c.toNat:Int)==32)=(c==32):=u8q c 32 zd
theorem Zgx(c:UInt8):((c.toNat:Int)==13)=(c==13):=u8q c 13 zd
theorem Zz4(c:UInt8):((c.toNat:Int)==95)=(c==95):=u8q c 95 zd
theorem Z2s(G:Nat->V)(a:Y6 G)(c:UInt8):Spec Tryz.prog G 174 [.int .u8 c.toNat] Zj (λv _=>v=.bool (H7 c)):=by
 refine Zo 0 5 [.tmp 2] Tryz.func174 λX=>?_;refine Z ?_;unfold H7;rw[bne,u8q10]
theorem Zj7(G:Nat->V)(f:Y6 G)(c:UInt8):Spec Tryz.prog G 172 [.int .u8 c.toNat] Zj (λv _=>v=.bool (Ri c)):=by
 refine Zo 0 17 [.tmp 2] Tryz.func172 λX=>?_
 have b:Ri c=(c==32||(decide ((c.toNat:Int)>=9)&&decide ((c.toNat:Int)<=10))||c==13):=by
  unfold Ri
  congr 3
  rw[decide_eq_decide];omega;rw[decide_eq_decide];omega
 rw[b];refine Z1 ?_
 cases a:(c==32)with
 |true=>
  exact Zq (zi @Zfx (zi @Zgx a))
 |false=>
  cases d:decide ((c.toNat:Int)>=9)with
  |false=>
   exact Zq (zi @Zfx (zi @Zgx (zi a d)))
  |true=>
   cases e:decide ((c.toNat:Int)<=10)with
   |false=>
    exact Zq (zi @Zfx (zi @Zgx (zi a (zi d e))))
   |true=>
    exact Zq (zi @Zfx (zi @Zgx (zi a (zi d e))))
theorem Nu(G:Nat->V)(f:Y6 G)(c:UInt8):Spec Tryz.prog G 176 [.int .u8 c.toNat] Zj (λv _=>v=.bool (Ie c)):=by
 refine Zo 0 15 [.tmp 2] Tryz.func176 λX=>?_;refine Z1 ?_
 cases a:(c==95)with
 |true=>
  refine Zf (zi @Zz4 a) ?_;unfold Ie
  rw[a]<;>rfl
 |false=>
  have b:orZ .u8 (c.toNat:Int) 32=((c.toNat ||| 32:Nat):Int):=by
   have:=Z04 (λc=>orZ .u8 (c.toNat:Int) 32==((c.toNat ||| 32:Nat):Int)) (by decide +kernel) c;simpa using this
  have e:Ie c=(decide (((c.toNat ||| 32:Nat):Int)>=97)&&decide (((c.toNat ||| 32:Nat):Int)<=122)):=by
   unfold Ie;rw[a,Bool.false_or]
   congr 1
   rw[decide_eq_decide];omega;rw[decide_eq_decide];omega
  rw[e];generalize((c.toNat ||| 32:Nat):Int)=x at b⊢
  cases d:decide (x>=97)with
  |false=>
   exact Zq (zi @Zz4 (zi a (zi b d)))
  |true=>
   exact Zq (zi @Zz4 (zi a (zi b d)))
theorem Zk7(G:Nat->V)(a:Y6 G)(c:UInt8):Spec Tryz.prog G 177 [.int .u8 c.toNat] Zj (λv _=>v=.bool (Pj c)):=by
 refine Zo 0 9 [.tmp 2] Tryz.func177 λX=>?_;refine Z1 ?_;unfold Pj
 cases b:Ie c with
 |true=>
  refine Z1 ?_;refine Zn a ?_ (s:=(Nu G a c));refine Xr b ?_;exact Zr
 |false=>
  refine Z1 ?_;refine Zn a ?_ (s:=(Nu G a c));refine Xr b ?_;refine Zn a ?_ (s:=(My G a c));refine Xr b ?_;exact Zr
structure FnB(G:Nat->V)(f:FuncId)(p:UInt8->Bool):Prop where
 en:Z7 Tryz.prog f=true
 sp:∀ c:UInt8,Spec Tryz.prog G f [.int .u8 c.toNat] Zj (λv _=>v=.bool (p c))
theorem fDigit{G:Nat->V}(a:Y6 G):FnB G 175 Vc:=⟨zk,My G a⟩
theorem fNoNl{G:Nat->V}(a:Y6 G):FnB G 174 H7:=⟨zk,Z2s G a⟩
theorem fBl{G:Nat->V}(a:Y6 G):FnB G 172 Ri:=⟨zk,Zj7 G a⟩
theorem fAl{G:Nat->V}(a:Y6 G):FnB G 177 Pj:=⟨zk,Zk7 G a⟩
theorem Ls(G:Nat->V)(m:Y6 G)(s:List UInt8)(n:s.length<1000000000000000){f:FuncId}{p:UInt8->Bool}(j:FnB G f p):
  Spec Tryz.prog G 171 [.str s,.func (.func f) [] []] Zj (λv _=>v=.int .i64 (Vp p s)):=by
 refine Zo 0 20 [.tmp 4] Tryz.func171 λX=>?_;refine Z1 ?_;refine Z1 ?_;refine Z6 ?_;refine AW.block ?_
 refine Yc s.length (λk (_:Unit)=>st [(0,.str s),(1,.func (.func f) [] []),(5,.int .i64 k)] []) (λk _=>Vp p s=k+Vp p (s.drop k)) 0 () (Nat.zero_le _) zS
  (Weak.st zp zp) ?_
 intro k _ o a q g;refine Z6 ?_
 by_cases b:k<s.length
 have d:decide ((k:Int)<s.length)=true:=zT;have i:=Zeba b;have l:s.drop k=s[k]::s.drop (k+1):=List.drop_eq_getElem_cons b;generalize s[k]=c at i l;rw[l]at a;refine Xm (zi d i) ?_;refine CallA.pure m j.en ?_;refine Zs ?_;refine(j.sp c).mono ?_;rintro _ _ rfl;refine Xr d ?_;rw[Hi]at a;refine Z2 rfl (λh=>?_) (λh=>?_);rw[if_pos h]at a;refine Z1 ?_;refine g _ ⟨b,(),zo,Weak.st zw zp⟩;rw[if_neg (by simp[h])]at a;refine Z ?_;have a:Vp p s=k+0:=a
 rw[a]<;>rfl
 have d:decide ((k:Int)<s.length)=false:=zF;have e:k=s.length:=zo;refine Xm d ?_;refine Ve rfl ?_;refine Z ?_
 rw[a,e,List.drop_length]<;>rfl
def encR(r:Int×Int):V:=.tuple [.int .i64 r.1,.int .i64 r.2]
def ints(l:List Nat):List Int:=l.map (fun(d:Nat)=>(d:Int))
@[simp] theorem ints_len(l:List Nat):(ints l).length=l.length:=by simp[ints]
end Go.Hs
end

section
namespace Go.Proofs
open Go.Shelf
def Ed:Go.Shelf.Ren:=⟨fun|174=>272|247=>278|245=>279|287=>285|279=>286|280=>287|281=>288|282=>289|321=>292|322=>293|316=>294|171=>296|205=>295|243=>297|246=>298|283=>299|284=>300|285=>301|286=>302|129=>213|317=>303|318=>304|319=>305|320=>306|337=>307|338=>308|n=>n,fun|9=>9|3=>3|2=>2|75=>334|85=>335|4=>4|167=>347|5=>5|53=>261|175=>348|46=>217|168=>350|37=>148|0=>0|210=>372|21=>21|127=>375|145=>378|143=>376|171=>380|173=>382|212=>385|51=>259|20=>20|213=>386|232=>387|233=>388|80=>389|n=>n,fun|15=>5|16=>2|17=>6|18=>7|19=>8|n=>n⟩
theorem Fr:Go.Proofs.LaysC.n174 Tryz.prog Ed:={
 mixed:=by kernel_rfl
 f129:=Tryz.func213.trans (congrArg some (by kernel_rfl))
 f171:=Tryz.func296.trans (congrArg some (by kernel_rfl))
 f174:=Tryz.func272.trans (congrArg some (by kernel_rfl))
 f205:=Tryz.func295.trans (congrArg some (by kernel_rfl))
 f243:=Tryz.func297.trans (congrArg some (by kernel_rfl))
 f245:=Tryz.func279.trans (congrArg some (by kernel_rfl))
 f246:=Tryz.func298.trans (congrArg some (by kernel_rfl))
 f247:=Tryz.func278.trans (congrArg some (by kernel_rfl))
 f279:=Tryz.func286.trans (congrArg some (by kernel_rfl))
 f280:=Tryz.func287.trans (congrArg some (by kernel_rfl))
 f281:=Tryz.func288.trans (congrArg some (by kernel_rfl))
 f282:=Tryz.func289.trans (congrArg some (by kernel_rfl))
 f283:=Tryz.func299.trans (congrArg some (by kernel_rfl))
 f284:=Tryz.func300.trans (congrArg some (by kernel_rfl))
 f285:=Tryz.func301.trans (congrArg some (by kernel_rfl))
 f286:=Tryz.func302.trans (congrArg some (by kernel_rfl))
 f287:=Tryz.func285.trans (congrArg some (by kernel_rfl))
 f316:=Tryz.func294.trans (congrArg some (by kernel_rfl))
 f317:=Tryz.func303.trans (congrArg some (by kernel_rfl))
 f318:=Tryz.func304.trans (congrArg some (by kernel_rfl))
 f319:=Tryz.func305.trans (congrArg some (by kernel_rfl))
 f320:=Tryz.func306.trans (congrArg some (by kernel_rfl))
 f321:=Tryz.func292.trans (congrArg some (by kernel_rfl))
 f322:=Tryz.func293.trans (congrArg some (by kernel_rfl))
 f337:=Tryz.func307.trans (congrArg some (by kernel_rfl))
 f338:=Tryz.func308.trans (congrArg some (by kernel_rfl))
 t0:=Tryz.underlying0
 a0:=Tryz.isAgg0
 z0:=Tryz.sizeOf0
 v0:=Tryz.zeroValue0
 t2:=Tryz.underlying2
 a2:=Tryz.isAgg2
 z2:=Tryz.sizeOf2
 v2:=Tryz.zeroValue2
 t3:=Tryz.underlying3
 a3:=Tryz.isAgg3
 z3:=Tryz.sizeOf3
 v3:=Tryz.zeroValue3
 t4:=Tryz.underlying4
 a4:=Tryz.isAgg4
 z4:=Tryz.sizeOf4
 v4:=Tryz.zeroValue4
 t5:=Tryz.underlying5
 a5:=Tryz.isAgg5
 z5:=Tryz.sizeOf5
 v5:=Tryz.zeroValue5
 t9:=Tryz.underlying9
 a9:=Tryz.isAgg9
 z9:=Tryz.sizeOf9
 v9:=Tryz.zeroValue9
 t20:=Tryz.underlying20
 a20:=Tryz.isAgg20
 z20:=Tryz.sizeOf20
 v20:=Tryz.zeroValue20
 t21:=Tryz.underlying21
 a21:=Tryz.isAgg21
 z21:=Tryz.sizeOf21
 v21:=Tryz.zeroValue21
 t37:=Tryz.underlying148
 a37:=Tryz.isAgg148
 z37:=Tryz.sizeOf148
 v37:=Tryz.zeroValue148
 t46:=Tryz.underlying217
 a46:=Tryz.isAgg217
 z46:=Tryz.sizeOf217
 v46:=Tryz.zeroValue217
 t51:=Tryz.underlying259
 a51:=Tryz.isAgg259
 z51:=Tryz.sizeOf259
 v51:=Tryz.zeroValue259
 t53:=Tryz.underlying261
 a53:=Tryz.isAgg261
 z53:=Tryz.sizeOf261
 v53:=Tryz.zeroValue261
 t75:=Tryz.underlying334
 a75:=Tryz.isAgg334
 z75:=Tryz.sizeOf334
 v75:=Tryz.zeroValue334
 t85:=Tryz.underlying335
 a85:=Tryz.isAgg335
 z85:=Tryz.sizeOf335
 v85:=Tryz.zeroValue335
 t127:=Tryz.underlying375
 a127:=Tryz.isAgg375
 z127:=Tryz.sizeOf375
 v127:=Tryz.zeroValue375
 t143:=Tryz.underlying376
 a143:=Tryz.isAgg376
 z143:=Tryz.sizeOf376
 v143:=Tryz.zeroValue376
 t145:=Tryz.underlying378
 a145:=Tryz.isAgg378
 z145:=Tryz.sizeOf378
 v145:=Tryz.zeroValue378
 t167:=Tryz.underlying347
 a167:=Tryz.isAgg347
 z167:=Tryz.sizeOf347
 v167:=Tryz.zeroValue347
 t168:=Tryz.underlying350
 a168:=Tryz.isAgg350
 z168:=Tryz.sizeOf350
 v168:=Tryz.zeroValue350
 t171:=Tryz.underlying380
 a171:=Tryz.isAgg380
 z171:=Tryz.sizeOf380
 v171:=Tryz.zeroValue380
 t173:=Tryz.underlying382
 a173:=Tryz.isAgg382
 z173:=Tryz.sizeOf382
 v173:=Tryz.zeroValue382
 t175:=Tryz.underlying348
 a175:=Tryz.isAgg348
 z175:=Tryz.sizeOf348
 v175:=Tryz.zeroValue348
 t210:=Tryz.underlying372
 a210:=Tryz.isAgg372
 z210:=Tryz.sizeOf372
 v210:=Tryz.zeroValue372
 t212:=Tryz.underlying385
 a212:=Tryz.isAgg385
 z212:=Tryz.sizeOf385
 v212:=Tryz.zeroValue385
 t213:=Tryz.underlying386
 a213:=Tryz.isAgg386
 z213:=Tryz.sizeOf386
 t232:=Tryz.underlying387
 a232:=Tryz.isAgg387
 z232:=Tryz.sizeOf387
 v232:=Tryz.zeroValue387
 t233:=Tryz.underlying388
 a233:=Tryz.isAgg388
 z233:=Tryz.sizeOf388
 v233:=Tryz.zeroValue388
 g15:=by kernel_rfl
 g16:=by kernel_rfl
 g17:=by kernel_rfl
 g18:=by kernel_rfl
 g19:=by kernel_rfl
 t80:=Tryz.underlying389
 a80:=Tryz.isAgg389
 z80:=Tryz.sizeOf389
 v80:=Tryz.zeroValue389
 i0:=by kernel_rfl
 i2:=by kernel_rfl
 i3:=by kernel_rfl
 i4:=by kernel_rfl
 i5:=by kernel_rfl
 i9:=by kernel_rfl
 i20:=by kernel_rfl
 i21:=by kernel_rfl
 i37:=by kernel_rfl
 i46:=by kernel_rfl
 i51:=by kernel_rfl
 i53:=by kernel_rfl
 i75:=by kernel_rfl
 i80:=by kernel_rfl
 i85:=by kernel_rfl
 i127:=by kernel_rfl
 i143:=by kernel_rfl
 i145:=by kernel_rfl
 i167:=by kernel_rfl
 i168:=by kernel_rfl
 i171:=by kernel_rfl
 i173:=by kernel_rfl
 i175:=by kernel_rfl
 i210:=by kernel_rfl
 i212:=by kernel_rfl
 i232:=by kernel_rfl
 i233:=by kernel_rfl
 m15:=by kernel_rfl
 m16:=by kernel_rfl
 m17:=by kernel_rfl
 m18:=by kernel_rfl
 m19:=by kernel_rfl
 c0:=by kernel_rfl
 c2:=by kernel_rfl
 c3:=by kernel_rfl
 c4:=by kernel_rfl
 c5:=by kernel_rfl
 c9:=by kernel_rfl
 c20:=by kernel_rfl
 c21:=by kernel_rfl
 c37:=by kernel_rfl
 c46:=by kernel_rfl
 c51:=by kernel_rfl
 c53:=by kernel_rfl
 c75:=by kernel_rfl
 c80:=by kernel_rfl
 c85:=by kernel_rfl
 c127:=by kernel_rfl
 c143:=by kernel_rfl
 c145:=by kernel_rfl
 c167:=by kernel_rfl
 c168:=by kernel_rfl
 c171:=by kernel_rfl
 c173:=by kernel_rfl
 c175:=by kernel_rfl
 c210:=by kernel_rfl
 c212:=by kernel_rfl
 c213:=by kernel_rfl
 c232:=by kernel_rfl
 c233:=by kernel_rfl }
def Ea:Go.Shelf.Ren:=⟨fun|101=>277|208=>284|206=>217|n=>n,fun|9=>9|4=>4|3=>3|n=>n,fun|n=>n⟩
theorem Zzm:Go.Proofs.Lays.n101 Tryz.prog Ea:={
 mixed:=by kernel_rfl
 f101:=Tryz.func277.trans (congrArg some (by kernel_rfl))
 f206:=Tryz.func217.trans (congrArg some (by kernel_rfl))
 f208:=Tryz.func284.trans (congrArg some (by kernel_rfl))
 t3:=Tryz.underlying3
 a3:=Tryz.isAgg3
 z3:=Tryz.sizeOf3
 v3:=Tryz.zeroValue3
 t4:=Tryz.underlying4
 a4:=Tryz.isAgg4
 z4:=Tryz.sizeOf4
 v4:=Tryz.zeroValue4
 t9:=Tryz.underlying9
 a9:=Tryz.isAgg9
 z9:=Tryz.sizeOf9
 v9:=Tryz.zeroValue9 }
end Go.Proofs
end
