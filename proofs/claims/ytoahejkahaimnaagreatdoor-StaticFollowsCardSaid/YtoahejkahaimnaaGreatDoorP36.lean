/- A part. No condition. -/
import Derived.Lib.ParseIntB
import Derived.Lib.ItoaNum
import Derived.Lib.Index
import Derived.Lib.IndexMore
import Derived.Test.YtoahejkahaimnaaGreatDoorP18
import Derived.Test.YtoahejkahaimnaaGreatDoorP22
import Derived.Test.YtoahejkahaimnaaGreatDoorP34
import Derived.Test.YtoahejkahaimnaaGreatDoorP35
set_option linter.all false
section
namespace Go.Hs
def val:List Nat->Nat
 |[]=>0
 |d::r=>d+10*val r
theorem G0:∀ (a b:List Nat),val (a++b)=val a+10^a.length*val b
 |[],b=>by simp[val]
 |d::a,b=>by
  rw[List.cons_append,val,G0 a b,val,List.length_cons,Nat.pow_succ]
  grind
def Dig(l:List Nat):Prop:=∀ d∈l,d<10
theorem Dig.app{a b:List Nat}:Dig (a++b)↔Dig a/\Dig b:=by
 constructor
 exact λh=>⟨λd c=>h d (by grind),λd c=>h d (by grind)⟩;rintro⟨f,e⟩ d c
 rcases List.mem_append.1 c with h|h
 exact f d h;exact e d h
theorem Dig.one{d:Nat}(h:d<10):Dig [d]:=by intro x a;grind
theorem Zfz:∀ {l:List Nat},Dig l->val l<10^l.length
 |[],_=>by simp[val]
 |d::r,h=>by
  have c:=Zfz (l:=r) λx a=>h x (by grind);have b:=h d (by simp);rw[val,List.length_cons];omega
def fits(x:Int):Bool:=decide (-9223372036854775808<=x/\x<=9223372036854775807)
def Zju(x:Int):Int×Int:=if fits x then(x,0)else(0,60)
def Y9(c:UInt8):Bool:=48<=c.toNat&&c.toNat<=57
def Lt(c:UInt8):Nat:=c.toNat-48
def Uj(s:List UInt8):Int×Int:=
 let below:=s.head? == some 45
 let t:=if below then s.drop 1 else s
 if t=[]\/(t.head?=some 48/\(t.length>1\/below=true))\/t.all Y9=false then(0,2)
 else Zju (if below then -(val (t.reverse.map Lt):Int)else val (t.reverse.map Lt))
end Go.Hs
end

section
namespace Go.Hs
open Go
structure Tk where
 kind:Int
 text:List UInt8
 pos:Int
 deriving DecidableEq,Inhabited
def Of(c:UInt8):Bool:=c==95||(decide (97<=(c.toNat ||| 32))&&decide ((c.toNat ||| 32)<=122))
def Uu(c:UInt8):Bool:=Of c||Y9 c
def Sk(c:UInt8):Bool:=c==32||(decide (9<=c.toNat)&&decide (c.toNat<=10))||c==13
def Ir(c:UInt8):Bool := !(c==10)
def Wy(p:UInt8->Bool):List UInt8->Nat
 |[]=>0
 |c::r=>if p c then Wy p r+1 else 0
theorem J6(p:UInt8->Bool)(c:UInt8)(r:List UInt8):Wy p (c::r)=if p c then Wy p r+1 else 0:=rfl
theorem P5(p:UInt8->Bool):∀ s,Wy p s<=s.length
 |[]=>Nat.le_refl _
 |c::r=>by
  have:=P5 p r;unfold Wy
  grind
def Yx(p s:List UInt8):Bool:=p.isPrefixOf s
theorem Tc(s:List UInt8):Yx [] s=true:=by rfl
theorem Sm(a:UInt8)(p:List UInt8):Yx (a::p) []=false:=rfl
theorem Wf(a c:UInt8)(p s:List UInt8):Yx (a::p) (c::s)=(a==c&&Yx p s):=rfl
def Zib:Nat->List UInt8->Nat
 |0,_=>0
 |_+1,[]=>0
 |f+1,c::r=>if Sk c then Zib f r+1 else if Yx [45,45] (c::r)then Wy Ir (c::r)+Zib f ((c::r).drop (Wy Ir (c::r)))else 0
def blk(s:List UInt8):Nat:=Zib s.length s
theorem K3{s:List UInt8}(h:Yx [45,45] s=true):2<=Wy Ir s/\2<=s.length:=by
 match s with
 |[]=>simp[Yx]at h
 |[_]=>simp[Yx]at h
 |a::b::r=>
  simp[Yx]at h;obtain⟨rfl,rfl⟩:=h;simp[Wy,Ir]
theorem Zhb:∀ (f f':Nat) (s:List UInt8),s.length<=f->s.length<=f'->Zib f s=Zib f' s
 |0,f',s,h,_=>by
  have:s=[]:=List.length_eq_zero_iff.1 (by omega);subst this
  cases f'<;>rfl
 |f+1,0,s,_,h=>by
  have:s=[]:=List.length_eq_zero_iff.1 (by omega);subst this;rfl
 |f+1,f'+1,[],_,_=>rfl
 |f+1,f'+1,c::r,h,h'=>by
  simp only[List.length_cons]at h h';unfold Zib
  split
  rw[Zhb f f' r (by omega) (by omega)]
  split
  rename_i a;have:=K3 a;rw[Zhb f f' _ (by grind) (by grind)];rfl
theorem Zz2{c:UInt8}{r:List UInt8}(h:Sk c=true):blk (c::r)=blk r+1:=by
 unfold blk;rw[List.length_cons,Zib,if_pos h]
theorem Z6t{s:List UInt8}(h:Yx [45,45] s=true):blk s=Wy Ir s+blk (s.drop (Wy Ir s)):=by
 match s with
 |[]=>rfl
 |c::r=>
  have a:Sk c=false:=by
   cases r with
   |nil=>simp[Yx]at h
   |cons d r=>simp[Yx]at h;rw[<- h.1];decide
  have:=K3 h;unfold blk;rw[List.length_cons,Zib,if_neg (by grind),if_pos h];rw[Zhb r.length _ _ (by grind) (Nat.le_refl _)]
theorem Zy2{c:UInt8}{r:List UInt8}(h:Sk c=false)(a:Yx [45,45] (c::r)=false):blk (c::r)=0:=by
 unfold blk;rw[List.length_cons,Zib,if_neg (by grind),if_neg (by grind)]
theorem Z0p(s:List UInt8):blk s<=s.length:=by
 have a:∀ (n:Nat) (s:List UInt8),s.length<=n->blk s<=s.length:=by
  intro n
  induction n with
  |zero=>
   intro s h;have:s=[]:=List.length_eq_zero_iff.1 (by omega);subst this;exact Nat.le_refl _
  |succ n ih=>
   intro s h
   match s with
   |[]=>grind
   |c::r=>
    cases d:Sk c with
    |true=>
     rw[Zz2 d]
     grind
    |false=>
     cases b:Yx [45,45] (c::r)with
     |false=>rw[Zy2 d b];grind
     |true=>
      have f:=K3 b;have e:=P5 Ir (c::r);rw[Z6t b]
      grind
 exact a s.length s (Nat.le_refl _)
def signsL:List (List UInt8):=[[58,61],[60,62],[60,61],[62,61],[60],[62],[61],[43],[45],[42],[40],[41],[44],[59]]
def wordsL:List (List UInt8):=[[97,110,100],[100,105,118],[101,108,115,101],[101,109,105,116],[101,110,100,105,102],[102,97,108,115,101],[105,102],[105,109,112,108,105,101,115],[109,111,100],[110,111,116],[111,114],[116,104,101,110],[116,114,117,101],[120,111,114]]
def Zbz:List UInt8:=32::wordsL.flatMap (· ++ [32])
def Y7(s:List UInt8):Nat×Nat:=
 match s with
 |[]=>(0,0)
 |c::_=>
  if Yx [45,45] s then(0,0)
  else if Y9 c then(Wy Y9 s,1)
  else if Of c then(Wy Uu s,if wordsL.contains (s.take (Wy Uu s))then 3 else 2)
  else match signsL.find? (Yx · s)with
   |some t=>(t.length,4)
   |none=>(0,0)
def Rh(s:List UInt8):Nat:=if(Y7 s).1≠s.length\/(Y7 s).1>64 then 0 else(Y7 s).2
theorem S2(c:UInt8)(r:List UInt8):Y7 (c::r) =
  if Yx [45,45] (c::r)then(0,0)
  else if Y9 c then(Wy Y9 (c::r),1)
  else if Of c then(Wy Uu (c::r),if wordsL.contains ((c::r).take (Wy Uu (c::r)))then 3 else 2)
  else match signsL.find? (Yx · (c::r))with
   |some t=>(t.length,4)
   |none=>(0,0):=rfl
theorem Ztw(s:List UInt8):(Y7 s).1<=s.length:=by
 unfold Y7
 split
 grind
 split
 grind
 split
 exact P5 _ _
 split
 exact P5 _ _
 split
 rename_i h;have:=List.find?_some h;exact(List.isPrefixOf_iff_prefix.1 this).length_le
 grind
def Vx:Nat->List UInt8->Nat->List Tk->List Tk×Int×Int
 |0,_,_,acc=>(acc,0,0)
 |f+1,s,i,acc=>
  if i<s.length then
   if(Y7 (s.drop i)).1=0\/(Y7 (s.drop i)).1>64 then([],i,70)
   else Vx f s (i+(Y7 (s.drop i)).1+blk (s.drop (i+(Y7 (s.drop i)).1))) (acc++[⟨(Y7 (s.drop i)).2,(s.drop i).take (Y7 (s.drop i)).1,i⟩])
  else(acc,0,0)
def Yu(s:List UInt8):List Tk×Int×Int:=if s.length>65536 then([],0,3)else Vx (s.length+1) s (blk s) []
theorem Z4e:∀ (f f':Nat) (s:List UInt8) (i:Nat) (acc:List Tk),s.length<f+i->s.length<f'+i->Vx f s i acc=Vx f' s i acc
 |0,f',s,i,acc,h,_=>by
  cases f' with
  |zero=>rfl
  |succ f'=>rw[Vx,Vx,if_neg (by omega)]
 |f+1,0,s,i,acc,_,h=>by rw[Vx,Vx,if_neg (by omega)]
 |f+1,f'+1,s,i,acc,h,h'=>by
  unfold Vx
  split
  split
  rfl;exact Z4e f f' _ _ _ (by omega) (by omega);rfl
theorem Zpm{f:Nat}{s:List UInt8}{i:Nat}{acc:List Tk}(h:i<s.length)(b:s.length<f+i)(a:¬ ((Y7 (s.drop i)).1=0\/(Y7 (s.drop i)).1>64)):
  Vx f s i acc=Vx f s (i+(Y7 (s.drop i)).1+blk (s.drop (i+(Y7 (s.drop i)).1))) (acc++[⟨(Y7 (s.drop i)).2,(s.drop i).take (Y7 (s.drop i)).1,i⟩]):=by
 cases f with
 |zero=>omega
 |succ f=>
  rw[Vx,if_pos h,if_neg a];exact Z4e _ _ _ _ _ (by omega) (by omega)
theorem Zlu{f:Nat}{s:List UInt8}{i:Nat}{acc:List Tk}(h:i<s.length)(b:s.length<f+i)(a:(Y7 (s.drop i)).1=0\/(Y7 (s.drop i)).1>64):Vx f s i acc=([],(i:Int),70):=by
 cases f with
 |zero=>omega
 |succ f=>rw[Vx,if_pos h,if_pos a]
theorem Zku{f:Nat}{s:List UInt8}{i:Nat}{acc:List Tk}(h:¬ i<s.length):Vx f s i acc=(acc,0,0):=by
 cases f with
 |zero=>rfl
 |succ f=>rw[Vx,if_neg h]
def Qq(s:List UInt8):Nat:=
 if signsL.contains s then 4 else if wordsL.contains s then 3 else match s with
 |[]=>0
 |c::_=>if s.all Y9 then 1 else if Of c&&s.all Uu then 2 else 0
theorem Ziz(p:UInt8->Bool)(h:(List.range 256).all (λn=>p (UInt8.ofNat n))=true)(c:UInt8):p c=true:=by
 have a:=List.all_eq_true.1 h c.toNat (List.mem_range.2 c.toNat_lt);simp_all
theorem Da{c:UInt8}(h:Y9 c=true):Of c=false/\Uu c=true:=by
 revert h
 unfold Uu;have:=Ziz (λc => !Y9 c||(!Of c&&(Of c||Y9 c))) (by decide +kernel) c
 grind
theorem O6{p:UInt8->Bool}:∀ {s:List UInt8},(Wy p s=s.length)=(s.all p=true)
 |[]=>by simp[Wy]
 |c::r=>by
  unfold Wy;rw[List.all_cons,Bool.and_eq_true,<- O6 (s:=r)]
  grind
theorem Ka:∀ w∈wordsL,w.all Uu=true/\w≠[]/\(∀ c∈w.head?,Of c=true):=by decide +kernel
theorem Kl:∀ w∈signsL,w≠[]/\w.length<=2/\(∀ c∈w,Uu c=false):=by decide +kernel
theorem Zse{c:UInt8}{r:List UInt8}(h:Y9 c=true):Qq (c::r)=if(c::r).all Y9 then 1 else 0:=by
 have e:=Da h
 have d:signsL.contains (c::r)=false:=by
  rw[Bool.eq_false_iff];intro a;have:=(Kl (c::r) (by grind)).2.2 c (by simp)
  grind
 have b:wordsL.contains (c::r)=false:=by
  rw[Bool.eq_false_iff];intro a;have:=(Ka (c::r) (by grind)).2.2 c (by simp)
  grind
 unfold Qq
 grind
theorem Zre{c:UInt8}{r:List UInt8}(h:Of c=true):Qq (c::r)=if(c::r).all Uu then(if wordsL.contains (c::r)then 3 else 2)else 0:=by
 have i:Y9 c=false:=by
  rw[Bool.eq_false_iff];intro b;rw[(Da b).1]at h;cases h
 have f:Uu c=true:=by unfold Uu;rw[h];rfl
 have e:signsL.contains (c::r)=false:=by
  rw[Bool.eq_false_iff];intro g;have:=(Kl (c::r) (by grind)).2.2 c (by simp)
  grind
 have d:(c::r).all Y9=false:=by grind
 unfold Qq;simp only[e,d,h,Bool.true_and]
 by_cases a:wordsL.contains (c::r)=true
 rw[if_neg (by simp),if_pos a,if_pos ((Ka _ (by grind)).1),if_pos a]
 grind
theorem Kb{c:UInt8}{r:List UInt8}(h:Uu c=false):Qq (c::r)=if signsL.contains (c::r)then 4 else 0:=by
 have e:Of c=false/\Y9 c=false:=by unfold Uu at h;simpa using h
 have d:wordsL.contains (c::r)=false:=by
  rw[Bool.eq_false_iff];intro a;have:=(Ka (c::r) (by grind)).2.2 c (by simp)
  grind
 have b:(c::r).all Y9=false:=by grind
 unfold Qq
 grind
theorem contains_nil(c:UInt8)(q:List UInt8):Lib.contains [] (c::q)=false:=by rfl
theorem contains_cons(b:UInt8)(l p:List UInt8):Lib.contains (b::l) p=(p.isPrefixOf (b::l)||Lib.contains l p):=by
 unfold Lib.contains;rw[Lib.index]
 grind
theorem Zt0:∀ (w v rest:List UInt8),(∀ c∈w,c≠32)->(∀ c∈v,c≠32)->(w++[32]).isPrefixOf (v++32::rest)=(w==v)
 |[],[],rest,_,_=>by simp
 |[],b::v,rest,_,hv=>by
  grind
 |a::w,[],rest,hw,_=>by
  grind
 |a::w,b::v,rest,hw,hv=>by
  have:=Zt0 w v rest (λc d=>hw c (by grind)) (λc d=>hv c (by grind))
  grind
theorem M8(q:List UInt8):∀ (v l:List UInt8),(∀ c∈v,c≠32)->Lib.contains (v++l) (32::q)=Lib.contains l (32::q)
 |[],_,_=>rfl
 |b::v,l,hv=>by
  have d:=hv b (by simp);rw[List.cons_append,contains_cons,M8 q v l λc a=>hv c (by grind)]
  grind
theorem Nu(w:List UInt8)(a:∀ c∈w,c≠32):∀ (Ws:List (List UInt8)),(∀ v∈Ws,∀ c∈v,c≠32) ->
  Lib.contains (32::Ws.flatMap (· ++ [32])) (32::(w++[32]))=Ws.contains w
 |[],_=>by
  cases w with
  |nil=>rfl
  |cons=>rfl
 |v::Ws,h=>by
  have b:=h v (by simp);rw[List.flatMap_cons,contains_cons,List.append_assoc,M8 _ _ _ b,List.singleton_append,Nu w a Ws λx d=>h x (by grind)]
  congr 1
  exact Zt0 w v _ a b
theorem Z56{c:UInt8}(h:Uu c=true):c≠32:=by rintro rfl;revert h;decide
theorem Fg(w:List UInt8)(b:w.all Uu=true):Lib.contains Zbz (32::(w++[32]))=wordsL.contains w:=by
 rw[List.all_eq_true]at b
 exact Nu w (λc a=>Z56 (b c a)) wordsL λv d c a=>by
  have:=(Ka v d).1;rw[List.all_eq_true]at this;exact Z56 (this c a)
theorem M4(p:UInt8->Bool):∀ s:List UInt8,(s.take (Wy p s)).all p=true
 |[]=>rfl
 |c::r=>by
  unfold Wy
  split
  rename_i h;rw[List.take_succ_cons,List.all_cons,h,M4 p r];rfl;rfl
theorem Zei(c:UInt8):Y9 c=true\/(Y9 c=false/\Of c=true)\/(Uu c=false/\Y9 c=false/\Of c=false):=by
 unfold Uu
 grind
def Zan(s:List UInt8):Nat:=match signsL.find? (Yx · s)with|some t=>t.length|none=>0
theorem Ab{c:UInt8}{r:List UInt8}(h:Y9 c=true):Y7 (c::r)=(Wy Y9 (c::r),1):=by
 have a:Yx [45,45] (c::r)=false:=by
  have:(45==c)=false:=by
   rw[beq_eq_false_iff_ne];rintro rfl;revert h;decide
  rw[Wf,this];rfl
 rw[S2,if_neg (by grind),if_pos h]
theorem Zdh{c:UInt8}{r:List UInt8}(h:Of c=true):Y7 (c::r)=(Wy Uu (c::r),if wordsL.contains ((c::r).take (Wy Uu (c::r)))then 3 else 2):=by
 have d:Yx [45,45] (c::r)=false:=by
  have:(45==c)=false:=by
   rw[beq_eq_false_iff_ne];rintro rfl;revert h;decide
  rw[Wf,this];rfl
 have b:Y9 c=false:=by
  rw[Bool.eq_false_iff];intro a;rw[(Da a).1]at h;cases h
 rw[S2,if_neg (by grind),if_neg (by grind),if_pos h]
theorem Jd{c:UInt8}{r:List UInt8}(h:Uu c=false)(d:Yx [45,45] (c::r)=false):Y7 (c::r)=(Zan (c::r),if Zan (c::r)=0 then 0 else 4):=by
 have b:Of c=false/\Y9 c=false:=by unfold Uu at h;simpa using h
 unfold Zan;rw[S2,if_neg (by grind),if_neg (by grind),if_neg (by grind)]
 cases a:signsL.find? (Yx · (c::r))with
 |none=>rfl
 |some t=>
  have:=List.mem_of_find?_eq_some a;have:=(Kl t this).1;simp[this]
theorem Zeh:∀ (L:List (List UInt8)) (c:UInt8),(∀ t∈L,t≠[])->(match L.find? (Yx · [c])with|some t=>t.length|none=>0)=if L.contains [c]then 1 else 0
 |[],c,_=>rfl
 |t::L,c,h=>by
  have d:=Zeh L c λx f=>h x (by grind);rw[List.find?_cons,List.contains_cons]
  match t,h t (by simp)with
  |[a],_=>
   by_cases e:a=c
   subst e;simp[Wf,Tc]
   have:Yx [a] [c]=false:=by simp[Wf,e]
   grind
  |a::b::r,_=>
   have:Yx (a::b::r) [c]=false:=by simp[Wf,Sm]
   grind
theorem I5:∀ (L M:List (List UInt8)) (c d:UInt8) (r:List UInt8),(∀ t∈L,t.length=2)->(∀ t∈M,t.length=1) ->
  (match(L++M).find? (Yx · (c::d::r))with|some t=>t.length|none=>0)=if L.contains [c,d]then 2 else if M.contains [c]then 1 else 0
 |[],[],c,d,r,_,_=>rfl
 |[],t::M,c,d,r,hL,hM=>by
  have f:=I5 [] M c d r hL λx g=>hM x (by grind);rw[List.nil_append]at f⊢
  match t,hM t (by simp)with
  |[a],_=>
   rw[List.find?_cons,List.contains_cons]
   by_cases e:a=c
   subst e;simp[Wf,Tc,Sm]
   have:Yx [a] (c::d::r)=false:=by simp[Wf,Tc,Sm,e]
   rw[this]
   have:(([c]:List UInt8)==[a])=false:=by simpa using λh=>e h.symm
   rw[this,Bool.false_or];exact f
 |t::L,M,c,d,r,hL,hM=>by
  have f:=I5 L M c d r (λx g=>hL x (by simp[g])) hM
  match t,hL t (by simp)with
  |[a,b],_=>
   rw[List.cons_append,List.find?_cons,List.contains_cons]
   by_cases e:a=c/\b=d
   obtain⟨rfl,rfl⟩:=e;simp[Wf,Tc,Sm]
   have:Yx [a,b] (c::d::r)=false:=by simpa[Wf,Tc,Sm]using e
   rw[this]
   have:(([c,d]:List UInt8)==[a,b])=false:=by simpa using λj i=>e ⟨j.symm,i.symm⟩
   rw[this,Bool.false_or];exact f
def sg2:List (List UInt8):=[[58,61],[60,62],[60,61],[62,61]]
def sg1:List (List UInt8):=[[60],[62],[61],[43],[45],[42],[40],[41],[44],[59]]
theorem Z6z(c:UInt8):Zan [c]=if signsL.contains [c]then 1 else 0:=Zeh signsL c λt a=>(Kl t a).1
theorem Zhf(c d:UInt8)(r:List UInt8):Zan (c::d::r)=if sg2.contains [c,d]then 2 else if sg1.contains [c]then 1 else 0:=I5 sg2 sg1 c d r (by decide) (by decide)
theorem Nv(x:List UInt8):signsL.contains x=(sg2.contains x||sg1.contains x):=by
 show(sg2++sg1).contains x=_
 simp
theorem Z0s{x:List UInt8}(h:x.length≠1):sg1.contains x=false:=by
 rw[Bool.eq_false_iff];intro a
 have:∀ t∈sg1,t.length=1:=by decide
 grind
theorem Ze4{x:List UInt8}(h:x.length≠2):sg2.contains x=false:=by
 rw[Bool.eq_false_iff];intro a
 have:∀ t∈sg2,t.length=2:=by decide
 grind
theorem Zbu{c d:UInt8}(h:Uu c=false):Qq [c,d]=if sg2.contains [c,d]then 4 else 0:=by
 rw[Kb h,Nv,Z0s (by simp),Bool.or_false]
theorem Zjm{c d e:UInt8}{r:List UInt8}(h:Uu c=false):Qq (c::d::e::r)=0:=by
 rw[Kb h,Nv,Z0s (by simp),Ze4 (by simp)];rfl
theorem Zfw(s:List UInt8):Rh s=if s.length>64 then 0 else Qq s:=by
 have f:(if(Y7 s).1≠s.length then 0 else(Y7 s).2)=Qq s:=by
  match s with
  |[]=>rfl
  |c::r=>
   rcases Zei c with h|⟨_,h⟩|⟨h,_⟩
   rw[Ab h,Zse h]
   by_cases a:(c::r).all Y9=true
   rw[if_pos a,if_neg (by rw[ne_eq,Decidable.not_not,O6];exact a)];rw[if_neg a,if_pos (by rw[ne_eq,O6];exact a)];rw[Zdh h,Zre h]
   by_cases a:(c::r).all Uu=true
   have g:Wy Uu (c::r)=(c::r).length:=by rw[O6];exact a
   rw[if_pos a,g,List.take_length,if_neg (by simp)];rw[if_neg a,if_pos (by rw[ne_eq,O6];exact a)]
   .match r with
    |[]=>
     rw[Jd h (by simp[Wf,Tc,Sm]),Z6z,Kb h];generalize signsL.contains [c]=x
     cases x<;>simp
    |[d]=>
     rw[Zbu h]
     cases b:Yx [45,45] [c,d]with
     |true=>
      have:c=45/\d=45:=by
       rw[Wf,Wf,Tc,Bool.and_true,Bool.and_eq_true,beq_iff_eq,beq_iff_eq]at b;exact⟨b.1.symm,b.2.symm⟩
      obtain⟨rfl,rfl⟩:=this
      decide
     |false=>
      rw[Jd h b,Zhf];generalize sg2.contains [c,d]=x;generalize sg1.contains [c]=y
      cases x<;>cases y<;>simp
    |d::e::r=>
     rw[Zjm h]
     cases b:Yx [45,45] (c::d::e::r)with
     |true=>
      have:Y7 (c::d::e::r)=(0,0):=by rw[S2,if_pos b]
      rw[this];simp
     |false=>
      rw[Jd h b,Zhf];generalize sg2.contains [c,d]=x;generalize sg1.contains [c]=y
      cases x<;>cases y<;>simp
 unfold Rh
 grind
structure XN where
 op:Int
 num:Int
 name:List UInt8
 a:Int
 b:Int
 c:Int
 deriving DecidableEq,Inhabited
structure Sg where
 text:List UInt8
 level:Int
 parts:Int
 deriving DecidableEq,Inhabited
def tabL:List Sg:=[⟨[],0,0⟩,⟨[],10,0⟩,⟨[],10,0⟩,⟨[116,114,117,101],10,0⟩,⟨[102,97,108,115,101],10,0⟩,⟨[45],9,1⟩,⟨[110,111,116],9,1⟩,
 ⟨[42],8,2⟩,⟨[100,105,118],8,2⟩,⟨[109,111,100],8,2⟩,⟨[43],7,2⟩,⟨[45],7,2⟩,⟨[60],6,2⟩,⟨[60,61],6,2⟩,⟨[62],6,2⟩,⟨[62,61],6,2⟩,⟨[61],5,2⟩,⟨[60,62],5,2⟩,
 ⟨[97,110,100],4,2⟩,⟨[111,114],3,2⟩,⟨[120,111,114],2,2⟩,⟨[105,109,112,108,105,101,115],1,2⟩,⟨[105,102],10,3⟩]
def Zbn(t:List UInt8)(p:Int)(s:Sg):Bool:=s.text==t&&s.parts==p && !(s.text==[])
def ofI(t:List UInt8)(p:Int):Option Nat:=tabL.findIdx? (Zbn t p)
def Ev(t:List UInt8)(p:Int):Nat×Bool:=match ofI t p with|some i=>(i,true)|none=>(0,false)
def lvl(op:Nat):Int:=(tabL.getD op ⟨[],0,0⟩).level
theorem Zig{t:List UInt8}{p:Int}{i:Nat}(h:ofI t p=some i):∃ s,tabL[i]?=some s/\s.text=t/\s.parts=p/\t≠[]:=by
 obtain⟨b,a,_⟩:=List.findIdx?_eq_some_iff_getElem.1 h;refine⟨tabL[i],List.getElem?_eq_getElem b,?_⟩;unfold Zbn at a
 grind
theorem Z70{t:List UInt8}{i:Nat}(h:ofI t 0=some i):t=[116,114,117,101]/\i=3\/t=[102,97,108,115,101]/\i=4:=by
 obtain⟨s,a,f,e,d⟩:=Zig h
 have c:i<23:=by rw[List.getElem?_eq_some_iff]at a;exact a.1
 have b:∀ i,i<23->∀ s,tabL[i]?=some s->s.parts=0->s.text≠[]->s.text=[116,114,117,101]/\i=3\/s.text=[102,97,108,115,101]/\i=4:=by
  intro i c s a e
  have:((List.range 23).all λi=>match tabL[i]? with|some s => !(s.parts==0)||s.text==[]||(s.text==[116,114,117,101]&&i==3)||(s.text==[102,97,108,115,101]&&i==4)|none=>true)=true:=by decide +kernel
  have:=List.all_eq_true.1 this i (List.mem_range.2 c);intro d;rw[a]at this;simp only[e,Bool.or_eq_true,Bool.and_eq_true,beq_iff_eq,d,or_false]at this;simpa using this
 rw[<- f];exact b i c s a e (by rw[f];exact d)
theorem Zbt{t:List UInt8}{i:Nat}(h:ofI t 2=some i):7<=i/\i<=21/\1<=lvl i/\lvl i<=8/\Rh t≠0:=by
 obtain⟨s,a,e,d,_⟩:=Zig h
 have c:i<23:=by rw[List.getElem?_eq_some_iff]at a;exact a.1
 have b:∀ i,i<23->(tabL[i]?.map (·.parts))=some 2->7<=i/\i<=21/\1<=lvl i/\lvl i<=8/\(tabL[i]?.map λs=>Rh s.text)≠some 0:=by decide +kernel
 grind
def Ym(l:List Tk)(i:Nat):Tk:=match l[i]? with
 |some t=>if(Rh t.text:Int)=t.kind then t else⟨0,[],0⟩
 |none=>⟨0,[],0⟩
theorem Ex(l:List Tk)(i:Nat):(Rh (Ym l i).text:Int)=(Ym l i).kind:=by
 unfold Ym
 split
 split
 grind
 rfl;rfl
theorem Nf{l:List Tk}{i:Nat}(h:(Ym l i).kind≠0):i<l.length:=by
 rw[<- Nat.not_le];intro a;apply h;unfold Ym
 grind
structure RS where
 i:Nat
 nodes:List XN
 e:Int
 deriving DecidableEq,Inhabited
def RS.put(r:RS)(n:XN):RS:={ r with nodes:=r.nodes++[n] }
def RS.last(r:RS):Int:=(r.nodes.length:Int)-1
def RS.adv(r:RS):RS:={ r with i:=r.i+1 }
def RS.err(r:RS)(e:Int):RS:={ r with e:=e }
@[simp] theorem RS.put_i(r:RS)(n:XN):(r.put n).i=r.i:=rfl
@[simp] theorem RS.adv_i(r:RS):r.adv.i=r.i+1:=rfl
@[simp] theorem RS.err_i(r:RS)(e:Int):(r.err e).i=r.i:=rfl
abbrev Inner:=Int->RS->Bool×RS
def andThen(x:Bool×RS)(k:RS->Bool×RS):Bool×RS:=if x.1 then k x.2 else(false,x.2)
theorem Uy(r:RS)(k:RS->Bool×RS):andThen (true,r) k=k r:=rfl
theorem U6(r:RS)(k:RS->Bool×RS):andThen (false,r) k=(false,r):=rfl
def S4(l:List Tk)(w:List UInt8)(r:RS):Bool×RS:=if(Ym l r.i).kind=0\/(Ym l r.i).text≠w then(false,r.err 80)else(true,r.adv)
def K8(r:RS)(op num:Int)(name:List UInt8):Bool×RS:=(true,r.adv.put ⟨op,num,name,-1,-1,-1⟩)
def Sv(t:List UInt8):List UInt8:=if t.dropWhile (· == 48)=[]then[48]else t.dropWhile (· == 48)
def Rm(r:RS)(t:List UInt8):Bool×RS:=if(Uj (Sv t)).2≠0 then(false,r.err (Uj (Sv t)).2)else K8 r 1 (Uj (Sv t)).1 []
def wIf:List UInt8:=[105,102]
def Bi:List UInt8:=[116,104,101,110]
def Bj:List UInt8:=[101,108,115,101]
def Lf:List UInt8:=[101,110,100,105,102]
def Ux(l:List Tk)(inner:Inner)(r:RS):Bool×RS:=
 andThen (S4 l wIf r) λg=>andThen (inner 1 g) λa=>andThen (S4 l Bi a) λf=>andThen (inner 1 f) λb=>
 andThen (S4 l Bj b) λe=>andThen (inner 1 e) λc=>andThen (S4 l Lf c) λd=>(true,d.put ⟨22,0,[],a.last,b.last,c.last⟩)
def Qe(l:List Tk)(inner:Inner)(r:RS):Bool×RS:=
 if(Ym l r.i).kind=1 then Rm r (Ym l r.i).text
 else if(Ym l r.i).kind=2 then K8 r 2 0 (Ym l r.i).text
 else if(Ym l r.i).kind=0 then(false,r.err 80)
 else if(Ev (Ym l r.i).text 1).2 then andThen (inner 9 r.adv) λa=>(true,a.put ⟨(Ev (Ym l r.i).text 1).1,0,[],a.last,-1,-1⟩)
 else if(Ym l r.i).text=[40]then andThen (inner 1 r.adv) (S4 l [41])
 else if(Ym l r.i).text=wIf then Ux l inner r
 else if(Ev (Ym l r.i).text 0).2/\(Ym l r.i).kind=3 then K8 r (Ev (Ym l r.i).text 0).1 0 []
 else(false,r.err 80)
def Ky(l:List Tk)(i:Nat):Option Nat:=if(Ym l i).kind=0 then none else ofI (Ym l i).text 2
def Ni(l:List Tk)(inner:Inner)(n:Int):Nat->RS->Bool×RS
 |0,r=>(true,r)
 |m+1,r=>match Ky l r.i with
  |none=>(true,r)
  |some op=>if lvl op<n then(true,r)else andThen (inner (lvl op+1) r.adv) λa=>Ni l inner n m (a.put ⟨op,0,[],r.last,a.last,-1⟩)
def Xv(l:List Tk):Nat->Inner
 |0,_,r=>(false,r)
 |f+1,n,r=>andThen (Qe l (Xv l f) r) (Ni l (Xv l f) n (l.length+1))
theorem Zat{l:List Tk}{i op:Nat}(h:Ky l i=some op):i<l.length:=by
 unfold Ky at h
 split at h
 cases h;exact Nf (by grind)
theorem Z50{l:List Tk}{i:Nat}:Ky l i=ofI (Ym l i).text 2:=by
 unfold Ky
 split
 .rename_i h
  cases a:ofI (Ym l i).text 2 with
  |none=>rfl
  |some op=>
   have c:=(Zbt a).2.2.2.2;have b:=Ex l i;omega
 rfl
theorem op_pos{l:List Tk}{i op:Nat}(h:Ky l i=some op):7<=op/\op<=21/\1<=lvl op/\lvl op<=8:=by
 rw[Z50]at h;obtain⟨d,c,b,a,_⟩:=Zbt h
 grind
theorem Zg5{t:List UInt8}(h:Rh t=1):t≠[]/\t.all Y9=true:=by
 rw[Zfw]at h
 split at h
 cases h
 .match t with
  |[]=>cases h
  |c::r=>
   refine⟨by simp,?_⟩
   rcases Zei c with a|⟨_,a⟩|⟨a,_⟩
   rw[Zse a]at h
   grind
   rw[Zre a]at h
   grind
   rw[Kb a]at h
   grind
end Go.Hs
end

section
namespace Go.Hs
structure Bal(l:List Tk)(k:Nat)(r r':RS):Prop where
 up:r.i<=r'.i
 inn:r.i<=l.length->r'.i<=l.length
 cnt:r'.nodes.length+r.i+k<=r.nodes.length+r'.i
theorem Bal.refl(l:List Tk)(r:RS):Bal l 0 r r:=⟨Nat.le_refl _,id,Nat.le_refl _⟩
theorem Bal.trans{l:List Tk}{k k':Nat}{r r' a:RS}(h:Bal l k r r')(b:Bal l k' r' a):Bal l (k+k') r a:=
 ⟨Nat.le_trans h.up b.up,λx=>b.inn (h.inn x),by have:=h.cnt;have:=b.cnt;omega⟩
theorem Bal.weak{l:List Tk}{k k':Nat}{r r':RS}(h:Bal l k r r')(a:k'<=k):Bal l k' r r':=⟨h.up,h.inn,by have:=h.cnt;omega⟩
theorem Bal.adv{l:List Tk}{r:RS}(h:r.i<l.length):Bal l 1 r r.adv:=⟨Nat.le_succ _,λ_=>h,by show r.nodes.length+r.i+1<=r.nodes.length+(r.i+1);omega⟩
theorem Bal.err(l:List Tk)(r:RS)(e:Int):Bal l 0 r (r.err e):=⟨Nat.le_refl _,id,Nat.le_refl _⟩
theorem Bal.put{l:List Tk}{k:Nat}{r r':RS}(h:Bal l (k+1) r r')(n:XN):Bal l k r (r'.put n):=
 ⟨h.up,h.inn,by have:=h.cnt;show(r'.nodes++[n]).length+r.i+k<=_;rw[List.length_append,List.length_singleton];show _<=r.nodes.length+r'.i;omega⟩
def Z0y(l:List Tk)(inner:Inner):Prop:=∀ n r,Bal l 0 r (inner n r).2
theorem Bal.then{l:List Tk}{r:RS}{x:Bool×RS}{k:RS->Bool×RS}(h:Bal l 0 r x.2)(a:x.1=true->Bal l 0 r (k x.2).2):Bal l 0 r (andThen x k).2:=by
 obtain⟨b,c⟩:=x;cases b;exact h;exact a rfl
theorem R8(l:List Tk)(w:List UInt8)(r:RS):Bal l 0 r (S4 l w r).2/\((S4 l w r).1=true->Bal l 1 r (S4 l w r).2):=by
 unfold S4
 split
 exact⟨Bal.err _ _ _,λh=>by cases h⟩;rename_i h;have a:(Ym l r.i).kind≠0:=λb=>h (.inl b);have:=Bal.adv (Nf a);exact⟨this.weak (Nat.zero_le _),λ_=>this⟩
theorem Ix{l:List Tk}{r:RS}(h:(Ym l r.i).kind≠0)(op num:Int)(name:List UInt8):Bal l 0 r (K8 r op num name).2:=(Bal.adv (Nf h)).put _
theorem Zjg{l:List Tk}{r:RS}(h:(Ym l r.i).kind≠0)(t:List UInt8):Bal l 0 r (Rm r t).2:=by
 unfold Rm
 split
 exact Bal.err _ _ _;exact Ix h _ _ _
theorem C7{l:List Tk}{d:Inner}(h:Z0y l d)(r:RS):Bal l 0 r (Ux l d r).2:=by
 have p:=R8 l wIf r;refine Bal.then p.1 λx=>?_;have t:=p.2 x;generalize(S4 l wIf r).2=k at t⊢;have g:=t.trans (h 1 k);refine Bal.then (g.weak (Nat.zero_le _)) λ_=>?_;generalize(d 1 k).2=a at g⊢;have o:=R8 l Bi a;refine Bal.then ((g.trans o.1).weak (Nat.zero_le _)) λw=>?_;have s:=g.trans (o.2 w);generalize(S4 l Bi a).2=j at s⊢;have f:=s.trans (h 1 j);refine Bal.then (f.weak (Nat.zero_le _)) λ_=>?_;generalize(d 1 j).2=b at f⊢;have n:=R8 l Bj b;refine Bal.then ((f.trans n.1).weak (Nat.zero_le _)) λv=>?_;have q:=f.trans (n.2 v);generalize(S4 l Bj b).2=i at q⊢;have e:=q.trans (h 1 i);refine Bal.then (e.weak (Nat.zero_le _)) λ_=>?_;generalize(d 1 i).2=c at e⊢;have m:=R8 l Lf c;refine Bal.then ((e.trans m.1).weak (Nat.zero_le _)) λu=>?_;have y:=e.trans (m.2 u);exact(y.put _).weak (Nat.zero_le _)
theorem D8{l:List Tk}{a:Inner}(h:Z0y l a)(r:RS):Bal l 0 r (Qe l a r).2:=by
 unfold Qe
 split
 rename_i e;exact Zjg (by grind) _
 split
 rename_i e;exact Ix (by grind) _ _ _
 split
 exact Bal.err _ _ _;rename_i c;have d:=Bal.adv (Nf c)
 split
 have b:=d.trans (h 9 r.adv);exact Bal.then (b.weak (Nat.zero_le _)) λ_=>b.put _
 split
 have b:=d.trans (h 1 r.adv);exact Bal.then (b.weak (Nat.zero_le _)) λ_=>(b.trans (R8 l [41] _).1).weak (Nat.zero_le _)
 split
 exact C7 h r
 split
 exact Ix c _ _ _;exact Bal.err _ _ _
theorem By{l:List Tk}{a:Inner}(h:Z0y l a)(n:Int):∀ (m:Nat) (r:RS),Bal l 0 r (Ni l a n m r).2
 |0,r=>Bal.refl l r
 |m+1,r=>by
  rw[Ni]
  cases c:Ky l r.i with
  |none=>exact Bal.refl l r
  |some op=>
   simp only
   split
   exact Bal.refl l r;have b:=(Bal.adv (Zat c)).trans (h (lvl op+1) r.adv);exact Bal.then (b.weak (Nat.zero_le _)) λ_=>((b.put _).trans (By h n m _)).weak (Nat.zero_le _)
theorem Te(l:List Tk):∀ f,Z0y l (Xv l f)
 |0=>λ_ r=>Bal.refl l r
 |f+1=>λn r=>by
  have a:=D8 (Te l f) r;exact Bal.then a λ_=>(a.trans (By (Te l f) n _ _)).weak (Nat.zero_le _)
def Ju(l:List Tk)(r:RS):Prop:=r.i<=l.length/\r.nodes.length<=r.i
theorem Bal.ok{l:List Tk}{k:Nat}{r r':RS}(h:Bal l k r r')(a:Ju l r):Ju l r':=⟨h.inn a.1,by have:=h.cnt;have:=a.2;omega⟩
inductive X where
 |leaf (op num:Int) (name:List UInt8)
 |un (op:Int) (a:X)
 |bin (op:Int) (a b:X)
 |ite (a b c:X)
 deriving DecidableEq,Inhabited
namespace X
def size:X->Nat
 |leaf .. => 1
 |un _ a=>a.size+1
 |bin _ a b=>a.size+b.size+1
 |ite a b c=>a.size+b.size+c.size+1
def depth:X->Nat
 |leaf .. => 1
 |un _ a=>a.depth+1
 |bin _ a b=>max a.depth b.depth+1
 |ite a b c=>max (max a.depth b.depth) c.depth+1
end X
def Sd(n:XN):Bool:=
 if n.op<1\/n.op>22\/n.num<0 then false else if n.op=2 then n.num==0&&Rh n.name==2 else n.name==[]&&(n.op==1||n.num==0)
namespace X
def ok:X->Bool
 |leaf op num name=>Sd ⟨op,num,name,-1,-1,-1⟩&&decide (op<=4)
 |un op a=>decide (5<=op)&&decide (op<=6)&&a.ok
 |bin op a b=>decide (7<=op)&&decide (op<=21)&&a.ok&&b.ok
 |ite a b c=>a.ok&&b.ok&&c.ok
def row:X->Int->List XN
 |leaf op num name,_=>[⟨op,num,name,-1,-1,-1⟩]
 |un op a,k=>a.row k++[⟨op,0,[],k+a.size-1,-1,-1⟩]
 |bin op a b,k=>a.row k++b.row (k+a.size)++[⟨op,0,[],k+a.size-1,k+a.size+b.size-1,-1⟩]
 |ite a b c,k=>a.row k++b.row (k+a.size)++c.row (k+a.size+b.size)++[⟨22,0,[],k+a.size-1,k+a.size+b.size-1,k+a.size+b.size+c.size-1⟩]
theorem row_len:∀ (x:X) (k:Int),(x.row k).length=x.size
 |leaf ..,_=>rfl
 |un _ a,k=>by simp[row,size,row_len a]
 |bin _ a b,k=>by simp[row,size,row_len a,row_len b];omega
 |ite a b c,k=>by simp[row,size,row_len a,row_len b,row_len c];omega
theorem size_pos:∀ x:X,0<x.size
 |leaf .. => by simp[size]
 |un .. => by simp[size]
 |bin .. => by simp[size]
 |ite .. => by simp[size]
def top:X->Int->XN
 |leaf op num name,_=>⟨op,num,name,-1,-1,-1⟩
 |un op a,k=>⟨op,0,[],k+a.size-1,-1,-1⟩
 |bin op a b,k=>⟨op,0,[],k+a.size-1,k+a.size+b.size-1,-1⟩
 |ite a b c,k=>⟨22,0,[],k+a.size-1,k+a.size+b.size-1,k+a.size+b.size+c.size-1⟩
end X
theorem A3{op:Int}(h:3<=op/\op<=22)(a b c:Int):Sd ⟨op,0,[],a,b,c⟩=true:=by
 unfold Sd
 grind
theorem Zcz{n:XN}(h:Sd n=true)(a:n.op≠1):n.num=0/\(n.op≠2->n.name=[])/\1<=n.op/\n.op<=22:=by
 unfold Sd at h
 grind
theorem Le{n:XN}(h:Sd n=true):1<=n.op/\n.op<=22:=by
 unfold Sd at h
 grind
def Ya(op:Int):Nat:=if op<=4 then 0 else if op<=6 then 1 else if op<=21 then 2 else 3
def Ww(l:List (Int×Int)):List Int:=[(l.map (·.1)).getD 0 (-1),(l.map (·.1)).getD 1 (-1),(l.map (·.1)).getD 2 (-1)]
def Vu(l:List (Int×Int)):Int:=l.foldl (λd p=>max d p.2) 0
def Mq(i:Int)(n:XN)(opn:List (Int×Int)):Option (List (Int×Int)):=
 if Sd n=false then none else if opn.length<Ya n.op then none
 else if Ww (opn.drop (opn.length-Ya n.op))≠[n.a,n.b,n.c]then none
 else some (opn.take (opn.length-Ya n.op)++[(i,Vu (opn.drop (opn.length-Ya n.op))+1)])
def Qn:List XN->Int->List (Int×Int)->Option (List (Int×Int))
 |[],_,opn=>some opn
 |n::r,i,opn=>match Mq i n opn with
  |some o=>Qn r (i+1) o
  |none=>none
def Vt(l:List XN):Int:=match Qn l 0 []with
 |some [x]=>x.2
 |_=>0
def Qr:Int->List X->List XN
 |_,[]=>[]
 |k,x::r=>x.row k++Qr (k+x.size) r
def U0(F:List X):Nat:=(F.map X.size).sum
def Xn:Int->List X->List (Int×Int)
 |_,[]=>[]
 |k,x::r=>(k+x.size-1,(x.depth:Int))::Xn (k+x.size) r
theorem Lk(x:X)(r:List X):U0 (x::r)=x.size+U0 r:=by rfl
theorem Zxu(a b:List X):U0 (a++b)=U0 a+U0 b:=by simp[U0]
theorem Fy:∀ (a b:List X) (k:Int),Qr k (a++b)=Qr k a++Qr (k+U0 a) b
 |[],b,k=>by simp[Qr,U0]
 |x::a,b,k=>by
  rw[List.cons_append,Qr,Qr,Fy a b,List.append_assoc,Lk]
  congr 3;omega
theorem P7:∀ (a b:List X) (k:Int),Xn k (a++b)=Xn k a++Xn (k+U0 a) b
 |[],b,k=>by simp[Xn,U0]
 |x::a,b,k=>by
  rw[List.cons_append,Xn,Xn,P7 a b,Lk]
  congr 3;omega
theorem P6:∀ (F:List X) (k:Int),(Xn k F).length=F.length
 |[],_=>rfl
 |x::r,k=>by simp[Xn,P6 r]
theorem Kr:∀ (F:List X) (k:Int),(Qr k F).length=U0 F
 |[],_=>rfl
 |x::r,k=>by rw[Qr,List.length_append,X.row_len,Kr r,Lk]
theorem Z0m{F:List X}{p:Nat}(h:p<=F.length):∃ A B,F=A++B/\B.length=p:=⟨F.take (F.length-p),F.drop (F.length-p),(List.take_append_drop _ _).symm,by grind⟩
theorem Zcb{F:List X}{n:XN}{o:List (Int×Int)}(i:∀ x∈F,x.ok=true)(h:Mq (U0 F) n (Xn 0 F)=some o):
  ∃ F',(∀ x∈F',x.ok=true)/\Qr 0 F'=Qr 0 F++[n]/\o=Xn 0 F':=by
 unfold Mq at h;rw[P6]at h
 split at h
 cases h;rename_i k
 have k:Sd n=true:=by simpa using k
 have r:=Le k
 split at h
 cases h;rename_i C;obtain⟨A,B,rfl,e⟩:=Z0m (F:=F) (p:=Ya n.op) (by omega)
 have t:(A++B).length-Ya n.op=A.length:=by rw[List.length_append,e];omega
 have g:(Xn 0 (A++B)).drop A.length=Xn (U0 A) B:=by
  rw[P7,List.drop_left' (P6 _ _),Int.zero_add]
 have f:(Xn 0 (A++B)).take A.length=Xn 0 A:=by
  rw[P7,List.take_left' (P6 _ _)]
 rw[t,g,f]at h
 split at h
 cases h;rename_i d;simp only[ne_eq,Decidable.not_not]at d;simp only[Option.some.injEq]at h;have l:∀ x∈A,x.ok=true:=λx q=>i x (by simp[q])
 have fin:∀ x:X,x.ok=true->x.row (U0 A)=Qr (U0 A) B++[n]->(x.depth:Int)=Vu (Xn (U0 A) B)+1 ->
   ∃ F',(∀ x∈F',x.ok=true)/\Qr 0 F'=Qr 0 (A++B)++[n]/\o=Xn 0 F':=by
  intro x q v E;refine⟨A++[x],λy D=>?_,?_,?_⟩
  rcases List.mem_append.1 D with m|m
  exact l y m;rw[List.mem_singleton.1 m];exact q;rw[Fy,Fy,List.append_assoc,Int.zero_add,<- v];simp[Qr];rw[<- h,P7,Xn,Xn,E];have m:(x.row (U0 A)).length=x.size:=X.row_len _ _;rw[v,List.length_append,Kr,List.length_singleton]at m;rw[Zxu]
  congr 4
  omega
 obtain⟨j,num,name,a,b,c⟩:=n;simp only at e d r;unfold Ya at e
 split at e
 rename_i H;obtain rfl:B=[]:=List.length_eq_zero_iff.1 e;simp only[Ww,Xn,List.map_nil,List.getD_nil,List.cons.injEq,and_true]at d;obtain⟨rfl,rfl,rfl⟩:=d;exact fin (.leaf j num name) (by unfold X.ok;rw[k];simp;omega) rfl rfl;rename_i H;have w:=Zcz k (show j≠1 by omega);simp only at w;obtain⟨rfl,s,_⟩:=w;obtain rfl:=s (by omega)
 split at e
 rename_i G;obtain⟨x,rfl⟩:=List.length_eq_one_iff.1 e;simp only[Ww,Xn,List.map_cons,List.map_nil,List.getD_cons_zero,List.getD_cons_succ,List.getD_nil,List.cons.injEq,and_true]at d;obtain⟨rfl,rfl,rfl⟩:=d;refine fin (.un j x) (by unfold X.ok;rw[i x (by simp)];simp;omega) ?_ ?_;simp[X.row,Qr];simp[X.depth,Xn,Vu];rename_i G
 split at e
 rename_i u
 obtain⟨x,y,rfl⟩:∃ x y,B=[x,y]:=by
  match B,e with
  |[x,y],_=>exact⟨x,y,rfl⟩
 simp only[Ww,Xn,List.map_cons,List.map_nil,List.getD_cons_zero,List.getD_cons_succ,List.getD_nil,List.cons.injEq,and_true]at d;obtain⟨rfl,rfl,rfl⟩:=d;refine fin (.bin j x y) (by unfold X.ok;rw[i x (by simp),i y (by simp)];simp;omega) ?_ ?_;simp[X.row,Qr];simp[X.depth,Xn,Vu];omega;rename_i u
 obtain⟨x,y,z,rfl⟩:∃ x y z,B=[x,y,z]:=by
  match B,e with
  |[x,y,z],_=>exact⟨x,y,z,rfl⟩
 simp only[Ww,Xn,List.map_cons,List.map_nil,List.getD_cons_zero,List.getD_cons_succ,List.cons.injEq,and_true]at d;obtain⟨rfl,rfl,rfl⟩:=d
 obtain rfl:j=22:=by omega
 refine fin (.ite x y z) (by unfold X.ok;rw[i x (by simp),i y (by simp),i z (by simp)];rfl) ?_ ?_;simp[X.row,Qr];simp[X.depth,Xn,Vu];omega
theorem Du:∀ (l:List XN) (F:List X) (opn:List (Int×Int)),(∀ x∈F,x.ok=true)->Qn l (U0 F) (Xn 0 F)=some opn ->
  ∃ F',(∀ x∈F',x.ok=true)/\Qr 0 F'=Qr 0 F++l/\opn=Xn 0 F'
 |[],F,opn,hF,h=>⟨F,hF,by simp,by simpa[Qn]using h.symm⟩
 |n::r,F,opn,hF,h=>by
  rw[Qn]at h
  cases b:Mq (U0 F) n (Xn 0 F)with
  |none=>grind
  |some o=>
   rw[b]at h;obtain⟨c,e,d,rfl⟩:=Zcb hF b
   have a:(U0 F:Int)+1=U0 c:=by
    have:=congrArg List.length d;rw[List.length_append,Kr,Kr,List.length_singleton]at this;omega
   rw[a]at h;obtain⟨F',i,g,f⟩:=Du r c opn e h
   grind
theorem Zip{l:List XN}(h:Vt l≠0):∃ x:X,x.ok=true/\l=x.row 0:=by
 unfold Vt at h
 split at h
 .rename_i y hy
  obtain⟨F,c,b,a⟩:=Du l [] _ (by simp) (by simpa[U0,Xn]using hy)
  match F,a with
  |[x],_=>exact⟨x,c x (by simp),by simpa[Qr]using b.symm⟩
  |[],a=>simp[Xn]at a
  |_::_::_,a=>simp[Xn]at a
 grind
def Xj(l:List Tk):List XN×Int×Int:=if(Xv l (l.length+1) 1 ⟨0,[],0⟩).1=false then([],(Xv l (l.length+1) 1 ⟨0,[],0⟩).2.i,(Xv l (l.length+1) 1 ⟨0,[],0⟩).2.e)
 else if Vt (Xv l (l.length+1) 1 ⟨0,[],0⟩).2.nodes>64 then([],0,3)else((Xv l (l.length+1) 1 ⟨0,[],0⟩).2.nodes,(Xv l (l.length+1) 1 ⟨0,[],0⟩).2.i,0)
def Tp(s:List UInt8):List XN×Int×Int:=
 if(Yu s).2.2≠0 then([],(Yu s).2.1,(Yu s).2.2)
 else if(Xj (Yu s).1).2.2=3 then([],0,3)
 else if(Xj (Yu s).1).2.2=0/\(Xj (Yu s).1).2.1=((Yu s).1.length:Nat)then((Xj (Yu s).1).1,0,0)
 else([],if(Xj (Yu s).1).2.1=((Yu s).1.length:Nat)then(s.length:Int)else((Yu s).1.getD (Xj (Yu s).1).2.1.toNat ⟨0,[],0⟩).pos,if(Xj (Yu s).1).2.2=0 then 80 else(Xj (Yu s).1).2.2)
theorem Pj{l:List Tk}:0<=(Xj l).2.1/\(Xj l).2.1<=(l.length:Nat):=by
 have a:=((Te l (l.length+1) 1 ⟨0,[],0⟩).ok ⟨Nat.zero_le _,Nat.le_refl _⟩).1;unfold Xj
 grind
theorem B6{l:List Tk}(h:(Xj l).2.2≠0):(Xj l).1=[]:=by
 unfold Xj at h⊢
 grind
structure ASt where
 kind:Int
 name:List UInt8
 x:List XN
 deriving DecidableEq,Inhabited
def Pl:List UInt8:=[101,109,105,116]
def X6(l:List Tk)(i:Nat):List UInt8:=match l[i]? with|some t=>t.text|none=>[]
def Ou(l:List Tk)(i:Nat):Bool:=match l[i]? with|some t=>t.kind==2|none=>false
theorem Bl{l:List Tk}{i:Nat}{t:Tk}(h:l[i]?=some t):X6 l i=t.text:=by unfold X6;rw[h]
theorem J1{l:List Tk}{i:Nat}(h:l.length<=i):X6 l i=[]:=by unfold X6;grind
theorem Ez{l:List Tk}{i:Nat}{t:Tk}(h:l[i]?=some t):Ou l i=(t.kind==2):=by unfold Ou;rw[h]
theorem Lo{l:List Tk}{i:Nat}(h:l.length<=i):Ou l i=false:=by unfold Ou;grind
def Vi(l:List Tk):List (List UInt8)->Nat->Bool×Nat
 |[],i=>(true,i)
 |w::r,i=>if X6 l i=w then Vi l r (i+1)else(false,i)
def Km(l:List Tk)(s:ASt)(ws:List (List UInt8))(i:Nat):ASt×Int×Int:=
 ((s,((Vi l ws i).2:Int),if(Vi l ws i).1=true then 0 else 110))
def Hy(l:List Tk)(k:Int)(nm:List UInt8)(ws:List (List UInt8))(i:Nat):ASt×Int×Int:=
 if(Xj (l.drop i)).2.2≠0 then(⟨k,nm,[]⟩,(i:Int)+(Xj (l.drop i)).2.1,(Xj (l.drop i)).2.2)
 else Km l ⟨k,nm,(Xj (l.drop i)).1⟩ ws (i+(Xj (l.drop i)).2.1.toNat)
def Tj(l:List Tk)(k:Int)(w:List UInt8)(ws:List (List UInt8))(i:Nat):ASt×Int×Int:=
 if Ou l i=false then(⟨k,[],[]⟩,(i:Int),110)
 else if X6 l (i+1)≠w then(⟨k,X6 l i,[]⟩,((i+1:Nat):Int),110)
 else if k=2/\X6 l (i+2)=[41]then Km l ⟨k,X6 l i,[]⟩ ws (i+2)
 else Hy l k (X6 l i) ws (i+2)
def Vy(l:List Tk)(i:Nat):ASt×Int×Int:=
 if X6 l i=Pl then Tj l 2 [40] [[41],[59]] (i+1)else Tj l 1 [58,61] [[59]] i
theorem Z6e{l:List Tk}:∀ (ws:List (List UInt8)) (i:Nat),i<=(Vi l ws i).2
 |[],i=>Nat.le_refl _
 |w::r,i=>by
  rw[Vi]
  split
  exact Nat.le_trans (Nat.le_succ i) (Z6e r (i+1))
  grind
theorem Kh{l:List Tk}{i:Nat}(h:X6 l i≠[]):i<l.length:=by
 refine Classical.byContradiction λa=>h (J1 (by omega))
theorem Z5e{l:List Tk}:∀ (ws:List (List UInt8)) (i:Nat),(∀ w∈ws,w≠[])->(Vi l ws i).1=true->(Vi l ws i).2=i+ws.length/\(ws≠[]->(Vi l ws i).2<=l.length)
 |[],i,_,_=>⟨rfl,λh=>absurd rfl h⟩
 |w::r,i,hw,h=>by
  rw[Vi]at h⊢
  split at h
  rename_i b;rw[if_pos b];obtain⟨e,d⟩:=Z5e r (i+1) (λx a=>hw x (List.mem_cons_of_mem _ a)) h;refine⟨by grind,λ_=>?_⟩;have c:=Kh (l:=l) (i:=i) (by grind)
  grind
  cases h
structure StB(l:List Tk)(i:Nat)(r:ASt×Int×Int):Prop where
 ge:(i:Int)<=r.2.1
 ok:r.2.2=0->(i:Int)<r.2.1/\r.2.1<=l.length
theorem Zzs{l:List Tk}{s:ASt}{a:List (List UInt8)}{i j:Nat}(c:∀ w∈a,w≠[])(b:a≠[])(e:i<=j):StB l i (Km l s a j):=by
 have o:=Z6e (l:=l) a j;refine⟨by show(i:Int)<=((Vi l a j).2:Int);omega,λh=>?_⟩
 have d:(Vi l a j).1=true:=by
  refine Classical.byContradiction λn=>?_;have h:(if(Vi l a j).1=true then(0:Int)else 110)=0:=h
  grind
 obtain⟨m,f⟩:=Z5e a j c d;have k:=f b;have g:0<a.length:=List.length_pos_iff.2 b
 show(i:Int)<((Vi l a j).2:Int)/\((Vi l a j).2:Int)<=l.length
 omega
theorem Zs5{l:List Tk}{k:Int}{nm:List UInt8}{a:List (List UInt8)}{i j:Nat}(b:∀ w∈a,w≠[])(c:a≠[])(d:i<=j):StB l i (Hy l k nm a j):=by
 unfold Hy;have f:=(Pj (l:=l.drop j)).1
 split
 rename_i h;exact⟨by grind,λe=>absurd e h⟩;exact Zzs b c (by omega)
theorem Zys{l:List Tk}{k:Int}{w:List UInt8}{a:List (List UInt8)}{i j:Nat}(b:∀ w∈a,w≠[])(c:a≠[])(d:i<=j):StB l i (Tj l k w a j):=by
 unfold Tj
 split
 exact⟨by grind,λh=>by cases h⟩
 split
 exact⟨by grind,λh=>by cases h⟩
 split
 exact Zzs b c (by omega);exact Zs5 b c (by omega)
theorem G2(l:List Tk)(i:Nat):StB l i (Vy l i):=by
 unfold Vy
 split
 exact Zys (by decide) (by decide) (by omega);exact Zys (by decide) (by decide) (Nat.le_refl _)
def Ie(l:List Tk)(n:Nat)(i:Int):Int:=if i<l.length then(l.getD i.toNat ⟨0,[],0⟩).pos else n
def M9(l:List Tk)(n:Nat):Nat->Nat->List ASt->List ASt×Int×Int
 |0,_,acc=>(acc,0,0)
 |f+1,i,acc=>
  if l.length<=i then(acc,0,0)
  else if acc.length=512 then([],Ie l n i,3)
  else if(Vy l i).2.2≠0 then([],Ie l n (Vy l i).2.1,(Vy l i).2.2)
  else M9 l n f (Vy l i).2.1.toNat (acc++[(Vy l i).1])
def Jo(s:List UInt8):List ASt×Int×Int:=
 if(Yu s).2.2≠0 then([],(Yu s).2.1,(Yu s).2.2)else M9 (Yu s).1 s.length ((Yu s).1.length+1) 0 []
section
structure VP where
 name:List UInt8
 kind:Int
 region:Int
 of:Int
 entry:List UInt8
 exit:List UInt8
 defers:List (List UInt8)
 sub:List UInt8
structure WP where
 name:List UInt8
 source:Int
 target:Int
 triggers:List (List UInt8)
 after:Int
 guard:List UInt8
 effect:List UInt8
 kind:Int
structure PM where
 name:List UInt8
 vars:List (List UInt8×Int)
 events:List (List UInt8)
 regions:List (List UInt8×Int)
 vertices:List VP
 ways:List WP
def vx0:VP:=⟨[],0,0,0,[],[],[],[]⟩
def wy0:WP:=⟨[],0,0,[],0,[],[],0⟩
namespace PM
variable(m:PM)
def vx(v:Int):VP:=m.vertices.getD v.toNat vx0
def wy(i:Int):WP:=m.ways.getD i.toNat wy0
def ow(r:Int):Int:=(m.regions.getD r.toNat ([],0)).2
def around(v:Int):Int:=if 0<=(m.vx v).of then(m.vx v).of else m.ow (m.vx v).region
def upsF:Nat->Int->List Int
 |0,_=>[]
 |f+1,v=>if m.around v<0 then[]else m.around v::upsF f (m.around v)
def ups(v:Int):List Int:=m.upsF 65 v
def withinB(v r:Int):Bool:=(v::m.ups v).any λu=>(m.vx u).region==r
def inB(v s:Int):Bool:=(m.ups v).contains s
def regU(v s:Int):Int:=match(v::m.ups v).find? (λu=>m.around u==s)with|some u=>(m.vx u).region|none => -1
end PM
def Pn:List Int->List Int->Bool
 |_,[]=>true
 |acc,r::t=>decide (0<=r) && !acc.contains r&&Pn (acc++[r]) t
def Rg:List Int->List Int->List Int
 |acc,[]=>acc
 |acc,r::t=>Rg (if 0<=r/\acc.contains r=false then acc++[r]else acc) t
theorem Ft:∀ (l acc:List Int),(Rg acc l).length<=acc.length+l.length
 |[],acc=>Nat.le_refl _
 |r::t,acc=>by
  rw[Rg];have:=Ft t (if 0<=r/\acc.contains r=false then acc++[r]else acc)
  grind
theorem Br:∀ (l acc:List Int),decide ((Rg acc l).length=acc.length+l.length)=Pn acc l
 |[],acc=>by simp[Rg,Pn]
 |r::t,acc=>by
  rw[Rg,Pn]
  by_cases h:0<=r/\acc.contains r=false
  rw[if_pos h,h.2,decide_eq_true h.1];rw[<- Br t (acc++[r])]
  grind
  rw[if_neg h];have a:=Ft t acc
  grind
namespace PM
variable(m:PM)
structure Acy:Prop where
 rng:∀ v:Int,0<=v->v<m.vertices.length->m.around v = -1\/(0<=m.around v/\m.around v<m.vertices.length)
 dep:∀ v:Int,0<=v->v<m.vertices.length->(m.ups v).length<=64
 pt:∀ v:Int,0<=v->v<m.vertices.length->0<=(m.vx v).of->(m.vx v).region = -1
 rg:∀ v:Int,0<=v->v<m.vertices.length->(m.vx v).of<0->0<=(m.vx v).region/\(m.vx v).region<m.regions.length
variable{m}
theorem Hi:∀ (f k:Nat) (v:Int),(m.upsF f v).length<f->m.upsF (f+k) v=m.upsF f v
 |0,_,_,h=>absurd h (Nat.not_lt_zero _)
 |f+1,k,v,h=>by
  rw[show f+1+k=(f+k)+1 by omega,upsF,upsF];rw[upsF]at h
  split
  rfl;rename_i a;rw[if_neg a,List.length_cons]at h;rw[Hi f k _ (by omega)]
theorem Acy.ups_nil{v:Int}(h:m.around v<0):m.ups v=[]:=by
 rw[ups,upsF,if_pos h]
theorem Acy.ups_cons(a:m.Acy){v:Int}(d:0<=v)(c:v<m.vertices.length)(h:0<=m.around v):m.ups v=m.around v::m.ups (m.around v):=by
 have b:=a.dep v d c;rw[ups,upsF,if_neg (by omega)]at b⊢;rw[List.length_cons]at b;rw[ups,Hi 64 1 _ (by omega)]
theorem Acy.ind(a:m.Acy){P:Int->Prop}(z:∀ v:Int,0<=v->v<m.vertices.length->m.around v<0->P v)
  (s:∀ v:Int,0<=v->v<m.vertices.length->0<=m.around v->m.around v<m.vertices.length->P (m.around v)->P v) {v:Int} (c:0<=v) (b:v<m.vertices.length):P v:=by
 have g:∀ (n:Nat) (v:Int),0<=v->v<m.vertices.length->(m.ups v).length=n->P v:=by
  intro n
  induction n with
  |zero=>
   intro v c b d
   rcases a.rng v c b with q|⟨e,f⟩
   grind
   rw[a.ups_cons c b e]at d;cases d
  |succ n ih=>
   intro v c b d
   rcases a.rng v c b with q|⟨e,f⟩
   grind
   rw[a.ups_cons c b e,List.length_cons]at d;simp_all
 grind
theorem Acy.ups_rng(a:m.Acy){v:Int}(d:0<=v)(c:v<m.vertices.length):∀ u∈m.ups v,0<=u/\u<m.vertices.length/\(m.ups u).length<(m.ups v).length:=by
 refine a.ind (P:=λv=>∀ u∈m.ups v,0<=u/\u<m.vertices.length/\(m.ups u).length<(m.ups v).length) ?_ ?_ d c;intro v _ _ h u b;rw[Acy.ups_nil h]at b;cases b;intro v d c e f g u b;rw[a.ups_cons d c e]at b⊢
 grind
theorem regU_nil{v s:Int}(h:m.around v<0)(a:0<=s):m.regU v s = -1:=by
 rw[regU,Acy.ups_nil h,List.find?_cons_of_neg (by grind)];rfl
theorem Acy.regU_at{v s:Int}(h:m.around v=s):m.regU v s=(m.vx v).region:=by
 rw[regU,List.find?_cons_of_pos (by grind)]
theorem Acy.regU_up(a:m.Acy){v s:Int}(c:0<=v)(b:v<m.vertices.length)(h:0<=m.around v)(d:m.around v≠s):m.regU v s=m.regU (m.around v) s:=by
 rw[regU,regU,a.ups_cons c b h,List.find?_cons_of_neg (by grind)]
theorem Acy.inB_up(a:m.Acy){v s:Int}(c:0<=v)(b:v<m.vertices.length)(h:0<=m.around v):m.inB v s=(m.around v==s||m.inB (m.around v) s):=by
 rw[inB,inB,a.ups_cons c b h,List.contains_cons,BEq.comm]
theorem inB_nil{v s:Int}(h:m.around v<0):m.inB v s=false:=by
 rw[inB,Acy.ups_nil h];rfl
theorem Acy.withinB_up(a:m.Acy){v r:Int}(c:0<=v)(b:v<m.vertices.length)(h:0<=m.around v):m.withinB v r=((m.vx v).region==r||m.withinB (m.around v) r):=by
 rw[withinB,withinB,a.ups_cons c b h,List.any_cons]
theorem withinB_nil{v r:Int}(h:m.around v<0):m.withinB v r=((m.vx v).region==r):=by
 rw[withinB,Acy.ups_nil h,List.any_cons,List.any_nil,Bool.or_false]
theorem Acy.regU_of(a:m.Acy){v s u:Int}(f:0<=v)(e:v<m.vertices.length)(l:0<=s)(b:u∈v::m.ups v)(h:m.around u=s):m.regU v s=(m.vx u).region:=by
 refine a.ind (P:=λv=>u∈v::m.ups v->m.regU v s=(m.vx u).region) ?_ ?_ f e b;intro v _ _ q b;rw[Acy.ups_nil q]at b
 grind
 intro v f e c g k b
 rcases List.mem_cons.1 b with rfl|b
 exact Acy.regU_at h;rw[a.ups_cons f e c]at b
 by_cases i:m.around v=s
 rw[i]at b c g
 have d:0<=u/\u<m.vertices.length:=by
  rcases List.mem_cons.1 b with rfl|b
  grind
  have:=a.ups_rng c g u b;exact⟨this.1,this.2.1⟩
 have j:=a.ups_cons d.1 d.2 (by omega);rw[h]at j
 have n:(m.ups s).length<(m.ups u).length:=by rw[j];exact Nat.lt_succ_self _
 rcases List.mem_cons.1 b with rfl|b
 omega;have:=(a.ups_rng c g u b).2.2;omega;rw[a.regU_up f e c i];exact k b
def partU(m:PM)(l:List Int):Bool:=(m.ups (l.headD 0)).any λs=>Pn [] (l.map (m.regU · s))
end PM
end
section
def Qb:List UInt8:=[97,114,103]
def elsW:List UInt8:=[101,108,115,101]
def Tb(s:List UInt8):Bool:=s==[]||Rh s==2
def evB(ev l:List (List UInt8)):Bool:=(List.range l.length).all λi=>ev.contains (l.getD i []) && !(l.take i).contains (l.getD i [])
def Y8(part most:Nat)(p:Nat->Bool)(n:Nat):Nat×Int×Int:=
 match(List.range n).find? (λi=>i==most || !p i)with
 |none=>(0,0,0)
 |some i=>(part,(i:Int),if i=most then 3 else 130)
def Ot(a b:Nat×Int×Int):Nat×Int×Int:=if a.1≠0 then a else b
theorem Rw{b a:Nat}{p:Nat->Bool}{n:Nat}(h:∀ i,i<n->i≠a/\p i=true):Y8 b a p n=(0,0,0):=by
 rw[Y8,List.find?_eq_none.2 (λi c=>by
  grind)]
theorem Vd{b a:Nat}{p:Nat->Bool}{n i:Nat}(hi:i<n)(h:∀ k,k<i->k≠a/\p k=true)(c:i=a\/p i=false):Y8 b a p n=(b,(i:Int),if i=a then 3 else 130):=by
 have:(List.range n).find? (λi=>i==a || !p i)=some i:=by
  simp_all
 rw[Y8,this]
theorem Sw{b a:Nat}{p:Nat->Bool}{n:Nat}(d:b≠0)(h:(Y8 b a p n).1=0):n<=a/\∀ i,i<n->p i=true:=by
 rw[Y8]at h
 cases c:(List.range n).find? (λi=>i==a || !p i)with
 |some i=>grind
 |none=>
  have:=List.find?_eq_none.1 c;refine⟨?_,λi e=>?_⟩
  rcases Nat.lt_or_ge a n with q|q
  have:=this a (List.mem_range.2 q);simp at this;exact q
  grind
theorem Ig{a b:Nat×Int×Int}(h:(Ot a b).1=0):a.1=0/\b.1=0:=by
 rw[Ot]at h
 grind
namespace PM
variable(m:PM)
def stateB(v:Int):Bool:=decide (0<=v)&&decide (v<m.vertices.length)&&((m.vx v).kind==1)
def nameAt(i:Nat):List UInt8:=(m.vars.getD i ([],0)).1
def varB(i:Nat):Bool:=(Rh (m.nameAt i)==2) && !(m.nameAt i==Qb) && !((m.vars.take i).any λy=>y.1==m.nameAt i)
def signalB(i:Nat):Bool:=(Rh (m.events.getD i [])==2) && !(m.events.take i).contains (m.events.getD i [])
def regionB(i:Nat):Bool:=Tb (m.regions.getD i ([],0)).1&&(if i=0 then m.ow 0 == -1 else m.stateB (m.ow i)&&(m.vx (m.ow i)).sub==[])
def liesB(x:VP):Bool:=if x.kind=10\/x.kind=11 then(x.region == -1)&&m.stateB x.of else(x.of == -1)&&decide (0<=x.region)&&decide (x.region<m.regions.length)
def vertexB(x:VP):Bool:=
 Tb x.name&&decide (1<=x.kind)&&decide (x.kind<=12)&&m.liesB x&&((x.entry==[]&&x.exit==[]&&decide (x.defers.length=0)&&x.sub==[])||x.kind==1)&&Tb x.sub &&
  decide (x.entry.length<=4096)&&decide (x.exit.length<=4096)&&evB m.events x.defers
def depth(v:Int):Nat:=(m.ups v).length
def deepB(i:Nat):Bool:=decide (m.depth i<=64)
def inV(v:Int):Bool:=decide (0<=v)&&decide (v<m.vertices.length)
def wayB(x:WP):Bool:=
 Tb x.name&&m.inV x.source&&m.inV x.target&&evB m.events x.triggers&&decide (0<=x.after)&&decide (x.after<=65535)&&(x.after==0||decide (x.triggers.length=0)) &&
  decide (1<=x.kind)&&decide (x.kind<=3)&&decide (x.guard.length<=4096)&&decide (x.effect.length<=4096)
def ruleF(k:Nat):Nat×Int×Int:=
 match k with
 |0=>if Rh m.name=2 then(0,0,0)else(1,0,130)
 |1=>Y8 2 64 m.varB m.vars.length
 |2=>Y8 3 64 m.signalB m.events.length
 |3=>if m.regions=[]then(4,0,130)else Y8 4 512 m.regionB m.regions.length
 |4=>Y8 5 512 (λi=>m.vertexB (m.vx i)) m.vertices.length
 |5=>Y8 5 512 m.deepB m.vertices.length
 |_=>Y8 6 512 (λi=>m.wayB (m.wy i)) m.ways.length
def rightP:Nat×Int×Int:=Ot (m.ruleF 0) (Ot (m.ruleF 1) (Ot (m.ruleF 2) (Ot (m.ruleF 3) (Ot (m.ruleF 4) (Ot (m.ruleF 5) (m.ruleF 6))))))
structure Rt5:Prop where
 rnz:m.regions≠[]
 rgn:∀ i,i<m.regions.length->m.regionB i=true
 vtx:∀ i,i<m.vertices.length->m.vertexB (m.vx i)=true
structure Rt:Prop extends Rt5 m where
 nm:Rh m.name=2
 var:∀ i,i<m.vars.length->m.varB i=true
 sig:∀ i,i<m.events.length->m.signalB i=true
 deep:∀ i,i<m.vertices.length->m.depth i<=64
 way:∀ i,i<m.ways.length->m.wayB (m.wy i)=true
 lv:m.vars.length<=64
 le:m.events.length<=64
 lr:m.regions.length<=512
 lx:m.vertices.length<=512
 lw:m.ways.length<=512
variable{m}
theorem rt_vt(a:(m.ruleF 3).1=0)(b:(m.ruleF 4).1=0):m.Rt5:=by
 have a:(if m.regions=[]then((4,0,130):Nat×Int×Int)else Y8 4 512 m.regionB m.regions.length).1=0:=a
 by_cases h:m.regions=[]
 grind
 rw[if_neg h]at a;exact⟨h,(Sw (by decide) a).2,(Sw (by decide) b).2⟩
theorem rt_of(h:(m.rightP).1=0):m.Rt:=by
 obtain⟨b,h⟩:=Ig h;obtain⟨o,h⟩:=Ig h;obtain⟨n,h⟩:=Ig h;obtain⟨a,h⟩:=Ig h;obtain⟨d,h⟩:=Ig h;obtain⟨l,k⟩:=Ig h;have c:=rt_vt a d;have g:=Sw (by decide) (show(Y8 2 64 m.varB m.vars.length).1=0 from o);have f:=Sw (by decide) (show(Y8 3 64 m.signalB m.events.length).1=0 from n);have a:(if m.regions=[]then((4,0,130):Nat×Int×Int)else Y8 4 512 m.regionB m.regions.length).1=0:=a;rw[if_neg c.rnz]at a;have r:=Sw (by decide) a;have q:=Sw (by decide) (show(Y8 5 512 (λi=>m.vertexB (m.vx i)) m.vertices.length).1=0 from d);have p:=Sw (by decide) (show(Y8 5 512 m.deepB m.vertices.length).1=0 from l);have e:=Sw (by decide) (show(Y8 6 512 (λi=>m.wayB (m.wy i)) m.ways.length).1=0 from k);have b:(if Rh m.name=2 then((0,0,0):Nat×Int×Int)else(1,0,130)).1=0:=b
 have b:Rh m.name=2:=by
  grind
 exact⟨c,b,g.2,f.2,λi j=>by simpa[deepB]using p.2 i j,e.2,g.1,f.1,r.1,q.1,e.1⟩
theorem Rx(k:Nat):(m.ruleF k).2.2=0↔(m.ruleF k).1=0:=by
 have s:∀ {a b:Nat} {p:Nat->Bool} {n:Nat},a≠0->((Y8 a b p n).2.2=0↔(Y8 a b p n).1=0):=by
  intro a b p n c;rw[Y8]
  grind
 match k with
 |0=>
  show(if Rh m.name=2 then((0,0,0):Nat×Int×Int)else(1,0,130)).2.2=0↔(if Rh m.name=2 then((0,0,0):Nat×Int×Int)else(1,0,130)).1=0
  split<;>simp
 |1=>exact s (by decide)
 |2=>exact s (by decide)
 |3=>
  show(if m.regions=[]then((4,0,130):Nat×Int×Int)else Y8 4 512 m.regionB m.regions.length).2.2=0↔(if m.regions=[]then((4,0,130):Nat×Int×Int)else Y8 4 512 m.regionB m.regions.length).1=0
  grind
 |4=>exact s (by decide)
 |5=>exact s (by decide)
 |k+6=>exact s (by decide)
theorem Ih{a b:Nat×Int×Int}(ha:a.2.2=0↔a.1=0)(c:b.2.2=0↔b.1=0):(Ot a b).2.2=0↔(Ot a b).1=0:=by
 rw[Ot];grind
theorem right_er:(m.rightP).2.2=0↔(m.rightP).1=0:=
 Ih (Rx 0) (Ih (Rx 1) (Ih (Rx 2) (Ih (Rx 3) (Ih (Rx 4) (Ih (Rx 5) (Rx 6))))))
theorem Rt5.vert(h:m.Rt5){v:Int}(b:0<=v)(a:v<m.vertices.length):m.vertexB (m.vx v)=true:=by
 have:=h.vtx v.toNat (by omega)
 grind
theorem Rt5.lies(h:m.Rt5){v:Int}(b:0<=v)(a:v<m.vertices.length):m.liesB (m.vx v)=true:=by
 have:=h.vert b a;simp only[vertexB,Bool.and_eq_true]at this
 grind
theorem Rt5.pt(h:m.Rt5){v:Int}(d:0<=v)(c:v<m.vertices.length):(0<=(m.vx v).of/\(m.vx v).of<m.vertices.length/\(m.vx v).region = -1/\m.stateB (m.vx v).of=true/\((m.vx v).kind=10\/(m.vx v).kind=11)) \/
  ((m.vx v).of = -1/\0<=(m.vx v).region/\(m.vx v).region<m.regions.length/\¬ ((m.vx v).kind=10\/(m.vx v).kind=11)):=by
 have:=h.lies d c;rw[liesB]at this
 split at this
 rename_i q
 left
 have b:m.stateB (m.vx v).of=true:=by grind
 have a:=b;simp only[stateB,Bool.and_eq_true,decide_eq_true_eq,beq_iff_eq]at a this
 grind
 grind
theorem Rt5.own(h:m.Rt5){r:Int}(c:0<=r)(b:r<m.regions.length):(r=0/\m.ow r = -1)\/(r≠0/\0<=m.ow r/\m.ow r<m.vertices.length):=by
 have:=h.rgn r.toNat (by omega);simp only[regionB,Bool.and_eq_true]at this;have a:=this.2
 split at a
 grind
 simp only[stateB,Bool.and_eq_true,decide_eq_true_eq]at a
 grind
theorem Rt5.rng(h:m.Rt5){v:Int}(e:0<=v)(d:v<m.vertices.length):m.around v = -1\/(0<=m.around v/\m.around v<m.vertices.length):=by
 rw[around]
 rcases h.pt e d with ⟨a,b,_⟩|⟨a,b,c,_⟩
 grind
 rw[if_neg (by omega)]
 rcases h.own b c with ⟨_,q⟩|⟨_,q⟩
 grind
 grind
theorem Rt.acy(h:m.Rt):m.Acy:=
 ⟨λv d c=>h.toRt5.rng d c,λv d c=>by
  have:=h.deep v.toNat (by omega)
  rwa [show((v.toNat:Nat):Int)=v by omega]at this,
 λv d c q=>by
  rcases h.toRt5.pt d c with ⟨_,_,a,_⟩|⟨a,_⟩
  exact a
  omega,
 λv d c q=>by
  rcases h.toRt5.pt d c with ⟨a,_⟩|⟨_,a,b,_⟩
  omega
  grind⟩
end PM
end
section
def Qm(s:List UInt8):Bool:=(Yu s).2.2==0&&(Yu s).1.length==1&&(X6 (Yu s).1 0==elsW)
namespace PM
variable(m:PM)(bd:List (List UInt8)->List (List UInt8)->List UInt8->Bool)(gd:List (List UInt8)->List UInt8->Int)
def inc(v:Int):List Int:=(m.ways.filter λt=>t.target==v).map (·.source)
def out(v:Int):List Int:=(m.ways.filter λt=>t.source==v).map (·.target)
def vn:List (List UInt8):=m.vars.map (·.1)
def kd(v:Int):Int:=(m.vx v).kind
def body(s:List UInt8):Bool:=bd m.vn m.events s
def k1(r:Int):Bool:=(m.vertices.filter λx=>x.kind==3&&x.region==r).length==1
def k2(v:Int):Bool := !(m.kd v==3)||((m.out v).length==1&&m.withinB ((m.out v).headD 0) (m.vx v).region&&(m.inc v).length==0)
def k3(v:Int):Bool := !(m.kd v==2||m.kd v==12)||(m.out v).length==0
def k4(v:Int):Bool := !(m.kd v==6)||((m.inc v).length==1&&decide (1<(m.out v).length)&&m.partU (m.out v))
def k5(v:Int):Bool := !(m.kd v==7)||((m.out v).length==1&&decide (1<(m.inc v).length)&&((m.inc v).all λu=>m.kd u==1)&&m.partU (m.inc v))
def elses(v:Int):Nat:=(m.ways.filter λt=>t.source==v&&Qm t.guard).length
def k6(v:Int):Bool := !(m.kd v==4||m.kd v==5)||(decide (0<(m.inc v).length)&&decide (0<(m.out v).length)&&decide (m.elses v<=1))
def twins(v:Int):Nat:=(m.vertices.filter λy=>y.kind==m.kd v&&y.region==(m.vx v).region).length
def k7(v:Int):Bool := !(m.kd v==8||m.kd v==9) ||
 (!((m.vx v).region==0)&&m.twins v==1&&decide ((m.out v).length<=1)&&((m.out v).length==0||m.withinB ((m.out v).headD 0) (m.vx v).region))
def k8(v:Int):Bool:=if m.kd v=11 then(m.out v).length==1 && !m.inB ((m.out v).headD 0) (m.vx v).of
 else if m.kd v=10 then Pn [] ((m.out v).map (m.regU · (m.vx v).of))&&decide (0<(m.out v).length)else true
def k9(t:Int):Bool:=((m.wy t).triggers.length==0&&(m.wy t).after==0)||m.kd (m.wy t).source==1
def k10(t:Int):Bool:=((m.kd (m.wy t).source==4||m.kd (m.wy t).source==5)&&Qm (m.wy t).guard) ||
 (gd (m.vn++[Qb]) (m.wy t).guard==0&&((Yu (m.wy t).guard).1.length==0||m.kd (m.wy t).source==1||m.kd (m.wy t).source==4||m.kd (m.wy t).source==5))
def k11(t:Int):Bool:=if(m.wy t).kind=3 then(m.wy t).source==(m.wy t).target&&m.kd (m.wy t).source==1
 else if(m.wy t).kind=2 then m.kd (m.wy t).source==1&&m.inB (m.wy t).target (m.wy t).source else true
def k12(t:Int):Bool:=m.body bd (m.wy t).effect
def k13(v:Int):Bool := !(m.kd v==1)||(m.body bd (m.vx v).entry&&m.body bd (m.vx v).exit)
def k14(t:Int):Bool := !m.partU [(m.wy t).source,(m.wy t).target]
def k15(t:Int):Bool:=if m.kd (m.wy t).target=10 then !((m.wy t).source==(m.vx (m.wy t).target).of) && !m.inB (m.wy t).source (m.vx (m.wy t).target).of
 else if m.kd (m.wy t).target=11 then m.inB (m.wy t).source (m.vx (m.wy t).target).of && !((m.vx (m.wy t).source).of==(m.vx (m.wy t).target).of)else true
def keep(rule:Nat)(at_:Int):Bool:=
 match rule with
 |1=>m.k1 at_
 |2=>m.k2 at_
 |3=>m.k3 at_
 |4=>m.k4 at_
 |5=>m.k5 at_
 |6=>m.k6 at_
 |7=>m.k7 at_
 |8=>m.k8 at_
 |9=>m.k9 at_
 |10=>m.k10 gd at_
 |11=>m.k11 at_
 |12=>m.k12 bd at_
 |13=>m.k13 bd at_
 |14=>m.k14 at_
 |15=>m.k15 at_
 |_=>false
def places(rule:Nat):Nat:=if rule=1 then m.regions.length else if rule<=8\/rule=13 then m.vertices.length else m.ways.length
def badAt(rule n:Nat):List (Nat×Int):=((List.range n).filter fun(a:Nat) => !m.keep bd gd rule (a:Int)).map fun(a:Nat)=>(rule,(a:Int))
def badL(k:Nat):List (Nat×Int):=(List.range k).flatMap λr=>m.badAt bd gd (r+1) (m.places (r+1))
def checkW:List (Nat×Int)×Int:=if(m.rightP).2.2≠0 then([],(m.rightP).2.2)else(m.badL bd gd 15,0)
variable{m bd gd}
theorem badAt_succ(rule n:Nat):m.badAt bd gd rule (n+1)=m.badAt bd gd rule n++(if m.keep bd gd rule (n:Int)=true then[]else[(rule,(n:Int))]):=by
 rw[badAt,List.range_succ,List.filter_append,List.map_append]
 by_cases h:m.keep bd gd rule (n:Int)=true
 rw[if_pos h,List.filter_cons_of_neg (by grind)];rfl;rw[if_neg h,List.filter_cons_of_pos (by grind)];rfl
theorem badL_succ(k:Nat):m.badL bd gd (k+1)=m.badL bd gd k++m.badAt bd gd (k+1) (m.places (k+1)):=by
 rw[badL,List.range_succ,List.flatMap_append,badL,List.flatMap_singleton]
theorem badAt_len(rule n:Nat):(m.badAt bd gd rule n).length<=n:=by
 rw[badAt,List.length_map]
 grind
end PM
end
section
namespace PM
variable{m:PM}
def wysI(m:PM)(v:Int)(to:Bool)(n:Nat):List Int:=((List.range n).filter fun(i:Nat)=>(to&&(m.wy (i:Int)).target==v)||(!to&&(m.wy (i:Int)).source==v)).map fun(i:Nat)=>(i:Int)
theorem Bf(v:Int)(to:Bool)(n:Nat):m.wysI v to (n+1)=m.wysI v to n++(if((to&&(m.wy (n:Int)).target==v)||(!to&&(m.wy (n:Int)).source==v))=true then[(n:Int)]else[]):=by
 rw[wysI,List.range_succ,List.filter_append,List.map_append]
 split
 rename_i h;rw[List.filter_cons,if_pos h];rfl;rename_i h;rw[List.filter_cons,if_neg h];rfl
theorem wysI_len(v:Int)(to:Bool)(n:Nat):(m.wysI v to n).length<=n:=by
 rw[wysI,List.length_map]
 grind
theorem Qy{v:Int}{to:Bool}{n:Nat}{i:Int}(h:i∈m.wysI v to n):0<=i/\i<n:=by
 obtain⟨k,a,rfl⟩:=List.mem_map.1 h
 grind
theorem Lm{α β : Type}(d : α)(p : α -> Bool)(f : α -> β):∀ l:List α,((List.range l.length).filter λi=>p (l.getD i d)).map (λi=>f (l.getD i d))=(l.filter p).map f
 |[]=>rfl
 |x::t=>by
  rw[List.length_cons,List.range_succ_eq_map,List.filter_cons,List.filter_map];have a:=Lm d p f t
  have e:(λi=>p ((x::t).getD i d))∘Nat.succ=λi=>p (t.getD i d):=by rfl
  by_cases h:p x=true
  rw[if_pos (show p ((x::t).getD 0 d)=true from h),List.filter_cons_of_pos h,List.map_cons,List.map_map]
  congr 1
  rw[if_neg (show ¬ p ((x::t).getD 0 d)=true from h),List.filter_cons_of_neg h,List.map_map];exact a
theorem Zls(v:Int):(m.wysI v true m.ways.length).map (λi=>(m.wy i).source)=m.inc v:=by
 rw[wysI,List.map_map,inc,<- Lm wy0 (λt=>t.target==v) (·.source) m.ways];simp only[Bool.not_true,Bool.false_and,Bool.or_false];rfl
theorem Zz3(v:Int):(m.wysI v false m.ways.length).map (λi=>(m.wy i).target)=m.out v:=by
 rw[wysI,List.map_map,out,<- Lm wy0 (λt=>t.source==v) (·.target) m.ways];rfl
end PM
end
section
namespace PM
variable{m:PM}{bd:List (List UInt8)->List (List UInt8)->List UInt8->Bool}{gd:List (List UInt8)->List UInt8->Int}
theorem H7(rule a:Nat):∀ n,a<n->∃ t,m.badAt bd gd rule n=m.badAt bd gd rule a++(if m.keep bd gd rule (a:Int)=true then[]else[(rule,(a:Int))])++t/\∀ x∈t,x.1=rule/\(a:Int)<x.2
 |0,h=>absurd h (Nat.not_lt_zero _)
 |n+1,h=>by
  rcases Nat.lt_or_ge a n with q|q
  obtain⟨t,e,c⟩:=H7 rule a n q;rw[badAt_succ,e]
  grind
  obtain rfl:a=n:=by omega
  exact⟨[],by rw[badAt_succ,List.append_nil],λx b=>by grind⟩
theorem D4(r:Nat):∀ k,r<=k->∃ t,m.badL bd gd k=m.badL bd gd r++t/\∀ x∈t,r<x.1
 |0,h=>by
  simp_all
 |k+1,h=>by
  rcases Nat.lt_or_ge r (k+1)with q|q
  obtain⟨t,e,b⟩:=D4 r k (by omega);rw[badL_succ,e];refine⟨_,List.append_assoc _ _ _,λx a=>?_⟩
  rcases List.mem_append.1 a with a|a
  grind
  obtain⟨i,_,rfl⟩:=List.mem_map.1 a;exact q
  obtain rfl:r=k+1:=by omega
  simp_all
def ahead(m:PM)(bd:List (List UInt8)->List (List UInt8)->List UInt8->Bool)(gd:List (List UInt8)->List UInt8->Int)(rule a:Nat):Nat:=(m.badL bd gd (rule-1)).length+(m.badAt bd gd rule a).length
theorem Z83{rule a:Nat}(i:1<=rule)(b:rule<=15)(ha:a<m.places rule):
  (m.keep bd gd rule (a:Int)=false/\(m.badL bd gd 15)[m.ahead bd gd rule a]?=some (rule,(a:Int)))\/(m.keep bd gd rule (a:Int)=true/\(m.badL bd gd 15)[m.ahead bd gd rule a]?≠some (rule,(a:Int))):=by
 obtain⟨r,rfl⟩:∃ r,rule=r+1:=⟨rule-1,by omega⟩;obtain⟨t,e,d⟩:=D4 (m:=m) (bd:=bd) (gd:=gd) (r+1) 15 b;obtain⟨u,f,c⟩:=H7 (m:=m) (bd:=bd) (gd:=gd) (r+1) a _ ha;rw[badL_succ r,f]at e;rw[e,ahead,Nat.add_sub_cancel]
 cases g:m.keep bd gd (r+1) (a:Int)with
 |false=>
  grind
 |true=>
  refine .inr ⟨rfl,λh=>?_⟩;rw[if_pos rfl,List.append_nil,List.append_assoc,List.append_assoc,List.getElem?_append_right (Nat.le_add_right _ _),List.getElem?_append_right (by omega)]at h;have:=List.mem_of_getElem? h
  grind
end PM
end
section
structure StP where
 sources:List Int
 first:Int
 guards:List Int
 effects:List Int
 ends:List (Int×List Int)
namespace PM
variable(m:PM)
def outI(v:Int):List Int:=m.wysI v false m.ways.length
def intoI(v:Int):List Int:=m.wysI v true m.ways.length
def tg(t:Int):Int:=(m.wy t).target
def sc(t:Int):Int:=(m.wy t).source
def oneP(v:Int):Bool:=(m.kd v==5||m.kd v==11)||(m.kd v==10&&(m.outI v).length==1)
def allP(v:Int):Bool:=m.kd v==6||(m.kd v==10&&decide (1<(m.outI v).length))
def walkF:Nat->Int->List Int->List (List Int×Int)
 |0,v,path=>[(path,v)]
 |f+1,v,path=>if m.oneP v=true then(m.outI v).flatMap λt=>if path.contains t=true then[(path++[t],-1)]else walkF f (m.tg t) (path++[t])else[(path,v)]
def walkL(v:Int)(path:List Int):List (List Int×Int):=m.walkF (m.ways.length+1-path.length) v path
def waysL(t:Int):List (List Int×Int):=m.walkL (m.tg t) [t]
def forkF:List Int->List (Int×List Int)->List (List (Int×List Int))
 |[],ends=>[ends]
 |o::r,ends=>(m.waysL o).flatMap λw=>forkF r (ends++[(w.2,w.1)])
def strW(sources:List Int)(first:Int)(into:List Int)(w:List Int×Int):List StP:=
 if w.2 ≠ -1/\m.allP w.2=true then(m.forkF (m.outI w.2) []).map λends=>⟨sources,first,w.1++ends.flatMap (·.2),into++w.1,ends⟩
 else[⟨sources,first,w.1,into++w.1,[(w.2,[])]⟩]
def strL(sources into:List Int)(by_:Int):List StP:=(m.waysL by_).flatMap (m.strW sources (into.headD by_) into)
def beginL(t:Int):List StP:=
 if m.kd (m.tg t)=7 then(if(m.intoI (m.tg t)).headD (-1)=t then m.strL ((m.intoI (m.tg t)).map m.sc) (m.intoI (m.tg t)) ((m.outI (m.tg t)).headD 0)else[])
 else if m.kd (m.sc t)=1\/m.kd (m.sc t)=3\/m.kd (m.sc t)=4\/m.kd (m.sc t)=8\/m.kd (m.sc t)=9 then m.strL [m.sc t] [] t else[]
def allL:List StP:=(List.range m.ways.length).flatMap fun(t:Nat)=>m.beginL t
end PM
end
section
structure WayP where
 path:List Int
 at_:Int
 twice:Bool
namespace PM
variable(m:PM)
def wcl(w:WayP):List Int×Int:=(w.path,if w.twice then -1 else w.at_)
def exF:Nat->Int->List Int->List WayP
 |0,v,path=>[⟨path,v,false⟩]
 |f+1,v,path=>if m.oneP v=true then(m.outI v).flatMap λt=>if path.contains t=true then[⟨path++[t],m.tg t,true⟩]else exF f (m.tg t) (path++[t])else[⟨path,v,false⟩]
def exW(w:WayP):List WayP:=if w.twice=true then[w]else m.exF (m.ways.length+1-w.path.length) w.at_ w.path
def doneW(w:WayP):Bool:=w.twice || !m.oneP w.at_
def cntF:Nat->Int->List Int->Nat
 |0,_,_=>1
 |f+1,v,path=>if m.oneP v=true then 1+((m.outI v).map λt=>if path.contains t=true then 1 else cntF f (m.tg t) (path++[t])).sum else 1
def cntW(w:WayP):Nat:=if w.twice=true then 1 else m.cntF (m.ways.length+1-w.path.length) w.at_ w.path
structure WayOk(w:WayP):Prop where
 rng:∀ t∈w.path,0<=t/\t<m.ways.length
 at_:0<=w.at_/\w.at_<m.vertices.length
 nd:w.twice=false->w.path.Nodup
 le:w.path.length<=m.ways.length+1
variable{m}
theorem Zzt:∀ (f:Nat) (v:Int) (path:List Int),(m.exF f v path).map wcl=m.walkF f v path
 |0,v,path=>rfl
 |f+1,v,path=>by
  rw[exF,walkF]
  split
  rw[List.map_flatMap]
  congr 1
  funext t
  split
  rfl;exact Zzt f _ _;rfl
theorem Zxt{n:Nat}:∀ {l:List Nat},l.Nodup->l.length<=(l.filter (· != n)).length+1
 |[],_=>Nat.zero_le _
 |a::t,h=>by
  rw[List.nodup_cons]at h
  by_cases e:a=n
  subst e
  have:t.filter (· != a)=t:=List.filter_eq_self.2 λx b=>by
   grind
  grind
  have:=Zxt (n:=n) h.2
  grind
theorem Zlg:∀ (n:Nat) (l:List Nat),l.Nodup->(∀ x∈l,x<n)->l.length<=n
 |0,l,_,h=>by
  cases l with
  |nil=>grind
  |cons a t=>exact absurd (h a (by simp)) (Nat.not_lt_zero _)
 |n+1,l,hd,h=>by
  have c:=Zlg n (l.filter (· != n)) (hd.filter _) λx b=>by
   grind
  have:=Zxt (n:=n) hd;omega
theorem nodup_len{n:Nat}{l:List Int}(h:l.Nodup)(g:∀ t∈l,0<=t/\t<n):l.length<=n:=by
 have d:(l.map Int.toNat).Nodup:=by
  rw[List.nodup_iff_pairwise_ne]at h⊢;rw[List.pairwise_map];refine h.imp_of_mem fun{a b} j i c e=>c ?_
  grind
 have:=Zlg n _ d λx f=>by
  grind
 grind
theorem WayOk.len{w:WayP}(h:m.WayOk w)(a:w.twice=false):w.path.length<=m.ways.length:=nodup_len (h.nd a) h.rng
theorem Zj2{w:WayP}(hd:m.doneW w=true):m.exW w=[w]:=by
 obtain⟨p,a,b⟩:=w
 cases b with
 |true=>rfl
 |false=>
  have c:m.oneP a=false:=by
   cases q:m.oneP a with
   |false=>rfl
   |true=>have:(false || !m.oneP a)=true:=hd;grind
  show m.exF (m.ways.length+1-p.length) a p=_
  cases m.ways.length+1-p.length with
  |zero=>rfl
  |succ f=>rw[exF,if_neg (by grind)]
theorem Zp2(w:WayP):1<=m.cntW w:=by
 rw[cntW]
 split
 grind
 .cases m.ways.length+1-w.path.length with
  |zero=>exact Nat.le_refl _
  |succ f=>rw[cntF];grind
structure WInv(m:PM)(full l:List WayP)(i:Nat):Prop where
 all:l.flatMap m.exW=full
 ok:∀ w∈l,m.WayOk w
 dn:∀ w∈l.take i,m.doneW w=true
 le:i<=l.length
def WInv.cnt(m:PM)(l:List WayP)(i:Nat):Nat:=((l.drop i).map m.cntW).sum
theorem WInv.fin{a l:List WayP}(h:WInv m a l l.length):l=a:=by
 have b:=h.dn;rw[List.take_length]at b;rw[<- h.all];clear h
 induction l with
 |nil=>rfl
 |cons w t ih=>rw[List.flatMap_cons,Zj2 (b w (by simp)),<- ih λu c=>b u (by grind)];rfl
theorem Z35{α : Type}{l:List α}{i:Nat}{w : α}(h:l[i]?=some w):l.drop i=w::l.drop (i+1):=by
 obtain⟨a,rfl⟩:=List.getElem?_eq_some_iff.1 h;simp_all
theorem Zvs{α : Type}{l:List α}{i:Nat}{w : α}(h:l[i]?=some w):l.take (i+1)=l.take i++[w]:=by
 obtain⟨a,rfl⟩:=List.getElem?_eq_some_iff.1 h;simp_all
theorem WInv.next{a l:List WayP}{i:Nat}{w:WayP}(h:WInv m a l i)(c:l[i]?=some w)(hd:m.doneW w=true):WInv m a l (i+1)/\WInv.cnt m l (i+1)<WInv.cnt m l i:=by
 refine⟨⟨h.all,h.ok,λu b=>?_,(List.getElem?_eq_some_iff.1 c).1⟩,?_⟩;rw[Zvs c]at b
 rcases List.mem_append.1 b with b|b
 exact h.dn u b
 grind
 unfold cnt;rw[Z35 c,List.map_cons,List.sum_cons];have:=Zp2 (m:=m) w;omega
def OutsOk(m:PM):Prop:=∀ v:Int,0<=v->v<m.vertices.length->m.oneP v=true->m.outI v≠[]
theorem Zcp(c:∀ t:Int,0<=t->t<m.ways.length->0<=m.tg t/\m.tg t<m.vertices.length)(d:m.OutsOk):∀ (f:Nat) (v:Int) (path:List Int),0<=v->v<m.vertices.length->m.exF f v path≠[]
 |0,_,_,_,_=>by rw[exF];simp
 |f+1,v,path,h0,h1=>by
  rw[exF]
  split
  .rename_i q
   have g:=d v h0 h1 q
   cases e:m.outI v with
   |nil=>grind
   |cons t r=>
    have a:=Qy (m:=m) (v:=v) (to:=false) (n:=m.ways.length) (i:=t) (by show t∈m.outI v;rw[e];simp);have b:=c t a.1 a.2;rw[List.flatMap_cons];intro h;have:=(List.append_eq_nil_iff.1 h).1
    split at this
    grind
    exact Zcp c d f _ _ b.1 b.2 this
  simp
theorem WInv.len{a l:List WayP}{i:Nat}(c:∀ t:Int,0<=t->t<m.ways.length->0<=m.tg t/\m.tg t<m.vertices.length)(d:m.OutsOk)(h:WInv m a l i):l.length<=a.length:=by
 have b:=h.ok;rw[<- h.all];clear h
 induction l with
 |nil=>grind
 |cons w t ih=>
  rw[List.flatMap_cons,List.length_append,List.length_cons];have g:=ih λu f=>b u (by grind)
  have e:m.exW w≠[]:=by
   rw[exW]
   split
   simp;have:=(b w (by simp)).at_;exact Zcp c d _ _ _ this.1 this.2
  have:=List.length_pos_iff.2 e;omega
end PM
end
section
namespace PM
variable{m:PM}
theorem Acy.ups_tr(a:m.Acy){u s w:Int}(h:m.around u=s)(i:0<=s)(w0:0<=w)(b:w<m.vertices.length)(e:u∈w::m.ups w):s∈m.ups w:=by
 refine a.ind (P:=λw=>u∈w::m.ups w->s∈m.ups w) ?_ ?_ w0 b e;intro w _ _ q c;rw[Acy.ups_nil q]at c
 grind
 intro w w0 b d f g c;rw[a.ups_cons w0 b d]at c⊢
 grind
theorem Acy.chain(a:m.Acy){v:Int}(d:0<=v)(c:v<m.vertices.length){u:Int}(b:u∈v::m.ups v):0<=u/\u<m.vertices.length:=by
 rcases List.mem_cons.1 b with rfl|b
 grind
 have:=a.ups_rng d c u b;grind
theorem Acy.ups_sub(a:m.Acy){v s u:Int}(h:0<=v)(g:v<m.vertices.length)(b:s∈v::m.ups v)(c:u∈s::m.ups s):u∈v::m.ups v:=by
 rcases List.mem_cons.1 c with rfl|c
 grind
 refine a.ind (P:=λv=>s∈v::m.ups v->u∈v::m.ups v) ?_ ?_ h g b;intro v _ _ q b;rw[Acy.ups_nil q]at b
 grind
 intro v e d f i j b
 rcases List.mem_cons.1 b with rfl|b
 grind
 rw[a.ups_cons e d f]at b⊢
 grind
theorem Acy.regU_in(a:m.Acy){v s:Int}(h:0<=m.regU v s):∃ u∈v::m.ups v,m.around u=s/\m.regU v s=(m.vx u).region:=by
 unfold regU at h⊢
 grind
theorem Acy.regU_mem(a:m.Acy){v s:Int}(f:0<=v)(e:v<m.vertices.length)(c:0<=s)(h:0<=m.regU v s):s∈m.ups v:=by
 obtain⟨u,b,d,_⟩:=a.regU_in h;exact a.ups_tr d c f e b
theorem Acy.mem_around(a:m.Acy){v s:Int}(f:0<=v)(e:v<m.vertices.length)(h:s∈m.ups v):∃ u∈v::m.ups v,m.around u=s:=by
 refine a.ind (P:=λv=>s∈m.ups v->∃ u∈v::m.ups v,m.around u=s) ?_ ?_ f e h;intro v _ _ q h;rw[Acy.ups_nil q]at h;cases h;intro v c b d g i h;rw[a.ups_cons c b d]at h⊢
 grind
theorem Acy.regU_far(a:m.Acy){v s t:Int}(f:0<=v)(d:v<m.vertices.length)(i:s∈v::m.ups v)(h:t∈m.ups s):m.regU v t=m.regU s t:=by
 have b:=a.chain f d i;obtain⟨u,g,e⟩:=a.mem_around b.1 b.2 h;have c:=(a.ups_rng b.1 b.2 t h).1;rw[a.regU_of b.1 b.2 c g e,a.regU_of f d c (a.ups_sub f d i g) e]
def bothB(m:PM)(a b s:Int):Bool:=decide (0<=m.regU a s)&&decide (0<=m.regU b s)
def orthoB(m:PM)(a b:Int):Bool:=(m.ups a).any λs=>m.bothB a b s&&(m.regU a s != m.regU b s)
def orthoF(m:PM)(a b:Int):List Int->Bool
 |[]=>false
 |s::r=>if m.bothB a b s=true then m.regU a s != m.regU b s else orthoF m a b r
theorem Acy.ortho_first(k:m.Acy){a b:Int}(j:0<=a)(i:a<m.vertices.length)(b0:0<=b)(n:b<m.vertices.length):m.orthoF a b (m.ups a)=m.orthoB a b:=by
 have h:∀ s,s∈a::m.ups a->s∈b::m.ups b->(m.ups s).any (λs=>m.bothB a b s&&(m.regU a s != m.regU b s))=false:=by
  intro s u r;rw[List.any_eq_false];intro t l;rw[k.regU_far j i u l,k.regU_far b0 n r l];simp
 have g:∀ v:Int,0<=v->v<m.vertices.length->v∈a::m.ups a->m.orthoF a b (m.ups v)=(m.ups v).any λs=>m.bothB a b s&&(m.regU a s != m.regU b s):=by
  intro v e d;refine k.ind (P:=λv=>v∈a::m.ups a->m.orthoF a b (m.ups v)=(m.ups v).any λs=>m.bothB a b s&&(m.regU a s != m.regU b s)) ?_ ?_ e d;intro v _ _ q _;rw[Acy.ups_nil q];rfl;intro v e d f x y o;have p:m.around v∈a::m.ups a:=List.mem_cons_of_mem _ (k.ups_tr rfl f j i o);rw[k.ups_cons e d f,orthoF,List.any_cons]
  by_cases c:m.bothB a b (m.around v)=true
  rw[if_pos c,c,Bool.true_and]
  have w:0<=m.regU b (m.around v):=by
   unfold bothB at c;grind
  rw[h _ p (List.mem_cons_of_mem _ (k.regU_mem b0 n f w)),Bool.or_false]
  grind
 exact g a j i (List.mem_cons_self ..)
end PM
end
section
def StP.lost(s:StP):Bool:=s.ends.any λe=>e.1 == -1
namespace PM
variable(m:PM)
variable{m}
end PM
end
section
def StP.at_(s:StP):List Int:=if s.lost=true then[]else s.ends.map (·.1)
def Sr(q es:List Int):List Int:=es.foldl (λq e=>if q.contains e=true then q else q++[e]) q
namespace PM
variable(m:PM)
def nextQ(L:List StP)(q:List Int)(v:Int):List Int:=if m.kd v=4 then(L.filter λs=>s.sources.contains v).foldl (λq s=>Sr q s.at_) q else q
def bfsF(L:List StP):Nat->List Int->Nat->List Int
 |0,q,_=>q
 |f+1,q,i=>match q[i]? with
  |none=>q
  |some v=>bfsF L f (m.nextQ L q v) (i+1)
def reachQ(L:List StP)(s:StP):List Int:=m.bfsF L (m.vertices.length+1) (Sr [] s.at_) 0
def reachL(L:List StP)(s:StP):List Int:=((List.range m.vertices.length).filter fun(v:Nat)=>(m.reachQ L s).contains (v:Int)).map fun(v:Nat)=>(v:Int)
end PM
theorem Zfi(q:List Int):Sr q []=q:=rfl
theorem Pr(q:List Int)(e:Int)(a:List Int):Sr q (e::a)=Sr (if q.contains e=true then q else q++[e]) a:=rfl
theorem Zf3(q a b:List Int):Sr q (a++b)=Sr (Sr q a) b:=List.foldl_append
theorem D9:∀ (es q:List Int),∃ t,Sr q es=q++t
 |[],q=>⟨[],(List.append_nil q).symm⟩
 |e::es,q=>by
  obtain⟨t,a⟩:=D9 es (if q.contains e=true then q else q++[e]);rw[Pr,a]
  grind
theorem Ca:∀ (es q:List Int) (v:Int),v∈Sr q es↔v∈q\/v∈es
 |[],q,v=>by simp[Zfi]
 |e::es,q,v=>by
  rw[Pr,Ca es,List.mem_cons]
  grind
theorem Zmb:∀ (es q:List Int),q.Nodup->(Sr q es).Nodup
 |[],q,h=>h
 |e::es,q,h=>by
  rw[Pr];refine Zmb es _ ?_
  grind
namespace PM
variable{m:PM}
theorem Z8g:∀ (L:List StP) (q:List Int),∃ t,L.foldl (λq s=>Sr q s.at_) q=q++t
 |[],q=>⟨[],(List.append_nil q).symm⟩
 |s::L,q=>by
  obtain⟨t,b⟩:=D9 s.at_ q;obtain⟨u,a⟩:=Z8g L (Sr q s.at_)
  grind
theorem Z9g:∀ (L:List StP) (q:List Int) (v:Int),v∈L.foldl (λq s=>Sr q s.at_) q↔v∈q\/∃ s∈L,v∈s.at_
 |[],q,v=>by simp
 |s::L,q,v=>by
  rw[List.foldl_cons,Z9g L,Ca]
  grind
theorem Zvt:∀ (L:List StP) (q:List Int),q.Nodup->(L.foldl (λq s=>Sr q s.at_) q).Nodup
 |[],q,h=>h
 |s::L,q,h=>Zvt L _ (Zmb _ _ h)
theorem Ztv(L:List StP)(q:List Int)(v:Int):∃ t,m.nextQ L q v=q++t:=by
 rw[nextQ]
 split
 exact Z8g _ _;simp_all
theorem Pc{L:List StP}{q:List Int}{v u:Int}:u∈m.nextQ L q v↔u∈q\/(m.kd v=4/\∃ s∈L,v∈s.sources/\u∈s.at_):=by
 rw[nextQ]
 split
 rename_i h;rw[Z9g]
 grind
 grind
theorem Zg1{L:List StP}{q:List Int}(v:Int)(h:q.Nodup):(m.nextQ L q v).Nodup:=by
 rw[nextQ]
 split
 exact Zvt _ _ h;exact h
def Closed(m:PM)(L:List StP)(S:Int->Prop):Prop:=∀ s∈L,∀ v∈s.sources,S v->m.kd v=4->∀ u∈s.at_,S u
def AtOk(m:PM)(s:StP):Prop:=∀ v∈s.at_,0<=v/\v<m.vertices.length
structure QInv(m:PM)(L:List StP)(s:StP)(q:List Int)(i:Nat):Prop where
 nd:q.Nodup
 rng:∀ v∈q,0<=v/\v<m.vertices.length
 st:∀ v∈s.at_,v∈q
 cl:∀ x∈L,∀ v∈x.sources,v∈q.take i->m.kd v=4->∀ u∈x.at_,u∈q
 low:∀ S:Int->Prop,(∀ v∈s.at_,S v)->m.Closed L S->∀ v∈q,S v
 le:i<=q.length
theorem QInv.zero{L:List StP}{s:StP}(b:m.AtOk s):QInv m L s (Sr [] s.at_) 0:=by
 have e:∀ v,v∈Sr [] s.at_↔v∈s.at_:=λv=>by rw[Ca];simp
 refine⟨Zmb _ _ (List.nodup_nil),λv a=>b v ((e v).1 a),λv a=>(e v).2 a,λx _ v _ a=>?_,λS c _ v a=>c v ((e v).1 a),Nat.zero_le _⟩;cases a
theorem QInv.next{L:List StP}{s:StP}{q:List Int}{i:Nat}{v:Int}(o:∀ x∈L,m.AtOk x)(h:QInv m L s q i)(f:q[i]?=some v):QInv m L s (m.nextQ L q v) (i+1):=by
 obtain⟨t,l⟩:=Ztv (m:=m) L q v;have n:=(List.getElem?_eq_some_iff.1 f).1;refine⟨Zg1 v h.nd,λu a=>?_,λu a=>Pc.2 (.inl (h.st u a)),λx b u a c d w j=>?_,λS k g u a=>?_,by grind⟩
 rcases Pc.1 a with q|⟨_,x,b,_,q⟩
 exact h.rng u q;exact o x b u q;rw[l,List.take_append_of_le_length (by omega),Zvs f,List.mem_append,List.mem_singleton]at c
 rcases c with c|rfl
 exact Pc.2 (.inl (h.cl x b u a c d w j));exact Pc.2 (.inr ⟨d,x,b,a,j⟩)
 rcases Pc.1 a with q|⟨d,x,b,e,q⟩
 exact h.low S k g u q;exact g x b v e (h.low S k g v (List.mem_of_getElem? f)) d u q
theorem QInv.len{L:List StP}{s:StP}{q:List Int}{i:Nat}(h:QInv m L s q i):q.length<=m.vertices.length:=nodup_len h.nd h.rng
structure QEnd(m:PM)(L:List StP)(s:StP)(q:List Int):Prop where
 nd:q.Nodup
 rng:∀ v∈q,0<=v/\v<m.vertices.length
 st:∀ v∈s.at_,v∈q
 cl:m.Closed L (· ∈ q)
 low:∀ S:Int->Prop,(∀ v∈s.at_,S v)->m.Closed L S->∀ v∈q,S v
theorem QInv.fin{L:List StP}{s:StP}{q:List Int}(h:QInv m L s q q.length):QEnd m L s q:=
 ⟨h.nd,h.rng,h.st,λx a v b e d u c=>h.cl x a v b (by grind) d u c,h.low⟩
theorem Z0h{L:List StP}{s:StP}(a:∀ x∈L,m.AtOk x):∀ (f:Nat) (q:List Int) (i:Nat),QInv m L s q i->m.vertices.length<f+i->QEnd m L s (m.bfsF L f q i)
 |0,q,i,h,hf=>by
  have:=h.len;have:=h.le;omega
 |f+1,q,i,h,hf=>by
  rw[bfsF]
  cases b:q[i]? with
  |none=>
   have:=h.le
   have c:i=q.length:=by
    grind
   subst c;exact h.fin
  |some v=>exact Z0h a f _ _ (h.next a b) (by omega)
theorem Zsn{L:List StP}{s:StP}(b:∀ x∈L,m.AtOk x)(a:m.AtOk s):QEnd m L s (m.reachQ L s):=Z0h b _ _ _ (.zero a) (by omega)
theorem QEnd.same{L:List StP}{s:StP}{q p:List Int}(h:QEnd m L s q)(k:QEnd m L s p)(v:Int):v∈q↔v∈p:=
 ⟨h.low _ k.st k.cl v,k.low _ h.st h.cl v⟩
theorem Z5u{L:List StP}{s:StP}{q:List Int}(b:∀ x∈L,m.AtOk x)(a:m.AtOk s)(h:QEnd m L s q):m.reachL L s=((List.range m.vertices.length).filter fun(v:Nat)=>q.contains (v:Int)).map fun(v:Nat)=>(v:Int):=by
 rw[reachL]
 congr 1
 refine List.filter_congr λv _=>?_;rw[List.contains_eq_mem,List.contains_eq_mem];exact decide_eq_decide.2 ((Zsn b a).same h v)
end PM
end
section
namespace PM
variable{m:PM}{bd:List (List UInt8)->List (List UInt8)->List UInt8->Bool}{gd:List (List UInt8)->List UInt8->Int}
theorem Zf5(h:m.badL bd gd 15=[]){rule:Nat}(c:1<=rule)(b:rule<=15){a:Nat}(ha:a<m.places rule):m.keep bd gd rule (a:Int)=true:=by
 rcases Z83 (m:=m) (bd:=bd) (gd:=gd) c b ha with ⟨_,q⟩|⟨q,_⟩
 grind
 exact q
theorem Jb(h:m.badL bd gd 15=[]){rule:Nat}(c:1<=rule)(b:rule<=15){a:Int}(d:0<=a)(ha:a<m.places rule):m.keep bd gd rule a=true:=by
 obtain⟨n,rfl⟩:∃ n:Nat,a=(n:Int):=⟨a.toNat,by omega⟩;exact Zf5 h c b (by omega)
structure Wfd(m:PM):Prop where
 acy:m.Acy
 tg:∀ t:Int,0<=t->t<m.ways.length->0<=m.tg t/\m.tg t<m.vertices.length
 sc:∀ t:Int,0<=t->t<m.ways.length->0<=m.sc t/\m.sc t<m.vertices.length
 kind:∀ v:Int,0<=v->v<m.vertices.length->1<=m.kd v/\m.kd v<=12
 outs:m.OutsOk
 entry:∀ v:Int,0<=v->v<m.vertices.length->m.kd v=10->m.outI v≠[]
 fork:∀ v:Int,0<=v->v<m.vertices.length->m.kd v=6->1<(m.outI v).length
 join:∀ v:Int,0<=v->v<m.vertices.length->m.kd v=7->(m.outI v).length=1/\1<(m.intoI v).length/\∀ t∈m.intoI v,m.kd (m.sc t)=1
 init:∀ v:Int,0<=v->v<m.vertices.length->m.kd v=3->m.intoI v=[]
 lx:m.vertices.length<=512
 lw:m.ways.length<=512
 fix:∀ v:Int,0<=v->v<m.vertices.length->m.kd v≠10->m.kd v≠11->(m.vx v).of = -1/\0<=(m.vx v).region/\(m.vx v).region<m.regions.length
theorem Nd(v:Int):(m.outI v).length=(m.out v).length:=by rw[<- Zz3 v,List.length_map];rfl
theorem B1(v:Int):(m.intoI v).length=(m.inc v).length:=by rw[<- Zls v,List.length_map];rfl
theorem mem_out{v t:Int}:t∈m.outI v↔(0<=t/\t<m.ways.length)/\m.sc t=v:=by
 rw[outI,wysI,List.mem_map]
 constructor
 rintro⟨k,b,rfl⟩;have:=List.mem_filter.1 b;have c:=List.mem_range.1 this.1;refine⟨by omega,?_⟩;have a:=this.2;simp at a;exact a;rintro⟨⟨d,c⟩,a⟩;refine⟨t.toNat,List.mem_filter.2 ⟨List.mem_range.2 (by omega),?_⟩,by omega⟩;rw[show((t.toNat:Nat):Int)=t by omega];simp[show(m.wy t).source=v from a]
theorem mem_into{v t:Int}:t∈m.intoI v↔(0<=t/\t<m.ways.length)/\m.tg t=v:=by
 rw[intoI,wysI,List.mem_map]
 constructor
 rintro⟨k,b,rfl⟩;have:=List.mem_filter.1 b;have c:=List.mem_range.1 this.1;refine⟨by omega,?_⟩;have a:=this.2;simp at a;exact a;rintro⟨⟨d,c⟩,a⟩;refine⟨t.toNat,List.mem_filter.2 ⟨List.mem_range.2 (by omega),?_⟩,by omega⟩;rw[show((t.toNat:Nat):Int)=t by omega];simp[show(m.wy t).target=v from a]
theorem Rt.wfd(r:m.Rt)(h:m.badL bd gd 15=[]):m.Wfd:=by
 have f:∀ t:Int,0<=t->t<m.ways.length->(0<=m.sc t/\m.sc t<m.vertices.length)/\(0<=m.tg t/\m.tg t<m.vertices.length):=by
  intro t b a;have:=r.way t.toNat (by omega);simp only[wayB,inV,Bool.and_eq_true,decide_eq_true_eq]at this;exact⟨this.1.1.1.1.1.1.1.1.1.2,this.1.1.1.1.1.1.1.1.2⟩
 have l:∀ rule:Nat,rule=2\/rule=4\/rule=5\/rule=6\/rule=8->m.places rule=m.vertices.length:=by
  rintro _ (rfl|rfl|rfl|rfl|rfl)<;>rfl
 have k4:∀ v:Int,0<=v->v<m.vertices.length->m.k4 v=true:=λv b a=>Jb (rule:=4) h (by decide) (by decide) b (by exact a);have k5:∀ v:Int,0<=v->v<m.vertices.length->m.k5 v=true:=λv b a=>Jb (rule:=5) h (by decide) (by decide) b (by exact a);have k6:∀ v:Int,0<=v->v<m.vertices.length->m.k6 v=true:=λv b a=>Jb (rule:=6) h (by decide) (by decide) b (by exact a);have k8:∀ v:Int,0<=v->v<m.vertices.length->m.k8 v=true:=λv b a=>Jb (rule:=8) h (by decide) (by decide) b (by exact a);have k2:∀ v:Int,0<=v->v<m.vertices.length->m.k2 v=true:=λv b a=>Jb (rule:=2) h (by decide) (by decide) b (by exact a)
 have d:∀ v:Int,0<=v->v<m.vertices.length->m.kd v=10->m.outI v≠[]:=by
  intro v b a c e;have:=k8 v b a;rw[PM.k8,if_neg (by rw[show m.kd v=10 from c];decide),if_pos c]at this;have g:=Nd (m:=m) v;rw[e]at g;simp only[Bool.and_eq_true,decide_eq_true_eq]at this;rw[<- g]at this;simp at this
 refine⟨r.acy,λt b a=>(f t b a).2,λt b a=>(f t b a).1,λv b a=>?_,?_,d,?_,?_,?_,r.lx,r.lw,?_⟩;have:=r.toRt5.vert b a;simp only[vertexB,Bool.and_eq_true,decide_eq_true_eq]at this;exact⟨this.1.1.1.1.1.1.1.2,this.1.1.1.1.1.1.2⟩;intro v b a c e;simp only[oneP,Bool.or_eq_true,beq_iff_eq,Bool.and_eq_true]at c
 rcases c with (c|c)|⟨c,_⟩
 have:=k6 v b a;rw[PM.k6,c]at this;have g:=Nd (m:=m) v;rw[e]at g;simp[<- g]at this;have:=k8 v b a;rw[PM.k8,if_pos c]at this;have g:=Nd (m:=m) v;rw[e]at g;simp[<- g]at this;exact d v b a c e;intro v b a c;have:=k4 v b a;rw[PM.k4,c]at this;rw[Nd];simp only[beq_self_eq_true,Bool.not_true,Bool.false_or,Bool.and_eq_true,decide_eq_true_eq]at this;exact this.1.2;intro v b a c;have:=k5 v b a;rw[PM.k5,c]at this;rw[Nd,B1];simp only[beq_self_eq_true,Bool.not_true,Bool.false_or,Bool.and_eq_true,decide_eq_true_eq,beq_iff_eq,List.all_eq_true]at this;refine⟨this.1.1.1,this.1.1.2,λt k=>?_⟩;refine this.1.2 _ ?_;rw[<- Zls v];exact List.mem_map.2 ⟨t,k,rfl⟩;intro v b a c;have:=k2 v b a;rw[PM.k2,c]at this;simp only[beq_self_eq_true,Bool.not_true,Bool.false_or,Bool.and_eq_true,beq_iff_eq]at this;exact List.length_eq_zero_iff.1 (by rw[B1];exact this.2);intro v b a j i;have:=r.toRt5.lies b a;rw[liesB,if_neg (λq=>q.elim j i)]at this;simp only[Bool.and_eq_true,beq_iff_eq,decide_eq_true_eq]at this;exact⟨this.1.1,this.1.2,this.2⟩
end PM
end
section
namespace PM
variable(m:PM)
def folB:List Int->Int->Int->Bool
 |[],f,to=>f==to
 |t::r,f,to=>decide (0<=t)&&decide (t<m.ways.length)&&(m.sc t==f)&&folB r (m.tg t) to
def restB(k:Int):Bool:=k==1||k==2||k==4||k==8||k==9||k==12
variable{m}
theorem Zxe(h:m.Wfd):∀ (f:Nat) (v:Int) (path:List Int),0<=v->v<m.vertices.length->path.Nodup->(∀ t∈path,0<=t/\t<m.ways.length)->f+path.length=m.ways.length+1 ->
  ∀ w∈m.walkF f v path,(∀ t∈w.1,0<=t/\t<m.ways.length)/\w.1.length<=m.ways.length+1/\∃ r,w.1=path++r/\(∀ t∈r,m.oneP (m.sc t)=true)/\(w.2 = -1\/((0<=w.2/\w.2<m.vertices.length)/\m.oneP w.2=false/\m.folB r v w.2=true))
 |0,v,path,_,_,hn,hr,hf=>by
  have:=nodup_len hn hr;omega
 |f+1,v,path,h0,h1,hn,hr,hf=>by
  intro w e;rw[walkF]at e
  split at e
  rename_i k;obtain⟨t,p,e⟩:=List.mem_flatMap.1 e;obtain⟨d,g⟩:=mem_out.1 p;have i:=h.tg t d.1 d.2
  have j:∀ x∈path++[t],0<=x/\x<m.ways.length:=λx c=>by
   rcases List.mem_append.1 c with c|c
   exact hr x c;rw[List.mem_singleton.1 c];exact d
  split at e
  rw[List.mem_singleton.1 e];exact⟨j,by rw[List.length_append,List.length_singleton];omega,[t],rfl,λx c=>by rw[List.mem_singleton.1 c,g];exact k,.inl rfl⟩;rename_i o;rw[List.contains_eq_mem,decide_eq_true_eq]at o
  have n:(path++[t]).Nodup:=by
   rw[List.nodup_append];refine⟨hn,by simp,λa s b q=>?_⟩;rw[List.mem_singleton.1 q];rintro rfl;exact o s
  obtain⟨C,B,r,A,u,l⟩:=Zxe h f _ _ i.1 i.2 n j (by rw[List.length_append,List.length_singleton];omega) w e;refine⟨C,B,t::r,by rw[A,List.append_assoc];rfl,λx c=>?_,?_⟩
  rcases List.mem_cons.1 c with rfl|c
  rw[g];exact k;exact u x c
  rcases l with l|⟨l,z,y⟩
  exact .inl l;refine .inr ⟨l,z,?_⟩;rw[folB,decide_eq_true d.1,decide_eq_true d.2,g,y];simp;rename_i k;rw[List.mem_singleton.1 e];rw[Bool.not_eq_true]at k;exact⟨hr,by show path.length<=_;omega,[],(List.append_nil _).symm,(λx c=>(by cases c)),.inr ⟨⟨h0,h1⟩,k,by simp[folB]⟩⟩
structure WayF(m:PM)(t:Int)(w:List Int×Int):Prop where
 rng:∀ x∈w.1,0<=x/\x<m.ways.length
 len:w.1.length<=m.ways.length+1
 hd:∃ r,w.1=t::r/\∀ x∈r,m.oneP (m.sc x)=true
 fo:w.2 = -1\/((0<=w.2/\w.2<m.vertices.length)/\m.oneP w.2=false/\m.folB w.1 (m.sc t) w.2=true)
theorem waysL_ok(h:m.Wfd){t:Int}(t0:0<=t)(t1:t<m.ways.length):∀ w∈m.waysL t,m.WayF t w:=by
 intro w f;have d:=h.tg t t0 t1;obtain⟨k,j,r,e,g,i⟩:=Zxe h _ _ _ d.1 d.2 (by simp) (λx l=>by grind) (by grind) w f;refine⟨k,j,⟨r,e,g⟩,i.imp id fun⟨a,b,c⟩=>⟨a,b,?_⟩⟩;rw[e,List.singleton_append,folB,decide_eq_true t0,decide_eq_true t1,c];simp
theorem Zdz(h:m.Wfd):∀ (f:Nat) (v:Int) (path:List Int),0<=v->v<m.vertices.length->m.walkF f v path≠[]
 |f,v,path,h0,h1=>by
  rw[<- Zzt];intro e;exact Zcp h.tg h.outs f v path h0 h1 (List.map_eq_nil_iff.1 e)
theorem Zve(h:m.Wfd){t:Int}(t0:0<=t)(t1:t<m.ways.length):m.waysL t≠[]:=by
 have a:=h.tg t t0 t1;exact Zdz h _ _ _ a.1 a.2
theorem forkF_ok:∀ (os:List Int) (acc:List (Int×List Int)),∀ es∈m.forkF os acc,es.length=acc.length+os.length/\∀ e∈es,e∈acc\/∃ o∈os,(e.2,e.1)∈m.waysL o
 |[],acc,es,a=>by
  rw[List.mem_singleton.1 a]
  grind
 |o::os,acc,es,a=>by
  obtain⟨w,b,a⟩:=List.mem_flatMap.1 a;obtain⟨d,c⟩:=forkF_ok os _ es a
  grind
theorem Z7g(h:m.Wfd):∀ (os:List Int) (acc:List (Int×List Int)),(∀ o∈os,0<=o/\o<m.ways.length)->m.forkF os acc≠[]
 |[],acc,_=>by rw[forkF];simp
 |o::os,acc,ho=>by
  rw[forkF];have a:=ho o (by simp)
  cases e:m.waysL o with
  |nil=>exact absurd e (Zve h a.1 a.2)
  |cons w r=>
   intro q;exact Z7g h os _ (λx b=>ho x (by grind)) (List.append_eq_nil_iff.1 q).1
structure StF(m:PM)(s:StP):Prop where
 first:0<=s.first/\s.first<m.ways.length
 so:s.sources≠[]
 sn:s.sources.length<=m.ways.length\/s.sources.length=1
 src:∀ v∈s.sources,0<=v/\v<m.vertices.length
 one:∀ v∈s.sources,m.kd v=4->s.sources=[v]
 en:s.ends≠[]
 el:s.ends.length<=m.ways.length+1
 bl:∀ e∈s.ends,e.2.length<=m.ways.length+1
 gl:s.guards.length<=(m.ways.length+1)*(m.ways.length+2)
 fl:s.effects.length<=m.ways.length+(m.ways.length+1)
 er:∀ t∈s.effects,0<=t/\t<m.ways.length
 gr:∀ t∈s.guards,0<=t/\t<m.ways.length
 br:∀ e∈s.ends,∀ t∈e.2,0<=t/\t<m.ways.length
 ar:∀ e∈s.ends,e.1 = -1\/(0<=e.1/\e.1<m.vertices.length)
theorem flat_le{n:Nat}:∀ (l:List (Int×List Int)),(∀ e∈l,e.2.length<=n)->(l.flatMap (·.2)).length<=l.length*n
 |[],_=>by simp
 |e::l,h=>by
  have:=flat_le l λx a=>h x (by grind);have:=h e (by simp);rw[List.flatMap_cons,List.length_append,List.length_cons,Nat.add_mul];omega
structure Beg(m:PM)(sources into:List Int)(by_:Int):Prop where
 byr:0<=by_/\by_<m.ways.length
 first:0<=into.headD by_/\into.headD by_<m.ways.length
 so:sources≠[]
 sn:sources.length<=m.ways.length\/sources.length=1
 src:∀ v∈sources,0<=v/\v<m.vertices.length
 one:∀ v∈sources,m.kd v=4->sources=[v]
 il:into.length<=m.ways.length
 ir:∀ t∈into,0<=t/\t<m.ways.length
theorem Zba(h:m.Wfd){c d:List Int}{n:Int}(b:m.Beg c d n):∀ s∈m.strL c d n,m.StF s:=by
 intro s j;obtain⟨w,v,j⟩:=List.mem_flatMap.1 j;have k:=waysL_ok h b.byr.1 b.byr.2 w v;have p:=k.len;have y:=b.il
 have u:∀ t∈d++w.1,0<=t/\t<m.ways.length:=λt a=>by
  rcases List.mem_append.1 a with a|a
  exact b.ir t a;exact k.rng t a
 rw[strW]at j
 split at j
 rename_i q;obtain⟨g,f,rfl⟩:=List.mem_map.1 j;obtain⟨k1,k2⟩:=forkF_ok _ _ g f
 have k2:∀ e∈g,∃ o:Int,(0<=o/\o<m.ways.length)/\m.WayF o (e.2,e.1):=λe f=>by
  rcases k2 e f with q|⟨o,x,q⟩
  cases q;have:=Qy x;exact⟨o,this,waysL_ok h this.1 this.2 _ q⟩
 have k3:∀ e∈g,e.2.length<=m.ways.length+1:=λe f=>by obtain⟨o,_,q⟩:=k2 e f;exact q.len
 have k4:=flat_le g k3
 have k5:g.length<=m.ways.length:=by
  rw[k1,List.length_nil,Nat.zero_add];exact wysI_len ..
 have l:m.outI w.2≠[]:=by
  have r:0<=w.2/\w.2<m.vertices.length:=k.fo.resolve_left q.1 |>.1
  have i:=q.2;simp only[allP,Bool.or_eq_true,beq_iff_eq,Bool.and_eq_true,decide_eq_true_eq]at i;intro e
  rcases i with i|⟨_,i⟩
  have:=h.fork _ r.1 r.2 i;rw[e]at this;cases this;rw[e]at i;cases i
 refine⟨b.first,b.so,b.sn,b.src,b.one,?_,by show g.length<=_;omega,k3,?_,?_,u,?_,?_,?_⟩
 show g≠[]
 intro e;rw[e]at k1;exact l (List.length_eq_zero_iff.1 (by simpa using k1.symm))
 show(w.1++g.flatMap (·.2)).length<=_
 rw[List.length_append];have:g.length*(m.ways.length+1)<=m.ways.length*(m.ways.length+1):=Nat.mul_le_mul_right _ k5
 have e:(m.ways.length+1)*(m.ways.length+2)=m.ways.length*(m.ways.length+1)+(m.ways.length+1)+(m.ways.length+1):=by
  rw[Nat.mul_add,Nat.mul_comm (m.ways.length+1) m.ways.length,Nat.add_mul];omega
 omega
 show(d++w.1).length<=_
 rw[List.length_append];omega;intro t a
 rcases List.mem_append.1 a with a|a
 exact k.rng t a;obtain⟨e,f,a⟩:=List.mem_flatMap.1 a;obtain⟨o,_,q⟩:=k2 e f;exact q.rng t a;intro e f t a;obtain⟨o,_,q⟩:=k2 e f;exact q.rng t a;intro e f;obtain⟨o,_,q⟩:=k2 e f;exact q.fo.imp id λq=>q.1;rw[List.mem_singleton.1 j];refine⟨b.first,b.so,b.sn,b.src,b.one,by simp,by simp,?_,?_,?_,u,k.rng,?_,?_⟩;intro e f;rw[List.mem_singleton.1 f];exact Nat.zero_le _
 show w.1.length<=_
 exact Nat.le_trans p (Nat.le_mul_of_pos_right _ (by omega))
 show(d++w.1).length<=_
 rw[List.length_append];omega;intro e f t a;rw[List.mem_singleton.1 f]at a;cases a;intro e f;rw[List.mem_singleton.1 f];exact k.fo.imp id λq=>q.1
theorem headD_mem{l:List Int}{d:Int}(h:l≠[]):l.headD d∈l:=by
 cases l with
 |nil=>grind
 |cons a t=>grind
theorem E8(h:m.Wfd){t:Int}(t0:0<=t)(t1:t<m.ways.length)(g:m.kd (m.tg t)=7):m.Beg ((m.intoI (m.tg t)).map m.sc) (m.intoI (m.tg t)) ((m.outI (m.tg t)).headD 0):=by
 have a:=h.tg t t0 t1;obtain⟨k,j,i⟩:=h.join _ a.1 a.2 g;have b:∀ x∈m.intoI (m.tg t),0<=x/\x<m.ways.length:=λx c=>Qy c
 have e:m.intoI (m.tg t)≠[]:=by grind
 have d:m.outI (m.tg t)≠[]:=by grind
 refine⟨Qy (headD_mem d),Qy (headD_mem e),by simp_all,.inl (by rw[List.length_map];exact wysI_len ..),λv f=>?_,λv f q=>?_,wysI_len ..,b⟩;obtain⟨x,c,rfl⟩:=List.mem_map.1 f;have:=b x c;exact h.sc x this.1 this.2
 grind
theorem Ic(h:m.Wfd){t:Int}(t0:0<=t)(t1:t<m.ways.length):m.Beg [m.sc t] [] t:=
 ⟨⟨t0,t1⟩,⟨t0,t1⟩,by simp,.inr rfl,λv a=>by rw[List.mem_singleton.1 a];exact h.sc t t0 t1,λv a _=>by grind,Nat.zero_le _,λx b=>by grind⟩
theorem Zox(h:m.Wfd){t:Int}(t0:0<=t)(t1:t<m.ways.length):∀ s∈m.beginL t,m.StF s:=by
 intro s a;rw[beginL]at a
 split at a
 rename_i b
 split at a
 exact Zba h (E8 h t0 t1 b) s a
 grind
 split at a
 exact Zba h (Ic h t0 t1) s a
 grind
theorem allL_ok(h:m.Wfd):∀ s∈m.allL,m.StF s:=by
 intro s a;obtain⟨t,b,a⟩:=List.mem_flatMap.1 a;have:=List.mem_range.1 b;exact Zox h (by omega) (by omega) s a
end PM
end
section
namespace PM
variable(m:PM)
def lastT(p:List Int):Int:=p.getLastD (-1)
def goesB(s:StP):Bool:=
 let b:=if 1<s.sources.length then s.sources.length else 0
 let c:=if 1<s.sources.length then m.tg (s.effects.headD 0)else s.sources.headD 0
 let a:=s.effects.drop b
 decide (s.sources≠[])&&decide (s.effects≠[])&&decide (s.ends≠[])&&decide (b<s.effects.length) &&
  ((List.range b).all λi=>m.folB [s.effects.getD i 0] (s.sources.getD i 0) c) &&
  m.folB a c (m.tg (lastT a)) &&
  (s.ends.all λe=>decide (0<=e.1)&&decide (e.1<m.vertices.length)&&m.folB e.2 (m.tg (lastT a)) e.1 && !(decide (1<s.ends.length)&&e.2==[])&&restB (m.kd e.1)) &&
  (a++s.ends.flatMap (·.2)==s.guards)
variable{m}
theorem Ml:∀ (p:List Int) (a b:Int),p≠[]->m.folB p a b=true->m.tg (lastT p)=b
 |[t],a,b,_,h=>by
  simp only[folB,Bool.and_eq_true,beq_iff_eq]at h;exact h.2
 |t::u::r,a,b,_,h=>by
  rw[folB,Bool.and_eq_true]at h;have:=Ml (u::r) _ _ (by simp) h.2;simpa[lastT]using this
theorem last_mem{p:List Int}(h:p≠[]):lastT p∈p:=by
 unfold lastT;rw[List.getLastD_eq_getLast?,List.getLast?_eq_some_getLast h]
 grind
theorem Zo4(h:m.Wfd){d:Int}{w:List Int×Int}(t:m.WayF d w)(G:m.kd (m.tg d)=7->m.kd (m.sc d)≠1)(o:w.2 ≠ -1)(n:m.allP w.2=false):restB (m.kd w.2)=true:=by
 obtain⟨⟨j,i⟩,a,s⟩:=t.fo.resolve_left o;obtain⟨r,u,l⟩:=t.hd
 have f:w.1≠[]:=by grind
 have A:=Ml w.1 _ _ f s;have b:=last_mem f;have p:=t.rng _ b;have c:lastT w.1∈m.intoI w.2:=mem_into.2 ⟨p,A⟩;have F:=h.kind _ j i
 have E:m.kd w.2≠3:=λq=>by rw[h.init _ j i q]at c;cases c
 have B:m.kd w.2≠7:=λq=>by
  have z:=(h.join _ j i q).2.2 _ c;rw[u]at b
  rcases List.mem_cons.1 b with e|g
  grind
  have:=l _ g;rw[<- u]at this;simp only[oneP,z]at this;simp at this
 have y:m.kd w.2≠10:=λq=>by
  have v:=h.entry _ j i q;have v:=List.length_pos_iff.2 v;simp only[oneP]at a;simp only[allP]at n;simp at a n;omega
 have D:m.kd w.2≠5:=λq=>by simp[oneP,q]at a
 have x:m.kd w.2≠11:=λq=>by simp[oneP,q]at a
 have C:m.kd w.2≠6:=λq=>by simp[allP,q]at n
 generalize m.kd w.2=k at *
 have:k=1\/k=2\/k=4\/k=8\/k=9\/k=12:=by omega
 rcases this with rfl|rfl|rfl|rfl|rfl|rfl<;>rfl
def EndsR(m:PM)(s:StP):Prop:=∀ e∈s.ends,e.1 ≠ -1/\(e.2=[]\/m.kd e.1=1)
theorem Bn(h:m.Wfd){c d:List Int}{f:Int}(b:m.Beg c d f)(hb:m.kd (m.tg f)=7->m.kd (m.sc f)≠1)
  (R:(d=[]/\c=[m.sc f])\/(1<d.length/\c=d.map m.sc/\∀ t∈d,m.tg t=m.sc f)):∀ s∈m.strL c d f,m.EndsR s->m.goesB s=true:=by
 intro s l X;obtain⟨w,V,l⟩:=List.mem_flatMap.1 l;have I:=waysL_ok h b.byr.1 b.byr.2 w V;obtain⟨r,hr,hr2⟩:=I.hd
 have k:w.1≠[]:=by grind
 have x:∀ s:StP,s.sources=c->s.effects=d++w.1->s.ends≠[]->m.folB w.1 (m.sc f) (m.tg (lastT w.1))=true ->
   (∀ e∈s.ends,(0<=e.1/\e.1<m.vertices.length)/\m.folB e.2 (m.tg (lastT w.1)) e.1=true/\(1<s.ends.length->e.2≠[])/\restB (m.kd e.1)=true)->w.1++s.ends.flatMap (·.2)=s.guards->m.goesB s=true:=by
  intro s H K e3 e4 e5 e6
  have hd:(s.effects.drop (if 1<s.sources.length then s.sources.length else 0))=w.1:=by
   grind
  have Q:(if 1<s.sources.length then m.tg (s.effects.headD 0)else s.sources.headD 0)=m.sc f:=by
   rw[H,K]
   rcases R with ⟨rfl,rfl⟩|⟨G,rfl,J⟩
   rfl
   .rw[List.length_map,if_pos G]
    cases d with
    |nil=>grind
    |cons a t=>exact J a (by simp)
  have P:(if 1<s.sources.length then s.sources.length else 0)<s.effects.length:=by
   have:=List.length_pos_iff.2 k;rw[H,K,List.length_append]
   rcases R with ⟨rfl,rfl⟩|⟨G,rfl,J⟩
   simpa using this;rw[List.length_map,if_pos G];omega
  have S:((List.range (if 1<s.sources.length then s.sources.length else 0)).all λi=>m.folB [s.effects.getD i 0] (s.sources.getD i 0) (m.sc f))=true:=by
   rw[List.all_eq_true];intro i p;rw[List.mem_range]at p;rw[H]at p
   rcases R with ⟨rfl,rfl⟩|⟨G,y,J⟩
   exact absurd p (Nat.not_lt_zero _);rw[y,List.length_map,if_pos G]at p;have D:d[i]?=some d[i]:=List.getElem?_eq_getElem p;have W:=List.getElem_mem p;have C:=b.ir _ W;rw[H,K,List.getD_eq_getElem?_getD,List.getElem?_append_left p,D,y,List.getD_eq_getElem?_getD,List.getElem?_map,D];simp only[Option.getD_some,Option.map_some,folB,decide_eq_true C.1,decide_eq_true C.2,J _ W,beq_self_eq_true,Bool.and_self]
  rw[goesB];simp only[hd,Q,S,e4,e6];rw[decide_eq_true P,decide_eq_true e3,decide_eq_true (show s.sources≠[] by rw[H];exact b.so),decide_eq_true (show s.effects≠[] by rw[K];simp[k])];simp only[Bool.true_and,beq_self_eq_true,Bool.and_true,List.all_eq_true];intro e g;obtain⟨⟨q1,q2⟩,u,L,q5⟩:=e5 e g;rw[decide_eq_true q1,decide_eq_true q2,u,q5]
  by_cases n:1<s.ends.length
  have:(e.2==[])=false:=beq_eq_false_iff_ne.2 (L n);rw[this];simp;simp[n]
 rw[strW]at l
 split at l
 rename_i q;obtain⟨Y,E,rfl⟩:=List.mem_map.1 l;obtain⟨⟨U,T⟩,A,j⟩:=I.fo.resolve_left q.1;have B:=Ml w.1 _ _ k j;have M:=Zba h b _ (List.mem_flatMap.2 ⟨w,V,by rw[strW,if_pos q];exact List.mem_map.2 ⟨Y,E,rfl⟩⟩);refine x _ rfl rfl M.en (by rw[B];exact j) (λe g=>?_) rfl;obtain⟨_,k2⟩:=forkF_ok _ _ Y E;obtain⟨v,n2⟩:=X e g
 rcases k2 e g with u|⟨o,ho,u⟩
 cases u;obtain⟨z,O⟩:=mem_out.1 ho;have D:=waysL_ok h z.1 z.2 _ u;obtain⟨g1,g2,g3⟩:=D.fo.resolve_left v;obtain⟨r',N,_⟩:=D.hd
 have F:e.2≠[]:=by show e.2≠[];have:e.2=o::r':=N;rw[this];simp
 refine⟨g1,?_,λ_=>F,?_⟩;rw[B,<- O];exact g3;rw[n2.resolve_left F];rfl
 .rename_i q
  have l:=List.mem_singleton.1 l;subst l;have v:w.2 ≠ -1:=(X (w.2,[]) (by simp)).1;obtain⟨⟨U,T⟩,A,j⟩:=I.fo.resolve_left v;have B:=Ml w.1 _ _ k j;refine x _ rfl rfl (by simp) (by rw[B];exact j) (λe g=>?_) (by simp);rw[List.mem_singleton.1 g];refine⟨⟨U,T⟩,by rw[B];simp[folB],λq=>absurd q (by simp),?_⟩;refine Zo4 h I hb v ?_
  cases L:m.allP w.2 with
  |false=>rfl
  |true=>exact absurd ⟨v,L⟩ q
theorem Z2h(h:m.Wfd){t:Int}(t0:0<=t)(t1:t<m.ways.length):∀ s∈m.beginL t,m.EndsR s->m.goesB s=true:=by
 intro s a;have b:=h.tg t t0 t1;rw[beginL]at a
 split at a
 rename_i c
 split at a
 obtain⟨l,g,k⟩:=h.join _ b.1 b.2 c
 have f:m.outI (m.tg t)≠[]:=by grind
 have j:=headD_mem (d:=0) f;have e:m.sc ((m.outI (m.tg t)).headD 0)=m.tg t:=(mem_out.1 j).2;refine Bn h (E8 h t0 t1 c) (λ_=>by grind) (.inr ⟨g,rfl,λx i=>?_⟩) s a;rw[e];exact(mem_into.1 i).2
 grind
 rename_i c
 split at a
 exact Bn h (Ic h t0 t1) (λq=>absurd q c) (.inl ⟨rfl,rfl⟩) s a
 grind
theorem Rq{t:Int}(t0:0<=t):∀ s∈m.beginL t,s.first=t:=by
 intro s d
 have g:∀ {b c:List Int} {f:Int},s∈m.strL b c f->s.first=c.headD f:=by
  intro b c f d;obtain⟨w,_,d⟩:=List.mem_flatMap.1 d;rw[strW]at d
  grind
 rw[beginL]at d
 split at d
 split at d
 .rename_i q
  rw[g d]
  cases e:m.intoI (m.tg t)with
  |nil=>
   grind
  |cons a r=>grind
 grind
 grind
end PM
end
section
namespace PM
variable(m:PM)(bd:List (List UInt8)->List (List UInt8)->List UInt8->Bool)(gd:List (List UInt8)->List UInt8->Int)
def forkedB(l:List Int):Bool:=l.any λt=>m.kd (m.sc t)==5
def endAt(s:StP)(i:Nat):Int×List Int:=s.ends.getD i (-1,[])
def endB(s:StP)(i:Nat):Bool:=
 !((endAt s i).1 == -1)&&((endAt s i).2==[]||m.kd (endAt s i).1==1) && !m.forkedB (endAt s i).2&&(List.range i).all λk=>m.orthoB (endAt s k).1 (endAt s i).1
def srcOf(s:StP):Int:=s.sources.headD 0
def fixB(v:Int):Bool:=m.kd v==3||m.kd v==8||m.kd v==9
def inReach(s:StP)(v:Int):Bool:=
 if m.fixB (srcOf s)=true then m.withinB v (m.vx (srcOf s)).region else if m.kd (srcOf s)=1/\(m.wy s.first).kind=2 then m.inB v (srcOf s)else true
def rightS(s:StP)(R:List Int):Bool:=((List.range s.ends.length).all λi=>m.endB s i) && !(m.fixB (srcOf s)&&m.forkedB s.effects)&&R.all λv=>m.inReach s v
def withR:List (StP×List Int):=m.allL.map λs=>(s,m.reachL m.allL s)
def statP:List (StP×List Int)×Int×Int:=
 if(m.checkW bd gd).2≠0 then([],0,(m.checkW bd gd).2)else if(m.checkW bd gd).1≠[]then([],0,170)else if 4096<m.allL.length then([],0,3)else
  match m.withR.find? λp => !m.rightS p.1 p.2 with
  |some p=>([],p.1.first,230)
  |none=>(m.withR,0,0)
variable{m bd gd}
structure StOk(m:PM):Prop where
 rt:m.Rt
 wfd:m.Wfd
 le:m.allL.length<=4096
 right:∀ s∈m.allL,m.rightS s (m.reachL m.allL s)=true
theorem statP_ok(h:(m.statP bd gd).2.2=0):m.StOk/\(m.statP bd gd).1=m.withR:=by
 rw[statP]at h⊢
 by_cases c:(m.checkW bd gd).2≠0
 grind
 rw[if_neg c]at h⊢
 by_cases b:(m.checkW bd gd).1≠[]
 grind
 rw[if_neg b]at h⊢
 by_cases i:4096<m.allL.length
 grind
 rw[if_neg i]at h⊢
 have e:(m.rightP).2.2=0:=by
  by_cases q:(m.rightP).2.2=0
  exact q;exact absurd (by rw[checkW,if_pos q];exact q) c
 have g:m.badL bd gd 15=[]:=by
  rw[checkW,if_neg (by grind)]at b
  grind
 have a:=rt_of (right_er.1 e)
 split at h
 cases h;rename_i f;refine⟨⟨a,a.wfd g,by omega,λs d=>?_⟩,rfl⟩;have:=List.find?_eq_none.1 f (s,m.reachL m.allL s) (List.mem_map.2 ⟨s,d,rfl⟩);simpa using this
theorem statP_no(h:(m.statP bd gd).2.2≠0):(m.statP bd gd).1=[]:=by
 rw[statP]at h⊢
 grind
theorem StOk.ends(h:m.StOk){s:StP}(b:s∈m.allL):m.EndsR s:=by
 intro e c;have:=h.right s b;simp only[rightS,Bool.and_eq_true,List.all_eq_true,List.mem_range]at this;obtain⟨i,a,rfl⟩:=List.getElem_of_mem c;have q:=this.1.1 i a
 have d:endAt s i=s.ends[i]:=by rw[endAt,List.getD_eq_getElem?_getD,List.getElem?_eq_getElem a];rfl
 simp only[endB,d,Bool.and_eq_true,Bool.not_eq_true',beq_eq_false_iff_ne,Bool.or_eq_true,beq_iff_eq]at q
 grind
theorem StOk.lost(h:m.StOk){s:StP}(a:s∈m.allL):s.lost=false:=by
 rw[StP.lost,List.any_eq_false];intro e b;have:=(h.ends a e b).1
 grind
theorem StOk.at_(h:m.StOk){s:StP}(a:s∈m.allL):s.at_=s.ends.map (·.1):=by
 rw[StP.at_,h.lost a];rfl
theorem StOk.atok(h:m.StOk):∀ s∈m.allL,m.AtOk s:=by
 intro s a v b;rw[h.at_ a]at b;obtain⟨e,c,rfl⟩:=List.mem_map.1 b;exact((allL_ok h.wfd s a).ar e c).resolve_left (h.ends a e c).1
theorem Wfd.atok(h:m.Wfd):∀ s∈m.allL,m.AtOk s:=by
 intro s b v a;unfold StP.at_ at a
 split at a
 grind
 rename_i c;rw[Bool.not_eq_true,StP.lost,List.any_eq_false]at c;obtain⟨e,d,rfl⟩:=List.mem_map.1 a;refine((allL_ok h s b).ar e d).resolve_left λq=>?_
 grind
theorem StOk.goes(h:m.StOk){s:StP}(b:s∈m.allL):m.goesB s=true:=by
 obtain⟨t,c,a⟩:=List.mem_flatMap.1 b;have:=List.mem_range.1 c;exact Z2h h.wfd (by omega) (by omega) s a (h.ends b)
theorem stands(h:m.Wfd){t:Int}(t0:0<=t)(t1:t<m.ways.length)(C:m.kd (m.sc t)=1\/m.kd (m.sc t)=3\/m.kd (m.sc t)=4\/m.kd (m.sc t)=8\/m.kd (m.sc t)=9):∃ s∈m.allL,t∈s.effects:=by
 have j:∀ {a c:List Int} {f:Int},m.Beg a c f->∃ s∈m.strL a c f,(t∈c\/t=f)->t∈s.effects:=by
  intro a c f b
  cases e:m.waysL f with
  |nil=>exact absurd e (Zve h b.byr.1 b.byr.2)
  |cons w r=>
   have u:w∈m.waysL f:=by grind
   obtain⟨D,z,_⟩:=(waysL_ok h b.byr.1 b.byr.2 w u).hd
   have g:(t∈c\/t=f)->t∈c++w.1:=by
    grind
   by_cases q:w.2 ≠ -1/\m.allP w.2=true
   .cases e2:m.forkF (m.outI w.2) []with
    |nil=>exact absurd e2 (Z7g h _ _ λo A=>Qy A)
    |cons es rs=>
     exact⟨_,List.mem_flatMap.2 ⟨w,u,by rw[strW,if_pos q,e2];exact List.mem_cons_self ..⟩,g⟩
   exact⟨_,List.mem_flatMap.2 ⟨w,u,by rw[strW,if_neg q];exact List.mem_singleton.2 rfl⟩,g⟩
 have i:∀ {t:Int} {s:StP},0<=t->t<m.ways.length->s∈m.beginL t->s∈m.allL:=fun{t s} t0 t1 l=>
  List.mem_flatMap.2 ⟨t.toNat,List.mem_range.2 (by omega),by rw[show((t.toNat:Nat):Int)=t by omega];exact l⟩
 by_cases p:m.kd (m.tg t)=7
 have k:=h.tg t t0 t1;obtain⟨F,y,E⟩:=h.join _ k.1 k.2 p
 have v:m.intoI (m.tg t)≠[]:=by intro e;rw[e]at y;cases y
 have B:=headD_mem (d := -1) v;obtain⟨n,x⟩:=mem_into.1 B;obtain⟨s,l,g⟩:=j (E8 h t0 t1 p);refine⟨s,i n.1 n.2 ?_,g (.inl (mem_into.2 ⟨⟨t0,t1⟩,rfl⟩))⟩;rw[beginL,x,if_pos p,if_pos rfl];exact l;obtain⟨s,l,g⟩:=j (Ic h t0 t1);refine⟨s,i t0 t1 ?_,g (.inr rfl)⟩;rw[beginL,if_neg p,if_pos C];exact l
theorem first_rise:List.Pairwise (λa b:StP=>a.first<=b.first) m.allL:=by
 have d:∀ n:Nat,List.Pairwise (λa b:StP=>a.first<=b.first) ((List.range n).flatMap fun(t:Nat)=>m.beginL t)/\∀ s∈(List.range n).flatMap (fun(t:Nat)=>m.beginL t),s.first<n:=by
  intro n
  induction n with
  |zero=>simp
  |succ n ih=>
   rw[List.range_succ,List.flatMap_append,List.flatMap_singleton];refine⟨List.pairwise_append.2 ⟨ih.1,?_,λa f b e=>?_⟩,λs c=>?_⟩;exact List.Pairwise.imp_of_mem (R:=λ_ _=>True) (fun{a b} f e _=>by rw[Rq (Int.natCast_nonneg n) a f,Rq (Int.natCast_nonneg n) b e];grind) (List.pairwise_of_forall (λ_ _=>trivial));have:=ih.2 a f;rw[Rq (Int.natCast_nonneg n) b e];omega
   rcases List.mem_append.1 c with c|c
   grind
   rw[Rq (Int.natCast_nonneg n) s c];omega
 exact(d _).1
theorem Z4f(L:List StP)(s:StP):List.Pairwise (· < ·) (m.reachL L s):=by
 rw[reachL,List.pairwise_map]
 refine(List.Pairwise.filter _ List.pairwise_lt_range).imp fun{a b} h=>by omega
theorem reachL_rng(L:List StP)(s:StP):∀ v∈m.reachL L s,0<=v/\v<m.vertices.length:=by
 intro v a;rw[reachL,List.mem_map]at a
 grind
end PM
end
end Go.Hs
end

section
namespace Go.Hs
open Go.Proofs
set_option maxHeartbeats 1000000
set_option maxRecDepth 10000
structure PlM where
 parent:Int
 region:Int
 depth:Int
 state:Bool
 point:Bool
 out:Sl Int
 into:Sl Int
structure IxM where
 places:Sl PlM
 kids:V
 owned:V
 points:V
def Np(c:Col)(p:PlM):V:=.agg [.int .i64 p.parent,.int .i64 p.region,.int .i64 p.depth,.bool p.state,.bool p.point,Za c 1 (V.int .i64) p.out,Za c 1 (V.int .i64) p.into]
theorem Uw(c:Col)(p:PlM):Np c p=.agg [.int .i64 p.parent,.int .i64 p.region,.int .i64 p.depth,.bool p.state,.bool p.point,Za c 1 (V.int .i64) p.out,Za c 1 (V.int .i64) p.into]:=rfl
theorem Z24(c:Col)(p:PlM):(Np c p).cells.length=7:=rfl
def Mz(b c d:Col)(x:IxM):V:=.view b (.agg [Za c 7 (Np d) x.places,x.kids,x.owned,x.points])
theorem S0(b c d:Col)(x:IxM):Mz b c d x=.view b (.agg [Za c 7 (Np d) x.places,x.kids,x.owned,x.points]):=rfl
def IxM.rc(g:Col->Col)(x:IxM):IxM:=⟨x.places,x.kids.recol g,x.owned.recol g,x.points.recol g⟩
theorem Z6u(g:Col->Col)(x:IxM):(x.rc g).places=x.places:=rfl
theorem Bu(g:Col->Col)(c d:Col)(s:Sl PlM):(Za c 7 (Np d) s).recol g=Za (g c) 7 (Np (g d)) s:=Wd g c 7 (λp=>by simp only[Uw,Xy,List.map_cons,List.map_nil,Xf,Ec,Xu]) s
theorem Z3f(g:Col->Col)(b c d:Col)(x:IxM):(Mz b c d x).recol g=Mz (g b) (g c) (g d) (x.rc g):=by
 simp only[S0,V.recol,Yt,Bu,IxM.rc]
theorem Zs2(b c d:Col)(x:IxM):(Mz b c d x).cells=[Mz b c d x]:=rfl
theorem Z2z(b c d:Col)(x:IxM):(Mz b c d x).solid=true:=rfl
attribute[go_sem]Z6u Bu Z3f Zs2 Z2z
theorem Uf(G:Nat->V)(b c d:Col)(x:IxM)(v:Int):Spec Tryz.prog G 112 [Mz b c d x,.int .i64 v] Zi (λw _=>w=.bool (decide (0<=v)&&decide (v<x.places.l.length))):=by
 refine Zo 0 20 [.tmp 4] Tryz.func112 λX=>?_
 by_cases f:0<=v
 have a:decide (v>=0)=true:=zT;have e:decide (0<=v)=true:=zT;rw[e];exact Zq (zi a S0);have a:decide (v>=0)=false:=zF;have e:decide (0<=v)=false:=zF;rw[e];exact Zq (zi a S0)
theorem Kg(G:Nat->V)(a:V)(v:Int)(c:a.cells=[a]:=by exact rfl)(b:a.solid=true:=by exact rfl):InSp Tryz.prog G 56 [a,.int .i64 v] (Z6 Zi [(52,.dead),(53,.dead)])
  (λw H'=>∃ g2 g3,w=.func (.func 111) [] [.ptr 53 g3 0,.ptr 52 g2 0]/\H' 52=.cells .new g2 0 [a]/\H' 53=.cells .new g3 0 [.int .i64 v]):=by
 refine X9 50 6 [.tmp 4] Tryz.func56 rfl rfl rfl rfl λX=>?_;simp only[Z6];refine Zf (zi c b) ?_;intro g2 g3;refine Zf (zi c b) ?_;exact⟨g2,g3,rfl,zr,zr⟩
def Oy(m:PM)(v:Int):List Int:=if 0<=v then v::m.ups v else[]
def PM.rgO(m:PM)(v:Int):Int:=if 0<=(m.vx v).of then(m.vx (m.vx v).of).region else(m.vx v).region
structure IxP(m:PM)(x:IxM):Prop where
 len:x.places.l.length=m.vertices.length
 par:∀ (i:Nat) p,x.places.l[i]?=some p->p.parent=m.around i
 reg:∀ (i:Nat) p,x.places.l[i]?=some p->p.region=m.rgO i
 st:∀ (i:Nat) p,x.places.l[i]?=some p->p.state=(m.kd i==1)
 pt:∀ (i:Nat) p,x.places.l[i]?=some p->p.point=decide (0<=(m.vx i).of)
 out:∀ (i:Nat) p,x.places.l[i]?=some p->p.out.l=m.outI i
 into:∀ (i:Nat) p,x.places.l[i]?=some p->p.into.l=m.intoI i
theorem Zfb{m:PM}(a:m.Acy){v:Int}(b:0<=v)(c:v<m.vertices.length):Oy m v=v::Oy m (m.around v):=by
 unfold Oy;rw[if_pos b]
 by_cases h:0<=m.around v
 rw[if_pos h,a.ups_cons b c h];rw[if_neg h,PM.Acy.ups_nil zo]
theorem A6(G:Nat->V)(hG:Y6 G)(b c d:Col)(x:IxM)(m:PM)(a:m.Acy)(K:IxP m x)(v:Int)(S:v<m.vertices.length)(g2 g3:Nat)(H:Heap)(h2:H 52=.cells .new g2 0 [Mz b c d x])(h3:H 53=.cells .new g3 0 [.int .i64 v]):
  Z5l Tryz.prog G 100 111 [.ptr 53 g3 0,.ptr 52 g2 0] H (λk:Int=>[.int .i64 k]) (Oy m v):=by
 refine Vc .plain 0 19 3 [] Tryz.func111 λX t cl σ R I e D Q U W _=>?_;refine AW.block ?_
 refine Vz (fun(w:Int × σ × Heap)=>⟨Z6 emp [(0,.func t [] cl),(1,.ptr 53 g3 0),(2,.ptr 52 g2 0)],Z6 (Z7 100 w.2.2) [(52,.cells .new g2 0 [Mz b c d x]),(53,.cells .new g3 0 [.int .i64 w.1])]⟩)
  (λw=>w.1<m.vertices.length/\R9 I e w.2.1 (Oy m w.1)/\R w.2.1 (Z7 100 w.2.2)/\Yl e D (Oy m v)=Yl e w.2.1 (Oy m w.1)) (λw=>(Oy m w.1).length) (v,D,H) ⟨S,U,W,rfl⟩ ?_ ?_
 exact Y5 ⟨rfl,rfl,rfl,trivial⟩ ⟨h2,h3,trivial⟩ rfl;rintro⟨w,s,H1⟩ ⟨z,y,C,i⟩ L Y;simp only at z y C i⊢
 by_cases A:0<=w
 have E:decide (w>=0)=true:=zT;rw[Zfb a A z]at y i;refine Z4 (Z4 (Wm [5] zk (by rfl) ?_));simp -implicitDefEqProofs only[go_sem,seval,E,My];refine⟨_,rfl,S8 Q s w zp zm y.1 ?_ (λP h f=>?_) zk (n:=5) rfl zp⟩;refine Zs ?_;exact C;have u:=f 52 zd;have o:=f 53 zd;simp -implicitDefEqProofs only[go_sem,seval]at u o;have j:=y.2
 have g:Yl e D (Oy m v)=if(e s w).1=true then Yl e (e s w).2 (Oy m (m.around w))else(false,(e s w).2):=i
 generalize e s w=r at h g j⊢;obtain⟨O,J⟩:=r;refine Zs ?_;refine AW.weak (Y5 (lo:=100) (B:=P) (l:=[(0,.func t [] cl),(1,.ptr 53 g3 0),(2,.ptr 52 g2 0),(10,.bool O)]) (m:=[(52,.cells .new g2 0 [Mz b c d x]),(53,.cells .new g3 0 [.int .i64 w])]) ⟨rfl,rfl,rfl,rfl,trivial⟩ ⟨u,o,trivial⟩ rfl) ?_;cases O;refine Z ?_;rw[g];refine⟨_,rfl,.inr trivial,?_⟩
 show R J _
 refine Zs ?_;exact h;obtain⟨k,rfl⟩:∃ k:Nat,w=(k:Int):=⟨w.toNat,zo⟩
 have N:k<x.places.l.length:=by rw[K.len];omega
 have F:=List.getElem?_eq_getElem N;have M:=K.par k _ F;generalize x.places.l[k]=p at F M;refine Ha (zi F (zi N (zi Uw (zi S0 (zi @Int.natCast_nonneg @Int.ofNat_lt))))) hG ?_;refine Zs ?_
 have T:m.around k<m.vertices.length:=by rcases a.rng k A z with q|q<;>omega
 refine Y _ ⟨(m.around k,J,P),?_,⟨T,j rfl,h,by rw[g]<;>rfl⟩,Y5 ⟨rfl,rfl,rfl,trivial⟩ ⟨zp,?_,trivial⟩ ?_⟩
 show(Oy m (m.around k)).length<(Oy m k).length
 rw[Zfb a A z];exact Nat.lt_succ_self _;exact V9 M;exact zp;have E:decide (w>=0)=false:=zF;have e0:Oy m w=[]:=if_neg A;rw[e0]at i;refine Zf E ?_;refine Zs ?_;rw[i];refine⟨_,rfl,.inr trivial,?_⟩
 show R s _
 refine Zs ?_;exact C
theorem IxP.at{m:PM}{x:IxM}(h:IxP m x){v:Int}(n:0<=v)(b:v<m.vertices.length):∃ (k:Nat) (p:PlM),v=(k:Int)/\k<x.places.l.length/\x.places.l[k]?=some p/\p.parent=m.around v/\p.region=m.rgO v/\p.state=(m.kd v==1)/\p.point=decide (0<=(m.vx v).of)/\p.out.l=m.outI v/\p.into.l=m.intoI v:=by
 have c:v.toNat<x.places.l.length:=by rw[h.len];omega
 have e:v=((v.toNat:Nat):Int):=zo;have a:=List.getElem?_eq_getElem c;refine⟨v.toNat,_,e,c,a,?_⟩;have b:=h.par _ _ a;have j:=h.reg _ _ a;have i:=h.st _ _ a;have g:=h.pt _ _ a;have f:=h.out _ _ a;have d:=h.into _ _ a;rw[<- e]at b j i g f d;exact⟨b,j,i,g,f,d⟩
theorem Fb{m:PM}(a:m.Acy){v:Int}(c:v<m.vertices.length):∀ k∈Oy m v,0<=k/\k<m.vertices.length:=by
 intro k b;unfold Oy at b
 split at b
 rename_i d;exact a.chain d c b;cases b
theorem Zk5{H H':Heap}(h:H=H':=by funext o;simp only[Z3];(repeat' split)<;>first|rfl|omega):H=H':=h
def anJ(b:Bool):Option Code:=if b=true then some .ret else none
theorem Z51(G:Nat->V)(i:Y6 G)(b c d:Col)(x:IxM)(m:PM)(a:m.Acy)(g:IxP m x)(v r:Int)(K:0<=v)(A:v<m.vertices.length):
  Spec Tryz.prog G 69 [Mz b c d x,.int .i64 v,.int .i64 r] Zi (λw _=>w=.bool ((Oy m v).any λu=>m.rgO u==r)):=by
 refine ZoM 100 26 [.cell 6 4] Tryz.func69 λX=>?_
 have H:(decide (0<=v)&&decide (v<x.places.l.length))=true:=by rw[g.len,Bool.and_eq_true];exact⟨zT,zT⟩
 refine Z ?_;intro t C j;refine Z ?_;refine Zc i ?_ (s:=Uf G _ _ _ _ v);refine Zg H ?_;refine CallA.inl [(52,.dead),(53,.dead)] zk ?_ ((Kg G (Mz b c d x) v).mono ?_);intro p f;simp only[List.mem_cons,List.not_mem_nil,or_false]at f
 rcases f with rfl|rfl<;>rfl
 rintro w M ⟨D,o,rfl,F,E⟩;simp -implicitDefEqProofs only[go_sem,seval,Z6,F,E];refine AW.block ?_
 refine Pt 50 100 190 150 (λs=>Z3 (Z3 (Z3 Zi 103 (.cells .new t 0 [Mz b c d x])) 105 (.cells .new C 0 [.int .i64 r])) 106 (.cells .new j 0 [.bool s])) (λ_ k=>m.rgO k==r) anJ (λ_ k=>0<=k/\k<m.vertices.length) false rfl
  (λl I=>A6 G i b c d x m a g v A D o _ zp zp) ?_ (Pm rfl λk h _=>Fb a A k h) ?_ ?_
 refine Zs ?_;exact Yq _ _ _ rfl
 .rintro l Y s k hr ⟨k0,k1⟩ hj
  cases s;rotate_left;cases hj;refine Zs ?_;refine AW.region zk ?_;refine Zs ?_;intro Z _;obtain⟨n,p,rfl,h,B,_,f,_⟩:=g.at k0 k1;refine Ha (zi B (zi h (zi Uw (zi S0 (zi @Int.natCast_nonneg @Int.ofNat_lt))))) i ?_;rw[f];cases q:(m.rgO (n:Int)==r);refine Zf q ?_;exact⟨rfl,Yq _ _ _ rfl⟩;refine Zf q ?_;refine AW.ret ?_;refine Xw q ?_;exact⟨rfl,Zk5⟩
 rintro L y e z J
 have e:y=(Oy m v).any λu=>m.rgO u==r:=by rw[e];exact B9 (λk=>m.rgO k==r) _
 cases y;refine AW.weak (Weak.rng (l:=[(3,.ptr 103 t 0),(6,.ptr 106 j 0)]) z ⟨rfl,rfl,trivial⟩) ?_;refine Z ?_;rw[<- e];refine AW.weak (Weak.rng (l:=[(3,.ptr 103 t 0),(6,.ptr 106 j 0)]) z ⟨rfl,rfl,trivial⟩) ?_;refine Z ?_;rw[<- e]
def Sl.co{α : Type}(s:Sl α):Sl α := match s with|.nil=>.nil|.mk _ l=>.mk false l
theorem Zd6{α : Type}(s:Sl α):s.co.l=s.l:=by cases s<;>rfl
theorem Ms(G:Nat->V)(c:Col)(s:Sl Int)(a:s.l.length<1000000):Spec Tryz.prog G 113 [Za c 1 (V.int .i64) s] Zi (λv _=>v=Za .new 1 (V.int .i64) s.co):=by
 refine Zo 0 8 [.tmp 2] Tryz.func113 λX=>?_
 cases s with
 |nil=>exact Zr
 |mk b l=>
  have e:l.length<1000000:=a;have d:Za c 1 (V.int .i64) (.mk b l)=.slice c b 1 (l.map (V.int .i64)):=rfl;rw[d];refine Z ?_;intro g;refine⟨Yg zo (by rw[List.length_map];omega),λh=>?_⟩;refine Zs ?_;refine AW.weak (Zw (λo=>o==5) (l:=[(2,Za .new 1 (V.int .i64) (.mk false l))]) (m:=[]) ?_ trivial) ?_;rw[List.length_map];refine Zs ?_;exact Xm (f:=V.int .i64) rfl rfl λ_=>rfl;exact Zr
theorem Iz(G:Nat->V)(a:Y6 G)(b c d:Col)(x:IxM)(m:PM)(e:IxP m x)(f:m.ways.length<1000000)(v:Int)(o:0<=v)(k:v<m.vertices.length):
  Spec Tryz.prog G 60 [Mz b c d x,.int .i64 v] Zi (λw _=>∃ s:Sl Int,s.l=m.outI v/\w=Za .new 1 (V.int .i64) s):=by
 refine Zo 0 18 [.tmp 4] Tryz.func60 λX=>?_;obtain⟨n,p,rfl,i,j,h⟩:=e.at o k
 have q:(decide ((0:Int)<=(n:Int))&&decide ((n:Int)<x.places.l.length))=true:=by rw[Bool.and_eq_true];exact⟨zT,zT⟩
 refine Z ?_;refine Zc a ?_ (s:=Uf G _ _ _ _ _);refine Zg (zi q (zi j (zi i (zi Uw (zi S0 (zi @Int.natCast_nonneg @Int.ofNat_lt)))))) ?_
 have g:p.out.l.length<1000000:=by rw[h.2.2.2.2.1,PM.outI];exact Nat.lt_of_le_of_lt (PM.wysI_len _ _ _) f
 refine Zc a ?_ (s:=Ms G _ _ g);refine Z ?_;exact⟨p.out.co,by rw[Zd6];exact h.2.2.2.2.1,rfl⟩
def anO{τ : Type}(s:Option τ):Option Code:=match s with|none=>none|some _=>some .ret
theorem Oh{κ τ : Type}(p : κ -> Bool)(g : κ -> τ):∀ xs:List κ,(Yl (fun(_:Option τ) k=>((anO (if p k=true then some (g k)else none)).isNone,(if p k=true then some (g k)else none))) none xs).2=(xs.find? p).map g
 |[]=>rfl
 |k::r=>by
  rw[Yl,List.find?_cons];cases q:p k;exact Oh p g r;rfl
def PM.lowB(m:PM)(s k:Int):Bool:=m.around k==s && !decide (0<=(m.vx k).of)
theorem PM.Acy.low_eq{m:PM}(a:m.Acy){v s:Int}(d:0<=v)(h:v<m.vertices.length)(i:0<=s):(((Oy m v).find? (m.lowB s)).map m.rgO).getD (-1)=m.regU v s:=by
 have e:Oy m v=v::m.ups v:=if_pos d;rw[e]
 cases q:(v::m.ups v).find? (m.lowB s)with
 |some u=>
  have c:=List.mem_of_find?_eq_some q;have b:=List.find?_some q;unfold PM.lowB at b;simp only[Bool.and_eq_true,Bool.not_eq_true',decide_eq_false_iff_not,beq_iff_eq]at b;rw[a.regU_of d h i c b.1]
  show m.rgO u=_
  rw[PM.rgO,if_neg b.2]
 |none=>
  rw[List.find?_eq_none]at q
  cases f:(v::m.ups v).find? (λu=>m.around u==s)with
  |none=>rw[PM.regU,f]<;>rfl
  |some u=>
   have c:=List.mem_of_find?_eq_some f;have b:=List.find?_some f;have g:=q u c;have j:=a.chain d h c;unfold PM.lowB at g;rw[b,Bool.true_and,Bool.not_eq_true,Bool.not_eq_false',decide_eq_true_eq]at g;rw[a.regU_of d h i c (zu b),a.pt u j.1 j.2 g]
   try rfl
theorem D3(G:Nat->V)(t:Y6 G)(b c d:Col)(x:IxM)(m:PM)(a:m.Acy)(E:IxP m x)(v s:Int)(I:0<=v)(A:v<m.vertices.length)(o:0<=s):
  Spec Tryz.prog G 126 [Mz b c d x,.int .i64 v,.int .i64 s] Zi (λw _=>w=.int .i64 (m.regU v s)):=by
 rw[<- a.low_eq I A o];refine ZoM 100 41 [.cell 6 3] Tryz.func126 λX=>?_;refine Z ?_;intro D J B;refine Z ?_;refine CallA.inl [(52,.dead),(53,.dead)] zk ?_ ((Kg G (Mz b c d x) v).mono ?_);intro p h;simp only[List.mem_cons,List.not_mem_nil,or_false]at h
 rcases h with rfl|rfl<;>rfl
 rintro w Q ⟨K,C,rfl,M,L⟩;simp -implicitDefEqProofs only[go_sem,seval,Z6,M,L];refine AW.block ?_
 refine Pt 50 100 190 150 (λu=>Z3 (Z3 (Z3 Zi 103 (.cells .new D 0 [Mz b c d x])) 105 (.cells .new J 0 [.int .i64 s])) 106 (.cells .new B 0 [.int .i64 (u.getD 0)])) (λ_ k=>if m.lowB s k=true then some (m.rgO k)else none) anO (λ_ k=>0<=k/\k<m.vertices.length) none rfl
  (λl N=>A6 G t b c d x m a E v A K C _ zp zp) ?_ (Pm rfl λk f _=>Fb a A k f) ?_ ?_
 refine Zs ?_;exact Yq _ _ _ rfl
 .rintro l Y u k hr ⟨k0,k1⟩ hj
  cases u;rotate_left;cases hj;refine Zs ?_;refine AW.region zk ?_;refine Zs ?_;intro Z _;obtain⟨n,p,rfl,f,r,h,z,_,g,_⟩:=E.at k0 k1;cases q:(m.around (n:Int)==s)
  have e:m.lowB s (n:Int)=false:=by unfold PM.lowB;rw[q]<;>rfl
  have j:(p.parent==s)=false:=by rw[h];exact q
  refine Ha (zi j (zi r (zi f (zi Uw (zi S0 (zi @Int.natCast_nonneg @Int.ofNat_lt)))))) t ?_;refine Zf e ?_;exact⟨rfl,Yq _ _ _ rfl⟩
  have j:(p.parent==s)=true:=by rw[h];exact q
  cases i:decide (0<=(m.vx (n:Int)).of)
  have e:m.lowB s (n:Int)=true:=by unfold PM.lowB;rw[q,i]<;>rfl
  have y:p.point=false:=by rw[g];exact i
  refine Ha (zi j (zi y (zi r (zi f (zi Uw (zi S0 (zi @Int.natCast_nonneg @Int.ofNat_lt))))))) t ?_;refine Zf (zi e (zi r (zi f (zi Uw (zi S0 (zi @Int.natCast_nonneg @Int.ofNat_lt)))))) ?_;refine AW.ret ?_;refine Xw (zi e z) ?_;exact⟨rfl,Zk5⟩
  have e:m.lowB s (n:Int)=false:=by unfold PM.lowB;rw[q,i]<;>rfl
  have y:p.point=true:=by rw[g];exact i
  refine Ha (zi j (zi y (zi r (zi f (zi Uw (zi S0 (zi @Int.natCast_nonneg @Int.ofNat_lt))))))) t ?_;refine Zf e ?_;exact⟨rfl,Yq _ _ _ rfl⟩
 rintro P H o F O;rw[Oh]at o;rw[<- o];cases H;refine AW.weak (Weak.rng (l:=[(3,.ptr 103 D 0),(6,.ptr 106 B 0)]) F ⟨rfl,rfl,trivial⟩) ?_;refine Z ?_;rfl;refine AW.weak (Weak.rng (l:=[(3,.ptr 103 D 0),(6,.ptr 106 B 0)]) F ⟨rfl,rfl,trivial⟩) ?_;refine Z ?_;rfl
theorem Z4t{m:PM}(a:m.Acy){v:Int}(c:0<=v)(b:v<m.vertices.length):Oy m (m.around v)=m.ups v:=by
 unfold Oy
 by_cases h:0<=m.around v
 rw[if_pos h,a.ups_cons c b h];rw[if_neg h,PM.Acy.ups_nil zo]
theorem PM.Acy.ar1{m:PM}(a:m.Acy){v:Int}(c:0<=v)(b:v<m.vertices.length):m.around v<m.vertices.length:=by rcases a.rng v c b with q|q<;>omega
theorem Zgh{α : Type}(p : α -> Bool):∀ l:List α,((l.find? p).map λ_=>true).getD false=l.any p
 |[]=>rfl
 |x::r=>by
  rw[List.find?_cons,List.any_cons];cases q:p x;exact Zgh p r;rfl
theorem Dk(m:PM)(a b:Int):∀ l:List Int,((l.find? λk=>m.bothB a b k).map λk=>m.regU a k != m.regU b k).getD false=m.orthoF a b l
 |[]=>rfl
 |x::r=>by
  rw[List.find?_cons,PM.orthoF];cases q:m.bothB a b x;rw[if_neg zS];exact Dk m a b r;rfl
theorem IxP.rc{m:PM}{x:IxM}(h:IxP m x)(g:Col->Col):IxP m (x.rc g):=⟨h.len,h.par,h.reg,h.st,h.pt,h.out,h.into⟩
theorem Zmm(G:Nat->V)(F:Y6 G)(b c d:Col)(x:IxM)(m:PM)(a:m.Acy)(n:IxP m x)(v s:Int)(h:0<=v)(g:v<m.vertices.length)(L:0<=s)(K:s<m.vertices.length)(y:m.kd s=1):
  Spec Tryz.prog G 70 [Mz b c d x,.int .i64 v,.int .i64 s] Zi (λw _=>w=.bool ((m.ups v).any λk=>k==s)):=by
 rw[<- Z4t a h g,<- Zgh];refine ZoM 100 43 [.cell 6 4] Tryz.func70 λX=>?_;obtain⟨nv,S,rfl,t,z,o,_⟩:=n.at h g;obtain⟨f,ps,rfl,u,A,_,_,r,_⟩:=n.at L K
 have O:ps.state=true:=by rw[r,y]<;>rfl
 have t1:(decide ((0:Int)<=(nv:Int))&&decide ((nv:Int)<x.places.l.length))=true:=by rw[Bool.and_eq_true];exact⟨zT,zT⟩
 have I:(decide ((0:Int)<=(f:Int))&&decide ((f:Int)<x.places.l.length))=true:=by rw[Bool.and_eq_true];exact⟨zT,zT⟩
 refine Z ?_;intro M B;refine Z4 (Z4 (Zp ⟨λi=>if i=2 then .bool true else if i=7 then .bool true else .top,λ_=>.pure⟩ zk F zk zk ?_));simp -implicitDefEqProofs only[go_sem,seval,A,u,O,Uw,S0,@Int.natCast_nonneg,@Int.ofNat_lt];refine⟨⟨zk,?_⟩,⟨zk,?_⟩,?_⟩;simp -implicitDefEqProofs only[go_sem,seval,List.map_nil,List.map_cons,<- S0]
 exact(Uf G _ _ _ _ _).mono λv _ e=>by rw[e];exact congrArg V.bool t1
 simp -implicitDefEqProofs only[go_sem,seval,List.map_nil,List.map_cons,<- S0]
 exact(Uf G _ _ _ _ _).mono λv _ e=>by rw[e];exact congrArg V.bool I
 refine Zf (zi z (zi t (zi Uw (zi S0 (zi @Int.natCast_nonneg @Int.ofNat_lt))))) ?_;refine CallA.inl [(52,.dead),(53,.dead)] zk ?_ ((Kg G (Mz _ _ _ _) _).mono ?_);intro p E;simp only[List.mem_cons,List.not_mem_nil,or_false]at E
 rcases E with rfl|rfl<;>rfl
 rintro w W ⟨N,C,rfl,Q,P⟩;simp -implicitDefEqProofs only[go_sem,seval,Z6,Q,P,o];refine AW.block ?_
 refine Pt 50 100 190 150 (λj=>Z3 (Z3 Zi 105 (.cells .new M 0 [.int .i64 f])) 106 (.cells .new B 0 [.bool (j.getD false)])) (λ_ k=>if(k==(f:Int))=true then some true else none) anO (λ_ k=>0<=k/\k<m.vertices.length) none rfl
  (λl R=>A6 G F b c d x m a n _ (a.ar1 h g) N C _ zp zp) ?_ (Pm rfl λk y _=>Fb a (a.ar1 h g) k y) ?_ ?_
 refine Zs ?_;exact Yq _ _ _ rfl
 .rintro l Y j k hr ⟨k0,k1⟩ hj
  cases j;rotate_left;cases hj;refine Zs ?_;refine AW.region zk ?_;refine Zs ?_;intro Z _;cases q:(k==(f:Int));refine Zf q ?_;exact⟨rfl,Yq _ _ _ rfl⟩;refine Zf q ?_;refine AW.ret ?_;refine Xw q ?_;exact⟨rfl,Zk5⟩
 rintro U J D H T;rw[Oh]at D;rw[<- D];cases J;refine AW.weak (Weak.rng (l:=[(6,.ptr 106 B 0)]) H ⟨rfl,trivial⟩) ?_;refine Z ?_;rfl;refine AW.weak (Weak.rng (l:=[(6,.ptr 106 B 0)]) H ⟨rfl,trivial⟩) ?_;refine Z ?_;rfl
theorem Ej(G:Nat->V)(f:Y6 G)(b c d:Col)(x:IxM)(m:PM)(a:m.Acy)(g:IxP m x)(v s:Int)(j:0<=v)(h:v<m.vertices.length)(C:0<=s)(B:s<m.vertices.length):
  Spec Tryz.prog G 66 [Mz b c d x,.int .i64 v,.int .i64 s] Zi (λw _=>w=.bool (m.orthoB v s)):=by
 rw[<- a.ortho_first j h C B,<- Z4t a j h,<- Dk];refine ZoM 100 48 [.cell 6 4] Tryz.func66 λX=>?_
 have t1:(decide (0<=v)&&decide (v<x.places.l.length))=true:=by rw[Bool.and_eq_true,g.len];exact⟨zT,zT⟩
 have H:(decide (0<=s)&&decide (s<x.places.l.length))=true:=by rw[Bool.and_eq_true,g.len];exact⟨zT,zT⟩
 refine Z ?_;intro M L K z;refine Z ?_;refine Zc f ?_ (s:=Uf G _ _ _ _ _);refine Zg t1 ?_;refine Zc f ?_ (s:=Uf G _ _ _ _ _);refine Zg H ?_;obtain⟨nv,R,rfl,u,y,t,_⟩:=g.at j h;refine Zp ⟨λ_=>.top,λi=>if i=9 then .any else .pure⟩ zk f zk zk ?_;simp -implicitDefEqProofs only[go_sem,seval,y,u,Uw,S0,@Int.natCast_nonneg,@Int.ofNat_lt];refine CallA.inl [(52,.dead),(53,.dead)] zk ?_ ((Kg G (Mz _ _ _ _) _).mono ?_);intro p E;simp only[List.mem_cons,List.not_mem_nil,or_false]at E
 rcases E with rfl|rfl<;>rfl
 rintro w H' ⟨N,A,rfl,P,O⟩;simp -implicitDefEqProofs only[go_sem,seval,Z6,P,O,t];refine AW.block ?_
 refine Pt 50 100 190 150 (λo=>Z3 (Z3 (Z3 (Z3 Zi 103 (.cells .new M 0 [Mz b c d x])) 104 (.cells .new L 0 [.int .i64 nv])) 105 (.cells .new K 0 [.int .i64 s])) 106 (.cells .new z 0 [.bool (o.getD false)])) (λ_ k=>if m.bothB (nv:Int) s k=true then some (m.regU (nv:Int) k != m.regU s k)else none) anO (λ_ k=>0<=k/\k<m.vertices.length) none rfl
  (λl Q=>A6 G f b c d x m a g _ (a.ar1 j h) N A _ zp zp) ?_ (Pm rfl λk J _=>Fb a (a.ar1 j h) k J) ?_ ?_
 refine Zs ?_;exact Yq _ _ _ rfl
 .rintro l Y o k hr ⟨k0,k1⟩ hj
  cases o;rotate_left;cases hj;refine Zs ?_;refine AW.region zk ?_;refine Zs ?_;intro Z _;refine AW.block ?_
  repeat refine Z4 ?_
  refine Zp ⟨λi=>if i=3 then .int .i64 (m.regU (nv:Int) k)else .int .i64 (m.regU s k),λ_=>.pure⟩ zk f zk zk ?_;refine Zs ?_;refine⟨⟨zk,?_⟩,⟨zk,?_⟩,?_⟩;simp -implicitDefEqProofs only[go_sem,seval,List.map_nil,List.map_cons]
  exact(D3 G f _ _ _ _ m a (g.rc _) _ _ j h k0).mono λv _ e=>by rw[e]<;>rfl
  simp -implicitDefEqProofs only[go_sem,seval,List.map_nil,List.map_cons]
  exact(D3 G f _ _ _ _ m a (g.rc _) _ _ C B k0).mono λv _ e=>by rw[e]<;>rfl
  by_cases U:0<=m.regU (nv:Int) k
  have n:decide (m.regU (nv:Int) k>=0)=true:=zT
  by_cases T:0<=m.regU s k
  have r:decide (m.regU s k>=0)=true:=zT
  have q:m.bothB (nv:Int) s k=true:=by unfold PM.bothB;rw[Bool.and_eq_true];exact⟨zT,zT⟩
  refine Zf (zi q (zi n r)) ?_;refine AW.ret ?_;refine Xw q ?_;exact⟨rfl,Zk5⟩;have r:decide (m.regU s k>=0)=false:=zF
  have q:m.bothB (nv:Int) s k=false:=by unfold PM.bothB;rw[Bool.and_eq_false_iff];exact .inr zF
  refine Zf (zi q (zi n r)) ?_;exact⟨rfl,Yq _ _ _ rfl⟩;have n:decide (m.regU (nv:Int) k>=0)=false:=zF
  have q:m.bothB (nv:Int) s k=false:=by unfold PM.bothB;rw[Bool.and_eq_false_iff];exact .inl zF
  refine Zf (zi q n) ?_;exact⟨rfl,Yq _ _ _ rfl⟩
 rintro W I D F S;rw[Oh]at D;rw[<- D];cases I;refine AW.weak (Weak.rng (l:=[(6,.ptr 106 z 0)]) F ⟨rfl,trivial⟩) ?_;refine Z ?_;rfl;refine AW.weak (Weak.rng (l:=[(6,.ptr 106 z 0)]) F ⟨rfl,trivial⟩) ?_;refine Z ?_;rfl
end Go.Hs
end
