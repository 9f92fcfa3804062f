/- A part. No condition. -/
import Derived.Lib.ParseIntB
import Derived.Lib.ItoaNum
import Derived.Lib.Index
import Derived.Lib.IndexMore
import Derived.Lib.ParseIntBCases
import Derived.Test.YtkennpiglkfalaaGreatDoorP28
import Derived.Test.YtkennpiglkfalaaGreatDoorP23
import Derived.Lib.Mul64
import Derived.Test.YtkennpiglkfalaaGreatDoorChecked
import Derived.Shelf.Strconv.ParseIntPublic10
import Derived.Shelf.Strconv.ErrVarParseInt
import Derived.Shelf.Strconv.Itoa4
import Derived.Shelf.Strings.Prefix
import Derived.Ground.NamesProg
set_option linter.all false
open List renaming length->aa
open Bool renaming false->ab,true->ad
open Option renaming some->ae
open Go.Proofs.Tryz
open Go.Lib renaming contains->aI
open UInt8 renaming ofNat->aJ
section
namespace Go.Hs
def LW:Nat->Nat->List Nat
 |0,_=>[]|f+1,n=>if n=0 then[]else(n%10)::LW f (n/10)
def dg(n:Nat):List Nat:=LW n n
def gH:∀ (f f' n:Nat),n<=f->n<=f'->LW f n=LW f' n
 |0,f',n,h,_=>by have:n=0:=zo;subst this;cases f'<;>simp[LW]
 |f+1,0,n,_,h=>by have:n=0:=zo;subst this;simp[LW]
 |f+1,f'+1,n,h,h'=>by simp only[LW];split;rfl;rw[gH f f' (n/10) (by omega) (by omega)]
def ZH:dg 0=[]:=rfl
def RR{n:Nat}(h:0<n):dg n=(n%10)::dg (n/10):=by obtain⟨k,rfl⟩:∃ k,n=k+1:=⟨n-1,by omega⟩;show LW (k+1) (k+1)=_;rw[LW,gH k ((k+1)/10) _ (by omega) ql];rfl
def val:List Nat->Nat
 |[]=>0|d::r=>d+10*val r
def Ai:∀ (a b:List Nat),val (a++b)=val a+10^aa a*val b
 |[],b=>by simp[val]|d::a,b=>by rw[LG,val,Ai a b,val,CW,cW];grind
def LB(l:List Nat):Prop:=∀ d∈l,d<10
def jf:∀ {l:List Nat},LB l->val l<10^aa l
 |[],_=>by simp[val]|d::r,h=>by have b:=jf (l:=r) λx a=>h x zG;have h2:=h d (by simp);rw[val,CW];omega
def AC4(n:Nat):val (dg n)=n:=by induction n using Nat.strongRecOn with|_ n ih=>rcases MI n with h|h;subst h;rfl;rw[RR h,val,ih (n/10) (by omega)];omega
def ABs(n:Nat):LB (dg n):=by induction n using Nat.strongRecOn with|_ n ih=>rcases MI n with h|h;subst h;intro d a;simp[ZH]at a;rw[RR h];intro d a;rcases BY.1 a with rfl|a;omega;exact ih (n/10) (by omega) d a
def ft:∀ {l:List Nat},LB l->(∀ d,l.getLast?=ae d->d≠0)->dg (val l)=l
 |[],_,_=>rfl|d::r,h,hl=>by
  have n:=h d (by simp);have f:LB r:=λx k=>h x zG;rcases hrn:r with _|⟨x,s⟩;subst hrn;have:=hl d (by simp);rw[val,val,RR (by omega)];have i:(d+10*0)%10=d:=zo;have g:(d+10*0)/10=0:=zo;rw[i,g,ZH];rw[<- hrn];have a:r≠[]:=zG;have b:∀ y,r.getLast?=ae y->y≠0:=λy j=>hl y zG;have e:=ft f b;have m:0<val r:=by rcases MI (val r)with c|c;rw[c]at e;exact absurd e.symm a;exact c
  rw[val,RR (by omega)];grind
def Cz:Nat->List Nat->List Nat
 |0,l=>l|n+1,l=>if l.getLast?=ae 0 then Cz n l.dropLast else l
def dZ:∀ (n:Nat) (l:List Nat),aa l<=n->LB l->Cz n l=dg (val l)
 |0,l,h,_=>by have:l=[]:=GL.1 (by omega);subst this;rfl
 |n+1,l,h,hd=>by
  rw[Cz];split;rename_i d;have a:l≠[]:=zG;have e:l=l.dropLast++[0]:=by have:=lW a;grind
  have c:val l=val l.dropLast:=by
   conv=>lhs;rw[e]
   rw[Ai];simp[val]
  rw[dZ n l.dropLast zG (λx b=>hd x (List.dropLast_subset _ b)),c];rename_i d;rw[ft hd];grind
def ABr{n k:Nat}(h:n<10^k):aa (dg n)<=k:=by induction k generalizing n with|zero=>have:n=0:=zG;subst this;simp[ZH]|succ k ih=>rcases MI n with a|a;grind;rw[RR a,CW];grind
def I6(x:Int):Bool:=decide (-9223372036854775808<=x/\x<=9223372036854775807)
def Hp(x:Int):Int×Int:=if I6 x then(x,0)else(0,60)
def Yz(c:UInt8):Bool:=48<=c.toNat&&c.toNat<=57
def Sw(c:UInt8):Nat:=c.toNat-48
def Vz(s:bS):Int×Int:=
 let below:=s.head? == ae 45;let t:=if below then s.drop 1 else s
 if t=[]\/(t.head?=ae 48/\(aa t>1\/below=ad))\/t.all Yz=ab then(0,2)
 else Hp (if below then -(val (t.reverse.map Sw):Int)else val (t.reverse.map Sw))
open Go
structure Tk where
 AD:Int
 BG:bS
 pos:Int
 deriving DecidableEq,Inhabited
def S1(c:UInt8):Bool:=c==95||(decide (97<=(c.toNat ||| 32))&&decide ((c.toNat ||| 32)<=122))
def Vt(c:UInt8):Bool:=S1 c||Yz c
def Su(c:UInt8):Bool:=c==32||(decide (9<=c.toNat)&&decide (c.toNat<=10))||c==13
def Ox(c:UInt8):Bool:=!(c==10)
def Wu(p:UInt8->Bool):bS->Nat
 |[]=>0|c::r=>if p c then Wu p r+1 else 0
def Ib(p:UInt8->Bool)(c:UInt8)(r:bS):Wu p (c::r)=if p c then Wu p r+1 else 0:=rfl
def Qy(p:UInt8->Bool):∀ s,Wu p s<=aa s
 |[]=>BO _|c::r=>by have:=Qy p r;unfold Wu;grind
def Xa(p s:bS):Bool:=p.isPrefixOf s
def Tz(s:bS):Xa [] s=ad:=by rfl
def Qn(a:UInt8)(p:bS):Xa (a::p) []=ab:=rfl
def Wr(a c:UInt8)(p s:bS):Xa (a::p) (c::s)=(a==c&&Xa p s):=rfl
def LS:Nat->bS->Nat
 |0,_=>0|_+1,[]=>0|f+1,c::r=>if Su c then LS f r+1 else if Xa [45,45] (c::r)then Wu Ox (c::r)+LS f ((c::r).drop (Wu Ox (c::r)))else 0
def blk(s:bS):Nat:=LS (aa s) s
def Oh{s:bS}(h:Xa [45,45] s=ad):2<=Wu Ox s/\2<=aa s:=by match s with|[]=>simp[Xa]at h|[_]=>simp[Xa]at h|a::b::r=>simp[Xa]at h;obtain⟨rfl,rfl⟩:=h;simp[Wu,Ox]
def W3:∀ (f f':Nat) (s:bS),aa s<=f->aa s<=f'->LS f s=LS f' s
 |0,f',s,h,_=>by have:s=[]:=GL.1 (by omega);subst this;cases f'<;>rfl
 |f+1,0,s,_,h=>by have:s=[]:=GL.1 (by omega);subst this;rfl
 |f+1,f'+1,[],_,_=>rfl|f+1,f'+1,c::r,h,h'=>by simp only[CW]at h h';unfold LS;split;rw[W3 f f' r (by omega) (by omega)];split;rename_i a;have:=Oh a;rw[W3 f f' _ zG zG];rfl
def UB{c:UInt8}{r:bS}(h:Su c=ad):blk (c::r)=blk r+1:=by unfold blk;rw[CW,LS,AF h]
def Av{s:bS}(h:Xa [45,45] s=ad):blk s=Wu Ox s+blk (s.drop (Wu Ox s)):=by
 match s with
 |[]=>rfl|c::r=>
  have a:Su c=ab:=by rcases r with _|⟨d,r⟩;simp[Xa]at h;simp[Xa]at h;rw[<- h.1];decide
  have:=Oh h;unfold blk;rw[CW,LS,AA zG,AF h];rw[W3 (aa r) _ _ zG ql]
def UA{c:UInt8}{r:bS}(h:Su c=ab)(h2:Xa [45,45] (c::r)=ab):blk (c::r)=0:=by unfold blk;rw[CW,LS,AA zG,AA zG]
def RB(s:bS):blk s<=aa s:=by
 have a:∀ (n:Nat) (s:bS),aa s<=n->blk s<=aa s:=by
  intro n
  induction n with
  |zero=>intro s h;have:s=[]:=GL.1 (by omega);subst this;exact BO _|succ n ih=>
   intro s h
   match s with|[]=>grind|c::r=>cases d:Su c;cases b:Xa [45,45] (c::r);rw[UA d b];grind;have e:=Oh b;have h2:=Qy Ox (c::r);rw[Av b];grind;rw[UB d];grind
 exact a (aa s) s ql
def T_(s:bS):Prop:=∀ c r,s=c::r->Su c=ab/\Xa [45,45] s=ab
def iw(s:bS):T_ (s.drop (blk s)):=by
 have a:∀ (n:Nat) (s:bS),aa s<=n->T_ (s.drop (blk s)):=by
  intro n
  induction n with
  |zero=>intro s h;have:s=[]:=GL.1 (by omega);subst this;intro c r e;grind|succ n ih=>
   intro s h
   match s with|[]=>grind|c::r=>cases d:Su c;cases b:Xa [45,45] (c::r);rw[UA d b];intro i f e;grind;have g:=Oh b;rw[Av b,<- NM];grind;rw[UB d];grind
 exact a (aa s) s ql
def signsL:List bS:=[[58,61],[60,62],[60,61],[62,61],[60],[62],[61],[43],[45],[42],[40],[41],[44],[59]]
def wordsL:List bS:=[[97,110,100],[100,105,118],[101,108,115,101],[101,109,105,116],[101,110,100,105,102],[102,97,108,115,101],[105,102],[105,109,112,108,105,101,115],[109,111,100],[110,111,116],[111,114],[116,104,101,110],[116,114,117,101],[120,111,114]]
def jC:bS:=32::wordsL.flatMap (· ++ [32])
def Xp(s:bS):Nat×Nat:=
 match s with
 |[]=>(0,0)|c::_=>
  if Xa [45,45] s then(0,0)
  else if Yz c then(Wu Yz s,1)
  else if S1 c then(Wu Vt s,if wordsL.contains (s.take (Wu Vt s))then 3 else 2)
  else match signsL.find? (Xa · s)with|some t=>(aa t,4)|none=>(0,0)
def Tc(s:bS):Nat:=if(Xp s).1≠aa s\/(Xp s).1>64 then 0 else(Xp s).2
def Pe(c:UInt8)(r:bS):Xp (c::r) =
  if Xa [45,45] (c::r)then(0,0)
  else if Yz c then(Wu Yz (c::r),1)
  else if S1 c then(Wu Vt (c::r),if wordsL.contains ((c::r).take (Wu Vt (c::r)))then 3 else 2)
  else match signsL.find? (Xa · (c::r))with|some t=>(aa t,4)|none=>(0,0):=rfl
def dl(s:bS):(Xp s).1<=aa s:=by unfold Xp;split;grind;split;grind;split;exact Qy _ _;split;exact Qy _ _;split;rename_i h;have:=cD h;exact(List.isPrefixOf_iff_prefix.1 this).length_le;grind
def Un:Nat->bS->Nat->List Tk->List Tk×Int×Int
 |0,_,_,acc=>(acc,0,0)|f+1,s,i,acc=>
  if i<aa s then
   if(Xp (s.drop i)).1=0\/(Xp (s.drop i)).1>64 then([],i,70)
   else Un f s (i+(Xp (s.drop i)).1+blk (s.drop (i+(Xp (s.drop i)).1))) (acc++[⟨(Xp (s.drop i)).2,(s.drop i).take (Xp (s.drop i)).1,i⟩])
  else(acc,0,0)
def Yr(s:bS):List Tk×Int×Int:=if aa s>65536 then([],0,3)else Un (aa s+1) s (blk s) []
def eZ:∀ (f f':Nat) (s:bS) (i:Nat) (acc:List Tk),aa s<f+i->aa s<f'+i->Un f s i acc=Un f' s i acc
 |0,f',s,i,acc,h,_=>by rcases f' with _|f';rfl;rw[Un,Un,AA (by omega)]
 |f+1,0,s,i,acc,_,h=>by rw[Un,Un,AA (by omega)]|f+1,f'+1,s,i,acc,h,h'=>by unfold Un;split;split;rfl;exact eZ f f' _ _ _ (by omega) (by omega);rfl
def gB{f:Nat}{s:bS}{i:Nat}{acc:List Tk}(h:i<aa s)(b:aa s<f+i)(a:¬((Xp (s.drop i)).1=0\/(Xp (s.drop i)).1>64)):Un f s i acc=Un f s (i+(Xp (s.drop i)).1+blk (s.drop (i+(Xp (s.drop i)).1))) (acc++[⟨(Xp (s.drop i)).2,(s.drop i).take (Xp (s.drop i)).1,i⟩]):=by rcases f with _|f;omega;rw[Un,AF h,AA a];exact eZ _ _ _ _ _ (by omega) (by omega)
def dW{f:Nat}{s:bS}{i:Nat}{acc:List Tk}(h:i<aa s)(b:aa s<f+i)(a:(Xp (s.drop i)).1=0\/(Xp (s.drop i)).1>64):Un f s i acc=([],(i:Int),70):=by rcases f with _|f;omega;rw[Un,AF h,AF a]
def dO{f:Nat}{s:bS}{i:Nat}{acc:List Tk}(h:¬i<aa s):Un f s i acc=(acc,0,0):=by rcases f with _|f;rfl;rw[Un,AA h]
def Vr(s:bS):Nat:=
 if signsL.contains s then 4 else if wordsL.contains s then 3 else match s with|[]=>0|c::_=>if s.all Yz then 1 else if S1 c&&s.all Vt then 2 else 0
def RE(p:UInt8->Bool)(h:(List.range 256).all (λn=>p (aJ n))=ad)(c:UInt8):p c=ad:=by have h2:=ER.1 h c.toNat (DC.2 c.toNat_lt);simp_all
def XC{c:UInt8}(h:Yz c=ad):S1 c=ab/\Vt c=ad:=by revert h;unfold Vt;have:=RE (λc => !Yz c||(!S1 c&&(S1 c||Yz c))) (by decide +kernel) c;grind
def Ob{p:UInt8->Bool}:∀ {s:bS},(Wu p s=aa s)=(s.all p=ad)
 |[]=>by simp[Wu]|c::r=>by unfold Wu;rw[HQ,BP,<- Ob (s:=r)];grind
def De{p:UInt8->Bool}:∀ (s:bS) (k:Nat),Wu p (s.take k)=min k (Wu p s)
 |[],k=>by simp[Wu]|c::r,0=>by rfl|c::r,k+1=>by rw[HC];unfold Wu;split;rw[De r k];omega;simp
def Gy:∀ w∈wordsL,w.all Vt=ad/\w≠[]/\(∀ c∈w.head?,S1 c=ad):=by decide +kernel
def Fe:∀ w∈signsL,w≠[]/\aa w<=2/\(∀ c∈w,Vt c=ab):=by decide +kernel
def G0{c:UInt8}{r:bS}(h:Yz c=ad):Vr (c::r)=if(c::r).all Yz then 1 else 0:=by
 have d:=XC h;have h2:signsL.contains (c::r)=ab:=by rw[FV];intro a;have:=(Fe (c::r) zG).2.2 c (by simp);grind
 have b:wordsL.contains (c::r)=ab:=by rw[FV];intro a;have:=(Gy (c::r) zG).2.2 c (by simp);grind
 unfold Vr;grind
def Gz{c:UInt8}{r:bS}(h:S1 c=ad):Vr (c::r)=if(c::r).all Vt then(if wordsL.contains (c::r)then 3 else 2)else 0:=by
 have g:Yz c=ab:=by rw[FV];intro b;rw[(XC b).1]at h;cases h
 have e:Vt c=ad:=by unfold Vt;rw[h];rfl
 have h2:signsL.contains (c::r)=ab:=by rw[FV];intro f;have:=(Fe (c::r) zG).2.2 c (by simp);grind
 have d:(c::r).all Yz=ab:=zG;unfold Vr;simp only[h2,d,h,DJ];by_cases a:wordsL.contains (c::r)=ad;rw[AA (by simp),AF a,AF ((Gy _ zG).1),AF a];grind
def P9{c:UInt8}{r:bS}(h:Vt c=ab):Vr (c::r)=if signsL.contains (c::r)then 4 else 0:=by
 have d:S1 c=ab/\Yz c=ab:=by unfold Vt at h;simpa using h
 have h2:wordsL.contains (c::r)=ab:=by rw[FV];intro a;have:=(Gy (c::r) zG).2.2 c (by simp);grind
 have b:(c::r).all Yz=ab:=zG;unfold Vr;grind
def contains_nil(c:UInt8)(q:bS):aI [] (c::q)=ab:=by rfl
def contains_cons(b:UInt8)(l p:bS):aI (b::l) p=(p.isPrefixOf (b::l)||aI l p):=by unfold aI;rw[Lib.index];grind
def gG:∀ (w v rest:bS),(∀ c∈w,c≠32)->(∀ c∈v,c≠32)->(w++[32]).isPrefixOf (v++32::rest)=(w==v)
 |[],[],rest,_,_=>by simp|[],b::v,rest,_,hv=>by grind
 |a::w,[],rest,hw,_=>by grind
 |a::w,b::v,rest,hw,hv=>by have:=gG w v rest (λc d=>hw c zG) (λc d=>hv c zG);grind
def Hd(q:bS):∀ (v l:bS),(∀ c∈v,c≠32)->aI (v++l) (32::q)=aI l (32::q)
 |[],_,_=>rfl|b::v,l,hv=>by have d:=hv b (by simp);rw[LG,contains_cons,Hd q v l λc a=>hv c zG];grind
def Ju(w:bS)(a:∀ c∈w,c≠32):∀ (Ws:List bS),(∀ v∈Ws,∀ c∈v,c≠32) ->
  aI (32::Ws.flatMap (· ++ [32])) (32::(w++[32]))=Ws.contains w
 |[],_=>by cases w;rfl;rfl
 |v::Ws,h=>by have b:=h v (by simp);rw[FY,contains_cons,DH,Hd _ _ _ b,cR,Ju w a Ws λx d=>h x zG];congr 1;exact gG w v _ a b
def ik{c:UInt8}(h:Vt c=ad):c≠32:=by rintro rfl;revert h;decide
def A3(w:bS)(b:w.all Vt=ad):aI jC (32::(w++[32]))=wordsL.contains w:=by
 rw[ER]at b;exact Ju w (λc a=>ik (b c a)) wordsL λv d c a=>by have:=(Gy v d).1;rw[ER]at this;exact ik (this c a)
def Qz(p:UInt8->Bool):∀ s:bS,(s.take (Wu p s)).all p=ad
 |[]=>rfl|c::r=>by unfold Wu;split;rename_i h;rw[HC,HQ,h,Qz p r];rfl;rfl
def Ex(c:UInt8):Yz c=ad\/(Yz c=ab/\S1 c=ad)\/(Vt c=ab/\Yz c=ab/\S1 c=ab):=by unfold Vt;grind
def MS(s:bS):Nat:=match signsL.find? (Xa · s)with|some t=>aa t|none=>0
def Ir{c:UInt8}{r:bS}(h:Yz c=ad):Xp (c::r)=(Wu Yz (c::r),1):=by
 have a:Xa [45,45] (c::r)=ab:=by
  have:(45==c)=ab:=by rw[FD];rintro rfl;revert h;decide
  rw[Wr,this];rfl
 rw[Pe,AA zG,AF h]
def Ec{c:UInt8}{r:bS}(h:S1 c=ad):Xp (c::r)=(Wu Vt (c::r),if wordsL.contains ((c::r).take (Wu Vt (c::r)))then 3 else 2):=by
 have b:Xa [45,45] (c::r)=ab:=by
  have:(45==c)=ab:=by rw[FD];rintro rfl;revert h;decide
  rw[Wr,this];rfl
 have h2:Yz c=ab:=by rw[FV];intro a;rw[(XC a).1]at h;cases h
 rw[Pe,AA zG,AA zG,AF h]
def Mi{c:UInt8}{r:bS}(h:Vt c=ab)(b:Xa [45,45] (c::r)=ab):Xp (c::r)=(MS (c::r),if MS (c::r)=0 then 0 else 4):=by
 have h2:S1 c=ab/\Yz c=ab:=by unfold Vt at h;simpa using h
 unfold MS;rw[Pe,AA zG,AA zG,AA zG];rcases a:signsL.find? (Xa · (c::r)) with _|t;rfl;have:=cP a;have:=(Fe t this).1;simp[this]
def ki:∀ (L:List bS) (c:UInt8),(∀ t∈L,t≠[])->(match L.find? (Xa · [c])with|some t=>aa t|none=>0)=if L.contains [c]then 1 else 0
 |[],c,_=>rfl|t::L,c,h=>by
  have d:=ki L c λx f=>h x zG;rw[QE,JR]
  match t,h t (by simp)with
  |[a],_=>
   by_cases e:a=c;subst e;simp[Wr,Tz];have:Xa [a] [c]=ab:=by simp[Wr,e]
   grind
  |a::b::r,_=>
   have:Xa (a::b::r) [c]=ab:=by simp[Wr,Qn]
   grind
def Cf:∀ (L M:List bS) (c d:UInt8) (r:bS),(∀ t∈L,aa t=2)->(∀ t∈M,aa t=1) ->
  (match(L++M).find? (Xa · (c::d::r))with|some t=>aa t|none=>0)=if L.contains [c,d]then 2 else if M.contains [c]then 1 else 0
 |[],[],c,d,r,_,_=>rfl|[],t::M,c,d,r,hL,hM=>by
  have f:=Cf [] M c d r hL λx g=>hM x zG;rw[QK]at f⊢
  match t,hM t (by simp)with
  |[a],_=>
   rw[QE,JR];by_cases e:a=c;subst e;simp[Wr,Tz,Qn];have:Xa [a] (c::d::r)=ab:=by simp[Wr,Tz,Qn,e]
   rw[this];have:(([c]:bS)==[a])=ab:=by simpa using λh=>e h.symm
   rw[this,CH];exact f
 |t::L,M,c,d,r,hL,hM=>by
  have f:=Cf L M c d r (λx g=>hL x (by simp[g])) hM
  match t,hL t (by simp)with
  |[a,b],_=>
   rw[LG,QE,JR];by_cases e:a=c/\b=d;obtain⟨rfl,rfl⟩:=e;simp[Wr,Tz,Qn];have:Xa [a,b] (c::d::r)=ab:=by simpa[Wr,Tz,Qn]using e
   rw[this];have:(([c,d]:bS)==[a,b])=ab:=by simpa using λi h2=>e ⟨i.symm,h2.symm⟩
   rw[this,CH];exact f
def sg2:List bS:=[[58,61],[60,62],[60,61],[62,61]]
def sg1:List bS:=[[60],[62],[61],[43],[45],[42],[40],[41],[44],[59]]
def YG(c:UInt8):MS [c]=if signsL.contains [c]then 1 else 0:=ki signsL c λt a=>(Fe t a).1
def Fg(c d:UInt8)(r:bS):MS (c::d::r)=if sg2.contains [c,d]then 2 else if sg1.contains [c]then 1 else 0:=Cf sg2 sg1 c d r zd zd
def Oq(x:bS):signsL.contains x=(sg2.contains x||sg1.contains x):=by show(sg2++sg1).contains x=_;simp
def eg{x:bS}(h:aa x≠1):sg1.contains x=ab:=by rw[FV];intro a;have:∀ t∈sg1,aa t=1:=zd;grind
def eN{x:bS}(h:aa x≠2):sg2.contains x=ab:=by rw[FV];intro a;have:∀ t∈sg2,aa t=2:=zd;grind
def kL{c:UInt8}(h:Vt c=ab):Vr [c]=if sg1.contains [c]then 4 else 0:=by rw[P9 h,Oq,eN (by simp),CH]
def E7{c d:UInt8}(h:Vt c=ab):Vr [c,d]=if sg2.contains [c,d]then 4 else 0:=by rw[P9 h,Oq,eg (by simp),DZ]
def A5{c d e:UInt8}{r:bS}(h:Vt c=ab):Vr (c::d::e::r)=0:=by rw[P9 h,Oq,eg (by simp),eN (by simp)];rfl
def jX(s:bS):Tc s=if aa s>64 then 0 else Vr s:=by
 have f:(if(Xp s).1≠aa s then 0 else(Xp s).2)=Vr s:=by
  match s with
  |[]=>rfl|c::r=>
   rcases Ex c with h|⟨_,h⟩|⟨h,_⟩;rw[Ir h,G0 h];by_cases a:(c::r).all Yz=ad;rw[AF a,AA (by rw[ne_eq,Decidable.not_not,Ob];exact a)];rw[AA a,AF (by rw[ne_eq,Ob];exact a)];rw[Ec h,Gz h];by_cases a:(c::r).all Vt=ad;have g:Wu Vt (c::r)=aa (c::r):=by rw[Ob];exact a
   rw[AF a,g,B_,AA (by simp)];rw[AA a,AF (by rw[ne_eq,Ob];exact a)]
   .match r with
    |[]=>rw[Mi h (by simp[Wr,Tz,Qn]),YG,P9 h];generalize signsL.contains [c]=x;cases x<;>simp|[d]=>
     rw[E7 h];cases b:Xa [45,45] [c,d];rw[Mi h b,Fg];generalize sg2.contains [c,d]=x;generalize sg1.contains [c]=y;cases x<;>cases y<;>simp;have:c=45/\d=45:=by rw[Wr,Wr,Tz,IX,BP,CX,CX]at b;exact⟨b.1.symm,b.2.symm⟩
     obtain⟨rfl,rfl⟩:=this;decide
    |d::e::r=>
     rw[A5 h];cases b:Xa [45,45] (c::d::e::r);rw[Mi h b,Fg];generalize sg2.contains [c,d]=x;generalize sg1.contains [c]=y;cases x<;>cases y<;>simp;have:Xp (c::d::e::r)=(0,0):=by rw[Pe,AF b]
     rw[this];simp
 unfold Tc;grind
def Se(s:bS):Nat->Nat
 |0=>0|k+1=>if k=0 then 0 else if Vr (s.take k)=0 then Se s k else k
def D1(s:bS):Se s 1=0:=by rfl
def Qk(s:bS){k:Nat}(a:1<=k):Se s (k+1)=if Vr (s.take k)=0 then Se s k else k:=by rw[Se,AA (by omega)]
def A4{c:UInt8}{r:bS}(h:Yz c=ad){k:Nat}(d:1<=k)(b:k<=aa (c::r)):Vr ((c::r).take k)≠0↔k<=Wu Yz (c::r):=by
 obtain⟨k,rfl⟩:∃ j,k=j+1:=⟨k-1,by omega⟩;have:(c::r).take (k+1)=c::r.take k:=rfl;rw[this,G0 h,<- this];have a:aa ((c::r).take (k+1))=k+1:=zG;have e:((c::r).take (k+1)).all Yz=ad↔k+1<=Wu Yz (c::r):=by rw[<- Ob,De];omega
 grind
def yv{c:UInt8}{r:bS}(h:S1 c=ad){k:Nat}(d:1<=k)(b:k<=aa (c::r)):Vr ((c::r).take k)≠0↔k<=Wu Vt (c::r):=by
 obtain⟨k,rfl⟩:∃ j,k=j+1:=⟨k-1,by omega⟩;have:(c::r).take (k+1)=c::r.take k:=rfl;rw[this,Gz h,<- this];have a:aa ((c::r).take (k+1))=k+1:=zG;have e:((c::r).take (k+1)).all Vt=ad↔k+1<=Wu Vt (c::r):=by rw[<- Ob,De];omega
 grind
def D0{s:bS}{R:Nat}(h:∀ k,1<=k->k<=aa s->(Vr (s.take k)≠0↔k<=R)):∀ k,1<=k->k<=aa s+1->Se s k=min (k-1) R
 |0,h0,_=>by omega|1,_,_=>by rfl|k+2,_,hk=>by rw[Qk s (by omega),D0 h (k+1) (by omega) (by omega)];grind
def gT{c:UInt8}(h:Vt c=ab){r:bS}:∀ k,3<=k->k<=aa (c::r)+1->Se (c::r) k=MS (c::r)
 |0,h0,_=>by omega|1,h0,_=>by omega|2,h0,_=>by omega|3,_,hk=>by match r with|[]=>grind|d::r=>rw[Qk _ (by omega),Qk _ (by omega),D1,Fg];simp only[HC,HZ,E7 h,kL h];grind
 |k+4,_,hk=>by
  rw[Qk _ (by omega),gT h (k+3) (by omega) (by omega)]
  match r with|[]=>grind|[_]=>grind|d::e::r=>rw[AF];rw[HC,HC,HC,A5 h]
def me{s:bS}(j:s≠[])(l:Xa [45,45] s=ab){k:Nat}(i:1<=k)(h2:k<=aa s+1)(e:k=aa s+1\/(3<=k/\Se s k≠k-1)):Se s k=(Xp s).1:=by
 match s,j with
 |c::r,_=>
  rcases Ex c with h|⟨_,h⟩|⟨h,_⟩;have f:=D0 (s:=c::r) (R:=Wu Yz (c::r)) λk a b=>A4 h a b;rw[Ir h];have g:=f k i h2;have m:=Qy Yz (c::r);grind;have f:=D0 (s:=c::r) (R:=Wu Vt (c::r)) λk a b=>yv h a b;rw[Ec h];have g:=f k i h2;have m:=Qy Vt (c::r);grind;rw[Mi h l];by_cases g:3<=k;exact gT h k g h2
  .have e:k=aa (c::r)+1:=by rcases e with e|e;exact e;omega
   match r with|[]=>simp at e;subst e;rw[Qk _ (by omega),D1,YG];simp only[HC,HZ,P9 h];cases signsL.contains [c]<;>simp|d::r=>simp at e;omega
def gi(s:bS):∀ k,Se s k<=k
 |0=>BO _|k+1=>by have:=gi s k;rw[Se];grind
def xW{s:bS}(i:Xa [45,45] s=ab)(a:(Xp s).1≠0):Vr (s.take (Xp s).1)=(Xp s).2/\(Xp s).2≠0:=by
 match s with
 |[]=>exact absurd rfl a|c::r=>
  rcases Ex c with h|⟨_,h⟩|⟨h,_⟩;have e:=Ir (r:=r) h;rw[e]at a⊢;obtain⟨k,g⟩:∃ j,Wu Yz (c::r)=j+1:=⟨Wu Yz (c::r)-1,by omega⟩;have h2:=Qz Yz (c::r);refine⟨?_,by simp⟩;rw[g]at h2⊢;rw[HC]at h2⊢;rw[G0 h,AF h2];have e:=Ec (r:=r) h;rw[e]at a⊢;obtain⟨k,g⟩:∃ j,Wu Vt (c::r)=j+1:=⟨Wu Vt (c::r)-1,by omega⟩;have h2:=Qz Vt (c::r);refine⟨?_,by grind⟩;rw[g]at h2⊢;rw[HC]at h2⊢;rw[Gz h,AF h2]
  .have e:=Mi (r:=r) h i;rw[e]at a⊢;refine⟨?_,by grind⟩
   match r with|[]=>rw[YG]at a⊢;cases f:signsL.contains [c];grind;rw[AF rfl,HC,HZ,P9 h,f];rfl|d::r=>rw[Fg]at a⊢;cases f:sg2.contains [c,d];rw[f]at a;rw[AA (by simp)]at a⊢;cases b:sg1.contains [c];rw[b]at a;simp at a;rw[AF rfl,HC,HZ,kL h,b];rfl;rw[AF rfl,HC,HC,HZ,E7 h,f];rfl
def Nu(s:bS):Bool:=
 let t:=Lib.trimPrefix s [45]
 t.all Yz&&(s==[48]||(!(t==[]) && !(t.head? == ae 48)))
def JM(acc:Nat)(l:bS):Nat:=l.foldl (λa c=>a*10+Sw c) acc
def fh:∀ (l:bS) (acc:Nat),JM acc l=acc*10^aa l+val (l.reverse.map Sw)
 |[],acc=>by simp[JM,val]|c::r,acc=>by have:=fh r (acc*10+Sw c);rw[show JM acc (c::r)=JM (acc*10+Sw c) r from rfl,this,List.reverse_cons,DL,Ai,CW,cW,BC,List.length_reverse];simp only[BI,BV,val,Nat.mul_zero,GN];grind
def dP:∀ (l:bS) (acc:Nat),acc<=JM acc l
 |[],acc=>BO _|c::r,acc=>by have:=dP r (acc*10+Sw c);rw[show JM acc (c::r)=JM (acc*10+Sw c) r from rfl];omega
def K8:∀ (l:bS) (acc:Nat),l.all Yz=ad->acc<=18446744073709551615 ->
  Lib.parseUintM 18446744073709551615 acc l=if JM acc l<=18446744073709551615 then .ok (JM acc l)else .range
 |[],acc,_,h=>by simp[Lib.parseUintM,JM,h]|c::r,acc,hd,h=>by
  rw[HQ,BP]at hd;have d:48<=c.toNat/\c.toNat<=57:=by have:=hd.1;unfold Yz at this;grind
  have a:=dP r (acc*10+Sw c);have b:Sw c=c.toNat-48:=rfl;rw[Lib.parseUintM,AF d,show JM acc (c::r)=JM (acc*10+Sw c) r from rfl];by_cases e:1844674407370955162<=acc;grind;rw[AA e];by_cases h2:18446744073709551615<acc*10+(c.toNat-48);grind;rw[AA h2];exact K8 r _ hd.2 (by omega)
def K9{l:bS}(a:l≠[])(b:l.all Yz=ad):Lib.parseUintB 64 l=if val (l.reverse.map Sw)<=18446744073709551615 then .ok (val (l.reverse.map Sw))else .range:=by have:=K8 l 0 b (by omega);rw[fh,NS,EE]at this;rw[Lib.parseUintB,AA a];exact this
def cg{x:Int}(h : -9223372036854775808<=x/\x<=9223372036854775807):Hp x=(x,0):=by unfold Hp I6;grind
def eG{x:Int}(h:¬(-9223372036854775808<=x/\x<=9223372036854775807)):Hp x=(0,60):=by unfold Hp I6;grind
def mH(s:bS):Lib.trimPrefix s [45]=if s.head?=ae 45 then s.drop 1 else s:=by rcases s with _|⟨c,r⟩;rfl;unfold Lib.trimPrefix Lib.hasPrefix;grind
def o7(s:bS):(Nu s=ab/\Vz s=(0,2))\/(Nu s=ad/\((∃ v,Lib.parseIntB 64 s=.ok v/\Vz s=(v,0))\/(Lib.parseIntB 64 s=.range/\Vz s=(0,60)))):=by
 rcases s with _|⟨c,r⟩;exact .inl ⟨by decide,rfl⟩;unfold Nu Vz;rw[mH];by_cases i:c=45;subst i;simp only[WE,EN,TG,HB];have j:((ae (45:UInt8))==ae 45)=ad:=rfl;have p:((45::r:bS)==[48])=ab:=by simp
 simp only[j,p,EN,CH];by_cases b:r.all Yz=ad
 .rcases r with _|⟨d,q⟩;left;simp;by_cases f:d=48;subst f;left;simp;right;have o:¬((ae d:Option UInt8)==ae 48)=ad:=by simpa using f
  refine⟨by simp[b,f],?_⟩;rw[AA (by simp only[WE,GI,f,b,bX,reduceCtorEq,false_and,PP,not_false_eq_true])];rw[Lib.parseIntB_minus,K9 (by simp) b];generalize val ((d::q).reverse.map Sw)=m;by_cases l:m<=9223372036854775808;left;refine⟨-(m:Int),?_,cg (by omega)⟩;rw[AF (by omega)];simp only[Lib.signedC];rw[AA (by omega)];right;refine⟨?_,eG (by omega)⟩;by_cases a:m<=18446744073709551615;rw[AF a];simp only[Lib.signedC];rw[AF (by omega)];rw[AA a];rfl
 left;have g:r.all Yz=ab:=by simpa using b
 simp[g];have j:((ae c:Option UInt8)==ae 45)=ab:=by simpa using i
 simp only[WE,j,GI,i,HD,IP];by_cases b:(c::r).all Yz=ad;have k:48<=c.toNat/\c.toNat<=57:=by have:=b;rw[HQ,BP]at this;have:=this.1;unfold Yz at this;simpa using this
 by_cases f:c=48/\r≠[];left;obtain⟨rfl,e⟩:=f;have h:aa (48::r:bS)>1:=by cases r;exact absurd rfl e;simp
 refine⟨by simp[e],?_⟩;rw[AF (.inr (.inl ⟨rfl,.inl h⟩))];right;refine⟨?_,?_⟩;rw[b];by_cases e:c=48;have:r=[]:=by by_cases h2:r=[];exact h2;exact absurd ⟨e,h2⟩ f
 subst e this;rfl;simp[e];rw[AA (by simp only[WE,GI,b,bX,reduceCtorEq,CF,RY,not_and,CW];intro e h2;apply f;refine⟨e,λn=>?_⟩;subst n;simp at h2)]
 rw[Lib.parseIntB_plain 64 c r (by omega) (by omega),K9 (by simp) b];generalize val ((c::r).reverse.map Sw)=m;by_cases l:m<=9223372036854775807;left;refine⟨(m:Int),?_,cg (by omega)⟩;rw[AF (by omega)];simp only[Lib.signlessC];rw[AA (by omega)];right;refine⟨?_,eG (by omega)⟩;by_cases a:m<=18446744073709551615;rw[AF a];simp only[Lib.signlessC];rw[AF (by omega)];rw[AA a];rfl;left;have g:(c::r).all Yz=ab:=by simpa using b
 rw[g];exact⟨rfl,by rw[AF (.inr (.inr rfl))]⟩
def ABQ(a b:Int):a.tdiv b=if(decide (a<0) != decide (b<0))=ad then -((a.natAbs/b.natAbs:Nat):Int)else((a.natAbs/b.natAbs:Nat):Int):=by
 cases a with
 |ofNat m=>cases b with|ofNat n=>grind|negSucc n=>simp[Int.tdiv]
 |negSucc m=>cases b with|ofNat n=>simp[Int.tdiv]|negSucc n=>simp[Int.tdiv]
def XK{x:Int}(h:I6 x=ad):Hp x=(x,0):=by rw[Hp,AF h]
def XM{x:Int}(h:I6 x=ab):Hp x=(0,60):=by rw[Hp,h];simp
open Go.Proofs
set_option maxRecDepth 10000
@[go_sem] def ADJ(s:bS)(k:Nat):(s.drop k).take (aa s-k)=s.drop k:=HY zS
def Ip{l:bS}{k:Nat}(h:k<aa l):l[k]?=ae l[k]:=AY h
def Jl(G:Nat->V)(b:Yy G)(c:UInt8):Spec () G 228 [.int .u8 c.toNat] Zm (Yz c):=by refine Zo 0 9 [.tmp 2] func228 λX=>?_;refine Z1 ?_;by_cases h:48<=c.toNat;have a:=zU ((c.toNat:Int)>=48);refine Zf a ?_;unfold Yz;simp[h];omega;have a:=zV ((c.toNat:Int)>=48);refine Zf a ?_;unfold Yz;simp[h]
def PR(c:UInt8)(n:Nat)(b:n<256):((c.toNat:Int)==(n:Int))=(c==aJ n):=by
 by_cases h:c.toNat=n;have a:c=aJ n:=by apply cd.1;rw[h,WU];omega
 rw[a];simp;omega;have a:¬c=aJ n:=by intro e;apply h;rw[e,WU];omega
 have h2:¬(c.toNat:Int)=(n:Int):=zo;rw[show(c==aJ n)=ab by simpa using a,show((c.toNat:Int)==(n:Int))=ab from FD.2 h2]
def UX(c:UInt8):((c.toNat:Int)==10)=(c==10):=PR c 10 zd
def AC3(c:UInt8):((c.toNat:Int)==9)=(c==9):=PR c 9 zd
def QY(c:UInt8):((c.toNat:Int)==32)=(c==32):=PR c 32 zd
def Q_(c:UInt8):((c.toNat:Int)==13)=(c==13):=PR c 13 zd
def UW(c:UInt8):((c.toNat:Int)==95)=(c==95):=PR c 95 zd
def AC2(c:UInt8):((c.toNat:Int)==45)=(c==45):=PR c 45 zd
def rz(G:Nat->V)(a:Yy G)(c:UInt8):Spec () G 238 [.int .u8 c.toNat] Zm (Ox c):=by refine Zo 0 5 [.tmp 2] func238 λX=>?_;refine Z ?_;unfold Ox;rw[bne,UX]
def u6(G:Nat->V)(e:Yy G)(c:UInt8):Spec () G 237 [.int .u8 c.toNat] Zm (Su c):=by
 refine Zo 0 17 [.tmp 2] func237 λX=>?_;have b:Su c=(c==32||(decide ((c.toNat:Int)>=9)&&decide ((c.toNat:Int)<=10))||c==13):=by unfold Su;congr 3;rw[EB];omega;rw[EB];omega
 rw[b];refine Z1 ?_;cases a:(c==32);cases h2:decide ((c.toNat:Int)>=9);exact Zq (j4 @QY @Q_ a h2);cases d:decide ((c.toNat:Int)<=10);exact Zq (j5 @QY @Q_ a h2 d);exact Zq (j5 @QY @Q_ a h2 d);exact Zq (j3 @QY @Q_ a)
def Lq(G:Nat->V)(e:Yy G)(c:UInt8):Spec () G 230 [.int .u8 c.toNat] Zm (S1 c):=by
 refine Zo 0 15 [.tmp 2] func230 λX=>?_;refine Z1 ?_;cases a:(c==95);have b:ak .u8 (c.toNat:Int) 32=((c.toNat ||| 32:Nat):Int):=by have:=RE (λc=>ak .u8 (c.toNat:Int) 32==((c.toNat ||| 32:Nat):Int)) (by decide +kernel) c;simpa using this
 have d:S1 c=(decide (((c.toNat ||| 32:Nat):Int)>=97)&&decide (((c.toNat ||| 32:Nat):Int)<=122)):=by unfold S1;rw[a,CH];congr 1;rw[EB];omega;rw[EB];omega
 rw[d];generalize((c.toNat ||| 32:Nat):Int)=x at b⊢;cases h2:decide (x>=97);exact Zq (j4 @UW a b h2);exact Zq (j4 @UW a b h2);refine Zf (zi @UW a) ?_;unfold S1;rw[a]<;>rfl
def vS(G:Nat->V)(a:Yy G)(c:UInt8):Spec () G 231 [.int .u8 c.toNat] Zm (Vt c):=by refine Zo 0 9 [.tmp 2] func231 λX=>?_;refine Z1 ?_;unfold Vt;cases b:S1 c;refine Z1 ?_;refine Zn a ?_ (s:=(Lq G a c));refine Xc b ?_;refine Zn a ?_ (s:=(Jl G a c));refine Xc b ?_;exact Zr;refine Z1 ?_;refine Zn a ?_ (s:=(Lq G a c));refine Xc b ?_;exact Zr
structure PZ(G:Nat->V)(f:FuncId)(p:UInt8->Bool):Prop where
 en:Yf Tryz.prog f=ad
 sp:∀ c:UInt8,Spec Tryz.prog G f [.int .u8 c.toNat] Zm (λv _=>v=.bool (p c))
def AB6{G:Nat->V}(a:Yy G):PZ G 228 Yz:=⟨zk,Jl G a⟩
def AB7{G:Nat->V}(a:Yy G):PZ G 238 Ox:=⟨zk,rz G a⟩
def AB5{G:Nat->V}(a:Yy G):PZ G 237 Su:=⟨zk,u6 G a⟩
def AB4{G:Nat->V}(a:Yy G):PZ G 231 Vt:=⟨zk,vS G a⟩
def Ik(G:Nat->V)(m:Yy G)(s:bS)(n:aa s<1000000000000000){f:FuncId}{p:UInt8->Bool}(j:PZ G f p):Spec () G 229 [s,.func (.func f) [] []] Zm (Wu p s):=by refine Zo 0 20 [.tmp 4] func229 λX=>?_;refine Z1 ?_;refine Z1 ?_;refine Zz ?_;refine BK ?_;refine Z8 [0,1] [] (aa s) (λk (_:Unit)=>[(5,k)]) (λ_ _=>[]) (λk _=>Wu p s=k+Wu p (s.drop k)) 0 () qz zS zp zp ?_;intro k _ o a q g;refine Zz ?_;by_cases b:k<aa s;have d:=zU ((k:Int)<aa s);have i:=Ip b;have l:s.drop k=s[k]::s.drop (k+1):=FL b;generalize s[k]=c at i l;rw[l]at a;refine Ym (zi d i) ?_;refine GS m j.en ?_;refine Zs ?_;refine(j.sp c).mono ?_;rintro _ _ rfl;refine Xc d ?_;rw[Ib]at a;refine Zi rfl (λh=>?_) (λh=>?_);rw[AF h]at a;refine Z1 ?_;refine g _ ⟨b,(),zo,AO zw zp⟩;rw[AA (by simp[h])]at a;refine Z ?_;have a:Wu p s=k+0:=a;rw[a]<;>rfl;have d:=zV ((k:Int)<aa s);have e:k=aa s:=zo;refine Ym d ?_;refine Xh rfl ?_;refine Z ?_;rw[a,e,NN]<;>rfl
def encR(r:Int×Int):V:=.tuple [qI r.1,qI r.2]
def HE(l:List Nat):iS:=l.map (fun(d:Nat)=>(d:Int))
@[simp] def Me(l:List Nat):aa (HE l)=aa l:=by simp[HE]
def iO(l:List Nat)(k:Nat):(HE l)[k]?=(l[k]?).map (fun(d:Nat)=>(d:Int)):=by simp[HE]
def XG(a b:List Nat):HE (a++b)=HE a++HE b:=by simp[HE]
def JO(nl:Bool)(l:List Nat):Sl Int:=if nl then .nil else .mk ab (HE l)
def lu(G:Nat->V)(B:Yy G)(c:AH)(e:Bool)(l:List Nat)(o:e=ad->l=[])(A:aa l<1000000000):Spec () G 320 [Za c 1 () (JO e l)] Zm (Za c 1 () (JO e (Cz (aa l) l))):=by
 refine Zo 0 21 [.tmp 2] func320 λX=>?_;have y:(JO e l).l=HE l:=by cases e;rfl;rw[o rfl]<;>rfl
 refine Z1 ?_;refine Zz ?_;refine BK ?_;refine J5 (fun(m:List Nat)=>st [(0,Za c 1 () (JO e m))] []) (λm=>Cz (aa m) m=Cz (aa l) l/\(e=ad->m=[])/\aa m<=aa l) (λm=>aa m) l ⟨rfl,o,BO _⟩
  qs ?_
 rintro m ⟨r,p,z⟩ C w;have g:(JO e m).l=HE m:=by cases e;rfl;rw[p rfl]<;>rfl
 refine Zz ?_;rcases List.eq_nil_or_concat m with rfl|⟨j,d,b⟩;refine Ym (zi g @Me) ?_;refine Zi rfl (λi=>?_) (λi=>?_);simp at i
 .refine Z ?_;rw[<- r]
  try rfl
 rw[List.concat_eq_append]at b;have a:aa m=aa j+1:=by rw[b];simp
 have q:qN ((aa m:Int)-1)=(aa j:Int):=by rw[Xi zo zo];omega
 have x:(HE m)[aa j]?=ae (d:Int):=by rw[b,iO];simp
 have h:=zU ((aa m:Int)>0);have f:m.getLast?=ae d:=by rw[b];simp
 have n:e=ab:=by cases e;rfl;rw[p rfl]at a;simp at a
 subst n;by_cases u:d=0;subst u;refine Ym (j5 g @Me h q x) ?_;refine Zi rfl (λi=>?_) (λi=>?_);refine Z0 ?_;refine BK ?_;have s:aa j<=aa m:=zo;refine Ym (j4 g @Me q s) ?_;have k:(JO ab m).sub 0 (aa j)=JO ab j:=by rw[b];simp[JO,Sl.sub,XG,Me]
 refine w _ ⟨j,zo,⟨?_,zS,zo⟩,AO (Vw k) zp⟩;rw[<- r,a,Cz,AF (by rw[f]),b];simp;simp at i;have t:((d:Int)==0)=ab:=zu u;refine Ym (j6 g @Me h q x t) ?_;refine Zi rfl (λi=>?_) (λi=>?_);simp at i;refine Z ?_;rw[<- r,a,Cz,AA (by rw[f];simpa using u)]
def Ei(c:AH)(nl:Bool)(l:List Nat)(below:Bool):V:=.agg [Za c 1 () (JO nl l),below]
def ACs{a:Bool}{l:List Nat}(h:a=ad->l=[]):(JO a l).l=HE l:=by cases a;rfl;rw[h rfl]<;>rfl
def yw(l:List Nat)(k:Nat):val (l.drop k)=l.getD k 0+10*val (l.drop (k+1)):=by
 by_cases h:k<aa l
 .rw[FL h,val,DK,AY h]
  try rfl
 .rw[HT zo,HT zo,DK,OT zo]
  try rfl
def rh{l:List Nat}(h:LB l)(k:Nat):l.getD k 0<10:=by rw[DK];by_cases a:k<aa l;rw[AY a];exact h _ (BT a);rw[OT zo];decide
def rB{l:List Nat}{k:Nat}(h:k<aa l):(HE l)[k]?=ae ((l.getD k 0:Nat):Int):=by
 rw[iO,AY h,DK,AY h]
 try rfl
def mI(k:Nat):0<10^k:=Nat.pow_pos zd
def xp{l:List Nat}{a:Bool}(h:a=decide (l=[])):Zb (HE l)=JO a l:=by
 rcases l with _|⟨x,r⟩;subst h;rfl;subst h;rw[show decide (x::r=[])=ab by simp]
 try rfl
def IE(below:Bool)(n:Nat):Int:=if below then -(n:Int)else n
def ABZ(l:List Nat)(i:Nat):val (l.drop i)<=val l:=by
 have h:val l=val (l.take i)+10^aa (l.take i)*val (l.drop i):=by rw[<- Ai,HX]
 have:=Nat.le_mul_of_pos_left (val (l.drop i)) (mI (aa (l.take i)));omega
def ABd(G:Nat->V)(Q:Yy G)(c:AH)(z:Bool)(l:List Nat)(below:Bool)(r:z=ad->l=[])(F:LB l)(E:aa l<1000000):Spec () G 329 [Ei c z l below] Zm (V.tuple [qI (Hp (IE below (val l))).1,(I6 (IE below (val l)))]):=by
 have o:=ACs r;refine Zo 0 40 [.tmp 2,.tmp 3] func329 λX=>?_;simp only[Ei];refine Z1 ?_;intro R;refine Z1 ?_;refine Ym (zi o @Me) ?_;refine BK ?_;refine Z8 [1] [1] (aa l) (λk (_:Unit)=>[(4,qI (-(val (l.drop (aa l-k)):Int))),(5,qI ((aa l:Int)-1-k))]) (λ_ _=>[]) (λk _=>val (l.drop (aa l-k))<=9223372036854775808) 0 () qz (by rw[HT zo];simp[val]) (by refine Zs ?_;rw[HT zo];exact⟨rfl,BU _ (by rw[Xi zo zo];omega)⟩) zp ?_;intro k _ O p S s;refine Z1 ?_;refine Zi rfl (λx=>?_) (λx=>?_);have f:k<aa l:=by have:=JC x;omega
 refine Z0 ?_;obtain⟨i,P⟩:∃ i,i=aa l-1-k:=⟨_,rfl⟩;have M:((aa l:Int)-1-k)=(i:Int):=zo;have A:=rB (l:=l) (k:=i) zo;have I:=rh F i;have b:=yw l i;have C:=ABZ l i;rw[show aa l-k=i+1 by omega]at p⊢;rw[M];generalize l.getD i 0=d at A I b;generalize val (l.drop (i+1))=m at p b;refine Ym (zi o A) ?_;refine Zz ?_;have B:qN (-9223372036854775808+(d:Int)) = -9223372036854775808+(d:Int):=Xi zo zo;have H:qN ((-9223372036854775808+(d:Int)).tdiv 10) = -(((9223372036854775808-d)/10:Nat):Int):=by
  have L:(-9223372036854775808+(d:Int)).natAbs=9223372036854775808-d:=zo;have K:(-9223372036854775808+(d:Int)).tdiv 10 = -(((9223372036854775808-d)/10:Nat):Int):=by rw[ABQ,L];have:(-9223372036854775808+(d:Int))<0:=zo;simp[this]
  rw[K,Xi zo zo]
 refine Ym (zi B H) ?_;refine Zi rfl (λw=>?_) (λw=>?_);have u:=JC w;refine Z ?_;have a:I6 (IE below (val l))=ab:=by unfold I6 IE;rw[IL];split<;>omega
 rw[XM a,a];have u:=SJ w;refine Z1 ?_;refine Z1 ?_;refine s _ ⟨f,(),?_,AO (by refine Zs ?_;rw[show aa l-(k+1)=i by omega,b];exact⟨BU _ (by rw[Xi (n:=10 * -(m:Int)) zo zo,Xi zo zo];omega),BU _ (by rw[Xi zo zo];omega)⟩) zp⟩;rw[show aa l-(k+1)=i by omega,b];omega;have f:k=aa l:=by have:=SJ x;omega
 subst f;refine Z0 ?_;rw[TQ,HB]at p⊢;generalize N:val l=m at p;have y:(below=ad\/m=0)\/¬(below=ad\/m=0):=Classical.em _;refine Yt (fun(_:Unit)=>st [(4,qI (-(m:Int)))] []) (λ_=>below=ab/\m≠0) (λK8 t=>?_) ?_
 .have NE:(below=ad\/m=0)->V.tuple [qI (-(m:Int)),ad]=V.tuple [qI (Hp (IE below m)).1,(I6 (IE below m))]:=by
   intro h;have D:IE below m = -(m:Int):=by unfold IE;split;rfl;rename_i e;have:m=0:=h.resolve_left e;omega
   have a:I6 (-(m:Int))=ad:=by unfold I6;rw[OH];omega
   rw[D,XK a,a]
  cases e:below;refine Ym e ?_;refine Zi rfl (λj=>?_) (λj=>?_);have q:m=0:=by have : -(m:Int)=0:=zu j;omega
  refine Z ?_;rw[e]at NE;exact NE (.inr q);have q:m≠0:=by rintro rfl;simp at j
  refine Z0 ?_;exact t _ () ⟨e,q⟩ qs;refine Ym e ?_;refine Zi rfl (λj=>?_) (λj=>?_);refine Z ?_;rw[e]at NE;exact NE (.inl rfl);simp at j
 rintro _ ⟨e,q⟩;subst e;refine Z1 ?_;refine Zi rfl (λg=>?_) (λg=>?_);have J:m=9223372036854775808:=by have : -(m:Int) = -9223372036854775808:=zu g;omega
 refine Z ?_;have a:I6 (IE ab m)=ab:=by unfold I6 IE;rw[IL];simp;omega
 rw[XM a,a];have J:m≠9223372036854775808:=by rintro rfl;simp at g
 refine Z ?_;have a:I6 (IE ab m)=ad:=by unfold I6 IE;rw[OH];simp;omega
 rw[XK a,a,Xi zo zo];simp[IE]
def ABI(G:Nat->V)(f:Yy G)(c:AH)(a:Bool)(l:List Nat)(below:Bool)(b:a=ad->l=[])(h:LB l)(d:aa l<1000000):Spec () G 319 [Ei c a l below] Zm (encR (Hp (IE below (val l)))):=by
 have g:=ABd G f c.ent a l below b h d;generalize IE below (val l)=x at g;refine Zo 0 14 [.tmp 2,.tmp 3] func319 λX=>?_;simp only[Ei];refine Z1 ?_;intro i;refine Z1 ?_;refine Zc f ?_ (s:=g);refine Zz ?_;cases e:I6 x;refine Z1 ?_;refine Zi rfl (λh2=>?_) (λh2=>?_)
 .refine Z ?_;rw[XM e]
  try rfl
 simp at h2;refine Z1 ?_;refine Zi rfl (λh2=>?_) (λh2=>?_);simp at h2
 .refine Z ?_;rw[XK e]
  try rfl
end Go.Hs
namespace Go.Proofs
open Go.Shelf
def Ac:Go.Shelf.Ren:=⟨fun|174=>317|247=>325|245=>326|287=>333|279=>334|280=>335|281=>336|282=>337|321=>340|322=>341|316=>342|171=>344|205=>343|243=>345|246=>346|283=>347|284=>348|285=>349|286=>350|129=>187|317=>351|318=>352|319=>353|320=>354|337=>355|338=>356|n=>n,fun|9=>9|3=>3|2=>2|75=>360|85=>361|4=>4|167=>378|5=>5|53=>218|175=>379|46=>169|168=>381|37=>143|0=>0|210=>403|21=>21|127=>406|145=>409|143=>407|171=>411|173=>413|212=>416|51=>216|20=>20|213=>417|232=>418|233=>419|80=>343|n=>n,fun|15=>5|16=>2|17=>6|18=>7|19=>8|n=>n⟩
def Bt:Go.Proofs.LaysC.n174 Tryz.prog Ac:={
 mixed:=by kernel_rfl
 f129:=func187.trans yg
 f171:=func344.trans yg
 f174:=func317.trans yg
 f205:=func343.trans yg
 f243:=func345.trans yg
 f245:=func326.trans yg
 f246:=func346.trans yg
 f247:=func325.trans yg
 f279:=func334.trans yg
 f280:=func335.trans yg
 f281:=func336.trans yg
 f282:=func337.trans yg
 f283:=func347.trans yg
 f284:=func348.trans yg
 f285:=func349.trans yg
 f286:=func350.trans yg
 f287:=func333.trans yg
 f316:=func342.trans yg
 f317:=func351.trans yg
 f318:=func352.trans yg
 f319:=func353.trans yg
 f320:=func354.trans yg
 f321:=func340.trans yg
 f322:=func341.trans yg
 f337:=func355.trans yg
 f338:=func356.trans yg
 t0:=underlying0
 a0:=Tryz.isAgg0
 z0:=Tryz.sizeOf0
 v0:=Tryz.zeroValue0
 t2:=underlying2
 a2:=Tryz.isAgg2
 z2:=Tryz.sizeOf2
 v2:=Tryz.zeroValue2
 t3:=underlying3
 a3:=Tryz.isAgg3
 z3:=Tryz.sizeOf3
 v3:=Tryz.zeroValue3
 t4:=underlying4
 a4:=Tryz.isAgg4
 z4:=Tryz.sizeOf4
 v4:=Tryz.zeroValue4
 t5:=underlying5
 a5:=Tryz.isAgg5
 z5:=Tryz.sizeOf5
 v5:=Tryz.zeroValue5
 t9:=underlying9
 a9:=Tryz.isAgg9
 z9:=Tryz.sizeOf9
 v9:=Tryz.zeroValue9
 t20:=underlying20
 a20:=Tryz.isAgg20
 z20:=Tryz.sizeOf20
 v20:=Tryz.zeroValue20
 t21:=underlying21
 a21:=Tryz.isAgg21
 z21:=Tryz.sizeOf21
 v21:=Tryz.zeroValue21
 t37:=underlying143
 a37:=Tryz.isAgg143
 z37:=Tryz.sizeOf143
 v37:=Tryz.zeroValue143
 t46:=underlying169
 a46:=Tryz.isAgg169
 z46:=Tryz.sizeOf169
 v46:=Tryz.zeroValue169
 t51:=underlying216
 a51:=Tryz.isAgg216
 z51:=Tryz.sizeOf216
 v51:=Tryz.zeroValue216
 t53:=underlying218
 a53:=Tryz.isAgg218
 z53:=Tryz.sizeOf218
 v53:=Tryz.zeroValue218
 t75:=underlying360
 a75:=Tryz.isAgg360
 z75:=Tryz.sizeOf360
 v75:=Tryz.zeroValue360
 t85:=underlying361
 a85:=Tryz.isAgg361
 z85:=Tryz.sizeOf361
 v85:=Tryz.zeroValue361
 t127:=underlying406
 a127:=Tryz.isAgg406
 z127:=Tryz.sizeOf406
 v127:=Tryz.zeroValue406
 t143:=underlying407
 a143:=Tryz.isAgg407
 z143:=Tryz.sizeOf407
 v143:=Tryz.zeroValue407
 t145:=underlying409
 a145:=Tryz.isAgg409
 z145:=Tryz.sizeOf409
 v145:=Tryz.zeroValue409
 t167:=underlying378
 a167:=Tryz.isAgg378
 z167:=Tryz.sizeOf378
 v167:=Tryz.zeroValue378
 t168:=underlying381
 a168:=Tryz.isAgg381
 z168:=Tryz.sizeOf381
 v168:=Tryz.zeroValue381
 t171:=underlying411
 a171:=Tryz.isAgg411
 z171:=Tryz.sizeOf411
 v171:=Tryz.zeroValue411
 t173:=underlying413
 a173:=Tryz.isAgg413
 z173:=Tryz.sizeOf413
 v173:=Tryz.zeroValue413
 t175:=underlying379
 a175:=Tryz.isAgg379
 z175:=Tryz.sizeOf379
 v175:=Tryz.zeroValue379
 t210:=underlying403
 a210:=Tryz.isAgg403
 z210:=Tryz.sizeOf403
 v210:=Tryz.zeroValue403
 t212:=underlying416
 a212:=Tryz.isAgg416
 z212:=Tryz.sizeOf416
 v212:=Tryz.zeroValue416
 t213:=underlying417
 a213:=Tryz.isAgg417
 z213:=Tryz.sizeOf417
 t232:=underlying418
 a232:=Tryz.isAgg418
 z232:=Tryz.sizeOf418
 v232:=Tryz.zeroValue418
 t233:=underlying419
 a233:=Tryz.isAgg419
 z233:=Tryz.sizeOf419
 v233:=Tryz.zeroValue419
 g15:=by kernel_rfl
 g16:=by kernel_rfl
 g17:=by kernel_rfl
 g18:=by kernel_rfl
 g19:=by kernel_rfl
 t80:=underlying343
 a80:=Tryz.isAgg343
 z80:=Tryz.sizeOf343
 v80:=Tryz.zeroValue343
 i0:=by kernel_rfl
 i2:=by kernel_rfl
 i3:=by kernel_rfl
 i4:=by kernel_rfl
 i5:=by kernel_rfl
 i9:=by kernel_rfl
 i20:=by kernel_rfl
 i21:=by kernel_rfl
 i37:=by kernel_rfl
 i46:=by kernel_rfl
 i51:=by kernel_rfl
 i53:=by kernel_rfl
 i75:=by kernel_rfl
 i80:=by kernel_rfl
 i85:=by kernel_rfl
 i127:=by kernel_rfl
 i143:=by kernel_rfl
 i145:=by kernel_rfl
 i167:=by kernel_rfl
 i168:=by kernel_rfl
 i171:=by kernel_rfl
 i173:=by kernel_rfl
 i175:=by kernel_rfl
 i210:=by kernel_rfl
 i212:=by kernel_rfl
 i232:=by kernel_rfl
 i233:=by kernel_rfl
 m15:=by kernel_rfl
 m16:=by kernel_rfl
 m17:=by kernel_rfl
 m18:=by kernel_rfl
 m19:=by kernel_rfl
 c0:=by kernel_rfl
 c2:=by kernel_rfl
 c3:=by kernel_rfl
 c4:=by kernel_rfl
 c5:=by kernel_rfl
 c9:=by kernel_rfl
 c20:=by kernel_rfl
 c21:=by kernel_rfl
 c37:=by kernel_rfl
 c46:=by kernel_rfl
 c51:=by kernel_rfl
 c53:=by kernel_rfl
 c75:=by kernel_rfl
 c80:=by kernel_rfl
 c85:=by kernel_rfl
 c127:=by kernel_rfl
 c143:=by kernel_rfl
 c145:=by kernel_rfl
 c167:=by kernel_rfl
 c168:=by kernel_rfl
 c171:=by kernel_rfl
 c173:=by kernel_rfl
 c175:=by kernel_rfl
 c210:=by kernel_rfl
 c212:=by kernel_rfl
 c213:=by kernel_rfl
 c232:=by kernel_rfl
 c233:=by kernel_rfl}
def B9:Go.Shelf.Ren:=⟨fun|101=>324|208=>332|206=>248|n=>n,fun|9=>9|4=>4|3=>3|n=>n,fun|n=>n⟩
def oP:Go.Proofs.Lays.n101 Tryz.prog B9:={
 mixed:=by kernel_rfl
 f101:=func324.trans yg
 f206:=func248.trans yg
 f208:=func332.trans yg
 t3:=underlying3
 a3:=Tryz.isAgg3
 z3:=Tryz.sizeOf3
 v3:=Tryz.zeroValue3
 t4:=underlying4
 a4:=Tryz.isAgg4
 z4:=Tryz.sizeOf4
 v4:=Tryz.zeroValue4
 t9:=underlying9
 a9:=Tryz.isAgg9
 z9:=Tryz.sizeOf9
 v9:=Tryz.zeroValue9}
