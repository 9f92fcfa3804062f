/- A part. No condition. -/
import Derived.Test.YtegjlbpnpiigkaaGreatDoorP33
import Derived.Test.YtegjlbpnpiigkaaGreatDoorP35
set_option linter.all false
section
namespace Go.Hs
open Go.Proofs
set_option maxRecDepth 10000
theorem Zkpa{m:Nat}(h:m<1000000000000010):((m:Int)>IntKind.i64.max)=False:=by
 rw[eq_iff_iff,iff_false,show IntKind.i64.max=9223372036854775807 from rfl];omega
def encFk(p:Nat×Nat):V:=.tuple [.int .i64 p.1,.int .u8 p.2]
theorem Ztp(G:Nat->V)(hE:GExp G)(s:List UInt8)(hs:s.length<1000000000000000):Spec Tryz.prog G 212 [.str s] Zk (λv _=>v=encFk (Z1a s)):=by
 have hG:=hE.ok;refine Zo 0 42 [.tmp 2,.tmp 3] Tryz.func212 λX=>?_;refine Z1 ?_;intro g1;refine Z4 ?_;refine AW.block ?_
 cases s with
 |nil=>
  refine Z1 ?_;refine Zi rfl (λh2=>?_) (λh2=>?_);exact Zr;cases h2
 |cons c r=>
  cases hp:Zra [45,45] (c::r)with
  |true=>
   refine Z1 ?_;refine Zn hG ?_ (s:=(Zfe G _ _));refine Zsf hp ?_;refine Zi rfl (λh2=>?_) (λh2=>?_);refine Z ?_
   rw[Zmf,if_pos hp]<;>rfl
   cases h2
  |false=>
   refine Z1 ?_;refine Zn hG ?_ (s:=(Zfe G _ _));refine Zsf hp ?_;refine Zbb rfl ?_
   try clear h2
   refine Z1 ?_;refine Zc hG ?_ (s:=(Zuj G hG c));refine Zi rfl (λh3=>?_) (λh3=>?_);refine Z1 ?_;refine Zc hG ?_ (s:=(Zuk G hG _ zo (fDigit hG)));refine Z ?_
   rw[Zzk h3]<;>rfl
   refine Z1 ?_;refine Zc hG ?_ (s:=(Zxh G hG c));refine Zi rfl (λh4=>?_) (λh4=>?_);have hn:=Zdf Z7d (c::r);have hw:=Z1q ((c::r).take (Zwc Z7d (c::r))) (Zwe Z7d (c::r));have hf:=Z5n (r:=r) h4;refine Z1 ?_;refine Zc hG ?_ (s:=(Zuk G hG _ zo (fAl hG)));generalize Zwc Z7d (c::r)=n at hn hw hf⊢;have hn:n<=r.length+1:=hn;refine Z4 ?_
   have hl0:(List.take n (c::r)).length<=1000000000000000:=by rw[List.length_take];omega
   have hl1:=Zkpa (m:=1+(List.take n (c::r)).length) zo;have hl2:=Zkpa (m:=(List.take n (c::r)).length+1+1) zo;refine Zhc zk ?_;simp -implicitDefEqProofs only[go_sem,seval,hl1,hl2,hn,Nat.zero_le,Nat.sub_zero,List.append_eq,List.cons_append,List.nil_append];refine Zc hG ?_ (s:=(Zau G hE Z1oa _ zd));rw[hw];refine Zi rfl (λh6=>?_) (λh6=>?_);refine Z ?_
   rw[hf,if_pos h6]<;>rfl
   refine Z ?_;rw[hf,if_neg (by rw[h6];simp)];rfl
   .refine Z0 ?_
    have hf:=Zwi (c:=c) (r:=r) (by unfold Z7d;rw[h3,h4]<;>rfl) hp;obtain⟨cg,hsg⟩:=hE.sg
    refine Z4<|Zyf 0 zk rfl rfl ?_
    simp -implicitDefEqProofs only[go_sem,seval,List.take_zero];refine⟨_,Zzq Tryz.underlying280 zk (c:=cg) (cs:=signsL.map V.str) (zpf hsg) rfl (λv hv=>by obtain⟨t,_,rfl⟩:=List.mem_map.1 hv;rfl),?_⟩;refine Zua hG [Zb cg.ent 1 V.str (.mk true signsL),.func (.func 256) [] [.view .old (.str (c::r))]] zk ⟨?_,Zs9 ⟨?_,trivial⟩,trivial⟩ ?_;exact Z0a (Z3c (c:=cg) (m:=1) (λx y hy=>by simp[V.cells]at hy;subst hy;exact .str _) (.mk true signsL)) (Zgb _ _ _ (.mk true signsL));exact Rd.ptr (v:=.str (c::r)) (c:=.new) (fz:=0) zp (by intro y hy;simp[V.cells]at hy;subst hy;exact .str _) zp;refine(Zwo G hG _ (.mk true signsL) zd (fPre hG (c::r))).mono ?_;rintro _ _ rfl;refine⟨.int _ _,?_⟩;refine Zs ?_
    have hN:sgnN (c::r)=match signsL.findIdx? (Zra · (c::r))with|some i=>(signsL.getD i []).length|none=>0:=by
     unfold sgnN;rw[List.find?_eq_bind_findIdx?_getElem?]
     cases hi:signsL.findIdx? (Zra · (c::r))with
     |none=>rfl
     |some i=>
      have hlt:i<signsL.length:=(List.findIdx?_eq_some_iff_getElem.1 hi).1;simp only[Option.bind_some,List.getElem?_eq_getElem hlt,List.getD_eq_getElem?_getD,Option.getD_some]
    have hI:Zwu (Zra · (c::r)) signsL=match signsL.findIdx? (Zra · (c::r))with|some i=>(i:Int)|none => -1:=rfl
    have hne:∀ i,signsL.findIdx? (Zra · (c::r))=some i->i<14/\(signsL.getD i []).length≠0:=λi hi=>by
     have h1:=List.findIdx?_eq_some_iff_getElem.1 hi;obtain⟨hlt,_⟩:=h1;have hlt:i<14:=hlt;refine⟨hlt,?_⟩;have:∀ i,i<14->(signsL.getD i []).length≠0:=zd;exact this i hlt
    rw[hI];rw[hN]at hf
    cases hi:signsL.findIdx? (Zra · (c::r))with
    |none=>
     rw[hi]at hf;refine Z1 ?_;refine Zi rfl (λh7=>?_) (λh7=>?_);refine Z ?_
     rw[hf]<;>rfl
     cases h7
    |some i=>
     rw[hi]at hf;obtain⟨hi14,hi0⟩:=hne i hi;refine Z1 ?_;refine Zi rfl (λh7=>?_) (λh7=>?_);have h7:decide ((i:Int)<0)=true:=h7;simp at h7;omega;refine Z0 ?_
     have hge:(signsL.map V.str)[i]?=some (.str (signsL.getD i [])):=by
      have hlt:i<signsL.length:=hi14
      rw[List.getElem?_map,List.getElem?_eq_getElem hlt,List.getD_eq_getElem?_getD,List.getElem?_eq_getElem hlt]<;>rfl
     have hi14':(i:Int)<14:=zo;refine Zf (zi hsg (zi hge (zi hi14' (zi @Int.natCast_nonneg @Nat.mul_one)))) ?_;rw[hf]
     show _=encFk ((signsL.getD i []).length,if(signsL.getD i []).length=0 then 0 else 4)
     rw[if_neg hi0]<;>rfl
theorem Z7f(G:Nat->V)(hE:GExp G)(s:List UInt8)(hs:s.length<1000000000000000):Spec Tryz.prog G 142 [.str s] Zk (λv _=>v=.int .u8 (isP s)):=by
 have hG:=hE.ok;refine Zo 0 19 [.tmp 2] Tryz.func142 λX=>?_;refine Z1 ?_;refine Z1 ?_;refine Zn hG ?_ (s:=(Ztp G hE s hs))
 have hI:isP s=if(Z1a s).1≠s.length\/(Z1a s).1>64 then 0 else(Z1a s).2:=rfl
 generalize Z1a s=p at hI⊢;obtain⟨n,k⟩:=p;refine Zsf @encFk.eq_1 ?_;refine Z4 ?_
 by_cases h1:n=s.length
 have e1:((n:Int) != (s.length:Int))=false:=by simp[h1]
 refine Z1f e1 ?_;refine Zi rfl (λh2=>?_) (λh2=>?_)
 have h2:n>64:=by have h2:decide ((n:Int)>64)=true:=h2;simp at h2;omega
 refine Z ?_
 rw[hI,if_pos (.inr h2)]<;>rfl
 have h2:¬ n>64:=by have h2:decide ((n:Int)>64)=false:=h2;simp at h2;omega
 refine Z ?_;rw[hI,if_neg (λh=>h.elim (λh=>h h1) h2)]
 have e1:((n:Int) != (s.length:Int))=true:=by
  have h1:¬ ((n:Int)=(s.length:Int)):=zo;simpa using h1
 refine Z1f e1 ?_;refine Zi rfl (λh2=>?_) (λh2=>?_);refine Z ?_
 rw[hI,if_pos (.inl h1)]<;>rfl
 cases h2
def Zeb(t:Tk):V:=.agg [.int .u8 t.kind,.str t.text,.int .i64 t.pos]
theorem Z9g(t:Tk):(Zeb t).cells.length=3:=rfl
def encTks(c:Col)(l:List Tk):V:=Zb c 3 Zeb (Zl l)
def encTok(r:List Tk×Int×Int):V:=.tuple [encTks .new r.1,.int .i64 r.2.1,.int .i64 r.2.2]
theorem Zfv:∀ (f:Nat) (s:List UInt8) (i:Nat) (acc:List Tk),(Zyd f s i acc).1.length<=acc.length+(s.length-i)
 |0,s,i,acc=>by rw[Zyd];exact Nat.le_add_right _ _
 |f+1,s,i,acc=>by
  rw[Zyd]
  split
  split
  exact Nat.zero_le _;rename_i h1 h2;have:=Zfv f s (i+(Z1a (s.drop i)).1+blk (s.drop (i+(Z1a (s.drop i)).1))) (acc++[⟨(Z1a (s.drop i)).2,(s.drop i).take (Z1a (s.drop i)).1,i⟩]);simp only[List.length_append,List.length_singleton]at this;omega;exact Nat.le_add_right _ _
theorem Zle(G:Nat->V)(hE:GExp G)(s:List UInt8)(hs:s.length<100000):Spec Tryz.prog G 172 [.str s] Zk (λv _=>v=encTok (Zja s)):=by
 have hG:=hE.ok;refine Zo 0 52 [.tmp 2,.tmp 3,.tmp 4] Tryz.func172 λX=>?_;refine Z1 ?_;refine Z1 ?_
 have hT:Zja s=if s.length>65536 then([],0,3)else Zyd (s.length+1) s (blk s) []:=rfl
 refine Zi rfl (λh2=>?_) (λh2=>?_)
 have h2:s.length>65536:=by have h2:decide ((s.length:Int)>65536)=true:=h2;simp at h2;omega
 refine Z ?_
 rw[hT,if_pos h2]<;>rfl
 have h2:¬ s.length>65536:=by have h2:decide ((s.length:Int)>65536)=false:=h2;simp at h2;omega
 rw[if_neg h2]at hT;refine Z1 ?_;refine Zc hG ?_ (s:=(Z3m G hG s zo));have hb:=Zhx s;refine AW.block ?_
 refine Zpb (fun(x:Nat×Nat×List Tk)=>st [(0,.str s),(2,grown 47 x.1 3 x.2.2),(3,.int .i64 x.2.1)] [(47,Zza x.1 Zeb x.2.2)]) (λx=>x.2.1<=s.length/\x.2.2.length<=x.2.1/\Zja s=Zyd (s.length+1) s x.2.1 x.2.2) (λx=>s.length-x.2.1) (0,blk s,[]) ⟨hb,Nat.zero_le _,hT⟩
  (Za zp zp) ?_
 rintro⟨gx,i,acc⟩ ⟨hi,hal,hR⟩ L2 hL2;have hi:i<=s.length:=hi;have hal:acc.length<=i:=hal;have hR:Zja s=Zyd (s.length+1) s i acc:=hR;refine Z1 ?_;refine Zi rfl (λh4=>?_) (λh4=>?_);have hi1:i<s.length:=zu h4;refine Z0 ?_;refine Z4 ?_;refine AW.block ?_;have hfl:=Zyw (s.drop i);rw[List.length_drop]at hfl;have hst:=Zrr (f:=s.length+1) (acc:=acc) hi1 zo;have hbd:=Zhv (f:=s.length+1) (acc:=acc) hi1 zo;refine Z1f (zi hi @Nat.le_refl) ?_;refine Zn hG ?_ (s:=(Ztp G hE (s.drop i) zO));generalize Z1a (s.drop i)=p at hfl hst hbd⊢;obtain⟨n,k⟩:=p;simp only at hfl hst hbd;refine Zsf @encFk.eq_1 ?_;refine Z4 ?_
 by_cases hn0:n=0
 have e0:((n:Int)==0)=true:=by simp[hn0]
 refine Z1f e0 ?_;refine Zi rfl (λh9=>?_) (λh9=>?_);refine Z ?_
 rw[hR,hbd (.inl hn0)]<;>rfl
 cases h9
 have e0:((n:Int)==0)=false:=by
  rw[beq_eq_false_iff_ne];omega
 refine Z1f e0 ?_;refine Zi rfl (λh9=>?_) (λh9=>?_)
 have h9:n>64:=by have h9:decide ((n:Int)>64)=true:=h9;simp at h9;omega
 refine Z ?_
 rw[hR,hbd (.inr h9)]<;>rfl
 have h9:¬ n>64:=by have h9:decide ((n:Int)>64)=false:=h9;simp at h9;omega
 refine Z0 ?_;have hst:=hst (λh=>h.elim hn0 h9)
 have hw:IntKind.i64.wrap ((i:Int)+(n:Int))=((i+n:Nat):Int):=by rw[w64 zo zo];omega
 have hin:i<=i+n:=zo;have hin2:i+n<=s.length:=zo;have hsub:i+n-i=n:=zo;refine Z1f (zi hw (zi hin (zi hin2 hsub))) ?_;intro g46;refine Zna (f:=Zeb) (l:=acc) (l2:=[⟨k,(s.drop i).take n,i⟩]) (g:=gx) Z9g rfl rfl rfl zp (Z5 zo zO) λg47=>?_;refine Zs ?_;refine Z1f hw ?_;have hbl:=Zhx (s.drop (i+n));rw[List.length_drop]at hbl
 have hw2:IntKind.i64.wrap (((i+n:Nat):Int)+(blk (s.drop (i+n)):Nat))=((i+n+blk (s.drop (i+n)):Nat):Int):=by rw[w64 zo zo];omega
 refine Z1f (zi hin2 @Nat.le_refl) ?_;refine Zc hG ?_ (s:=(Z3m G hG (s.drop (i+n)) zO));refine hL2 _ ⟨(g47,i+n+blk (s.drop (i+n)),acc++[⟨k,(s.drop i).take n,i⟩]),?_,⟨?_,?_,?_⟩,Za (by refine Zs ?_;exact congrArg _ hw2) zp⟩
 show s.length-(i+n+blk (s.drop (i+n)))<s.length-i
 omega
 show i+n+blk (s.drop (i+n))<=s.length
 omega
 show(acc++[_]).length<=i+n+blk (s.drop (i+n))
 simp only[List.length_append,List.length_singleton];omega;rw[hR];exact hst;have hi1:¬ i<s.length:=zu h4;refine Z0 ?_;refine AW.weak (Zt (λo=>o==47) (l:=[(2,encTks .new acc)]) (m:=[]) ?_ trivial) ?_;refine Zs ?_;exact Z3a rfl rfl Z9g;refine Z ?_
 rw[hR,Zgv hi1]<;>rfl
end Go.Hs
end

section
namespace Go.Hs
open Go
structure XN where
 op:Int
 num:Int
 name:List UInt8
 a:Int
 b:Int
 c:Int
 deriving DecidableEq,Inhabited
structure Sg where
 text:List UInt8
 level:Int
 parts:Int
 deriving DecidableEq,Inhabited
def tabL:List Sg:=[⟨[],0,0⟩,⟨[],10,0⟩,⟨[],10,0⟩,⟨[116,114,117,101],10,0⟩,⟨[102,97,108,115,101],10,0⟩,⟨[45],9,1⟩,⟨[110,111,116],9,1⟩,
 ⟨[42],8,2⟩,⟨[100,105,118],8,2⟩,⟨[109,111,100],8,2⟩,⟨[43],7,2⟩,⟨[45],7,2⟩,⟨[60],6,2⟩,⟨[60,61],6,2⟩,⟨[62],6,2⟩,⟨[62,61],6,2⟩,⟨[61],5,2⟩,⟨[60,62],5,2⟩,
 ⟨[97,110,100],4,2⟩,⟨[111,114],3,2⟩,⟨[120,111,114],2,2⟩,⟨[105,109,112,108,105,101,115],1,2⟩,⟨[105,102],10,3⟩]
def sgIs(t:List UInt8)(p:Int)(s:Sg):Bool:=s.text==t&&s.parts==p && !(s.text==[])
def ofI(t:List UInt8)(p:Int):Option Nat:=tabL.findIdx? (sgIs t p)
def ofP(t:List UInt8)(p:Int):Nat×Bool:=match ofI t p with|some i=>(i,true)|none=>(0,false)
def lvl(op:Nat):Int:=(tabL.getD op ⟨[],0,0⟩).level
theorem Zpk{t:List UInt8}{p:Int}{i:Nat}(h:ofI t p=some i):∃ s,tabL[i]?=some s/\s.text=t/\s.parts=p/\t≠[]:=by
 obtain⟨h1,h2,_⟩:=List.findIdx?_eq_some_iff_getElem.1 h;refine⟨tabL[i],List.getElem?_eq_getElem h1,?_⟩;unfold sgIs at h2;simp only[Bool.and_eq_true,beq_iff_eq,Bool.not_eq_true',beq_eq_false_iff_ne]at h2;exact⟨h2.1.1,h2.1.2,by rw[<- h2.1.1];exact h2.2⟩
theorem ofI_one{t:List UInt8}{i:Nat}(h:ofI t 1=some i):t=[45]/\i=5\/t=[110,111,116]/\i=6:=by
 obtain⟨s,h1,h2,h3,_⟩:=Zpk h
 have hi:i<23:=by rw[List.getElem?_eq_some_iff]at h1;exact h1.1
 have key:∀ i,i<23->∀ s,tabL[i]?=some s->s.parts=1->s.text=[45]/\i=5\/s.text=[110,111,116]/\i=6:=by
  intro i hi s h1 h3
  have:∀ i,i<23->(tabL[i]?.map (·.parts))=some 1->(tabL[i]?.map (·.text))=some [45]/\i=5\/(tabL[i]?.map (·.text))=some [110,111,116]/\i=6:=by decide +kernel
  have:=this i hi (by rw[h1];simp[h3]);rw[h1]at this;simpa using this
 rw[<- h2];exact key i hi s h1 h3
theorem Zv8{t:List UInt8}{i:Nat}(h:ofI t 0=some i):t=[116,114,117,101]/\i=3\/t=[102,97,108,115,101]/\i=4:=by
 obtain⟨s,h1,h2,h3,h4⟩:=Zpk h
 have hi:i<23:=by rw[List.getElem?_eq_some_iff]at h1;exact h1.1
 have key:∀ i,i<23->∀ s,tabL[i]?=some s->s.parts=0->s.text≠[]->s.text=[116,114,117,101]/\i=3\/s.text=[102,97,108,115,101]/\i=4:=by
  intro i hi s h1 h3
  have:((List.range 23).all λi=>match tabL[i]? with|some s => !(s.parts==0)||s.text==[]||(s.text==[116,114,117,101]&&i==3)||(s.text==[102,97,108,115,101]&&i==4)|none=>true)=true:=by decide +kernel
  have:=List.all_eq_true.1 this i (List.mem_range.2 hi);intro h4;rw[h1]at this;simp only[h3,Bool.or_eq_true,Bool.and_eq_true,beq_iff_eq,h4,or_false]at this;simpa using this
 rw[<- h2];exact key i hi s h1 h3 (by rw[h2];exact h4)
theorem Zqt{t:List UInt8}{i:Nat}(h:ofI t 2=some i):7<=i/\i<=21/\1<=lvl i/\lvl i<=8/\isP t≠0:=by
 obtain⟨s,h1,h2,h3,_⟩:=Zpk h
 have hi:i<23:=by rw[List.getElem?_eq_some_iff]at h1;exact h1.1
 have key:∀ i,i<23->(tabL[i]?.map (·.parts))=some 2->7<=i/\i<=21/\1<=lvl i/\lvl i<=8/\(tabL[i]?.map λs=>isP s.text)≠some 0:=by decide +kernel
 have:=key i hi (by rw[h1];simp[h3]);rw[h1]at this;rw[<- h2];simpa using this
def Zea(l:List Tk)(i:Nat):Tk:=match l[i]? with
 |some t=>if(isP t.text:Int)=t.kind then t else⟨0,[],0⟩
 |none=>⟨0,[],0⟩
theorem Zsi(l:List Tk)(i:Nat):(isP (Zea l i).text:Int)=(Zea l i).kind:=by
 unfold Zea
 split
 split
 assumption
 rfl;rfl
theorem Zrk{l:List Tk}{i:Nat}(h:(Zea l i).kind≠0):i<l.length:=by
 rw[<- Nat.not_le];intro h2;apply h;unfold Zea;rw[List.getElem?_eq_none h2]
structure RS where
 i:Nat
 nodes:List XN
 e:Int
 deriving DecidableEq,Inhabited
def RS.put(r:RS)(n:XN):RS:={ r with nodes:=r.nodes++[n] }
def RS.last(r:RS):Int:=(r.nodes.length:Int)-1
def RS.adv(r:RS):RS:={ r with i:=r.i+1 }
def RS.err(r:RS)(e:Int):RS:={ r with e:=e }
@[simp] theorem Zcl(r:RS)(n:XN):(r.put n).i=r.i:=rfl
@[simp] theorem RS.adv_i(r:RS):r.adv.i=r.i+1:=rfl
@[simp] theorem RS.err_i(r:RS)(e:Int):(r.err e).i=r.i:=rfl
abbrev Inner:=Int->RS->Bool×RS
def andThen(x:Bool×RS)(k:RS->Bool×RS):Bool×RS:=if x.1 then k x.2 else(false,x.2)
theorem Zla(r:RS)(k:RS->Bool×RS):andThen (true,r) k=k r:=rfl
theorem Zsa(r:RS)(k:RS->Bool×RS):andThen (false,r) k=(false,r):=rfl
theorem Zal(x:Bool×RS)(k k':RS->Bool×RS):andThen (andThen x k) k'=andThen x λr=>andThen (k r) k':=by
 obtain⟨b,r⟩:=x
 cases b<;>rfl
theorem Z9c{x:Bool×RS}{k k':RS->Bool×RS}(h:x.1=true->k x.2=k' x.2):andThen x k=andThen x k':=by
 obtain⟨b,r⟩:=x;cases b;rfl;exact h rfl
def Zxi(l:List Tk)(w:List UInt8)(r:RS):Bool×RS:=if(Zea l r.i).kind=0\/(Zea l r.i).text≠w then(false,r.err 80)else(true,r.adv)
def Z5g(r:RS)(op num:Int)(name:List UInt8):Bool×RS:=(true,r.adv.put ⟨op,num,name,-1,-1,-1⟩)
def Zrd(t:List UInt8):List UInt8:=if t.dropWhile (· == 48)=[]then[48]else t.dropWhile (· == 48)
def Z4d(r:RS)(t:List UInt8):Bool×RS:=if(Zec (Zrd t)).2≠0 then(false,r.err (Zec (Zrd t)).2)else Z5g r 1 (Zec (Zrd t)).1 []
def wIf:List UInt8:=[105,102]
def Zdn:List UInt8:=[116,104,101,110]
def Zen:List UInt8:=[101,108,115,101]
def Zjg:List UInt8:=[101,110,100,105,102]
def Zyb(l:List Tk)(inner:Inner)(r:RS):Bool×RS:=
 andThen (Zxi l wIf r) λr1=>andThen (inner 1 r1) λa=>andThen (Zxi l Zdn a) λr2=>andThen (inner 1 r2) λb=>
 andThen (Zxi l Zen b) λr3=>andThen (inner 1 r3) λc=>andThen (Zxi l Zjg c) λr4=>(true,r4.put ⟨22,0,[],a.last,b.last,c.last⟩)
def Z1d(l:List Tk)(inner:Inner)(r:RS):Bool×RS:=
 if(Zea l r.i).kind=1 then Z4d r (Zea l r.i).text
 else if(Zea l r.i).kind=2 then Z5g r 2 0 (Zea l r.i).text
 else if(Zea l r.i).kind=0 then(false,r.err 80)
 else if(ofP (Zea l r.i).text 1).2 then andThen (inner 9 r.adv) λa=>(true,a.put ⟨(ofP (Zea l r.i).text 1).1,0,[],a.last,-1,-1⟩)
 else if(Zea l r.i).text=[40]then andThen (inner 1 r.adv) (Zxi l [41])
 else if(Zea l r.i).text=wIf then Zyb l inner r
 else if(ofP (Zea l r.i).text 0).2/\(Zea l r.i).kind=3 then Z5g r (ofP (Zea l r.i).text 0).1 0 []
 else(false,r.err 80)
def Zxm(l:List Tk)(i:Nat):Option Nat:=if(Zea l i).kind=0 then none else ofI (Zea l i).text 2
def Z6d(l:List Tk)(inner:Inner)(n:Int):Nat->RS->Bool×RS
 |0,r=>(true,r)
 |m+1,r=>match Zxm l r.i with
  |none=>(true,r)
  |some op=>if lvl op<n then(true,r)else andThen (inner (lvl op+1) r.adv) λa=>Z6d l inner n m (a.put ⟨op,0,[],r.last,a.last,-1⟩)
def Zga(l:List Tk):Nat->Inner
 |0,_,r=>(false,r)
 |f+1,n,r=>andThen (Z1d l (Zga l f) r) (Z6d l (Zga l f) n (l.length+1))
def Zph:List UInt8->List UInt8
 |c::d::r=>if c=48 then Zph (d::r)else c::d::r
 |s=>s
def Zqj(r:RS)(t:List UInt8):Bool×RS:=if(Zec (Zph t)).2≠0 then(false,r.err 60)else Z5g r 1 (Zec (Zph t)).1 []
def Z2p(l:List Tk)(w:List UInt8)(r:RS):Bool×RS:=if(Zea l r.i).text≠w then(false,r.err 80)else(true,r.adv)
def Zqe(l:List Tk)(inner:Inner)(r:RS):Bool×RS:=
 andThen (inner 1 r.adv) λa=>andThen (Z2p l Zdn a) λr2=>andThen (inner 1 r2) λb=>
 andThen (Z2p l Zen b) λr3=>andThen (inner 1 r3) λc=>andThen (Z2p l Zjg c) λr4=>(true,r4.put ⟨22,0,[],a.last,b.last,c.last⟩)
def Z7v(l:List Tk)(inner:Inner)(r:RS):Bool×RS:=
 if(Zea l r.i).text=[40]then andThen (inner 1 r.adv) (Z2p l [41])
 else if(Zea l r.i).text=wIf then Zqe l inner r
 else if(Zea l r.i).text=[116,114,117,101]then Z5g r 3 0 []
 else if(Zea l r.i).text=[102,97,108,115,101]then Z5g r 4 0 []
 else if(Zea l r.i).text≠[]/\(Zea l r.i).kind=1 then Zqj r (Zea l r.i).text
 else if(Zea l r.i).text≠[]/\(Zea l r.i).kind=2 then Z5g r 2 0 (Zea l r.i).text
 else(false,r.err 80)
def unR(l:List Tk)(inner:Inner)(r:RS):Bool×RS:=
 if(Zea l r.i).text=[45]then andThen (inner 9 r.adv) λa=>(true,a.put ⟨5,0,[],a.last,-1,-1⟩)
 else if(Zea l r.i).text=[110,111,116]then andThen (inner 9 r.adv) λa=>(true,a.put ⟨6,0,[],a.last,-1,-1⟩)
 else Z7v l inner r
def Z70(l:List Tk)(n:Int)(i:Nat):Nat:=match ofI (Zea l i).text 2 with|some op=>if lvl op=n then op else 0|none=>0
def Zkg(l:List Tk)(inner:Inner)(n:Int):Nat->RS->Bool×RS
 |0,r=>(true,r)
 |m+1,r=>if Z70 l n r.i=0 then(true,r)else andThen (inner (n+1) r.adv) λa=>Zkg l inner n m (a.put ⟨Z70 l n r.i,0,[],r.last,a.last,-1⟩)
def Zq2(l:List Tk)(inner:Inner):Nat->RS->Bool×RS
 |0,r=>unR l inner r
 |k+1,r=>andThen (Zq2 l inner k r) (Zkg l inner (8-k) (l.length+1))
def Mono(inner:Inner):Prop:=∀ n r,r.i<=(inner n r).2.i
theorem Zmb{x:Bool×RS}{k:RS->Bool×RS}{a:Nat}(h:a<=x.2.i)(hk:∀ r,x.2.i<=r.i->r.i<=(k r).2.i):a<=(andThen x k).2.i:=by
 obtain⟨b,r⟩:=x;cases b;exact h;exact Nat.le_trans h (hk r (Nat.le_refl _))
theorem Z1h(l:List Tk)(w:List UInt8)(r:RS):r.i<=(Zxi l w r).2.i:=by
 unfold Zxi;split;exact Nat.le_refl _;exact Nat.le_succ _
theorem Z4l(r:RS)(op num:Int)(name:List UInt8):r.i<=(Z5g r op num name).2.i:=Nat.le_succ _
theorem Ziw(r:RS)(t:List UInt8):r.i<=(Z4d r t).2.i:=by
 unfold Z4d;split;exact Nat.le_refl _;exact Z4l _ _ _ _
theorem Zir{l:List Tk}{inner:Inner}(h:Mono inner)(r:RS):r.i<=(Zyb l inner r).2.i:=by
 unfold Zyb;refine Zmb (Z1h _ _ _) λr1 _=>Zmb (h _ _) λa _=>Zmb (Z1h _ _ _) λr2 _=>Zmb (h _ _) λb _=>Zmb (Z1h _ _ _) λr3 _=>Zmb (h _ _) λc _=>Zmb (Z1h _ _ _) λr4 _=>Nat.le_refl _
theorem Zk3{l:List Tk}{inner:Inner}(h:Mono inner)(r:RS):r.i<=(Z1d l inner r).2.i:=by
 have h1:r.i<=r.adv.i:=Nat.le_succ _;unfold Z1d
 split
 exact Ziw _ _
 split
 exact Z4l _ _ _ _
 split
 exact Nat.le_refl _
 split
 exact Zmb (Nat.le_trans h1 (h _ _)) λa _=>Nat.le_refl _
 split
 exact Zmb (Nat.le_trans h1 (h _ _)) λa _=>Z1h _ _ _
 split
 exact Zir h r
 split
 exact Z4l _ _ _ _;exact Nat.le_refl _
theorem Z2l{l:List Tk}{inner:Inner}(h:Mono inner)(n:Int):∀ (m:Nat) (r:RS),r.i<=(Z6d l inner n m r).2.i
 |0,r=>Nat.le_refl _
 |m+1,r=>by
  rw[Z6d]
  split
  exact Nat.le_refl _
  split
  exact Nat.le_refl _;exact Zmb (Nat.le_trans (Nat.le_succ _) (h _ r.adv)) λa _=>Z2l h n m (a.put _)
theorem Zvf(l:List Tk):∀ f,Mono (Zga l f)
 |0=>λ_ _=>Nat.le_refl _
 |f+1=>λn r=>by
  rw[Zga];exact Zmb (Zk3 (Zvf l f) r) λa _=>Z2l (Zvf l f) n _ a
def Ends(l:List Tk)(n:Int)(i:Nat):Prop:=∀ op,Zxm l i=some op->lvl op<n
theorem Zxl{l:List Tk}{i op:Nat}(h:Zxm l i=some op):i<l.length:=by
 unfold Zxm at h
 split at h
 cases h;exact Zrk (by assumption)
theorem Zds{l:List Tk}{inner:Inner}(h:Mono inner)(n:Int):∀ (m:Nat) (r:RS),l.length<m+r.i->(Z6d l inner n m r).1=true->Ends l n (Z6d l inner n m r).2.i
 |0,r,hm,_=>λop ho=>by have h2:r.i<l.length:=Zxl ho;omega
 |m+1,r,hm,hb=>by
  rw[Z6d]at hb⊢
  cases ho:Zxm l r.i with
  |none=>
   intro op h2;have h2:Zxm l r.i=some op:=h2;rw[ho]at h2;cases h2
  |some op=>
   rw[ho]at hb;simp only at hb⊢
   by_cases hl:lvl op<n
   rw[if_pos hl]at hb⊢;intro op' h2;have h2:Zxm l r.i=some op':=h2;rw[ho]at h2;cases h2;exact hl;rw[if_neg hl]at hb⊢;have h3:=h (lvl op+1) r.adv;generalize inner (lvl op+1) r.adv=x at hb h3⊢;obtain⟨b,a⟩:=x;cases b;cases hb;exact Zds h n m _ (by have:r.i+1<=a.i:=h3;simp only[Zcl];omega) hb
theorem Zbq{l:List Tk}{f:Nat}{n:Int}{r:RS}(hb:(Zga l f n r).1=true):Ends l n (Zga l f n r).2.i:=by
 cases f with
 |zero=>cases hb
 |succ f=>
  rw[Zga]at hb⊢;generalize Z1d l (Zga l f) r=x at hb⊢;obtain⟨b,a⟩:=x;cases b;cases hb;exact Zds (Zvf l f) n _ a (by omega) hb
theorem Z0n{l:List Tk}{i:Nat}:Zxm l i=ofI (Zea l i).text 2:=by
 unfold Zxm
 split
 .rename_i h
  cases ho:ofI (Zea l i).text 2 with
  |none=>rfl
  |some op=>
   have h1:=(Zqt ho).2.2.2.2;have h2:=Zsi l i;rw[h]at h2;omega
 rfl
theorem Zmo{l:List Tk}{n:Int}{i:Nat}(h:Zxm l i=none):Z70 l n i=0:=by
 unfold Z70;rw[<- Z0n,h]
theorem Zbv{l:List Tk}{n:Int}{i op:Nat}(h:Zxm l i=some op):Z70 l n i=if lvl op=n then op else 0:=by
 unfold Z70;rw[<- Z0n,h]
theorem Zlha{l:List Tk}{i op:Nat}(h:Zxm l i=some op):7<=op/\op<=21/\1<=lvl op/\lvl op<=8:=by
 rw[Z0n]at h;obtain⟨h1,h2,h3,h4,_⟩:=Zqt h;exact⟨h1,h2,h3,h4⟩
theorem Ztr{l:List Tk}{inner:Inner}(h:Mono inner)(n:Int):∀ (m m':Nat) (r:RS),l.length<m+r.i->l.length<m'+r.i->Zkg l inner n m r=Zkg l inner n m' r
 |0,m',r,h1,_=>by
  cases m' with
  |zero=>rfl
  |succ m'=>
   rw[Zkg,Zkg,if_pos];apply Zmo
   cases ho:Zxm l r.i with
   |none=>rfl
   |some op=>have:=Zxl ho;omega
 |m+1,0,r,_,h2=>by
  rw[Zkg,Zkg,if_pos];apply Zmo
  cases ho:Zxm l r.i with
  |none=>rfl
  |some op=>have:=Zxl ho;omega
 |m+1,m'+1,r,h1,h2=>by
  rw[Zkg,Zkg]
  split
  rfl;refine Z9c λ_=>?_;have h3:r.i+1<=_:=h (n+1) r.adv;exact Ztr h n m m' _ (by simp only[Zcl];omega) (by simp only[Zcl];omega)
theorem Z1l{l:List Tk}{inner:Inner}(h:Mono inner)(n:Int)(he:∀ r,(inner (n+1) r).1=true->Ends l (n+1) (inner (n+1) r).2.i):
  ∀ (m:Nat) (r:RS),l.length<m+r.i->Z6d l inner n m r=andThen (Z6d l inner (n+1) m r) (Zkg l inner n m)
 |0,r,hm=>rfl
 |m+1,r,hm=>by
  rw[Z6d,Z6d]
  cases ho:Zxm l r.i with
  |none=>
   simp only;rw[Zla,Zkg,if_pos (Zmo ho)]
  |some op=>
   have hop:=Zlha ho;simp only
   by_cases h1:lvl op<n
   rw[if_pos h1,if_pos (by omega),Zla,Zkg,if_pos (by rw[Zbv ho,if_neg (by omega)])];rw[if_neg h1]
   by_cases h2:lvl op<n+1
   have h3:lvl op=n:=by omega
   have h4:Z70 l n r.i=op:=by rw[Zbv ho,if_pos h3]
   rw[if_pos h2,Zla,Zkg,h4,if_neg (by omega),h3];refine Z9c λhb=>?_;have h5:=he r.adv hb;have h6:r.i+1<=_:=h (n+1) r.adv;generalize inner (n+1) r.adv=x at hb h5 h6⊢;obtain⟨b,a⟩:=x;rw[Z1l h n he m _ (by simp only[Zcl];simp only at h6;omega)]
   have h7:Z6d l inner (n+1) m (a.put ⟨op,0,[],r.last,a.last,-1⟩)=(true,a.put ⟨op,0,[],r.last,a.last,-1⟩):=by
    cases m with
    |zero=>rfl
    |succ m=>
     rw[Z6d]
     cases ho2:Zxm l (a.put ⟨op,0,[],r.last,a.last,-1⟩).i with
     |none=>rfl
     |some op2=>simp only;rw[if_pos (h5 op2 ho2)]
   rw[h7,Zla];rw[if_neg h2,Zal];refine Z9c λhb=>?_;have h6:r.i+1<=_:=h (lvl op+1) r.adv;generalize inner (lvl op+1) r.adv=x at hb h6⊢;obtain⟨b,a⟩:=x;simp only at h6;rw[Z1l h n he m _ (by simp only[Zcl];omega)];refine Z9c λ_=>?_;have h8:a.i<=_:=Z2l (l:=l) h (n+1) m (a.put ⟨op,0,[],r.last,a.last,-1⟩)
   show Zkg l inner n m (Z6d l inner (n+1) m (a.put ⟨op,0,[],r.last,a.last,-1⟩)).2=_
   exact Ztr h n _ _ _ (by omega) (by omega)
theorem Z77:∀ {t:List UInt8},t≠[]->Zph t=Zrd t
 |[],h=>absurd rfl h
 |[c],_=>by
  unfold Zrd
  by_cases h:c=48
  subst h;rfl
  have:(c==48)=false:=by simpa using h
  simp[Zph,List.dropWhile,this]
 |c::d::r,_=>by
  rw[Zph]
  by_cases h:c=48
  subst h;rw[if_pos rfl,Z77 (t:=d::r) (by simp)];unfold Zrd;rw[show(48::d::r:List UInt8).dropWhile (· == 48)=(d::r).dropWhile (· == 48)from rfl]
  have:(c==48)=false:=by simpa using h
  rw[if_neg h];unfold Zrd;simp[List.dropWhile,this]
theorem Zkia{t:List UInt8}(h:isP t=1):t≠[]/\t.all Zoa=true:=by
 rw[Zmw]at h
 split at h
 cases h
 .match t with
  |[]=>cases h
  |c::r=>
   refine⟨by simp,?_⟩
   rcases Zao c with hc|⟨_,hc⟩|⟨hc,_⟩
   rw[Zon hc]at h
   split at h
   assumption
   cases h;rw[Znn hc]at h
   split at h
   split at h<;>cases h
   cases h;rw[Zug hc]at h
   split at h<;>cases h
theorem Z8v{t:List UInt8}(h:t.all Zoa=true):(Zec (Zrd t)).2=0\/(Zec (Zrd t)).2=60:=by
 have h1:(Zrd t).all Zoa=true/\Zrd t≠[]/\((Zrd t).head?=some 48->(Zrd t).length=1):=by
  unfold Zrd
  split
  exact⟨by decide,by simp,λ_=>rfl⟩;rename_i hn;refine⟨?_,hn,λh2=>?_⟩;rw[List.all_eq_true]at h⊢;exact λx hx=>h x ((List.dropWhile_sublist _).mem hx);have:=List.head?_dropWhile_not (· == (48:UInt8)) t;rw[h2]at this;simp at this
 obtain⟨h1,h2,h3⟩:=h1;generalize Zrd t=s at h1 h2 h3
 have hh:¬ (s.head? == some 45)=true:=by
  cases s with
  |nil=>exact absurd rfl h2
  |cons c r=>
   intro hc
   have hc:c=45:=by simpa using hc
   subst hc;rw[List.all_cons]at h1
   revert h1
   simp[Zoa]
 have hh':(s.head? == some 45)=false:=by simpa using hh
 unfold Zec;rw[hh'];simp only[Bool.false_eq_true,if_false,or_false];rw[if_neg];generalize((val (s.reverse.map Zyi):Nat):Int)=x;unfold Z80
 split
 exact .inl rfl;exact .inr rfl;rintro(h|⟨h,h'⟩|h);exact h2 h;have:=h3 h;omega;rw[h1]at h;cases h
theorem Zoha(r:RS){t:List UInt8}(h:isP t=1):Zqj r t=Z4d r t:=by
 obtain⟨h1,h2⟩:=Zkia h;unfold Zqj Z4d;rw[Z77 h1]
 rcases Z8v h2 with h3|h3
 simp only[h3];rfl;simp only[h3]
theorem Z3w(l:List Tk){w:List UInt8}(hw:isP w≠0)(r:RS):Z2p l w r=Zxi l w r:=by
 unfold Z2p Zxi
 by_cases h:(Zea l r.i).text=w
 have:=Zsi l r.i;rw[h]at this;rw[if_neg (by simpa using h),if_neg];rintro(h2|h2);omega;exact h2 h;rw[if_pos h,if_pos (.inr h)]
theorem eatP_if{l:List Tk}{r:RS}(h:(Zea l r.i).text=wIf):Zxi l wIf r=(true,r.adv):=by
 have h1:=Zsi l r.i;rw[h]at h1
 have h2:isP wIf=3:=by decide
 unfold Zxi;rw[if_neg];rintro(h3|h3);omega;exact h3 h
theorem Zqla(l:List Tk)(inner:Inner)(r:RS):unR l inner r=Z1d l inner r:=by
 have hk:=Zsi l r.i;have e41:=Z3w l (w:=[41]) (by decide);have eT:=Z3w l (w:=Zdn) (by decide);have eE:=Z3w l (w:=Zen) (by decide);have eN:=Z3w l (w:=Zjg) (by decide)
 have hbr:(Zea l r.i).text=wIf->Zqe l inner r=Zyb l inner r:=λh=>by
  unfold Zqe Zyb;rw[eatP_if h,Zla];simp only[eT,eE,eN]
 have hpr:andThen (inner 1 r.adv) (Z2p l [41])=andThen (inner 1 r.adv) (Zxi l [41]):=Z9c λ_=>e41 _;unfold unR Z7v Z1d;rw[hpr];generalize Zea l r.i=t at hk hbr⊢;obtain⟨k,t,p⟩:=t;simp only at hk hbr⊢
 by_cases c1:t=[45]
 subst c1
 have:k=4:=by rw[<- hk];decide
 subst this;rfl;rw[if_neg c1]
 by_cases c2:t=[110,111,116]
 subst c2
 have:k=3:=by rw[<- hk];decide
 subst this;rfl;rw[if_neg c2]
 by_cases c3:t=[40]
 subst c3
 have:k=4:=by rw[<- hk];decide
 subst this;rfl;rw[if_neg c3]
 by_cases c4:t=wIf
 subst c4
 have:k=3:=by rw[<- hk];decide
 subst this;rw[if_pos rfl,hbr rfl];rfl;rw[if_neg c4]
 by_cases c5:t=[116,114,117,101]
 subst c5
 have:k=3:=by rw[<- hk];decide
 subst this;rfl;rw[if_neg c5]
 by_cases c6:t=[102,97,108,115,101]
 subst c6
 have:k=3:=by rw[<- hk];decide
 subst this;rfl;rw[if_neg c6]
 have hne:k=1\/k=2->t≠[]:=by
  rintro h rfl;have:isP []=0:=rfl;omega
 by_cases k1:k=1
 rw[if_pos ⟨hne (.inl k1),k1⟩,if_pos k1];exact Zoha r (by omega);rw[if_neg (λh=>k1 h.2),if_neg k1]
 by_cases k2:k=2
 rw[if_pos ⟨hne (.inr k2),k2⟩,if_pos k2];rw[if_neg (λh=>k2 h.2),if_neg k2]
 by_cases k0:k=0
 rw[if_pos k0]
 have o1:(ofP t 1).2=false:=by
  unfold ofP
  cases ho:ofI t 1 with
  |none=>rfl
  |some i=>
   rcases ofI_one ho with ⟨h,_⟩|⟨h,_⟩
   exact absurd h c1;exact absurd h c2
 have o0:(ofP t 0).2=false:=by
  unfold ofP
  cases ho:ofI t 0 with
  |none=>rfl
  |some i=>
   rcases Zv8 ho with ⟨h,_⟩|⟨h,_⟩
   exact absurd h c5;exact absurd h c6
 rw[if_neg k0,o1,if_neg (by simp),if_neg c3,if_neg c4,o0,if_neg (by simp)]
theorem loop9(l:List Tk)(inner:Inner)(m:Nat)(r:RS):Z6d l inner 9 m r=(true,r):=by
 cases m with
 |zero=>rfl
 |succ m=>
  rw[Z6d]
  cases ho:Zxm l r.i with
  |none=>rfl
  |some op=>simp only;rw[if_pos (by have:=Zlha ho;omega)]
theorem Z3l{l:List Tk}{inner:Inner}(h:Mono inner)(he:∀ n r,(inner n r).1=true->Ends l n (inner n r).2.i):
  ∀ (k:Nat) (r:RS),Zq2 l inner k r=andThen (Z1d l inner r) (Z6d l inner (9-k) (l.length+1))
 |0,r=>by
  rw[Zq2,Zqla]
  have:∀ x:Bool×RS,x=andThen x (Z6d l inner (9-(0:Nat)) (l.length+1)):=by
   rintro⟨b,a⟩;cases b;rfl;exact(loop9 l inner _ a).symm
  exact this _
 |k+1,r=>by
  rw[Zq2,Z3l h he k r,Zal];refine Z9c λ_=>?_;have hs:=Z1l (l:=l) h (8-k) (he _) (l.length+1) (Z1d l inner r).2 (by omega)
  have e1:(9:Int)-(k:Nat)=8-k+1:=by omega
  have e2:(9:Int)-((k+1:Nat))=8-k:=by omega
  rw[e1,e2,hs]
end Go.Hs
end

section
namespace Go.Hs
structure Bal(l:List Tk)(k:Nat)(r r':RS):Prop where
 up:r.i<=r'.i
 inn:r.i<=l.length->r'.i<=l.length
 cnt:r'.nodes.length+r.i+k<=r.nodes.length+r'.i
theorem Bal.refl(l:List Tk)(r:RS):Bal l 0 r r:=⟨Nat.le_refl _,id,Nat.le_refl _⟩
theorem Bal.trans{l:List Tk}{k k':Nat}{r r' r'':RS}(h:Bal l k r r')(h':Bal l k' r' r''):Bal l (k+k') r r'':=
 ⟨Nat.le_trans h.up h'.up,λx=>h'.inn (h.inn x),by have:=h.cnt;have:=h'.cnt;omega⟩
theorem Bal.weak{l:List Tk}{k k':Nat}{r r':RS}(h:Bal l k r r')(hk:k'<=k):Bal l k' r r':=⟨h.up,h.inn,by have:=h.cnt;omega⟩
theorem Bal.adv{l:List Tk}{r:RS}(h:r.i<l.length):Bal l 1 r r.adv:=⟨Nat.le_succ _,λ_=>h,by show r.nodes.length+r.i+1<=r.nodes.length+(r.i+1);omega⟩
theorem Bal.err(l:List Tk)(r:RS)(e:Int):Bal l 0 r (r.err e):=⟨Nat.le_refl _,id,Nat.le_refl _⟩
theorem Bal.put{l:List Tk}{k:Nat}{r r':RS}(h:Bal l (k+1) r r')(n:XN):Bal l k r (r'.put n):=
 ⟨h.up,h.inn,by have:=h.cnt;show(r'.nodes++[n]).length+r.i+k<=_;rw[List.length_append,List.length_singleton];show _<=r.nodes.length+r'.i;omega⟩
def Bals(l:List Tk)(inner:Inner):Prop:=∀ n r,Bal l 0 r (inner n r).2
theorem Zhd{l:List Tk}{r:RS}{x:Bool×RS}{k:RS->Bool×RS}(h:Bal l 0 r x.2)(hk:x.1=true->Bal l 0 r (k x.2).2):Bal l 0 r (andThen x k).2:=by
 obtain⟨b,r1⟩:=x;cases b;exact h;exact hk rfl
theorem Zxe(l:List Tk)(w:List UInt8)(r:RS):Bal l 0 r (Zxi l w r).2/\((Zxi l w r).1=true->Bal l 1 r (Zxi l w r).2):=by
 unfold Zxi
 split
 exact⟨Bal.err _ _ _,λh=>by cases h⟩;rename_i h;have hk:(Zea l r.i).kind≠0:=λhh=>h (.inl hh);have:=Bal.adv (Zrk hk);exact⟨this.weak (Nat.zero_le _),λ_=>this⟩
theorem Zsp{l:List Tk}{r:RS}(h:(Zea l r.i).kind≠0)(op num:Int)(name:List UInt8):Bal l 0 r (Z5g r op num name).2:=(Bal.adv (Zrk h)).put _
theorem Zj2{l:List Tk}{r:RS}(h:(Zea l r.i).kind≠0)(t:List UInt8):Bal l 0 r (Z4d r t).2:=by
 unfold Z4d
 split
 exact Bal.err _ _ _;exact Zsp h _ _ _
theorem Zfu{l:List Tk}{inner:Inner}(h:Bals l inner)(r:RS):Bal l 0 r (Zyb l inner r).2:=by
 unfold Zyb;have e1:=Zxe l wIf r;refine Zhd e1.1 λh1=>?_;have b1:=e1.2 h1;generalize(Zxi l wIf r).2=r1 at b1⊢;have b2:=b1.trans (h 1 r1);refine Zhd (b2.weak (Nat.zero_le _)) λ_=>?_;generalize(inner 1 r1).2=a at b2⊢;have e2:=Zxe l Zdn a;refine Zhd ((b2.trans e2.1).weak (Nat.zero_le _)) λh2=>?_;have b3:=b2.trans (e2.2 h2);generalize(Zxi l Zdn a).2=r2 at b3⊢;have b4:=b3.trans (h 1 r2);refine Zhd (b4.weak (Nat.zero_le _)) λ_=>?_;generalize(inner 1 r2).2=b at b4⊢;have e3:=Zxe l Zen b;refine Zhd ((b4.trans e3.1).weak (Nat.zero_le _)) λh3=>?_;have b5:=b4.trans (e3.2 h3);generalize(Zxi l Zen b).2=r3 at b5⊢;have b6:=b5.trans (h 1 r3);refine Zhd (b6.weak (Nat.zero_le _)) λ_=>?_;generalize(inner 1 r3).2=c at b6⊢;have e4:=Zxe l Zjg c;refine Zhd ((b6.trans e4.1).weak (Nat.zero_le _)) λh4=>?_;have b7:=b6.trans (e4.2 h4);exact(b7.put _).weak (Nat.zero_le _)
theorem Z0i{l:List Tk}{inner:Inner}(h:Bals l inner)(r:RS):Bal l 0 r (Z1d l inner r).2:=by
 unfold Z1d
 split
 rename_i hk;exact Zj2 (by rw[hk];decide) _
 split
 rename_i hk;exact Zsp (by rw[hk];decide) _ _ _
 split
 exact Bal.err _ _ _;rename_i h0;have ba:=Bal.adv (Zrk h0)
 split
 have b1:=ba.trans (h 9 r.adv);exact Zhd (b1.weak (Nat.zero_le _)) λ_=>b1.put _
 split
 have b1:=ba.trans (h 1 r.adv);exact Zhd (b1.weak (Nat.zero_le _)) λ_=>(b1.trans (Zxe l [41] _).1).weak (Nat.zero_le _)
 split
 exact Zfu h r
 split
 exact Zsp h0 _ _ _;exact Bal.err _ _ _
theorem Znp{l:List Tk}{inner:Inner}(h:Bals l inner)(n:Int):∀ (m:Nat) (r:RS),Bal l 0 r (Z6d l inner n m r).2
 |0,r=>Bal.refl l r
 |m+1,r=>by
  rw[Z6d]
  cases ho:Zxm l r.i with
  |none=>exact Bal.refl l r
  |some op=>
   simp only
   split
   exact Bal.refl l r;have b1:=(Bal.adv (Zxl ho)).trans (h (lvl op+1) r.adv);exact Zhd (b1.weak (Nat.zero_le _)) λ_=>((b1.put _).trans (Znp h n m _)).weak (Nat.zero_le _)
theorem Z4b(l:List Tk):∀ f,Bals l (Zga l f)
 |0=>λ_ r=>Bal.refl l r
 |f+1=>λn r=>by
  rw[Zga];have b1:=Z0i (Z4b l f) r;exact Zhd b1 λ_=>(b1.trans (Znp (Z4b l f) n _ _)).weak (Nat.zero_le _)
def Zel(l:List Tk)(r:RS):Prop:=r.i<=l.length/\r.nodes.length<=r.i
theorem Bal.ok{l:List Tk}{k:Nat}{r r':RS}(h:Bal l k r r')(hr:Zel l r):Zel l r':=⟨h.inn hr.1,by have:=h.cnt;have:=h.up;have:=hr.2;omega⟩
inductive X where
 |leaf (op num:Int) (name:List UInt8)
 |un (op:Int) (a:X)
 |bin (op:Int) (a b:X)
 |ite (a b c:X)
 deriving DecidableEq,Inhabited
namespace X
def size:X->Nat
 |leaf .. => 1
 |un _ a=>a.size+1
 |bin _ a b=>a.size+b.size+1
 |ite a b c=>a.size+b.size+c.size+1
def depth:X->Nat
 |leaf .. => 1
 |un _ a=>a.depth+1
 |bin _ a b=>max a.depth b.depth+1
 |ite a b c=>max (max a.depth b.depth) c.depth+1
end X
def Zqd(n:XN):Bool:=
 if n.op<1\/n.op>22\/n.num<0 then false else if n.op=2 then n.num==0&&isP n.name==2 else n.name==[]&&(n.op==1||n.num==0)
namespace X
def ok:X->Bool
 |leaf op num name=>Zqd ⟨op,num,name,-1,-1,-1⟩&&decide (op<=4)
 |un op a=>decide (5<=op)&&decide (op<=6)&&a.ok
 |bin op a b=>decide (7<=op)&&decide (op<=21)&&a.ok&&b.ok
 |ite a b c=>a.ok&&b.ok&&c.ok
def row:X->Int->List XN
 |leaf op num name,_=>[⟨op,num,name,-1,-1,-1⟩]
 |un op a,k=>a.row k++[⟨op,0,[],k+a.size-1,-1,-1⟩]
 |bin op a b,k=>a.row k++b.row (k+a.size)++[⟨op,0,[],k+a.size-1,k+a.size+b.size-1,-1⟩]
 |ite a b c,k=>a.row k++b.row (k+a.size)++c.row (k+a.size+b.size)++[⟨22,0,[],k+a.size-1,k+a.size+b.size-1,k+a.size+b.size+c.size-1⟩]
theorem row_len:∀ (x:X) (k:Int),(x.row k).length=x.size
 |leaf ..,_=>rfl
 |un _ a,k=>by simp[row,size,row_len a]
 |bin _ a b,k=>by simp[row,size,row_len a,row_len b];omega
 |ite a b c,k=>by simp[row,size,row_len a,row_len b,row_len c];omega
theorem size_pos:∀ x:X,0<x.size
 |leaf .. => by simp[size]
 |un .. => by simp[size]
 |bin .. => by simp[size]
 |ite .. => by simp[size]
def top:X->Int->XN
 |leaf op num name,_=>⟨op,num,name,-1,-1,-1⟩
 |un op a,k=>⟨op,0,[],k+a.size-1,-1,-1⟩
 |bin op a b,k=>⟨op,0,[],k+a.size-1,k+a.size+b.size-1,-1⟩
 |ite a b c,k=>⟨22,0,[],k+a.size-1,k+a.size+b.size-1,k+a.size+b.size+c.size-1⟩
end X
theorem Zvg{op:Int}(h:3<=op/\op<=22)(a b c:Int):Zqd ⟨op,0,[],a,b,c⟩=true:=by
 unfold Zqd;rw[if_neg (by simp;omega),if_neg (by simp;omega)];simp
theorem Z37{n:XN}(h:Zqd n=true)(h3:n.op≠1):n.num=0/\(n.op≠2->n.name=[])/\1<=n.op/\n.op<=22:=by
 unfold Zqd at h
 split at h
 cases h;rename_i h0;simp only[not_or,Int.not_lt]at h0
 split at h
 rename_i h2;simp only[Bool.and_eq_true,beq_iff_eq]at h;exact⟨h.1,λhh=>absurd h2 hh,by omega,by omega⟩;simp only[Bool.and_eq_true,beq_iff_eq,Bool.or_eq_true]at h;exact⟨h.2.resolve_left h3,λ_=>h.1,by omega,by omega⟩
theorem Zig{n:XN}(h:Zqd n=true):1<=n.op/\n.op<=22:=by
 unfold Zqd at h
 split at h
 cases h;rename_i h0;simp only[not_or,Int.not_lt]at h0;omega
def Zy(op:Int):Nat:=if op<=4 then 0 else if op<=6 then 1 else if op<=21 then 2 else 3
def Z0b(l:List (Int×Int)):List Int:=[(l.map (·.1)).getD 0 (-1),(l.map (·.1)).getD 1 (-1),(l.map (·.1)).getD 2 (-1)]
def Z8b(l:List (Int×Int)):Int:=l.foldl (λd p=>max d p.2) 0
def Zld(i:Int)(n:XN)(opn:List (Int×Int)):Option (List (Int×Int)):=
 if Zqd n=false then none else if opn.length<Zy n.op then none
 else if Z0b (opn.drop (opn.length-Zy n.op))≠[n.a,n.b,n.c]then none
 else some (opn.take (opn.length-Zy n.op)++[(i,Z8b (opn.drop (opn.length-Zy n.op))+1)])
def Zvd:List XN->Int->List (Int×Int)->Option (List (Int×Int))
 |[],_,opn=>some opn
 |n::r,i,opn=>match Zld i n opn with
  |some o=>Zvd r (i+1) o
  |none=>none
def Zkb(l:List XN):Int:=match Zvd l 0 []with
 |some [x]=>x.2
 |_=>0
def Z4q:Int->List X->List XN
 |_,[]=>[]
 |k,x::r=>x.row k++Z4q (k+x.size) r
def Zbf(F:List X):Nat:=(F.map X.size).sum
def Zxb:Int->List X->List (Int×Int)
 |_,[]=>[]
 |k,x::r=>(k+x.size-1,(x.depth:Int))::Zxb (k+x.size) r
theorem Zol(x:X)(r:List X):Zbf (x::r)=x.size+Zbf r:=by simp[Zbf]
theorem Ziga(a b:List X):Zbf (a++b)=Zbf a+Zbf b:=by simp[Zbf]
theorem Zbt:∀ (a b:List X) (k:Int),Z4q k (a++b)=Z4q k a++Z4q (k+Zbf a) b
 |[],b,k=>by simp[Z4q,Zbf]
 |x::a,b,k=>by
  rw[List.cons_append,Z4q,Z4q,Zbt a b,List.append_assoc,Zol]
  congr 3;omega
theorem Zpi:∀ (a b:List X) (k:Int),Zxb k (a++b)=Zxb k a++Zxb (k+Zbf a) b
 |[],b,k=>by simp[Zxb,Zbf]
 |x::a,b,k=>by
  rw[List.cons_append,Zxb,Zxb,Zpi a b,List.cons_append,Zol]
  congr 3;omega
theorem Zoi:∀ (F:List X) (k:Int),(Zxb k F).length=F.length
 |[],_=>rfl
 |x::r,k=>by simp[Zxb,Zoi r]
theorem Zvn:∀ (F:List X) (k:Int),(Z4q k F).length=Zbf F
 |[],_=>rfl
 |x::r,k=>by rw[Z4q,List.length_append,X.row_len,Zvn r,Zol]
theorem Zaaa{F:List X}{p:Nat}(h:p<=F.length):∃ A B,F=A++B/\B.length=p:=⟨F.take (F.length-p),F.drop (F.length-p),(List.take_append_drop _ _).symm,by simp;omega⟩
theorem Z6w{F:List X}{n:XN}{o:List (Int×Int)}(hF:∀ x∈F,x.ok=true)(h:Zld (Zbf F) n (Zxb 0 F)=some o):
  ∃ F',(∀ x∈F',x.ok=true)/\Z4q 0 F'=Z4q 0 F++[n]/\o=Zxb 0 F':=by
 unfold Zld at h;rw[Zoi]at h
 split at h
 cases h;rename_i hw
 have hw:Zqd n=true:=by simpa using hw
 have hrg:=Zig hw
 split at h
 cases h;rename_i hlen;obtain⟨A,B,rfl,hB⟩:=Zaaa (F:=F) (p:=Zy n.op) (by omega)
 have hAl:(A++B).length-Zy n.op=A.length:=by rw[List.length_append,hB];omega
 have hdrop:(Zxb 0 (A++B)).drop A.length=Zxb (Zbf A) B:=by
  rw[Zpi,List.drop_left' (Zoi _ _),Int.zero_add]
 have htake:(Zxb 0 (A++B)).take A.length=Zxb 0 A:=by
  rw[Zpi,List.take_left' (Zoi _ _)]
 rw[hAl,hdrop,htake]at h
 split at h
 cases h;rename_i hpl;simp only[ne_eq,Decidable.not_not]at hpl;simp only[Option.some.injEq]at h;have hokA:∀ x∈A,x.ok=true:=λx hx=>hF x (by simp[hx])
 have fin:∀ x:X,x.ok=true->x.row (Zbf A)=Z4q (Zbf A) B++[n]->(x.depth:Int)=Z8b (Zxb (Zbf A) B)+1 ->
   ∃ F',(∀ x∈F',x.ok=true)/\Z4q 0 F'=Z4q 0 (A++B)++[n]/\o=Zxb 0 F':=by
  intro x hx hr hd;refine⟨A++[x],λy hy=>?_,?_,?_⟩
  rcases List.mem_append.1 hy with h1|h1
  exact hokA y h1;rw[List.mem_singleton.1 h1];exact hx;rw[Zbt,Zbt,List.append_assoc,Int.zero_add,<- hr];simp[Z4q];rw[<- h,Zpi,Zxb,Zxb,hd];have h1:(x.row (Zbf A)).length=x.size:=X.row_len _ _;rw[hr,List.length_append,Zvn,List.length_singleton]at h1;rw[Ziga]
  congr 4
  omega
 obtain⟨op,num,name,a,b,c⟩:=n;simp only at hB hpl hrg;unfold Zy at hB
 split at hB
 rename_i h4;obtain rfl:B=[]:=List.length_eq_zero_iff.1 hB;simp only[Z0b,Zxb,List.map_nil,List.getD_nil,List.cons.injEq,and_true]at hpl;obtain⟨rfl,rfl,rfl⟩:=hpl;exact fin (.leaf op num name) (by unfold X.ok;rw[hw];simp;omega) rfl rfl;rename_i h4;have hn:=Z37 hw (show op≠1 by omega);simp only at hn;obtain⟨rfl,hnm,_⟩:=hn;obtain rfl:=hnm (by omega)
 split at hB
 rename_i h6;obtain⟨x,rfl⟩:=List.length_eq_one_iff.1 hB;simp only[Z0b,Zxb,List.map_cons,List.map_nil,List.getD_cons_zero,List.getD_cons_succ,List.getD_nil,List.cons.injEq,and_true]at hpl;obtain⟨rfl,rfl,rfl⟩:=hpl;refine fin (.un op x) (by unfold X.ok;rw[hF x (by simp)];simp;omega) ?_ ?_;simp[X.row,Z4q];simp[X.depth,Zxb,Z8b];rename_i h6
 split at hB
 rename_i h21
 obtain⟨x,y,rfl⟩:∃ x y,B=[x,y]:=by
  match B,hB with
  |[x,y],_=>exact⟨x,y,rfl⟩
 simp only[Z0b,Zxb,List.map_cons,List.map_nil,List.getD_cons_zero,List.getD_cons_succ,List.getD_nil,List.cons.injEq,and_true]at hpl;obtain⟨rfl,rfl,rfl⟩:=hpl;refine fin (.bin op x y) (by unfold X.ok;rw[hF x (by simp),hF y (by simp)];simp;omega) ?_ ?_;simp[X.row,Z4q];simp[X.depth,Zxb,Z8b];omega;rename_i h21
 obtain⟨x,y,z,rfl⟩:∃ x y z,B=[x,y,z]:=by
  match B,hB with
  |[x,y,z],_=>exact⟨x,y,z,rfl⟩
 simp only[Z0b,Zxb,List.map_cons,List.map_nil,List.getD_cons_zero,List.getD_cons_succ,List.cons.injEq,and_true]at hpl;obtain⟨rfl,rfl,rfl⟩:=hpl
 obtain rfl:op=22:=by omega
 refine fin (.ite x y z) (by unfold X.ok;rw[hF x (by simp),hF y (by simp),hF z (by simp)];rfl) ?_ ?_;simp[X.row,Z4q];simp[X.depth,Zxb,Z8b];omega
theorem Zms:∀ (l:List XN) (F:List X) (opn:List (Int×Int)),(∀ x∈F,x.ok=true)->Zvd l (Zbf F) (Zxb 0 F)=some opn ->
  ∃ F',(∀ x∈F',x.ok=true)/\Z4q 0 F'=Z4q 0 F++l/\opn=Zxb 0 F'
 |[],F,opn,hF,h=>⟨F,hF,by simp,by simpa[Zvd]using h.symm⟩
 |n::r,F,opn,hF,h=>by
  rw[Zvd]at h
  cases hs:Zld (Zbf F) n (Zxb 0 F)with
  |none=>rw[hs]at h;cases h
  |some o=>
   rw[hs]at h;obtain⟨F1,h1,h2,rfl⟩:=Z6w hF hs
   have hsz:(Zbf F:Int)+1=Zbf F1:=by
    have:=congrArg List.length h2;rw[List.length_append,Zvn,Zvn,List.length_singleton]at this;omega
   simp only at h;rw[hsz]at h;obtain⟨F',h3,h4,h5⟩:=Zms r F1 opn h1 h;exact⟨F',h3,by rw[h4,h2];simp,h5⟩
theorem Zuf:∀ (l m:List XN) (i:Int) (opn:List (Int×Int)),Zvd (l++m) i opn=(Zvd l i opn).bind λo=>Zvd m (i+l.length) o
 |[],m,i,opn=>by simp[Zvd]
 |n::r,m,i,opn=>by
  rw[List.cons_append,Zvd,Zvd]
  cases Zld i n opn with
  |none=>rfl
  |some o=>
   simp only;rw[Zuf r m]
   congr 1;funext o'
   congr 1
   simp only[List.length_cons];omega
theorem Ztf:∀ (x:X) (k:Int) (opn:List (Int×Int)),x.ok=true->Zvd (x.row k) k opn=some (opn++[(k+x.size-1,(x.depth:Int))])
 |.leaf op num name,k,opn,h=>by
  unfold X.ok at h;simp only[Bool.and_eq_true,decide_eq_true_eq]at h;simp only[X.row,Zvd]
  have hs:Zld k ⟨op,num,name,-1,-1,-1⟩ opn=some (opn++[(k,1)]):=by
   unfold Zld;rw[if_neg (by rw[h.1];simp)]
   have:Zy op=0:=by unfold Zy;rw[if_pos h.2]
   rw[this,if_neg (by omega),Nat.sub_zero,List.drop_length,List.take_length];rfl
  rw[hs];simp[Zvd,X.size,X.depth]
 |.un op a,k,opn,h=>by
  unfold X.ok at h;simp only[Bool.and_eq_true,decide_eq_true_eq]at h;rw[X.row,Zuf,Ztf a k opn h.2,Option.bind_some,X.row_len,Zvd]
  have hp:Zy op=1:=by unfold Zy;rw[if_neg (by omega),if_pos (by omega)]
  have hs:Zld (k+a.size) ⟨op,0,[],k+a.size-1,-1,-1⟩ (opn++[(k+a.size-1,(a.depth:Int))])=some (opn++[(k+a.size,(a.depth:Int)+1)]):=by
   unfold Zld
   have hl:(opn++[(k+(a.size:Int)-1,(a.depth:Int))]).length-1=opn.length:=by simp
   rw[if_neg (by rw[Zvg (by omega)];simp)];simp only[hp];rw[if_neg (by simp),hl,List.drop_left,List.take_left,if_neg (by simp[Z0b])]
   congr 4
   all_goals first|(simp[Z8b];done)|(simp[Z8b];omega)
  rw[hs];simp only[Zvd,X.size,X.depth]
  congr 4
  all_goals first|(simp;done)|(simp;omega)|omega
 |.bin op a b,k,opn,h=>by
  unfold X.ok at h;simp only[Bool.and_eq_true,decide_eq_true_eq]at h;rw[X.row,Zuf,Zuf,Ztf a k opn h.1.2,Option.bind_some,X.row_len,Ztf b _ _ h.2,Option.bind_some,Zvd]
  have hp:Zy op=2:=by unfold Zy;rw[if_neg (by omega),if_neg (by omega),if_pos (by omega)]
  have hlen:((a.row k++b.row (k+a.size)).length:Int)=a.size+b.size:=by rw[List.length_append,X.row_len,X.row_len];omega
  rw[hlen]
  have hs:Zld (k+(a.size+b.size)) ⟨op,0,[],k+a.size-1,k+a.size+b.size-1,-1⟩ (opn++[(k+a.size-1,(a.depth:Int))]++[(k+a.size+b.size-1,(b.depth:Int))])=some (opn++[(k+(a.size+b.size),max (a.depth:Int) b.depth+1)]):=by
   unfold Zld
   have hl:(opn++[(k+(a.size:Int)-1,(a.depth:Int))]++[(k+a.size+b.size-1,(b.depth:Int))]).length-2=opn.length:=by simp
   rw[if_neg (by rw[Zvg (by omega)];simp)];simp only[hp];rw[if_neg (by simp),hl,List.append_assoc,List.drop_left,List.take_left,if_neg (by simp[Z0b])]
   congr 4
   all_goals first|(simp[Z8b];done)|(simp[Z8b];omega)
  rw[hs];simp only[Zvd,X.size,X.depth]
  congr 4
  all_goals first|(simp;done)|(simp;omega)|omega
 |.ite a b c,k,opn,h=>by
  unfold X.ok at h;simp only[Bool.and_eq_true]at h;rw[X.row,Zuf,Zuf,Zuf,Ztf a k opn h.1.1,Option.bind_some,X.row_len,Ztf b _ _ h.1.2,Option.bind_some]
  have hlen1:k+((a.row k++b.row (k+a.size)).length:Int)=k+a.size+b.size:=by rw[List.length_append,X.row_len,X.row_len];omega
  rw[hlen1,Ztf c _ _ h.2,Option.bind_some,Zvd]
  have hlen:((a.row k++b.row (k+a.size)++c.row (k+a.size+b.size)).length:Int)=a.size+b.size+c.size:=by simp only[List.length_append,X.row_len];omega
  rw[hlen]
  have hs:Zld (k+(a.size+b.size+c.size)) ⟨22,0,[],k+a.size-1,k+a.size+b.size-1,k+a.size+b.size+c.size-1⟩ (opn++[(k+a.size-1,(a.depth:Int))]++[(k+a.size+b.size-1,(b.depth:Int))]++[(k+a.size+b.size+c.size-1,(c.depth:Int))])=some (opn++[(k+(a.size+b.size+c.size),max (max (a.depth:Int) b.depth) c.depth+1)]):=by
   unfold Zld;have hp:Zy 22=3:=rfl
   have hl:(opn++[(k+(a.size:Int)-1,(a.depth:Int))]++[(k+a.size+b.size-1,(b.depth:Int))]++[(k+a.size+b.size+c.size-1,(c.depth:Int))]).length-3=opn.length:=by simp
   rw[if_neg (by rw[Zvg (by omega)];simp)];simp only[hp];rw[if_neg (by simp),hl,List.append_assoc,List.append_assoc,List.drop_left,List.take_left,if_neg (by simp[Z0b])]
   congr 4
   all_goals first|(simp[Z8b];done)|(simp[Z8b];omega)
  rw[hs];simp only[Zvd,X.size,X.depth]
  congr 4
  all_goals first|(simp;done)|(simp;omega)|omega
theorem Z5w{x:X}(h:x.ok=true):Zkb (x.row 0)=x.depth:=by
 unfold Zkb;rw[Ztf x 0 [] h];rfl
theorem Z9l{l:List XN}(h:Zkb l≠0):∃ x:X,x.ok=true/\l=x.row 0:=by
 unfold Zkb at h
 split at h
 .rename_i y hy
  obtain⟨F,h1,h2,h3⟩:=Zms l [] _ (by simp) (by simpa[Zbf,Zxb]using hy)
  match F,h3 with
  |[x],_=>exact⟨x,h1 x (by simp),by simpa[Z4q]using h2.symm⟩
  |[],h3=>simp[Zxb]at h3
  |_::_::_,h3=>simp[Zxb]at h3
 exact absurd rfl h
theorem X.depth_pos:∀ x:X,0<x.depth
 |.leaf .. => by simp[depth]
 |.un .. => by simp[depth]
 |.bin .. => by simp[depth]
 |.ite .. => by simp[depth]
def Zhb(l:List Tk):List XN×Int×Int:=if(Zga l (l.length+1) 1 ⟨0,[],0⟩).1=false then([],(Zga l (l.length+1) 1 ⟨0,[],0⟩).2.i,(Zga l (l.length+1) 1 ⟨0,[],0⟩).2.e)
 else if Zkb (Zga l (l.length+1) 1 ⟨0,[],0⟩).2.nodes>64 then([],0,3)else((Zga l (l.length+1) 1 ⟨0,[],0⟩).2.nodes,(Zga l (l.length+1) 1 ⟨0,[],0⟩).2.i,0)
def Zjd(s:List UInt8):List XN×Int×Int:=
 if(Zja s).2.2≠0 then([],(Zja s).2.1,(Zja s).2.2)
 else if(Zhb (Zja s).1).2.2=3 then([],0,3)
 else if(Zhb (Zja s).1).2.2=0/\(Zhb (Zja s).1).2.1=((Zja s).1.length:Nat)then((Zhb (Zja s).1).1,0,0)
 else([],if(Zhb (Zja s).1).2.1=((Zja s).1.length:Nat)then(s.length:Int)else((Zja s).1.getD (Zhb (Zja s).1).2.1.toNat ⟨0,[],0⟩).pos,if(Zhb (Zja s).1).2.2=0 then 80 else(Zhb (Zja s).1).2.2)
theorem Zlf{l:List Tk}:0<=(Zhb l).2.1/\(Zhb l).2.1<=(l.length:Nat):=by
 have hok:=((Z4b l (l.length+1) 1 ⟨0,[],0⟩).ok ⟨Nat.zero_le _,Nat.le_refl _⟩).1;unfold Zhb
 split
 exact⟨Int.natCast_nonneg _,Int.ofNat_le.2 hok⟩
 split
 exact⟨Int.le_refl _,Int.natCast_nonneg _⟩;exact⟨Int.natCast_nonneg _,Int.ofNat_le.2 hok⟩
theorem Zww{l:List Tk}(h:(Zhb l).2.2≠0):(Zhb l).1=[]:=by
 unfold Zhb at h⊢
 split
 rfl
 split
 rfl;rename_i h1 h2;rw[if_neg h1,if_neg h2]at h;exact absurd rfl h
structure ASt where
 kind:Int
 name:List UInt8
 x:List XN
 deriving DecidableEq,Inhabited
def Z5i:List UInt8:=[101,109,105,116]
def Zkc(l:List Tk)(i:Nat):List UInt8:=match l[i]? with|some t=>t.text|none=>[]
def Zsk(l:List Tk)(i:Nat):Bool:=match l[i]? with|some t=>t.kind==2|none=>false
theorem Zck{l:List Tk}{i:Nat}{t:Tk}(h:l[i]?=some t):Zkc l i=t.text:=by unfold Zkc;rw[h]
theorem Zoh{l:List Tk}{i:Nat}(h:l.length<=i):Zkc l i=[]:=by unfold Zkc;rw[List.getElem?_eq_none h]
theorem Zzl{l:List Tk}{i:Nat}{t:Tk}(h:l[i]?=some t):Zsk l i=(t.kind==2):=by unfold Zsk;rw[h]
theorem Zqg{l:List Tk}{i:Nat}(h:l.length<=i):Zsk l i=false:=by unfold Zsk;rw[List.getElem?_eq_none h]
def Zpd(l:List Tk):List (List UInt8)->Nat->Bool×Nat
 |[],i=>(true,i)
 |w::r,i=>if Zkc l i=w then Zpd l r (i+1)else(false,i)
def Zto(l:List Tk)(s:ASt)(ws:List (List UInt8))(i:Nat):ASt×Int×Int:=
 ((s,((Zpd l ws i).2:Int),if(Zpd l ws i).1=true then 0 else 110))
def Z6t(l:List Tk)(k:Int)(nm:List UInt8)(ws:List (List UInt8))(i:Nat):ASt×Int×Int:=
 if(Zhb (l.drop i)).2.2≠0 then(⟨k,nm,[]⟩,(i:Int)+(Zhb (l.drop i)).2.1,(Zhb (l.drop i)).2.2)
 else Zto l ⟨k,nm,(Zhb (l.drop i)).1⟩ ws (i+(Zhb (l.drop i)).2.1.toNat)
def Zve(l:List Tk)(k:Int)(w:List UInt8)(ws:List (List UInt8))(i:Nat):ASt×Int×Int:=
 if Zsk l i=false then(⟨k,[],[]⟩,(i:Int),110)
 else if Zkc l (i+1)≠w then(⟨k,Zkc l i,[]⟩,((i+1:Nat):Int),110)
 else if k=2/\Zkc l (i+2)=[41]then Zto l ⟨k,Zkc l i,[]⟩ ws (i+2)
 else Z6t l k (Zkc l i) ws (i+2)
def Zsd(l:List Tk)(i:Nat):ASt×Int×Int:=
 if Zkc l i=Z5i then Zve l 2 [40] [[41],[59]] (i+1)else Zve l 1 [58,61] [[59]] i
theorem Zb8{l:List Tk}:∀ (ws:List (List UInt8)) (i:Nat),i<=(Zpd l ws i).2
 |[],i=>Nat.le_refl _
 |w::r,i=>by
  rw[Zpd]
  split
  exact Nat.le_trans (Nat.le_succ i) (Zb8 r (i+1));exact Nat.le_refl _
theorem Zlo{l:List Tk}{i:Nat}(h:Zkc l i≠[]):i<l.length:=by
 refine Classical.byContradiction λh2=>h (Zoh (by omega))
theorem Za8{l:List Tk}:∀ (ws:List (List UInt8)) (i:Nat),(∀ w∈ws,w≠[])->(Zpd l ws i).1=true->(Zpd l ws i).2=i+ws.length/\(ws≠[]->(Zpd l ws i).2<=l.length)
 |[],i,_,_=>⟨rfl,λh=>absurd rfl h⟩
 |w::r,i,hw,h=>by
  rw[Zpd]at h⊢
  split at h
  .rename_i h1
   rw[if_pos h1];obtain⟨h2,h3⟩:=Za8 r (i+1) (λx hx=>hw x (List.mem_cons_of_mem _ hx)) h;refine⟨by rw[h2,List.length_cons];omega,λ_=>?_⟩;have h4:=Zlo (l:=l) (i:=i) (by rw[h1];exact hw w (List.mem_cons_self ..))
   cases r with
   |nil=>rw[h2];exact h4
   |cons a b=>exact h3 (by simp)
  cases h
structure StB(l:List Tk)(i:Nat)(r:ASt×Int×Int):Prop where
 ge:(i:Int)<=r.2.1
 ok:r.2.2=0->(i:Int)<r.2.1/\r.2.1<=l.length
theorem Zjga{l:List Tk}{s:ASt}{ws:List (List UInt8)}{i j:Nat}(hw:∀ w∈ws,w≠[])(hn:ws≠[])(hij:i<=j):StB l i (Zto l s ws j):=by
 have h1:=Zb8 (l:=l) ws j;refine⟨by show(i:Int)<=((Zpd l ws j).2:Int);omega,λh=>?_⟩
 have ht:(Zpd l ws j).1=true:=by
  refine Classical.byContradiction λh2=>?_;have h:(if(Zpd l ws j).1=true then(0:Int)else 110)=0:=h;rw[if_neg h2]at h;cases h
 obtain⟨h3,h4⟩:=Za8 ws j hw ht;have h5:=h4 hn;have h6:0<ws.length:=List.length_pos_iff.2 hn
 show(i:Int)<((Zpd l ws j).2:Int)/\((Zpd l ws j).2:Int)<=l.length
 omega
theorem exprS_b{l:List Tk}{k:Int}{nm:List UInt8}{ws:List (List UInt8)}{i j:Nat}(hw:∀ w∈ws,w≠[])(hn:ws≠[])(hij:i<=j):StB l i (Z6t l k nm ws j):=by
 unfold Z6t;have hb:=(Zlf (l:=l.drop j)).1
 split
 rename_i h;exact⟨by show(i:Int)<=(j:Int)+(Zhb (l.drop j)).2.1;omega,λh2=>absurd h2 h⟩;exact Zjga hw hn (by omega)
theorem Z9fa{l:List Tk}{k:Int}{w:List UInt8}{ws:List (List UInt8)}{i j:Nat}(hw:∀ w∈ws,w≠[])(hn:ws≠[])(hij:i<=j):StB l i (Zve l k w ws j):=by
 unfold Zve
 split
 exact⟨by show(i:Int)<=(j:Int);omega,λh=>by cases h⟩
 split
 exact⟨by show(i:Int)<=((j+1:Nat):Int);omega,λh=>by cases h⟩
 split
 exact Zjga hw hn (by omega);exact exprS_b hw hn (by omega)
theorem Zpo(l:List Tk)(i:Nat):StB l i (Zsd l i):=by
 unfold Zsd
 split
 exact Z9fa (by decide) (by decide) (by omega);exact Z9fa (by decide) (by decide) (Nat.le_refl _)
def Zbp(l:List Tk)(n:Nat)(i:Int):Int:=if i<l.length then(l.getD i.toNat ⟨0,[],0⟩).pos else n
def Zcm(l:List Tk)(n:Nat):Nat->Nat->List ASt->List ASt×Int×Int
 |0,_,acc=>(acc,0,0)
 |f+1,i,acc=>
  if l.length<=i then(acc,0,0)
  else if acc.length=512 then([],Zbp l n i,3)
  else if(Zsd l i).2.2≠0 then([],Zbp l n (Zsd l i).2.1,(Zsd l i).2.2)
  else Zcm l n f (Zsd l i).2.1.toNat (acc++[(Zsd l i).1])
def Z7k(s:List UInt8):List ASt×Int×Int:=
 if(Zja s).2.2≠0 then([],(Zja s).2.1,(Zja s).2.2)else Zcm (Zja s).1 s.length ((Zja s).1.length+1) 0 []
section
structure VP where
 name:List UInt8
 kind:Int
 region:Int
 of:Int
 entry:List UInt8
 exit:List UInt8
 defers:List (List UInt8)
 sub:List UInt8
structure WP where
 name:List UInt8
 source:Int
 target:Int
 triggers:List (List UInt8)
 after:Int
 guard:List UInt8
 effect:List UInt8
 kind:Int
structure PM where
 name:List UInt8
 vars:List (List UInt8×Int)
 events:List (List UInt8)
 regions:List (List UInt8×Int)
 vertices:List VP
 ways:List WP
def vx0:VP:=⟨[],0,0,0,[],[],[],[]⟩
def wy0:WP:=⟨[],0,0,[],0,[],[],0⟩
namespace PM
variable(m:PM)
def vx(v:Int):VP:=m.vertices.getD v.toNat vx0
def wy(i:Int):WP:=m.ways.getD i.toNat wy0
def ow(r:Int):Int:=(m.regions.getD r.toNat ([],0)).2
def around(v:Int):Int:=if 0<=(m.vx v).of then(m.vx v).of else m.ow (m.vx v).region
def upsF:Nat->Int->List Int
 |0,_=>[]
 |f+1,v=>if m.around v<0 then[]else m.around v::upsF f (m.around v)
def ups(v:Int):List Int:=m.upsF 65 v
def withinB(v r:Int):Bool:=(v::m.ups v).any λu=>(m.vx u).region==r
def inB(v s:Int):Bool:=(m.ups v).contains s
def regU(v s:Int):Int:=match(v::m.ups v).find? (λu=>m.around u==s)with|some u=>(m.vx u).region|none => -1
def regR(v s:Int):Int:=(List.range m.regions.length).foldl (fun(a:Int) (r:Nat)=>if m.ow (r:Int)=s/\m.withinB v (r:Int)=true then(r:Int)else a) (-1)
end PM
def Zye:List Int->List Int->Bool
 |_,[]=>true
 |acc,r::t=>decide (0<=r) && !acc.contains r&&Zye (acc++[r]) t
def Z3i:List Int->List Int->List Int
 |acc,[]=>acc
 |acc,r::t=>Z3i (if 0<=r/\acc.contains r=false then acc++[r]else acc) t
theorem Z9s:∀ (l acc:List Int),(Z3i acc l).length<=acc.length+l.length
 |[],acc=>Nat.le_refl _
 |r::t,acc=>by
  rw[Z3i];have:=Z9s t (if 0<=r/\acc.contains r=false then acc++[r]else acc)
  split at this
  rename_i h;rw[if_pos h];simp only[List.length_append,List.length_cons,List.length_nil]at this⊢;omega;rename_i h;rw[if_neg h];simp only[List.length_cons]at this⊢;omega
theorem Zvo:∀ (l acc:List Int),decide ((Z3i acc l).length=acc.length+l.length)=Zye acc l
 |[],acc=>by simp[Z3i,Zye]
 |r::t,acc=>by
  rw[Z3i,Zye]
  by_cases h:0<=r/\acc.contains r=false
  rw[if_pos h,h.2,decide_eq_true h.1];have:=Zvo t (acc++[r]);rw[<- Zvo t (acc++[r])];simp only[List.length_append,List.length_cons,List.length_nil,Nat.zero_add,Bool.not_false,Bool.true_and,Nat.add_assoc,Nat.add_comm 1];rw[if_neg h];have h1:=Z9s t acc
  have h2:(decide (0<=r) && !acc.contains r)=false:=by
   cases hr:acc.contains r with
   |true=>simp
   |false=>rw[decide_eq_false (λq=>h ⟨q,hr⟩)];rfl
  rw[h2,Bool.false_and];refine decide_eq_false ?_;rw[List.length_cons];omega
namespace PM
variable(m:PM)
structure Acy:Prop where
 rng:∀ v:Int,0<=v->v<m.vertices.length->m.around v = -1\/(0<=m.around v/\m.around v<m.vertices.length)
 dep:∀ v:Int,0<=v->v<m.vertices.length->(m.ups v).length<=64
 pt:∀ v:Int,0<=v->v<m.vertices.length->0<=(m.vx v).of->(m.vx v).region = -1
 rg:∀ v:Int,0<=v->v<m.vertices.length->(m.vx v).of<0->0<=(m.vx v).region/\(m.vx v).region<m.regions.length
variable{m}
theorem Zio:∀ (f k:Nat) (v:Int),(m.upsF f v).length<f->m.upsF (f+k) v=m.upsF f v
 |0,_,_,h=>absurd h (Nat.not_lt_zero _)
 |f+1,k,v,h=>by
  rw[show f+1+k=(f+k)+1 by omega,upsF,upsF];rw[upsF]at h
  split
  rfl;rename_i h1;rw[if_neg h1,List.length_cons]at h;rw[Zio f k _ (by omega)]
theorem Acy.ups_nil{v:Int}(h:m.around v<0):m.ups v=[]:=by
 rw[ups,upsF,if_pos h]
theorem Acy.ups_cons(a:m.Acy){v:Int}(h0:0<=v)(h1:v<m.vertices.length)(h:0<=m.around v):m.ups v=m.around v::m.ups (m.around v):=by
 have hd:=a.dep v h0 h1;rw[ups,upsF,if_neg (by omega)]at hd⊢;rw[List.length_cons]at hd;rw[ups,Zio 64 1 _ (by omega)]
theorem Acy.ind(a:m.Acy){P:Int->Prop}(z:∀ v:Int,0<=v->v<m.vertices.length->m.around v<0->P v)
  (s:∀ v:Int,0<=v->v<m.vertices.length->0<=m.around v->m.around v<m.vertices.length->P (m.around v)->P v) {v:Int} (h0:0<=v) (h1:v<m.vertices.length):P v:=by
 have key:∀ (n:Nat) (v:Int),0<=v->v<m.vertices.length->(m.ups v).length=n->P v:=by
  intro n
  induction n with
  |zero=>
   intro v h0 h1 hn
   rcases a.rng v h0 h1 with q|⟨q1,q2⟩
   exact z v h0 h1 (by omega);rw[a.ups_cons h0 h1 q1]at hn;cases hn
  |succ n ih=>
   intro v h0 h1 hn
   rcases a.rng v h0 h1 with q|⟨q1,q2⟩
   exact z v h0 h1 (by omega);rw[a.ups_cons h0 h1 q1,List.length_cons]at hn;exact s v h0 h1 q1 q2 (ih _ q1 q2 (by omega))
 exact key _ v h0 h1 rfl
theorem Acy.ups_rng(a:m.Acy){v:Int}(h0:0<=v)(h1:v<m.vertices.length):∀ u∈m.ups v,0<=u/\u<m.vertices.length/\(m.ups u).length<(m.ups v).length:=by
 refine a.ind (P:=λv=>∀ u∈m.ups v,0<=u/\u<m.vertices.length/\(m.ups u).length<(m.ups v).length) ?_ ?_ h0 h1;intro v _ _ h u hu;rw[Acy.ups_nil h]at hu;cases hu;intro v h0 h1 q1 q2 ih u hu;rw[a.ups_cons h0 h1 q1]at hu⊢
 rcases List.mem_cons.1 hu with rfl|hu
 exact⟨q1,q2,Nat.lt_succ_self _⟩;obtain⟨x,y,z⟩:=ih u hu;exact⟨x,y,Nat.lt_succ_of_lt z⟩
theorem regU_nil{v s:Int}(h:m.around v<0)(hs:0<=s):m.regU v s = -1:=by
 rw[regU,Acy.ups_nil h,List.find?_cons_of_neg (by simp;omega)];rfl
theorem Acy.regU_at{v s:Int}(h:m.around v=s):m.regU v s=(m.vx v).region:=by
 rw[regU,List.find?_cons_of_pos (by simp[h])]
theorem Acy.regU_up(a:m.Acy){v s:Int}(h0:0<=v)(h1:v<m.vertices.length)(h:0<=m.around v)(hs:m.around v≠s):m.regU v s=m.regU (m.around v) s:=by
 rw[regU,regU,a.ups_cons h0 h1 h,List.find?_cons_of_neg (by simp[hs])]
theorem Acy.inB_up(a:m.Acy){v s:Int}(h0:0<=v)(h1:v<m.vertices.length)(h:0<=m.around v):m.inB v s=(m.around v==s||m.inB (m.around v) s):=by
 rw[inB,inB,a.ups_cons h0 h1 h,List.contains_cons,BEq.comm]
theorem inB_nil{v s:Int}(h:m.around v<0):m.inB v s=false:=by
 rw[inB,Acy.ups_nil h];rfl
theorem Acy.withinB_up(a:m.Acy){v r:Int}(h0:0<=v)(h1:v<m.vertices.length)(h:0<=m.around v):m.withinB v r=((m.vx v).region==r||m.withinB (m.around v) r):=by
 rw[withinB,withinB,a.ups_cons h0 h1 h,List.any_cons]
theorem withinB_nil{v r:Int}(h:m.around v<0):m.withinB v r=((m.vx v).region==r):=by
 rw[withinB,Acy.ups_nil h,List.any_cons,List.any_nil,Bool.or_false]
theorem Acy.regU_of(a:m.Acy){v s u:Int}(h0:0<=v)(h1:v<m.vertices.length)(hs:0<=s)(hu:u∈v::m.ups v)(h:m.around u=s):m.regU v s=(m.vx u).region:=by
 refine a.ind (P:=λv=>u∈v::m.ups v->m.regU v s=(m.vx u).region) ?_ ?_ h0 h1 hu;intro v _ _ q hu;rw[Acy.ups_nil q]at hu;obtain rfl:=List.mem_singleton.1 hu;omega;intro v h0 h1 q1 q2 ih hu
 rcases List.mem_cons.1 hu with rfl|hu
 exact Acy.regU_at h;rw[a.ups_cons h0 h1 q1]at hu
 by_cases hv:m.around v=s
 exfalso
 rw[hv]at hu q1 q2
 have hu0:0<=u/\u<m.vertices.length:=by
  rcases List.mem_cons.1 hu with rfl|hu
  exact⟨q1,q2⟩;have:=a.ups_rng q1 q2 u hu;exact⟨this.1,this.2.1⟩
 have h3:=a.ups_cons hu0.1 hu0.2 (by omega);rw[h]at h3
 have h4:(m.ups s).length<(m.ups u).length:=by rw[h3];exact Nat.lt_succ_self _
 rcases List.mem_cons.1 hu with rfl|hu
 omega;have:=(a.ups_rng q1 q2 u hu).2.2;omega;rw[a.regU_up h0 h1 q1 hv];exact ih hu
theorem Zxv{v s:Int}(h:∀ u∈v::m.ups v,m.around u≠s):m.regU v s = -1:=by
 rw[regU,List.find?_eq_none.2 (λu hu=>by simpa using h u hu)]
theorem Zis{p:Nat->Prop}[DecidablePred p]:∀ (l:List Nat) (a:Int),(∀ r∈l,¬ p r)->l.foldl (fun(a:Int) (r:Nat)=>if p r then(r:Int)else a) a=a
 |[],a,_=>rfl
 |r::t,a,h=>by
  rw[List.foldl_cons,if_neg (h r (List.mem_cons_self ..))];exact Zis t a λx hx=>h x (List.mem_cons_of_mem _ hx)
theorem Zxw{p:Nat->Prop}[DecidablePred p]{k:Nat}:∀ (l:List Nat) (a:Int),(k∈l\/a=k)->p k->(∀ r∈l,p r->r=k)->l.foldl (fun(a:Int) (r:Nat)=>if p r then(r:Int)else a) a=k
 |[],a,h,_,_=>by
  rcases h with h|h
  cases h;exact h
 |r::t,a,h,hk,hu=>by
  rw[List.foldl_cons];refine Zxw t _ ?_ hk λx hx=>hu x (List.mem_cons_of_mem _ hx)
  by_cases hr:p r
  right;rw[if_pos hr,hu r (List.mem_cons_self ..) hr]
  rw[if_neg hr]
  rcases h with h|h
  rcases List.mem_cons.1 h with rfl|h
  exact absurd hk hr;exact .inl h;exact .inr h
theorem Acy.regR_eq(a:m.Acy){v s:Int}(h0:0<=v)(h1:v<m.vertices.length)(hs:0<=s):m.regR v s=m.regU v s:=by
 have chain:∀ u∈v::m.ups v,0<=u/\u<m.vertices.length:=λu hu=>by
  rcases List.mem_cons.1 hu with rfl|hu
  exact⟨h0,h1⟩;have:=a.ups_rng h0 h1 u hu;exact⟨this.1,this.2.1⟩
 have key:∀ r:Nat,(m.ow (r:Int)=s/\m.withinB v (r:Int)=true)->m.regU v s=(r:Int)/\∃ u∈v::m.ups v,m.around u=s/\(m.vx u).region=r:=by
  rintro r ⟨q1,q2⟩;rw[withinB,List.any_eq_true]at q2;obtain⟨u,hu,hr⟩:=q2
  have hr:(m.vx u).region=(r:Int):=by simpa using hr
  obtain⟨c0,c1⟩:=chain u hu
  have hof:(m.vx u).of<0:=by
   rcases Int.lt_or_le (m.vx u).of 0 with q|q
   exact q;have:=a.pt u c0 c1 q;omega
  have har:m.around u=s:=by rw[around,if_neg (by omega),hr,q1]
  exact⟨by rw[a.regU_of h0 h1 hs hu har,hr],u,hu,har,hr⟩
 by_cases hex:∃ u∈v::m.ups v,m.around u=s/\0<=(m.vx u).region
 obtain⟨u,hu,har,hrg⟩:=hex;obtain⟨c0,c1⟩:=chain u hu
 have hof:(m.vx u).of<0:=by
  rcases Int.lt_or_le (m.vx u).of 0 with q|q
  exact q;have:=a.pt u c0 c1 q;omega
 obtain⟨g0,g1⟩:=a.rg u c0 c1 hof;rw[a.regU_of h0 h1 hs hu har]
 have hk:((m.vx u).region.toNat:Int)=(m.vx u).region:=by omega
 have ho:m.ow (m.vx u).region=s:=by
  rw[around,if_neg (by omega)]at har;exact har
 rw[regR,<- hk];refine Zxw (k:=(m.vx u).region.toNat) _ _ (.inl ?_) ?_ ?_;rw[List.mem_range];omega;rw[hk];exact⟨ho,by rw[withinB,List.any_eq_true];exact⟨u,hu,by simp⟩⟩;intro r _ hr;have h3:=(key r hr).1;rw[a.regU_of h0 h1 hs hu har]at h3;omega
 have hn:m.regU v s = -1:=by
  by_cases h2:∃ u∈v::m.ups v,m.around u=s
  obtain⟨u,hu,har⟩:=h2;obtain⟨c0,c1⟩:=chain u hu;rw[a.regU_of h0 h1 hs hu har]
  rcases Int.lt_or_le (m.vx u).of 0 with q|q
  exact absurd ⟨u,hu,har,(a.rg u c0 c1 q).1⟩ hex;exact a.pt u c0 c1 q;exact Zxv λu hu har=>h2 ⟨u,hu,har⟩
 rw[hn,regR];refine Zis _ _ λr _ hr=>?_;obtain⟨_,u,hu,har,hrr⟩:=key r hr;exact hex ⟨u,hu,har,by omega⟩
def partU(m:PM)(l:List Int):Bool:=(m.ups (l.headD 0)).any λs=>Zye [] (l.map (m.regU · s))
def partR(m:PM)(l:List Int):Bool:=(List.range m.vertices.length).any λs=>Zye [] (l.map (m.regR · (s:Int)))
theorem Acy.part_eq(a:m.Acy){l:List Int}(hl:l≠[])(h:∀ v∈l,0<=v/\v<m.vertices.length):m.partR l=m.partU l:=by
 obtain⟨v,t,rfl⟩:∃ v t,l=v::t:=by
  cases l with
  |nil=>exact absurd rfl hl
  |cons v t=>exact⟨v,t,rfl⟩
 obtain⟨h0,h1⟩:=h v (List.mem_cons_self ..)
 have e:∀ s:Int,0<=s->(v::t).map (m.regR · s)=(v::t).map (m.regU · s):=λs hs=>
  List.map_congr_left λu hu=>a.regR_eq (h u hu).1 (h u hu).2 hs
 rw[partR,partU,Bool.eq_iff_iff,List.any_eq_true,List.any_eq_true]
 constructor
 rintro⟨s,hs,hd⟩;rw[e _ (Int.natCast_nonneg _)]at hd;refine⟨(s:Int),?_,hd⟩
 have hr:0<=m.regU v (s:Int):=by
  rw[List.map_cons,Zye]at hd;simp only[Bool.and_eq_true,decide_eq_true_eq]at hd;exact hd.1.1
 show(s:Int)∈m.ups v
 by_cases h2:∃ u∈v::m.ups v,m.around u=(s:Int)
 obtain⟨u,hu,har⟩:=h2
 have hu0:0<=u/\u<m.vertices.length:=by
  rcases List.mem_cons.1 hu with rfl|hu
  exact⟨h0,h1⟩;have:=a.ups_rng h0 h1 u hu;exact⟨this.1,this.2.1⟩
 have tr:∀ w:Int,0<=w->w<m.vertices.length->u∈w::m.ups w->(s:Int)∈m.ups w:=by
  intro w w0 w1;refine a.ind (P:=λw=>u∈w::m.ups w->(s:Int)∈m.ups w) ?_ ?_ w0 w1;intro w _ _ q hw;rw[Acy.ups_nil q]at hw;obtain rfl:=List.mem_singleton.1 hw;omega;intro w w0 w1 q1 q2 ih hw;rw[a.ups_cons w0 w1 q1]at hw⊢
  rcases List.mem_cons.1 hw with rfl|hw
  rw[har];exact List.mem_cons_self ..;exact List.mem_cons_of_mem _ (ih hw)
 exact tr v h0 h1 hu;rw[Zxv λu hu har=>h2 ⟨u,hu,har⟩]at hr;omega;rintro⟨s,hs,hd⟩;have hs:s∈m.ups v:=hs;obtain⟨s0,s1,_⟩:=a.ups_rng h0 h1 s hs;refine⟨s.toNat,by rw[List.mem_range];omega,?_⟩;rw[show((s.toNat:Nat):Int)=s by omega,e _ s0];exact hd
end PM
end
section
def Zjh:List UInt8:=[97,114,103]
def elsW:List UInt8:=[101,108,115,101]
def Zvc(s:List UInt8):Bool:=s==[]||isP s==2
def evB(ev l:List (List UInt8)):Bool:=(List.range l.length).all λi=>ev.contains (l.getD i []) && !(l.take i).contains (l.getD i [])
def Zwb(part most:Nat)(p:Nat->Bool)(n:Nat):Nat×Int×Int:=
 match(List.range n).find? (λi=>i==most || !p i)with
 |none=>(0,0,0)
 |some i=>(part,(i:Int),if i=most then 3 else 130)
def orE(a b:Nat×Int×Int):Nat×Int×Int:=if a.1≠0 then a else b
theorem Z0e{part most:Nat}{p:Nat->Bool}{n:Nat}(h:∀ i,i<n->i≠most/\p i=true):Zwb part most p n=(0,0,0):=by
 rw[Zwb,List.find?_eq_none.2 (λi hi=>by
  obtain⟨a,b⟩:=h i (List.mem_range.1 hi)
  simp[a,b])]
theorem Z2b{part most:Nat}{p:Nat->Bool}{n i:Nat}(hi:i<n)(h:∀ k,k<i->k≠most/\p k=true)(hb:i=most\/p i=false):Zwb part most p n=(part,(i:Int),if i=most then 3 else 130):=by
 have:(List.range n).find? (λi=>i==most || !p i)=some i:=by
  rw[List.find?_range_eq_some];refine⟨?_,List.mem_range.2 hi,λk hk=>?_⟩
  rcases hb with q|q
  simp[q];simp[q];obtain⟨a,b⟩:=h k hk;simp[a,b]
 rw[Zwb,this]
theorem Z2f{part most:Nat}{p:Nat->Bool}{n:Nat}(hp:part≠0)(h:(Zwb part most p n).1=0):n<=most/\∀ i,i<n->p i=true:=by
 rw[Zwb]at h
 cases hf:(List.range n).find? (λi=>i==most || !p i)with
 |some i=>rw[hf]at h;exact absurd h hp
 |none=>
  have:=List.find?_eq_none.1 hf;refine⟨?_,λi hi=>?_⟩
  rcases Nat.lt_or_ge most n with q|q
  have:=this most (List.mem_range.2 q);simp at this;exact q;have:=this i (List.mem_range.2 hi);simpa using(by simpa using this:_/\_).2
theorem Z4r{a b:Nat×Int×Int}(h:(orE a b).1=0):a.1=0/\b.1=0:=by
 rw[orE]at h
 split at h
 rename_i q;exact absurd h q;rename_i q;exact⟨Decidable.not_not.1 q,h⟩
namespace PM
variable(m:PM)
def stateB(v:Int):Bool:=decide (0<=v)&&decide (v<m.vertices.length)&&((m.vx v).kind==1)
def nameAt(i:Nat):List UInt8:=(m.vars.getD i ([],0)).1
def varB(i:Nat):Bool:=(isP (m.nameAt i)==2) && !(m.nameAt i==Zjh) && !((m.vars.take i).any λy=>y.1==m.nameAt i)
def signalB(i:Nat):Bool:=(isP (m.events.getD i [])==2) && !(m.events.take i).contains (m.events.getD i [])
def regionB(i:Nat):Bool:=Zvc (m.regions.getD i ([],0)).1&&(if i=0 then m.ow 0 == -1 else m.stateB (m.ow i)&&(m.vx (m.ow i)).sub==[])
def liesB(x:VP):Bool:=if x.kind=10\/x.kind=11 then(x.region == -1)&&m.stateB x.of else(x.of == -1)&&decide (0<=x.region)&&decide (x.region<m.regions.length)
def vertexB(x:VP):Bool:=
 Zvc x.name&&decide (1<=x.kind)&&decide (x.kind<=12)&&m.liesB x&&((x.entry==[]&&x.exit==[]&&decide (x.defers.length=0)&&x.sub==[])||x.kind==1)&&Zvc x.sub &&
  decide (x.entry.length<=4096)&&decide (x.exit.length<=4096)&&evB m.events x.defers
def depth(v:Int):Nat:=(m.ups v).length
def deepB(i:Nat):Bool:=decide (m.depth i<=64)
def inV(v:Int):Bool:=decide (0<=v)&&decide (v<m.vertices.length)
def wayB(x:WP):Bool:=
 Zvc x.name&&m.inV x.source&&m.inV x.target&&evB m.events x.triggers&&decide (0<=x.after)&&decide (x.after<=65535)&&(x.after==0||decide (x.triggers.length=0)) &&
  decide (1<=x.kind)&&decide (x.kind<=3)&&decide (x.guard.length<=4096)&&decide (x.effect.length<=4096)
def ruleF(k:Nat):Nat×Int×Int:=
 match k with
 |0=>if isP m.name=2 then(0,0,0)else(1,0,130)
 |1=>Zwb 2 64 m.varB m.vars.length
 |2=>Zwb 3 64 m.signalB m.events.length
 |3=>if m.regions=[]then(4,0,130)else Zwb 4 512 m.regionB m.regions.length
 |4=>Zwb 5 512 (λi=>m.vertexB (m.vx i)) m.vertices.length
 |5=>Zwb 5 512 m.deepB m.vertices.length
 |_=>Zwb 6 512 (λi=>m.wayB (m.wy i)) m.ways.length
def rightP:Nat×Int×Int:=orE (m.ruleF 0) (orE (m.ruleF 1) (orE (m.ruleF 2) (orE (m.ruleF 3) (orE (m.ruleF 4) (orE (m.ruleF 5) (m.ruleF 6))))))
structure Rt5:Prop where
 rnz:m.regions≠[]
 rgn:∀ i,i<m.regions.length->m.regionB i=true
 vtx:∀ i,i<m.vertices.length->m.vertexB (m.vx i)=true
structure Rt:Prop extends Rt5 m where
 nm:isP m.name=2
 var:∀ i,i<m.vars.length->m.varB i=true
 sig:∀ i,i<m.events.length->m.signalB i=true
 deep:∀ i,i<m.vertices.length->m.depth i<=64
 way:∀ i,i<m.ways.length->m.wayB (m.wy i)=true
 lv:m.vars.length<=64
 le:m.events.length<=64
 lr:m.regions.length<=512
 lx:m.vertices.length<=512
 lw:m.ways.length<=512
variable{m}
theorem rt_vt(h3:(m.ruleF 3).1=0)(h4:(m.ruleF 4).1=0):m.Rt5:=by
 have h3:(if m.regions=[]then((4,0,130):Nat×Int×Int)else Zwb 4 512 m.regionB m.regions.length).1=0:=h3
 by_cases h:m.regions=[]
 rw[if_pos h]at h3;cases h3;rw[if_neg h]at h3;exact⟨h,(Z2f (by decide) h3).2,(Z2f (by decide) h4).2⟩
theorem rt_of(h:(m.rightP).1=0):m.Rt:=by
 obtain⟨h0,h⟩:=Z4r h;obtain⟨h1,h⟩:=Z4r h;obtain⟨h2,h⟩:=Z4r h;obtain⟨h3,h⟩:=Z4r h;obtain⟨h4,h⟩:=Z4r h;obtain⟨h5,h6⟩:=Z4r h;have r5:=rt_vt h3 h4;have a1:=Z2f (by decide) (show(Zwb 2 64 m.varB m.vars.length).1=0 from h1);have a2:=Z2f (by decide) (show(Zwb 3 64 m.signalB m.events.length).1=0 from h2);have h3:(if m.regions=[]then((4,0,130):Nat×Int×Int)else Zwb 4 512 m.regionB m.regions.length).1=0:=h3;rw[if_neg r5.rnz]at h3;have a3:=Z2f (by decide) h3;have a4:=Z2f (by decide) (show(Zwb 5 512 (λi=>m.vertexB (m.vx i)) m.vertices.length).1=0 from h4);have a5:=Z2f (by decide) (show(Zwb 5 512 m.deepB m.vertices.length).1=0 from h5);have a6:=Z2f (by decide) (show(Zwb 6 512 (λi=>m.wayB (m.wy i)) m.ways.length).1=0 from h6);have h0:(if isP m.name=2 then((0,0,0):Nat×Int×Int)else(1,0,130)).1=0:=h0
 have h0:isP m.name=2:=by
  by_cases q:isP m.name=2
  exact q;rw[if_neg q]at h0;cases h0
 exact⟨r5,h0,a1.2,a2.2,λi hi=>by simpa[deepB]using a5.2 i hi,a6.2,a1.1,a2.1,a3.1,a4.1,a6.1⟩
theorem Zyg(k:Nat):(m.ruleF k).2.2=0↔(m.ruleF k).1=0:=by
 have s:∀ {part most:Nat} {p:Nat->Bool} {n:Nat},part≠0->((Zwb part most p n).2.2=0↔(Zwb part most p n).1=0):=by
  intro part most p n hp;rw[Zwb]
  cases(List.range n).find? (λi=>i==most || !p i)with
  |none=>exact⟨λ_=>rfl,λ_=>rfl⟩
  |some i=>
   show(if i=most then(3:Int)else 130)=0↔part=0
   split
   exact⟨λh=>(by cases h),λh=>absurd h hp⟩;exact⟨λh=>(by cases h),λh=>absurd h hp⟩
 match k with
 |0=>
  show(if isP m.name=2 then((0,0,0):Nat×Int×Int)else(1,0,130)).2.2=0↔(if isP m.name=2 then((0,0,0):Nat×Int×Int)else(1,0,130)).1=0
  split<;>simp
 |1=>exact s (by decide)
 |2=>exact s (by decide)
 |3=>
  show(if m.regions=[]then((4,0,130):Nat×Int×Int)else Zwb 4 512 m.regionB m.regions.length).2.2=0↔(if m.regions=[]then((4,0,130):Nat×Int×Int)else Zwb 4 512 m.regionB m.regions.length).1=0
  split
  simp;exact s (by decide)
 |4=>exact s (by decide)
 |5=>exact s (by decide)
 |k+6=>exact s (by decide)
theorem Z5r{a b:Nat×Int×Int}(ha:a.2.2=0↔a.1=0)(hb:b.2.2=0↔b.1=0):(orE a b).2.2=0↔(orE a b).1=0:=by
 rw[orE];split;exact ha;exact hb
theorem right_er:(m.rightP).2.2=0↔(m.rightP).1=0:=
 Z5r (Zyg 0) (Z5r (Zyg 1) (Z5r (Zyg 2) (Z5r (Zyg 3) (Z5r (Zyg 4) (Z5r (Zyg 5) (Zyg 6))))))
theorem Rt5.vert(h:m.Rt5){v:Int}(h0:0<=v)(h1:v<m.vertices.length):m.vertexB (m.vx v)=true:=by
 have:=h.vtx v.toNat (by omega);rwa [show((v.toNat:Nat):Int)=v by omega]at this
theorem Rt5.lies(h:m.Rt5){v:Int}(h0:0<=v)(h1:v<m.vertices.length):m.liesB (m.vx v)=true:=by
 have:=h.vert h0 h1;simp only[vertexB,Bool.and_eq_true]at this;exact this.1.1.1.1.1.2
theorem Rt5.pt(h:m.Rt5){v:Int}(h0:0<=v)(h1:v<m.vertices.length):(0<=(m.vx v).of/\(m.vx v).of<m.vertices.length/\(m.vx v).region = -1/\m.stateB (m.vx v).of=true/\((m.vx v).kind=10\/(m.vx v).kind=11)) \/
  ((m.vx v).of = -1/\0<=(m.vx v).region/\(m.vx v).region<m.regions.length/\¬ ((m.vx v).kind=10\/(m.vx v).kind=11)):=by
 have:=h.lies h0 h1;rw[liesB]at this
 split at this
 rename_i q
 left
 have hs:m.stateB (m.vx v).of=true:=by simpa using(Bool.and_eq_true _ _ ▸ this:_/\_).2
 have hs':=hs;simp only[stateB,Bool.and_eq_true,decide_eq_true_eq,beq_iff_eq]at hs' this;exact⟨hs'.1.1,hs'.1.2,this.1,hs,q⟩;rename_i q
 right
 simp only[Bool.and_eq_true,decide_eq_true_eq,beq_iff_eq]at this;exact⟨this.1.1,this.1.2,this.2,q⟩
theorem Rt5.own(h:m.Rt5){r:Int}(h0:0<=r)(h1:r<m.regions.length):(r=0/\m.ow r = -1)\/(r≠0/\0<=m.ow r/\m.ow r<m.vertices.length):=by
 have:=h.rgn r.toNat (by omega);simp only[regionB,Bool.and_eq_true]at this;have h2:=this.2
 split at h2
 rename_i q
 have:r=0:=by omega
 subst this;exact .inl ⟨rfl,by simpa using h2⟩;rename_i q;rw[show((r.toNat:Nat):Int)=r by omega]at h2;simp only[stateB,Bool.and_eq_true,decide_eq_true_eq]at h2;exact .inr ⟨by omega,h2.1.1.1,h2.1.1.2⟩
theorem Rt5.rng(h:m.Rt5){v:Int}(h0:0<=v)(h1:v<m.vertices.length):m.around v = -1\/(0<=m.around v/\m.around v<m.vertices.length):=by
 rw[around]
 rcases h.pt h0 h1 with ⟨a,b,_⟩|⟨a,b,c,_⟩
 rw[if_pos a];exact .inr ⟨a,b⟩;rw[if_neg (by omega)]
 rcases h.own b c with ⟨_,q⟩|⟨_,q⟩
 exact .inl q;exact .inr q
theorem Rt.acy(h:m.Rt):m.Acy:=
 ⟨λv h0 h1=>h.toRt5.rng h0 h1,λv h0 h1=>by
  have:=h.deep v.toNat (by omega)
  rwa [depth,show((v.toNat:Nat):Int)=v by omega]at this,
 λv h0 h1 q=>by
  rcases h.toRt5.pt h0 h1 with ⟨_,_,a,_⟩|⟨a,_⟩
  exact a
  omega,
 λv h0 h1 q=>by
  rcases h.toRt5.pt h0 h1 with ⟨a,_⟩|⟨_,a,b,_⟩
  omega
  exact⟨a,b⟩⟩
end PM
end
section
def Zoe(s:List UInt8):Bool:=(Zja s).2.2==0&&(Zja s).1.length==1&&(Zkc (Zja s).1 0==elsW)
namespace PM
variable(m:PM)(bd:List (List UInt8)->List (List UInt8)->List UInt8->Bool)(gd:List (List UInt8)->List UInt8->Int)
def inc(v:Int):List Int:=(m.ways.filter λt=>t.target==v).map (·.source)
def out(v:Int):List Int:=(m.ways.filter λt=>t.source==v).map (·.target)
def vn:List (List UInt8):=m.vars.map (·.1)
def kd(v:Int):Int:=(m.vx v).kind
def body(s:List UInt8):Bool:=bd m.vn m.events s
def k1(r:Int):Bool:=(m.vertices.filter λx=>x.kind==3&&x.region==r).length==1
def k2(v:Int):Bool := !(m.kd v==3)||((m.out v).length==1&&m.withinB ((m.out v).headD 0) (m.vx v).region&&(m.inc v).length==0)
def k3(v:Int):Bool := !(m.kd v==2||m.kd v==12)||(m.out v).length==0
def k4(v:Int):Bool := !(m.kd v==6)||((m.inc v).length==1&&decide (1<(m.out v).length)&&m.partU (m.out v))
def k5(v:Int):Bool := !(m.kd v==7)||((m.out v).length==1&&decide (1<(m.inc v).length)&&((m.inc v).all λu=>m.kd u==1)&&m.partU (m.inc v))
def elses(v:Int):Nat:=(m.ways.filter λt=>t.source==v&&Zoe t.guard).length
def k6(v:Int):Bool := !(m.kd v==4||m.kd v==5)||(decide (0<(m.inc v).length)&&decide (0<(m.out v).length)&&decide (m.elses v<=1))
def twins(v:Int):Nat:=(m.vertices.filter λy=>y.kind==m.kd v&&y.region==(m.vx v).region).length
def k7(v:Int):Bool := !(m.kd v==8||m.kd v==9) ||
 (!((m.vx v).region==0)&&m.twins v==1&&decide ((m.out v).length<=1)&&((m.out v).length==0||m.withinB ((m.out v).headD 0) (m.vx v).region))
def k8(v:Int):Bool:=if m.kd v=11 then(m.out v).length==1 && !m.inB ((m.out v).headD 0) (m.vx v).of
 else if m.kd v=10 then Zye [] ((m.out v).map (m.regU · (m.vx v).of))&&decide (0<(m.out v).length)else true
def k9(t:Int):Bool:=((m.wy t).triggers.length==0&&(m.wy t).after==0)||m.kd (m.wy t).source==1
def k10(t:Int):Bool:=((m.kd (m.wy t).source==4||m.kd (m.wy t).source==5)&&Zoe (m.wy t).guard) ||
 (gd (m.vn++[Zjh]) (m.wy t).guard==0&&((Zja (m.wy t).guard).1.length==0||m.kd (m.wy t).source==1||m.kd (m.wy t).source==4||m.kd (m.wy t).source==5))
def k11(t:Int):Bool:=if(m.wy t).kind=3 then(m.wy t).source==(m.wy t).target&&m.kd (m.wy t).source==1
 else if(m.wy t).kind=2 then m.kd (m.wy t).source==1&&m.inB (m.wy t).target (m.wy t).source else true
def k12(t:Int):Bool:=m.body bd (m.wy t).effect
def k13(v:Int):Bool := !(m.kd v==1)||(m.body bd (m.vx v).entry&&m.body bd (m.vx v).exit)
def k14(t:Int):Bool := !m.partU [(m.wy t).source,(m.wy t).target]
def k15(t:Int):Bool:=if m.kd (m.wy t).target=10 then !((m.wy t).source==(m.vx (m.wy t).target).of) && !m.inB (m.wy t).source (m.vx (m.wy t).target).of
 else if m.kd (m.wy t).target=11 then m.inB (m.wy t).source (m.vx (m.wy t).target).of && !((m.vx (m.wy t).source).of==(m.vx (m.wy t).target).of)else true
def keep(rule:Nat)(at_:Int):Bool:=
 match rule with
 |1=>m.k1 at_
 |2=>m.k2 at_
 |3=>m.k3 at_
 |4=>m.k4 at_
 |5=>m.k5 at_
 |6=>m.k6 at_
 |7=>m.k7 at_
 |8=>m.k8 at_
 |9=>m.k9 at_
 |10=>m.k10 gd at_
 |11=>m.k11 at_
 |12=>m.k12 bd at_
 |13=>m.k13 bd at_
 |14=>m.k14 at_
 |15=>m.k15 at_
 |_=>false
def places(rule:Nat):Nat:=if rule=1 then m.regions.length else if rule<=8\/rule=13 then m.vertices.length else m.ways.length
def badAt(rule n:Nat):List (Nat×Int):=((List.range n).filter fun(a:Nat) => !m.keep bd gd rule (a:Int)).map fun(a:Nat)=>(rule,(a:Int))
def badL(k:Nat):List (Nat×Int):=(List.range k).flatMap λr=>m.badAt bd gd (r+1) (m.places (r+1))
def checkW:List (Nat×Int)×Int:=if(m.rightP).2.2≠0 then([],(m.rightP).2.2)else(m.badL bd gd 15,0)
def ruleW(rule:Int)(at_:Int):Bool:=decide ((m.rightP).2.2=0)&&decide (1<=rule)&&decide (rule<=15)&&decide (0<=at_)&&decide (at_<m.places rule.toNat)&&m.keep bd gd rule.toNat at_
variable{m bd gd}
theorem badAt_succ(rule n:Nat):m.badAt bd gd rule (n+1)=m.badAt bd gd rule n++(if m.keep bd gd rule (n:Int)=true then[]else[(rule,(n:Int))]):=by
 rw[badAt,List.range_succ,List.filter_append,List.map_append,badAt]
 congr 1
 by_cases h:m.keep bd gd rule (n:Int)=true
 rw[if_pos h,List.filter_cons_of_neg (by simp[h])];rfl;rw[if_neg h,List.filter_cons_of_pos (by simpa using h)];rfl
theorem badL_succ(k:Nat):m.badL bd gd (k+1)=m.badL bd gd k++m.badAt bd gd (k+1) (m.places (k+1)):=by
 rw[badL,List.range_succ,List.flatMap_append,badL,List.flatMap_singleton]
theorem badAt_len(rule n:Nat):(m.badAt bd gd rule n).length<=n:=by
 rw[badAt,List.length_map];exact Nat.le_trans (List.length_filter_le _ _) (by rw[List.length_range];exact Nat.le_refl _)
def anon(m:PM):PM:=⟨m.name,m.vars,m.events,m.regions.map (λr=>([],r.2)),m.vertices.map (λx=>{ x with name:=[] }),m.ways.map (λt=>{ t with name:=[] })⟩
theorem Zhg(v:Int):m.anon.vx v={ m.vx v with name:=[] }:=by
 show(m.vertices.map _).getD _ _=_
 rw[List.getD_eq_getElem?_getD,List.getElem?_map,vx,List.getD_eq_getElem?_getD]
 cases m.vertices[v.toNat]? <;> rfl
theorem Zgm(t:Int):m.anon.wy t={ m.wy t with name:=[] }:=by
 show(m.ways.map _).getD _ _=_
 rw[List.getD_eq_getElem?_getD,List.getElem?_map,wy,List.getD_eq_getElem?_getD]
 cases m.ways[t.toNat]? <;> rfl
theorem anon_ow(r:Int):m.anon.ow r=m.ow r:=by
 show((m.regions.map (λr=>(([]:List UInt8),r.2))).getD r.toNat ([],0)).2=_
 rw[List.getD_eq_getElem?_getD,List.getElem?_map,ow,List.getD_eq_getElem?_getD]
 cases m.regions[r.toNat]? <;> rfl
theorem Zjq(v:Int):m.anon.around v=m.around v:=by
 rw[around,around,Zhg,anon_ow]
theorem Zmx:∀ (f:Nat) (v:Int),m.anon.upsF f v=m.upsF f v
 |0,_=>rfl
 |f+1,v=>by rw[upsF,upsF,Zjq,Zmx f]
theorem Z8n(v:Int):m.anon.ups v=m.ups v:=Zmx 65 v
theorem Zbn(v r:Int):m.anon.withinB v r=m.withinB v r:=by
 rw[withinB,withinB,Z8n];simp only[Zhg]
theorem Zku(v s:Int):m.anon.inB v s=m.inB v s:=by rw[inB,inB,Z8n]
theorem Znx(v s:Int):m.anon.regU v s=m.regU v s:=by
 rw[regU,regU,Z8n];simp only[Zjq,Zhg]
theorem Zhm(l:List Int):m.anon.partU l=m.partU l:=by
 rw[partU,partU,Z8n];simp only[Znx]
theorem Z9n(v:Int):m.anon.inc v=m.inc v:=by
 show((m.ways.map _).filter _).map _=(m.ways.filter _).map _
 rw[List.filter_map,List.map_map];rfl
theorem Zfh(v:Int):m.anon.out v=m.out v:=by
 show((m.ways.map _).filter _).map _=(m.ways.filter _).map _
 rw[List.filter_map,List.map_map];rfl
theorem Zbe(v:Int):m.anon.kd v=m.kd v:=by rw[kd,kd,Zhg]
theorem Z3ca(v:Int):m.anon.elses v=m.elses v:=by
 show((m.ways.map _).filter _).length=_
 rw[List.filter_map,List.length_map];rfl
theorem Z2ca(v:Int):m.anon.twins v=m.twins v:=by
 rw[twins,Zbe,Zhg]
 show((m.vertices.map _).filter _).length=_
 rw[List.filter_map,List.length_map];rfl
theorem anon_k1(r:Int):m.anon.k1 r=m.k1 r:=by
 show(((m.vertices.map _).filter _).length==1)=_
 rw[List.filter_map,List.length_map];rfl
theorem Zox(s:List UInt8):m.anon.body bd s=m.body bd s:=rfl
theorem Z3ja(rule:Nat)(a:Int):m.anon.keep bd gd rule a=m.keep bd gd rule a:=by
 unfold keep
 split
 exact anon_k1 a;simp only[k2,Zbe,Zfh,Z9n,Zbn,Zhg];simp only[k3,Zbe,Zfh];simp only[k4,Zbe,Zfh,Z9n,Zhm];simp only[k5,Zbe,Zfh,Z9n,Zhm];simp only[k6,Zbe,Zfh,Z9n,Z3ca];simp only[k7,Zbe,Zfh,Zbn,Zhg,Z2ca];simp only[k8,Zbe,Zfh,Zku,Zhg,Znx];simp only[k9,Zbe,Zgm];simp only[k10,Zbe,Zgm];rfl;simp only[k11,Zbe,Zgm,Zku];simp only[k12,Zox,Zgm];simp only[k13,Zbe,Zox,Zhg];simp only[k14,Zhm,Zgm];simp only[k15,Zbe,Zku,Zhg,Zgm];rfl
theorem Zh3(rule:Nat):m.anon.places rule=m.places rule:=by
 rw[places,places];simp only[anon,List.length_map]
theorem anon_badL(k:Nat):m.anon.badL bd gd k=m.badL bd gd k:=by
 rw[badL,badL]
 congr 1
 funext r
 rw[badAt,badAt,Zh3];simp only[Z3ja]
end PM
end
end Go.Hs
end

section
namespace Go.Hs
open Go.Proofs
set_option maxHeartbeats 1000000
set_option maxRecDepth 10000
structure VtM where
 name:List UInt8
 kind:Int
 region:Int
 of:Int
 entry:List UInt8
 exit:List UInt8
 defers:Sl (List UInt8)
 sub:List UInt8
structure TrM where
 name:List UInt8
 source:Int
 target:Int
 triggers:Sl (List UInt8)
 after:Int
 guard:List UInt8
 effect:List UInt8
 kind:Int
structure MdM where
 name:List UInt8
 vars:Sl (List UInt8×Int)
 events:Sl (List UInt8)
 regions:Sl (List UInt8×Int)
 verts:Sl VtM
 ways:Sl TrM
def VtM.p(x:VtM):VP:=⟨x.name,x.kind,x.region,x.of,x.entry,x.exit,x.defers.l,x.sub⟩
def TrM.p(x:TrM):WP:=⟨x.name,x.source,x.target,x.triggers.l,x.after,x.guard,x.effect,x.kind⟩
def MdM.p(m:MdM):PM:=⟨m.name,m.vars.l,m.events.l,m.regions.l,m.verts.l.map VtM.p,m.ways.l.map TrM.p⟩
def Z3(p:List UInt8×Int):V:=.agg [.str p.1,.int .i64 p.2]
theorem Z2a(p:List UInt8×Int):Z3 p=.agg [.str p.1,.int .i64 p.2]:=rfl
theorem Zqb(p:List UInt8×Int):(Z3 p).cells.length=2:=rfl
def Zha(c:Col)(x:VtM):V:=.agg [.str x.name,.int .u8 x.kind,.int .i64 x.region,.int .i64 x.of,.str x.entry,.str x.exit,Zb c 1 V.str x.defers,.str x.sub]
theorem Zp(c:Col)(x:VtM):Zha c x=.agg [.str x.name,.int .u8 x.kind,.int .i64 x.region,.int .i64 x.of,.str x.entry,.str x.exit,Zb c 1 V.str x.defers,.str x.sub]:=rfl
theorem Zrc(c:Col)(x:VtM):(Zha c x).cells.length=8:=rfl
def Zqa(c:Col)(x:TrM):V:=.agg [.str x.name,.int .i64 x.source,.int .i64 x.target,Zb c 1 V.str x.triggers,.int .i64 x.after,.str x.guard,.str x.effect,.int .u8 x.kind]
theorem Z7(c:Col)(x:TrM):Zqa c x=.agg [.str x.name,.int .i64 x.source,.int .i64 x.target,Zb c 1 V.str x.triggers,.int .i64 x.after,.str x.guard,.str x.effect,.int .u8 x.kind]:=rfl
theorem Zse(c:Col)(x:TrM):(Zqa c x).cells.length=8:=rfl
def Zx(c d:Col)(m:MdM):V:=.agg [.str m.name,Zb c 2 Z3 m.vars,Zb c 1 V.str m.events,Zb c 2 Z3 m.regions,Zb c 8 (Zha d) m.verts,Zb c 8 (Zqa d) m.ways]
theorem Zd(c d:Col)(m:MdM):Zx c d m=.agg [.str m.name,Zb c 2 Z3 m.vars,Zb c 1 V.str m.events,Zb c 2 Z3 m.regions,Zb c 8 (Zha d) m.verts,Zb c 8 (Zqa d) m.ways]:=rfl
theorem Zef(g:Col->Col)(c:Col)(s:Sl (List UInt8×Int)):(Zb c 2 Z3 s).recol g=Zb (g c) 2 Z3 s:=Zdd g c 2 (λp=>by simp only[Z2a,Zdc,List.map_cons,List.map_nil,Zcc,Zoc]) s
theorem Zde(g:Col->Col)(c:Col)(x:VtM):(Zha c x).recol g=Zha (g c) x:=by simp only[Zp,Zdc,List.map_cons,List.map_nil,Zcc,Zoc,Zgb]
theorem Zee(g:Col->Col)(c:Col)(x:TrM):(Zqa c x).recol g=Zqa (g c) x:=by simp only[Z7,Zdc,List.map_cons,List.map_nil,Zcc,Zoc,Zgb]
theorem Zhk(g:Col->Col)(c d:Col)(s:Sl VtM):(Zb c 8 (Zha d) s).recol g=Zb (g c) 8 (Zha (g d)) s:=Zdd g c 8 (Zde g d) s
theorem Zik(g:Col->Col)(c d:Col)(s:Sl TrM):(Zb c 8 (Zqa d) s).recol g=Zb (g c) 8 (Zqa (g d)) s:=Zdd g c 8 (Zee g d) s
theorem Z4f(g:Col->Col)(c d:Col)(m:MdM):(Zx c d m).recol g=Zx (g c) (g d) m:=by simp only[Zd,Zdc,List.map_cons,List.map_nil,Zoc,Zgb,Zef,Zhk,Zik]
attribute[go_sem]Zef Zde Zee Zhk Zik Z4f
theorem Zxf{m:MdM}{k:Nat}{x:VtM}(h:m.verts.l[k]?=some x):m.p.vx (k:Int)=x.p:=by
 show(m.verts.l.map VtM.p).getD ((k:Int)).toNat vx0=_
 rw[List.getD_eq_getElem?_getD,List.getElem?_map,Int.toNat_natCast,h]<;>rfl
theorem Zai{m:MdM}{k:Nat}{x:TrM}(h:m.ways.l[k]?=some x):m.p.wy (k:Int)=x.p:=by
 show(m.ways.l.map TrM.p).getD ((k:Int)).toNat wy0=_
 rw[List.getD_eq_getElem?_getD,List.getElem?_map,Int.toNat_natCast,h]<;>rfl
theorem Zdl{m:MdM}{k:Nat}{r:List UInt8×Int}(h:m.regions.l[k]?=some r):m.p.ow (k:Int)=r.2:=by
 show(m.regions.l.getD ((k:Int)).toNat ([],0)).2=_
 rw[List.getD_eq_getElem?_getD,Int.toNat_natCast,h]<;>rfl
theorem MdM.nv(m:MdM):m.p.vertices.length=m.verts.l.length:=List.length_map ..
theorem MdM.nw(m:MdM):m.p.ways.length=m.ways.l.length:=List.length_map ..
theorem MdM.at{m:MdM}{v:Int}(h0:0<=v)(h1:v<m.p.vertices.length):∃ (k:Nat) (x:VtM),v=(k:Int)/\k<m.verts.l.length/\m.verts.l[k]?=some x/\m.p.vx v=x.p:=by
 rw[m.nv]at h1;have hk:v.toNat<m.verts.l.length:=zo;have e:v=((v.toNat:Nat):Int):=zo;refine⟨v.toNat,_,e,hk,List.getElem?_eq_getElem hk,?_⟩
 conv=>lhs;rw[e]
 exact Zxf (List.getElem?_eq_getElem hk)
theorem Zbo{m:MdM}{v:Int}(h0:0<=v)(h1:v<m.p.regions.length):∃ (k:Nat) (x:List UInt8×Int),v=(k:Int)/\k<m.regions.l.length/\m.regions.l[k]?=some x/\m.p.ow v=x.2:=by
 have h1:v<m.regions.l.length:=h1;have hk:v.toNat<m.regions.l.length:=zo;have e:v=((v.toNat:Nat):Int):=zo;refine⟨v.toNat,_,e,hk,List.getElem?_eq_getElem hk,?_⟩
 conv=>lhs;rw[e]
 exact Zdl (List.getElem?_eq_getElem hk)
theorem Zxd{m:MdM}{v:Int}(h0:0<=v)(h1:v<m.p.ways.length):∃ (k:Nat) (x:TrM),v=(k:Int)/\k<m.ways.l.length/\m.ways.l[k]?=some x/\m.p.wy v=x.p:=by
 rw[m.nw]at h1;have hk:v.toNat<m.ways.l.length:=zo;have e:v=((v.toNat:Nat):Int):=zo;refine⟨v.toNat,_,e,hk,List.getElem?_eq_getElem hk,?_⟩
 conv=>lhs;rw[e]
 exact Zai (List.getElem?_eq_getElem hk)
theorem Z1m(G:Nat->V)(hG:GOk G)(c d:Col)(m:MdM)(hm:m.p.Rt5)(v:Int)(h0:0<=v)(h1:v<m.p.vertices.length):
  Spec Tryz.prog G 215 [Zx c d m,.int .i64 v] Zk (λw _=>w=.int .i64 (m.p.around v)):=by
 refine Zo 0 27 [.tmp 4] Tryz.func215 λX=>?_;have hpt:=hm.pt h0 h1;obtain⟨k,x,rfl,hk,hg,hx⟩:=MdM.at h0 h1;rw[PM.around];rw[hx]at hpt⊢;simp only[Zd];have f:=zi hg (zi hk (zi Zp (zi @Int.natCast_nonneg @Int.ofNat_lt)));refine Z ?_;intro g2;refine Zf f ?_;intro g5
 by_cases ho:0<=x.of
 have q:decide (x.of>=0)=true:=zT;refine Zf (zi f q) ?_
 rw[if_pos (show 0<=x.p.of from ho)]<;>rfl
 have q:decide (x.of>=0)=false:=zF;obtain⟨_,r0,r1,_⟩:=hpt.resolve_left (λh=>ho h.1);obtain⟨r,y,hr,hrk,hrg,hy⟩:=Zbo r0 r1;rw[if_neg (show ¬ 0<=x.p.of from ho),hy];have hr:x.region=(r:Int):=hr;refine Zf q ?_;refine ZTf (zi f (zi hr (zi hrg (zi hrk Z2a)))) hG ?_;exact Zr
theorem Zs8(G:Nat->V)(hG:GOk G)(c:UInt8):Spec Tryz.prog G 241 [.int .u8 c.toNat] Zk (λv _=>v=.bool (Zoa c)):=by
 refine Zo 0 9 [.tmp 2] Tryz.func241 λX=>?_
 have key:Zoa c=(decide ((c.toNat:Int)>=48)&&decide ((c.toNat:Int)<=57)):=by
  unfold Zoa
  congr 1
  rw[decide_eq_decide];omega;rw[decide_eq_decide];omega
 rw[key];refine Z6 λK hK=>AW.region zk ?_;refine Zs ?_;refine hK _ ?_
 try clear hK K
 cases h1:decide ((c.toNat:Int)>=48)<;>cases h2:decide ((c.toNat:Int)<=57)<;>((refine Z6 λK hK=>AW.region zk ?_;refine Zsf (zi h1 h2) ?_;refine hK _ ?_;clear hK K);(refine AW.ret ?_;refine Zs ?_;refine Z7a ?_);rfl)
theorem Zr8(G:Nat->V)(hG:GOk G)(c:UInt8):Spec Tryz.prog G 240 [.int .u8 c.toNat] Zk (λv _=>v=.bool (Zej c)):=by
 refine Zo 0 21 [.tmp 2] Tryz.func240 λX=>?_
 have key:Zej c=((decide ((c.toNat:Int)>=65)&&decide ((c.toNat:Int)<=90)||(decide ((c.toNat:Int)>=97)&&decide ((c.toNat:Int)<=122)))||c==95):=by
  have:=Zav (λc=>Zej c==((decide ((c.toNat:Int)>=65)&&decide ((c.toNat:Int)<=90)||(decide ((c.toNat:Int)>=97)&&decide ((c.toNat:Int)<=122)))||c==95)) (by decide +kernel) c;simpa using this
 rw[key];refine Z6 λK hK=>AW.region zk ?_;refine Zs ?_;refine hK _ ?_
 try clear hK K
 cases h1:decide ((c.toNat:Int)>=65)<;>cases h2:decide ((c.toNat:Int)<=90)<;>cases h3:decide ((c.toNat:Int)>=97)<;>cases h4:decide ((c.toNat:Int)<=122)<;>cases h5:(c==95)<;>((refine Z6 λK hK=>AW.region zk ?_;simp -implicitDefEqProofs only[go_sem,seval,Zrla,h1,h2,h3,h4,h5];refine hK _ ?_;clear hK K);(refine AW.ret ?_;refine Zs ?_;refine Z7a ?_);rfl)
theorem Z0ga(G:Nat->V)(hG:GOk G)(s:List UInt8)(hs:s.length<1000000)(i:Nat)(hi:i<=s.length):Spec Tryz.prog G 276 [.str s,.int .i64 i] Zk (λv _=>v=.bool (Zra [45,45] (s.drop i))):=by
 refine Zo 0 23 [.tmp 4] Tryz.func276 λX=>?_
 have hw:IntKind.i64.wrap ((i:Int)+1)=((i+1:Nat):Int):=by rw[w64 zo zo];omega
 refine Z6 λK hK=>AW.region zk ?_;refine Zs ?_;refine hK _ ?_
 try clear hK K
 by_cases h:i+1<s.length
 have h1:decide (((i+1:Nat):Int)<s.length)=true:=zT;have g1:=Z6l (l:=s) (k:=i) zo;have g2:=Z6l h
 have hd:s.drop i=s[i]::s[i+1]::s.drop (i+2):=by rw[List.drop_eq_getElem_cons zo,List.drop_eq_getElem_cons h]
 generalize s[i]=a at g1 hd;generalize s[i+1]=b at g2 hd;rw[hd,Zcb,Zcb,Zqc];rw[show((45:UInt8)==a)=(a==45)from Bool.beq_comm,show((45:UInt8)==b)=(b==45)from Bool.beq_comm]
 cases ha:(a==45)<;>cases hb:(b==45)<;>((refine Z6 λK hK=>AW.region zk ?_;simp -implicitDefEqProofs only[go_sem,seval,hw,h1,g1,g2,u8q45,ha,hb];refine hK _ ?_;clear hK K);(refine AW.ret ?_;refine Zs ?_;refine Z7a ?_);rfl)
 .have h1:decide (((i+1:Nat):Int)<s.length)=false:=zF
  have:Zra [45,45] (s.drop i)=false:=by
   rw[Bool.eq_false_iff];intro hp;have:=(Z4g hp).2;rw[List.length_drop]at this;omega
  rw[this];refine Z6 λK hK=>AW.region zk ?_;refine Zsf (zi hw h1) ?_;refine hK _ ?_
  try clear hK K
  exact Zr
theorem Z9o(G:Nat->V)(hG:GOk G)(s:List UInt8)(hs:s.length<1000000)(i:Nat)(hi:i<=s.length):Spec Tryz.prog G 247 [.str s,.int .i64 i] Zk (λv _=>v=.int .i64 ((i+blk (s.drop i):Nat):Int)):=by
 refine Zo 0 52 [.tmp 4] Tryz.func247 λX=>?_;refine Z1 ?_;refine Z4 ?_;refine AW.block ?_
 refine Zpb (fun(k:Nat)=>st [(0,.str s),(1,.int .i64 k)] []) (λk=>k<=s.length/\i+blk (s.drop i)=k+blk (s.drop k)) (λk=>s.length-k) i ⟨hi,rfl⟩
  (Za zp zp) ?_
 rintro k ⟨hk,hR⟩ L2 hL2;refine Z1 ?_;refine Zi rfl (λh4=>?_) (λh4=>?_);have hk1:k<s.length:=zu h4;have g1:=Z6l hk1;have hd:s.drop k=s[k]::s.drop (k+1):=List.drop_eq_getElem_cons hk1;generalize s[k]=c at g1 hd;refine Z0 ?_;refine AW.block ?_;refine AW.block ?_
 have hbl:Zfj c=(c==9||c==10||c==13||c==32):=by
  have:=Zav (λc=>Zfj c==(c==9||c==10||c==13||c==32)) (by decide +kernel) c;simpa using this
 refine Zda (fun(_:Unit)=>st [(0,.str s),(1,.int .i64 k),(10,.bool (Zfj c))] []) (λ_=>True) (λK5 hK5=>?_) ?_;rw[hbl]at hK5
 cases h1:(c==9)<;>cases h2:(c==10)<;>cases h3:(c==13)<;>cases h5:(c==32)<;>(rw[h1,h2,h3,h5]at hK5;refine AW.region zk ?_;simp -implicitDefEqProofs only[go_sem,seval,g1,u8q9,Zsla,Zxfa,Zwfa,h1,h2,h3,h5];exact hK5 _ () trivial (Za zp zp))
 intro _ _;refine Zi rfl (λh6=>?_) (λh6=>?_);rw[hd,Zm9 h6]at hR;refine Z1 ?_;refine hL2 _ ⟨k+1,zo,⟨zo,zo⟩,Za (by refine Zs ?_;exact congrArg _ (by rw[w64 zo zo];omega)) zp⟩;refine Z1 ?_;refine Zc hG ?_ (s:=(Z0ga G hG s hs k hk));refine Zi rfl (λh7=>?_) (λh7=>?_);rw[Zhu h7,List.drop_drop]at hR;have hr:=Zdf Z1n (s.drop k);have h2:=Z4g h7;rw[List.length_drop]at hr;refine AW.block ?_
 refine Zpb (fun(j:Nat)=>st [(0,.str s),(1,.int .i64 j)] []) (λj=>j<=s.length/\k<=j/\k+Zwc Z1n (s.drop k)=j+Zwc Z1n (s.drop j)) (λj=>s.length-j) k ⟨hk,Nat.le_refl _,rfl⟩
  (Za zp zp) ?_
 rintro j ⟨hj,hkj,hJ⟩ L8 hL8;refine Z4 ?_
 by_cases hj1:j<s.length
 .have e1:decide ((j:Int)<s.length)=true:=zT
  have g2:=Z6l hj1;have hd2:s.drop j=s[j]::s.drop (j+1):=List.drop_eq_getElem_cons hj1;generalize s[j]=b at g2 hd2;rw[hd2,Zgk]at hJ
  cases hb:(b==10)with
  |true=>
   refine Zhc zk ?_;simp -implicitDefEqProofs only[go_sem,seval,e1,g2,bne,Zsla,hb];refine Zbb rfl ?_;refine Z0 ?_
   have:Z1n b=false:=by unfold Z1n;rw[hb]<;>rfl
   rw[this,if_neg zS]at hJ;refine hL2 _ ⟨j,zo,⟨hj,by have hJ':k+Zwc Z1n (s.drop k)=j:=hJ;rw[hR,hJ'];omega⟩,Za zp zp⟩
  |false=>
   refine Zhc zk ?_;simp -implicitDefEqProofs only[go_sem,seval,e1,g2,bne,Zsla,hb];refine Zi rfl (λh10=>?_) (λh10=>?_)
   have:Z1n b=true:=by unfold Z1n;rw[hb]<;>rfl
   rw[this,if_pos rfl]at hJ;refine Z1 ?_;refine hL8 _ ⟨j+1,zo,⟨zo,zo,zo⟩,Za (by refine Zs ?_;exact congrArg _ (by rw[w64 zo zo];omega)) zp⟩;cases h10
 have e1:decide ((j:Int)<s.length)=false:=zF;have hj2:j=s.length:=zo;refine Z1f e1 ?_;refine Zbb rfl ?_;refine Z0 ?_
 have h0:s.drop j=[]:=by rw[hj2,List.drop_length]
 rw[h0]at hJ;refine hL2 _ ⟨j,zo,⟨hj,by have hJ':k+Zwc Z1n (s.drop k)=j:=hJ;rw[hR,hJ'];omega⟩,Za zp zp⟩;rw[hd]at h7 hR;rw[Zk9 h6 h7]at hR;refine Z ?_
 rw[hR]<;>rfl
 have hk1:¬ k<s.length:=zu h4;refine Z ?_;have h0:s.drop k=[]:=List.drop_eq_nil_of_le zo
 rw[hR,h0]<;>rfl
theorem Zap(G:Nat->V)(hG:GOk G)(c:Col)(t:List UInt8)(s:Sl (List UInt8))(hs:s.l.length<1000000):
  Spec Tryz.prog G 239 [.str t,Zb c 1 V.str s] Zk (λv _=>v=.bool (s.l.contains t)):=by
 refine Zo 0 18 [.tmp 4] Tryz.func239 λX=>?_;refine Z1 ?_;refine Z1 ?_;refine AW.block ?_
 refine Z9 s.l.length (λk (_:Unit)=>st [(0,.str t),(1,Zb c 1 V.str s),(5,.int .i64 k)] []) (λk _=>(s.l.take k).contains t=false) 0 () (Nat.zero_le _) rfl
  (Za zp zp) ?_
 intro k _ hk hR L2 hL2;refine Z1 ?_;refine Zi rfl (λh4=>?_) (λh4=>?_);have hk1:k<s.l.length:=zu h4;have hg:=List.getElem?_eq_getElem hk1
 have htk:s.l.take (k+1)=s.l.take k++[s.l[k]]:=by rw[List.take_succ_eq_append_getElem hk1]
 have hmem:=List.getElem_mem hk1;generalize s.l[k]=x at hg htk hmem;refine Z1f hg ?_;refine Zi rfl (λh6=>?_) (λh6=>?_);have h6:x=t:=zu h6;refine Z ?_
 have:s.l.contains t=true:=by rw[<- h6];simpa using hmem
 rw[this];have h6:¬ x=t:=zu h6;refine Z1 ?_;refine hL2 _ ⟨hk1,(),?_,Za zw zp⟩;rw[htk];simp only[List.contains_eq_mem,decide_eq_false_iff_not]at hR⊢;intro hm
 rcases List.mem_append.1 hm with h|h
 exact hR h;exact h6 ((List.mem_singleton.1 h).symm)
 have hk1:k=s.l.length:=by simp at h4;omega
 refine Z ?_;rw[hk1,List.take_length]at hR;rw[hR]
theorem Zmj(G:Nat->V)(hG:GOk G)(s:List UInt8)(hs:s.length<1000000000000000):Spec Tryz.prog G 202 [.str s] Zk (λv _=>v=.int .u8 (Z6b s)):=by
 refine Zo 0 45 [.tmp 2] Tryz.func202 λX=>?_
 have hW1:signsL.contains s=true->Z6b s=4:=λh=>by unfold Z6b;rw[if_pos h]
 have hW2:signsL.contains s=false->wordsL.contains s=true->Z6b s=3:=λh h2=>by unfold Z6b;rw[if_neg (by rw[h];simp),if_pos h2]
 have hW3:∀ c r,s=c::r->signsL.contains s=false->wordsL.contains s=false->Z6b s=if s.all Zoa then 1 else if Zej c&&s.all Z7d then 2 else 0:=by
  rintro c r rfl h h2;unfold Z6b;rw[if_neg (by rw[h];simp),if_neg (by rw[h2];simp)]
 refine Z1 ?_;refine Z1 ?_;intro g;refine Zua hG [.str s,Zb .old 1 V.str (.mk false signsL)] zk ⟨Z0a (.str _) rfl,Rd.msl (off:=0) (n:=14) (l:=signsL) (f:=V.str) (f':=V.str) (g:=g) (fz:=0) (c:=.new) zp (λ_=>rfl) (λx y hy=>by simp[V.cells]at hy;subst hy;exact .str _) (λ_=>rfl) zd,trivial⟩ ?_;refine(Zap G hG _ s (.mk false signsL) zd).mono ?_;rintro _ _ rfl;refine⟨.bool _,?_⟩;refine Zs ?_;refine Zi rfl (λh2=>?_) (λh2=>?_);refine Z ?_
 rw[hW1 h2]<;>rfl
 refine Z1 ?_;intro g;refine Zua hG [.str s,Zb .old 1 V.str (.mk false wordsL)] zk ⟨Z0a (.str _) rfl,Rd.msl (off:=0) (n:=14) (l:=wordsL) (f:=V.str) (f':=V.str) (g:=g) (fz:=0) (c:=.new) zp (λ_=>rfl) (λx y hy=>by simp[V.cells]at hy;subst hy;exact .str _) (λ_=>rfl) zd,trivial⟩ ?_;refine(Zap G hG _ s (.mk false wordsL) zd).mono ?_;rintro _ _ rfl;refine⟨.bool _,?_⟩;refine Zs ?_;refine Zi rfl (λh4=>?_) (λh4=>?_);refine Z ?_
 rw[hW2 h2 h4]<;>rfl
 refine Z0 ?_;refine Z4 ?_
 cases s with
 |nil=>
  refine Z1 ?_;refine Zi rfl (λh6=>?_) (λh6=>?_);exact Zr;cases h6
 |cons c r=>
  have hW:=hW3 c r rfl h2 h4;refine Z1 ?_;refine Z1 ?_;refine Z1 ?_;refine Zc hG ?_ (s:=(Zr8 G hG c));refine Z6 λK7 hK7=>?_;refine Z1 ?_;refine AW.block ?_;generalize hs0:c::r=s at hs hW hK7⊢
  refine Z9 s.length (λk (_:Unit)=>st [(0,.str s),(3,.bool ((s.take k).all Zoa)),(4,.bool (Zej c&&(s.take k).all Z7d)),(5,.int .i64 k)] []) (λk _=>True) 0 () (Nat.zero_le _) trivial
   (Za (by refine Zs ?_;rw[List.all_nil,List.all_nil,Bool.and_true];exact⟨rfl,rfl⟩) zp) ?_
  intro k _ hk hR L8 hL8;refine Z1 ?_;refine Zi rfl (λh10=>?_) (λh10=>?_)
  .have hk1:k<s.length:=zu h10
   have hg:=Z6l hk1
   have htk:s.take (k+1)=s.take k++[s[k]]:=by rw[List.take_succ_eq_append_getElem hk1]
   generalize s[k]=x at hg htk;refine Z0 ?_;refine Z4 ?_;refine AW.block ?_
   have ha:∀ p:UInt8->Bool,(s.take (k+1)).all p=((s.take k).all p&&p x):=λp=>by rw[htk,List.all_append];simp
   refine Zda (fun(_:Unit)=>st [(0,.str s),(3,.bool ((s.take (k+1)).all Zoa)),(4,.bool (Zej c&&(s.take k).all Z7d)),(5,.int .i64 k)] []) (λ_=>True) (λK12 hK12=>?_) ?_
   .rw[ha Zoa]at hK12
    cases h1:(s.take k).all Zoa with
    |true=>
     refine Z1f (zi hg h1) ?_;refine Zc hG ?_ (s:=(Zs8 G hG x));exact hK12 _ () trivial (Za (by refine Zsf h1 ?_;cases Zoa x<;>rfl) zp)
    |false=>
     refine Z1f (zi hg h1) ?_;exact hK12 _ () trivial (Za (zpf h1) zp)
   intro _ _
   have hN:(Zej c&&(s.take (k+1)).all Z7d)=((Zej c&&(s.take k).all Z7d)&&(Zej x||Zoa x)):=by
    rw[ha Z7d,<- Bool.and_assoc]<;>rfl
   cases h1:(Zej c&&(s.take k).all Z7d)with
   |true=>
    rw[h1,Bool.true_and]at hN;refine Z1f (zi hg h1) ?_;refine Zn hG ?_ (s:=(Zr8 G hG x))
    cases h2:Zej x with
    |true=>
     refine Zsf h2 ?_;refine Z1 ?_;refine hL8 _ ⟨hk1,(),trivial,Za (by rw[hN,h2];refine Zs ?_;exact⟨rfl,congrArg _ (w64 zo zo)⟩) zp⟩
    |false=>
     refine Zsf (zi hg h2) ?_;refine Zc hG ?_ (s:=(Zs8 G hG x));refine Z1 ?_;refine hL8 _ ⟨hk1,(),trivial,Za (by rw[hN,h2];refine Zs ?_;cases Zoa x<;>exact⟨rfl,congrArg _ (w64 zo zo)⟩) zp⟩
   |false=>
    rw[h1,Bool.false_and]at hN;refine Z1f (zi hg h1) ?_;refine Z1 ?_;refine hL8 _ ⟨hk1,(),trivial,Za (by rw[hN];simp -implicitDefEqProofs only[go_sem,seval];try exact congrArg _ (w64 zo zo)) zp⟩
  have hk1:k=s.length:=by simp at h10;omega
  rw[hk1,List.take_length];refine Z0 ?_;refine hK7 _ ?_;refine Z6 λK12 hK12=>?_;refine Z1 ?_;refine Zi rfl (λh13=>?_) (λh13=>?_);refine Z ?_
  rw[hW,if_pos h13]<;>rfl
  refine Z0 ?_;refine hK12 _ ?_;refine Z1 ?_;refine Zi rfl (λh15=>?_) (λh15=>?_);refine Z ?_;rw[hW,if_neg (by rw[h13];simp),if_pos h15];rfl;refine Z ?_;rw[hW,if_neg (by rw[h13];simp),if_neg (by rw[h15];simp)];rfl
theorem Z0g(G:Nat->V)(hG:GOk G)(s:List UInt8)(hs:s.length<1000000000000000):Spec Tryz.prog G 126 [.str s] Zk (λv _=>v=.int .u8 (isP s)):=by
 refine Zo 0 8 [.tmp 2] Tryz.func126 λX=>?_;rw[Zmw];refine Z1 ?_;refine Z1 ?_;refine Zi rfl (λh2=>?_) (λh2=>?_)
 have h2:s.length>64:=by have h2:decide ((s.length:Int)>64)=true:=h2;simp at h2;omega
 refine Z ?_
 rw[if_pos h2]<;>rfl
 have h2:¬ s.length>64:=by have h2:decide ((s.length:Int)>64)=false:=h2;simp at h2;omega
 refine Z1 ?_;refine Zc hG ?_ (s:=(Zmj G hG s hs));refine Z ?_;rw[if_neg h2]
theorem Zgt(G:Nat->V)(hG:GOk G)(s:List UInt8)(hs:s.length<1000000)(i:Nat)(hi:i<s.length)(hp:Zra [45,45] (s.drop i)=false):
  Spec Tryz.prog G 248 [.str s,.int .i64 i] Zk (λv _=>v=.int .i64 (Z1a (s.drop i)).1):=by
 refine Zo 0 35 [.tmp 4] Tryz.func248 λX=>?_;have hdl:(s.drop i).length=s.length-i:=List.length_drop;have hend:=λk=>Z3ha (s:=s.drop i) (by intro h;rw[h]at hdl;simp at hdl;omega) hp (k:=k);have hsucc:=λk=>Z4e (s.drop i) (k:=k);have hle:=Z38 (s.drop i);refine Z1 ?_;refine Z1 ?_;refine Z1 ?_;refine AW.block ?_
 refine Zpb (fun(k:Nat)=>st [(0,.str s),(1,.int .i64 i),(5,.int .i64 (Zhf (s.drop i) k)),(6,.int .i64 k)] []) (λk=>1<=k/\k<=(s.drop i).length+1) (λk=>(s.drop i).length+1-k) 1 ⟨Nat.le_refl _,zo⟩
  (Za (by refine Zs ?_;rw[Ztk]<;>rfl) zp) ?_
 rintro k ⟨hk1,hk2⟩ L2 hL2;have hlk:=hle k
 have hw:IntKind.i64.wrap ((i:Int)+(k:Int))=((i+k:Nat):Int):=by rw[w64 zo zo];omega
 have hw1:IntKind.i64.wrap ((k:Int)-1)=(k:Int)-1:=w64 zo zo;refine Z4 ?_
 by_cases h1:i+k<=s.length
 have e1:decide (((i+k:Nat):Int)<=s.length)=true:=zT;refine Zda (fun(_:Unit)=>st [(0,.str s),(1,.int .i64 i),(5,.int .i64 (Zhf (s.drop i) k)),(6,.int .i64 k),(22,.bool (decide (k<3\/Zhf (s.drop i) k=k-1)))] []) (λ_=>True) (λK4 hK4=>?_) ?_
 by_cases h2:k<3
 have e2:decide ((k:Int)<3)=true:=zT
 have e3:decide (k<3\/Zhf (s.drop i) k=k-1)=true:=by rw[decide_eq_true_iff];exact .inl h2
 rw[e3]at hK4;refine Z1f (zi hw (zi e1 e2)) ?_;exact hK4 _ () trivial (Za zp zp)
 .have e2:decide ((k:Int)<3)=false:=zF
  have e3:((Zhf (s.drop i) k:Int)==(k:Int)-1)=decide (k<3\/Zhf (s.drop i) k=k-1):=by
   by_cases h3:Zhf (s.drop i) k=k-1
   rw[show decide (k<3\/Zhf (s.drop i) k=k-1)=true by rw[decide_eq_true_iff];exact .inr h3,h3];rw[beq_iff_eq];omega;rw[show decide (k<3\/Zhf (s.drop i) k=k-1)=false by rw[decide_eq_false_iff_not];rintro(h|h);exact h2 h;exact h3 h];rw[beq_eq_false_iff_ne];omega
  rw[<- e3]at hK4;generalize Zhf (s.drop i) k=n at hK4⊢
  cases e4:((n:Int)==(k:Int)-1)with
  |true=>
   rw[e4]at hK4;refine Z1f (zi hw (zi hw1 (zi e1 (zi e2 e4)))) ?_;exact hK4 _ () trivial (Za zp zp)
  |false=>
   rw[e4]at hK4;refine Z1f (zi hw (zi hw1 (zi e1 (zi e2 e4)))) ?_;exact hK4 _ () trivial (Za zp zp)
 intro _ _;refine Zi rfl (λh4=>?_) (λh4=>?_);refine Z0 ?_;refine Z4 ?_;refine AW.block ?_;have hin:i<=i+k:=zo;have hsub:i+k-i=k:=zo;have hs1:=hsucc k hk1
 have hkl:((s.drop i).take k).length<1000000:=by rw[List.length_take];omega
 refine Z1f (zi hw (zi hin (zi hsub h1))) ?_;refine Zc hG ?_ (s:=(Zmj G hG _ zo));generalize Z6b ((s.drop i).take k)=wk at hs1⊢;refine Zi rfl (λh6=>?_) (λh6=>?_);have h6:¬ wk=0:=zu h6;rw[if_neg h6]at hs1;refine Z1 ?_;refine Z1 ?_;refine hL2 _ ⟨k+1,zo,⟨zo,zo⟩,Za (by rw[hs1];refine Zs ?_;exact congrArg _ (w64 zo zo)) zp⟩;have h6:wk=0:=zu h6;rw[if_pos h6]at hs1;refine Z1 ?_;refine hL2 _ ⟨k+1,zo,⟨zo,zo⟩,Za (by rw[hs1];refine Zs ?_;exact congrArg _ (w64 zo zo)) zp⟩;have h4:¬ (k<3\/Zhf (s.drop i) k=k-1):=zu h4;refine Z ?_;rw[hend k hk1 hk2 (.inr ⟨zo,λh=>h4 (.inr h)⟩)];have e1:decide (((i+k:Nat):Int)<=s.length)=false:=zF;refine Z1f (zi hw e1) ?_;refine Zbb rfl ?_;refine Z ?_;rw[hend k hk1 hk2 (.inl zo)]
theorem Zje(G:Nat->V)(hG:GOk G)(s:List UInt8)(hs:s.length<100000):Spec Tryz.prog G 211 [.str s] Zk (λv _=>v=encTok (Zja s)):=by
 refine Zo 0 51 [.tmp 2,.tmp 3,.tmp 4] Tryz.func211 λX=>?_;refine Z1 ?_;refine Z1 ?_
 have hT:Zja s=if s.length>65536 then([],0,3)else Zyd (s.length+1) s (blk s) []:=rfl
 refine Zi rfl (λh2=>?_) (λh2=>?_)
 have h2:s.length>65536:=by have h2:decide ((s.length:Int)>65536)=true:=h2;simp at h2;omega
 refine Z ?_
 rw[hT,if_pos h2]<;>rfl
 have h2:¬ s.length>65536:=by have h2:decide ((s.length:Int)>65536)=false:=h2;simp at h2;omega
 rw[if_neg h2]at hT;refine Z1 ?_;refine Z1 ?_;refine Zn hG ?_ (s:=(Z9o G hG s zo 0 (Nat.zero_le _)));rw[List.drop_zero,Nat.zero_add];refine Zs ?_;have hb:=Zhx s;have hcl:=Zix s;refine Z4 ?_;refine AW.block ?_
 refine Zpb (fun(x:Nat×Nat×List Tk)=>st [(0,.str s),(5,grown 44 x.1 3 x.2.2),(6,.int .i64 x.2.1)] [(44,Zza x.1 Zeb x.2.2)]) (λx=>x.2.1<=s.length/\x.2.2.length<=x.2.1/\Zja s=Zyd (s.length+1) s x.2.1 x.2.2/\Zh9 (s.drop x.2.1)) (λx=>s.length-x.2.1) (0,blk s,[]) ⟨hb,Nat.zero_le _,hT,hcl⟩
  (Za zp zp) ?_
 rintro⟨gx,i,acc⟩ ⟨hi,hal,hR,hC⟩ L2 hL2;have hi:i<=s.length:=hi;have hal:acc.length<=i:=hal;have hR:Zja s=Zyd (s.length+1) s i acc:=hR;have hC:Zh9 (s.drop i):=hC;refine Z1 ?_;refine Zi rfl (λh4=>?_) (λh4=>?_);have hi1:i<s.length:=zu h4;refine Z0 ?_;refine AW.block ?_;have hpre:Zra [45,45] (s.drop i)=false:=(hC _ _ (List.drop_eq_getElem_cons hi1)).2;have hfl:=Zyw (s.drop i);rw[List.length_drop]at hfl;have hst:=Zrr (f:=s.length+1) (acc:=acc) hi1 zo;have hbd:=Zhv (f:=s.length+1) (acc:=acc) hi1 zo;have hkd:=Z9ba hpre;refine Z1 ?_;refine Zn hG ?_ (s:=(Zgt G hG s zo i hi1 hpre));generalize Z1a (s.drop i)=p at hfl hst hbd hkd⊢;obtain⟨n,k⟩:=p;simp only at hfl hst hbd hkd;refine Zs ?_;refine Z4 ?_
 by_cases hn0:n=0
 have e0:((n:Int)==0)=true:=by simp[hn0]
 refine Z1f e0 ?_;refine Zi rfl (λh9=>?_) (λh9=>?_);refine Z ?_
 rw[hR,hbd (.inl hn0)]<;>rfl
 cases h9
 have e0:((n:Int)==0)=false:=by
  rw[beq_eq_false_iff_ne];omega
 refine Z1f e0 ?_;refine Zi rfl (λh9=>?_) (λh9=>?_)
 have h9:n>64:=by have h9:decide ((n:Int)>64)=true:=h9;simp at h9;omega
 refine Z ?_
 rw[hR,hbd (.inr h9)]<;>rfl
 have h9:¬ n>64:=by have h9:decide ((n:Int)>64)=false:=h9;simp at h9;omega
 refine Z0 ?_;have hst:=hst (λh=>h.elim hn0 h9);obtain⟨hkd,_⟩:=hkd hn0
 have hw:IntKind.i64.wrap ((i:Int)+(n:Int))=((i+n:Nat):Int):=by rw[w64 zo zo];omega
 have hin:i<=i+n:=zo;have hin2:i+n<=s.length:=zo;have hsub:i+n-i=n:=zo
 have p1:Z7i Tryz.prog G 202 [.str ((s.drop i).take n)] (.int .u8 k):=⟨by kernel_rfl,by
  refine Zs ?_;refine(Zmj G hG _ (by rw[List.length_take,List.length_drop];omega)).mono ?_;rintro _ _ rfl
  rw[hkd]<;>rfl⟩
 refine Z4<|Zw ⟨λi=>if i=7 then .int .u8 k else .top,λ_=>.pure⟩ zk hG zk zk ?_
 refine Zsf (zi hw (zi hin (zi hin2 hsub))) ?_;refine⟨p1,?_⟩;intro g43;refine Zna (f:=Zeb) (l:=acc) (l2:=[⟨k,(s.drop i).take n,i⟩]) (g:=gx) Z9g rfl rfl rfl zp (Z5 zo zO) λg44=>?_;refine Zs ?_;have hbl:=Zhx (s.drop (i+n));rw[List.length_drop]at hbl;refine Z1f hw ?_;refine Zc hG ?_ (s:=(Z9o G hG s zo (i+n) hin2));refine hL2 _ ⟨(g44,i+n+blk (s.drop (i+n)),acc++[⟨k,(s.drop i).take n,i⟩]),?_,⟨?_,?_,?_,?_⟩,Za zp zp⟩
 show s.length-(i+n+blk (s.drop (i+n)))<s.length-i
 omega
 show i+n+blk (s.drop (i+n))<=s.length
 omega
 show(acc++[_]).length<=i+n+blk (s.drop (i+n))
 simp only[List.length_append,List.length_singleton];omega;rw[hR];exact hst;have:=Zix (s.drop (i+n));rwa [List.drop_drop]at this;have hi1:¬ i<s.length:=zu h4;refine Z0 ?_;refine AW.weak (Zt (λo=>o==44) (l:=[(5,encTks .new acc)]) (m:=[]) ?_ trivial) ?_;refine Zs ?_;exact Z3a rfl rfl Z9g;refine Z ?_
 rw[hR,Zgv hi1]<;>rfl
end Go.Hs
end
