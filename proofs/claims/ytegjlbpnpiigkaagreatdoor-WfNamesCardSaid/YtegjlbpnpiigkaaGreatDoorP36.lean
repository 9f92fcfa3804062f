/- A part. No condition. -/
import Derived.Test.YtegjlbpnpiigkaaGreatDoorP33
import Derived.Test.YtegjlbpnpiigkaaGreatDoorP35
set_option linter.all false
section
namespace Go.Hs
open Go.Proofs
set_option maxRecDepth 10000
theorem Zuda{m:Nat}(h:m<1000000000000010):((m:Int)>IntKind.i64.max)=False:=by
 rw[eq_iff_iff,iff_false,show IntKind.i64.max=9223372036854775807 from rfl];omega
def encFk(p:Nat×Nat):V:=.tuple [.int .i64 p.1,.int .u8 p.2]
theorem Zll(G:Nat->V)(hE:GExp G)(s:List UInt8)(hs:s.length<1000000000000000):Spec Tryz.prog G 212 [.str s] Zk (λv _=>v=encFk (Zpa s)):=by
 have hG:=hE.ok;refine Zo 0 42 [.tmp 2,.tmp 3] Tryz.func212 λX=>?_;refine Z1 ?_;intro g1;refine Z8 ?_;refine AW.block ?_
 cases s with
 |nil=>
  refine Z1 ?_;refine Zj rfl (λh2=>?_) (λh2=>?_);exact Zr;cases h2
 |cons c r=>
  cases hp:Zga [45,45] (c::r)with
  |true=>
   refine Z1 ?_;refine Zn hG ?_ (s:=(Z7c G _ _));refine Zsf hp ?_;refine Zj rfl (λh2=>?_) (λh2=>?_);refine Z ?_
   rw[Z4d,if_pos hp]<;>rfl
   cases h2
  |false=>
   refine Z1 ?_;refine Zn hG ?_ (s:=(Z7c G _ _));refine Zsf hp ?_;refine Ztc rfl ?_
   try clear h2
   refine Z1 ?_;refine Zc hG ?_ (s:=(Z4g G hG c));refine Zj rfl (λh3=>?_) (λh3=>?_);refine Z1 ?_;refine Zc hG ?_ (s:=(Zzh G hG _ zo (fDigit hG)));refine Z ?_
   rw[Z6q h3]<;>rfl
   refine Z1 ?_;refine Zc hG ?_ (s:=(Zuf G hG c));refine Zj rfl (λh4=>?_) (λh4=>?_);have hn:=Zzg Zjg (c::r);have hw:=Zpm ((c::r).take (Zld Zjg (c::r))) (Znh Zjg (c::r));have hf:=Zvz (r:=r) h4;refine Z1 ?_;refine Zc hG ?_ (s:=(Zzh G hG _ zo (fAl hG)));generalize Zld Zjg (c::r)=n at hn hw hf⊢;have hn:n<=r.length+1:=hn;refine Z8 ?_
   have hl0:(List.take n (c::r)).length<=1000000000000000:=by rw[List.length_take];omega
   have hl1:=Zuda (m:=1+(List.take n (c::r)).length) zo;have hl2:=Zuda (m:=(List.take n (c::r)).length+1+1) zo;refine Zne zk ?_;simp -implicitDefEqProofs only[go_sem,seval,hl1,hl2,hn,Nat.zero_le,Nat.sub_zero,List.append_eq,List.cons_append,List.nil_append];refine Zc hG ?_ (s:=(Zbp G hE Zbda _ zd));rw[hw];refine Zj rfl (λh6=>?_) (λh6=>?_);refine Z ?_
   rw[hf,if_pos h6]<;>rfl
   refine Z ?_;rw[hf,if_neg (by rw[h6];simp)];rfl
   .refine Z0 ?_
    have hf:=Zck (c:=c) (r:=r) (by unfold Zjg;rw[h3,h4]<;>rfl) hp;obtain⟨cg,hsg⟩:=hE.sg
    refine Z8<|Z9d 0 zk rfl rfl ?_
    simp -implicitDefEqProofs only[go_sem,seval,List.take_zero];refine⟨_,Znm Tryz.underlying280 zk (c:=cg) (cs:=signsL.map V.str) (zpf hsg) rfl (λv hv=>by obtain⟨t,_,rfl⟩:=List.mem_map.1 hv;rfl),?_⟩;refine Zha hG [Za cg.ent 1 V.str (.mk true signsL),.func (.func 256) [] [.view .old (.str (c::r))]] zk ⟨?_,Za0 ⟨?_,trivial⟩,trivial⟩ ?_;exact Zka (Zgd (c:=cg) (m:=1) (λx y hy=>by simp[V.cells]at hy;subst hy;exact .str _) (.mk true signsL)) (Z1a _ _ _ (.mk true signsL));exact Rd.ptr (v:=.str (c::r)) (c:=.new) (fz:=0) zp (by intro y hy;simp[V.cells]at hy;subst hy;exact .str _) zp;refine(Zyk G hG _ (.mk true signsL) zd (fPre hG (c::r))).mono ?_;rintro _ _ rfl;refine⟨.int _ _,?_⟩;refine Zs ?_
    have hN:sgnN (c::r)=match signsL.findIdx? (Zga · (c::r))with|some i=>(signsL.getD i []).length|none=>0:=by
     unfold sgnN;rw[List.find?_eq_bind_findIdx?_getElem?]
     cases hi:signsL.findIdx? (Zga · (c::r))with
     |none=>rfl
     |some i=>
      have hlt:i<signsL.length:=(List.findIdx?_eq_some_iff_getElem.1 hi).1;simp only[Option.bind_some,List.getElem?_eq_getElem hlt,List.getD_eq_getElem?_getD,Option.getD_some]
    have hI:Zup (Zga · (c::r)) signsL=match signsL.findIdx? (Zga · (c::r))with|some i=>(i:Int)|none => -1:=rfl
    have hne:∀ i,signsL.findIdx? (Zga · (c::r))=some i->i<14/\(signsL.getD i []).length≠0:=λi hi=>by
     have h1:=List.findIdx?_eq_some_iff_getElem.1 hi;obtain⟨hlt,_⟩:=h1;have hlt:i<14:=hlt;refine⟨hlt,?_⟩;have:∀ i,i<14->(signsL.getD i []).length≠0:=zd;exact this i hlt
    rw[hI];rw[hN]at hf
    cases hi:signsL.findIdx? (Zga · (c::r))with
    |none=>
     rw[hi]at hf;refine Z1 ?_;refine Zj rfl (λh7=>?_) (λh7=>?_);refine Z ?_
     rw[hf]<;>rfl
     cases h7
    |some i=>
     rw[hi]at hf;obtain⟨hi14,hi0⟩:=hne i hi;refine Z1 ?_;refine Zj rfl (λh7=>?_) (λh7=>?_);have h7:decide ((i:Int)<0)=true:=h7;simp at h7;omega;refine Z0 ?_
     have hge:(signsL.map V.str)[i]?=some (.str (signsL.getD i [])):=by
      have hlt:i<signsL.length:=hi14
      rw[List.getElem?_map,List.getElem?_eq_getElem hlt,List.getD_eq_getElem?_getD,List.getElem?_eq_getElem hlt]<;>rfl
     have hi14':(i:Int)<14:=zo;refine Zf (zi hsg (zi hge (zi hi14' (zi @Int.natCast_nonneg @Nat.mul_one)))) ?_;rw[hf]
     show _=encFk ((signsL.getD i []).length,if(signsL.getD i []).length=0 then 0 else 4)
     rw[if_neg hi0]<;>rfl
theorem Zfe(G:Nat->V)(hE:GExp G)(s:List UInt8)(hs:s.length<1000000000000000):Spec Tryz.prog G 142 [.str s] Zk (λv _=>v=.int .u8 (isP s)):=by
 have hG:=hE.ok;refine Zo 0 19 [.tmp 2] Tryz.func142 λX=>?_;refine Z1 ?_;refine Z1 ?_;refine Zn hG ?_ (s:=(Zll G hE s hs))
 have hI:isP s=if(Zpa s).1≠s.length\/(Zpa s).1>64 then 0 else(Zpa s).2:=rfl
 generalize Zpa s=p at hI⊢;obtain⟨n,k⟩:=p;refine Zsf @encFk.eq_1 ?_;refine Z8 ?_
 by_cases h1:n=s.length
 have e1:((n:Int) != (s.length:Int))=false:=by simp[h1]
 refine Z1f e1 ?_;refine Zj rfl (λh2=>?_) (λh2=>?_)
 have h2:n>64:=by have h2:decide ((n:Int)>64)=true:=h2;simp at h2;omega
 refine Z ?_
 rw[hI,if_pos (.inr h2)]<;>rfl
 have h2:¬ n>64:=by have h2:decide ((n:Int)>64)=false:=h2;simp at h2;omega
 refine Z ?_;rw[hI,if_neg (λh=>h.elim (λh=>h h1) h2)]
 have e1:((n:Int) != (s.length:Int))=true:=by
  have h1:¬ ((n:Int)=(s.length:Int)):=zo;simpa using h1
 refine Z1f e1 ?_;refine Zj rfl (λh2=>?_) (λh2=>?_);refine Z ?_
 rw[hI,if_pos (.inl h1)]<;>rfl
 cases h2
def Zyb(t:Tk):V:=.agg [.int .u8 t.kind,.str t.text,.int .i64 t.pos]
theorem Ztl(t:Tk):(Zyb t).cells.length=3:=rfl
def encTks(c:Col)(l:List Tk):V:=Za c 3 Zyb (Zt l)
def encTok(r:List Tk×Int×Int):V:=.tuple [encTks .new r.1,.int .i64 r.2.1,.int .i64 r.2.2]
theorem Z8p:∀ (f:Nat) (s:List UInt8) (i:Nat) (acc:List Tk),(Zid f s i acc).1.length<=acc.length+(s.length-i)
 |0,s,i,acc=>by rw[Zid];exact Nat.le_add_right _ _
 |f+1,s,i,acc=>by
  rw[Zid]
  split
  split
  exact Nat.zero_le _;rename_i h1 h2;have:=Z8p f s (i+(Zpa (s.drop i)).1+blk (s.drop (i+(Zpa (s.drop i)).1))) (acc++[⟨(Zpa (s.drop i)).2,(s.drop i).take (Zpa (s.drop i)).1,i⟩]);simp only[List.length_append,List.length_singleton]at this;omega;exact Nat.le_add_right _ _
theorem Zdd(G:Nat->V)(hE:GExp G)(s:List UInt8)(hs:s.length<100000):Spec Tryz.prog G 172 [.str s] Zk (λv _=>v=encTok (Zja s)):=by
 have hG:=hE.ok;refine Zo 0 52 [.tmp 2,.tmp 3,.tmp 4] Tryz.func172 λX=>?_;refine Z1 ?_;refine Z1 ?_
 have hT:Zja s=if s.length>65536 then([],0,3)else Zid (s.length+1) s (blk s) []:=rfl
 refine Zj rfl (λh2=>?_) (λh2=>?_)
 have h2:s.length>65536:=by have h2:decide ((s.length:Int)>65536)=true:=h2;simp at h2;omega
 refine Z ?_
 rw[hT,if_pos h2]<;>rfl
 have h2:¬ s.length>65536:=by have h2:decide ((s.length:Int)>65536)=false:=h2;simp at h2;omega
 rw[if_neg h2]at hT;refine Z1 ?_;refine Zc hG ?_ (s:=(Zjj G hG s zo));have hb:=Z08 s;refine AW.block ?_
 refine Zqd (fun(x:Nat×Nat×List Tk)=>st [(0,.str s),(2,grown 47 x.1 3 x.2.2),(3,.int .i64 x.2.1)] [(47,Ztb x.1 Zyb x.2.2)]) (λx=>x.2.1<=s.length/\x.2.2.length<=x.2.1/\Zja s=Zid (s.length+1) s x.2.1 x.2.2) (λx=>s.length-x.2.1) (0,blk s,[]) ⟨hb,Nat.zero_le _,hT⟩
  (Zb zp zp) ?_
 rintro⟨gx,i,acc⟩ ⟨hi,hal,hR⟩ L2 hL2;have hi:i<=s.length:=hi;have hal:acc.length<=i:=hal;have hR:Zja s=Zid (s.length+1) s i acc:=hR;refine Z1 ?_;refine Zj rfl (λh4=>?_) (λh4=>?_);have hi1:i<s.length:=zu h4;refine Z0 ?_;refine Z8 ?_;refine AW.block ?_;have hfl:=Zx7 (s.drop i);rw[List.length_drop]at hfl;have hst:=Zk0 (f:=s.length+1) (acc:=acc) hi1 zo;have hbd:=Zi5 (f:=s.length+1) (acc:=acc) hi1 zo;refine Z1f (zi hi @Nat.le_refl) ?_;refine Zn hG ?_ (s:=(Zll G hE (s.drop i) zO));generalize Zpa (s.drop i)=p at hfl hst hbd⊢;obtain⟨n,k⟩:=p;simp only at hfl hst hbd;refine Zsf @encFk.eq_1 ?_;refine Z8 ?_
 by_cases hn0:n=0
 have e0:((n:Int)==0)=true:=by simp[hn0]
 refine Z1f e0 ?_;refine Zj rfl (λh9=>?_) (λh9=>?_);refine Z ?_
 rw[hR,hbd (.inl hn0)]<;>rfl
 cases h9
 have e0:((n:Int)==0)=false:=by
  rw[beq_eq_false_iff_ne];omega
 refine Z1f e0 ?_;refine Zj rfl (λh9=>?_) (λh9=>?_)
 have h9:n>64:=by have h9:decide ((n:Int)>64)=true:=h9;simp at h9;omega
 refine Z ?_
 rw[hR,hbd (.inr h9)]<;>rfl
 have h9:¬ n>64:=by have h9:decide ((n:Int)>64)=false:=h9;simp at h9;omega
 refine Z0 ?_;have hst:=hst (λh=>h.elim hn0 h9)
 have hw:IntKind.i64.wrap ((i:Int)+(n:Int))=((i+n:Nat):Int):=by rw[w64 zo zo];omega
 have hin:i<=i+n:=zo;have hin2:i+n<=s.length:=zo;have hsub:i+n-i=n:=zo;refine Z1f (zi hw (zi hin (zi hin2 hsub))) ?_;intro g46;refine Zvb (f:=Zyb) (l:=acc) (l2:=[⟨k,(s.drop i).take n,i⟩]) (g:=gx) Ztl rfl rfl rfl zp (Zca zo zO) λg47=>?_;refine Zs ?_;refine Z1f hw ?_;have hbl:=Z08 (s.drop (i+n));rw[List.length_drop]at hbl
 have hw2:IntKind.i64.wrap (((i+n:Nat):Int)+(blk (s.drop (i+n)):Nat))=((i+n+blk (s.drop (i+n)):Nat):Int):=by rw[w64 zo zo];omega
 refine Z1f (zi hin2 @Nat.le_refl) ?_;refine Zc hG ?_ (s:=(Zjj G hG (s.drop (i+n)) zO));refine hL2 _ ⟨(g47,i+n+blk (s.drop (i+n)),acc++[⟨k,(s.drop i).take n,i⟩]),?_,⟨?_,?_,?_⟩,Zb (by refine Zs ?_;exact congrArg _ hw2) zp⟩
 show s.length-(i+n+blk (s.drop (i+n)))<s.length-i
 omega
 show i+n+blk (s.drop (i+n))<=s.length
 omega
 show(acc++[_]).length<=i+n+blk (s.drop (i+n))
 simp only[List.length_append,List.length_singleton];omega;rw[hR];exact hst;have hi1:¬ i<s.length:=zu h4;refine Z0 ?_;refine AW.weak (Zx (λo=>o==47) (l:=[(2,encTks .new acc)]) (m:=[]) ?_ trivial) ?_;refine Zs ?_;exact Zpd rfl rfl Ztl;refine Z ?_
 rw[hR,Zh5 hi1]<;>rfl
end Go.Hs
end

section
namespace Go.Hs
open Go
structure XN where
 op:Int
 num:Int
 name:List UInt8
 a:Int
 b:Int
 c:Int
 deriving DecidableEq,Inhabited
structure Sg where
 text:List UInt8
 level:Int
 parts:Int
 deriving DecidableEq,Inhabited
def tabL:List Sg:=[⟨[],0,0⟩,⟨[],10,0⟩,⟨[],10,0⟩,⟨[116,114,117,101],10,0⟩,⟨[102,97,108,115,101],10,0⟩,⟨[45],9,1⟩,⟨[110,111,116],9,1⟩,
 ⟨[42],8,2⟩,⟨[100,105,118],8,2⟩,⟨[109,111,100],8,2⟩,⟨[43],7,2⟩,⟨[45],7,2⟩,⟨[60],6,2⟩,⟨[60,61],6,2⟩,⟨[62],6,2⟩,⟨[62,61],6,2⟩,⟨[61],5,2⟩,⟨[60,62],5,2⟩,
 ⟨[97,110,100],4,2⟩,⟨[111,114],3,2⟩,⟨[120,111,114],2,2⟩,⟨[105,109,112,108,105,101,115],1,2⟩,⟨[105,102],10,3⟩]
def sgIs(t:List UInt8)(p:Int)(s:Sg):Bool:=s.text==t&&s.parts==p && !(s.text==[])
def ofI(t:List UInt8)(p:Int):Option Nat:=tabL.findIdx? (sgIs t p)
def ofP(t:List UInt8)(p:Int):Nat×Bool:=match ofI t p with|some i=>(i,true)|none=>(0,false)
def lvl(op:Nat):Int:=(tabL.getD op ⟨[],0,0⟩).level
theorem Zjz{t:List UInt8}{p:Int}{i:Nat}(h:ofI t p=some i):∃ s,tabL[i]?=some s/\s.text=t/\s.parts=p/\t≠[]:=by
 obtain⟨h1,h2,_⟩:=List.findIdx?_eq_some_iff_getElem.1 h;refine⟨tabL[i],List.getElem?_eq_getElem h1,?_⟩;unfold sgIs at h2;simp only[Bool.and_eq_true,beq_iff_eq,Bool.not_eq_true',beq_eq_false_iff_ne]at h2;exact⟨h2.1.1,h2.1.2,by rw[<- h2.1.1];exact h2.2⟩
theorem Ztba{t:List UInt8}{i:Nat}(h:ofI t 0=some i):t=[116,114,117,101]/\i=3\/t=[102,97,108,115,101]/\i=4:=by
 obtain⟨s,h1,h2,h3,h4⟩:=Zjz h
 have hi:i<23:=by rw[List.getElem?_eq_some_iff]at h1;exact h1.1
 have key:∀ i,i<23->∀ s,tabL[i]?=some s->s.parts=0->s.text≠[]->s.text=[116,114,117,101]/\i=3\/s.text=[102,97,108,115,101]/\i=4:=by
  intro i hi s h1 h3
  have:((List.range 23).all λi=>match tabL[i]? with|some s => !(s.parts==0)||s.text==[]||(s.text==[116,114,117,101]&&i==3)||(s.text==[102,97,108,115,101]&&i==4)|none=>true)=true:=by decide +kernel
  have:=List.all_eq_true.1 this i (List.mem_range.2 hi);intro h4;rw[h1]at this;simp only[h3,Bool.or_eq_true,Bool.and_eq_true,beq_iff_eq,h4,or_false]at this;simpa using this
 rw[<- h2];exact key i hi s h1 h3 (by rw[h2];exact h4)
theorem Zr6{t:List UInt8}{i:Nat}(h:ofI t 2=some i):7<=i/\i<=21/\1<=lvl i/\lvl i<=8/\isP t≠0:=by
 obtain⟨s,h1,h2,h3,_⟩:=Zjz h
 have hi:i<23:=by rw[List.getElem?_eq_some_iff]at h1;exact h1.1
 have key:∀ i,i<23->(tabL[i]?.map (·.parts))=some 2->7<=i/\i<=21/\1<=lvl i/\lvl i<=8/\(tabL[i]?.map λs=>isP s.text)≠some 0:=by decide +kernel
 have:=key i hi (by rw[h1];simp[h3]);rw[h1]at this;rw[<- h2];simpa using this
def Zea(l:List Tk)(i:Nat):Tk:=match l[i]? with
 |some t=>if(isP t.text:Int)=t.kind then t else⟨0,[],0⟩
 |none=>⟨0,[],0⟩
theorem Zvo(l:List Tk)(i:Nat):(isP (Zea l i).text:Int)=(Zea l i).kind:=by
 unfold Zea
 split
 split
 assumption
 rfl;rfl
theorem Zyh{l:List Tk}{i:Nat}(h:(Zea l i).kind≠0):i<l.length:=by
 rw[<- Nat.not_le];intro h2;apply h;unfold Zea;rw[List.getElem?_eq_none h2]
structure RS where
 i:Nat
 nodes:List XN
 e:Int
 deriving DecidableEq,Inhabited
def RS.put(r:RS)(n:XN):RS:={ r with nodes:=r.nodes++[n] }
def RS.last(r:RS):Int:=(r.nodes.length:Int)-1
def RS.adv(r:RS):RS:={ r with i:=r.i+1 }
def RS.err(r:RS)(e:Int):RS:={ r with e:=e }
@[simp] theorem RS.put_i(r:RS)(n:XN):(r.put n).i=r.i:=rfl
@[simp] theorem RS.adv_i(r:RS):r.adv.i=r.i+1:=rfl
@[simp] theorem RS.err_i(r:RS)(e:Int):(r.err e).i=r.i:=rfl
abbrev Inner:=Int->RS->Bool×RS
def andThen(x:Bool×RS)(k:RS->Bool×RS):Bool×RS:=if x.1 then k x.2 else(false,x.2)
theorem Zlc(r:RS)(k:RS->Bool×RS):andThen (true,r) k=k r:=rfl
theorem Zqc(r:RS)(k:RS->Bool×RS):andThen (false,r) k=(false,r):=rfl
def Zlj(l:List Tk)(w:List UInt8)(r:RS):Bool×RS:=if(Zea l r.i).kind=0\/(Zea l r.i).text≠w then(false,r.err 80)else(true,r.adv)
def Zxo(r:RS)(op num:Int)(name:List UInt8):Bool×RS:=(true,r.adv.put ⟨op,num,name,-1,-1,-1⟩)
def Zkf(t:List UInt8):List UInt8:=if t.dropWhile (· == 48)=[]then[48]else t.dropWhile (· == 48)
def Z5e(r:RS)(t:List UInt8):Bool×RS:=if(Zbd (Zkf t)).2≠0 then(false,r.err (Zbd (Zkf t)).2)else Zxo r 1 (Zbd (Zkf t)).1 []
def wIf:List UInt8:=[105,102]
def Zg0:List UInt8:=[116,104,101,110]
def Zh0:List UInt8:=[101,108,115,101]
def Zlk:List UInt8:=[101,110,100,105,102]
def Z3b(l:List Tk)(inner:Inner)(r:RS):Bool×RS:=
 andThen (Zlj l wIf r) λr1=>andThen (inner 1 r1) λa=>andThen (Zlj l Zg0 a) λr2=>andThen (inner 1 r2) λb=>
 andThen (Zlj l Zh0 b) λr3=>andThen (inner 1 r3) λc=>andThen (Zlj l Zlk c) λr4=>(true,r4.put ⟨22,0,[],a.last,b.last,c.last⟩)
def Z9f(l:List Tk)(inner:Inner)(r:RS):Bool×RS:=
 if(Zea l r.i).kind=1 then Z5e r (Zea l r.i).text
 else if(Zea l r.i).kind=2 then Zxo r 2 0 (Zea l r.i).text
 else if(Zea l r.i).kind=0 then(false,r.err 80)
 else if(ofP (Zea l r.i).text 1).2 then andThen (inner 9 r.adv) λa=>(true,a.put ⟨(ofP (Zea l r.i).text 1).1,0,[],a.last,-1,-1⟩)
 else if(Zea l r.i).text=[40]then andThen (inner 1 r.adv) (Zlj l [41])
 else if(Zea l r.i).text=wIf then Z3b l inner r
 else if(ofP (Zea l r.i).text 0).2/\(Zea l r.i).kind=3 then Zxo r (ofP (Zea l r.i).text 0).1 0 []
 else(false,r.err 80)
def Ziz(l:List Tk)(i:Nat):Option Nat:=if(Zea l i).kind=0 then none else ofI (Zea l i).text 2
def Zil(l:List Tk)(inner:Inner)(n:Int):Nat->RS->Bool×RS
 |0,r=>(true,r)
 |m+1,r=>match Ziz l r.i with
  |none=>(true,r)
  |some op=>if lvl op<n then(true,r)else andThen (inner (lvl op+1) r.adv) λa=>Zil l inner n m (a.put ⟨op,0,[],r.last,a.last,-1⟩)
def Zva(l:List Tk):Nat->Inner
 |0,_,r=>(false,r)
 |f+1,n,r=>andThen (Z9f l (Zva l f) r) (Zil l (Zva l f) n (l.length+1))
theorem Zq6{l:List Tk}{i op:Nat}(h:Ziz l i=some op):i<l.length:=by
 unfold Ziz at h
 split at h
 cases h;exact Zyh (by assumption)
theorem Zrba{l:List Tk}{i:Nat}:Ziz l i=ofI (Zea l i).text 2:=by
 unfold Ziz
 split
 .rename_i h
  cases ho:ofI (Zea l i).text 2 with
  |none=>rfl
  |some op=>
   have h1:=(Zr6 ho).2.2.2.2;have h2:=Zvo l i;rw[h]at h2;omega
 rfl
theorem op_pos{l:List Tk}{i op:Nat}(h:Ziz l i=some op):7<=op/\op<=21/\1<=lvl op/\lvl op<=8:=by
 rw[Zrba]at h;obtain⟨h1,h2,h3,h4,_⟩:=Zr6 h;exact⟨h1,h2,h3,h4⟩
theorem isP_dig{t:List UInt8}(h:isP t=1):t≠[]/\t.all Z2a=true:=by
 rw[Zh7]at h
 split at h
 cases h
 .match t with
  |[]=>cases h
  |c::r=>
   refine⟨by simp,?_⟩
   rcases Z7z c with hc|⟨_,hc⟩|⟨hc,_⟩
   rw[Zxy hc]at h
   split at h
   assumption
   cases h;rw[Zwy hc]at h
   split at h
   split at h<;>cases h
   cases h;rw[Z0j hc]at h
   split at h<;>cases h
end Go.Hs
end

section
namespace Go.Hs
structure Bal(l:List Tk)(k:Nat)(r r':RS):Prop where
 up:r.i<=r'.i
 inn:r.i<=l.length->r'.i<=l.length
 cnt:r'.nodes.length+r.i+k<=r.nodes.length+r'.i
theorem Bal.refl(l:List Tk)(r:RS):Bal l 0 r r:=⟨Nat.le_refl _,id,Nat.le_refl _⟩
theorem Bal.trans{l:List Tk}{k k':Nat}{r r' r'':RS}(h:Bal l k r r')(h':Bal l k' r' r''):Bal l (k+k') r r'':=
 ⟨Nat.le_trans h.up h'.up,λx=>h'.inn (h.inn x),by have:=h.cnt;have:=h'.cnt;omega⟩
theorem Bal.weak{l:List Tk}{k k':Nat}{r r':RS}(h:Bal l k r r')(hk:k'<=k):Bal l k' r r':=⟨h.up,h.inn,by have:=h.cnt;omega⟩
theorem Bal.adv{l:List Tk}{r:RS}(h:r.i<l.length):Bal l 1 r r.adv:=⟨Nat.le_succ _,λ_=>h,by show r.nodes.length+r.i+1<=r.nodes.length+(r.i+1);omega⟩
theorem Bal.err(l:List Tk)(r:RS)(e:Int):Bal l 0 r (r.err e):=⟨Nat.le_refl _,id,Nat.le_refl _⟩
theorem Bal.put{l:List Tk}{k:Nat}{r r':RS}(h:Bal l (k+1) r r')(n:XN):Bal l k r (r'.put n):=
 ⟨h.up,h.inn,by have:=h.cnt;show(r'.nodes++[n]).length+r.i+k<=_;rw[List.length_append,List.length_singleton];show _<=r.nodes.length+r'.i;omega⟩
def Bals(l:List Tk)(inner:Inner):Prop:=∀ n r,Bal l 0 r (inner n r).2
theorem Zsc{l:List Tk}{r:RS}{x:Bool×RS}{k:RS->Bool×RS}(h:Bal l 0 r x.2)(hk:x.1=true->Bal l 0 r (k x.2).2):Bal l 0 r (andThen x k).2:=by
 obtain⟨b,r1⟩:=x;cases b;exact h;exact hk rfl
theorem Z8e(l:List Tk)(w:List UInt8)(r:RS):Bal l 0 r (Zlj l w r).2/\((Zlj l w r).1=true->Bal l 1 r (Zlj l w r).2):=by
 unfold Zlj
 split
 exact⟨Bal.err _ _ _,λh=>by cases h⟩;rename_i h;have hk:(Zea l r.i).kind≠0:=λhh=>h (.inl hh);have:=Bal.adv (Zyh hk);exact⟨this.weak (Nat.zero_le _),λ_=>this⟩
theorem Zkl{l:List Tk}{r:RS}(h:(Zea l r.i).kind≠0)(op num:Int)(name:List UInt8):Bal l 0 r (Zxo r op num name).2:=(Bal.adv (Zyh h)).put _
theorem Z7u{l:List Tk}{r:RS}(h:(Zea l r.i).kind≠0)(t:List UInt8):Bal l 0 r (Z5e r t).2:=by
 unfold Z5e
 split
 exact Bal.err _ _ _;exact Zkl h _ _ _
theorem Zgp{l:List Tk}{inner:Inner}(h:Bals l inner)(r:RS):Bal l 0 r (Z3b l inner r).2:=by
 unfold Z3b;have e1:=Z8e l wIf r;refine Zsc e1.1 λh1=>?_;have b1:=e1.2 h1;generalize(Zlj l wIf r).2=r1 at b1⊢;have b2:=b1.trans (h 1 r1);refine Zsc (b2.weak (Nat.zero_le _)) λ_=>?_;generalize(inner 1 r1).2=a at b2⊢;have e2:=Z8e l Zg0 a;refine Zsc ((b2.trans e2.1).weak (Nat.zero_le _)) λh2=>?_;have b3:=b2.trans (e2.2 h2);generalize(Zlj l Zg0 a).2=r2 at b3⊢;have b4:=b3.trans (h 1 r2);refine Zsc (b4.weak (Nat.zero_le _)) λ_=>?_;generalize(inner 1 r2).2=b at b4⊢;have e3:=Z8e l Zh0 b;refine Zsc ((b4.trans e3.1).weak (Nat.zero_le _)) λh3=>?_;have b5:=b4.trans (e3.2 h3);generalize(Zlj l Zh0 b).2=r3 at b5⊢;have b6:=b5.trans (h 1 r3);refine Zsc (b6.weak (Nat.zero_le _)) λ_=>?_;generalize(inner 1 r3).2=c at b6⊢;have e4:=Z8e l Zlk c;refine Zsc ((b6.trans e4.1).weak (Nat.zero_le _)) λh4=>?_;have b7:=b6.trans (e4.2 h4);exact(b7.put _).weak (Nat.zero_le _)
theorem Z3n{l:List Tk}{inner:Inner}(h:Bals l inner)(r:RS):Bal l 0 r (Z9f l inner r).2:=by
 unfold Z9f
 split
 rename_i hk;exact Z7u (by rw[hk];decide) _
 split
 rename_i hk;exact Zkl (by rw[hk];decide) _ _ _
 split
 exact Bal.err _ _ _;rename_i h0;have ba:=Bal.adv (Zyh h0)
 split
 have b1:=ba.trans (h 9 r.adv);exact Zsc (b1.weak (Nat.zero_le _)) λ_=>b1.put _
 split
 have b1:=ba.trans (h 1 r.adv);exact Zsc (b1.weak (Nat.zero_le _)) λ_=>(b1.trans (Z8e l [41] _).1).weak (Nat.zero_le _)
 split
 exact Zgp h r
 split
 exact Zkl h0 _ _ _;exact Bal.err _ _ _
theorem Zwq{l:List Tk}{inner:Inner}(h:Bals l inner)(n:Int):∀ (m:Nat) (r:RS),Bal l 0 r (Zil l inner n m r).2
 |0,r=>Bal.refl l r
 |m+1,r=>by
  rw[Zil]
  cases ho:Ziz l r.i with
  |none=>exact Bal.refl l r
  |some op=>
   simp only
   split
   exact Bal.refl l r;have b1:=(Bal.adv (Zq6 ho)).trans (h (lvl op+1) r.adv);exact Zsc (b1.weak (Nat.zero_le _)) λ_=>((b1.put _).trans (Zwq h n m _)).weak (Nat.zero_le _)
theorem Z4c(l:List Tk):∀ f,Bals l (Zva l f)
 |0=>λ_ r=>Bal.refl l r
 |f+1=>λn r=>by
  rw[Zva];have b1:=Z3n (Z4c l f) r;exact Zsc b1 λ_=>(b1.trans (Zwq (Z4c l f) n _ _)).weak (Nat.zero_le _)
def Zb0(l:List Tk)(r:RS):Prop:=r.i<=l.length/\r.nodes.length<=r.i
theorem Bal.ok{l:List Tk}{k:Nat}{r r':RS}(h:Bal l k r r')(hr:Zb0 l r):Zb0 l r':=⟨h.inn hr.1,by have:=h.cnt;have:=h.up;have:=hr.2;omega⟩
inductive X where
 |leaf (op num:Int) (name:List UInt8)
 |un (op:Int) (a:X)
 |bin (op:Int) (a b:X)
 |ite (a b c:X)
 deriving DecidableEq,Inhabited
namespace X
def size:X->Nat
 |leaf .. => 1
 |un _ a=>a.size+1
 |bin _ a b=>a.size+b.size+1
 |ite a b c=>a.size+b.size+c.size+1
def depth:X->Nat
 |leaf .. => 1
 |un _ a=>a.depth+1
 |bin _ a b=>max a.depth b.depth+1
 |ite a b c=>max (max a.depth b.depth) c.depth+1
end X
def Zhf(n:XN):Bool:=
 if n.op<1\/n.op>22\/n.num<0 then false else if n.op=2 then n.num==0&&isP n.name==2 else n.name==[]&&(n.op==1||n.num==0)
namespace X
def ok:X->Bool
 |leaf op num name=>Zhf ⟨op,num,name,-1,-1,-1⟩&&decide (op<=4)
 |un op a=>decide (5<=op)&&decide (op<=6)&&a.ok
 |bin op a b=>decide (7<=op)&&decide (op<=21)&&a.ok&&b.ok
 |ite a b c=>a.ok&&b.ok&&c.ok
def row:X->Int->List XN
 |leaf op num name,_=>[⟨op,num,name,-1,-1,-1⟩]
 |un op a,k=>a.row k++[⟨op,0,[],k+a.size-1,-1,-1⟩]
 |bin op a b,k=>a.row k++b.row (k+a.size)++[⟨op,0,[],k+a.size-1,k+a.size+b.size-1,-1⟩]
 |ite a b c,k=>a.row k++b.row (k+a.size)++c.row (k+a.size+b.size)++[⟨22,0,[],k+a.size-1,k+a.size+b.size-1,k+a.size+b.size+c.size-1⟩]
theorem row_len:∀ (x:X) (k:Int),(x.row k).length=x.size
 |leaf ..,_=>rfl
 |un _ a,k=>by simp[row,size,row_len a]
 |bin _ a b,k=>by simp[row,size,row_len a,row_len b];omega
 |ite a b c,k=>by simp[row,size,row_len a,row_len b,row_len c];omega
theorem size_pos:∀ x:X,0<x.size
 |leaf .. => by simp[size]
 |un .. => by simp[size]
 |bin .. => by simp[size]
 |ite .. => by simp[size]
def top:X->Int->XN
 |leaf op num name,_=>⟨op,num,name,-1,-1,-1⟩
 |un op a,k=>⟨op,0,[],k+a.size-1,-1,-1⟩
 |bin op a b,k=>⟨op,0,[],k+a.size-1,k+a.size+b.size-1,-1⟩
 |ite a b c,k=>⟨22,0,[],k+a.size-1,k+a.size+b.size-1,k+a.size+b.size+c.size-1⟩
end X
theorem Zcu{op:Int}(h:3<=op/\op<=22)(a b c:Int):Zhf ⟨op,0,[],a,b,c⟩=true:=by
 unfold Zhf;rw[if_neg (by simp;omega),if_neg (by simp;omega)];simp
theorem Z79{n:XN}(h:Zhf n=true)(h3:n.op≠1):n.num=0/\(n.op≠2->n.name=[])/\1<=n.op/\n.op<=22:=by
 unfold Zhf at h
 split at h
 cases h;rename_i h0;simp only[not_or,Int.not_lt]at h0
 split at h
 rename_i h2;simp only[Bool.and_eq_true,beq_iff_eq]at h;exact⟨h.1,λhh=>absurd h2 hh,by omega,by omega⟩;simp only[Bool.and_eq_true,beq_iff_eq,Bool.or_eq_true]at h;exact⟨h.2.resolve_left h3,λ_=>h.1,by omega,by omega⟩
theorem Zgi{n:XN}(h:Zhf n=true):1<=n.op/\n.op<=22:=by
 unfold Zhf at h
 split at h
 cases h;rename_i h0;simp only[not_or,Int.not_lt]at h0;omega
def Zz(op:Int):Nat:=if op<=4 then 0 else if op<=6 then 1 else if op<=21 then 2 else 3
def Zlb(l:List (Int×Int)):List Int:=[(l.map (·.1)).getD 0 (-1),(l.map (·.1)).getD 1 (-1),(l.map (·.1)).getD 2 (-1)]
def Zic(l:List (Int×Int)):Int:=l.foldl (λd p=>max d p.2) 0
def Zzi(i:Int)(n:XN)(opn:List (Int×Int)):Option (List (Int×Int)):=
 if Zhf n=false then none else if opn.length<Zz n.op then none
 else if Zlb (opn.drop (opn.length-Zz n.op))≠[n.a,n.b,n.c]then none
 else some (opn.take (opn.length-Zz n.op)++[(i,Zic (opn.drop (opn.length-Zz n.op))+1)])
def Z5h:List XN->Int->List (Int×Int)->Option (List (Int×Int))
 |[],_,opn=>some opn
 |n::r,i,opn=>match Zzi i n opn with
  |some o=>Z5h r (i+1) o
  |none=>none
def Zpc(l:List XN):Int:=match Z5h l 0 []with
 |some [x]=>x.2
 |_=>0
def Zqm:Int->List X->List XN
 |_,[]=>[]
 |k,x::r=>x.row k++Zqm (k+x.size) r
def Zxd(F:List X):Nat:=(F.map X.size).sum
def Zya:Int->List X->List (Int×Int)
 |_,[]=>[]
 |k,x::r=>(k+x.size-1,(x.depth:Int))::Zya (k+x.size) r
theorem Zli(x:X)(r:List X):Zxd (x::r)=x.size+Zxd r:=by simp[Zxd]
theorem Zw5(a b:List X):Zxd (a++b)=Zxd a+Zxd b:=by simp[Zxd]
theorem Zlo:∀ (a b:List X) (k:Int),Zqm k (a++b)=Zqm k a++Zqm (k+Zxd a) b
 |[],b,k=>by simp[Zqm,Zxd]
 |x::a,b,k=>by
  rw[List.cons_append,Zqm,Zqm,Zlo a b,List.append_assoc,Zli]
  congr 3;omega
theorem Zgg:∀ (a b:List X) (k:Int),Zya k (a++b)=Zya k a++Zya (k+Zxd a) b
 |[],b,k=>by simp[Zya,Zxd]
 |x::a,b,k=>by
  rw[List.cons_append,Zya,Zya,Zgg a b,List.cons_append,Zli]
  congr 3;omega
theorem Zfg:∀ (F:List X) (k:Int),(Zya k F).length=F.length
 |[],_=>rfl
 |x::r,k=>by simp[Zya,Zfg r]
theorem Z7j:∀ (F:List X) (k:Int),(Zqm k F).length=Zxd F
 |[],_=>rfl
 |x::r,k=>by rw[Zqm,List.length_append,X.row_len,Z7j r,Zli]
theorem Zt0{F:List X}{p:Nat}(h:p<=F.length):∃ A B,F=A++B/\B.length=p:=⟨F.take (F.length-p),F.drop (F.length-p),(List.take_append_drop _ _).symm,by simp;omega⟩
theorem Zar{F:List X}{n:XN}{o:List (Int×Int)}(hF:∀ x∈F,x.ok=true)(h:Zzi (Zxd F) n (Zya 0 F)=some o):
  ∃ F',(∀ x∈F',x.ok=true)/\Zqm 0 F'=Zqm 0 F++[n]/\o=Zya 0 F':=by
 unfold Zzi at h;rw[Zfg]at h
 split at h
 cases h;rename_i hw
 have hw:Zhf n=true:=by simpa using hw
 have hrg:=Zgi hw
 split at h
 cases h;rename_i hlen;obtain⟨A,B,rfl,hB⟩:=Zt0 (F:=F) (p:=Zz n.op) (by omega)
 have hAl:(A++B).length-Zz n.op=A.length:=by rw[List.length_append,hB];omega
 have hdrop:(Zya 0 (A++B)).drop A.length=Zya (Zxd A) B:=by
  rw[Zgg,List.drop_left' (Zfg _ _),Int.zero_add]
 have htake:(Zya 0 (A++B)).take A.length=Zya 0 A:=by
  rw[Zgg,List.take_left' (Zfg _ _)]
 rw[hAl,hdrop,htake]at h
 split at h
 cases h;rename_i hpl;simp only[ne_eq,Decidable.not_not]at hpl;simp only[Option.some.injEq]at h;have hokA:∀ x∈A,x.ok=true:=λx hx=>hF x (by simp[hx])
 have fin:∀ x:X,x.ok=true->x.row (Zxd A)=Zqm (Zxd A) B++[n]->(x.depth:Int)=Zic (Zya (Zxd A) B)+1 ->
   ∃ F',(∀ x∈F',x.ok=true)/\Zqm 0 F'=Zqm 0 (A++B)++[n]/\o=Zya 0 F':=by
  intro x hx hr hd;refine⟨A++[x],λy hy=>?_,?_,?_⟩
  rcases List.mem_append.1 hy with h1|h1
  exact hokA y h1;rw[List.mem_singleton.1 h1];exact hx;rw[Zlo,Zlo,List.append_assoc,Int.zero_add,<- hr];simp[Zqm];rw[<- h,Zgg,Zya,Zya,hd];have h1:(x.row (Zxd A)).length=x.size:=X.row_len _ _;rw[hr,List.length_append,Z7j,List.length_singleton]at h1;rw[Zw5]
  congr 4
  omega
 obtain⟨op,num,name,a,b,c⟩:=n;simp only at hB hpl hrg;unfold Zz at hB
 split at hB
 rename_i h4;obtain rfl:B=[]:=List.length_eq_zero_iff.1 hB;simp only[Zlb,Zya,List.map_nil,List.getD_nil,List.cons.injEq,and_true]at hpl;obtain⟨rfl,rfl,rfl⟩:=hpl;exact fin (.leaf op num name) (by unfold X.ok;rw[hw];simp;omega) rfl rfl;rename_i h4;have hn:=Z79 hw (show op≠1 by omega);simp only at hn;obtain⟨rfl,hnm,_⟩:=hn;obtain rfl:=hnm (by omega)
 split at hB
 rename_i h6;obtain⟨x,rfl⟩:=List.length_eq_one_iff.1 hB;simp only[Zlb,Zya,List.map_cons,List.map_nil,List.getD_cons_zero,List.getD_cons_succ,List.getD_nil,List.cons.injEq,and_true]at hpl;obtain⟨rfl,rfl,rfl⟩:=hpl;refine fin (.un op x) (by unfold X.ok;rw[hF x (by simp)];simp;omega) ?_ ?_;simp[X.row,Zqm];simp[X.depth,Zya,Zic];rename_i h6
 split at hB
 rename_i h21
 obtain⟨x,y,rfl⟩:∃ x y,B=[x,y]:=by
  match B,hB with
  |[x,y],_=>exact⟨x,y,rfl⟩
 simp only[Zlb,Zya,List.map_cons,List.map_nil,List.getD_cons_zero,List.getD_cons_succ,List.getD_nil,List.cons.injEq,and_true]at hpl;obtain⟨rfl,rfl,rfl⟩:=hpl;refine fin (.bin op x y) (by unfold X.ok;rw[hF x (by simp),hF y (by simp)];simp;omega) ?_ ?_;simp[X.row,Zqm];simp[X.depth,Zya,Zic];omega;rename_i h21
 obtain⟨x,y,z,rfl⟩:∃ x y z,B=[x,y,z]:=by
  match B,hB with
  |[x,y,z],_=>exact⟨x,y,z,rfl⟩
 simp only[Zlb,Zya,List.map_cons,List.map_nil,List.getD_cons_zero,List.getD_cons_succ,List.cons.injEq,and_true]at hpl;obtain⟨rfl,rfl,rfl⟩:=hpl
 obtain rfl:op=22:=by omega
 refine fin (.ite x y z) (by unfold X.ok;rw[hF x (by simp),hF y (by simp),hF z (by simp)];rfl) ?_ ?_;simp[X.row,Zqm];simp[X.depth,Zya,Zic];omega
theorem Zzn:∀ (l:List XN) (F:List X) (opn:List (Int×Int)),(∀ x∈F,x.ok=true)->Z5h l (Zxd F) (Zya 0 F)=some opn ->
  ∃ F',(∀ x∈F',x.ok=true)/\Zqm 0 F'=Zqm 0 F++l/\opn=Zya 0 F'
 |[],F,opn,hF,h=>⟨F,hF,by simp,by simpa[Z5h]using h.symm⟩
 |n::r,F,opn,hF,h=>by
  rw[Z5h]at h
  cases hs:Zzi (Zxd F) n (Zya 0 F)with
  |none=>rw[hs]at h;cases h
  |some o=>
   rw[hs]at h;obtain⟨F1,h1,h2,rfl⟩:=Zar hF hs
   have hsz:(Zxd F:Int)+1=Zxd F1:=by
    have:=congrArg List.length h2;rw[List.length_append,Z7j,Z7j,List.length_singleton]at this;omega
   simp only at h;rw[hsz]at h;obtain⟨F',h3,h4,h5⟩:=Zzn r F1 opn h1 h;exact⟨F',h3,by rw[h4,h2];simp,h5⟩
theorem Zm2{l:List XN}(h:Zpc l≠0):∃ x:X,x.ok=true/\l=x.row 0:=by
 unfold Zpc at h
 split at h
 .rename_i y hy
  obtain⟨F,h1,h2,h3⟩:=Zzn l [] _ (by simp) (by simpa[Zxd,Zya]using hy)
  match F,h3 with
  |[x],_=>exact⟨x,h1 x (by simp),by simpa[Zqm]using h2.symm⟩
  |[],h3=>simp[Zya]at h3
  |_::_::_,h3=>simp[Zya]at h3
 exact absurd rfl h
def Z7a(l:List Tk):List XN×Int×Int:=if(Zva l (l.length+1) 1 ⟨0,[],0⟩).1=false then([],(Zva l (l.length+1) 1 ⟨0,[],0⟩).2.i,(Zva l (l.length+1) 1 ⟨0,[],0⟩).2.e)
 else if Zpc (Zva l (l.length+1) 1 ⟨0,[],0⟩).2.nodes>64 then([],0,3)else((Zva l (l.length+1) 1 ⟨0,[],0⟩).2.nodes,(Zva l (l.length+1) 1 ⟨0,[],0⟩).2.i,0)
def Zye(s:List UInt8):List XN×Int×Int:=
 if(Zja s).2.2≠0 then([],(Zja s).2.1,(Zja s).2.2)
 else if(Z7a (Zja s).1).2.2=3 then([],0,3)
 else if(Z7a (Zja s).1).2.2=0/\(Z7a (Zja s).1).2.1=((Zja s).1.length:Nat)then((Z7a (Zja s).1).1,0,0)
 else([],if(Z7a (Zja s).1).2.1=((Zja s).1.length:Nat)then(s.length:Int)else((Zja s).1.getD (Z7a (Zja s).1).2.1.toNat ⟨0,[],0⟩).pos,if(Z7a (Zja s).1).2.2=0 then 80 else(Z7a (Zja s).1).2.2)
theorem Zzf{l:List Tk}:0<=(Z7a l).2.1/\(Z7a l).2.1<=(l.length:Nat):=by
 have hok:=((Z4c l (l.length+1) 1 ⟨0,[],0⟩).ok ⟨Nat.zero_le _,Nat.le_refl _⟩).1;unfold Z7a
 split
 exact⟨Int.natCast_nonneg _,Int.ofNat_le.2 hok⟩
 split
 exact⟨Int.le_refl _,Int.natCast_nonneg _⟩;exact⟨Int.natCast_nonneg _,Int.ofNat_le.2 hok⟩
theorem Z5q{l:List Tk}(h:(Z7a l).2.2≠0):(Z7a l).1=[]:=by
 unfold Z7a at h⊢
 split
 rfl
 split
 rfl;rename_i h1 h2;rw[if_neg h1,if_neg h2]at h;exact absurd rfl h
structure ASt where
 kind:Int
 name:List UInt8
 x:List XN
 deriving DecidableEq,Inhabited
def Zxi:List UInt8:=[101,109,105,116]
def Zmc(l:List Tk)(i:Nat):List UInt8:=match l[i]? with|some t=>t.text|none=>[]
def Zvj(l:List Tk)(i:Nat):Bool:=match l[i]? with|some t=>t.kind==2|none=>false
theorem Z6p{l:List Tk}{i:Nat}{t:Tk}(h:l[i]?=some t):Zmc l i=t.text:=by unfold Zmc;rw[h]
theorem Zpk{l:List Tk}{i:Nat}(h:l.length<=i):Zmc l i=[]:=by unfold Zmc;rw[List.getElem?_eq_none h]
theorem Ztn{l:List Tk}{i:Nat}{t:Tk}(h:l[i]?=some t):Zvj l i=(t.kind==2):=by unfold Zvj;rw[h]
theorem Zqi{l:List Tk}{i:Nat}(h:l.length<=i):Zvj l i=false:=by unfold Zvj;rw[List.getElem?_eq_none h]
def Zxc(l:List Tk):List (List UInt8)->Nat->Bool×Nat
 |[],i=>(true,i)
 |w::r,i=>if Zmc l i=w then Zxc l r (i+1)else(false,i)
def Zgo(l:List Tk)(s:ASt)(ws:List (List UInt8))(i:Nat):ASt×Int×Int:=
 ((s,((Zxc l ws i).2:Int),if(Zxc l ws i).1=true then 0 else 110))
def Z9q(l:List Tk)(k:Int)(nm:List UInt8)(ws:List (List UInt8))(i:Nat):ASt×Int×Int:=
 if(Z7a (l.drop i)).2.2≠0 then(⟨k,nm,[]⟩,(i:Int)+(Z7a (l.drop i)).2.1,(Z7a (l.drop i)).2.2)
 else Zgo l ⟨k,nm,(Z7a (l.drop i)).1⟩ ws (i+(Z7a (l.drop i)).2.1.toNat)
def Zoe(l:List Tk)(k:Int)(w:List UInt8)(ws:List (List UInt8))(i:Nat):ASt×Int×Int:=
 if Zvj l i=false then(⟨k,[],[]⟩,(i:Int),110)
 else if Zmc l (i+1)≠w then(⟨k,Zmc l i,[]⟩,((i+1:Nat):Int),110)
 else if k=2/\Zmc l (i+2)=[41]then Zgo l ⟨k,Zmc l i,[]⟩ ws (i+2)
 else Z9q l k (Zmc l i) ws (i+2)
def Zjd(l:List Tk)(i:Nat):ASt×Int×Int:=
 if Zmc l i=Zxi then Zoe l 2 [40] [[41],[59]] (i+1)else Zoe l 1 [58,61] [[59]] i
theorem Z3y{l:List Tk}:∀ (ws:List (List UInt8)) (i:Nat),i<=(Zxc l ws i).2
 |[],i=>Nat.le_refl _
 |w::r,i=>by
  rw[Zxc]
  split
  exact Nat.le_trans (Nat.le_succ i) (Z3y r (i+1));exact Nat.le_refl _
theorem Zqk{l:List Tk}{i:Nat}(h:Zmc l i≠[]):i<l.length:=by
 refine Classical.byContradiction λh2=>h (Zpk (by omega))
theorem Z2y{l:List Tk}:∀ (ws:List (List UInt8)) (i:Nat),(∀ w∈ws,w≠[])->(Zxc l ws i).1=true->(Zxc l ws i).2=i+ws.length/\(ws≠[]->(Zxc l ws i).2<=l.length)
 |[],i,_,_=>⟨rfl,λh=>absurd rfl h⟩
 |w::r,i,hw,h=>by
  rw[Zxc]at h⊢
  split at h
  .rename_i h1
   rw[if_pos h1];obtain⟨h2,h3⟩:=Z2y r (i+1) (λx hx=>hw x (List.mem_cons_of_mem _ hx)) h;refine⟨by rw[h2,List.length_cons];omega,λ_=>?_⟩;have h4:=Zqk (l:=l) (i:=i) (by rw[h1];exact hw w (List.mem_cons_self ..))
   cases r with
   |nil=>rw[h2];exact h4
   |cons a b=>exact h3 (by simp)
  cases h
structure StB(l:List Tk)(i:Nat)(r:ASt×Int×Int):Prop where
 ge:(i:Int)<=r.2.1
 ok:r.2.2=0->(i:Int)<r.2.1/\r.2.1<=l.length
theorem Zx5{l:List Tk}{s:ASt}{ws:List (List UInt8)}{i j:Nat}(hw:∀ w∈ws,w≠[])(hn:ws≠[])(hij:i<=j):StB l i (Zgo l s ws j):=by
 have h1:=Z3y (l:=l) ws j;refine⟨by show(i:Int)<=((Zxc l ws j).2:Int);omega,λh=>?_⟩
 have ht:(Zxc l ws j).1=true:=by
  refine Classical.byContradiction λh2=>?_;have h:(if(Zxc l ws j).1=true then(0:Int)else 110)=0:=h;rw[if_neg h2]at h;cases h
 obtain⟨h3,h4⟩:=Z2y ws j hw ht;have h5:=h4 hn;have h6:0<ws.length:=List.length_pos_iff.2 hn
 show(i:Int)<((Zxc l ws j).2:Int)/\((Zxc l ws j).2:Int)<=l.length
 omega
theorem exprS_b{l:List Tk}{k:Int}{nm:List UInt8}{ws:List (List UInt8)}{i j:Nat}(hw:∀ w∈ws,w≠[])(hn:ws≠[])(hij:i<=j):StB l i (Z9q l k nm ws j):=by
 unfold Z9q;have hb:=(Zzf (l:=l.drop j)).1
 split
 rename_i h;exact⟨by show(i:Int)<=(j:Int)+(Z7a (l.drop j)).2.1;omega,λh2=>absurd h2 h⟩;exact Zx5 hw hn (by omega)
theorem Zm5{l:List Tk}{k:Int}{w:List UInt8}{ws:List (List UInt8)}{i j:Nat}(hw:∀ w∈ws,w≠[])(hn:ws≠[])(hij:i<=j):StB l i (Zoe l k w ws j):=by
 unfold Zoe
 split
 exact⟨by show(i:Int)<=(j:Int);omega,λh=>by cases h⟩
 split
 exact⟨by show(i:Int)<=((j+1:Nat):Int);omega,λh=>by cases h⟩
 split
 exact Zx5 hw hn (by omega);exact exprS_b hw hn (by omega)
theorem Zeo(l:List Tk)(i:Nat):StB l i (Zjd l i):=by
 unfold Zjd
 split
 exact Zm5 (by decide) (by decide) (by omega);exact Zm5 (by decide) (by decide) (Nat.le_refl _)
def Zmn(l:List Tk)(n:Nat)(i:Int):Int:=if i<l.length then(l.getD i.toNat ⟨0,[],0⟩).pos else n
def Z4m(l:List Tk)(n:Nat):Nat->Nat->List ASt->List ASt×Int×Int
 |0,_,acc=>(acc,0,0)
 |f+1,i,acc=>
  if l.length<=i then(acc,0,0)
  else if acc.length=512 then([],Zmn l n i,3)
  else if(Zjd l i).2.2≠0 then([],Zmn l n (Zjd l i).2.1,(Zjd l i).2.2)
  else Z4m l n f (Zjd l i).2.1.toNat (acc++[(Zjd l i).1])
def Zhp(s:List UInt8):List ASt×Int×Int:=
 if(Zja s).2.2≠0 then([],(Zja s).2.1,(Zja s).2.2)else Z4m (Zja s).1 s.length ((Zja s).1.length+1) 0 []
section
structure VP where
 name:List UInt8
 kind:Int
 region:Int
 of:Int
 entry:List UInt8
 exit:List UInt8
 defers:List (List UInt8)
 sub:List UInt8
structure WP where
 name:List UInt8
 source:Int
 target:Int
 triggers:List (List UInt8)
 after:Int
 guard:List UInt8
 effect:List UInt8
 kind:Int
structure PM where
 name:List UInt8
 vars:List (List UInt8×Int)
 events:List (List UInt8)
 regions:List (List UInt8×Int)
 vertices:List VP
 ways:List WP
def vx0:VP:=⟨[],0,0,0,[],[],[],[]⟩
def wy0:WP:=⟨[],0,0,[],0,[],[],0⟩
namespace PM
variable(m:PM)
def vx(v:Int):VP:=m.vertices.getD v.toNat vx0
def wy(i:Int):WP:=m.ways.getD i.toNat wy0
def ow(r:Int):Int:=(m.regions.getD r.toNat ([],0)).2
def around(v:Int):Int:=if 0<=(m.vx v).of then(m.vx v).of else m.ow (m.vx v).region
def upsF:Nat->Int->List Int
 |0,_=>[]
 |f+1,v=>if m.around v<0 then[]else m.around v::upsF f (m.around v)
def ups(v:Int):List Int:=m.upsF 65 v
def withinB(v r:Int):Bool:=(v::m.ups v).any λu=>(m.vx u).region==r
def inB(v s:Int):Bool:=(m.ups v).contains s
def regU(v s:Int):Int:=match(v::m.ups v).find? (λu=>m.around u==s)with|some u=>(m.vx u).region|none => -1
end PM
def Zyi:List Int->List Int->Bool
 |_,[]=>true
 |acc,r::t=>decide (0<=r) && !acc.contains r&&Zyi (acc++[r]) t
def Zmg:List Int->List Int->List Int
 |acc,[]=>acc
 |acc,r::t=>Zmg (if 0<=r/\acc.contains r=false then acc++[r]else acc) t
theorem Zjo:∀ (l acc:List Int),(Zmg acc l).length<=acc.length+l.length
 |[],acc=>Nat.le_refl _
 |r::t,acc=>by
  rw[Zmg];have:=Zjo t (if 0<=r/\acc.contains r=false then acc++[r]else acc)
  split at this
  rename_i h;rw[if_pos h];simp only[List.length_append,List.length_cons,List.length_nil]at this⊢;omega;rename_i h;rw[if_neg h];simp only[List.length_cons]at this⊢;omega
theorem Zxk:∀ (l acc:List Int),decide ((Zmg acc l).length=acc.length+l.length)=Zyi acc l
 |[],acc=>by simp[Zmg,Zyi]
 |r::t,acc=>by
  rw[Zmg,Zyi]
  by_cases h:0<=r/\acc.contains r=false
  rw[if_pos h,h.2,decide_eq_true h.1];have:=Zxk t (acc++[r]);rw[<- Zxk t (acc++[r])];simp only[List.length_append,List.length_cons,List.length_nil,Nat.zero_add,Bool.not_false,Bool.true_and,Nat.add_assoc,Nat.add_comm 1];rw[if_neg h];have h1:=Zjo t acc
  have h2:(decide (0<=r) && !acc.contains r)=false:=by
   cases hr:acc.contains r with
   |true=>simp
   |false=>rw[decide_eq_false (λq=>h ⟨q,hr⟩)];rfl
  rw[h2,Bool.false_and];refine decide_eq_false ?_;rw[List.length_cons];omega
namespace PM
variable(m:PM)
structure Acy:Prop where
 rng:∀ v:Int,0<=v->v<m.vertices.length->m.around v = -1\/(0<=m.around v/\m.around v<m.vertices.length)
 dep:∀ v:Int,0<=v->v<m.vertices.length->(m.ups v).length<=64
 pt:∀ v:Int,0<=v->v<m.vertices.length->0<=(m.vx v).of->(m.vx v).region = -1
 rg:∀ v:Int,0<=v->v<m.vertices.length->(m.vx v).of<0->0<=(m.vx v).region/\(m.vx v).region<m.regions.length
variable{m}
theorem Zmk:∀ (f k:Nat) (v:Int),(m.upsF f v).length<f->m.upsF (f+k) v=m.upsF f v
 |0,_,_,h=>absurd h (Nat.not_lt_zero _)
 |f+1,k,v,h=>by
  rw[show f+1+k=(f+k)+1 by omega,upsF,upsF];rw[upsF]at h
  split
  rfl;rename_i h1;rw[if_neg h1,List.length_cons]at h;rw[Zmk f k _ (by omega)]
theorem Acy.ups_nil{v:Int}(h:m.around v<0):m.ups v=[]:=by
 rw[ups,upsF,if_pos h]
theorem Acy.ups_cons(a:m.Acy){v:Int}(h0:0<=v)(h1:v<m.vertices.length)(h:0<=m.around v):m.ups v=m.around v::m.ups (m.around v):=by
 have hd:=a.dep v h0 h1;rw[ups,upsF,if_neg (by omega)]at hd⊢;rw[List.length_cons]at hd;rw[ups,Zmk 64 1 _ (by omega)]
theorem regU_nil{v s:Int}(h:m.around v<0)(hs:0<=s):m.regU v s = -1:=by
 rw[regU,Acy.ups_nil h,List.find?_cons_of_neg (by simp;omega)];rfl
theorem Acy.regU_at{v s:Int}(h:m.around v=s):m.regU v s=(m.vx v).region:=by
 rw[regU,List.find?_cons_of_pos (by simp[h])]
theorem Acy.regU_up(a:m.Acy){v s:Int}(h0:0<=v)(h1:v<m.vertices.length)(h:0<=m.around v)(hs:m.around v≠s):m.regU v s=m.regU (m.around v) s:=by
 rw[regU,regU,a.ups_cons h0 h1 h,List.find?_cons_of_neg (by simp[hs])]
theorem Acy.inB_up(a:m.Acy){v s:Int}(h0:0<=v)(h1:v<m.vertices.length)(h:0<=m.around v):m.inB v s=(m.around v==s||m.inB (m.around v) s):=by
 rw[inB,inB,a.ups_cons h0 h1 h,List.contains_cons,BEq.comm]
theorem inB_nil{v s:Int}(h:m.around v<0):m.inB v s=false:=by
 rw[inB,Acy.ups_nil h];rfl
theorem Acy.withinB_up(a:m.Acy){v r:Int}(h0:0<=v)(h1:v<m.vertices.length)(h:0<=m.around v):m.withinB v r=((m.vx v).region==r||m.withinB (m.around v) r):=by
 rw[withinB,withinB,a.ups_cons h0 h1 h,List.any_cons]
theorem withinB_nil{v r:Int}(h:m.around v<0):m.withinB v r=((m.vx v).region==r):=by
 rw[withinB,Acy.ups_nil h,List.any_cons,List.any_nil,Bool.or_false]
def partU(m:PM)(l:List Int):Bool:=(m.ups (l.headD 0)).any λs=>Zyi [] (l.map (m.regU · s))
end PM
end
section
def Zfk:List UInt8:=[97,114,103]
def elsW:List UInt8:=[101,108,115,101]
def Zzd(s:List UInt8):Bool:=s==[]||isP s==2
def evB(ev l:List (List UInt8)):Bool:=(List.range l.length).all λi=>ev.contains (l.getD i []) && !(l.take i).contains (l.getD i [])
def Z0a(part most:Nat)(p:Nat->Bool)(n:Nat):Nat×Int×Int:=
 match(List.range n).find? (λi=>i==most || !p i)with
 |none=>(0,0,0)
 |some i=>(part,(i:Int),if i=most then 3 else 130)
def orE(a b:Nat×Int×Int):Nat×Int×Int:=if a.1≠0 then a else b
theorem Zqe{part most:Nat}{p:Nat->Bool}{n:Nat}(h:∀ i,i<n->i≠most/\p i=true):Z0a part most p n=(0,0,0):=by
 rw[Z0a,List.find?_eq_none.2 (λi hi=>by
  obtain⟨a,b⟩:=h i (List.mem_range.1 hi)
  simp[a,b])]
theorem Zwb{part most:Nat}{p:Nat->Bool}{n i:Nat}(hi:i<n)(h:∀ k,k<i->k≠most/\p k=true)(hb:i=most\/p i=false):Z0a part most p n=(part,(i:Int),if i=most then 3 else 130):=by
 have:(List.range n).find? (λi=>i==most || !p i)=some i:=by
  rw[List.find?_range_eq_some];refine⟨?_,List.mem_range.2 hi,λk hk=>?_⟩
  rcases hb with q|q
  simp[q];simp[q];obtain⟨a,b⟩:=h k hk;simp[a,b]
 rw[Z0a,this]
theorem Zce{part most:Nat}{p:Nat->Bool}{n:Nat}(hp:part≠0)(h:(Z0a part most p n).1=0):n<=most/\∀ i,i<n->p i=true:=by
 rw[Z0a]at h
 cases hf:(List.range n).find? (λi=>i==most || !p i)with
 |some i=>rw[hf]at h;exact absurd h hp
 |none=>
  have:=List.find?_eq_none.1 hf;refine⟨?_,λi hi=>?_⟩
  rcases Nat.lt_or_ge most n with q|q
  have:=this most (List.mem_range.2 q);simp at this;exact q;have:=this i (List.mem_range.2 hi);simpa using(by simpa using this:_/\_).2
theorem Znn{a b:Nat×Int×Int}(h:(orE a b).1=0):a.1=0/\b.1=0:=by
 rw[orE]at h
 split at h
 rename_i q;exact absurd h q;rename_i q;exact⟨Decidable.not_not.1 q,h⟩
namespace PM
variable(m:PM)
def stateB(v:Int):Bool:=decide (0<=v)&&decide (v<m.vertices.length)&&((m.vx v).kind==1)
def nameAt(i:Nat):List UInt8:=(m.vars.getD i ([],0)).1
def varB(i:Nat):Bool:=(isP (m.nameAt i)==2) && !(m.nameAt i==Zfk) && !((m.vars.take i).any λy=>y.1==m.nameAt i)
def signalB(i:Nat):Bool:=(isP (m.events.getD i [])==2) && !(m.events.take i).contains (m.events.getD i [])
def regionB(i:Nat):Bool:=Zzd (m.regions.getD i ([],0)).1&&(if i=0 then m.ow 0 == -1 else m.stateB (m.ow i)&&(m.vx (m.ow i)).sub==[])
def liesB(x:VP):Bool:=if x.kind=10\/x.kind=11 then(x.region == -1)&&m.stateB x.of else(x.of == -1)&&decide (0<=x.region)&&decide (x.region<m.regions.length)
def vertexB(x:VP):Bool:=
 Zzd x.name&&decide (1<=x.kind)&&decide (x.kind<=12)&&m.liesB x&&((x.entry==[]&&x.exit==[]&&decide (x.defers.length=0)&&x.sub==[])||x.kind==1)&&Zzd x.sub &&
  decide (x.entry.length<=4096)&&decide (x.exit.length<=4096)&&evB m.events x.defers
def depth(v:Int):Nat:=(m.ups v).length
def deepB(i:Nat):Bool:=decide (m.depth i<=64)
def inV(v:Int):Bool:=decide (0<=v)&&decide (v<m.vertices.length)
def wayB(x:WP):Bool:=
 Zzd x.name&&m.inV x.source&&m.inV x.target&&evB m.events x.triggers&&decide (0<=x.after)&&decide (x.after<=65535)&&(x.after==0||decide (x.triggers.length=0)) &&
  decide (1<=x.kind)&&decide (x.kind<=3)&&decide (x.guard.length<=4096)&&decide (x.effect.length<=4096)
def ruleF(k:Nat):Nat×Int×Int:=
 match k with
 |0=>if isP m.name=2 then(0,0,0)else(1,0,130)
 |1=>Z0a 2 64 m.varB m.vars.length
 |2=>Z0a 3 64 m.signalB m.events.length
 |3=>if m.regions=[]then(4,0,130)else Z0a 4 512 m.regionB m.regions.length
 |4=>Z0a 5 512 (λi=>m.vertexB (m.vx i)) m.vertices.length
 |5=>Z0a 5 512 m.deepB m.vertices.length
 |_=>Z0a 6 512 (λi=>m.wayB (m.wy i)) m.ways.length
def rightP:Nat×Int×Int:=orE (m.ruleF 0) (orE (m.ruleF 1) (orE (m.ruleF 2) (orE (m.ruleF 3) (orE (m.ruleF 4) (orE (m.ruleF 5) (m.ruleF 6))))))
structure Rt5:Prop where
 rnz:m.regions≠[]
 rgn:∀ i,i<m.regions.length->m.regionB i=true
 vtx:∀ i,i<m.vertices.length->m.vertexB (m.vx i)=true
structure Rt:Prop extends Rt5 m where
 nm:isP m.name=2
 var:∀ i,i<m.vars.length->m.varB i=true
 sig:∀ i,i<m.events.length->m.signalB i=true
 deep:∀ i,i<m.vertices.length->m.depth i<=64
 way:∀ i,i<m.ways.length->m.wayB (m.wy i)=true
 lv:m.vars.length<=64
 le:m.events.length<=64
 lr:m.regions.length<=512
 lx:m.vertices.length<=512
 lw:m.ways.length<=512
variable{m}
theorem rt_vt(h3:(m.ruleF 3).1=0)(h4:(m.ruleF 4).1=0):m.Rt5:=by
 have h3:(if m.regions=[]then((4,0,130):Nat×Int×Int)else Z0a 4 512 m.regionB m.regions.length).1=0:=h3
 by_cases h:m.regions=[]
 rw[if_pos h]at h3;cases h3;rw[if_neg h]at h3;exact⟨h,(Zce (by decide) h3).2,(Zce (by decide) h4).2⟩
theorem rt_of(h:(m.rightP).1=0):m.Rt:=by
 obtain⟨h0,h⟩:=Znn h;obtain⟨h1,h⟩:=Znn h;obtain⟨h2,h⟩:=Znn h;obtain⟨h3,h⟩:=Znn h;obtain⟨h4,h⟩:=Znn h;obtain⟨h5,h6⟩:=Znn h;have r5:=rt_vt h3 h4;have a1:=Zce (by decide) (show(Z0a 2 64 m.varB m.vars.length).1=0 from h1);have a2:=Zce (by decide) (show(Z0a 3 64 m.signalB m.events.length).1=0 from h2);have h3:(if m.regions=[]then((4,0,130):Nat×Int×Int)else Z0a 4 512 m.regionB m.regions.length).1=0:=h3;rw[if_neg r5.rnz]at h3;have a3:=Zce (by decide) h3;have a4:=Zce (by decide) (show(Z0a 5 512 (λi=>m.vertexB (m.vx i)) m.vertices.length).1=0 from h4);have a5:=Zce (by decide) (show(Z0a 5 512 m.deepB m.vertices.length).1=0 from h5);have a6:=Zce (by decide) (show(Z0a 6 512 (λi=>m.wayB (m.wy i)) m.ways.length).1=0 from h6);have h0:(if isP m.name=2 then((0,0,0):Nat×Int×Int)else(1,0,130)).1=0:=h0
 have h0:isP m.name=2:=by
  by_cases q:isP m.name=2
  exact q;rw[if_neg q]at h0;cases h0
 exact⟨r5,h0,a1.2,a2.2,λi hi=>by simpa[deepB]using a5.2 i hi,a6.2,a1.1,a2.1,a3.1,a4.1,a6.1⟩
theorem Z3e(k:Nat):(m.ruleF k).2.2=0↔(m.ruleF k).1=0:=by
 have s:∀ {part most:Nat} {p:Nat->Bool} {n:Nat},part≠0->((Z0a part most p n).2.2=0↔(Z0a part most p n).1=0):=by
  intro part most p n hp;rw[Z0a]
  cases(List.range n).find? (λi=>i==most || !p i)with
  |none=>exact⟨λ_=>rfl,λ_=>rfl⟩
  |some i=>
   show(if i=most then(3:Int)else 130)=0↔part=0
   split
   exact⟨λh=>(by cases h),λh=>absurd h hp⟩;exact⟨λh=>(by cases h),λh=>absurd h hp⟩
 match k with
 |0=>
  show(if isP m.name=2 then((0,0,0):Nat×Int×Int)else(1,0,130)).2.2=0↔(if isP m.name=2 then((0,0,0):Nat×Int×Int)else(1,0,130)).1=0
  split<;>simp
 |1=>exact s (by decide)
 |2=>exact s (by decide)
 |3=>
  show(if m.regions=[]then((4,0,130):Nat×Int×Int)else Z0a 4 512 m.regionB m.regions.length).2.2=0↔(if m.regions=[]then((4,0,130):Nat×Int×Int)else Z0a 4 512 m.regionB m.regions.length).1=0
  split
  simp;exact s (by decide)
 |4=>exact s (by decide)
 |5=>exact s (by decide)
 |k+6=>exact s (by decide)
theorem Zon{a b:Nat×Int×Int}(ha:a.2.2=0↔a.1=0)(hb:b.2.2=0↔b.1=0):(orE a b).2.2=0↔(orE a b).1=0:=by
 rw[orE];split;exact ha;exact hb
theorem right_er:(m.rightP).2.2=0↔(m.rightP).1=0:=
 Zon (Z3e 0) (Zon (Z3e 1) (Zon (Z3e 2) (Zon (Z3e 3) (Zon (Z3e 4) (Zon (Z3e 5) (Z3e 6))))))
theorem Rt5.vert(h:m.Rt5){v:Int}(h0:0<=v)(h1:v<m.vertices.length):m.vertexB (m.vx v)=true:=by
 have:=h.vtx v.toNat (by omega);rwa [show((v.toNat:Nat):Int)=v by omega]at this
theorem Rt5.lies(h:m.Rt5){v:Int}(h0:0<=v)(h1:v<m.vertices.length):m.liesB (m.vx v)=true:=by
 have:=h.vert h0 h1;simp only[vertexB,Bool.and_eq_true]at this;exact this.1.1.1.1.1.2
theorem Rt5.pt(h:m.Rt5){v:Int}(h0:0<=v)(h1:v<m.vertices.length):(0<=(m.vx v).of/\(m.vx v).of<m.vertices.length/\(m.vx v).region = -1/\m.stateB (m.vx v).of=true/\((m.vx v).kind=10\/(m.vx v).kind=11)) \/
  ((m.vx v).of = -1/\0<=(m.vx v).region/\(m.vx v).region<m.regions.length/\¬ ((m.vx v).kind=10\/(m.vx v).kind=11)):=by
 have:=h.lies h0 h1;rw[liesB]at this
 split at this
 rename_i q
 left
 have hs:m.stateB (m.vx v).of=true:=by simpa using(Bool.and_eq_true _ _ ▸ this:_/\_).2
 have hs':=hs;simp only[stateB,Bool.and_eq_true,decide_eq_true_eq,beq_iff_eq]at hs' this;exact⟨hs'.1.1,hs'.1.2,this.1,hs,q⟩;rename_i q
 right
 simp only[Bool.and_eq_true,decide_eq_true_eq,beq_iff_eq]at this;exact⟨this.1.1,this.1.2,this.2,q⟩
theorem Rt5.own(h:m.Rt5){r:Int}(h0:0<=r)(h1:r<m.regions.length):(r=0/\m.ow r = -1)\/(r≠0/\0<=m.ow r/\m.ow r<m.vertices.length):=by
 have:=h.rgn r.toNat (by omega);simp only[regionB,Bool.and_eq_true]at this;have h2:=this.2
 split at h2
 rename_i q
 have:r=0:=by omega
 subst this;exact .inl ⟨rfl,by simpa using h2⟩;rename_i q;rw[show((r.toNat:Nat):Int)=r by omega]at h2;simp only[stateB,Bool.and_eq_true,decide_eq_true_eq]at h2;exact .inr ⟨by omega,h2.1.1.1,h2.1.1.2⟩
theorem Rt5.rng(h:m.Rt5){v:Int}(h0:0<=v)(h1:v<m.vertices.length):m.around v = -1\/(0<=m.around v/\m.around v<m.vertices.length):=by
 rw[around]
 rcases h.pt h0 h1 with ⟨a,b,_⟩|⟨a,b,c,_⟩
 rw[if_pos a];exact .inr ⟨a,b⟩;rw[if_neg (by omega)]
 rcases h.own b c with ⟨_,q⟩|⟨_,q⟩
 exact .inl q;exact .inr q
theorem Rt.acy(h:m.Rt):m.Acy:=
 ⟨λv h0 h1=>h.toRt5.rng h0 h1,λv h0 h1=>by
  have:=h.deep v.toNat (by omega)
  rwa [depth,show((v.toNat:Nat):Int)=v by omega]at this,
 λv h0 h1 q=>by
  rcases h.toRt5.pt h0 h1 with ⟨_,_,a,_⟩|⟨a,_⟩
  exact a
  omega,
 λv h0 h1 q=>by
  rcases h.toRt5.pt h0 h1 with ⟨a,_⟩|⟨_,a,b,_⟩
  omega
  exact⟨a,b⟩⟩
end PM
end
section
def Z4h(s:List UInt8):Bool:=(Zja s).2.2==0&&(Zja s).1.length==1&&(Zmc (Zja s).1 0==elsW)
namespace PM
variable(m:PM)(bd:List (List UInt8)->List (List UInt8)->List UInt8->Bool)(gd:List (List UInt8)->List UInt8->Int)
def inc(v:Int):List Int:=(m.ways.filter λt=>t.target==v).map (·.source)
def out(v:Int):List Int:=(m.ways.filter λt=>t.source==v).map (·.target)
def vn:List (List UInt8):=m.vars.map (·.1)
def kd(v:Int):Int:=(m.vx v).kind
def body(s:List UInt8):Bool:=bd m.vn m.events s
def k1(r:Int):Bool:=(m.vertices.filter λx=>x.kind==3&&x.region==r).length==1
def k2(v:Int):Bool := !(m.kd v==3)||((m.out v).length==1&&m.withinB ((m.out v).headD 0) (m.vx v).region&&(m.inc v).length==0)
def k3(v:Int):Bool := !(m.kd v==2||m.kd v==12)||(m.out v).length==0
def k4(v:Int):Bool := !(m.kd v==6)||((m.inc v).length==1&&decide (1<(m.out v).length)&&m.partU (m.out v))
def k5(v:Int):Bool := !(m.kd v==7)||((m.out v).length==1&&decide (1<(m.inc v).length)&&((m.inc v).all λu=>m.kd u==1)&&m.partU (m.inc v))
def elses(v:Int):Nat:=(m.ways.filter λt=>t.source==v&&Z4h t.guard).length
def k6(v:Int):Bool := !(m.kd v==4||m.kd v==5)||(decide (0<(m.inc v).length)&&decide (0<(m.out v).length)&&decide (m.elses v<=1))
def twins(v:Int):Nat:=(m.vertices.filter λy=>y.kind==m.kd v&&y.region==(m.vx v).region).length
def k7(v:Int):Bool := !(m.kd v==8||m.kd v==9) ||
 (!((m.vx v).region==0)&&m.twins v==1&&decide ((m.out v).length<=1)&&((m.out v).length==0||m.withinB ((m.out v).headD 0) (m.vx v).region))
def k8(v:Int):Bool:=if m.kd v=11 then(m.out v).length==1 && !m.inB ((m.out v).headD 0) (m.vx v).of
 else if m.kd v=10 then Zyi [] ((m.out v).map (m.regU · (m.vx v).of))&&decide (0<(m.out v).length)else true
def k9(t:Int):Bool:=((m.wy t).triggers.length==0&&(m.wy t).after==0)||m.kd (m.wy t).source==1
def k10(t:Int):Bool:=((m.kd (m.wy t).source==4||m.kd (m.wy t).source==5)&&Z4h (m.wy t).guard) ||
 (gd (m.vn++[Zfk]) (m.wy t).guard==0&&((Zja (m.wy t).guard).1.length==0||m.kd (m.wy t).source==1||m.kd (m.wy t).source==4||m.kd (m.wy t).source==5))
def k11(t:Int):Bool:=if(m.wy t).kind=3 then(m.wy t).source==(m.wy t).target&&m.kd (m.wy t).source==1
 else if(m.wy t).kind=2 then m.kd (m.wy t).source==1&&m.inB (m.wy t).target (m.wy t).source else true
def k12(t:Int):Bool:=m.body bd (m.wy t).effect
def k13(v:Int):Bool := !(m.kd v==1)||(m.body bd (m.vx v).entry&&m.body bd (m.vx v).exit)
def k14(t:Int):Bool := !m.partU [(m.wy t).source,(m.wy t).target]
def k15(t:Int):Bool:=if m.kd (m.wy t).target=10 then !((m.wy t).source==(m.vx (m.wy t).target).of) && !m.inB (m.wy t).source (m.vx (m.wy t).target).of
 else if m.kd (m.wy t).target=11 then m.inB (m.wy t).source (m.vx (m.wy t).target).of && !((m.vx (m.wy t).source).of==(m.vx (m.wy t).target).of)else true
def keep(rule:Nat)(at_:Int):Bool:=
 match rule with
 |1=>m.k1 at_
 |2=>m.k2 at_
 |3=>m.k3 at_
 |4=>m.k4 at_
 |5=>m.k5 at_
 |6=>m.k6 at_
 |7=>m.k7 at_
 |8=>m.k8 at_
 |9=>m.k9 at_
 |10=>m.k10 gd at_
 |11=>m.k11 at_
 |12=>m.k12 bd at_
 |13=>m.k13 bd at_
 |14=>m.k14 at_
 |15=>m.k15 at_
 |_=>false
def places(rule:Nat):Nat:=if rule=1 then m.regions.length else if rule<=8\/rule=13 then m.vertices.length else m.ways.length
def badAt(rule n:Nat):List (Nat×Int):=((List.range n).filter fun(a:Nat) => !m.keep bd gd rule (a:Int)).map fun(a:Nat)=>(rule,(a:Int))
def badL(k:Nat):List (Nat×Int):=(List.range k).flatMap λr=>m.badAt bd gd (r+1) (m.places (r+1))
def checkW:List (Nat×Int)×Int:=if(m.rightP).2.2≠0 then([],(m.rightP).2.2)else(m.badL bd gd 15,0)
variable{m bd gd}
theorem badAt_succ(rule n:Nat):m.badAt bd gd rule (n+1)=m.badAt bd gd rule n++(if m.keep bd gd rule (n:Int)=true then[]else[(rule,(n:Int))]):=by
 rw[badAt,List.range_succ,List.filter_append,List.map_append,badAt]
 congr 1
 by_cases h:m.keep bd gd rule (n:Int)=true
 rw[if_pos h,List.filter_cons_of_neg (by simp[h])];rfl;rw[if_neg h,List.filter_cons_of_pos (by simpa using h)];rfl
theorem badL_succ(k:Nat):m.badL bd gd (k+1)=m.badL bd gd k++m.badAt bd gd (k+1) (m.places (k+1)):=by
 rw[badL,List.range_succ,List.flatMap_append,badL,List.flatMap_singleton]
theorem badAt_len(rule n:Nat):(m.badAt bd gd rule n).length<=n:=by
 rw[badAt,List.length_map];exact Nat.le_trans (List.length_filter_le _ _) (by rw[List.length_range];exact Nat.le_refl _)
def anon(m:PM):PM:=⟨m.name,m.vars,m.events,m.regions.map (λr=>([],r.2)),m.vertices.map (λx=>{ x with name:=[] }),m.ways.map (λt=>{ t with name:=[] })⟩
theorem Zme(v:Int):m.anon.vx v={ m.vx v with name:=[] }:=by
 show(m.vertices.map _).getD _ _=_
 rw[List.getD_eq_getElem?_getD,List.getElem?_map,vx,List.getD_eq_getElem?_getD]
 cases m.vertices[v.toNat]? <;> rfl
theorem Z3i(t:Int):m.anon.wy t={ m.wy t with name:=[] }:=by
 show(m.ways.map _).getD _ _=_
 rw[List.getD_eq_getElem?_getD,List.getElem?_map,wy,List.getD_eq_getElem?_getD]
 cases m.ways[t.toNat]? <;> rfl
theorem anon_ow(r:Int):m.anon.ow r=m.ow r:=by
 show((m.regions.map (λr=>(([]:List UInt8),r.2))).getD r.toNat ([],0)).2=_
 rw[List.getD_eq_getElem?_getD,List.getElem?_map,ow,List.getD_eq_getElem?_getD]
 cases m.regions[r.toNat]? <;> rfl
theorem Z8l(v:Int):m.anon.around v=m.around v:=by
 rw[around,around,Zme,anon_ow]
theorem Zkr:∀ (f:Nat) (v:Int),m.anon.upsF f v=m.upsF f v
 |0,_=>rfl
 |f+1,v=>by rw[upsF,upsF,Z8l,Zkr f]
theorem Zgk(v:Int):m.anon.ups v=m.ups v:=Zkr 65 v
theorem Zrj(v r:Int):m.anon.withinB v r=m.withinB v r:=by
 rw[withinB,withinB,Zgk];simp only[Zme]
theorem Zlp(v s:Int):m.anon.inB v s=m.inB v s:=by rw[inB,inB,Zgk]
theorem Zlr(v s:Int):m.anon.regU v s=m.regU v s:=by
 rw[regU,regU,Zgk];simp only[Z8l,Zme]
theorem Z4i(l:List Int):m.anon.partU l=m.partU l:=by
 rw[partU,partU,Zgk];simp only[Zlr]
theorem Zhk(v:Int):m.anon.inc v=m.inc v:=by
 show((m.ways.map _).filter _).map _=(m.ways.filter _).map _
 rw[List.filter_map,List.map_map];rfl
theorem Z9e(v:Int):m.anon.out v=m.out v:=by
 show((m.ways.map _).filter _).map _=(m.ways.filter _).map _
 rw[List.filter_map,List.map_map];rfl
theorem Z5c(v:Int):m.anon.kd v=m.kd v:=by rw[kd,kd,Zme]
theorem Z82(v:Int):m.anon.elses v=m.elses v:=by
 show((m.ways.map _).filter _).length=_
 rw[List.filter_map,List.length_map];rfl
theorem Z72(v:Int):m.anon.twins v=m.twins v:=by
 rw[twins,Z5c,Zme]
 show((m.vertices.map _).filter _).length=_
 rw[List.filter_map,List.length_map];rfl
theorem anon_k1(r:Int):m.anon.k1 r=m.k1 r:=by
 show(((m.vertices.map _).filter _).length==1)=_
 rw[List.filter_map,List.length_map];rfl
theorem Zmr(s:List UInt8):m.anon.body bd s=m.body bd s:=rfl
theorem Z48(rule:Nat)(a:Int):m.anon.keep bd gd rule a=m.keep bd gd rule a:=by
 unfold keep
 split
 exact anon_k1 a;simp only[k2,Z5c,Z9e,Zhk,Zrj,Zme];simp only[k3,Z5c,Z9e];simp only[k4,Z5c,Z9e,Zhk,Z4i];simp only[k5,Z5c,Z9e,Zhk,Z4i];simp only[k6,Z5c,Z9e,Zhk,Z82];simp only[k7,Z5c,Z9e,Zrj,Zme,Z72];simp only[k8,Z5c,Z9e,Zlp,Zme,Zlr];simp only[k9,Z5c,Z3i];simp only[k10,Z5c,Z3i];rfl;simp only[k11,Z5c,Z3i,Zlp];simp only[k12,Zmr,Z3i];simp only[k13,Z5c,Zmr,Zme];simp only[k14,Z4i,Z3i];simp only[k15,Z5c,Zlp,Zme,Z3i];rfl
theorem Z1v(rule:Nat):m.anon.places rule=m.places rule:=by
 rw[places,places];simp only[anon,List.length_map]
theorem anon_badL(k:Nat):m.anon.badL bd gd k=m.badL bd gd k:=by
 rw[badL,badL]
 congr 1
 funext r
 rw[badAt,badAt,Z1v];simp only[Z48]
end PM
end
end Go.Hs
end

section
namespace Go.Hs
open Go.Proofs
set_option maxHeartbeats 1000000
set_option maxRecDepth 10000
structure VtM where
 name:List UInt8
 kind:Int
 region:Int
 of:Int
 entry:List UInt8
 exit:List UInt8
 defers:Sl (List UInt8)
 sub:List UInt8
structure TrM where
 name:List UInt8
 source:Int
 target:Int
 triggers:Sl (List UInt8)
 after:Int
 guard:List UInt8
 effect:List UInt8
 kind:Int
structure MdM where
 name:List UInt8
 vars:Sl (List UInt8×Int)
 events:Sl (List UInt8)
 regions:Sl (List UInt8×Int)
 verts:Sl VtM
 ways:Sl TrM
def VtM.p(x:VtM):VP:=⟨x.name,x.kind,x.region,x.of,x.entry,x.exit,x.defers.l,x.sub⟩
def TrM.p(x:TrM):WP:=⟨x.name,x.source,x.target,x.triggers.l,x.after,x.guard,x.effect,x.kind⟩
def MdM.p(m:MdM):PM:=⟨m.name,m.vars.l,m.events.l,m.regions.l,m.verts.l.map VtM.p,m.ways.l.map TrM.p⟩
def Zaa(p:List UInt8×Int):V:=.agg [.str p.1,.int .i64 p.2]
theorem Zmb(p:List UInt8×Int):Zaa p=.agg [.str p.1,.int .i64 p.2]:=rfl
theorem Zhd(p:List UInt8×Int):(Zaa p).cells.length=2:=rfl
def Zra(c:Col)(x:VtM):V:=.agg [.str x.name,.int .u8 x.kind,.int .i64 x.region,.int .i64 x.of,.str x.entry,.str x.exit,Za c 1 V.str x.defers,.str x.sub]
theorem Zm(c:Col)(x:VtM):Zra c x=.agg [.str x.name,.int .u8 x.kind,.int .i64 x.region,.int .i64 x.of,.str x.entry,.str x.exit,Za c 1 V.str x.defers,.str x.sub]:=rfl
theorem Zhi(c:Col)(x:VtM):(Zra c x).cells.length=8:=rfl
def Z6a(c:Col)(x:TrM):V:=.agg [.str x.name,.int .i64 x.source,.int .i64 x.target,Za c 1 V.str x.triggers,.int .i64 x.after,.str x.guard,.str x.effect,.int .u8 x.kind]
theorem Z6(c:Col)(x:TrM):Z6a c x=.agg [.str x.name,.int .i64 x.source,.int .i64 x.target,Za c 1 V.str x.triggers,.int .i64 x.after,.str x.guard,.str x.effect,.int .u8 x.kind]:=rfl
theorem Zji(c:Col)(x:TrM):(Z6a c x).cells.length=8:=rfl
def Z3(c d:Col)(m:MdM):V:=.agg [.str m.name,Za c 2 Zaa m.vars,Za c 1 V.str m.events,Za c 2 Zaa m.regions,Za c 8 (Zra d) m.verts,Za c 8 (Z6a d) m.ways]
theorem Zi(c d:Col)(m:MdM):Z3 c d m=.agg [.str m.name,Za c 2 Zaa m.vars,Za c 1 V.str m.events,Za c 2 Zaa m.regions,Za c 8 (Zra d) m.verts,Za c 8 (Z6a d) m.ways]:=rfl
theorem Zte(g:Col->Col)(c:Col)(s:Sl (List UInt8×Int)):(Za c 2 Zaa s).recol g=Za (g c) 2 Zaa s:=Zdc g c 2 (λp=>by simp only[Zmb,Zrb,List.map_cons,List.map_nil,Zqb,Z0b]) s
theorem Zmd(g:Col->Col)(c:Col)(x:VtM):(Zra c x).recol g=Zra (g c) x:=by simp only[Zm,Zrb,List.map_cons,List.map_nil,Zqb,Z0b,Z1a]
theorem Znd(g:Col->Col)(c:Col)(x:TrM):(Z6a c x).recol g=Z6a (g c) x:=by simp only[Z6,Zrb,List.map_cons,List.map_nil,Zqb,Z0b,Z1a]
theorem Z4k(g:Col->Col)(c d:Col)(s:Sl VtM):(Za c 8 (Zra d) s).recol g=Za (g c) 8 (Zra (g d)) s:=Zdc g c 8 (Zmd g d) s
theorem Z5k(g:Col->Col)(c d:Col)(s:Sl TrM):(Za c 8 (Z6a d) s).recol g=Za (g c) 8 (Z6a (g d)) s:=Zdc g c 8 (Znd g d) s
theorem Zrh(g:Col->Col)(c d:Col)(m:MdM):(Z3 c d m).recol g=Z3 (g c) (g d) m:=by simp only[Zi,Zrb,List.map_cons,List.map_nil,Z0b,Z1a,Zte,Z4k,Z5k]
attribute[go_sem]Zte Zmd Znd Z4k Z5k Zrh
theorem Zdi{m:MdM}{k:Nat}{x:VtM}(h:m.verts.l[k]?=some x):m.p.vx (k:Int)=x.p:=by
 show(m.verts.l.map VtM.p).getD ((k:Int)).toNat vx0=_
 rw[List.getD_eq_getElem?_getD,List.getElem?_map,Int.toNat_natCast,h]<;>rfl
theorem Zmm{m:MdM}{k:Nat}{x:TrM}(h:m.ways.l[k]?=some x):m.p.wy (k:Int)=x.p:=by
 show(m.ways.l.map TrM.p).getD ((k:Int)).toNat wy0=_
 rw[List.getD_eq_getElem?_getD,List.getElem?_map,Int.toNat_natCast,h]<;>rfl
theorem Z4t{m:MdM}{k:Nat}{r:List UInt8×Int}(h:m.regions.l[k]?=some r):m.p.ow (k:Int)=r.2:=by
 show(m.regions.l.getD ((k:Int)).toNat ([],0)).2=_
 rw[List.getD_eq_getElem?_getD,Int.toNat_natCast,h]<;>rfl
theorem MdM.nv(m:MdM):m.p.vertices.length=m.verts.l.length:=List.length_map ..
theorem MdM.nw(m:MdM):m.p.ways.length=m.ways.l.length:=List.length_map ..
theorem MdM.at{m:MdM}{v:Int}(h0:0<=v)(h1:v<m.p.vertices.length):∃ (k:Nat) (x:VtM),v=(k:Int)/\k<m.verts.l.length/\m.verts.l[k]?=some x/\m.p.vx v=x.p:=by
 rw[m.nv]at h1;have hk:v.toNat<m.verts.l.length:=zo;have e:v=((v.toNat:Nat):Int):=zo;refine⟨v.toNat,_,e,hk,List.getElem?_eq_getElem hk,?_⟩
 conv=>lhs;rw[e]
 exact Zdi (List.getElem?_eq_getElem hk)
theorem Zc0{m:MdM}{v:Int}(h0:0<=v)(h1:v<m.p.regions.length):∃ (k:Nat) (x:List UInt8×Int),v=(k:Int)/\k<m.regions.l.length/\m.regions.l[k]?=some x/\m.p.ow v=x.2:=by
 have h1:v<m.regions.l.length:=h1;have hk:v.toNat<m.regions.l.length:=zo;have e:v=((v.toNat:Nat):Int):=zo;refine⟨v.toNat,_,e,hk,List.getElem?_eq_getElem hk,?_⟩
 conv=>lhs;rw[e]
 exact Z4t (List.getElem?_eq_getElem hk)
theorem Zbf{m:MdM}{v:Int}(h0:0<=v)(h1:v<m.p.ways.length):∃ (k:Nat) (x:TrM),v=(k:Int)/\k<m.ways.l.length/\m.ways.l[k]?=some x/\m.p.wy v=x.p:=by
 rw[m.nw]at h1;have hk:v.toNat<m.ways.l.length:=zo;have e:v=((v.toNat:Nat):Int):=zo;refine⟨v.toNat,_,e,hk,List.getElem?_eq_getElem hk,?_⟩
 conv=>lhs;rw[e]
 exact Zmm (List.getElem?_eq_getElem hk)
theorem Zhj(G:Nat->V)(hG:GOk G)(c d:Col)(m:MdM)(hm:m.p.Rt5)(v:Int)(h0:0<=v)(h1:v<m.p.vertices.length):
  Spec Tryz.prog G 215 [Z3 c d m,.int .i64 v] Zk (λw _=>w=.int .i64 (m.p.around v)):=by
 refine Zo 0 27 [.tmp 4] Tryz.func215 λX=>?_;have hpt:=hm.pt h0 h1;obtain⟨k,x,rfl,hk,hg,hx⟩:=MdM.at h0 h1;rw[PM.around];rw[hx]at hpt⊢;simp only[Zi];have f:=zi hg (zi hk (zi Zm (zi @Int.natCast_nonneg @Int.ofNat_lt)));refine Z ?_;intro g2;refine Zf f ?_;intro g5
 by_cases ho:0<=x.of
 have q:decide (x.of>=0)=true:=zT;refine Zf (zi f q) ?_
 rw[if_pos (show 0<=x.p.of from ho)]<;>rfl
 have q:decide (x.of>=0)=false:=zF;obtain⟨_,r0,r1,_⟩:=hpt.resolve_left (λh=>ho h.1);obtain⟨r,y,hr,hrk,hrg,hy⟩:=Zc0 r0 r1;rw[if_neg (show ¬ 0<=x.p.of from ho),hy];have hr:x.region=(r:Int):=hr;refine Zf q ?_;refine ZTf (zi f (zi hr (zi hrg (zi hrk Zmb)))) hG ?_;exact Zr
end Go.Hs
end
