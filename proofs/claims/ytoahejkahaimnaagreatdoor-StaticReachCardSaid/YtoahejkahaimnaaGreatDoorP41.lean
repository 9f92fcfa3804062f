/- A part. No condition. -/
import Derived.Test.YtoahejkahaimnaaGreatDoorP39
import Derived.Test.YtoahejkahaimnaaGreatDoorP40
import Derived.Lib.ParseIntBCases
import Derived.Lib.Mul64
import Derived.Shelf.Strconv.ParseIntPublic10
import Derived.Shelf.Strconv.ErrVarParseInt
import Derived.Shelf.Strconv.Itoa4
import Derived.Shelf.Strings.Prefix
import Derived.Ground.NamesProg
import Derived.LaidEql
import Derived.Stop.Asserts
import Derived.RowKitTokens
import Derived.WalkKit
import Derived.BigCall
import Derived.BigGuard
import Derived.Lib.AppendIntMem
import Derived.Shelf.Strings.Search3
import Derived.Shelf.Strings.Trim
import Derived.Shelf.Strings.OnBuilder
set_option linter.all false
section
namespace Go.Hs
open Go.Proofs
set_option maxHeartbeats 1000000
set_option maxRecDepth 10000
theorem Zida(z:Array Value)(n:Nat)(h:z.size=1):(Builtin.zeroCells z n).size=n:=by
 simp[Builtin.zeroCells,h]
theorem Z0ga{G:Nat->V}(hG:GOk G)(o n:Nat)(hn:n<=1000000000){H:Heap}{K:V->Heap->Prop}(h0:n=0->K .nils H)(h1:n≠0->∀ g,K (.msl o g 0 0 1) (upd H o (.cells .new g 0 []))):
  CallA Tryz.prog G 219 [.nils,.int .i64 n] H K:=by
 refine⟨by kernel_rfl,λX cargs hI _ hA=>?_⟩;obtain⟨x,y,rfl,hx,hy⟩:=hA.two;cases hx;cases hy
 by_cases hz:n=0
 subst hz;refine(show Calls Tryz.prog 219 _ _ _ from Any8.slices_Grow_room Znp none 0 0 0 X.w zo zo zo zo).mono ?_;rintro e w' ⟨rfl,rfl⟩;exact⟨_,.nils,H,X,rfl,rfl,Goes.refl hI,.nils,h0 rfl⟩
 obtain⟨i0,hi0,hb,hs,z,hz0,hzs⟩:∃ i0,Tryz.prog.info? 3=some i0/\i0.bytes=8/\i0.size=1/\∃ z,i0.zero=some z/\z.cells.size=1:=by
  have hb:Zpi Tryz.prog 3=some 8:=by kernel_rfl
  have hz:Z9a Tryz.prog 3=some 1:=by kernel_rfl
  have h0:((Tryz.prog.info? 3).bind λi=>i.zero.map λz=>z.cells.size)=some 1:=by kernel_rfl
  unfold Zpi at hb;unfold Z9a at hz
  cases hi:Tryz.prog.info? 3 with
  |none=>rw[hi]at hb;cases hb
  |some i0=>
   rw[hi]at hb hz h0;simp only[Option.map_some,Option.some.injEq,Option.bind_some]at hb hz h0
   cases hz0:i0.zero with
   |none=>rw[hz0]at h0;cases h0
   |some z=>
    rw[hz0]at h0;simp only[Option.map_some,Option.some.injEq]at h0;exact⟨i0,rfl,hb,hz,z,hz0,h0⟩
 refine(show Calls Tryz.prog 219 _ _ _ from Any8.slices_Grow_grow Znp i0 z hi0 hz0 zo none 0 0 n [] X.w zo zo (by rw[hb];omega) zo zS (λ_=>rfl) (λa ha=>by cases ha)).mono ?_;rintro e w' ⟨rfl,rfl⟩;have hge:=grownCap_ge X.w (0+n) 0 3
 obtain⟨v,H',Y,e1,e2,e3,e4⟩:=Zfg hI o (E:=1) (need:=0) (cap:=grownCap X.w (0+n) 0 3) (xs:=[]) (cs:=[]) ⟨rfl,λ_ h=>by simp at h,λi h=>by simp at h⟩ rfl (Nat.zero_le _) 3
  (Builtin.zeroCells z.cells (0+n-0)++Builtin.zeroCells z.cells (grownCap X.w (0+n) 0 3-(0+n))) (by rw[Array.size_append,Zida _ _ hzs,Zida _ _ hzs];omega) .new (.inl rfl) 0 (h1 hz)
 refine⟨_,v,H',Y,rfl,?_,e2,e3,e4⟩;rw[e1];simp;rfl
theorem Zoo(l:List (Int)):flat (l.map (V.int .i64))=l.map (V.int .i64):=by
 induction l with
 |nil=>rfl
 |cons x r ih=>unfold flat at ih⊢;rw[List.map_cons,List.flatMap_cons,ih]<;>rfl
def Zcna(c:Col)(s:Sl (Col×Sl Int)):V:=Za c 1 (λt=>Za t.1 1 (V.int .i64) t.2) s
def Zdj(l:List (Col×Sl Int)):List Int:=l.flatMap (·.2.l)
theorem Zt0:∀ t:Col×Sl Int,(Za t.1 1 (V.int .i64) t.2).cells.length=1:=λt=>by obtain⟨_,t⟩:=t;cases t<;>rfl
theorem Z0v{l:List (Col×Sl Int)}{k:Nat}{t:Col×Sl Int}(h:l[k]?=some t):Zdj (l.take (k+1))=Zdj (l.take k)++t.2.l:=by
 unfold Zdj;rw[List.take_add_one,h,List.flatMap_append];simp
theorem Z46{l:List (Col×Sl Int)}{k:Nat}:(Zdj (l.take k)).length<=(Zdj l).length:=by
 unfold Zdj
 conv=>rhs;rw[<- List.take_append_drop k l,List.flatMap_append,List.length_append]
 omega
theorem Zcv(G:Nat->V)(hG:GOk G)(c:Col)(s:Sl (Col×Sl Int))(hs:s.l.length<1000000)(hl:(Zdj s.l).length<1000000)(hne:(Zdj s.l).length≠0):
  Spec Tryz.prog G 182 [Zcna c s] Zk (λv _=>v=Za .new 1 (V.int .i64) (.mk false (Zdj s.l))):=by
 refine Zo 0 36 [.tmp 2] Tryz.func182 λX=>?_;unfold Zcna;refine Z1 ?_;refine Z1 ?_;refine Z1 ?_;refine AW.block ?_
 refine Zaa s.l.length (λk (_:Unit)=>st [(0,Za c 1 (λt=>Za t.1 1 (V.int .i64) t.2) s),(3,.int .i64 (Zdj (s.l.take k)).length),(9,Za c 1 (λt=>Za t.1 1 (V.int .i64) t.2) s),(10,.int .i64 s.l.length),(11,.int .i64 k)] [])
  (λ_ _=>True) 0 () (Nat.zero_le _) trivial (Weak.st zp zp) ?_
 intro k _ hk _ L2 hL2;refine Z1 ?_;refine Z6 ?_;refine Zm rfl (λh12=>?_) (λh12=>?_);have hk1:k<s.l.length:=zu h12;have hg:=List.getElem?_eq_getElem hk1;have htk:=Z0v hg;have hle:=Z46 (l:=s.l) (k:=k+1);generalize s.l[k]=t at hg htk;refine Z0 ?_;refine Z6 ?_;refine AW.block ?_
 have hlen:(Zdj (s.l.take (k+1))).length=(Zdj (s.l.take k)).length+t.2.l.length:=by rw[htk,List.length_append]
 have hw:IntKind.i64.wrap (((Zdj (s.l.take k)).length:Int)+(t.2.l.length:Int))=(((Zdj (s.l.take k)).length+t.2.l.length:Nat):Int):=by rw[w64 zo zo];omega
 have hnn:decide ((((Zdj (s.l.take k)).length+t.2.l.length:Nat):Int)<0)=false:=zF;refine Z1f hg ?_;refine Z1f hw ?_;refine Z1f hnn ?_;refine Z1 ?_;refine hL2 _ ⟨hk1,(),trivial,Weak.st (by rw[hlen];refine Zs ?_;exact congrArg _ (w64 zo zo)) zp⟩
 have hk1:k=s.l.length:=by simp at h12;omega
 refine Z0 ?_;rw[hk1,List.take_length];refine Z1 ?_;refine Z0ga hG 1024 (Zdj s.l).length zo (λh=>absurd h hne) λ_ g24=>?_;refine Zs ?_;refine Z1 ?_;refine AW.block ?_
 refine Zaa s.l.length (λk (g:Nat)=>st [(0,Za c 1 (λt=>Za t.1 1 (V.int .i64) t.2) s),(6,.msl 1024 g 0 (Zdj (s.l.take k)).length 1),(25,Za c 1 (λt=>Za t.1 1 (V.int .i64) t.2) s),(26,.int .i64 s.l.length),(27,.int .i64 k)] [(1024,.cells .new g 0 (flat ((Zdj (s.l.take k)).map (V.int .i64))))])
  (λ_ _=>True) 0 g24 (Nat.zero_le _) trivial (Weak.st zp zp) ?_
 intro k g hk _ L6 hL6;refine Z1 ?_;refine Z6 ?_;refine Zm rfl (λh28=>?_) (λh28=>?_);have hk1:k<s.l.length:=zu h28;have hg:=List.getElem?_eq_getElem hk1;have htk:=Z0v hg;have hle:=Z46 (l:=s.l) (k:=k+1);generalize s.l[k]=t at hg htk
 have hlen:(Zdj (s.l.take (k+1))).length=(Zdj (s.l.take k)).length+t.2.l.length:=by rw[htk,List.length_append]
 refine Z1f hg ?_;refine Z1 ?_
 have hfl:∀ l:List (Int),(flat (l.map (V.int .i64))).length=l.length:=λl=>by rw[Zoo,List.length_map]
 have hcl:List.take ((Zdj (s.l.take k)).length*1) (flat ((Zdj (s.l.take k)).map (V.int .i64)))++flat (t.2.l.map (V.int .i64))=flat ((Zdj (s.l.take (k+1))).map (V.int .i64)):=by
  rw[htk,List.map_append,Zee,Nat.mul_one,List.take_of_length_le (by rw[hfl];omega)]
 refine⟨Z9 zo zo,by rw[hfl];omega,zo,λg2=>?_⟩;rw[hcl,<- hlen];refine Z1 ?_;refine hL6 _ ⟨hk1,g2,trivial,Weak.st zw zp⟩
 have hk1:k=s.l.length:=by simp at h28;omega
 refine Z0 ?_;rw[hk1,List.take_length];refine AW.weak (Zw (λo=>o==1024) (l:=[(6,Za .new 1 (V.int .i64) (.mk false (Zdj s.l)))]) (m:=[]) ?_ trivial) ?_;refine Zs ?_;exact Z2b (f:=(V.int .i64)) (l:=Zdj s.l) (m:=1) (g:=g) (fz:=0) (c:=.new) rfl zp (λ_=>rfl);exact Zr
theorem Z2m(G:Nat->V)(hG:GOk G)(c c1:Col)(l more:Sl Int)(h1:l.l.length<400000)(h2:more.l.length<400000)(hne:l.l.length+more.l.length≠0):
  Spec Tryz.prog G 117 [Za c 1 (V.int .i64) l,Za c1 1 (V.int .i64) more] Zk (λv _=>v=Za .new 1 (V.int .i64) (.mk false (l.l++more.l))):=by
 refine Zo 0 9 [.tmp 4] Tryz.func117 λX=>?_;refine Z ?_;intro g7
 have e:Zdj [(c.ent,l),(c1.ent,more)]=l.l++more.l:=by simp[Zdj]
 refine Z8a (λo=>o==7) [Zcna .new (.mk false [(c,l),(c1,more)])] [] ⟨?_,trivial⟩ trivial ?_;exact Z2b (f:=λt:Col×Sl Int=>Za t.1 1 (V.int .i64) t.2) (l:=[(c,l),(c1,more)]) (m:=1) (g:=g7) (fz:=0) (c:=.new) rfl (by cases l<;>cases more<;>rfl) Zt0;refine Zc (r:=Za .new 1 (V.int .i64) (.mk false (l.l++more.l))) hG ?_ (args':=[Zcna Col.new.ent (.mk false [(c.ent,l),(c1.ent,more)])]) (ha:=?_) (s:=?_);exact Zr;rw[List.map_cons,List.map_nil];refine congrArg (λv=>[v]) ?_
 show V.recol Col.ent (.slice .new false 1 [Za c 1 (V.int .i64) l,Za c1 1 (V.int .i64) more])=.slice Col.new.ent false 1 [Za c.ent 1 (V.int .i64) l,Za c1.ent 1 (V.int .i64) more]
 simp only[V.recol,Zja,Z7a];have:=Zcv G hG Col.new.ent (.mk false [(c.ent,l),(c1.ent,more)]) (show(2:Nat)<1000000 by decide) (by show(Zdj [(c.ent,l),(c1.ent,more)]).length<_;rw[e,List.length_append];omega) (by show(Zdj [(c.ent,l),(c1.ent,more)]).length≠0;rw[e,List.length_append];exact hne);rw[show Zdj (Sl.mk false [(c.ent,l),(c1.ent,more)]).l=_ from e]at this;exact this
end Go.Hs
end

section
namespace Go.Hs
open Go
def Zzh(s:List UInt8):Bool:=
 let t:=Lib.trimPrefix s [45]
 t.all Zqb&&(s==[48]||(!(t==[]) && !(t.head? == some 48)))
def rdv(acc:Nat)(l:List UInt8):Nat:=l.foldl (λa c=>a*10+Z8y c) acc
theorem Z1ea:∀ (l:List UInt8) (acc:Nat),rdv acc l=acc*10^l.length+val (l.reverse.map Z8y)
 |[],acc=>by simp[rdv,val]
 |c::r,acc=>by
  have:=Z1ea r (acc*10+Z8y c);rw[show rdv acc (c::r)=rdv (acc*10+Z8y c) r from rfl,this,List.reverse_cons,List.map_append,Zzr,List.length_cons,Nat.pow_succ,List.length_map,List.length_reverse];simp only[List.map_cons,List.map_nil,val,Nat.mul_zero,Nat.add_zero];rw[Nat.add_mul,Nat.mul_assoc,Nat.mul_comm 10 (10^r.length),Nat.mul_comm (Z8y c)];omega
theorem Zeoa:∀ (l:List UInt8) (acc:Nat),acc<=rdv acc l
 |[],acc=>Nat.le_refl _
 |c::r,acc=>by
  have:=Zeoa r (acc*10+Z8y c);rw[show rdv acc (c::r)=rdv (acc*10+Z8y c) r from rfl];omega
theorem Zii:∀ (l:List UInt8) (acc:Nat),l.all Zqb=true->acc<=18446744073709551615 ->
  Lib.parseUintM 18446744073709551615 acc l=if rdv acc l<=18446744073709551615 then .ok (rdv acc l)else .range
 |[],acc,_,h=>by simp[Lib.parseUintM,rdv,h]
 |c::r,acc,hd,h=>by
  rw[List.all_cons,Bool.and_eq_true]at hd
  have hc:48<=c.toNat/\c.toNat<=57:=by have:=hd.1;unfold Zqb at this;simpa using this
  have hge:=Zeoa r (acc*10+Z8y c);have hdv:Z8y c=c.toNat-48:=rfl;rw[Lib.parseUintM,if_pos hc,show rdv acc (c::r)=rdv (acc*10+Z8y c) r from rfl]
  by_cases h1:1844674407370955162<=acc
  rw[if_pos h1,if_neg (by omega)];rw[if_neg h1]
  by_cases h2:18446744073709551615<acc*10+(c.toNat-48)
  rw[if_pos h2,if_neg (by omega)];rw[if_neg h2];exact Zii r _ hd.2 (by omega)
theorem Zji{l:List UInt8}(hl:l≠[])(hd:l.all Zqb=true):
  Lib.parseUintB 64 l=if val (l.reverse.map Z8y)<=18446744073709551615 then .ok (val (l.reverse.map Z8y))else .range:=by
 have:=Zii l 0 hd (by omega);rw[Z1ea,Nat.zero_mul,Nat.zero_add]at this;rw[Lib.parseUintB,if_neg hl];exact this
theorem Zzda{x:Int}(h : -9223372036854775808<=x/\x<=9223372036854775807):told x=(x,0):=by
 unfold told fits;rw[if_pos (decide_eq_true h)]
theorem Zg5{x:Int}(h:¬ (-9223372036854775808<=x/\x<=9223372036854775807)):told x=(0,60):=by
 unfold told fits;rw[if_neg (by simpa using h)]
theorem Zwda(s:List UInt8):Lib.trimPrefix s [45]=if s.head?=some 45 then s.drop 1 else s:=by
 cases s with
 |nil=>rfl
 |cons c r=>
  unfold Lib.trimPrefix Lib.hasPrefix
  by_cases h:c=45
  subst h;simp;have h':¬ (45:UInt8)=c:=λe=>h e.symm;simp[h,h']
theorem Z9ea(s:List UInt8):(Zzh s=false/\Zje s=(0,2))\/(Zzh s=true/\((∃ v,Lib.parseIntB 64 s=.ok v/\Zje s=(v,0))\/(Lib.parseIntB 64 s=.range/\Zje s=(0,60)))):=by
 cases s with
 |nil=>exact .inl ⟨by decide,rfl⟩
 |cons c r=>
  unfold Zzh Zje;rw[Zwda]
  by_cases hc:c=45
  subst hc;simp only[List.head?_cons,if_true,List.drop_succ_cons,List.drop_zero];have e1:((some (45:UInt8))==some 45)=true:=rfl
  have e2:((45::r:List UInt8)==[48])=false:=by simp
  simp only[e1,e2,if_true,Bool.false_or]
  by_cases hd:r.all Zqb=true
  .cases r with
   |nil=>left;simp
   |cons d q=>
    by_cases h0:d=48
    subst h0;left;simp
    right
    have h0':¬ ((some d:Option UInt8)==some 48)=true:=by simpa using h0
    refine⟨by simp[hd,h0],?_⟩;rw[if_neg (by simp only[List.head?_cons,Option.some.injEq,h0,hd,Bool.true_eq_false,reduceCtorEq,false_and,or_self,not_false_eq_true])];rw[Lib.parseIntB_minus,Zji (by simp) hd];generalize val ((d::q).reverse.map Z8y)=m
    by_cases hm:m<=9223372036854775808
    left
    refine⟨-(m:Int),?_,Zzda (by omega)⟩;rw[if_pos (by omega)];simp only[Lib.signedC];rw[if_neg (by omega)]
    right
    refine⟨?_,Zg5 (by omega)⟩
    by_cases hm2:m<=18446744073709551615
    rw[if_pos hm2];simp only[Lib.signedC];rw[if_pos (by omega)];rw[if_neg hm2];rfl
  left
  have hd':r.all Zqb=false:=by simpa using hd
  simp[hd']
  have e1:((some c:Option UInt8)==some 45)=false:=by simpa using hc
  simp only[List.head?_cons,e1,Option.some.injEq,hc,if_false,Bool.false_eq_true]
  by_cases hd:(c::r).all Zqb=true
  have hdig:48<=c.toNat/\c.toNat<=57:=by
   have:=hd;rw[List.all_cons,Bool.and_eq_true]at this;have:=this.1;unfold Zqb at this;simpa using this
  by_cases h0:c=48/\r≠[]
  left
  obtain⟨rfl,h1⟩:=h0
  have hlen:(48::r:List UInt8).length>1:=by
   cases r with
   |nil=>exact absurd rfl h1
   |cons _ _=>simp
  refine⟨by simp[h1],?_⟩;rw[if_pos (.inr (.inl ⟨rfl,.inl hlen⟩))]
  right
  refine⟨?_,?_⟩;rw[hd]
  by_cases h1:c=48
  have:r=[]:=by
   by_cases h2:r=[]
   exact h2;exact absurd ⟨h1,h2⟩ h0
  subst h1 this;rfl;simp[h1]
  rw[if_neg (by
   simp only[List.head?_cons,Option.some.injEq,hd,Bool.true_eq_false,reduceCtorEq,or_false,false_or,not_and,List.length_cons];intro h1 h2;apply h0;refine⟨h1,λh3=>?_⟩;subst h3
   simp at h2)]
  rw[Lib.parseIntB_plain 64 c r (by omega) (by omega),Zji (by simp) hd];generalize val ((c::r).reverse.map Z8y)=m
  by_cases hm:m<=9223372036854775807
  left
  refine⟨(m:Int),?_,Zzda (by omega)⟩;rw[if_pos (by omega)];simp only[Lib.signlessC];rw[if_neg (by omega)]
  right
  refine⟨?_,Zg5 (by omega)⟩
  by_cases hm2:m<=18446744073709551615
  rw[if_pos hm2];simp only[Lib.signlessC];rw[if_pos (by omega)];rw[if_neg hm2];rfl
  left
  have hd':(c::r).all Zqb=false:=by simpa using hd
  rw[hd'];exact⟨rfl,by rw[if_pos (.inr (.inr rfl))]⟩
end Go.Hs
end

section
namespace Go.Hs
open Go.Proofs
set_option maxRecDepth 10000
@[go_sem] theorem Zkka(s:List UInt8)(k:Nat):(s.drop k).take (s.length-k)=s.drop k:=List.take_of_length_le zS
theorem getE_of{l:List UInt8}{k:Nat}(h:k<l.length):l[k]?=some l[k]:=List.getElem?_eq_getElem h
theorem Zxi(G:Nat->V)(hG:GOk G)(c:UInt8):Spec Tryz.prog G 237 [.int .u8 c.toNat] Zk (λv _=>v=.bool (Zqb c)):=by
 refine Zo 0 9 [.tmp 2] Tryz.func237 λX=>?_;refine Z1 ?_
 by_cases h:48<=c.toNat
 have h1:decide ((c.toNat:Int)>=48)=true:=zT;refine Zf h1 ?_;unfold Zqb;simp[h];omega;have h1:decide ((c.toNat:Int)>=48)=false:=zF;refine Zf h1 ?_;unfold Zqb;simp[h]
theorem u8q(c:UInt8)(n:Nat)(hn:n<256):((c.toNat:Int)==(n:Int))=(c==UInt8.ofNat n):=by
 by_cases h:c.toNat=n
 have h1:c=UInt8.ofNat n:=by
  apply UInt8.toNat_inj.1;rw[h,UInt8.toNat_ofNat'];omega
 rw[h1];simp;omega
 have h1:¬ c=UInt8.ofNat n:=by
  intro e;apply h;rw[e,UInt8.toNat_ofNat'];omega
 have h2:¬ (c.toNat:Int)=(n:Int):=zo;rw[show(c==UInt8.ofNat n)=false by simpa using h1,show((c.toNat:Int)==(n:Int))=false from beq_eq_false_iff_ne.2 h2]
theorem u8q10(c:UInt8):((c.toNat:Int)==10)=(c==10):=u8q c 10 zd
theorem Zcka(c:UInt8):((c.toNat:Int)==32)=(c==32):=u8q c 32 zd
theorem Zdka(c:UInt8):((c.toNat:Int)==13)=(c==13):=u8q c 13 zd
theorem u8q95(c:UInt8):((c.toNat:Int)==95)=(c==95):=u8q c 95 zd
theorem Z19(G:Nat->V)(hG:GOk G)(c:UInt8):Spec Tryz.prog G 247 [.int .u8 c.toNat] Zk (λv _=>v=.bool (Z85 c)):=by
 refine Zo 0 5 [.tmp 2] Tryz.func247 λX=>?_;refine Z ?_;unfold Z85;rw[bne,u8q10]
theorem Zqma(G:Nat->V)(hG:GOk G)(c:UInt8):Spec Tryz.prog G 246 [.int .u8 c.toNat] Zk (λv _=>v=.bool (Z8k c)):=by
 refine Zo 0 17 [.tmp 2] Tryz.func246 λX=>?_
 have key:Z8k c=(c==32||(decide ((c.toNat:Int)>=9)&&decide ((c.toNat:Int)<=10))||c==13):=by
  unfold Z8k
  congr 3
  rw[decide_eq_decide];omega;rw[decide_eq_decide];omega
 rw[key];refine Z1 ?_
 cases h1:(c==32)with
 |true=>
  exact Zq (zi @Zcka (zi @Zdka h1))
 |false=>
  cases h2:decide ((c.toNat:Int)>=9)with
  |false=>
   exact Zq (zi @Zcka (zi @Zdka (zi h1 h2)))
  |true=>
   cases h3:decide ((c.toNat:Int)<=10)with
   |false=>
    exact Zq (zi @Zcka (zi @Zdka (zi h1 (zi h2 h3))))
   |true=>
    exact Zq (zi @Zcka (zi @Zdka (zi h1 (zi h2 h3))))
theorem Zfh(G:Nat->V)(hG:GOk G)(c:UInt8):Spec Tryz.prog G 239 [.int .u8 c.toNat] Zk (λv _=>v=.bool (Z8q c)):=by
 refine Zo 0 15 [.tmp 2] Tryz.func239 λX=>?_;refine Z1 ?_
 cases h1:(c==95)with
 |true=>
  refine Zf (zi @u8q95 h1) ?_;unfold Z8q
  rw[h1]<;>rfl
 |false=>
  have ho:orZ .u8 (c.toNat:Int) 32=((c.toNat ||| 32:Nat):Int):=by
   have:=Zboa (λc=>orZ .u8 (c.toNat:Int) 32==((c.toNat ||| 32:Nat):Int)) (by decide +kernel) c;simpa using this
  have hL:Z8q c=(decide (((c.toNat ||| 32:Nat):Int)>=97)&&decide (((c.toNat ||| 32:Nat):Int)<=122)):=by
   unfold Z8q;rw[h1,Bool.false_or]
   congr 1
   rw[decide_eq_decide];omega;rw[decide_eq_decide];omega
  rw[hL];generalize((c.toNat ||| 32:Nat):Int)=x at ho⊢
  cases h2:decide (x>=97)with
  |false=>
   exact Zq (zi @u8q95 (zi h1 (zi ho h2)))
  |true=>
   exact Zq (zi @u8q95 (zi h1 (zi ho h2)))
theorem Zrma(G:Nat->V)(hG:GOk G)(c:UInt8):Spec Tryz.prog G 240 [.int .u8 c.toNat] Zk (λv _=>v=.bool (Z9h c)):=by
 refine Zo 0 9 [.tmp 2] Tryz.func240 λX=>?_;refine Z1 ?_;unfold Z9h
 cases h1:Z8q c with
 |true=>
  refine Z1 ?_;refine Zn hG ?_ (s:=(Zfh G hG c));refine Zsf h1 ?_;exact Zr
 |false=>
  refine Z1 ?_;refine Zn hG ?_ (s:=(Zfh G hG c));refine Zsf h1 ?_;refine Zn hG ?_ (s:=(Zxi G hG c));refine Zsf h1 ?_;exact Zr
structure FnB(G:Nat->V)(f:FuncId)(p:UInt8->Bool):Prop where
 en:Z2 Tryz.prog f=true
 sp:∀ c:UInt8,Spec Tryz.prog G f [.int .u8 c.toNat] Zk (λv _=>v=.bool (p c))
theorem fDigit{G:Nat->V}(hG:GOk G):FnB G 237 Zqb:=⟨by kernel_rfl,Zxi G hG⟩
theorem fNoNl{G:Nat->V}(hG:GOk G):FnB G 247 Z85:=⟨by kernel_rfl,Z19 G hG⟩
theorem fBl{G:Nat->V}(hG:GOk G):FnB G 246 Z8k:=⟨by kernel_rfl,Zqma G hG⟩
theorem fAl{G:Nat->V}(hG:GOk G):FnB G 240 Z9h:=⟨by kernel_rfl,Zrma G hG⟩
theorem Z7j(G:Nat->V)(hG:GOk G)(s:List UInt8)(hs:s.length<1000000000000000){f:FuncId}{p:UInt8->Bool}(hf:FnB G f p):
  Spec Tryz.prog G 238 [.str s,.func (.func f) [] []] Zk (λv _=>v=.int .i64 (Zse p s)):=by
 refine Zo 0 20 [.tmp 4] Tryz.func238 λX=>?_;refine Z1 ?_;refine Z1 ?_;refine Z6 ?_;refine AW.block ?_
 refine Zaa s.length (λk (_:Unit)=>st [(0,.str s),(1,.func (.func f) [] []),(5,.int .i64 k)] []) (λk _=>Zse p s=k+Zse p (s.drop k)) 0 () (Nat.zero_le _) zS
  (Weak.st zp zp) ?_
 intro k _ hk hR L2 hL2;refine Z6 ?_
 by_cases hk1:k<s.length
 have h1:decide ((k:Int)<s.length)=true:=zT;have hg:=getE_of hk1;have hd:s.drop k=s[k]::s.drop (k+1):=List.drop_eq_getElem_cons hk1;generalize s[k]=c at hg hd;rw[hd]at hR;refine Z1f (zi h1 hg) ?_;refine CallA.pure hG hf.en ?_;refine Zs ?_;refine(hf.sp c).mono ?_;rintro _ _ rfl;refine Zsf h1 ?_;rw[Zmn]at hR;refine Zm rfl (λh4=>?_) (λh4=>?_);rw[if_pos h4]at hR;refine Z1 ?_;refine hL2 _ ⟨hk1,(),zo,Weak.st zw zp⟩;rw[if_neg (by simp[h4])]at hR;refine Z ?_;have hR:Zse p s=k+0:=hR
 rw[hR]<;>rfl
 have h1:decide ((k:Int)<s.length)=false:=zF;have hk2:k=s.length:=zo;refine Z1f h1 ?_;refine Zad rfl ?_;refine Z ?_
 rw[hR,hk2,List.drop_length]<;>rfl
def encR(r:Int×Int):V:=.tuple [.int .i64 r.1,.int .i64 r.2]
def ints(l:List Nat):List Int:=l.map (fun(d:Nat)=>(d:Int))
@[simp] theorem ints_len(l:List Nat):(ints l).length=l.length:=by simp[ints]
theorem Zem(l:List Nat)(k:Nat):val (l.drop k)=l.getD k 0+10*val (l.drop (k+1)):=by
 by_cases h:k<l.length
 .rw[List.drop_eq_getElem_cons h,val,List.getD_eq_getElem?_getD,List.getElem?_eq_getElem h]
  try rfl
 .rw[List.drop_eq_nil_of_le zo,List.drop_eq_nil_of_le zo,List.getD_eq_getElem?_getD,List.getElem?_eq_none zo]
  try rfl
theorem Z2ga{l:List Nat}(h:Dig l)(k:Nat):l.getD k 0<10:=by
 rw[List.getD_eq_getElem?_getD]
 by_cases hk:k<l.length
 rw[List.getElem?_eq_getElem hk];exact h _ (List.getElem_mem hk);rw[List.getElem?_eq_none zo]
 decide
theorem Zxna{K n A B o V:Nat}(h:o+K*(n+10*A+10*B)=V):(o+K*(n%10))+(K*10)*(n/10+A+B)=V:=by
 rw[<- h,Nat.mul_assoc,Nat.add_assoc,<- Nat.mul_add]
 congr 2
 omega
structure AddI(la lb:List Nat)(M k:Nat)(out:List Nat)(cr:Nat):Prop where
 len:out.length=k
 dig:Dig out
 hcr:cr<=1
 v:val out+10^k*(cr+val (la.drop k)+val (lb.drop k))=val la+val lb
 last:k=M+1->cr=0
 emp:M=0->k=0/\cr=0
theorem AddI.zero(la lb:List Nat)(M:Nat):AddI la lb M 0 [] 0:={ len:=rfl,dig:=λd hd=>by simp at hd,hcr:=zo,v:=by simp[val],last:=λ_=>rfl,emp:=λ_=>⟨rfl,rfl⟩ }
theorem AddI.step{la lb:List Nat}{M k:Nat}{out:List Nat}{cr:Nat}(h:AddI la lb M k out cr)(hM:M=max la.length lb.length)(da:Dig la)(db:Dig lb)(hgo:k<M\/cr>0){n:Nat}(hn:n=la.getD k 0+lb.getD k 0+cr)(hk:k<=M):
  AddI la lb M (k+1) (out++[n%10]) (n/10):=by
 have h1:=Z2ga da k;have h2:=Z2ga db k;have h3:=h.hcr;refine⟨by simp[h.len],Dig.app.2 ⟨h.dig,Dig.one zo⟩,zo,?_,λe=>?_,λe=>?_⟩;have hv:=h.v;rw[Zem la k,Zem lb k]at hv;rw[Zzr,h.len,Nat.pow_succ]
 have e:val out+10^k*(n+10*val (la.drop (k+1))+10*val (lb.drop (k+1)))=val la+val lb:=by
  rw[<- hv,hn]
  congr 2
  omega
 simpa[val]using Zxna e
 have e1:la.getD k 0=0:=by rw[List.getD_eq_getElem?_getD,List.getElem?_eq_none zo]<;>rfl
 have e2:lb.getD k 0=0:=by rw[List.getD_eq_getElem?_getD,List.getElem?_eq_none zo]<;>rfl
 omega;have:=h.emp e;omega
theorem AddI.done{la lb:List Nat}{M k:Nat}{out:List Nat}{cr:Nat}(h:AddI la lb M k out cr)(hM:M=max la.length lb.length)(hno:¬ (k<M\/cr>0)):val out=val la+val lb/\decide (la=[]/\lb=[])=decide (out=[]):=by
 have hc0:cr=0:=zo;have hv:=h.v;rw[List.drop_eq_nil_of_le (show la.length<=k by omega),List.drop_eq_nil_of_le (show lb.length<=k by omega),hc0]at hv;refine⟨by simpa[val]using hv,?_⟩;rw[decide_eq_decide,<- List.length_eq_zero_iff,<- List.length_eq_zero_iff,<- List.length_eq_zero_iff,h.len];have:=h.emp;omega
structure TakeI(la lb:List Nat)(k:Nat)(out:List Nat)(br:Nat):Prop where
 len:out.length=k
 dig:Dig out
 hbr:br<=1
 v:(val out:Int)+(10:Int)^k*((val (la.drop k):Int)-br-val (lb.drop k))=val la-val lb
theorem TakeI.zero(la lb:List Nat):TakeI la lb 0 [] 0:={ len:=rfl,dig:=λd hd=>by simp at hd,hbr:=zo,v:=by simp[val] }
theorem Z4da{K x A B o V b:Int}{d br':Int}(h:o+K*(x+10*A-b-(d+10*B))=V){n:Int}(hn:n=x-d-b+10*br'):(o+K*n)+(K*10)*(A-br'-B)=V:=by
 rw[<- h,hn,Int.mul_assoc,Int.add_assoc,<- Int.mul_add]
 congr 2
 omega
theorem TakeI.step{la lb:List Nat}{k:Nat}{out:List Nat}{br:Nat}(h:TakeI la lb k out br){n br':Nat}(hn:(n:Int)=(la.getD k 0:Nat)-(lb.getD k 0:Nat)-br+10*br')(hn10:n<10)(hb:br'<=1):
  TakeI la lb (k+1) (out++[n]) br':=by
 refine⟨by simp[h.len],Dig.app.2 ⟨h.dig,Dig.one hn10⟩,hb,?_⟩;have hv:=h.v;rw[Zem la k,Zem lb k]at hv;rw[Zzr,h.len,Int.pow_succ]
 have e:(val out:Int)+(10:Int)^k*(((la.getD k 0:Nat):Int)+10*(val (la.drop (k+1)):Int)-(br:Int)-(((lb.getD k 0:Nat):Int)+10*(val (lb.drop (k+1)):Int)))=val la-val lb:=by
  rw[<- hv]
  congr 2
 have:=Z4da e hn;simpa[val]using this
theorem TakeI.done{la lb:List Nat}{out:List Nat}{br:Nat}(h:TakeI la lb la.length out br)(hl:lb.length<=la.length)(hv:val lb<=val la):val out=val la-val lb:=by
 have h1:=h.v;rw[List.drop_eq_nil_of_le (Nat.le_refl _),List.drop_eq_nil_of_le hl]at h1;have h2:=Zaoa h.dig;rw[h.len]at h2;have h3:=h.hbr;have h4:((10^la.length:Nat):Int)=(10:Int)^la.length:=zS;have hb:br=0\/br=1:=zo
 rcases hb with rfl|rfl
 simp[val]at h1;omega;simp[val]at h1;generalize(10:Int)^la.length=K at *
 have:K * -1 = -K:=by rw[Int.mul_neg,Int.mul_one]
 omega
end Go.Hs
end

section
namespace Go.Proofs
open Go.Shelf
def Zjp:Go.Shelf.Ren:=⟨fun|174=>326|247=>334|245=>335|287=>342|279=>343|280=>344|281=>345|282=>346|321=>349|322=>350|316=>351|171=>353|205=>352|243=>354|246=>355|283=>356|284=>357|285=>358|286=>359|129=>196|317=>360|318=>361|319=>362|320=>363|337=>364|338=>365|n=>n,fun|9=>9|3=>3|2=>2|75=>363|85=>364|4=>4|167=>381|5=>5|53=>221|175=>382|46=>172|168=>384|37=>146|0=>0|210=>406|21=>21|127=>409|145=>412|143=>410|171=>414|173=>416|212=>419|51=>219|20=>20|213=>420|232=>421|233=>422|80=>346|n=>n,fun|15=>5|16=>2|17=>6|18=>7|19=>8|n=>n⟩
theorem Zkp:Go.Proofs.LaysC.n174 Tryz.prog Zjp:={
 mixed:=by kernel_rfl
 f129:=Tryz.func196.trans (congrArg some (by kernel_rfl))
 f171:=Tryz.func353.trans (congrArg some (by kernel_rfl))
 f174:=Tryz.func326.trans (congrArg some (by kernel_rfl))
 f205:=Tryz.func352.trans (congrArg some (by kernel_rfl))
 f243:=Tryz.func354.trans (congrArg some (by kernel_rfl))
 f245:=Tryz.func335.trans (congrArg some (by kernel_rfl))
 f246:=Tryz.func355.trans (congrArg some (by kernel_rfl))
 f247:=Tryz.func334.trans (congrArg some (by kernel_rfl))
 f279:=Tryz.func343.trans (congrArg some (by kernel_rfl))
 f280:=Tryz.func344.trans (congrArg some (by kernel_rfl))
 f281:=Tryz.func345.trans (congrArg some (by kernel_rfl))
 f282:=Tryz.func346.trans (congrArg some (by kernel_rfl))
 f283:=Tryz.func356.trans (congrArg some (by kernel_rfl))
 f284:=Tryz.func357.trans (congrArg some (by kernel_rfl))
 f285:=Tryz.func358.trans (congrArg some (by kernel_rfl))
 f286:=Tryz.func359.trans (congrArg some (by kernel_rfl))
 f287:=Tryz.func342.trans (congrArg some (by kernel_rfl))
 f316:=Tryz.func351.trans (congrArg some (by kernel_rfl))
 f317:=Tryz.func360.trans (congrArg some (by kernel_rfl))
 f318:=Tryz.func361.trans (congrArg some (by kernel_rfl))
 f319:=Tryz.func362.trans (congrArg some (by kernel_rfl))
 f320:=Tryz.func363.trans (congrArg some (by kernel_rfl))
 f321:=Tryz.func349.trans (congrArg some (by kernel_rfl))
 f322:=Tryz.func350.trans (congrArg some (by kernel_rfl))
 f337:=Tryz.func364.trans (congrArg some (by kernel_rfl))
 f338:=Tryz.func365.trans (congrArg some (by kernel_rfl))
 t0:=Tryz.underlying0
 a0:=Tryz.isAgg0
 z0:=Tryz.sizeOf0
 v0:=Tryz.zeroValue0
 t2:=Tryz.underlying2
 a2:=Tryz.isAgg2
 z2:=Tryz.sizeOf2
 v2:=Tryz.zeroValue2
 t3:=Tryz.underlying3
 a3:=Tryz.isAgg3
 z3:=Tryz.sizeOf3
 v3:=Tryz.zeroValue3
 t4:=Tryz.underlying4
 a4:=Tryz.isAgg4
 z4:=Tryz.sizeOf4
 v4:=Tryz.zeroValue4
 t5:=Tryz.underlying5
 a5:=Tryz.isAgg5
 z5:=Tryz.sizeOf5
 v5:=Tryz.zeroValue5
 t9:=Tryz.underlying9
 a9:=Tryz.isAgg9
 z9:=Tryz.sizeOf9
 v9:=Tryz.zeroValue9
 t20:=Tryz.underlying20
 a20:=Tryz.isAgg20
 z20:=Tryz.sizeOf20
 v20:=Tryz.zeroValue20
 t21:=Tryz.underlying21
 a21:=Tryz.isAgg21
 z21:=Tryz.sizeOf21
 v21:=Tryz.zeroValue21
 t37:=Tryz.underlying146
 a37:=Tryz.isAgg146
 z37:=Tryz.sizeOf146
 v37:=Tryz.zeroValue146
 t46:=Tryz.underlying172
 a46:=Tryz.isAgg172
 z46:=Tryz.sizeOf172
 v46:=Tryz.zeroValue172
 t51:=Tryz.underlying219
 a51:=Tryz.isAgg219
 z51:=Tryz.sizeOf219
 v51:=Tryz.zeroValue219
 t53:=Tryz.underlying221
 a53:=Tryz.isAgg221
 z53:=Tryz.sizeOf221
 v53:=Tryz.zeroValue221
 t75:=Tryz.underlying363
 a75:=Tryz.isAgg363
 z75:=Tryz.sizeOf363
 v75:=Tryz.zeroValue363
 t85:=Tryz.underlying364
 a85:=Tryz.isAgg364
 z85:=Tryz.sizeOf364
 v85:=Tryz.zeroValue364
 t127:=Tryz.underlying409
 a127:=Tryz.isAgg409
 z127:=Tryz.sizeOf409
 v127:=Tryz.zeroValue409
 t143:=Tryz.underlying410
 a143:=Tryz.isAgg410
 z143:=Tryz.sizeOf410
 v143:=Tryz.zeroValue410
 t145:=Tryz.underlying412
 a145:=Tryz.isAgg412
 z145:=Tryz.sizeOf412
 v145:=Tryz.zeroValue412
 t167:=Tryz.underlying381
 a167:=Tryz.isAgg381
 z167:=Tryz.sizeOf381
 v167:=Tryz.zeroValue381
 t168:=Tryz.underlying384
 a168:=Tryz.isAgg384
 z168:=Tryz.sizeOf384
 v168:=Tryz.zeroValue384
 t171:=Tryz.underlying414
 a171:=Tryz.isAgg414
 z171:=Tryz.sizeOf414
 v171:=Tryz.zeroValue414
 t173:=Tryz.underlying416
 a173:=Tryz.isAgg416
 z173:=Tryz.sizeOf416
 v173:=Tryz.zeroValue416
 t175:=Tryz.underlying382
 a175:=Tryz.isAgg382
 z175:=Tryz.sizeOf382
 v175:=Tryz.zeroValue382
 t210:=Tryz.underlying406
 a210:=Tryz.isAgg406
 z210:=Tryz.sizeOf406
 v210:=Tryz.zeroValue406
 t212:=Tryz.underlying419
 a212:=Tryz.isAgg419
 z212:=Tryz.sizeOf419
 v212:=Tryz.zeroValue419
 t213:=Tryz.underlying420
 a213:=Tryz.isAgg420
 z213:=Tryz.sizeOf420
 t232:=Tryz.underlying421
 a232:=Tryz.isAgg421
 z232:=Tryz.sizeOf421
 v232:=Tryz.zeroValue421
 t233:=Tryz.underlying422
 a233:=Tryz.isAgg422
 z233:=Tryz.sizeOf422
 v233:=Tryz.zeroValue422
 g15:=by kernel_rfl
 g16:=by kernel_rfl
 g17:=by kernel_rfl
 g18:=by kernel_rfl
 g19:=by kernel_rfl
 t80:=Tryz.underlying346
 a80:=Tryz.isAgg346
 z80:=Tryz.sizeOf346
 v80:=Tryz.zeroValue346
 i0:=by kernel_rfl
 i2:=by kernel_rfl
 i3:=by kernel_rfl
 i4:=by kernel_rfl
 i5:=by kernel_rfl
 i9:=by kernel_rfl
 i20:=by kernel_rfl
 i21:=by kernel_rfl
 i37:=by kernel_rfl
 i46:=by kernel_rfl
 i51:=by kernel_rfl
 i53:=by kernel_rfl
 i75:=by kernel_rfl
 i80:=by kernel_rfl
 i85:=by kernel_rfl
 i127:=by kernel_rfl
 i143:=by kernel_rfl
 i145:=by kernel_rfl
 i167:=by kernel_rfl
 i168:=by kernel_rfl
 i171:=by kernel_rfl
 i173:=by kernel_rfl
 i175:=by kernel_rfl
 i210:=by kernel_rfl
 i212:=by kernel_rfl
 i232:=by kernel_rfl
 i233:=by kernel_rfl
 m15:=by kernel_rfl
 m16:=by kernel_rfl
 m17:=by kernel_rfl
 m18:=by kernel_rfl
 m19:=by kernel_rfl
 c0:=by kernel_rfl
 c2:=by kernel_rfl
 c3:=by kernel_rfl
 c4:=by kernel_rfl
 c5:=by kernel_rfl
 c9:=by kernel_rfl
 c20:=by kernel_rfl
 c21:=by kernel_rfl
 c37:=by kernel_rfl
 c46:=by kernel_rfl
 c51:=by kernel_rfl
 c53:=by kernel_rfl
 c75:=by kernel_rfl
 c80:=by kernel_rfl
 c85:=by kernel_rfl
 c127:=by kernel_rfl
 c143:=by kernel_rfl
 c145:=by kernel_rfl
 c167:=by kernel_rfl
 c168:=by kernel_rfl
 c171:=by kernel_rfl
 c173:=by kernel_rfl
 c175:=by kernel_rfl
 c210:=by kernel_rfl
 c212:=by kernel_rfl
 c213:=by kernel_rfl
 c232:=by kernel_rfl
 c233:=by kernel_rfl }
def Zfp:Go.Shelf.Ren:=⟨fun|101=>333|208=>341|206=>257|n=>n,fun|9=>9|4=>4|3=>3|n=>n,fun|n=>n⟩
theorem Zm2:Go.Proofs.Lays.n101 Tryz.prog Zfp:={
 mixed:=by kernel_rfl
 f101:=Tryz.func333.trans (congrArg some (by kernel_rfl))
 f206:=Tryz.func257.trans (congrArg some (by kernel_rfl))
 f208:=Tryz.func341.trans (congrArg some (by kernel_rfl))
 t3:=Tryz.underlying3
 a3:=Tryz.isAgg3
 z3:=Tryz.sizeOf3
 v3:=Tryz.zeroValue3
 t4:=Tryz.underlying4
 a4:=Tryz.isAgg4
 z4:=Tryz.sizeOf4
 v4:=Tryz.zeroValue4
 t9:=Tryz.underlying9
 a9:=Tryz.isAgg9
 z9:=Tryz.sizeOf9
 v9:=Tryz.zeroValue9 }
end Go.Proofs
end

section
namespace Go.Hs
open Go.Proofs
set_option maxRecDepth 10000
theorem Zan(G:Nat->V)(s p:List UInt8):Spec Tryz.prog G 333 [.str s,.str p] Zk (λv _=>v=.str (Lib.trimPrefix s p)):=by
 refine Zrd λX cargs _ _ hA=>?_;obtain⟨x,y,rfl,hx,hy⟩:=hA.two;obtain⟨s',rfl,rfl⟩:=hx.str_inv;obtain⟨p',rfl,rfl⟩:=hy.str_inv;refine(show Calls Tryz.prog 333 _ _ _ from Any.strings_TrimPrefix Zm2 s' p' X.w).mono ?_;rintro e w' ⟨rfl,rfl⟩;exact⟨_,_,rfl,RowKit.Below.refl _ _,.str _ _ rfl,zS⟩
theorem u8_inj{c:UInt8}(h:c.toNat=48):c=48:=UInt8.toNat_inj.1 h
theorem Z5t(G:Nat->V)(hG:GOk G)(s:List UInt8)(hs:s.length<1000000):Spec Tryz.prog G 325 [.str s] Zk (λv _=>v=.bool (Zzh s)):=by
 refine Zo 0 34 [.tmp 2] Tryz.func325 λX=>?_;refine Z1 ?_;refine Z1 ?_;refine Zn hG ?_ (s:=(Zan G s [45]));have htl:=Lib.trimPrefix_le s [45];have hW:Zzh s=((Lib.trimPrefix s [45]).all Zqb&&(s==[48]||(!(Lib.trimPrefix s [45]==[]) && !((Lib.trimPrefix s [45]).head? == some 48)))):=rfl;generalize Lib.trimPrefix s [45]=t at htl hW⊢;refine Zs ?_;refine Z1 ?_;refine AW.block ?_
 refine Zaa t.length (λk (_:Unit)=>st [(0,.str s),(3,.str t),(7,.str t),(8,.int .i64 t.length),(9,.int .i64 k)] []) (λk _=>(t.take k).all Zqb=true) 0 () (Nat.zero_le _) rfl
  (Weak.st zp zp) ?_
 intro k _ hk hI L2 hL2;refine Z1 ?_;refine Z6 ?_;refine Zm rfl (λh4=>?_) (λh4=>?_)
 have hk1:k<t.length:=by have:=of_decide_eq_true h4;omega
 refine Z0 ?_;have g2:=List.getElem?_eq_getElem hk1
 have htk:t.take (k+1)=t.take k++[t[k]]:=by rw[List.take_succ_eq_append_getElem hk1]
 generalize t[k]=c at g2 htk;refine Z1f g2 ?_
 by_cases hc:Zqb c=true
 have hc2:48<=c.toNat/\c.toNat<=57:=by unfold Zqb at hc;simpa using hc
 have b1:decide ((c.toNat:Int)<48)=false:=zF;have b2:decide ((c.toNat:Int)>57)=false:=zF;refine Z1f (zi g2 (zi b1 b2)) ?_;refine Zad rfl ?_;refine Z1 ?_;refine hL2 _ ⟨hk1,(),by rw[htk,List.all_append,hI];simp[hc],Weak.st (by refine Zs ?_;exact congrArg _ (by rw[w64 zo zo];omega)) zp⟩
 have hall:t.all Zqb=false:=by
  rw[<- List.take_append_drop (k+1) t,List.all_append,htk,List.all_append];have:Zqb c=false:=zu hc;simp[this]
 have hc2:c.toNat<48\/57<c.toNat:=by
  rcases Nat.lt_or_ge c.toNat 48 with h|h
  exact .inl h
  rcases Nat.lt_or_ge 57 c.toNat with h1|h1
  exact .inr h1;exact absurd (by unfold Zqb;simp[h,h1]) hc
 rcases hc2 with h|h
 have b1:decide ((c.toNat:Int)<48)=true:=zT;refine Z1f (zi g2 b1) ?_;refine Zm rfl (λh7=>?_) (λh7=>?_);refine Z ?_
 rw[hW,hall]<;>rfl
 cases h7;have b1:decide ((c.toNat:Int)<48)=false:=zF;have b2:decide ((c.toNat:Int)>57)=true:=zT;refine Z1f (zi g2 (zi b1 b2)) ?_;refine Zm rfl (λh7=>?_) (λh7=>?_);refine Z ?_
 rw[hW,hall]<;>rfl
 cases h7
 have hk1:k=t.length:=by have:=of_decide_eq_false h4;omega
 refine Z0 ?_;rw[hk1,List.take_length]at hI;rw[hI]at hW
 by_cases h0:s=[48]
 have b1:(s==[48])=true:=zu h0;refine Zf b1 ?_
 rw[hW,b1]<;>rfl
 .have b1:(s==[48])=false:=zu h0
  cases t with
  |nil=>
   refine Zf b1 ?_
   rw[hW,b1]<;>rfl
  |cons c r=>
   refine Zf b1 ?_;rw[hW,b1]
   by_cases hc:c=48
   subst hc;rfl;have h1:((c.toNat:Int) != 48)=true:=bne_iff_ne.2 λh=>hc (u8_inj zo);have h2:((c::r).head? == some 48)=false:=zu hc
   rw[h1,h2]<;>rfl
end Go.Hs
end

section
namespace Go.Proofs.NumD
open Go.RowKit Go.Extern.Stop Go.Stop Go.Extern
set_option maxRecDepth 100000
theorem Zvma(v:Value)(w:World):(Extern.ReflectliteType.typeOf #[.iface 410 v]).run Tryz.prog w=.ok (.iface 388 (.agg #[.pointer (some ⟨9,410,none⟩)])) w:=by kernel_rfl
theorem Z9u (w:World):((Extern.ReflectliteType.method fun t=>do Extern.Rtype.noPackHeld "Comparable" t;pure (.bool (← typeInfo t).comparable)) #[.agg #[.pointer (some ⟨9,410,none⟩)]]).run Tryz.prog w = .ok (.bool true) w:=by kernel_rfl
theorem Zfq(w:World):(callFunc 391 #[.agg #[.pointer (some ⟨9,410,none⟩)]]).run Tryz.prog w=.ok (.value (.bool true)) w:=by
 rw [@run_callFunc_extern Tryz.prog 391 _ (Extern.ReflectliteType.method fun t=>do Extern.Rtype.noPackHeld "Comparable" t;pure (.bool (← typeInfo t).comparable)) Tryz.func391 (by kernel_rfl) (by kernel_rfl) (by kernel_rfl) (by kernel_rfl),Z9u]
 try rfl
theorem Z8j (v:Value) (w:World):(Go.method 554 388 v "Comparable").run Tryz.prog w = .ok (391,v) w:=by kernel_rfl
theorem isComp:(Tryz.prog.info? 410).map (·.comparable)=some true:=by kernel_rfl
theorem isSize:(Tryz.prog.info? 412).map (·.size)=some 1:=by kernel_rfl
theorem noIsW(v:Value)(xT:TypeId)(w:World):(Instr.typeAssert (.iface 384 v) xT 390 true).run Tryz.prog w=.ok (.tuple #[.nilIface,.bool false]) w:=run_typeAssert_lacksB Tryz.underlying390 (by kernel_rfl) (by kernel_rfl) v xT w
theorem Zaaa(v:Value)(xT:TypeId)(w:World):(Instr.typeAssert (.iface 384 v) xT 393 true).run Tryz.prog w=.ok (.tuple #[.iface 384 v,.bool true]) w:=run_typeAssert_hasB Tryz.underlying393 (by kernel_rfl) v xT w
theorem Z3u (v:Value) (w:World):(Go.method 554 384 v "Unwrap").run Tryz.prog w = .ok (387,v) w:=by kernel_rfl
theorem is_nil(b:Addr)(w:World):
  Calls Tryz.prog 327 #[.nilIface,.iface 410 (.pointer (some b))] w λe w'=>e=.returned (.bool false)/\w'=w:=by
 have hn:=run_eql_iface_nil_left (P:=Tryz.prog) w 410 (.pointer (some b)) Tryz.underlying363
 go_enter Tryz.func327,Tryz.ntmps327
 go_wp2
 go_ret
 exact⟨rfl,rfl⟩
theorem is_num(pb po:Nat)(b:Addr)(w:World)(h1:w.cell? ⟨pb,po+2,none⟩=some (.iface 410 (.pointer (some b)))):
  Calls Tryz.prog 327 #[.iface 384 (.pointer (some ⟨pb,po,none⟩)),.iface 410 (.pointer (some b))] w λe w'=>e=.returned (.bool true)/\w'=w:=by
 obtain⟨i,hi,hcmp⟩:=Option.map_eq_some_iff.1 isComp;obtain⟨j,hj,hjs⟩:=Option.map_eq_some_iff.1 isSize;have h8 := @run_callFunc_extern Tryz.prog 336 _ Extern.ReflectliteType.typeOf Tryz.func336 (by kernel_rfl) (by kernel_rfl) (by kernel_rfl) (by kernel_rfl);have hC:=Zfq;have tT:=Zvma;have mR:=Z8j;have nW:=noIsW;have uW:=Zaaa;have mU:=Z3u;have heq:=run_eql_iface_ptr_same (P:=Tryz.prog) w b Tryz.underlying363 Tryz.underlying410 hi hcmp hj;have hty:=run_eql_iface_types (P:=Tryz.prog) 384 410 (.pointer (some ⟨pb,po,none⟩)) (.pointer (some b)) Tryz.underlying363 (by decide) w
 go_enter Tryz.func327,Tryz.ntmps327
 go_wp2
 refine wp_loop_rounds 2 ?_;rw[rounds_succ]
 go_wp2
 rw[rounds_succ]
 go_wp2
 go_ret
 exact⟨rfl,rfl⟩
end Go.Proofs.NumD
end

section
namespace Go.Hs
open Go.Proofs Go.RowKit
set_option maxRecDepth 100000
theorem Zwr(s:ByteArray)(hs:s.data.toList.length<1000000)(w:World):Calls Tryz.prog 325 #[.string s] w λe w'=>e=.returned (.bool (Zzh s.data.toList))/\Below w.heap.size w w':=by
 refine((Z5t gTop gTop_ok s.data.toList hs).toCalls (Z04 s)).mono ?_;rintro e w' ⟨c,v,H',Y,rfl,hr,rfl,hb⟩;exact⟨by rw[hr.bool_inv],hb⟩
theorem Z9z(s:ByteArray)(hs:s.data.toList.length<1000000)(v:Int)(h:Lib.parseIntB 64 s.data.toList=.ok v)(w:World):Calls Tryz.prog 326 #[.string s,.int .i64 10,.int .i64 64] w λe w'=>e=.returned (.tuple #[.int .i64 v,.nilIface])/\Below w.heap.size w w':=by
 refine(show Calls Tryz.prog 326 _ _ _ from Any.strconv_ParseInt_10_at64_ok Zkp s (by rw[Lib.size_eq];omega) v h w).mono ?_;rintro e w' ⟨rfl,rfl|⟨t,rfl⟩⟩;exact⟨rfl,Below.refl _ _⟩;exact⟨rfl,Lib.bytesWorld_below _ _ _⟩
theorem Z1p(s:ByteArray)(hs:s.data.toList.length<1000000)(h:Lib.parseIntB 64 s.data.toList=.range)(te:TypeId)(pe:Value)(w:World)(hv:w.cell? ⟨2,0,none⟩=some (.iface te pe)):Calls Tryz.prog 326 #[.string s,.int .i64 10,.int .i64 64] w λe w'=>∃ N n,e=.returned (.tuple #[.int .i64 n,.iface 384 (.pointer (some ⟨N,0,none⟩))])/\w'.cell? ⟨N,2,none⟩=some (.iface te pe)/\Below w.heap.size w w':=by
 refine(show Calls Tryz.prog 326 _ _ _ from Any.strconv_ParseInt_10_at64_range Zkp s (by rw[Lib.size_eq];omega) h _ w hv (.inr ⟨_,_,rfl⟩)).mono ?_;rintro e w' ⟨N,rfl,_,hN,hb⟩;exact⟨N,_,rfl,by simp[World.cell?,hN],hb⟩
theorem Z8z(s:ByteArray)(hs:s.data.toList.length<1000000)(b:Addr)(w:World)(hv:w.cell? ⟨2,0,none⟩=some (.iface 410 (.pointer (some b)))):
  Calls Tryz.prog 319 #[.string s] w λe w'=>e=.returned (.tuple #[.int .i64 (Zje s.data.toList).1,.int .i64 (Zje s.data.toList).2])/\Below w.heap.size w w':=by
 have hw:=Zwr s hs;have lt:=Lib.lt_of_cell hv
 rcases Z9ea s.data.toList with ⟨h1,h2⟩|⟨h1,⟨v,h2,h3⟩|⟨h2,h3⟩⟩
 .rw[h1]at hw
  rw[h2]
  try clear h1 h2
  go_enter Tryz.func319,Tryz.ntmps319
  go_wp2_with (go_at_call 325;refine(hw _).mono ?_;rintro e W1 ⟨rfl,hb1⟩)
  go_wp2
  go_ret2
  exact⟨rfl,hb1⟩
 .rw[h1]at hw
  rw[h3];have hp:=Z9z s hs v h2;have hn:=NumD.is_nil b
  try clear h1 h2 h3
  go_enter Tryz.func319,Tryz.ntmps319
  go_wp2_with (go_at_call 325;refine(hw _).mono ?_;rintro e W1 ⟨rfl,hb1⟩)
  have hv1:W1.cell? ⟨2,0,none⟩=some (.iface 410 (.pointer (some b))):=(hb1.cell lt).trans hv
  go_wp2_with (go_at_call 326;refine(hp _).mono ?_)
  rintro e W2 ⟨rfl,hb2⟩;have hv2:W2.cell? ⟨2,0,none⟩=some (.iface 410 (.pointer (some b))):=(hb2.cell (Nat.lt_of_lt_of_le lt hb1.size)).trans hv1
  go_wp2_with (go_at_call 327;refine(hn _).mono ?_;rintro e W3 ⟨rfl,rfl⟩)
  go_wp2
  go_ret2
  exact⟨rfl,hb1.trans (hb2.mono hb1.size)⟩
 .rw[h1]at hw
  rw[h3];have hp:=Z1p s hs h2 410 (.pointer (some b))
  try clear h1 h2 h3
  go_enter Tryz.func319,Tryz.ntmps319
  go_wp2_with (go_at_call 325;refine(hw _).mono ?_;rintro e W1 ⟨rfl,hb1⟩)
  have hv1:W1.cell? ⟨2,0,none⟩=some (.iface 410 (.pointer (some b))):=(hb1.cell lt).trans hv
  go_wp2_with (go_at_call 326;refine(hp _ ?_).mono ?_)
  exact hv1;rintro e W2 ⟨N,n,rfl,hN,hb2⟩;have hv2:W2.cell? ⟨2,0,none⟩=some (.iface 410 (.pointer (some b))):=(hb2.cell (Nat.lt_of_lt_of_le lt hb1.size)).trans hv1;have hq:=NumD.is_num N 0 b W2 hN
  go_wp2_with (go_at_call 327;refine hq.mono ?_;rintro e W3 ⟨rfl,rfl⟩)
  go_wp2
  go_ret2
  exact⟨rfl,hb1.trans (hb2.mono hb1.size)⟩
end Go.Hs
end

section
namespace Go.Hs
open Go.Proofs
set_option maxRecDepth 10000
structure GNum(G:Nat->V):Prop where
 ok:GOk G
 er:∃ c c' v,G 2=.view c (.iface 410 (.view c' v))
 tab:∃ c,G 6=.view c (.agg (Lib.pow10Tab.map (V.int .u64)))
theorem Zf0(G:Nat->V)(hG:GNum G)(s:List UInt8)(hs:s.length<1000000):Spec Tryz.prog G 319 [.str s] Zk (λv _=>v=encR (Zje s)):=by
 refine Zrd λX cargs _ hX hA=>?_;obtain⟨x,rfl,hx⟩:=hA.one;obtain⟨s',rfl,rfl⟩:=hx.str_inv;obtain⟨c,c',v,he⟩:=hG.er;have h0:=(hX 2).rel;rw[he]at h0;obtain⟨f,hf⟩:=h0.view_inv;obtain⟨h1,h2⟩:=hf 0 (by simp[V.cells]);have h2:Rel X (f 0) (.iface 410 (.view c' v)):=h2;generalize f 0=y at h1 h2
 cases h2 with
 |iface t x _ h3=>
  cases h3 with
  |view _ _ b off f' _ _=>
   refine(Z8z s' hs ⟨b,off,none⟩ X.w h1).mono ?_;rintro e w' ⟨rfl,hb⟩;refine⟨_,_,rfl,hb,?_,rfl⟩;refine .tuple _ _ rfl λi h1 h2=>?_
   match i,h1 with
   |0,_=>exact .int _ _
   |1,_=>exact .int _ _
end Go.Hs
end

section
namespace Go.Proofs
open Go.Shelf
def Zlp:Go.Shelf.Ren:=⟨fun|99=>236|206=>257|n=>n,fun|9=>9|4=>4|3=>3|n=>n,fun|n=>n⟩
theorem Zo2:Go.Proofs.Lays.n99 Tryz.prog Zlp:={
 mixed:=by kernel_rfl
 f99:=Tryz.func236.trans (congrArg some (by kernel_rfl))
 f206:=Tryz.func257.trans (congrArg some (by kernel_rfl))
 t3:=Tryz.underlying3
 a3:=Tryz.isAgg3
 z3:=Tryz.sizeOf3
 v3:=Tryz.zeroValue3
 t4:=Tryz.underlying4
 a4:=Tryz.isAgg4
 z4:=Tryz.sizeOf4
 v4:=Tryz.zeroValue4
 t9:=Tryz.underlying9
 a9:=Tryz.isAgg9
 z9:=Tryz.sizeOf9
 v9:=Tryz.zeroValue9 }
def Zop:Go.Shelf.Ren:=⟨fun|144=>241|143=>258|219=>274|217=>296|225=>297|224=>298|267=>299|266=>316|314=>317|n=>n,fun|9=>9|4=>4|3=>3|5=>5|46=>172|146=>349|51=>219|n=>n,fun|1=>1|n=>n⟩
theorem Zp2:Go.Proofs.Lays.n144 Tryz.prog Zop:={
 mixed:=by kernel_rfl
 f143:=Tryz.func258.trans (congrArg some (by kernel_rfl))
 f144:=Tryz.func241.trans (congrArg some (by kernel_rfl))
 f217:=Tryz.func296.trans (congrArg some (by kernel_rfl))
 f219:=Tryz.func274.trans (congrArg some (by kernel_rfl))
 f224:=Tryz.func298.trans (congrArg some (by kernel_rfl))
 f225:=Tryz.func297.trans (congrArg some (by kernel_rfl))
 f266:=Tryz.func316.trans (congrArg some (by kernel_rfl))
 f267:=Tryz.func299.trans (congrArg some (by kernel_rfl))
 f314:=Tryz.func317.trans (congrArg some (by kernel_rfl))
 t3:=Tryz.underlying3
 a3:=Tryz.isAgg3
 z3:=Tryz.sizeOf3
 v3:=Tryz.zeroValue3
 t4:=Tryz.underlying4
 a4:=Tryz.isAgg4
 z4:=Tryz.sizeOf4
 v4:=Tryz.zeroValue4
 t5:=Tryz.underlying5
 a5:=Tryz.isAgg5
 z5:=Tryz.sizeOf5
 v5:=Tryz.zeroValue5
 t9:=Tryz.underlying9
 a9:=Tryz.isAgg9
 z9:=Tryz.sizeOf9
 v9:=Tryz.zeroValue9
 t46:=Tryz.underlying172
 a46:=Tryz.isAgg172
 z46:=Tryz.sizeOf172
 v46:=Tryz.zeroValue172
 t51:=Tryz.underlying219
 a51:=Tryz.isAgg219
 z51:=Tryz.sizeOf219
 v51:=Tryz.zeroValue219
 t146:=Tryz.underlying349
 a146:=Tryz.isAgg349
 z146:=Tryz.sizeOf349
 v146:=Tryz.zeroValue349
 g1:=by kernel_rfl }
def Zgp:Go.Shelf.Ren:=⟨fun|161=>318|231=>321|227=>322|233=>323|235=>324|228=>330|197=>331|151=>332|260=>339|152=>340|137=>347|119=>348|224=>298|225=>297|217=>296|266=>316|n=>n,fun|9=>9|4=>4|3=>3|5=>5|117=>358|116=>357|0=>0|124=>361|105=>370|21=>21|119=>398|46=>172|139=>401|138=>400|n=>n,fun|3=>3|4=>4|n=>n⟩
theorem Zn2:Go.Proofs.Lays.n161 Tryz.prog Zgp:={
 mixed:=by kernel_rfl
 f119:=Tryz.func348.trans (congrArg some (by kernel_rfl))
 f137:=Tryz.func347.trans (congrArg some (by kernel_rfl))
 f151:=Tryz.func332.trans (congrArg some (by kernel_rfl))
 f152:=Tryz.func340.trans (congrArg some (by kernel_rfl))
 f161:=Tryz.func318.trans (congrArg some (by kernel_rfl))
 f197:=Tryz.func331.trans (congrArg some (by kernel_rfl))
 f217:=Tryz.func296.trans (congrArg some (by kernel_rfl))
 f224:=Tryz.func298.trans (congrArg some (by kernel_rfl))
 f225:=Tryz.func297.trans (congrArg some (by kernel_rfl))
 f227:=Tryz.func322.trans (congrArg some (by kernel_rfl))
 f228:=Tryz.func330.trans (congrArg some (by kernel_rfl))
 f231:=Tryz.func321.trans (congrArg some (by kernel_rfl))
 f233:=Tryz.func323.trans (congrArg some (by kernel_rfl))
 f235:=Tryz.func324.trans (congrArg some (by kernel_rfl))
 f260:=Tryz.func339.trans (congrArg some (by kernel_rfl))
 f266:=Tryz.func316.trans (congrArg some (by kernel_rfl))
 t0:=Tryz.underlying0
 a0:=Tryz.isAgg0
 z0:=Tryz.sizeOf0
 v0:=Tryz.zeroValue0
 t3:=Tryz.underlying3
 a3:=Tryz.isAgg3
 z3:=Tryz.sizeOf3
 v3:=Tryz.zeroValue3
 t4:=Tryz.underlying4
 a4:=Tryz.isAgg4
 z4:=Tryz.sizeOf4
 v4:=Tryz.zeroValue4
 t5:=Tryz.underlying5
 a5:=Tryz.isAgg5
 z5:=Tryz.sizeOf5
 v5:=Tryz.zeroValue5
 t9:=Tryz.underlying9
 a9:=Tryz.isAgg9
 z9:=Tryz.sizeOf9
 v9:=Tryz.zeroValue9
 t21:=Tryz.underlying21
 a21:=Tryz.isAgg21
 z21:=Tryz.sizeOf21
 v21:=Tryz.zeroValue21
 t46:=Tryz.underlying172
 a46:=Tryz.isAgg172
 z46:=Tryz.sizeOf172
 v46:=Tryz.zeroValue172
 t105:=Tryz.underlying370
 a105:=Tryz.isAgg370
 z105:=Tryz.sizeOf370
 v105:=Tryz.zeroValue370
 t116:=Tryz.underlying357
 a116:=Tryz.isAgg357
 z116:=Tryz.sizeOf357
 t117:=Tryz.underlying358
 a117:=Tryz.isAgg358
 z117:=Tryz.sizeOf358
 v117:=Tryz.zeroValue358
 t119:=Tryz.underlying398
 a119:=Tryz.isAgg398
 z119:=Tryz.sizeOf398
 t124:=Tryz.underlying361
 a124:=Tryz.isAgg361
 z124:=Tryz.sizeOf361
 v124:=Tryz.zeroValue361
 t138:=Tryz.underlying400
 a138:=Tryz.isAgg400
 z138:=Tryz.sizeOf400
 v138:=Tryz.zeroValue400
 t139:=Tryz.underlying401
 a139:=Tryz.isAgg401
 z139:=Tryz.sizeOf401
 v139:=Tryz.zeroValue401
 g3:=by kernel_rfl
 g4:=by kernel_rfl }
end Go.Proofs
end

section
namespace Go.Hs
open Go.Proofs
set_option maxHeartbeats 1000000
set_option maxRecDepth 10000
structure GExp(G:Nat->V):Prop extends GNum G where
 sg:∃ c,G 0=.view c (.agg (signsL.map V.str))
 ml:∃ c m,G 1=.view c (.int .i64 m)
theorem Zde(G:Nat->V)(s p:List UInt8):Spec Tryz.prog G 236 [.str s,.str p] Zk (λv _=>v=.bool (Zoa p s)):=by
 refine Zrd λX cargs _ _ hA=>?_;obtain⟨x,y,rfl,hx,hy⟩:=hA.two;obtain⟨s',rfl,rfl⟩:=hx.str_inv;obtain⟨p',rfl,rfl⟩:=hy.str_inv;refine(show Calls Tryz.prog 236 _ _ _ from Any.strings_HasPrefix Zo2 s' p' X.w).mono ?_;rintro e w' ⟨rfl,rfl⟩;exact⟨_,_,rfl,RowKit.Below.refl _ _,.bool _,rfl⟩
theorem Zdt(G:Nat->V)(hG:GExp G)(s p:List UInt8)(hs:s.length<1000000):Spec Tryz.prog G 241 [.str s,.str p] Zk (λv _=>v=.bool (Lib.contains s p)):=by
 refine Zrd λX cargs _ hX hA=>?_;obtain⟨x,y,rfl,hx,hy⟩:=hA.two;obtain⟨s',rfl,rfl⟩:=hx.str_inv;obtain⟨p',rfl,rfl⟩:=hy.str_inv;obtain⟨c,m,he⟩:=hG.ml;have h0:=(hX 1).rel;rw[he]at h0;obtain⟨f,hf⟩:=h0.view_inv;obtain⟨h1,h2⟩:=hf 0 (by simp[V.cells]);have h2:Rel X (f 0) (.int .i64 m):=h2;rw[h2.int_inv]at h1;refine(show Calls Tryz.prog 241 _ _ _ from Any.strings_Contains Zp2 s' p' m X.w (by rw[Lib.size_eq];omega) h1).mono ?_;rintro e w' ⟨rfl,rfl⟩;exact⟨_,_,rfl,RowKit.Below.refl _ _,.bool _,rfl⟩
def blk1(s:List UInt8):Nat:=Zse Z8k s+if Zoa [45,45] (s.drop (Zse Z8k s))then Zse Z85 (s.drop (Zse Z8k s))else 0
theorem Zeia:∀ s:List UInt8,blk s=Zse Z8k s+blk (s.drop (Zse Z8k s))
 |[]=>rfl
 |c::r=>by
  rw[Zmn]
  cases h:Z8k c with
  |true=>rw[Zyoa h,if_pos rfl,List.drop_succ_cons,Zeia r];omega
  |false=>rw[if_neg zS];simp
theorem Z76(s:List UInt8):blk s=blk1 s+blk (s.drop (blk1 s)):=by
 unfold blk1;rw[Zeia s]
 split
 rename_i h;rw[Zfia h,List.drop_drop];omega;rfl
theorem Zhia{s:List UInt8}(h:blk1 s=0):blk s=0:=by
 unfold blk1 at h;have h1:Zse Z8k s=0:=zo;rw[h1,List.drop_zero]at h
 match s with
 |[]=>rfl
 |c::r=>
  rw[Zmn]at h1
  have hc:Z8k c=false:=by
   cases hc:Z8k c with
   |false=>rfl
   |true=>rw[hc]at h1;simp at h1
  refine Zxoa hc ?_
  cases hp:Zoa [45,45] (c::r)with
  |false=>rfl
  |true=>have:=Zqm hp;rw[if_pos hp]at h;omega
theorem blk1_le(s:List UInt8):blk1 s<=s.length:=by
 have h1:=Z76 s;have h2:=Zgia s;omega
theorem Zyl(G:Nat->V)(hG:GOk G)(s:List UInt8)(hs:s.length<1000000):Spec Tryz.prog G 215 [.str s] Zk (λv _=>v=.int .i64 (blk s)):=by
 refine Zo 0 29 [.tmp 2] Tryz.func215 λX=>?_;refine Z1 ?_;refine Z1 ?_;refine AW.block ?_
 refine Zcd (fun(k:Nat)=>st [(0,.str s),(3,.int .i64 k)] []) (λk=>k<=s.length/\blk s=k+blk (s.drop k)) (λk=>s.length-k) 0 ⟨Nat.zero_le _,zS⟩
  (Weak.st zp zp) ?_
 rintro k ⟨hk,hR⟩ L2 hL2;refine AW.block ?_;have hn1:=Zui Z8k (s.drop k);rw[List.length_drop]at hn1;have hk2:=Z76 (s.drop k);have hk3:=blk1_le (s.drop k);have hk4:blk1 (s.drop k)=0->blk (s.drop k)=0:=Zhia;rw[List.length_drop]at hk3;rw[List.drop_drop]at hk2;refine Z1f (zi hk @Nat.le_refl) ?_;refine Zc hG ?_ (s:=(Z7j G hG _ zO (fBl hG)));refine Zlc (fun(_:Unit)=>st [(0,.str s),(3,.int .i64 k),(4,.int .i64 (blk1 (s.drop k)))] []) (λ_=>True) (λK3 hK3=>?_) ?_
 .have hkn:k+Zse Z8k (s.drop k)<=s.length:=zo
  have hw:IntKind.i64.wrap ((k:Int)+(Zse Z8k (s.drop k):Nat))=((k+Zse Z8k (s.drop k):Nat):Int):=by rw[w64 zo zo];omega
  have hb:blk1 (s.drop k)=Zse Z8k (s.drop k)+if Zoa [45,45] (s.drop (k+Zse Z8k (s.drop k)))then Zse Z85 (s.drop (k+Zse Z8k (s.drop k)))else 0:=by
   unfold blk1;rw[List.drop_drop]
  have hn2:=Zui Z85 (s.drop (k+Zse Z8k (s.drop k)));rw[List.length_drop]at hn2;generalize Zse Z8k (s.drop k)=n at hn1 hkn hw hb hn2⊢;rw[hb]at hk3 hK3
  try clear hb hk2 hk4
  refine Z1f (zi hkn (zi @Nat.le_refl hw)) ?_;refine Zc hG ?_ (s:=(Zde G _ _));refine Zm rfl (λh4=>?_) (λh4=>?_);refine Z1f (zi hkn (zi @Nat.le_refl hw)) ?_;refine Zn hG ?_ (s:=(Z7j G hG _ zO (fNoNl hG)));rw[if_pos h4]at hk3 hK3;refine Zs ?_;exact hK3 _ () trivial (Weak.st (by refine Zs ?_;exact congrArg _ (by rw[w64 zo zo];omega)) zp);refine Z0 ?_;rw[if_neg (by simp[h4])]at hK3;exact hK3 _ () trivial (Weak.st zp zp)
 intro _ _;generalize blk1 (s.drop k)=n at hk2 hk3 hk4⊢;refine Z1 ?_;refine Zm rfl (λh6=>?_) (λh6=>?_)
 have hn:n=0:=by have h6:((n:Int)==0)=true:=h6;simpa using h6
 refine Z ?_
 rw[hR,hk4 hn]<;>rfl
 have hn:n≠0:=by have h6:((n:Int)==0)=false:=h6;simpa using h6
 refine Z1 ?_;refine hL2 _ ⟨k+n,zo,⟨zo,by rw[hR,hk2];omega⟩,Weak.st (by refine Zs ?_;exact congrArg _ (by rw[w64 zo zo];omega)) zp⟩
def Zwp{α : Type}(p : α -> Bool)(l:List α):Int:=match l.findIdx? p with|some i=>(i:Int)|none => -1
theorem Z6c{α : Type}{p : α -> Bool}{l:List α}{k:Nat}{x : α}(hg:l[k]?=some x)(hn:∀ y∈l.take k,p y=false)(hp:p x=true):Zwp p l=k:=by
 have hk:k<l.length:=by rw[List.getElem?_eq_some_iff]at hg;exact hg.1
 have:l.findIdx? p=some k:=by
  rw[List.findIdx?_eq_some_iff_getElem]
  have e:l[k]=x:=by rw[List.getElem?_eq_getElem hk]at hg;exact Option.some.inj hg
  refine⟨hk,by rw[e];exact hp,λj hj=>?_⟩
  have hm:l[j]∈l.take k:=by rw[List.mem_take_iff_getElem];exact⟨j,zo,rfl⟩
  rw[hn _ hm];simp
 unfold Zwp;rw[this]
theorem Z7c{α : Type}{p : α -> Bool}{l:List α}(hn:∀ y∈l,p y=false):Zwp p l = -1:=by
 have:l.findIdx? p=none:=by rw[List.findIdx?_eq_none_iff];exact hn
 unfold Zwp;rw[this]
theorem Z9d{α : Type}{p : α -> Bool}{l:List α}{k:Nat}{x : α}(hg:l[k]?=some x)(hn:∀ y∈l.take k,p y=false)(hp:p x=false):∀ y∈l.take (k+1),p y=false:=by
 intro y hy;rw[List.take_add_one,hg]at hy
 rcases List.mem_append.1 hy with h|h
 exact hn y h;have:y=x:=zu h;rw[this];exact hp
structure FnS(G:Nat->V)(f:FuncId)(cap:List V)(p:List UInt8->Bool):Prop where
 en:Z2 Tryz.prog f=true
 rc:cap.map (V.recol Col.ent)=cap
 sp:∀ c:List UInt8,Spec Tryz.prog G f (.str c::cap) Zk (λv _=>v=.bool (p c))
theorem Zln(G:Nat->V)(hG:GOk G)(c:Col)(s:Sl (List UInt8))(hs:s.l.length<1000000){f:FuncId}{cap:List V}{p:List UInt8->Bool}(hf:FnS G f cap p):
  Spec Tryz.prog G 242 [Za c 1 V.str s,.func (.func f) [] cap] Zk (λv _=>v=.int .i64 (Zwp p s.l)):=by
 refine Zo 0 19 [.tmp 4] Tryz.func242 λX=>?_;refine Z1 ?_;refine Z1 ?_;refine AW.block ?_
 refine Zaa s.l.length (λk (_:Unit)=>st [(0,Za c 1 V.str s),(1,.func (.func f) [] cap),(7,.int .i64 s.l.length),(8,.int .i64 k)] []) (λk _=>∀ y∈s.l.take k,p y=false) 0 () (Nat.zero_le _) zS
  (Weak.st zp zp) ?_
 intro k _ hk hR L2 hL2;refine Z1 ?_;refine Z6 ?_;refine Zm rfl (λh4=>?_) (λh4=>?_);have hk1:k<s.l.length:=zu h4;have hg:=List.getElem?_eq_getElem hk1;generalize s.l[k]=x at hg;refine Z1 ?_;refine Z1f hg ?_;refine CallA.pure hG hf.en ?_;simp only[List.map_cons,hf.rc,Zuc];refine(hf.sp x).mono ?_;rintro _ _ rfl;refine Zs ?_;refine Zm rfl (λh6=>?_) (λh6=>?_);refine Z ?_;rw[Z6c hg hR h6];refine Z1 ?_;refine hL2 _ ⟨hk1,(),Z9d hg hR h6,Weak.st zw zp⟩
 have hk1:k=s.l.length:=by simp at h4;omega
 refine Z ?_;rw[hk1,List.take_length]at hR;rw[Z7c hR]
theorem Zhga(G:Nat->V)(hG:GOk G)(s t:List UInt8):Spec Tryz.prog G 243 [.str t,.view .old (.str s)] Zk (λv _=>v=.bool (Zoa t s)):=by
 refine Zo 0 7 [.tmp 3] Tryz.func243 λX=>?_;refine Z1 ?_;refine Z1 ?_;refine Zc hG ?_ (s:=(Zde G _ _));exact Zr
theorem fPre{G:Nat->V}(hG:GOk G)(s:List UInt8):FnS G 243 [.view .old (.str s)] (Zoa · s):=⟨by kernel_rfl,rfl,Zhga G hG s⟩
theorem Zvoa{m:Nat}(h:m<1000000000000010):((m:Int)>IntKind.i64.max)=False:=by
 rw[eq_iff_iff,iff_false,show IntKind.i64.max=9223372036854775807 from rfl];omega
def encFk(p:Nat×Nat):V:=.tuple [.int .i64 p.1,.int .u8 p.2]
theorem Zfo(G:Nat->V)(hE:GExp G)(s:List UInt8)(hs:s.length<1000000000000000):Spec Tryz.prog G 208 [.str s] Zk (λv _=>v=encFk (Z0a s)):=by
 have hG:=hE.ok;refine Zo 0 42 [.tmp 2,.tmp 3] Tryz.func208 λX=>?_;refine Z1 ?_;intro g1;refine Z6 ?_;refine AW.block ?_
 cases s with
 |nil=>
  refine Z1 ?_;refine Zm rfl (λh2=>?_) (λh2=>?_);exact Zr;cases h2
 |cons c r=>
  cases hp:Zoa [45,45] (c::r)with
  |true=>
   refine Z1 ?_;refine Zn hG ?_ (s:=(Zde G _ _));refine Zsf hp ?_;refine Zm rfl (λh2=>?_) (λh2=>?_);refine Z ?_
   rw[Z8e,if_pos hp]<;>rfl
   cases h2
  |false=>
   refine Z1 ?_;refine Zn hG ?_ (s:=(Zde G _ _));refine Zsf hp ?_;refine Zad rfl ?_
   try clear h2
   refine Z1 ?_;refine Zc hG ?_ (s:=(Zxi G hG c));refine Zm rfl (λh3=>?_) (λh3=>?_);refine Z1 ?_;refine Zc hG ?_ (s:=(Z7j G hG _ zo (fDigit hG)));refine Z ?_
   rw[Zpv h3]<;>rfl
   refine Z1 ?_;refine Zc hG ?_ (s:=(Zfh G hG c));refine Zm rfl (λh4=>?_) (λh4=>?_);have hn:=Zui Z9h (c::r);have hw:=Zyp ((c::r).take (Zse Z9h (c::r))) (Zoj Z9h (c::r));have hf:=Zo6 (r:=r) h4;refine Z1 ?_;refine Zc hG ?_ (s:=(Z7j G hG _ zo (fAl hG)));generalize Zse Z9h (c::r)=n at hn hw hf⊢;have hn:n<=r.length+1:=hn;refine Z6 ?_
   have hl0:(List.take n (c::r)).length<=1000000000000000:=by rw[List.length_take];omega
   have hl1:=Zvoa (m:=1+(List.take n (c::r)).length) zo;have hl2:=Zvoa (m:=(List.take n (c::r)).length+1+1) zo;refine Zne zk ?_;simp -implicitDefEqProofs only[go_sem,seval,hl1,hl2,hn,Nat.zero_le,Nat.sub_zero,List.append_eq,List.cons_append,List.nil_append];refine Zc hG ?_ (s:=(Zdt G hE Z8na _ zd));rw[hw];refine Zm rfl (λh6=>?_) (λh6=>?_);refine Z ?_
   rw[hf,if_pos h6]<;>rfl
   refine Z ?_;rw[hf,if_neg (by rw[h6];simp)];rfl
   .refine Z0 ?_
    have hf:=Zrm (c:=c) (r:=r) (by unfold Z9h;rw[h3,h4]<;>rfl) hp;obtain⟨cg,hsg⟩:=hE.sg
    refine Z6<|Zhf 0 zk rfl rfl ?_
    simp -implicitDefEqProofs only[go_sem,seval,List.take_zero];refine⟨_,Zsp Tryz.underlying271 zk (c:=cg) (cs:=signsL.map V.str) (zpf hsg) rfl (λv hv=>by obtain⟨t,_,rfl⟩:=List.mem_map.1 hv;rfl),?_⟩;refine CallA.bor hG [Za cg.ent 1 V.str (.mk true signsL),.func (.func 243) [] [.view .old (.str (c::r))]] zk ⟨?_,Zh7 ⟨?_,trivial⟩,trivial⟩ ?_;exact Zta (Zud (c:=cg) (m:=1) (λx y hy=>by simp[V.cells]at hy;subst hy;exact .str _) (.mk true signsL)) (Zyd _ _ _ (.mk true signsL));exact Rd.ptr (v:=.str (c::r)) (c:=.new) (fz:=0) zp (by intro y hy;simp[V.cells]at hy;subst hy;exact .str _) zp;refine(Zln G hG _ (.mk true signsL) zd (fPre hG (c::r))).mono ?_;rintro _ _ rfl;refine⟨.int _ _,?_⟩;refine Zs ?_
    have hN:sgnN (c::r)=match signsL.findIdx? (Zoa · (c::r))with|some i=>(signsL.getD i []).length|none=>0:=by
     unfold sgnN;rw[List.find?_eq_bind_findIdx?_getElem?]
     cases hi:signsL.findIdx? (Zoa · (c::r))with
     |none=>rfl
     |some i=>
      have hlt:i<signsL.length:=(List.findIdx?_eq_some_iff_getElem.1 hi).1;simp only[Option.bind_some,List.getElem?_eq_getElem hlt,List.getD_eq_getElem?_getD,Option.getD_some]
    have hI:Zwp (Zoa · (c::r)) signsL=match signsL.findIdx? (Zoa · (c::r))with|some i=>(i:Int)|none => -1:=rfl
    have hne:∀ i,signsL.findIdx? (Zoa · (c::r))=some i->i<14/\(signsL.getD i []).length≠0:=λi hi=>by
     have h1:=List.findIdx?_eq_some_iff_getElem.1 hi;obtain⟨hlt,_⟩:=h1;have hlt:i<14:=hlt;refine⟨hlt,?_⟩;have:∀ i,i<14->(signsL.getD i []).length≠0:=zd;exact this i hlt
    rw[hI];rw[hN]at hf
    cases hi:signsL.findIdx? (Zoa · (c::r))with
    |none=>
     rw[hi]at hf;refine Z1 ?_;refine Zm rfl (λh7=>?_) (λh7=>?_);refine Z ?_
     rw[hf]<;>rfl
     cases h7
    |some i=>
     rw[hi]at hf;obtain⟨hi14,hi0⟩:=hne i hi;refine Z1 ?_;refine Zm rfl (λh7=>?_) (λh7=>?_);have h7:decide ((i:Int)<0)=true:=h7;simp at h7;omega;refine Z0 ?_
     have hge:(signsL.map V.str)[i]?=some (.str (signsL.getD i [])):=by
      have hlt:i<signsL.length:=hi14
      rw[List.getElem?_map,List.getElem?_eq_getElem hlt,List.getD_eq_getElem?_getD,List.getElem?_eq_getElem hlt]<;>rfl
     have hi14':(i:Int)<14:=zo;refine Zf (zi hsg (zi hge (zi hi14' (zi @Int.natCast_nonneg @Nat.mul_one)))) ?_;rw[hf]
     show _=encFk ((signsL.getD i []).length,if(signsL.getD i []).length=0 then 0 else 4)
     rw[if_neg hi0]<;>rfl
theorem Zmf(G:Nat->V)(hE:GExp G)(s:List UInt8)(hs:s.length<1000000000000000):Spec Tryz.prog G 146 [.str s] Zk (λv _=>v=.int .u8 (isP s)):=by
 have hG:=hE.ok;refine Zo 0 19 [.tmp 2] Tryz.func146 λX=>?_;refine Z1 ?_;refine Z1 ?_;refine Zn hG ?_ (s:=(Zfo G hE s hs))
 have hI:isP s=if(Z0a s).1≠s.length\/(Z0a s).1>64 then 0 else(Z0a s).2:=rfl
 generalize Z0a s=p at hI⊢;obtain⟨n,k⟩:=p;refine Zsf @encFk.eq_1 ?_;refine Z6 ?_
 by_cases h1:n=s.length
 have e1:((n:Int) != (s.length:Int))=false:=by simp[h1]
 refine Z1f e1 ?_;refine Zm rfl (λh2=>?_) (λh2=>?_)
 have h2:n>64:=by have h2:decide ((n:Int)>64)=true:=h2;simp at h2;omega
 refine Z ?_
 rw[hI,if_pos (.inr h2)]<;>rfl
 have h2:¬ n>64:=by have h2:decide ((n:Int)>64)=false:=h2;simp at h2;omega
 refine Z ?_;rw[hI,if_neg (λh=>h.elim (λh=>h h1) h2)]
 have e1:((n:Int) != (s.length:Int))=true:=by
  have h1:¬ ((n:Int)=(s.length:Int)):=zo;simpa using h1
 refine Z1f e1 ?_;refine Zm rfl (λh2=>?_) (λh2=>?_);refine Z ?_
 rw[hI,if_pos (.inl h1)]<;>rfl
 cases h2
def Zsc(t:Tk):V:=.agg [.int .u8 t.kind,.str t.text,.int .i64 t.pos]
theorem Zvo(t:Tk):(Zsc t).cells.length=3:=rfl
def encTks(c:Col)(l:List Tk):V:=Za c 3 Zsc (Zb l)
def encTok(r:List Tk×Int×Int):V:=.tuple [encTks .new r.1,.int .i64 r.2.1,.int .i64 r.2.2]
theorem Zfu:∀ (f:Nat) (s:List UInt8) (i:Nat) (acc:List Tk),(Zoe f s i acc).1.length<=acc.length+(s.length-i)
 |0,s,i,acc=>by rw[Zoe];exact Nat.le_add_right _ _
 |f+1,s,i,acc=>by
  rw[Zoe]
  split
  split
  exact Nat.zero_le _;rename_i h1 h2;have:=Zfu f s (i+(Z0a (s.drop i)).1+blk (s.drop (i+(Z0a (s.drop i)).1))) (acc++[⟨(Z0a (s.drop i)).2,(s.drop i).take (Z0a (s.drop i)).1,i⟩]);simp only[List.length_append,List.length_singleton]at this;omega;exact Nat.le_add_right _ _
theorem Zke(G:Nat->V)(hE:GExp G)(s:List UInt8)(hs:s.length<100000):Spec Tryz.prog G 177 [.str s] Zk (λv _=>v=encTok (Zra s)):=by
 have hG:=hE.ok;refine Zo 0 52 [.tmp 2,.tmp 3,.tmp 4] Tryz.func177 λX=>?_;refine Z1 ?_;refine Z1 ?_
 have hT:Zra s=if s.length>65536 then([],0,3)else Zoe (s.length+1) s (blk s) []:=rfl
 refine Zm rfl (λh2=>?_) (λh2=>?_)
 have h2:s.length>65536:=by have h2:decide ((s.length:Int)>65536)=true:=h2;simp at h2;omega
 refine Z ?_
 rw[hT,if_pos h2]<;>rfl
 have h2:¬ s.length>65536:=by have h2:decide ((s.length:Int)>65536)=false:=h2;simp at h2;omega
 rw[if_neg h2]at hT;refine Z1 ?_;refine Zc hG ?_ (s:=(Zyl G hG s zo));have hb:=Zgia s;refine AW.block ?_
 refine Zcd (fun(x:Nat×Nat×List Tk)=>st [(0,.str s),(2,grown 47 x.1 3 x.2.2),(3,.int .i64 x.2.1)] [(47,Zca x.1 Zsc x.2.2)]) (λx=>x.2.1<=s.length/\x.2.2.length<=x.2.1/\Zra s=Zoe (s.length+1) s x.2.1 x.2.2) (λx=>s.length-x.2.1) (0,blk s,[]) ⟨hb,Nat.zero_le _,hT⟩
  (Weak.st zp zp) ?_
 rintro⟨gx,i,acc⟩ ⟨hi,hal,hR⟩ L2 hL2;have hi:i<=s.length:=hi;have hal:acc.length<=i:=hal;have hR:Zra s=Zoe (s.length+1) s i acc:=hR;refine Z1 ?_;refine Zm rfl (λh4=>?_) (λh4=>?_);have hi1:i<s.length:=zu h4;refine Z0 ?_;refine Z6 ?_;refine AW.block ?_;have hfl:=Zaha (s.drop i);rw[List.length_drop]at hfl;have hst:=Zw7 (f:=s.length+1) (acc:=acc) hi1 zo;have hbd:=Z2da (f:=s.length+1) (acc:=acc) hi1 zo;refine Z1f (zi hi @Nat.le_refl) ?_;refine Zn hG ?_ (s:=(Zfo G hE (s.drop i) zO));generalize Z0a (s.drop i)=p at hfl hst hbd⊢;obtain⟨n,k⟩:=p;simp only at hfl hst hbd;refine Zsf @encFk.eq_1 ?_;refine Z6 ?_
 by_cases hn0:n=0
 have e0:((n:Int)==0)=true:=by simp[hn0]
 refine Z1f e0 ?_;refine Zm rfl (λh9=>?_) (λh9=>?_);refine Z ?_
 rw[hR,hbd (.inl hn0)]<;>rfl
 cases h9
 have e0:((n:Int)==0)=false:=by
  rw[beq_eq_false_iff_ne];omega
 refine Z1f e0 ?_;refine Zm rfl (λh9=>?_) (λh9=>?_)
 have h9:n>64:=by have h9:decide ((n:Int)>64)=true:=h9;simp at h9;omega
 refine Z ?_
 rw[hR,hbd (.inr h9)]<;>rfl
 have h9:¬ n>64:=by have h9:decide ((n:Int)>64)=false:=h9;simp at h9;omega
 refine Z0 ?_;have hst:=hst (λh=>h.elim hn0 h9)
 have hw:IntKind.i64.wrap ((i:Int)+(n:Int))=((i+n:Nat):Int):=by rw[w64 zo zo];omega
 have hin:i<=i+n:=zo;have hin2:i+n<=s.length:=zo;have hsub:i+n-i=n:=zo;refine Z1f (zi hw (zi hin (zi hin2 hsub))) ?_;intro g46;refine Zhb (f:=Zsc) (l:=acc) (l2:=[⟨k,(s.drop i).take n,i⟩]) (g:=gx) Zvo rfl rfl rfl zp (Z9 zo zO) λg47=>?_;refine Zs ?_;refine Z1f hw ?_;have hbl:=Zgia (s.drop (i+n));rw[List.length_drop]at hbl
 have hw2:IntKind.i64.wrap (((i+n:Nat):Int)+(blk (s.drop (i+n)):Nat))=((i+n+blk (s.drop (i+n)):Nat):Int):=by rw[w64 zo zo];omega
 refine Z1f (zi hin2 @Nat.le_refl) ?_;refine Zc hG ?_ (s:=(Zyl G hG (s.drop (i+n)) zO));refine hL2 _ ⟨(g47,i+n+blk (s.drop (i+n)),acc++[⟨k,(s.drop i).take n,i⟩]),?_,⟨?_,?_,?_⟩,Weak.st (by refine Zs ?_;exact congrArg _ hw2) zp⟩
 show s.length-(i+n+blk (s.drop (i+n)))<s.length-i
 omega
 show i+n+blk (s.drop (i+n))<=s.length
 omega
 show(acc++[_]).length<=i+n+blk (s.drop (i+n))
 simp only[List.length_append,List.length_singleton];omega;rw[hR];exact hst;have hi1:¬ i<s.length:=zu h4;refine Z0 ?_;refine AW.weak (Zw (λo=>o==47) (l:=[(2,encTks .new acc)]) (m:=[]) ?_ trivial) ?_;refine Zs ?_;exact Zkc rfl rfl Zvo;refine Z ?_
 rw[hR,Z1da hi1]<;>rfl
structure VtM where
 name:List UInt8
 kind:Int
 region:Int
 of:Int
 entry:List UInt8
 exit:List UInt8
 defers:Sl (List UInt8)
 sub:List UInt8
structure TrM where
 name:List UInt8
 source:Int
 target:Int
 triggers:Sl (List UInt8)
 after:Int
 guard:List UInt8
 effect:List UInt8
 kind:Int
structure MdM where
 name:List UInt8
 vars:Sl (List UInt8×Int)
 events:Sl (List UInt8)
 regions:Sl (List UInt8×Int)
 verts:Sl VtM
 ways:Sl TrM
def VtM.p(x:VtM):VP:=⟨x.name,x.kind,x.region,x.of,x.entry,x.exit,x.defers.l,x.sub⟩
def TrM.p(x:TrM):WP:=⟨x.name,x.source,x.target,x.triggers.l,x.after,x.guard,x.effect,x.kind⟩
def MdM.p(m:MdM):PM:=⟨m.name,m.vars.l,m.events.l,m.regions.l,m.verts.l.map VtM.p,m.ways.l.map TrM.p⟩
def Zua(p:List UInt8×Int):V:=.agg [.str p.1,.int .i64 p.2]
theorem Z3b(p:List UInt8×Int):Zua p=.agg [.str p.1,.int .i64 p.2]:=rfl
theorem Zpda(p:List UInt8×Int):(Zua p).cells.length=2:=rfl
def Z5a(c:Col)(x:VtM):V:=.agg [.str x.name,.int .u8 x.kind,.int .i64 x.region,.int .i64 x.of,.str x.entry,.str x.exit,Za c 1 V.str x.defers,.str x.sub]
theorem Zt(c:Col)(x:VtM):Z5a c x=.agg [.str x.name,.int .u8 x.kind,.int .i64 x.region,.int .i64 x.of,.str x.entry,.str x.exit,Za c 1 V.str x.defers,.str x.sub]:=rfl
theorem Zoda(c:Col)(x:VtM):(Z5a c x).cells.length=8:=rfl
def Z4b(c:Col)(x:TrM):V:=.agg [.str x.name,.int .i64 x.source,.int .i64 x.target,Za c 1 V.str x.triggers,.int .i64 x.after,.str x.guard,.str x.effect,.int .u8 x.kind]
theorem Z8(c:Col)(x:TrM):Z4b c x=.agg [.str x.name,.int .i64 x.source,.int .i64 x.target,Za c 1 V.str x.triggers,.int .i64 x.after,.str x.guard,.str x.effect,.int .u8 x.kind]:=rfl
theorem Zyda(c:Col)(x:TrM):(Z4b c x).cells.length=8:=rfl
def Z4(c d:Col)(m:MdM):V:=.agg [.str m.name,Za c 2 Zua m.vars,Za c 1 V.str m.events,Za c 2 Zua m.regions,Za c 8 (Z5a d) m.verts,Za c 8 (Z4b d) m.ways]
theorem Zj(c d:Col)(m:MdM):Z4 c d m=.agg [.str m.name,Za c 2 Zua m.vars,Za c 1 V.str m.events,Za c 2 Zua m.regions,Za c 8 (Z5a d) m.verts,Za c 8 (Z4b d) m.ways]:=rfl
theorem Ztj(g:Col->Col)(c:Col)(s:Sl (List UInt8×Int)):(Za c 2 Zua s).recol g=Za (g c) 2 Zua s:=Zdb g c 2 (λp=>by simp only[Z3b,Z4a,List.map_cons,List.map_nil,Zwa,Zuc]) s
theorem Zmm(g:Col->Col)(c:Col)(x:VtM):(Z5a c x).recol g=Z5a (g c) x:=by simp only[Zt,Z4a,List.map_cons,List.map_nil,Zwa,Zuc,Zyd]
theorem Znm(g:Col->Col)(c:Col)(x:TrM):(Z4b c x).recol g=Z4b (g c) x:=by simp only[Z8,Z4a,List.map_cons,List.map_nil,Zwa,Zuc,Zyd]
theorem Zsj(g:Col->Col)(c d:Col)(s:Sl VtM):(Za c 8 (Z5a d) s).recol g=Za (g c) 8 (Z5a (g d)) s:=Zdb g c 8 (Zmm g d) s
theorem Zuj(g:Col->Col)(c d:Col)(s:Sl TrM):(Za c 8 (Z4b d) s).recol g=Za (g c) 8 (Z4b (g d)) s:=Zdb g c 8 (Znm g d) s
theorem Zwj(g:Col->Col)(c d:Col)(m:MdM):(Z4 c d m).recol g=Z4 (g c) (g d) m:=by simp only[Zj,Z4a,List.map_cons,List.map_nil,Zuc,Zyd,Ztj,Zsj,Zuj]
attribute[go_sem]Ztj Zmm Znm Zsj Zuj Zwj
theorem Zwh{m:MdM}{k:Nat}{x:VtM}(h:m.verts.l[k]?=some x):m.p.vx (k:Int)=x.p:=by
 show(m.verts.l.map VtM.p).getD ((k:Int)).toNat vx0=_
 rw[List.getD_eq_getElem?_getD,List.getElem?_map,Int.toNat_natCast,h]<;>rfl
theorem Zqk{m:MdM}{k:Nat}{x:TrM}(h:m.ways.l[k]?=some x):m.p.wy (k:Int)=x.p:=by
 show(m.ways.l.map TrM.p).getD ((k:Int)).toNat wy0=_
 rw[List.getD_eq_getElem?_getD,List.getElem?_map,Int.toNat_natCast,h]<;>rfl
theorem Zqp{m:MdM}{k:Nat}{r:List UInt8×Int}(h:m.regions.l[k]?=some r):m.p.ow (k:Int)=r.2:=by
 show(m.regions.l.getD ((k:Int)).toNat ([],0)).2=_
 rw[List.getD_eq_getElem?_getD,Int.toNat_natCast,h]<;>rfl
theorem MdM.nv(m:MdM):m.p.vertices.length=m.verts.l.length:=List.length_map ..
theorem MdM.nw(m:MdM):m.p.ways.length=m.ways.l.length:=List.length_map ..
theorem MdM.at{m:MdM}{v:Int}(h0:0<=v)(h1:v<m.p.vertices.length):∃ (k:Nat) (x:VtM),v=(k:Int)/\k<m.verts.l.length/\m.verts.l[k]?=some x/\m.p.vx v=x.p:=by
 rw[m.nv]at h1;have hk:v.toNat<m.verts.l.length:=zo;have e:v=((v.toNat:Nat):Int):=zo;refine⟨v.toNat,_,e,hk,List.getElem?_eq_getElem hk,?_⟩
 conv=>lhs;rw[e]
 exact Zwh (List.getElem?_eq_getElem hk)
theorem Zut{m:MdM}{v:Int}(h0:0<=v)(h1:v<m.p.regions.length):∃ (k:Nat) (x:List UInt8×Int),v=(k:Int)/\k<m.regions.l.length/\m.regions.l[k]?=some x/\m.p.ow v=x.2:=by
 have h1:v<m.regions.l.length:=h1;have hk:v.toNat<m.regions.l.length:=zo;have e:v=((v.toNat:Nat):Int):=zo;refine⟨v.toNat,_,e,hk,List.getElem?_eq_getElem hk,?_⟩
 conv=>lhs;rw[e]
 exact Zqp (List.getElem?_eq_getElem hk)
theorem MdM.wyAt{m:MdM}{v:Int}(h0:0<=v)(h1:v<m.p.ways.length):∃ (k:Nat) (x:TrM),v=(k:Int)/\k<m.ways.l.length/\m.ways.l[k]?=some x/\m.p.wy v=x.p:=by
 rw[m.nw]at h1;have hk:v.toNat<m.ways.l.length:=zo;have e:v=((v.toNat:Nat):Int):=zo;refine⟨v.toNat,_,e,hk,List.getElem?_eq_getElem hk,?_⟩
 conv=>lhs;rw[e]
 exact Zqk (List.getElem?_eq_getElem hk)
theorem Zwl(G:Nat->V)(hG:GOk G)(c d:Col)(m:MdM)(hm:m.p.Rt5)(v:Int)(h0:0<=v)(h1:v<m.p.vertices.length):
  Spec Tryz.prog G 211 [Z4 c d m,.int .i64 v] Zk (λw _=>w=.int .i64 (m.p.around v)):=by
 refine Zo 0 27 [.tmp 4] Tryz.func211 λX=>?_;have hpt:=hm.pt h0 h1;obtain⟨k,x,rfl,hk,hg,hx⟩:=MdM.at h0 h1;rw[PM.around];rw[hx]at hpt⊢;simp only[Zj];have f:=zi hg (zi hk (zi Zt (zi @Int.natCast_nonneg @Int.ofNat_lt)));refine Z ?_;intro g2;refine Zf f ?_;intro g5
 by_cases ho:0<=x.of
 have q:decide (x.of>=0)=true:=zT;refine Zf (zi f q) ?_
 rw[if_pos (show 0<=x.p.of from ho)]<;>rfl
 have q:decide (x.of>=0)=false:=zF;obtain⟨_,r0,r1,_⟩:=hpt.resolve_left (λh=>ho h.1);obtain⟨r,y,hr,hrk,hrg,hy⟩:=Zut r0 r1;rw[if_neg (show ¬ 0<=x.p.of from ho),hy];have hr:x.region=(r:Int):=hr;refine Zf q ?_;refine ZTf (zi f (zi hr (zi hrg (zi hrk Z3b)))) hG ?_;exact Zr
end Go.Hs
end
