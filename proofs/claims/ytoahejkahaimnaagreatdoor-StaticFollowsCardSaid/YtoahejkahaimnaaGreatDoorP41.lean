/- A part. No condition. -/
import Derived.Test.YtoahejkahaimnaaGreatDoorP39
import Derived.Test.YtoahejkahaimnaaGreatDoorP40
import Derived.Lib.ParseIntBCases
import Derived.Lib.Mul64
import Derived.Shelf.Strconv.ParseIntPublic10
import Derived.Shelf.Strconv.ErrVarParseInt
import Derived.Shelf.Strconv.Itoa4
import Derived.Shelf.Strings.Prefix
import Derived.Ground.NamesProg
import Derived.LaidEql
import Derived.Stop.Asserts
import Derived.RowKitTokens
import Derived.WalkKit
import Derived.BigCall
import Derived.BigGuard
import Derived.Lib.AppendIntMem
import Derived.Shelf.Strings.Search3
import Derived.Shelf.Strings.Trim
import Derived.Shelf.Strings.OnBuilder
set_option linter.all false
section
namespace Go.Hs
open Go.Proofs
set_option maxHeartbeats 1000000
set_option maxRecDepth 10000
theorem Zks(z:Array Value)(n:Nat)(h:z.size=1):(Builtin.zeroCells z n).size=n:=by
 simp[Builtin.zeroCells,h]
theorem Zpw{G:Nat->V}(N:Y6 G)(o n:Nat)(M:n<=1000000000){H:Heap}{K:V->Heap->Prop}(d:n=0->K .nils H)(B:n≠0->∀ g,K (.msl o g 0 0 1) (Z3 H o (.cells .new g 0 []))):
  CallA Tryz.prog G 219 [.nils,.int .i64 n] H K:=by
 refine⟨zk,λX m q _ A=>?_⟩;obtain⟨x,y,rfl,s,r⟩:=A.two;cases s;cases r
 by_cases j:n=0
 subst j;refine(show Calls Tryz.prog 219 _ _ _ from Any8.slices_Grow_room Gb none 0 0 0 X.w zo zo zo zo).mono ?_;rintro e w' ⟨rfl,rfl⟩;exact⟨_,.nils,H,X,rfl,rfl,Goes.refl q,.nils,d rfl⟩
 obtain⟨c,l,f,L,z,b,k⟩:∃ c,Tryz.prog.info? 3=some c/\c.bytes=8/\c.size=1/\∃ z,c.zero=some z/\z.cells.size=1:=by
  have f:Qv Tryz.prog 3=some 8:=zk;have j:Yp Tryz.prog 3=some 1:=zk;have d:((Tryz.prog.info? 3).bind λi=>i.zero.map λz=>z.cells.size)=some 1:=zk;unfold Qv at f;unfold Yp at j
  cases p:Tryz.prog.info? 3 with
  |none=>rw[p]at f;cases f
  |some c=>
   rw[p]at f j d;simp only[Option.map_some,Option.some.injEq,Option.bind_some]at f j d
   cases b:c.zero with
   |none=>rw[b]at d;cases d
   |some z=>
    rw[b]at d;simp only[Option.map_some,Option.some.injEq]at d;exact⟨c,rfl,f,j,z,b,d⟩
 refine(show Calls Tryz.prog 219 _ _ _ from Any8.slices_Grow_grow Gb c z l b zo none 0 0 n [] X.w zo zo (by rw[f];omega) zo zS (λ_=>rfl) (λa u=>by cases u)).mono ?_;rintro e w' ⟨rfl,rfl⟩;have t:=grownCap_ge X.w (0+n) 0 3
 obtain⟨v,J,Y,I,F,D,C⟩:=Qc q o (E:=1) (need:=0) (cap:=grownCap X.w (0+n) 0 3) (xs:=[]) (cs:=[]) ⟨rfl,λ_ h=>by simp at h,λi h=>by simp at h⟩ rfl (Nat.zero_le _) 3
  (Builtin.zeroCells z.cells (0+n-0)++Builtin.zeroCells z.cells (grownCap X.w (0+n) 0 3-(0+n))) (by rw[Array.size_append,Zks _ _ k,Zks _ _ k];omega) .new (.inl rfl) 0 (B j)
 refine⟨_,v,J,Y,rfl,?_,F,D,C⟩;rw[I];simp;rfl
theorem I4(l:List (Int)):flat (l.map (V.int .i64))=l.map (V.int .i64):=by
 induction l with
 |nil=>rfl
 |cons x r ih=>unfold flat at ih⊢;rw[List.map_cons,List.flatMap_cons,ih]<;>rfl
def Z2t(c:Col)(s:Sl (Col×Sl Int)):V:=Za c 1 (λt=>Za t.1 1 (V.int .i64) t.2) s
def Tt(l:List (Col×Sl Int)):List Int:=l.flatMap (·.2.l)
theorem Zoh:∀ t:Col×Sl Int,(Za t.1 1 (V.int .i64) t.2).cells.length=1:=λt=>by obtain⟨_,t⟩:=t;cases t<;>rfl
theorem Ak{l:List (Col×Sl Int)}{k:Nat}{t:Col×Sl Int}(h:l[k]?=some t):Tt (l.take (k+1))=Tt (l.take k)++t.2.l:=by
 unfold Tt;rw[List.take_add_one,h,List.flatMap_append];simp
theorem Zvh{l:List (Col×Sl Int)}{k:Nat}:(Tt (l.take k)).length<=(Tt l).length:=by
 unfold Tt
 conv=>rhs;rw[<- List.take_append_drop k l,List.flatMap_append,List.length_append]
 omega
theorem Z4a(G:Nat->V)(B:Y6 G)(c:Col)(s:Sl (Col×Sl Int))(D:s.l.length<1000000)(E:(Tt s.l).length<1000000)(q:(Tt s.l).length≠0):
  Spec Tryz.prog G 182 [Z2t c s] Zi (λv _=>v=Za .new 1 (V.int .i64) (.mk false (Tt s.l))):=by
 refine Zo 0 36 [.tmp 2] Tryz.func182 λX=>?_;unfold Z2t;refine Z1 ?_;refine Z1 ?_;refine Z1 ?_;refine AW.block ?_
 refine Yf s.l.length (λk (_:Unit)=>st [(0,Za c 1 (λt=>Za t.1 1 (V.int .i64) t.2) s),(3,.int .i64 (Tt (s.l.take k)).length),(9,Za c 1 (λt=>Za t.1 1 (V.int .i64) t.2) s),(10,.int .i64 s.l.length),(11,.int .i64 k)] [])
  (λ_ _=>True) 0 () (Nat.zero_le _) trivial (Weak.st zp zp) ?_
 intro k _ A _ H x;refine Z1 ?_;refine Z4 ?_;refine Zm rfl (λj=>?_) (λj=>?_);have a:k<s.l.length:=zu j;have e:=List.getElem?_eq_getElem a;have b:=Ak e;have r:=Zvh (l:=s.l) (k:=k+1);generalize s.l[k]=t at e b;refine Z0 ?_;refine Z4 ?_;refine AW.block ?_
 have d:(Tt (s.l.take (k+1))).length=(Tt (s.l.take k)).length+t.2.l.length:=by rw[b,List.length_append]
 have z:IntKind.i64.wrap (((Tt (s.l.take k)).length:Int)+(t.2.l.length:Int))=(((Tt (s.l.take k)).length+t.2.l.length:Nat):Int):=by rw[W0 zo zo];omega
 have p:decide ((((Tt (s.l.take k)).length+t.2.l.length:Nat):Int)<0)=false:=zF;refine Xc e ?_;refine Xc z ?_;refine Xc p ?_;refine Z1 ?_;refine x _ ⟨a,(),trivial,Weak.st (by rw[d];refine Zs ?_;exact congrArg _ (W0 zo zo)) zp⟩
 have a:k=s.l.length:=by simp at j;omega
 refine Z0 ?_;rw[a,List.take_length];refine Z1 ?_;refine Zpw B 1024 (Tt s.l).length zo (λh=>absurd h q) λ_ y=>?_;refine Zs ?_;refine Z1 ?_;refine AW.block ?_
 refine Yf s.l.length (λk (g:Nat)=>st [(0,Za c 1 (λt=>Za t.1 1 (V.int .i64) t.2) s),(6,.msl 1024 g 0 (Tt (s.l.take k)).length 1),(25,Za c 1 (λt=>Za t.1 1 (V.int .i64) t.2) s),(26,.int .i64 s.l.length),(27,.int .i64 k)] [(1024,.cells .new g 0 (flat ((Tt (s.l.take k)).map (V.int .i64))))])
  (λ_ _=>True) 0 y (Nat.zero_le _) trivial (Weak.st zp zp) ?_
 intro k g A _ F w;refine Z1 ?_;refine Z4 ?_;refine Zm rfl (λi=>?_) (λi=>?_);have a:k<s.l.length:=zu i;have e:=List.getElem?_eq_getElem a;have b:=Ak e;have r:=Zvh (l:=s.l) (k:=k+1);generalize s.l[k]=t at e b
 have d:(Tt (s.l.take (k+1))).length=(Tt (s.l.take k)).length+t.2.l.length:=by rw[b,List.length_append]
 refine Xc e ?_;refine Z1 ?_
 have n:∀ l:List (Int),(flat (l.map (V.int .i64))).length=l.length:=λl=>by rw[I4,List.length_map]
 have u:List.take ((Tt (s.l.take k)).length*1) (flat ((Tt (s.l.take k)).map (V.int .i64)))++flat (t.2.l.map (V.int .i64))=flat ((Tt (s.l.take (k+1))).map (V.int .i64)):=by
  rw[b,List.map_append,Um,Nat.mul_one,List.take_of_length_le (by rw[n];omega)]
 refine⟨Yg zo zo,by rw[n];omega,zo,λC=>?_⟩;rw[u,<- d];refine Z1 ?_;refine w _ ⟨a,C,trivial,Weak.st zw zp⟩
 have a:k=s.l.length:=by simp at i;omega
 refine Z0 ?_;rw[a,List.take_length];refine AW.weak (Zw (λo=>o==1024) (l:=[(6,Za .new 1 (V.int .i64) (.mk false (Tt s.l)))]) (m:=[]) ?_ trivial) ?_;refine Zs ?_;exact Xm (f:=(V.int .i64)) (l:=Tt s.l) (m:=1) (g:=g) (fz:=0) (c:=.new) rfl zp (λ_=>rfl);exact Zr
theorem Jz(G:Nat->V)(d:Y6 G)(c c1:Col)(l a:Sl Int)(j:l.l.length<400000)(i:a.l.length<400000)(b:l.l.length+a.l.length≠0):
  Spec Tryz.prog G 117 [Za c 1 (V.int .i64) l,Za c1 1 (V.int .i64) a] Zi (λv _=>v=Za .new 1 (V.int .i64) (.mk false (l.l++a.l))):=by
 refine Zo 0 9 [.tmp 4] Tryz.func117 λX=>?_;refine Z ?_;intro h
 have e:Tt [(c.ent,l),(c1.ent,a)]=l.l++a.l:=by simp[Tt]
 refine Wa (λo=>o==7) [Z2t .new (.mk false [(c,l),(c1,a)])] [] ⟨?_,trivial⟩ trivial ?_;exact Xm (f:=λt:Col×Sl Int=>Za t.1 1 (V.int .i64) t.2) (l:=[(c,l),(c1,a)]) (m:=1) (g:=h) (fz:=0) (c:=.new) rfl (by cases l<;>cases a<;>rfl) Zoh;refine Zc (r:=Za .new 1 (V.int .i64) (.mk false (l.l++a.l))) d ?_ (args':=[Z2t Col.new.ent (.mk false [(c.ent,l),(c1.ent,a)])]) (ha:=?_) (s:=?_);exact Zr;rw[List.map_cons,List.map_nil];refine congrArg (λv=>[v]) ?_
 show V.recol Col.ent (.slice .new false 1 [Za c 1 (V.int .i64) l,Za c1 1 (V.int .i64) a])=.slice Col.new.ent false 1 [Za c.ent 1 (V.int .i64) l,Za c1.ent 1 (V.int .i64) a]
 simp only[V.recol,Yt,Xu];have:=Z4a G d Col.new.ent (.mk false [(c.ent,l),(c1.ent,a)]) (show(2:Nat)<1000000 by decide) (by show(Tt [(c.ent,l),(c1.ent,a)]).length<_;rw[e,List.length_append];omega) (by show(Tt [(c.ent,l),(c1.ent,a)]).length≠0;rw[e,List.length_append];exact b);rw[show Tt (Sl.mk false [(c.ent,l),(c1.ent,a)]).l=_ from e]at this;exact this
end Go.Hs
end

section
namespace Go.Hs
open Go
def Qz(s:List UInt8):Bool:=
 let t:=Lib.trimPrefix s [45]
 t.all Y9&&(s==[48]||(!(t==[]) && !(t.head? == some 48)))
def rdv(acc:Nat)(l:List UInt8):Nat:=l.foldl (λa c=>a*10+Lt c) acc
theorem Z6s:∀ (l:List UInt8) (acc:Nat),rdv acc l=acc*10^l.length+val (l.reverse.map Lt)
 |[],acc=>by simp[rdv,val]
 |c::r,acc=>by
  have:=Z6s r (acc*10+Lt c);rw[show rdv acc (c::r)=rdv (acc*10+Lt c) r from rfl,this,List.reverse_cons,List.map_append,G0,List.length_cons,Nat.pow_succ,List.length_map,List.length_reverse];simp only[List.map_cons,List.map_nil,val,Nat.mul_zero,Nat.add_zero]
  grind
theorem Zi0:∀ (l:List UInt8) (acc:Nat),acc<=rdv acc l
 |[],acc=>Nat.le_refl _
 |c::r,acc=>by
  have:=Zi0 r (acc*10+Lt c);rw[show rdv acc (c::r)=rdv (acc*10+Lt c) r from rfl];omega
theorem Nb:∀ (l:List UInt8) (acc:Nat),l.all Y9=true->acc<=18446744073709551615 ->
  Lib.parseUintM 18446744073709551615 acc l=if rdv acc l<=18446744073709551615 then .ok (rdv acc l)else .range
 |[],acc,_,h=>by simp[Lib.parseUintM,rdv,h]
 |c::r,acc,hd,h=>by
  rw[List.all_cons,Bool.and_eq_true]at hd
  have d:48<=c.toNat/\c.toNat<=57:=by have:=hd.1;unfold Y9 at this;grind
  have a:=Zi0 r (acc*10+Lt c);have b:Lt c=c.toNat-48:=rfl;rw[Lib.parseUintM,if_pos d,show rdv acc (c::r)=rdv (acc*10+Lt c) r from rfl]
  by_cases f:1844674407370955162<=acc
  grind
  rw[if_neg f]
  by_cases e:18446744073709551615<acc*10+(c.toNat-48)
  grind
  rw[if_neg e];exact Nb r _ hd.2 (by omega)
theorem Nc{l:List UInt8}(a:l≠[])(hd:l.all Y9=true):
  Lib.parseUintB 64 l=if val (l.reverse.map Lt)<=18446744073709551615 then .ok (val (l.reverse.map Lt))else .range:=by
 have:=Nb l 0 hd (by omega);rw[Z6s,Nat.zero_mul,Nat.zero_add]at this;rw[Lib.parseUintB,if_neg a];exact this
theorem Zus{x:Int}(h : -9223372036854775808<=x/\x<=9223372036854775807):Zju x=(x,0):=by
 unfold Zju fits
 grind
theorem Z3e{x:Int}(h:¬ (-9223372036854775808<=x/\x<=9223372036854775807)):Zju x=(0,60):=by
 unfold Zju fits
 grind
theorem Zgu(s:List UInt8):Lib.trimPrefix s [45]=if s.head?=some 45 then s.drop 1 else s:=by
 cases s with
 |nil=>rfl
 |cons c r=>
  unfold Lib.trimPrefix Lib.hasPrefix
  grind
theorem Zdv(s:List UInt8):(Qz s=false/\Uj s=(0,2))\/(Qz s=true/\((∃ v,Lib.parseIntB 64 s=.ok v/\Uj s=(v,0))\/(Lib.parseIntB 64 s=.range/\Uj s=(0,60)))):=by
 cases s with
 |nil=>exact .inl ⟨by decide,rfl⟩
 |cons c r=>
  unfold Qz Uj;rw[Zgu]
  by_cases j:c=45
  subst j;simp only[List.head?_cons,if_true,List.drop_succ_cons,List.drop_zero];have k:((some (45:UInt8))==some 45)=true:=rfl
  have t:((45::r:List UInt8)==[48])=false:=by simp
  simp only[k,t,if_true,Bool.false_or]
  by_cases b:r.all Y9=true
  .cases r with
   |nil=>left;simp
   |cons d q=>
    by_cases f:d=48
    subst f;left;simp
    right
    have p:¬ ((some d:Option UInt8)==some 48)=true:=by simpa using f
    refine⟨by simp[b,f],?_⟩;rw[if_neg (by simp only[List.head?_cons,Option.some.injEq,f,b,Bool.true_eq_false,reduceCtorEq,false_and,or_self,not_false_eq_true])];rw[Lib.parseIntB_minus,Nc (by simp) b];generalize val ((d::q).reverse.map Lt)=m
    by_cases n:m<=9223372036854775808
    left
    refine⟨-(m:Int),?_,Zus (by omega)⟩;rw[if_pos (by omega)];simp only[Lib.signedC];rw[if_neg (by omega)]
    right
    refine⟨?_,Z3e (by omega)⟩
    by_cases a:m<=18446744073709551615
    rw[if_pos a];simp only[Lib.signedC];rw[if_pos (by omega)];rw[if_neg a];rfl
  left
  have g:r.all Y9=false:=by simpa using b
  simp[g]
  have k:((some c:Option UInt8)==some 45)=false:=by simpa using j
  simp only[List.head?_cons,k,Option.some.injEq,j,if_false,Bool.false_eq_true]
  by_cases b:(c::r).all Y9=true
  have l:48<=c.toNat/\c.toNat<=57:=by
   have:=b;rw[List.all_cons,Bool.and_eq_true]at this;have:=this.1;unfold Y9 at this;simpa using this
  by_cases f:c=48/\r≠[]
  left
  obtain⟨rfl,e⟩:=f
  have h:(48::r:List UInt8).length>1:=by
   cases r with
   |nil=>exact absurd rfl e
   |cons _ _=>simp
  refine⟨by simp[e],?_⟩;rw[if_pos (.inr (.inl ⟨rfl,.inl h⟩))]
  right
  refine⟨?_,?_⟩;rw[b]
  by_cases e:c=48
  have:r=[]:=by
   by_cases i:r=[]
   exact i;exact absurd ⟨e,i⟩ f
  subst e this;rfl;simp[e]
  rw[if_neg (by
   simp only[List.head?_cons,Option.some.injEq,b,Bool.true_eq_false,reduceCtorEq,or_false,false_or,not_and,List.length_cons];intro e i;apply f;refine⟨e,λo=>?_⟩;subst o
   simp at i)]
  rw[Lib.parseIntB_plain 64 c r (by omega) (by omega),Nc (by simp) b];generalize val ((c::r).reverse.map Lt)=m
  by_cases n:m<=9223372036854775807
  left
  refine⟨(m:Int),?_,Zus (by omega)⟩;rw[if_pos (by omega)];simp only[Lib.signlessC];rw[if_neg (by omega)]
  right
  refine⟨?_,Z3e (by omega)⟩
  by_cases a:m<=18446744073709551615
  rw[if_pos a];simp only[Lib.signlessC];rw[if_pos (by omega)];rw[if_neg a];rfl
  left
  have g:(c::r).all Y9=false:=by simpa using b
  rw[g];exact⟨rfl,by rw[if_pos (.inr (.inr rfl))]⟩
end Go.Hs
end

section
namespace Go.Hs
open Go.Proofs
set_option maxRecDepth 10000
@[go_sem] theorem Zt3(s:List UInt8)(k:Nat):(s.drop k).take (s.length-k)=s.drop k:=List.take_of_length_le zS
theorem Zo5{l:List UInt8}{k:Nat}(h:k<l.length):l[k]?=some l[k]:=List.getElem?_eq_getElem h
theorem Nj(G:Nat->V)(b:Y6 G)(c:UInt8):Spec Tryz.prog G 237 [.int .u8 c.toNat] Zi (λv _=>v=.bool (Y9 c)):=by
 refine Zo 0 9 [.tmp 2] Tryz.func237 λX=>?_;refine Z1 ?_
 by_cases h:48<=c.toNat
 have a:decide ((c.toNat:Int)>=48)=true:=zT;refine Zf a ?_;unfold Y9;simp[h];omega;have a:decide ((c.toNat:Int)>=48)=false:=zF;refine Zf a ?_;unfold Y9;simp[h]
theorem u8q(c:UInt8)(n:Nat)(d:n<256):((c.toNat:Int)==(n:Int))=(c==UInt8.ofNat n):=by
 by_cases h:c.toNat=n
 have a:c=UInt8.ofNat n:=by
  apply UInt8.toNat_inj.1;rw[h,UInt8.toNat_ofNat'];omega
 rw[a];simp;omega
 have a:¬ c=UInt8.ofNat n:=by
  intro e;apply h;rw[e,UInt8.toNat_ofNat'];omega
 have b:¬ (c.toNat:Int)=(n:Int):=zo;rw[show(c==UInt8.ofNat n)=false by simpa using a,show((c.toNat:Int)==(n:Int))=false from beq_eq_false_iff_ne.2 b]
theorem u8q10(c:UInt8):((c.toNat:Int)==10)=(c==10):=u8q c 10 zd
theorem Zqs(c:UInt8):((c.toNat:Int)==32)=(c==32):=u8q c 32 zd
theorem Zrs(c:UInt8):((c.toNat:Int)==13)=(c==13):=u8q c 13 zd
theorem Zhz(c:UInt8):((c.toNat:Int)==95)=(c==95):=u8q c 95 zd
theorem Zwo(G:Nat->V)(a:Y6 G)(c:UInt8):Spec Tryz.prog G 247 [.int .u8 c.toNat] Zi (λv _=>v=.bool (Ir c)):=by
 refine Zo 0 5 [.tmp 2] Tryz.func247 λX=>?_;refine Z ?_;unfold Ir;rw[bne,u8q10]
theorem Zx1(G:Nat->V)(f:Y6 G)(c:UInt8):Spec Tryz.prog G 246 [.int .u8 c.toNat] Zi (λv _=>v=.bool (Sk c)):=by
 refine Zo 0 17 [.tmp 2] Tryz.func246 λX=>?_
 have b:Sk c=(c==32||(decide ((c.toNat:Int)>=9)&&decide ((c.toNat:Int)<=10))||c==13):=by
  unfold Sk
  congr 3
  rw[decide_eq_decide];omega;rw[decide_eq_decide];omega
 rw[b];refine Z1 ?_
 cases a:(c==32)with
 |true=>
  exact Zq (zi @Zqs (zi @Zrs a))
 |false=>
  cases d:decide ((c.toNat:Int)>=9)with
  |false=>
   exact Zq (zi @Zqs (zi @Zrs (zi a d)))
  |true=>
   cases e:decide ((c.toNat:Int)<=10)with
   |false=>
    exact Zq (zi @Zqs (zi @Zrs (zi a (zi d e))))
   |true=>
    exact Zq (zi @Zqs (zi @Zrs (zi a (zi d e))))
theorem Oe(G:Nat->V)(f:Y6 G)(c:UInt8):Spec Tryz.prog G 239 [.int .u8 c.toNat] Zi (λv _=>v=.bool (Of c)):=by
 refine Zo 0 15 [.tmp 2] Tryz.func239 λX=>?_;refine Z1 ?_
 cases a:(c==95)with
 |true=>
  refine Zf (zi @Zhz a) ?_;unfold Of
  rw[a]<;>rfl
 |false=>
  have b:orZ .u8 (c.toNat:Int) 32=((c.toNat ||| 32:Nat):Int):=by
   have:=Ziz (λc=>orZ .u8 (c.toNat:Int) 32==((c.toNat ||| 32:Nat):Int)) (by decide +kernel) c;simpa using this
  have e:Of c=(decide (((c.toNat ||| 32:Nat):Int)>=97)&&decide (((c.toNat ||| 32:Nat):Int)<=122)):=by
   unfold Of;rw[a,Bool.false_or]
   congr 1
   rw[decide_eq_decide];omega;rw[decide_eq_decide];omega
  rw[e];generalize((c.toNat ||| 32:Nat):Int)=x at b⊢
  cases d:decide (x>=97)with
  |false=>
   exact Zq (zi @Zhz (zi a (zi b d)))
  |true=>
   exact Zq (zi @Zhz (zi a (zi b d)))
theorem Zy1(G:Nat->V)(a:Y6 G)(c:UInt8):Spec Tryz.prog G 240 [.int .u8 c.toNat] Zi (λv _=>v=.bool (Uu c)):=by
 refine Zo 0 9 [.tmp 2] Tryz.func240 λX=>?_;refine Z1 ?_;unfold Uu
 cases b:Of c with
 |true=>
  refine Z1 ?_;refine Zn a ?_ (s:=(Oe G a c));refine Xw b ?_;exact Zr
 |false=>
  refine Z1 ?_;refine Zn a ?_ (s:=(Oe G a c));refine Xw b ?_;refine Zn a ?_ (s:=(Nj G a c));refine Xw b ?_;exact Zr
structure FnB(G:Nat->V)(f:FuncId)(p:UInt8->Bool):Prop where
 en:Z5 Tryz.prog f=true
 sp:∀ c:UInt8,Spec Tryz.prog G f [.int .u8 c.toNat] Zi (λv _=>v=.bool (p c))
theorem fDigit{G:Nat->V}(a:Y6 G):FnB G 237 Y9:=⟨zk,Nj G a⟩
theorem fNoNl{G:Nat->V}(a:Y6 G):FnB G 247 Ir:=⟨zk,Zwo G a⟩
theorem fBl{G:Nat->V}(a:Y6 G):FnB G 246 Sk:=⟨zk,Zx1 G a⟩
theorem fAl{G:Nat->V}(a:Y6 G):FnB G 240 Uu:=⟨zk,Zy1 G a⟩
theorem Mh(G:Nat->V)(m:Y6 G)(s:List UInt8)(n:s.length<1000000000000000){f:FuncId}{p:UInt8->Bool}(j:FnB G f p):
  Spec Tryz.prog G 238 [.str s,.func (.func f) [] []] Zi (λv _=>v=.int .i64 (Wy p s)):=by
 refine Zo 0 20 [.tmp 4] Tryz.func238 λX=>?_;refine Z1 ?_;refine Z1 ?_;refine Z4 ?_;refine AW.block ?_
 refine Yf s.length (λk (_:Unit)=>st [(0,.str s),(1,.func (.func f) [] []),(5,.int .i64 k)] []) (λk _=>Wy p s=k+Wy p (s.drop k)) 0 () (Nat.zero_le _) zS
  (Weak.st zp zp) ?_
 intro k _ o a q g;refine Z4 ?_
 by_cases b:k<s.length
 have d:decide ((k:Int)<s.length)=true:=zT;have i:=Zo5 b;have l:s.drop k=s[k]::s.drop (k+1):=List.drop_eq_getElem_cons b;generalize s[k]=c at i l;rw[l]at a;refine Xc (zi d i) ?_;refine CallA.pure m j.en ?_;refine Zs ?_;refine(j.sp c).mono ?_;rintro _ _ rfl;refine Xw d ?_;rw[J6]at a;refine Zm rfl (λh=>?_) (λh=>?_);rw[if_pos h]at a;refine Z1 ?_;refine g _ ⟨b,(),zo,Weak.st zw zp⟩;rw[if_neg (by simp[h])]at a;refine Z ?_;have a:Wy p s=k+0:=a
 rw[a]<;>rfl
 have d:decide ((k:Int)<s.length)=false:=zF;have e:k=s.length:=zo;refine Xc d ?_;refine Wx rfl ?_;refine Z ?_
 rw[a,e,List.drop_length]<;>rfl
def encR(r:Int×Int):V:=.tuple [.int .i64 r.1,.int .i64 r.2]
def ints(l:List Nat):List Int:=l.map (fun(d:Nat)=>(d:Int))
@[simp] theorem ints_len(l:List Nat):(ints l).length=l.length:=by simp[ints]
theorem Kf(l:List Nat)(k:Nat):val (l.drop k)=l.getD k 0+10*val (l.drop (k+1)):=by
 by_cases h:k<l.length
 .rw[List.drop_eq_getElem_cons h,val,List.getD_eq_getElem?_getD,List.getElem?_eq_getElem h]
  try rfl
 .rw[List.drop_eq_nil_of_le zo,List.drop_eq_nil_of_le zo,List.getD_eq_getElem?_getD,List.getElem?_eq_none zo]
  try rfl
theorem Ztt{l:List Nat}(h:Dig l)(k:Nat):l.getD k 0<10:=by
 rw[List.getD_eq_getElem?_getD]
 by_cases a:k<l.length
 rw[List.getElem?_eq_getElem a];exact h _ (List.getElem_mem a);rw[List.getElem?_eq_none zo]
 decide
theorem Ze3{K n A B o V:Nat}(h:o+K*(n+10*A+10*B)=V):(o+K*(n%10))+(K*10)*(n/10+A+B)=V:=by
 rw[<- h,Nat.mul_assoc,Nat.add_assoc,<- Nat.mul_add]
 congr 2
 omega
structure AddI(la lb:List Nat)(M k:Nat)(out:List Nat)(cr:Nat):Prop where
 len:out.length=k
 dig:Dig out
 hcr:cr<=1
 v:val out+10^k*(cr+val (la.drop k)+val (lb.drop k))=val la+val lb
 last:k=M+1->cr=0
 emp:M=0->k=0/\cr=0
theorem AddI.zero(b a:List Nat)(M:Nat):AddI b a M 0 [] 0:={ len:=rfl,dig:=λd c=>by simp at c,hcr:=zo,v:=by simp[val],last:=λ_=>rfl,emp:=λ_=>⟨rfl,rfl⟩ }
theorem AddI.step{b a:List Nat}{M k:Nat}{out:List Nat}{c:Nat}(h:AddI b a M k out c)(m:M=max b.length a.length)(j:Dig b)(i:Dig a)(g:k<M\/c>0){n:Nat}(f:n=b.getD k 0+a.getD k 0+c)(l:k<=M):
  AddI b a M (k+1) (out++[n%10]) (n/10):=by
 have q:=Ztt j k;have p:=Ztt i k;have o:=h.hcr;refine⟨by simp[h.len],Dig.app.2 ⟨h.dig,Dig.one zo⟩,zo,?_,λe=>?_,λe=>?_⟩;have d:=h.v;rw[Kf b k,Kf a k]at d;rw[G0,h.len,Nat.pow_succ]
 have e:val out+10^k*(n+10*val (b.drop (k+1))+10*val (a.drop (k+1)))=val b+val a:=by
  rw[<- d,f]
  congr 2
  omega
 simpa[val]using Ze3 e
 have s:b.getD k 0=0:=by rw[List.getD_eq_getElem?_getD,List.getElem?_eq_none zo]<;>rfl
 have r:a.getD k 0=0:=by rw[List.getD_eq_getElem?_getD,List.getElem?_eq_none zo]<;>rfl
 omega;have:=h.emp e;omega
theorem AddI.done{b a:List Nat}{M k:Nat}{out:List Nat}{d:Nat}(h:AddI b a M k out d)(g:M=max b.length a.length)(f:¬ (k<M\/d>0)):val out=val b+val a/\decide (b=[]/\a=[])=decide (out=[]):=by
 have c:d=0:=zo;have e:=h.v;rw[List.drop_eq_nil_of_le (show b.length<=k by omega),List.drop_eq_nil_of_le (show a.length<=k by omega),c]at e;refine⟨by simpa[val]using e,?_⟩;rw[decide_eq_decide,<- List.length_eq_zero_iff,<- List.length_eq_zero_iff,<- List.length_eq_zero_iff,h.len];have:=h.emp;omega
structure TakeI(la lb:List Nat)(k:Nat)(out:List Nat)(br:Nat):Prop where
 len:out.length=k
 dig:Dig out
 hbr:br<=1
 v:(val out:Int)+(10:Int)^k*((val (la.drop k):Int)-br-val (lb.drop k))=val la-val lb
theorem TakeI.zero(b a:List Nat):TakeI b a 0 [] 0:={ len:=rfl,dig:=λd c=>by simp at c,hbr:=zo,v:=by simp[val] }
theorem Znu{K x A B o V b:Int}{d a:Int}(h:o+K*(x+10*A-b-(d+10*B))=V){n:Int}(c:n=x-d-b+10*a):(o+K*n)+(K*10)*(A-a-B)=V:=by
 rw[<- h,c,Int.mul_assoc,Int.add_assoc,<- Int.mul_add]
 congr 2
 omega
theorem TakeI.step{b a:List Nat}{k:Nat}{out:List Nat}{f:Nat}(h:TakeI b a k out f){n c:Nat}(i:(n:Int)=(b.getD k 0:Nat)-(a.getD k 0:Nat)-f+10*c)(d:n<10)(j:c<=1):
  TakeI b a (k+1) (out++[n]) c:=by
 refine⟨by simp[h.len],Dig.app.2 ⟨h.dig,Dig.one d⟩,j,?_⟩;have g:=h.v;rw[Kf b k,Kf a k]at g;rw[G0,h.len,Int.pow_succ]
 have e:(val out:Int)+(10:Int)^k*(((b.getD k 0:Nat):Int)+10*(val (b.drop (k+1)):Int)-(f:Int)-(((a.getD k 0:Nat):Int)+10*(val (a.drop (k+1)):Int)))=val b-val a:=by
  rw[<- g]
  congr 2
 have:=Znu e i;simpa[val]using this
theorem TakeI.done{a b:List Nat}{out:List Nat}{d:Nat}(h:TakeI a b a.length out d)(e:b.length<=a.length)(i:val b<=val a):val out=val a-val b:=by
 have c:=h.v;rw[List.drop_eq_nil_of_le (Nat.le_refl _),List.drop_eq_nil_of_le e]at c;have g:=Zfz h.dig;rw[h.len]at g;have k:=h.hbr;have j:((10^a.length:Nat):Int)=(10:Int)^a.length:=zS;have f:d=0\/d=1:=zo
 rcases f with rfl|rfl
 simp[val]at c;omega;simp[val]at c;generalize(10:Int)^a.length=K at *
 have:K * -1 = -K:=by rw[Int.mul_neg,Int.mul_one]
 omega
end Go.Hs
end

section
namespace Go.Proofs
open Go.Shelf
def Gu:Go.Shelf.Ren:=⟨fun|174=>326|247=>334|245=>335|287=>342|279=>343|280=>344|281=>345|282=>346|321=>349|322=>350|316=>351|171=>353|205=>352|243=>354|246=>355|283=>356|284=>357|285=>358|286=>359|129=>196|317=>360|318=>361|319=>362|320=>363|337=>364|338=>365|n=>n,fun|9=>9|3=>3|2=>2|75=>363|85=>364|4=>4|167=>381|5=>5|53=>221|175=>382|46=>172|168=>384|37=>146|0=>0|210=>406|21=>21|127=>409|145=>412|143=>410|171=>414|173=>416|212=>419|51=>219|20=>20|213=>420|232=>421|233=>422|80=>346|n=>n,fun|15=>5|16=>2|17=>6|18=>7|19=>8|n=>n⟩
theorem Ga:Go.Proofs.LaysC.n174 Tryz.prog Gu:={
 mixed:=by kernel_rfl
 f129:=Tryz.func196.trans (congrArg some (by kernel_rfl))
 f171:=Tryz.func353.trans (congrArg some (by kernel_rfl))
 f174:=Tryz.func326.trans (congrArg some (by kernel_rfl))
 f205:=Tryz.func352.trans (congrArg some (by kernel_rfl))
 f243:=Tryz.func354.trans (congrArg some (by kernel_rfl))
 f245:=Tryz.func335.trans (congrArg some (by kernel_rfl))
 f246:=Tryz.func355.trans (congrArg some (by kernel_rfl))
 f247:=Tryz.func334.trans (congrArg some (by kernel_rfl))
 f279:=Tryz.func343.trans (congrArg some (by kernel_rfl))
 f280:=Tryz.func344.trans (congrArg some (by kernel_rfl))
 f281:=Tryz.func345.trans (congrArg some (by kernel_rfl))
 f282:=Tryz.func346.trans (congrArg some (by kernel_rfl))
 f283:=Tryz.func356.trans (congrArg some (by kernel_rfl))
 f284:=Tryz.func357.trans (congrArg some (by kernel_rfl))
 f285:=Tryz.func358.trans (congrArg some (by kernel_rfl))
 f286:=Tryz.func359.trans (congrArg some (by kernel_rfl))
 f287:=Tryz.func342.trans (congrArg some (by kernel_rfl))
 f316:=Tryz.func351.trans (congrArg some (by kernel_rfl))
 f317:=Tryz.func360.trans (congrArg some (by kernel_rfl))
 f318:=Tryz.func361.trans (congrArg some (by kernel_rfl))
 f319:=Tryz.func362.trans (congrArg some (by kernel_rfl))
 f320:=Tryz.func363.trans (congrArg some (by kernel_rfl))
 f321:=Tryz.func349.trans (congrArg some (by kernel_rfl))
 f322:=Tryz.func350.trans (congrArg some (by kernel_rfl))
 f337:=Tryz.func364.trans (congrArg some (by kernel_rfl))
 f338:=Tryz.func365.trans (congrArg some (by kernel_rfl))
 t0:=Tryz.underlying0
 a0:=Tryz.isAgg0
 z0:=Tryz.sizeOf0
 v0:=Tryz.zeroValue0
 t2:=Tryz.underlying2
 a2:=Tryz.isAgg2
 z2:=Tryz.sizeOf2
 v2:=Tryz.zeroValue2
 t3:=Tryz.underlying3
 a3:=Tryz.isAgg3
 z3:=Tryz.sizeOf3
 v3:=Tryz.zeroValue3
 t4:=Tryz.underlying4
 a4:=Tryz.isAgg4
 z4:=Tryz.sizeOf4
 v4:=Tryz.zeroValue4
 t5:=Tryz.underlying5
 a5:=Tryz.isAgg5
 z5:=Tryz.sizeOf5
 v5:=Tryz.zeroValue5
 t9:=Tryz.underlying9
 a9:=Tryz.isAgg9
 z9:=Tryz.sizeOf9
 v9:=Tryz.zeroValue9
 t20:=Tryz.underlying20
 a20:=Tryz.isAgg20
 z20:=Tryz.sizeOf20
 v20:=Tryz.zeroValue20
 t21:=Tryz.underlying21
 a21:=Tryz.isAgg21
 z21:=Tryz.sizeOf21
 v21:=Tryz.zeroValue21
 t37:=Tryz.underlying146
 a37:=Tryz.isAgg146
 z37:=Tryz.sizeOf146
 v37:=Tryz.zeroValue146
 t46:=Tryz.underlying172
 a46:=Tryz.isAgg172
 z46:=Tryz.sizeOf172
 v46:=Tryz.zeroValue172
 t51:=Tryz.underlying219
 a51:=Tryz.isAgg219
 z51:=Tryz.sizeOf219
 v51:=Tryz.zeroValue219
 t53:=Tryz.underlying221
 a53:=Tryz.isAgg221
 z53:=Tryz.sizeOf221
 v53:=Tryz.zeroValue221
 t75:=Tryz.underlying363
 a75:=Tryz.isAgg363
 z75:=Tryz.sizeOf363
 v75:=Tryz.zeroValue363
 t85:=Tryz.underlying364
 a85:=Tryz.isAgg364
 z85:=Tryz.sizeOf364
 v85:=Tryz.zeroValue364
 t127:=Tryz.underlying409
 a127:=Tryz.isAgg409
 z127:=Tryz.sizeOf409
 v127:=Tryz.zeroValue409
 t143:=Tryz.underlying410
 a143:=Tryz.isAgg410
 z143:=Tryz.sizeOf410
 v143:=Tryz.zeroValue410
 t145:=Tryz.underlying412
 a145:=Tryz.isAgg412
 z145:=Tryz.sizeOf412
 v145:=Tryz.zeroValue412
 t167:=Tryz.underlying381
 a167:=Tryz.isAgg381
 z167:=Tryz.sizeOf381
 v167:=Tryz.zeroValue381
 t168:=Tryz.underlying384
 a168:=Tryz.isAgg384
 z168:=Tryz.sizeOf384
 v168:=Tryz.zeroValue384
 t171:=Tryz.underlying414
 a171:=Tryz.isAgg414
 z171:=Tryz.sizeOf414
 v171:=Tryz.zeroValue414
 t173:=Tryz.underlying416
 a173:=Tryz.isAgg416
 z173:=Tryz.sizeOf416
 v173:=Tryz.zeroValue416
 t175:=Tryz.underlying382
 a175:=Tryz.isAgg382
 z175:=Tryz.sizeOf382
 v175:=Tryz.zeroValue382
 t210:=Tryz.underlying406
 a210:=Tryz.isAgg406
 z210:=Tryz.sizeOf406
 v210:=Tryz.zeroValue406
 t212:=Tryz.underlying419
 a212:=Tryz.isAgg419
 z212:=Tryz.sizeOf419
 v212:=Tryz.zeroValue419
 t213:=Tryz.underlying420
 a213:=Tryz.isAgg420
 z213:=Tryz.sizeOf420
 t232:=Tryz.underlying421
 a232:=Tryz.isAgg421
 z232:=Tryz.sizeOf421
 v232:=Tryz.zeroValue421
 t233:=Tryz.underlying422
 a233:=Tryz.isAgg422
 z233:=Tryz.sizeOf422
 v233:=Tryz.zeroValue422
 g15:=by kernel_rfl
 g16:=by kernel_rfl
 g17:=by kernel_rfl
 g18:=by kernel_rfl
 g19:=by kernel_rfl
 t80:=Tryz.underlying346
 a80:=Tryz.isAgg346
 z80:=Tryz.sizeOf346
 v80:=Tryz.zeroValue346
 i0:=by kernel_rfl
 i2:=by kernel_rfl
 i3:=by kernel_rfl
 i4:=by kernel_rfl
 i5:=by kernel_rfl
 i9:=by kernel_rfl
 i20:=by kernel_rfl
 i21:=by kernel_rfl
 i37:=by kernel_rfl
 i46:=by kernel_rfl
 i51:=by kernel_rfl
 i53:=by kernel_rfl
 i75:=by kernel_rfl
 i80:=by kernel_rfl
 i85:=by kernel_rfl
 i127:=by kernel_rfl
 i143:=by kernel_rfl
 i145:=by kernel_rfl
 i167:=by kernel_rfl
 i168:=by kernel_rfl
 i171:=by kernel_rfl
 i173:=by kernel_rfl
 i175:=by kernel_rfl
 i210:=by kernel_rfl
 i212:=by kernel_rfl
 i232:=by kernel_rfl
 i233:=by kernel_rfl
 m15:=by kernel_rfl
 m16:=by kernel_rfl
 m17:=by kernel_rfl
 m18:=by kernel_rfl
 m19:=by kernel_rfl
 c0:=by kernel_rfl
 c2:=by kernel_rfl
 c3:=by kernel_rfl
 c4:=by kernel_rfl
 c5:=by kernel_rfl
 c9:=by kernel_rfl
 c20:=by kernel_rfl
 c21:=by kernel_rfl
 c37:=by kernel_rfl
 c46:=by kernel_rfl
 c51:=by kernel_rfl
 c53:=by kernel_rfl
 c75:=by kernel_rfl
 c80:=by kernel_rfl
 c85:=by kernel_rfl
 c127:=by kernel_rfl
 c143:=by kernel_rfl
 c145:=by kernel_rfl
 c167:=by kernel_rfl
 c168:=by kernel_rfl
 c171:=by kernel_rfl
 c173:=by kernel_rfl
 c175:=by kernel_rfl
 c210:=by kernel_rfl
 c212:=by kernel_rfl
 c213:=by kernel_rfl
 c232:=by kernel_rfl
 c233:=by kernel_rfl }
def Gq:Go.Shelf.Ren:=⟨fun|101=>333|208=>341|206=>257|n=>n,fun|9=>9|4=>4|3=>3|n=>n,fun|n=>n⟩
theorem Zoj:Go.Proofs.Lays.n101 Tryz.prog Gq:={
 mixed:=by kernel_rfl
 f101:=Tryz.func333.trans (congrArg some (by kernel_rfl))
 f206:=Tryz.func257.trans (congrArg some (by kernel_rfl))
 f208:=Tryz.func341.trans (congrArg some (by kernel_rfl))
 t3:=Tryz.underlying3
 a3:=Tryz.isAgg3
 z3:=Tryz.sizeOf3
 v3:=Tryz.zeroValue3
 t4:=Tryz.underlying4
 a4:=Tryz.isAgg4
 z4:=Tryz.sizeOf4
 v4:=Tryz.zeroValue4
 t9:=Tryz.underlying9
 a9:=Tryz.isAgg9
 z9:=Tryz.sizeOf9
 v9:=Tryz.zeroValue9 }
end Go.Proofs
end

section
namespace Go.Hs
open Go.Proofs
set_option maxRecDepth 10000
theorem Gh(G:Nat->V)(s p:List UInt8):Spec Tryz.prog G 333 [.str s,.str p] Zi (λv _=>v=.str (Lib.trimPrefix s p)):=by
 refine U7 λX a _ _ g=>?_;obtain⟨x,y,rfl,f,d⟩:=g.two;obtain⟨b,rfl,rfl⟩:=f.str_inv;obtain⟨c,rfl,rfl⟩:=d.str_inv;refine(show Calls Tryz.prog 333 _ _ _ from Any.strings_TrimPrefix Zoj b c X.w).mono ?_;rintro e w' ⟨rfl,rfl⟩;exact⟨_,_,rfl,RowKit.Below.refl _ _,.str _ _ rfl,zS⟩
theorem u8_inj{c:UInt8}(h:c.toNat=48):c=48:=UInt8.toNat_inj.1 h
theorem A1(G:Nat->V)(x:Y6 G)(s:List UInt8)(z:s.length<1000000):Spec Tryz.prog G 325 [.str s] Zi (λv _=>v=.bool (Qz s)):=by
 refine Zo 0 34 [.tmp 2] Tryz.func325 λX=>?_;refine Z1 ?_;refine Z1 ?_;refine Zn x ?_ (s:=(Gh G s [45]));have n:=Lib.trimPrefix_le s [45];have g:Qz s=((Lib.trimPrefix s [45]).all Y9&&(s==[48]||(!(Lib.trimPrefix s [45]==[]) && !((Lib.trimPrefix s [45]).head? == some 48)))):=rfl;generalize Lib.trimPrefix s [45]=t at n g⊢;refine Zs ?_;refine Z1 ?_;refine AW.block ?_
 refine Yf t.length (λk (_:Unit)=>st [(0,.str s),(3,.str t),(7,.str t),(8,.int .i64 t.length),(9,.int .i64 k)] []) (λk _=>(t.take k).all Y9=true) 0 () (Nat.zero_le _) rfl
  (Weak.st zp zp) ?_
 intro k _ A p B o;refine Z1 ?_;refine Z4 ?_;refine Zm rfl (λq=>?_) (λq=>?_)
 have b:k<t.length:=by have:=of_decide_eq_true q;omega
 refine Z0 ?_;have m:=List.getElem?_eq_getElem b
 have f:t.take (k+1)=t.take k++[t[k]]:=by rw[List.take_succ_eq_append_getElem b]
 generalize t[k]=c at m f;refine Xc m ?_
 by_cases d:Y9 c=true
 have i:48<=c.toNat/\c.toNat<=57:=by unfold Y9 at d;simpa using d
 have a:decide ((c.toNat:Int)<48)=false:=zF;have u:decide ((c.toNat:Int)>57)=false:=zF;refine Xc (zi m (zi a u)) ?_;refine Wx rfl ?_;refine Z1 ?_;refine o _ ⟨b,(),by rw[f,List.all_append,p];simp[d],Weak.st (by refine Zs ?_;exact congrArg _ (by rw[W0 zo zo];omega)) zp⟩
 have e:t.all Y9=false:=by
  rw[<- List.take_append_drop (k+1) t,List.all_append,f,List.all_append];have:Y9 c=false:=zu d;simp[this]
 have i:c.toNat<48\/57<c.toNat:=by
  rcases Nat.lt_or_ge c.toNat 48 with h|h
  exact .inl h
  rcases Nat.lt_or_ge 57 c.toNat with l|l
  exact .inr l;exact absurd (by unfold Y9;simp[h,l]) d
 rcases i with h|h
 have a:decide ((c.toNat:Int)<48)=true:=zT;refine Xc (zi m a) ?_;refine Zm rfl (λj=>?_) (λj=>?_);refine Z ?_
 rw[g,e]<;>rfl
 cases j;have a:decide ((c.toNat:Int)<48)=false:=zF;have u:decide ((c.toNat:Int)>57)=true:=zT;refine Xc (zi m (zi a u)) ?_;refine Zm rfl (λj=>?_) (λj=>?_);refine Z ?_
 rw[g,e]<;>rfl
 cases j
 have b:k=t.length:=by have:=of_decide_eq_false q;omega
 refine Z0 ?_;rw[b,List.take_length]at p;rw[p]at g
 by_cases w:s=[48]
 have a:(s==[48])=true:=zu w;refine Zf a ?_
 rw[g,a]<;>rfl
 .have a:(s==[48])=false:=zu w
  cases t with
  |nil=>
   refine Zf a ?_
   rw[g,a]<;>rfl
  |cons c r=>
   refine Zf a ?_;rw[g,a]
   by_cases d:c=48
   subst d;rfl;have l:((c.toNat:Int) != 48)=true:=bne_iff_ne.2 λh=>d (u8_inj zo);have y:((c::r).head? == some 48)=false:=zu d
   rw[l,y]<;>rfl
end Go.Hs
end

section
namespace Go.Proofs.NumD
open Go.RowKit Go.Extern.Stop Go.Stop Go.Extern
set_option maxRecDepth 100000
theorem Z21(v:Value)(w:World):(Extern.ReflectliteType.typeOf #[.iface 410 v]).run Tryz.prog w=.ok (.iface 388 (.agg #[.pointer (some ⟨9,410,none⟩)])) w:=by kernel_rfl
theorem Z2a (w:World):((Extern.ReflectliteType.method fun t=>do Extern.Rtype.noPackHeld "Comparable" t;pure (.bool (← typeInfo t).comparable)) #[.agg #[.pointer (some ⟨9,410,none⟩)]]).run Tryz.prog w = .ok (.bool true) w:=by kernel_rfl
theorem Dy(w:World):(callFunc 391 #[.agg #[.pointer (some ⟨9,410,none⟩)]]).run Tryz.prog w=.ok (.value (.bool true)) w:=by
 rw [@run_callFunc_extern Tryz.prog 391 _ (Extern.ReflectliteType.method fun t=>do Extern.Rtype.noPackHeld "Comparable" t;pure (.bool (← typeInfo t).comparable)) Tryz.func391 (by kernel_rfl) (by kernel_rfl) (by kernel_rfl) (by kernel_rfl),Z2a]
 try rfl
theorem Lq (v:Value) (w:World):(Go.method 554 388 v "Comparable").run Tryz.prog w = .ok (391,v) w:=by kernel_rfl
theorem isComp:(Tryz.prog.info? 410).map (·.comparable)=some true:=by kernel_rfl
theorem isSize:(Tryz.prog.info? 412).map (·.size)=some 1:=by kernel_rfl
theorem noIsW(v:Value)(a:TypeId)(w:World):(Instr.typeAssert (.iface 384 v) a 390 true).run Tryz.prog w=.ok (.tuple #[.nilIface,.bool false]) w:=run_typeAssert_lacksB Tryz.underlying390 (by kernel_rfl) (by kernel_rfl) v a w
theorem Z6o(v:Value)(a:TypeId)(w:World):(Instr.typeAssert (.iface 384 v) a 393 true).run Tryz.prog w=.ok (.tuple #[.iface 384 v,.bool true]) w:=run_typeAssert_hasB Tryz.underlying393 (by kernel_rfl) v a w
theorem Zva (v:Value) (w:World):(Go.method 554 384 v "Unwrap").run Tryz.prog w = .ok (387,v) w:=by kernel_rfl
theorem is_nil(b:Addr)(w:World):
  Calls Tryz.prog 327 #[.nilIface,.iface 410 (.pointer (some b))] w λe w'=>e=.returned (.bool false)/\w'=w:=by
 have a:=run_eql_iface_nil_left (P:=Tryz.prog) w 410 (.pointer (some b)) Tryz.underlying363
 go_enter Tryz.func327,Tryz.ntmps327
 go_wp2
 go_ret
 exact⟨rfl,rfl⟩
theorem is_num(d c:Nat)(b:Addr)(w:World)(t:w.cell? ⟨d,c+2,none⟩=some (.iface 410 (.pointer (some b)))):
  Calls Tryz.prog 327 #[.iface 384 (.pointer (some ⟨d,c,none⟩)),.iface 410 (.pointer (some b))] w λe w'=>e=.returned (.bool true)/\w'=w:=by
 obtain⟨i,k,a⟩:=Option.map_eq_some_iff.1 isComp;obtain⟨j,h,g⟩:=Option.map_eq_some_iff.1 isSize;have s := @run_callFunc_extern Tryz.prog 336 _ Extern.ReflectliteType.typeOf Tryz.func336 (by kernel_rfl) (by kernel_rfl) (by kernel_rfl) (by kernel_rfl);have r:=Dy;have n:=Z21;have q:=Lq;have o:=noIsW;have m:=Z6o;have p:=Zva;have l:=run_eql_iface_ptr_same (P:=Tryz.prog) w b Tryz.underlying363 Tryz.underlying410 k a h;have f:=run_eql_iface_types (P:=Tryz.prog) 384 410 (.pointer (some ⟨d,c,none⟩)) (.pointer (some b)) Tryz.underlying363 (by decide) w
 go_enter Tryz.func327,Tryz.ntmps327
 go_wp2
 refine wp_loop_rounds 2 ?_;rw[rounds_succ]
 go_wp2
 rw[rounds_succ]
 go_wp2
 go_ret
 exact⟨rfl,rfl⟩
end Go.Proofs.NumD
end

section
namespace Go.Hs
open Go.Proofs Go.RowKit
set_option maxRecDepth 100000
theorem Cl(s:ByteArray)(a:s.data.toList.length<1000000)(w:World):Calls Tryz.prog 325 #[.string s] w λe w'=>e=.returned (.bool (Qz s.data.toList))/\Below w.heap.size w w':=by
 refine((A1 gTop Zp5 s.data.toList a).toCalls (Z2l s)).mono ?_;rintro e w' ⟨c,v,f,Y,rfl,b,rfl,d⟩;exact⟨by rw[b.bool_inv],d⟩
theorem Zeg(s:ByteArray)(a:s.data.toList.length<1000000)(v:Int)(h:Lib.parseIntB 64 s.data.toList=.ok v)(w:World):Calls Tryz.prog 326 #[.string s,.int .i64 10,.int .i64 64] w λe w'=>e=.returned (.tuple #[.int .i64 v,.nilIface])/\Below w.heap.size w w':=by
 refine(show Calls Tryz.prog 326 _ _ _ from Any.strconv_ParseInt_10_at64_ok Ga s (by rw[Lib.size_eq];omega) v h w).mono ?_;rintro e w' ⟨rfl,rfl|⟨t,rfl⟩⟩;exact⟨rfl,Below.refl _ _⟩;exact⟨rfl,Lib.bytesWorld_below _ _ _⟩
theorem Ei(s:ByteArray)(g:s.data.toList.length<1000000)(h:Lib.parseIntB 64 s.data.toList=.range)(a:TypeId)(b:Value)(w:World)(c:w.cell? ⟨2,0,none⟩=some (.iface a b)):Calls Tryz.prog 326 #[.string s,.int .i64 10,.int .i64 64] w λe w'=>∃ N n,e=.returned (.tuple #[.int .i64 n,.iface 384 (.pointer (some ⟨N,0,none⟩))])/\w'.cell? ⟨N,2,none⟩=some (.iface a b)/\Below w.heap.size w w':=by
 refine(show Calls Tryz.prog 326 _ _ _ from Any.strconv_ParseInt_10_at64_range Ga s (by rw[Lib.size_eq];omega) h _ w c (.inr ⟨_,_,rfl⟩)).mono ?_;rintro e w' ⟨N,rfl,_,f,d⟩;exact⟨N,_,rfl,by simp[World.cell?,f],d⟩
theorem Zdg(s:ByteArray)(o:s.data.toList.length<1000000)(b:Addr)(w:World)(m:w.cell? ⟨2,0,none⟩=some (.iface 410 (.pointer (some b)))):
  Calls Tryz.prog 319 #[.string s] w λe w'=>e=.returned (.tuple #[.int .i64 (Uj s.data.toList).1,.int .i64 (Uj s.data.toList).2])/\Below w.heap.size w w':=by
 have h:=Cl s o;have lt:=Lib.lt_of_cell m
 rcases Zdv s.data.toList with ⟨g,f⟩|⟨g,⟨v,f,i⟩|⟨f,i⟩⟩
 .rw[g]at h
  rw[f]
  try clear g f
  go_enter Tryz.func319,Tryz.ntmps319
  go_wp2_with (go_at_call 325;refine(h _).mono ?_;rintro e k ⟨rfl,a⟩)
  go_wp2
  go_ret2
  exact⟨rfl,a⟩
 .rw[g]at h
  rw[i];have p:=Zeg s o v f;have r:=NumD.is_nil b
  try clear g f i
  go_enter Tryz.func319,Tryz.ntmps319
  go_wp2_with (go_at_call 325;refine(h _).mono ?_;rintro e k ⟨rfl,a⟩)
  have d:k.cell? ⟨2,0,none⟩=some (.iface 410 (.pointer (some b))):=(a.cell lt).trans m
  go_wp2_with (go_at_call 326;refine(p _).mono ?_)
  rintro e j ⟨rfl,c⟩;have l:j.cell? ⟨2,0,none⟩=some (.iface 410 (.pointer (some b))):=(c.cell (Nat.lt_of_lt_of_le lt a.size)).trans d
  go_wp2_with (go_at_call 327;refine(r _).mono ?_;rintro e u ⟨rfl,rfl⟩)
  go_wp2
  go_ret2
  exact⟨rfl,a.trans (c.mono a.size)⟩
 .rw[g]at h
  rw[i];have p:=Ei s o f 410 (.pointer (some b))
  try clear g f i
  go_enter Tryz.func319,Tryz.ntmps319
  go_wp2_with (go_at_call 325;refine(h _).mono ?_;rintro e k ⟨rfl,a⟩)
  have d:k.cell? ⟨2,0,none⟩=some (.iface 410 (.pointer (some b))):=(a.cell lt).trans m
  go_wp2_with (go_at_call 326;refine(p _ ?_).mono ?_)
  exact d;rintro e j ⟨N,n,rfl,t,c⟩;have l:j.cell? ⟨2,0,none⟩=some (.iface 410 (.pointer (some b))):=(c.cell (Nat.lt_of_lt_of_le lt a.size)).trans d;have q:=NumD.is_num N 0 b j t
  go_wp2_with (go_at_call 327;refine q.mono ?_;rintro e u ⟨rfl,rfl⟩)
  go_wp2
  go_ret2
  exact⟨rfl,a.trans (c.mono a.size)⟩
end Go.Hs
end

section
namespace Go.Hs
open Go.Proofs
set_option maxRecDepth 10000
structure GNum(G:Nat->V):Prop where
 ok:Y6 G
 er:∃ c c' v,G 2=.view c (.iface 410 (.view c' v))
 tab:∃ c,G 6=.view c (.agg (Lib.pow10Tab.map (V.int .u64)))
theorem Zpg(G:Nat->V)(q:GNum G)(s:List UInt8)(l:s.length<1000000):Spec Tryz.prog G 319 [.str s] Zi (λv _=>v=encR (Uj s)):=by
 refine U7 λX g _ p r=>?_;obtain⟨x,rfl,k⟩:=r.one;obtain⟨j,rfl,rfl⟩:=k.str_inv;obtain⟨c,u,v,n⟩:=q.er;have h:=(p 2).rel;rw[n]at h;obtain⟨f,m⟩:=h.view_inv;obtain⟨d,a⟩:=m 0 (by simp[V.cells]);have a:Rel X (f 0) (.iface 410 (.view u v)):=a;generalize f 0=y at d a
 cases a with
 |iface t x _ h3=>
  cases h3 with
  |view _ _ b off f' _ _=>
   refine(Zdg j l ⟨b,off,none⟩ X.w d).mono ?_;rintro e w' ⟨rfl,o⟩;refine⟨_,_,rfl,o,?_,rfl⟩;refine .tuple _ _ rfl λi d a=>?_
   match i,d with
   |0,_=>exact .int _ _
   |1,_=>exact .int _ _
end Go.Hs
end

section
namespace Go.Proofs
open Go.Shelf
def Gv:Go.Shelf.Ren:=⟨fun|99=>236|206=>257|n=>n,fun|9=>9|4=>4|3=>3|n=>n,fun|n=>n⟩
theorem Zqj:Go.Proofs.Lays.n99 Tryz.prog Gv:={
 mixed:=by kernel_rfl
 f99:=Tryz.func236.trans (congrArg some (by kernel_rfl))
 f206:=Tryz.func257.trans (congrArg some (by kernel_rfl))
 t3:=Tryz.underlying3
 a3:=Tryz.isAgg3
 z3:=Tryz.sizeOf3
 v3:=Tryz.zeroValue3
 t4:=Tryz.underlying4
 a4:=Tryz.isAgg4
 z4:=Tryz.sizeOf4
 v4:=Tryz.zeroValue4
 t9:=Tryz.underlying9
 a9:=Tryz.isAgg9
 z9:=Tryz.sizeOf9
 v9:=Tryz.zeroValue9 }
def Gx:Go.Shelf.Ren:=⟨fun|144=>241|143=>258|219=>274|217=>296|225=>297|224=>298|267=>299|266=>316|314=>317|n=>n,fun|9=>9|4=>4|3=>3|5=>5|46=>172|146=>349|51=>219|n=>n,fun|1=>1|n=>n⟩
theorem Zrj:Go.Proofs.Lays.n144 Tryz.prog Gx:={
 mixed:=by kernel_rfl
 f143:=Tryz.func258.trans (congrArg some (by kernel_rfl))
 f144:=Tryz.func241.trans (congrArg some (by kernel_rfl))
 f217:=Tryz.func296.trans (congrArg some (by kernel_rfl))
 f219:=Tryz.func274.trans (congrArg some (by kernel_rfl))
 f224:=Tryz.func298.trans (congrArg some (by kernel_rfl))
 f225:=Tryz.func297.trans (congrArg some (by kernel_rfl))
 f266:=Tryz.func316.trans (congrArg some (by kernel_rfl))
 f267:=Tryz.func299.trans (congrArg some (by kernel_rfl))
 f314:=Tryz.func317.trans (congrArg some (by kernel_rfl))
 t3:=Tryz.underlying3
 a3:=Tryz.isAgg3
 z3:=Tryz.sizeOf3
 v3:=Tryz.zeroValue3
 t4:=Tryz.underlying4
 a4:=Tryz.isAgg4
 z4:=Tryz.sizeOf4
 v4:=Tryz.zeroValue4
 t5:=Tryz.underlying5
 a5:=Tryz.isAgg5
 z5:=Tryz.sizeOf5
 v5:=Tryz.zeroValue5
 t9:=Tryz.underlying9
 a9:=Tryz.isAgg9
 z9:=Tryz.sizeOf9
 v9:=Tryz.zeroValue9
 t46:=Tryz.underlying172
 a46:=Tryz.isAgg172
 z46:=Tryz.sizeOf172
 v46:=Tryz.zeroValue172
 t51:=Tryz.underlying219
 a51:=Tryz.isAgg219
 z51:=Tryz.sizeOf219
 v51:=Tryz.zeroValue219
 t146:=Tryz.underlying349
 a146:=Tryz.isAgg349
 z146:=Tryz.sizeOf349
 v146:=Tryz.zeroValue349
 g1:=by kernel_rfl }
def Gs:Go.Shelf.Ren:=⟨fun|161=>318|231=>321|227=>322|233=>323|235=>324|228=>330|197=>331|151=>332|260=>339|152=>340|137=>347|119=>348|224=>298|225=>297|217=>296|266=>316|n=>n,fun|9=>9|4=>4|3=>3|5=>5|117=>358|116=>357|0=>0|124=>361|105=>370|21=>21|119=>398|46=>172|139=>401|138=>400|n=>n,fun|3=>3|4=>4|n=>n⟩
theorem Zpj:Go.Proofs.Lays.n161 Tryz.prog Gs:={
 mixed:=by kernel_rfl
 f119:=Tryz.func348.trans (congrArg some (by kernel_rfl))
 f137:=Tryz.func347.trans (congrArg some (by kernel_rfl))
 f151:=Tryz.func332.trans (congrArg some (by kernel_rfl))
 f152:=Tryz.func340.trans (congrArg some (by kernel_rfl))
 f161:=Tryz.func318.trans (congrArg some (by kernel_rfl))
 f197:=Tryz.func331.trans (congrArg some (by kernel_rfl))
 f217:=Tryz.func296.trans (congrArg some (by kernel_rfl))
 f224:=Tryz.func298.trans (congrArg some (by kernel_rfl))
 f225:=Tryz.func297.trans (congrArg some (by kernel_rfl))
 f227:=Tryz.func322.trans (congrArg some (by kernel_rfl))
 f228:=Tryz.func330.trans (congrArg some (by kernel_rfl))
 f231:=Tryz.func321.trans (congrArg some (by kernel_rfl))
 f233:=Tryz.func323.trans (congrArg some (by kernel_rfl))
 f235:=Tryz.func324.trans (congrArg some (by kernel_rfl))
 f260:=Tryz.func339.trans (congrArg some (by kernel_rfl))
 f266:=Tryz.func316.trans (congrArg some (by kernel_rfl))
 t0:=Tryz.underlying0
 a0:=Tryz.isAgg0
 z0:=Tryz.sizeOf0
 v0:=Tryz.zeroValue0
 t3:=Tryz.underlying3
 a3:=Tryz.isAgg3
 z3:=Tryz.sizeOf3
 v3:=Tryz.zeroValue3
 t4:=Tryz.underlying4
 a4:=Tryz.isAgg4
 z4:=Tryz.sizeOf4
 v4:=Tryz.zeroValue4
 t5:=Tryz.underlying5
 a5:=Tryz.isAgg5
 z5:=Tryz.sizeOf5
 v5:=Tryz.zeroValue5
 t9:=Tryz.underlying9
 a9:=Tryz.isAgg9
 z9:=Tryz.sizeOf9
 v9:=Tryz.zeroValue9
 t21:=Tryz.underlying21
 a21:=Tryz.isAgg21
 z21:=Tryz.sizeOf21
 v21:=Tryz.zeroValue21
 t46:=Tryz.underlying172
 a46:=Tryz.isAgg172
 z46:=Tryz.sizeOf172
 v46:=Tryz.zeroValue172
 t105:=Tryz.underlying370
 a105:=Tryz.isAgg370
 z105:=Tryz.sizeOf370
 v105:=Tryz.zeroValue370
 t116:=Tryz.underlying357
 a116:=Tryz.isAgg357
 z116:=Tryz.sizeOf357
 t117:=Tryz.underlying358
 a117:=Tryz.isAgg358
 z117:=Tryz.sizeOf358
 v117:=Tryz.zeroValue358
 t119:=Tryz.underlying398
 a119:=Tryz.isAgg398
 z119:=Tryz.sizeOf398
 t124:=Tryz.underlying361
 a124:=Tryz.isAgg361
 z124:=Tryz.sizeOf361
 v124:=Tryz.zeroValue361
 t138:=Tryz.underlying400
 a138:=Tryz.isAgg400
 z138:=Tryz.sizeOf400
 v138:=Tryz.zeroValue400
 t139:=Tryz.underlying401
 a139:=Tryz.isAgg401
 z139:=Tryz.sizeOf401
 v139:=Tryz.zeroValue401
 g3:=by kernel_rfl
 g4:=by kernel_rfl }
end Go.Proofs
end

section
namespace Go.Hs
open Go.Proofs
set_option maxHeartbeats 1000000
set_option maxRecDepth 10000
structure GExp(G:Nat->V):Prop extends GNum G where
 sg:∃ c,G 0=.view c (.agg (signsL.map V.str))
 ml:∃ c m,G 1=.view c (.int .i64 m)
theorem T2(G:Nat->V)(s p:List UInt8):Spec Tryz.prog G 236 [.str s,.str p] Zi (λv _=>v=.bool (Yx p s)):=by
 refine U7 λX a _ _ g=>?_;obtain⟨x,y,rfl,f,d⟩:=g.two;obtain⟨b,rfl,rfl⟩:=f.str_inv;obtain⟨c,rfl,rfl⟩:=d.str_inv;refine(show Calls Tryz.prog 236 _ _ _ from Any.strings_HasPrefix Zqj b c X.w).mono ?_;rintro e w' ⟨rfl,rfl⟩;exact⟨_,_,rfl,RowKit.Below.refl _ _,.bool _,rfl⟩
theorem C3(G:Nat->V)(q:GExp G)(s p:List UInt8)(t:s.length<1000000):Spec Tryz.prog G 241 [.str s,.str p] Zi (λv _=>v=.bool (Lib.contains s p)):=by
 refine U7 λX b _ o r=>?_;obtain⟨x,y,rfl,k,j⟩:=r.two;obtain⟨h,rfl,rfl⟩:=k.str_inv;obtain⟨i,rfl,rfl⟩:=j.str_inv;obtain⟨c,m,n⟩:=q.ml;have g:=(o 1).rel;rw[n]at g;obtain⟨f,l⟩:=g.view_inv;obtain⟨d,a⟩:=l 0 (by simp[V.cells]);have a:Rel X (f 0) (.int .i64 m):=a;rw[a.int_inv]at d;refine(show Calls Tryz.prog 241 _ _ _ from Any.strings_Contains Zrj h i m X.w (by rw[Lib.size_eq];omega) d).mono ?_;rintro e w' ⟨rfl,rfl⟩;exact⟨_,_,rfl,RowKit.Below.refl _ _,.bool _,rfl⟩
def D2(s:List UInt8):Nat:=Wy Sk s+if Yx [45,45] (s.drop (Wy Sk s))then Wy Ir (s.drop (Wy Sk s))else 0
theorem Z5t:∀ s:List UInt8,blk s=Wy Sk s+blk (s.drop (Wy Sk s))
 |[]=>rfl
 |c::r=>by
  rw[J6]
  cases h:Sk c with
  |true=>rw[Zz2 h,if_pos rfl,List.drop_succ_cons,Z5t r];omega
  |false=>rw[if_neg zS];simp
theorem Zzh(s:List UInt8):blk s=D2 s+blk (s.drop (D2 s)):=by
 unfold D2;rw[Z5t s]
 split
 rename_i h;rw[Z6t h,List.drop_drop];omega;rfl
theorem Zmx{s:List UInt8}(h:D2 s=0):blk s=0:=by
 unfold D2 at h;have a:Wy Sk s=0:=zo;rw[a,List.drop_zero]at h
 match s with
 |[]=>rfl
 |c::r=>
  rw[J6]at a
  have b:Sk c=false:=by
   cases b:Sk c with
   |false=>rfl
   |true=>rw[b]at a;simp at a
  refine Zy2 b ?_
  cases d:Yx [45,45] (c::r)with
  |false=>rfl
  |true=>have:=K3 d;rw[if_pos d]at h;omega
theorem Za6(s:List UInt8):D2 s<=s.length:=by
 have b:=Zzh s;have a:=Z0p s;omega
theorem K9(G:Nat->V)(e:Y6 G)(s:List UInt8)(r:s.length<1000000):Spec Tryz.prog G 215 [.str s] Zi (λv _=>v=.int .i64 (blk s)):=by
 refine Zo 0 29 [.tmp 2] Tryz.func215 λX=>?_;refine Z1 ?_;refine Z1 ?_;refine AW.block ?_
 refine Vz (fun(k:Nat)=>st [(0,.str s),(3,.int .i64 k)] []) (λk=>k<=s.length/\blk s=k+blk (s.drop k)) (λk=>s.length-k) 0 ⟨Nat.zero_le _,zS⟩
  (Weak.st zp zp) ?_
 rintro k ⟨q,p⟩ t l;refine AW.block ?_;have h:=P5 Sk (s.drop k);rw[List.length_drop]at h;have c:=Zzh (s.drop k);have b:=Za6 (s.drop k);have d:D2 (s.drop k)=0->blk (s.drop k)=0:=Zmx;rw[List.length_drop]at b;rw[List.drop_drop]at c;refine Xc (zi q @Nat.le_refl) ?_;refine Zc e ?_ (s:=(Mh G e _ zO (fBl e)));refine Wr (fun(_:Unit)=>st [(0,.str s),(3,.int .i64 k),(4,.int .i64 (D2 (s.drop k)))] []) (λ_=>True) (λK3 a=>?_) ?_
 .have hkn:k+Wy Sk (s.drop k)<=s.length:=zo
  have i:IntKind.i64.wrap ((k:Int)+(Wy Sk (s.drop k):Nat))=((k+Wy Sk (s.drop k):Nat):Int):=by rw[W0 zo zo];omega
  have j:D2 (s.drop k)=Wy Sk (s.drop k)+if Yx [45,45] (s.drop (k+Wy Sk (s.drop k)))then Wy Ir (s.drop (k+Wy Sk (s.drop k)))else 0:=by
   unfold D2;rw[List.drop_drop]
  have g:=P5 Ir (s.drop (k+Wy Sk (s.drop k)));rw[List.length_drop]at g;generalize Wy Sk (s.drop k)=n at h hkn i j g⊢;rw[j]at b a
  try clear j c d
  refine Xc (zi hkn (zi @Nat.le_refl i)) ?_;refine Zc e ?_ (s:=(T2 G _ _));refine Zm rfl (λm=>?_) (λm=>?_);refine Xc (zi hkn (zi @Nat.le_refl i)) ?_;refine Zn e ?_ (s:=(Mh G e _ zO (fNoNl e)));rw[if_pos m]at b a;refine Zs ?_;exact a _ () trivial (Weak.st (by refine Zs ?_;exact congrArg _ (by rw[W0 zo zo];omega)) zp);refine Z0 ?_;rw[if_neg (by simp[m])]at a;exact a _ () trivial (Weak.st zp zp)
 intro _ _;generalize D2 (s.drop k)=n at c b d⊢;refine Z1 ?_;refine Zm rfl (λf=>?_) (λf=>?_)
 have o:n=0:=by have f:((n:Int)==0)=true:=f;simpa using f
 refine Z ?_
 rw[p,d o]<;>rfl
 have o:n≠0:=by have f:((n:Int)==0)=false:=f;simpa using f
 refine Z1 ?_;refine l _ ⟨k+n,zo,⟨zo,by rw[p,c];omega⟩,Weak.st (by refine Zs ?_;exact congrArg _ (by rw[W0 zo zo];omega)) zp⟩
def Qf{α : Type}(p : α -> Bool)(l:List α):Int:=match l.findIdx? p with|some i=>(i:Int)|none => -1
theorem V3{α : Type}{p : α -> Bool}{l:List α}{k:Nat}{x : α}(a:l[k]?=some x)(d:∀ y∈l.take k,p y=false)(c:p x=true):Qf p l=k:=by
 have b:k<l.length:=by rw[List.getElem?_eq_some_iff]at a;exact a.1
 have:l.findIdx? p=some k:=by
  rw[List.findIdx?_eq_some_iff_getElem]
  have e:l[k]=x:=by rw[List.getElem?_eq_getElem b]at a;exact Option.some.inj a
  refine⟨b,by rw[e];exact c,λj g=>?_⟩
  have f:l[j]∈l.take k:=by rw[List.mem_take_iff_getElem];exact⟨j,zo,rfl⟩
  rw[d _ f];simp
 unfold Qf;rw[this]
theorem V4{α : Type}{p : α -> Bool}{l:List α}(a:∀ y∈l,p y=false):Qf p l = -1:=by
 have:l.findIdx? p=none:=by rw[List.findIdx?_eq_none_iff];exact a
 unfold Qf;rw[this]
theorem U1{α : Type}{p : α -> Bool}{l:List α}{k:Nat}{x : α}(d:l[k]?=some x)(c:∀ y∈l.take k,p y=false)(b:p x=false):∀ y∈l.take (k+1),p y=false:=by
 intro y a;rw[List.take_add_one,d]at a
 rcases List.mem_append.1 a with h|h
 exact c y h;have:y=x:=zu h;rw[this];exact b
structure FnS(G:Nat->V)(f:FuncId)(cap:List V)(p:List UInt8->Bool):Prop where
 en:Z5 Tryz.prog f=true
 rc:cap.map (V.recol Col.ent)=cap
 sp:∀ c:List UInt8,Spec Tryz.prog G f (.str c::cap) Zi (λv _=>v=.bool (p c))
theorem Gj(G:Nat->V)(j:Y6 G)(c:Col)(s:Sl (List UInt8))(m:s.l.length<1000000){f:FuncId}{cap:List V}{p:List UInt8->Bool}(e:FnS G f cap p):
  Spec Tryz.prog G 242 [Za c 1 V.str s,.func (.func f) [] cap] Zi (λv _=>v=.int .i64 (Qf p s.l)):=by
 refine Zo 0 19 [.tmp 4] Tryz.func242 λX=>?_;refine Z1 ?_;refine Z1 ?_;refine AW.block ?_
 refine Yf s.l.length (λk (_:Unit)=>st [(0,Za c 1 V.str s),(1,.func (.func f) [] cap),(7,.int .i64 s.l.length),(8,.int .i64 k)] []) (λk _=>∀ y∈s.l.take k,p y=false) 0 () (Nat.zero_le _) zS
  (Weak.st zp zp) ?_
 intro k _ n d o g;refine Z1 ?_;refine Z4 ?_;refine Zm rfl (λi=>?_) (λi=>?_);have a:k<s.l.length:=zu i;have b:=List.getElem?_eq_getElem a;generalize s.l[k]=x at b;refine Z1 ?_;refine Xc b ?_;refine CallA.pure j e.en ?_;simp only[List.map_cons,e.rc,Vk];refine(e.sp x).mono ?_;rintro _ _ rfl;refine Zs ?_;refine Zm rfl (λh=>?_) (λh=>?_);refine Z ?_;rw[V3 b d h];refine Z1 ?_;refine g _ ⟨a,(),U1 b d h,Weak.st zw zp⟩
 have a:k=s.l.length:=by simp at i;omega
 refine Z ?_;rw[a,List.take_length]at d;rw[V4 d]
theorem Zbw(G:Nat->V)(a:Y6 G)(s t:List UInt8):Spec Tryz.prog G 243 [.str t,.view .old (.str s)] Zi (λv _=>v=.bool (Yx t s)):=by
 refine Zo 0 7 [.tmp 3] Tryz.func243 λX=>?_;refine Z1 ?_;refine Z1 ?_;refine Zc a ?_ (s:=(T2 G _ _));exact Zr
theorem fPre{G:Nat->V}(a:Y6 G)(s:List UInt8):FnS G 243 [.view .old (.str s)] (Yx · s):=⟨zk,rfl,Zbw G a s⟩
theorem Zv2{m:Nat}(h:m<1000000000000010):((m:Int)>IntKind.i64.max)=False:=by
 rw[eq_iff_iff,iff_false,show IntKind.i64.max=9223372036854775807 from rfl];omega
def encFk(p:Nat×Nat):V:=.tuple [.int .i64 p.1,.int .u8 p.2]
theorem Hv(G:Nat->V)(B:GExp G)(s:List UInt8)(N:s.length<1000000000000000):Spec Tryz.prog G 208 [.str s] Zi (λv _=>v=encFk (Y7 s)):=by
 have b:=B.ok;refine Zo 0 42 [.tmp 2,.tmp 3] Tryz.func208 λX=>?_;refine Z1 ?_;intro O;refine Z4 ?_;refine AW.block ?_
 cases s with
 |nil=>
  refine Z1 ?_;refine Zm rfl (λh=>?_) (λh=>?_);exact Zr;cases h
 |cons c r=>
  cases o:Yx [45,45] (c::r)with
  |true=>
   refine Z1 ?_;refine Zn b ?_ (s:=(T2 G _ _));refine Xw o ?_;refine Zm rfl (λh=>?_) (λh=>?_);refine Z ?_
   rw[S2,if_pos o]<;>rfl
   cases h
  |false=>
   refine Z1 ?_;refine Zn b ?_ (s:=(T2 G _ _));refine Xw o ?_;refine Wx rfl ?_
   try clear h
   refine Z1 ?_;refine Zc b ?_ (s:=(Nj G b c));refine Zm rfl (λE=>?_) (λE=>?_);refine Z1 ?_;refine Zc b ?_ (s:=(Mh G b _ zo (fDigit b)));refine Z ?_
   rw[Ab E]<;>rfl
   refine Z1 ?_;refine Zc b ?_ (s:=(Oe G b c));refine Zm rfl (λD=>?_) (λD=>?_);have p:=P5 Uu (c::r);have H:=Fg ((c::r).take (Wy Uu (c::r))) (M4 Uu (c::r));have d:=Zdh (r:=r) D;refine Z1 ?_;refine Zc b ?_ (s:=(Mh G b _ zo (fAl b)));generalize Wy Uu (c::r)=n at p H d⊢;have p:n<=r.length+1:=p;refine Z4 ?_
   have J:(List.take n (c::r)).length<=1000000000000000:=by rw[List.length_take];omega
   have w:=Zv2 (m:=1+(List.take n (c::r)).length) zo;have u:=Zv2 (m:=(List.take n (c::r)).length+1+1) zo;refine Vp zk ?_;simp -implicitDefEqProofs only[go_sem,seval,w,u,p,Nat.zero_le,Nat.sub_zero,List.append_eq,List.cons_append,List.nil_append];refine Zc b ?_ (s:=(C3 G B Zbz _ zd));rw[H];refine Zm rfl (λC=>?_) (λC=>?_);refine Z ?_
   rw[d,if_pos C]<;>rfl
   refine Z ?_;rw[d,if_neg (by rw[C];simp)];rfl
   .refine Z0 ?_
    have d:=Jd (c:=c) (r:=r) (by unfold Uu;rw[E,D]<;>rfl) o;obtain⟨F,k⟩:=B.sg
    refine Z4<|S9 0 zk rfl rfl ?_
    simp -implicitDefEqProofs only[go_sem,seval,List.take_zero];refine⟨_,Gy Tryz.underlying271 zk (c:=F) (cs:=signsL.map V.str) (V9 k) rfl (λv I=>by obtain⟨t,_,rfl⟩:=List.mem_map.1 I;rfl),?_⟩;refine CallA.bor b [Za F.ent 1 V.str (.mk true signsL),.func (.func 243) [] [.view .old (.str (c::r))]] zk ⟨?_,Z4l ⟨?_,trivial⟩,trivial⟩ ?_;exact Yv (V8 (c:=F) (m:=1) (λx y j=>by simp[V.cells]at j;subst j;exact .str _) (.mk true signsL)) (Ta _ _ _ (.mk true signsL));exact Rd.ptr (v:=.str (c::r)) (c:=.new) (fz:=0) zp (by intro y j;simp[V.cells]at j;subst j;exact .str _) zp;refine(Gj G b _ (.mk true signsL) zd (fPre b (c::r))).mono ?_;rintro _ _ rfl;refine⟨.int _ _,?_⟩;refine Zs ?_
    have K:Zan (c::r)=match signsL.findIdx? (Yx · (c::r))with|some i=>(signsL.getD i []).length|none=>0:=by
     unfold Zan;rw[List.find?_eq_bind_findIdx?_getElem?]
     cases f:signsL.findIdx? (Yx · (c::r))with
     |none=>rfl
     |some i=>
      have a:i<signsL.length:=(List.findIdx?_eq_some_iff_getElem.1 f).1;simp only[Option.bind_some,List.getElem?_eq_getElem a,List.getD_eq_getElem?_getD,Option.getD_some]
    have L:Qf (Yx · (c::r)) signsL=match signsL.findIdx? (Yx · (c::r))with|some i=>(i:Int)|none => -1:=rfl
    have q:∀ i,signsL.findIdx? (Yx · (c::r))=some i->i<14/\(signsL.getD i []).length≠0:=λi f=>by
     have M:=List.findIdx?_eq_some_iff_getElem.1 f;obtain⟨a,_⟩:=M;have a:i<14:=a;refine⟨a,?_⟩;have:∀ i,i<14->(signsL.getD i []).length≠0:=zd;exact this i a
    rw[L];rw[K]at d
    cases f:signsL.findIdx? (Yx · (c::r))with
    |none=>
     rw[f]at d;refine Z1 ?_;refine Zm rfl (λg=>?_) (λg=>?_);refine Z ?_
     rw[d]<;>rfl
     cases g
    |some i=>
     rw[f]at d;obtain⟨l,z⟩:=q i f;refine Z1 ?_;refine Zm rfl (λg=>?_) (λg=>?_);have g:decide ((i:Int)<0)=true:=g;simp at g;omega;refine Z0 ?_
     have A:(signsL.map V.str)[i]?=some (.str (signsL.getD i [])):=by
      have a:i<signsL.length:=l
      rw[List.getElem?_map,List.getElem?_eq_getElem a,List.getD_eq_getElem?_getD,List.getElem?_eq_getElem a]<;>rfl
     have e:(i:Int)<14:=zo;refine Zf (zi k (zi A (zi e (zi @Int.natCast_nonneg @Nat.mul_one)))) ?_;rw[d]
     show _=encFk ((signsL.getD i []).length,if(signsL.getD i []).length=0 then 0 else 4)
     rw[if_neg z]<;>rfl
theorem Sz(G:Nat->V)(e:GExp G)(s:List UInt8)(f:s.length<1000000000000000):Spec Tryz.prog G 146 [.str s] Zi (λv _=>v=.int .u8 (Rh s)):=by
 have g:=e.ok;refine Zo 0 19 [.tmp 2] Tryz.func146 λX=>?_;refine Z1 ?_;refine Z1 ?_;refine Zn g ?_ (s:=(Hv G e s f))
 have c:Rh s=if(Y7 s).1≠s.length\/(Y7 s).1>64 then 0 else(Y7 s).2:=rfl
 generalize Y7 s=p at c⊢;obtain⟨n,k⟩:=p;refine Xw @encFk.eq_1 ?_;refine Z4 ?_
 by_cases b:n=s.length
 have d:((n:Int) != (s.length:Int))=false:=by simp[b]
 refine Xc d ?_;refine Zm rfl (λa=>?_) (λa=>?_)
 have a:n>64:=by have a:decide ((n:Int)>64)=true:=a;simp at a;omega
 refine Z ?_
 rw[c,if_pos (.inr a)]<;>rfl
 have a:¬ n>64:=by have a:decide ((n:Int)>64)=false:=a;simp at a;omega
 refine Z ?_;rw[c,if_neg (λh=>h.elim (λh=>h b) a)]
 have d:((n:Int) != (s.length:Int))=true:=by
  have b:¬ ((n:Int)=(s.length:Int)):=zo;simpa using b
 refine Xc d ?_;refine Zm rfl (λa=>?_) (λa=>?_);refine Z ?_
 rw[c,if_pos (.inl b)]<;>rfl
 cases a
def Wi(t:Tk):V:=.agg [.int .u8 t.kind,.str t.text,.int .i64 t.pos]
theorem Hz(t:Tk):(Wi t).cells.length=3:=rfl
def encTks(c:Col)(l:List Tk):V:=Za c 3 Wi (Zb l)
def encTok(r:List Tk×Int×Int):V:=.tuple [encTks .new r.1,.int .i64 r.2.1,.int .i64 r.2.2]
theorem Bm:∀ (f:Nat) (s:List UInt8) (i:Nat) (acc:List Tk),(Vx f s i acc).1.length<=acc.length+(s.length-i)
 |0,s,i,acc=>by rw[Vx];exact Nat.le_add_right _ _
 |f+1,s,i,acc=>by
  rw[Vx]
  split
  split
  exact Nat.zero_le _;rename_i b a;have:=Bm f s (i+(Y7 (s.drop i)).1+blk (s.drop (i+(Y7 (s.drop i)).1))) (acc++[⟨(Y7 (s.drop i)).2,(s.drop i).take (Y7 (s.drop i)).1,i⟩]);simp only[List.length_append,List.length_singleton]at this;omega;exact Nat.le_add_right _ _
theorem T0(G:Nat->V)(K:GExp G)(s:List UInt8)(O:s.length<100000):Spec Tryz.prog G 177 [.str s] Zi (λv _=>v=encTok (Yu s)):=by
 have y:=K.ok;refine Zo 0 52 [.tmp 2,.tmp 3,.tmp 4] Tryz.func177 λX=>?_;refine Z1 ?_;refine Z1 ?_
 have D:Yu s=if s.length>65536 then([],0,3)else Vx (s.length+1) s (blk s) []:=rfl
 refine Zm rfl (λc=>?_) (λc=>?_)
 have c:s.length>65536:=by have c:decide ((s.length:Int)>65536)=true:=c;simp at c;omega
 refine Z ?_
 rw[D,if_pos c]<;>rfl
 have c:¬ s.length>65536:=by have c:decide ((s.length:Int)>65536)=false:=c;simp at c;omega
 rw[if_neg c]at D;refine Z1 ?_;refine Zc y ?_ (s:=(K9 G y s zo));have L:=Z0p s;refine AW.block ?_
 refine Vz (fun(x:Nat×Nat×List Tk)=>st [(0,.str s),(2,grown 47 x.1 3 x.2.2),(3,.int .i64 x.2.1)] [(47,Yb x.1 Wi x.2.2)]) (λx=>x.2.1<=s.length/\x.2.2.length<=x.2.1/\Yu s=Vx (s.length+1) s x.2.1 x.2.2) (λx=>s.length-x.2.1) (0,blk s,[]) ⟨L,Nat.zero_le _,D⟩
  (Weak.st zp zp) ?_
 rintro⟨M,i,acc⟩ ⟨B,w,t⟩ P E;have B:i<=s.length:=B;have w:acc.length<=i:=w;have t:Yu s=Vx (s.length+1) s i acc:=t;refine Z1 ?_;refine Zm rfl (λF=>?_) (λF=>?_);have d:i<s.length:=zu F;refine Z0 ?_;refine Z4 ?_;refine AW.block ?_;have r:=Ztw (s.drop i);rw[List.length_drop]at r;have b:=Zpm (f:=s.length+1) (acc:=acc) d zo;have e:=Zlu (f:=s.length+1) (acc:=acc) d zo;refine Xc (zi B @Nat.le_refl) ?_;refine Zn y ?_ (s:=(Hv G K (s.drop i) zO));generalize Y7 (s.drop i)=p at r b e⊢;obtain⟨n,k⟩:=p;simp only at r b e;refine Xw @encFk.eq_1 ?_;refine Z4 ?_
 by_cases q:n=0
 have I:((n:Int)==0)=true:=by simp[q]
 refine Xc I ?_;refine Zm rfl (λa=>?_) (λa=>?_);refine Z ?_
 rw[t,e (.inl q)]<;>rfl
 cases a
 have I:((n:Int)==0)=false:=by
  rw[beq_eq_false_iff_ne];omega
 refine Xc I ?_;refine Zm rfl (λa=>?_) (λa=>?_)
 have a:n>64:=by have a:decide ((n:Int)>64)=true:=a;simp at a;omega
 refine Z ?_
 rw[t,e (.inr a)]<;>rfl
 have a:¬ n>64:=by have a:decide ((n:Int)>64)=false:=a;simp at a;omega
 refine Z0 ?_;have b:=b (λh=>h.elim q a)
 have J:IntKind.i64.wrap ((i:Int)+(n:Int))=((i+n:Nat):Int):=by rw[W0 zo zo];omega
 have A:i<=i+n:=zo;have j:i+n<=s.length:=zo;have u:i+n-i=n:=zo;refine Xc (zi J (zi A (zi j u))) ?_;intro N;refine X2 (f:=Wi) (l:=acc) (l2:=[⟨k,(s.drop i).take n,i⟩]) (g:=M) Hz rfl rfl rfl zp (Yg zo zO) λH=>?_;refine Zs ?_;refine Xc J ?_;have C:=Z0p (s.drop (i+n));rw[List.length_drop]at C
 have z:IntKind.i64.wrap (((i+n:Nat):Int)+(blk (s.drop (i+n)):Nat))=((i+n+blk (s.drop (i+n)):Nat):Int):=by rw[W0 zo zo];omega
 refine Xc (zi j @Nat.le_refl) ?_;refine Zc y ?_ (s:=(K9 G y (s.drop (i+n)) zO));refine E _ ⟨(H,i+n+blk (s.drop (i+n)),acc++[⟨k,(s.drop i).take n,i⟩]),?_,⟨?_,?_,?_⟩,Weak.st (by refine Zs ?_;exact congrArg _ z) zp⟩
 show s.length-(i+n+blk (s.drop (i+n)))<s.length-i
 omega
 show i+n+blk (s.drop (i+n))<=s.length
 omega
 show(acc++[_]).length<=i+n+blk (s.drop (i+n))
 simp only[List.length_append,List.length_singleton];omega;rw[t];exact b;have d:¬ i<s.length:=zu F;refine Z0 ?_;refine AW.weak (Zw (λo=>o==47) (l:=[(2,encTks .new acc)]) (m:=[]) ?_ trivial) ?_;refine Zs ?_;exact W7 rfl rfl Hz;refine Z ?_
 rw[t,Zku d]<;>rfl
structure VtM where
 name:List UInt8
 kind:Int
 region:Int
 of:Int
 entry:List UInt8
 exit:List UInt8
 defers:Sl (List UInt8)
 sub:List UInt8
structure TrM where
 name:List UInt8
 source:Int
 target:Int
 triggers:Sl (List UInt8)
 after:Int
 guard:List UInt8
 effect:List UInt8
 kind:Int
structure MdM where
 name:List UInt8
 vars:Sl (List UInt8×Int)
 events:Sl (List UInt8)
 regions:Sl (List UInt8×Int)
 verts:Sl VtM
 ways:Sl TrM
def VtM.p(x:VtM):VP:=⟨x.name,x.kind,x.region,x.of,x.entry,x.exit,x.defers.l,x.sub⟩
def TrM.p(x:TrM):WP:=⟨x.name,x.source,x.target,x.triggers.l,x.after,x.guard,x.effect,x.kind⟩
def MdM.p(m:MdM):PM:=⟨m.name,m.vars.l,m.events.l,m.regions.l,m.verts.l.map VtM.p,m.ways.l.map TrM.p⟩
def Yw(p:List UInt8×Int):V:=.agg [.str p.1,.int .i64 p.2]
theorem Wn(p:List UInt8×Int):Yw p=.agg [.str p.1,.int .i64 p.2]:=rfl
theorem Zos(p:List UInt8×Int):(Yw p).cells.length=2:=rfl
def Y0(c:Col)(x:VtM):V:=.agg [.str x.name,.int .u8 x.kind,.int .i64 x.region,.int .i64 x.of,.str x.entry,.str x.exit,Za c 1 V.str x.defers,.str x.sub]
theorem Zt(c:Col)(x:VtM):Y0 c x=.agg [.str x.name,.int .u8 x.kind,.int .i64 x.region,.int .i64 x.of,.str x.entry,.str x.exit,Za c 1 V.str x.defers,.str x.sub]:=rfl
theorem Zns(c:Col)(x:VtM):(Y0 c x).cells.length=8:=rfl
def Xp(c:Col)(x:TrM):V:=.agg [.str x.name,.int .i64 x.source,.int .i64 x.target,Za c 1 V.str x.triggers,.int .i64 x.after,.str x.guard,.str x.effect,.int .u8 x.kind]
theorem Z8(c:Col)(x:TrM):Xp c x=.agg [.str x.name,.int .i64 x.source,.int .i64 x.target,Za c 1 V.str x.triggers,.int .i64 x.after,.str x.guard,.str x.effect,.int .u8 x.kind]:=rfl
theorem Zts(c:Col)(x:TrM):(Xp c x).cells.length=8:=rfl
def Zv(c d:Col)(m:MdM):V:=.agg [.str m.name,Za c 2 Yw m.vars,Za c 1 V.str m.events,Za c 2 Yw m.regions,Za c 8 (Y0 d) m.verts,Za c 8 (Xp d) m.ways]
theorem Zd(c d:Col)(m:MdM):Zv c d m=.agg [.str m.name,Za c 2 Yw m.vars,Za c 1 V.str m.events,Za c 2 Yw m.regions,Za c 8 (Y0 d) m.verts,Za c 8 (Xp d) m.ways]:=rfl
theorem Ma(g:Col->Col)(c:Col)(s:Sl (List UInt8×Int)):(Za c 2 Yw s).recol g=Za (g c) 2 Yw s:=Wd g c 2 (λp=>by simp only[Wn,Xy,List.map_cons,List.map_nil,Xf,Vk]) s
theorem Kt(g:Col->Col)(c:Col)(x:VtM):(Y0 c x).recol g=Y0 (g c) x:=by simp only[Zt,Xy,List.map_cons,List.map_nil,Xf,Vk,Ta]
theorem Ku(g:Col->Col)(c:Col)(x:TrM):(Xp c x).recol g=Xp (g c) x:=by simp only[Z8,Xy,List.map_cons,List.map_nil,Xf,Vk,Ta]
theorem N9(g:Col->Col)(c d:Col)(s:Sl VtM):(Za c 8 (Y0 d) s).recol g=Za (g c) 8 (Y0 (g d)) s:=Wd g c 8 (Kt g d) s
theorem Mb(g:Col->Col)(c d:Col)(s:Sl TrM):(Za c 8 (Xp d) s).recol g=Za (g c) 8 (Xp (g d)) s:=Wd g c 8 (Ku g d) s
theorem O9(g:Col->Col)(c d:Col)(m:MdM):(Zv c d m).recol g=Zv (g c) (g d) m:=by simp only[Zd,Xy,List.map_cons,List.map_nil,Vk,Ta,Ma,N9,Mb]
attribute[go_sem]Ma Kt Ku N9 Mb O9
theorem Ps{m:MdM}{k:Nat}{x:VtM}(h:m.verts.l[k]?=some x):m.p.vx (k:Int)=x.p:=by
 show(m.verts.l.map VtM.p).getD ((k:Int)).toNat vx0=_
 rw[List.getD_eq_getElem?_getD,List.getElem?_map,Int.toNat_natCast,h]<;>rfl
theorem Mw{m:MdM}{k:Nat}{x:TrM}(h:m.ways.l[k]?=some x):m.p.wy (k:Int)=x.p:=by
 show(m.ways.l.map TrM.p).getD ((k:Int)).toNat wy0=_
 rw[List.getD_eq_getElem?_getD,List.getElem?_map,Int.toNat_natCast,h]<;>rfl
theorem He{m:MdM}{k:Nat}{r:List UInt8×Int}(h:m.regions.l[k]?=some r):m.p.ow (k:Int)=r.2:=by
 show(m.regions.l.getD ((k:Int)).toNat ([],0)).2=_
 rw[List.getD_eq_getElem?_getD,Int.toNat_natCast,h]<;>rfl
theorem MdM.nv(m:MdM):m.p.vertices.length=m.verts.l.length:=List.length_map ..
theorem MdM.nw(m:MdM):m.p.ways.length=m.ways.l.length:=List.length_map ..
theorem MdM.at{m:MdM}{v:Int}(c:0<=v)(b:v<m.p.vertices.length):∃ (k:Nat) (x:VtM),v=(k:Int)/\k<m.verts.l.length/\m.verts.l[k]?=some x/\m.p.vx v=x.p:=by
 rw[m.nv]at b;have a:v.toNat<m.verts.l.length:=zo;have e:v=((v.toNat:Nat):Int):=zo;refine⟨v.toNat,_,e,a,List.getElem?_eq_getElem a,?_⟩
 conv=>lhs;rw[e]
 exact Ps (List.getElem?_eq_getElem a)
theorem Cd{m:MdM}{v:Int}(c:0<=v)(b:v<m.p.regions.length):∃ (k:Nat) (x:List UInt8×Int),v=(k:Int)/\k<m.regions.l.length/\m.regions.l[k]?=some x/\m.p.ow v=x.2:=by
 have b:v<m.regions.l.length:=b;have a:v.toNat<m.regions.l.length:=zo;have e:v=((v.toNat:Nat):Int):=zo;refine⟨v.toNat,_,e,a,List.getElem?_eq_getElem a,?_⟩
 conv=>lhs;rw[e]
 exact He (List.getElem?_eq_getElem a)
theorem MdM.wyAt{m:MdM}{v:Int}(c:0<=v)(b:v<m.p.ways.length):∃ (k:Nat) (x:TrM),v=(k:Int)/\k<m.ways.l.length/\m.ways.l[k]?=some x/\m.p.wy v=x.p:=by
 rw[m.nw]at b;have a:v.toNat<m.ways.l.length:=zo;have e:v=((v.toNat:Nat):Int):=zo;refine⟨v.toNat,_,e,a,List.getElem?_eq_getElem a,?_⟩
 conv=>lhs;rw[e]
 exact Mw (List.getElem?_eq_getElem a)
theorem K6(G:Nat->V)(B:Y6 G)(c d:Col)(m:MdM)(u:m.p.Rt5)(v:Int)(l:0<=v)(j:v<m.p.vertices.length):
  Spec Tryz.prog G 211 [Zv c d m,.int .i64 v] Zi (λw _=>w=.int .i64 (m.p.around v)):=by
 refine Zo 0 27 [.tmp 4] Tryz.func211 λX=>?_;have a:=u.pt l j;obtain⟨k,x,rfl,z,A,t⟩:=MdM.at l j;rw[PM.around];rw[t]at a⊢;simp only[Zd];have f:=zi A (zi z (zi Zt (zi @Int.natCast_nonneg @Int.ofNat_lt)));refine Z ?_;intro D;refine Zf f ?_;intro C
 by_cases i:0<=x.of
 have q:decide (x.of>=0)=true:=zT;refine Zf (zi f q) ?_
 rw[if_pos (show 0<=x.p.of from i)]<;>rfl
 have q:decide (x.of>=0)=false:=zF;obtain⟨_,o,n,_⟩:=a.resolve_left (λh=>i h.1);obtain⟨r,y,g,b,e,s⟩:=Cd o n;rw[if_neg (show ¬ 0<=x.p.of from i),s];have g:x.region=(r:Int):=g;refine Zf q ?_;refine Ha (zi f (zi g (zi e (zi b Wn)))) B ?_;exact Zr
end Go.Hs
end
