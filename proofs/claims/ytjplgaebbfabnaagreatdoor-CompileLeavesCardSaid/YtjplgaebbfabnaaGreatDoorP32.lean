/- A part. No condition. -/
import Derived.Test.YtjplgaebbfabnaaGreatDoorP30
import Derived.Test.YtjplgaebbfabnaaGreatDoorP31
set_option linter.all false
namespace Go.Hs
open Go.Proofs
set_option maxRecDepth 10000
theorem Zo8{m:Nat}(h:m<1000000000000010):((m:Int)>IntKind.i64.max)=False:=by
 rw[eq_iff_iff,iff_false,show IntKind.i64.max=9223372036854775807 from rfl];omega
def encFk(p:Nat×Nat):V:=.tuple [.int .i64 p.1,.int .u8 p.2]
theorem G8(G:Nat->V)(B:GExp G)(s:List UInt8)(N:s.length<1000000000000000):Spec Tryz.prog G 112 [.str s] Zj (λv _=>v=encFk (X2 s)):=by
 have b:=B.ok;refine Zo 0 42 [.tmp 2,.tmp 3] Tryz.func112 λX=>?_;refine Z1 ?_;intro O;refine Z6 ?_;refine AW.block ?_
 cases s with
 |nil=>
  refine Z1 ?_;refine Z2 rfl (λh=>?_) (λh=>?_);exact Zr;cases h
 |cons c r=>
  cases o:Xs [45,45] (c::r)with
  |true=>
   refine Z1 ?_;refine Zn b ?_ (s:=(S2 G _ _));refine Xr o ?_;refine Z2 rfl (λh=>?_) (λh=>?_);refine Z ?_
   rw[Pw,if_pos o]<;>rfl
   cases h
  |false=>
   refine Z1 ?_;refine Zn b ?_ (s:=(S2 G _ _));refine Xr o ?_;refine Ve rfl ?_
   try clear h
   refine Z1 ?_;refine Zc b ?_ (s:=(My G b c));refine Z2 rfl (λE=>?_) (λE=>?_);refine Z1 ?_;refine Zc b ?_ (s:=(Ls G b _ zo (fDigit b)));refine Z ?_
   rw[Zk1 E]<;>rfl
   refine Z1 ?_;refine Zc b ?_ (s:=(Nu G b c));refine Z2 rfl (λD=>?_) (λD=>?_);have p:=Nl Pj (c::r);have H:=E3 ((c::r).take (Vp Pj (c::r))) (Kg Pj (c::r));have d:=Z77 (r:=r) D;refine Z1 ?_;refine Zc b ?_ (s:=(Ls G b _ zo (fAl b)));generalize Vp Pj (c::r)=n at p H d⊢;have p:n<=r.length+1:=p;refine Z6 ?_
   have J:(List.take n (c::r)).length<=1000000000000000:=by rw[List.length_take];omega
   have w:=Zo8 (m:=1+(List.take n (c::r)).length) zo;have u:=Zo8 (m:=(List.take n (c::r)).length+1+1) zo;refine Ua zk ?_;simp -implicitDefEqProofs only[go_sem,seval,w,u,p,Nat.zero_le,Nat.sub_zero,List.append_eq];refine Zc b ?_ (s:=(Aw G B Zw4 _ zd));rw[H];refine Z2 rfl (λC=>?_) (λC=>?_);refine Z ?_
   rw[d,if_pos C]<;>rfl
   refine Z ?_;rw[d,if_neg (by rw[C];simp)];rfl
   .refine Z0 ?_
    have d:=Z67 (c:=c) (r:=r) (by unfold Pj;rw[E,D]<;>rfl) o;obtain⟨F,k⟩:=B.sg
    refine Z6<|Qd 0 zk rfl rfl ?_
    refine Zs ?_;refine⟨_,Ei Tryz.underlying237 zk (c:=F) (cs:=signsL.map V.str) (T9 k) rfl (λv I=>by obtain⟨t,_,rfl⟩:=List.mem_map.1 I;rfl),?_⟩;refine CallA.bor b [Za F.ent 1 V.str (.mk true signsL),.func (.func 180) [] [.view .old (.str (c::r))]] zk ⟨?_,Z4p ⟨?_,trivial⟩,trivial⟩ ?_;exact Xf (Uu (c:=F) (m:=1) (λx y j=>by simp[V.cells]at j;subst j;exact .str _) (.mk true signsL)) (Xy _ _ _ (.mk true signsL));exact Rd.ptr (v:=.str (c::r)) (c:=.new) (fz:=0) zp (by intro y j;simp[V.cells]at j;subst j;exact .str _) zp;refine(F3 G b _ (.mk true signsL) zd (fPre b (c::r))).mono ?_;rintro _ _ rfl;refine⟨.int _ _,?_⟩;refine Zs ?_
    have K:Zr5 (c::r)=match signsL.findIdx? (Xs · (c::r))with|some i=>(signsL.getD i []).length|none=>0:=by
     unfold Zr5;rw[List.find?_eq_bind_findIdx?_getElem?]
     cases f:signsL.findIdx? (Xs · (c::r))with
     |none=>rfl
     |some i=>
      have a:i<signsL.length:=(List.findIdx?_eq_some_iff_getElem.1 f).1;simp only[Option.bind_some,List.getElem?_eq_getElem a,List.getD_eq_getElem?_getD,Option.getD_some]
    have L:Rz (Xs · (c::r)) signsL=match signsL.findIdx? (Xs · (c::r))with|some i=>(i:Int)|none => -1:=rfl
    have q:∀ i,signsL.findIdx? (Xs · (c::r))=some i->i<14/\(signsL.getD i []).length≠0:=λi f=>by
     have M:=List.findIdx?_eq_some_iff_getElem.1 f;obtain⟨a,_⟩:=M;have a:i<14:=a;refine⟨a,?_⟩;have:∀ i,i<14->(signsL.getD i []).length≠0:=zd;exact this i a
    rw[L];rw[K]at d
    cases f:signsL.findIdx? (Xs · (c::r))with
    |none=>
     rw[f]at d;refine Z1 ?_;refine Z2 rfl (λg=>?_) (λg=>?_);refine Z ?_
     rw[d]<;>rfl
     cases g
    |some i=>
     rw[f]at d;obtain⟨l,z⟩:=q i f;refine Z1 ?_;refine Z2 rfl (λg=>?_) (λg=>?_);have g:decide ((i:Int)<0)=true:=g;simp at g;omega;refine Z0 ?_
     have A:(signsL.map V.str)[i]?=some (.str (signsL.getD i [])):=by
      have a:i<signsL.length:=l
      rw[List.getElem?_map,List.getElem?_eq_getElem a,List.getD_eq_getElem?_getD,List.getElem?_eq_getElem a]<;>rfl
     have e:(i:Int)<14:=zo;refine Zf (zi k (zi A (zi e (zi @Int.natCast_nonneg @Nat.mul_one)))) ?_;rw[d]
     show _=encFk ((signsL.getD i []).length,if(signsL.getD i []).length=0 then 0 else 4)
     rw[if_neg z]<;>rfl
theorem Ry(G:Nat->V)(e:GExp G)(s:List UInt8)(f:s.length<1000000000000000):Spec Tryz.prog G 150 [.str s] Zj (λv _=>v=.int .u8 (P6 s)):=by
 have g:=e.ok;refine Zo 0 19 [.tmp 2] Tryz.func150 λX=>?_;refine Z1 ?_;refine Z1 ?_;refine Zn g ?_ (s:=(G8 G e s f))
 have c:P6 s=if(X2 s).1≠s.length\/(X2 s).1>64 then 0 else(X2 s).2:=rfl
 generalize X2 s=p at c⊢;obtain⟨n,k⟩:=p;refine Xr @encFk.eq_1 ?_;refine Z6 ?_
 by_cases b:n=s.length
 have d:((n:Int) != (s.length:Int))=false:=by simp[b]
 refine Xm d ?_;refine Z2 rfl (λa=>?_) (λa=>?_)
 have a:n>64:=by have a:decide ((n:Int)>64)=true:=a;simp at a;omega
 refine Z ?_
 rw[c,if_pos (.inr a)]<;>rfl
 have a:¬ n>64:=by have a:decide ((n:Int)>64)=false:=a;simp at a;omega
 refine Z ?_;rw[c,if_neg (λh=>h.elim (λh=>h b) a)]
 have d:((n:Int) != (s.length:Int))=true:=by
  have b:¬ ((n:Int)=(s.length:Int)):=zo;simpa using b
 refine Xm d ?_;refine Z2 rfl (λa=>?_) (λa=>?_);refine Z ?_
 rw[c,if_pos (.inl b)]<;>rfl
 cases a
def Wu(t:Tk):V:=.agg [.int .u8 t.kind,.str t.text,.int .i64 t.pos]
theorem Fe(t:Tk):(Wu t).cells.length=3:=rfl
def encTks(c:Col)(l:List Tk):V:=Za c 3 Wu (Zd l)
def encTok(r:List Tk×Int×Int):V:=.tuple [encTks .new r.1,.int .i64 r.2.1,.int .i64 r.2.2]
theorem Zga:∀ (f:Nat) (s:List UInt8) (i:Nat) (acc:List Tk),(Uk f s i acc).1.length<=acc.length+(s.length-i)
 |0,s,i,acc=>by rw[Uk];exact Nat.le_add_right _ _
 |f+1,s,i,acc=>by
  rw[Uk]
  split
  split
  exact Nat.zero_le _;rename_i b a;have:=Zga f s (i+(X2 (s.drop i)).1+blk (s.drop (i+(X2 (s.drop i)).1))) (acc++[⟨(X2 (s.drop i)).2,(s.drop i).take (X2 (s.drop i)).1,i⟩]);simp only[List.length_append,List.length_singleton]at this;omega;exact Nat.le_add_right _ _
theorem Th(G:Nat->V)(K:GExp G)(s:List UInt8)(O:s.length<100000):Spec Tryz.prog G 70 [.str s] Zj (λv _=>v=encTok (Y4 s)):=by
 have y:=K.ok;refine Zo 0 52 [.tmp 2,.tmp 3,.tmp 4] Tryz.func70 λX=>?_;refine Z1 ?_;refine Z1 ?_
 have D:Y4 s=if s.length>65536 then([],0,3)else Uk (s.length+1) s (blk s) []:=rfl
 refine Z2 rfl (λc=>?_) (λc=>?_)
 have c:s.length>65536:=by have c:decide ((s.length:Int)>65536)=true:=c;simp at c;omega
 refine Z ?_
 rw[D,if_pos c]<;>rfl
 have c:¬ s.length>65536:=by have c:decide ((s.length:Int)>65536)=false:=c;simp at c;omega
 rw[if_neg c]at D;refine Z1 ?_;refine Zc y ?_ (s:=(Ia G y s zo));have L:=Z8t s;refine AW.block ?_
 refine Vs (fun(x:Nat×Nat×List Tk)=>st [(0,.str s),(2,grown 47 x.1 3 x.2.2),(3,.int .i64 x.2.1)] [(47,Yb x.1 Wu x.2.2)]) (λx=>x.2.1<=s.length/\x.2.2.length<=x.2.1/\Y4 s=Uk (s.length+1) s x.2.1 x.2.2) (λx=>s.length-x.2.1) (0,blk s,[]) ⟨L,Nat.zero_le _,D⟩
  (Weak.st zp zp) ?_
 rintro⟨M,i,acc⟩ ⟨B,w,t⟩ P E;have B:i<=s.length:=B;have w:acc.length<=i:=w;have t:Y4 s=Uk (s.length+1) s i acc:=t;refine Z1 ?_;refine Z2 rfl (λF=>?_) (λF=>?_);have d:i<s.length:=zu F;refine Z0 ?_;refine Z6 ?_;refine AW.block ?_;have r:=Zl1 (s.drop i);rw[List.length_drop]at r;have b:=Zlq (f:=s.length+1) (acc:=acc) d zo;have e:=Z1y (f:=s.length+1) (acc:=acc) d zo;refine Xm (zi B @Nat.le_refl) ?_;refine Zn y ?_ (s:=(G8 G K (s.drop i) zO));generalize X2 (s.drop i)=p at r b e⊢;obtain⟨n,k⟩:=p;simp only at r b e;refine Xr @encFk.eq_1 ?_;refine Z6 ?_
 by_cases q:n=0
 have I:((n:Int)==0)=true:=by simp[q]
 refine Xm I ?_;refine Z2 rfl (λa=>?_) (λa=>?_);refine Z ?_
 rw[t,e (.inl q)]<;>rfl
 cases a
 have I:((n:Int)==0)=false:=by
  rw[beq_eq_false_iff_ne];omega
 refine Xm I ?_;refine Z2 rfl (λa=>?_) (λa=>?_)
 have a:n>64:=by have a:decide ((n:Int)>64)=true:=a;simp at a;omega
 refine Z ?_
 rw[t,e (.inr a)]<;>rfl
 have a:¬ n>64:=by have a:decide ((n:Int)>64)=false:=a;simp at a;omega
 refine Z0 ?_;have b:=b (λh=>h.elim q a)
 have J:IntKind.i64.wrap ((i:Int)+(n:Int))=((i+n:Nat):Int):=by rw[Wy zo zo];omega
 have A:i<=i+n:=zo;have j:i+n<=s.length:=zo;have u:i+n-i=n:=zo;refine Xm (zi J (zi A (zi j u))) ?_;intro N;refine Ys (f:=Wu) (l:=acc) (l2:=[⟨k,(s.drop i).take n,i⟩]) (g:=M) Fe rfl rfl rfl zp (Z4 zo zO) λH=>?_;refine Zs ?_;refine Xm J ?_;have C:=Z8t (s.drop (i+n));rw[List.length_drop]at C
 have z:IntKind.i64.wrap (((i+n:Nat):Int)+(blk (s.drop (i+n)):Nat))=((i+n+blk (s.drop (i+n)):Nat):Int):=by rw[Wy zo zo];omega
 refine Xm (zi j @Nat.le_refl) ?_;refine Zc y ?_ (s:=(Ia G y (s.drop (i+n)) zO));refine E _ ⟨(H,i+n+blk (s.drop (i+n)),acc++[⟨k,(s.drop i).take n,i⟩]),?_,⟨?_,?_,?_⟩,Weak.st (by refine Zs ?_;exact congrArg _ z) zp⟩
 show s.length-(i+n+blk (s.drop (i+n)))<s.length-i
 omega
 show i+n+blk (s.drop (i+n))<=s.length
 omega
 show(acc++[_]).length<=i+n+blk (s.drop (i+n))
 simp only[List.length_append,List.length_singleton];omega;rw[t];exact b;have d:¬ i<s.length:=zu F;refine Z0 ?_;refine AW.weak (Zl (λo=>o==47) (l:=[(2,encTks .new acc)]) (m:=[]) ?_ trivial) ?_;refine Zs ?_;exact Y5 rfl rfl Fe;refine Z ?_
 rw[t,Z0y d]<;>rfl
end Go.Hs
