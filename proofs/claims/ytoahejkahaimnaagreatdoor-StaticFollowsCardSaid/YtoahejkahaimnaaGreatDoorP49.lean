/- A part. No condition. -/
import Derived.Test.YtoahejkahaimnaaGreatDoorP47
import Derived.Test.YtoahejkahaimnaaGreatDoorP48
set_option linter.all false
section
namespace Go.Hs
open Go.Proofs
set_option maxRecDepth 10000
set_option maxHeartbeats 4000000
def plZ(gO gI:Nat->Nat)(j:Nat):PlW:=⟨0,0,0,false,false,⟨4000000+j,gO j,[]⟩,⟨5000000+j,gI j,[]⟩⟩
def plX(a r:Int)(s p:Bool)(j:Nat):PlW:=⟨a,r,0,s,p,⟨4000000+j,0,[]⟩,⟨5000000+j,0,[]⟩⟩
def plB(m:PM)(d:Int)(j:Nat):PlW:=⟨m.around j,m.rgO j,d,m.kd j==1,decide (0<=(m.vx j).of),⟨4000000+j,0,[]⟩,⟨5000000+j,0,[]⟩⟩
def W5(f:Nat->PlW)(n:Nat):List V:=flat (((List.range n).map f).map Qu)
theorem U4(f:Nat->PlW)(n:Nat):(W5 f n).length=n*7:=by rw[W5,Xo Na,List.length_map,List.length_range]
theorem Z7u{α : Type}(f:Nat -> α)(n i:Nat)(y : α):((List.range n).map f).set i y=(List.range n).map (Z3 f i y):=by
 apply List.ext_getElem;simp;intro j b a;rw[List.getElem_set];simp only[List.getElem_map,List.getElem_range,Z3]
 by_cases e:i=j
 subst e;simp;rw[if_neg e,if_neg (Ne.symm e)]
theorem Ef{α : Type}(f:Nat -> α){n i:Nat}(h:i<n):((List.range n).map f)[i]?=some (f i):=by
 rw[List.getElem?_map,List.getElem?_range h]<;>rfl
theorem Tv{f:Nat->PlW}{n i j:Nat}{v:V}(y:PlW)(hi:i<n)(b:j<7)(a:(Qu y).cells=(Qu (f i)).cells.set j v):(W5 f n).set (i*7+j) v=W5 (Z3 f i y) n:=by
 rw[W5,Dh Na b (Ef f hi) a,Z7u,W5]
theorem Kv{f:Nat->PlW}{n i j:Nat}{v:V}(hi:i<n)(b:j<7)(a:(Qu (f i)).cells[j]?=some v):(W5 f n)[i*7+j]?=some v:=G8 Na b (Ef f hi) a
theorem Px{α : Type}(f:Nat -> α)(i:Nat)(x y : α):Z3 (Z3 f i x) i y=Z3 f i y:=by
 funext j
 simp only[Z3]
 split<;>rfl
theorem Ln{f f':Nat->PlW}{n:Nat}(h:∀ j,j<n->f j=f' j):W5 f n=W5 f' n:=by
 unfold W5;rw[List.map_congr_left λj a=>h j (List.mem_range.1 a)]
def dpI(m:PM)(j:Nat):Int:=((Oy m (m.around j)).length:Nat)
def f3(m:PM)(i j:Nat):PlW:=plB m (if j<i then dpI m j else 0) j
theorem Zr5(m:PM)(i:Nat):Z3 (f3 m i) i (plB m (dpI m i) i)=f3 m (i+1):=by
 funext j
 by_cases e:j=i
 subst e;rw[Ye,f3,if_pos (Nat.lt_succ_self _)];rw[Zk _ _ e,f3,f3]
 by_cases q:j<i
 rw[if_pos q,if_pos zo];rw[if_neg q,if_neg zo]
theorem Zqh{κ : Type}{B:Nat}:∀ (xs:List κ) (n:Nat),n+xs.length<=B->R9 (fun(s:Nat) (_ : κ)=>s<B/\(none:Option Code)=none) (λs _=>((none:Option Code).isNone,s+1)) n xs
 |[],_,_=>trivial
 |_::r,n,h=>⟨⟨by simp at h;omega,rfl⟩,λ_=>Zqh r (n+1) (by simp at h;omega)⟩
theorem B8{κ : Type}:∀ (xs:List κ) (n:Nat),(Yl (fun(s:Nat) (_ : κ)=>((none:Option Code).isNone,s+1)) n xs).2=n+xs.length
 |[],_=>rfl
 |_::r,n=>by
  show(Yl _ (n+1) r).2=_
  rw[B8 r (n+1),List.length_cons];omega
theorem Z65(m:PM)(v:Int):(Oy m v).length<=66:=by
 have a:∀ (f:Nat) (v:Int),(m.upsF f v).length<=f:=by
  intro f
  induction f with
  |zero=>intro v;exact Nat.le_refl _
  |succ f ih=>
   intro v;rw[PM.upsF]
   split
   exact Nat.zero_le _;rw[List.length_cons];exact Nat.succ_le_succ (ih _)
 unfold Oy
 split
 rw[List.length_cons];exact Nat.succ_le_succ (a 65 v);exact Nat.zero_le _
def f4(m:PM)(gO gI:Nat->Nat)(t j:Nat):PlW:=⟨m.around j,m.rgO j,dpI m j,m.kd j==1,decide (0<=(m.vx j).of),⟨4000000+j,gO j,m.wysI j false t⟩,⟨5000000+j,gI j,m.wysI j true t⟩⟩
theorem Z9u(m:PM)(gO gI:Nat->Nat)(t n na a t1 c:Nat)(ha:na<n)(e:a<n)(g:(m.wy (t:Int)).source=(na:Int))(f:(m.wy (t:Int)).target=(a:Int)):
  ((W5 (f4 m gO gI t) n).set (na*7+5) (grown (4000000+na) t1 1 (m.wysI na false t++[(t:Int)]))).set (a*7+6) (grown (5000000+a) c 1 (m.wysI a true t++[(t:Int)]))=W5 (f4 m (Z3 gO na t1) (Z3 gI a c) (t+1)) n:=by
 rw[Tv (j:=5) (v:=grown (4000000+na) t1 1 (m.wysI na false t++[(t:Int)])) { f4 m gO gI t na with out:=⟨4000000+na,t1,m.wysI na false t++[(t:Int)]⟩ } ha zd rfl,
  Tv (j:=6) (v:=grown (5000000+a) c 1 (m.wysI a true t++[(t:Int)])) { Z3 (f4 m gO gI t) na { f4 m gO gI t na with out:=⟨4000000+na,t1,m.wysI na false t++[(t:Int)]⟩ } a with into:=⟨5000000+a,c,m.wysI a true t++[(t:Int)]⟩ } e zd rfl]
 refine Ln λj _=>?_;have h:=congrFun (PM.outs_next (m:=m) g) j;have i:=congrFun (PM.intos_next (m:=m) f) j;unfold f4;rw[h,i];simp only[Z3]
 by_cases d:j=a
 subst d
 by_cases b:j=na
 subst b;simp;simp[b]
 by_cases b:j=na
 subst b;simp[d];simp[d,b]
def plF(m:PM)(j:Nat):PlM:=⟨m.around j,m.rgO j,dpI m j,m.kd j==1,decide (0<=(m.vx j).of),Zb (m.outI j),Zb (m.intoI j)⟩
def Sc(m:PM):IxM:=⟨.mk false ((List.range m.vertices.length).map (plF m)),.slice .new false 1 (Ys (m.kidL m.vertices.length) m.regions.length),.mapv (Y2 (m.ownK m.regions.length)) (Ys (Yz (m.ownK m.regions.length)) (m.ownK m.regions.length).length),
 .mapv (Y2 (m.pntK m.vertices.length)) (Ys (Yz (m.pntK m.vertices.length)) (m.pntK m.vertices.length).length)⟩
theorem Mj{m:PM}{i:Nat}{p:PlM}(h:(Sc m).places.l[i]?=some p):p=plF m i:=by
 have h:((List.range m.vertices.length).map (plF m))[i]?=some p:=h;rw[List.getElem?_map]at h
 cases a:(List.range m.vertices.length)[i]? with
 |none=>rw[a]at h;cases h
 |some j=>
  obtain⟨_,b⟩:=List.getElem?_eq_some_iff.1 a;rw[List.getElem_range]at b;subst b;rw[a]at h;cases h;rfl
theorem ixOf_p(m:PM):IxP m (Sc m) where
 len:=by show((List.range m.vertices.length).map (plF m)).length=_;rw[List.length_map,List.length_range]
 par:=λi p h=>by rw[Mj h]<;>rfl
 reg:=λi p h=>by rw[Mj h]<;>rfl
 st:=λi p h=>by rw[Mj h]<;>rfl
 pt:=λi p h=>by rw[Mj h]<;>rfl
 out:=λi p h=>by rw[Mj h];exact Zl _
 into:=λi p h=>by rw[Mj h];exact Zl _
theorem Zp4(gO gI:Nat->Nat):∀ n,Vj n [.int .i64 0,.int .i64 0,.int .i64 0,.bool false,.bool false,.nils,.nils]=W5 (plZ gO gI) n:=by
 intro n
 have a:∀ (k n:Nat),Vj n [V.int .i64 0,.int .i64 0,.int .i64 0,.bool false,.bool false,.nils,.nils]=flat (((List.range' k n).map (plZ gO gI)).map Qu):=by
  intro k n
  induction n generalizing k with
  |zero=>rfl
  |succ n ih=>
   rw[List.range'_succ,List.map_cons,List.map_cons]
   show _++Vj n _=(Qu _).cells++flat _
   rw[ih (k+1)]<;>rfl
 rw[a 0 n,W5,List.range_eq_range']
theorem Z4u(B:Nat)(g:Nat->Nat):∀ n,Vj n [V.nils]=(List.range n).map (Ts B g λ_=>[]):=by
 intro n
 have a:∀ (k n:Nat),Vj n [V.nils]=(List.range' k n).map (Ts B g λ_=>[]):=by
  intro k n
  induction n generalizing k with
  |zero=>rfl
  |succ n ih=>
   rw[List.range'_succ,List.map_cons]
   show[V.nils]++Vj n _=_
   rw[ih (k+1)]<;>rfl
 rw[a 0 n,List.range_eq_range']
theorem Z7f{f A Z:Nat->PlW}{i n:Nat}(b:∀ j,j<n->f j=if j<i then A j else Z j):∀ j,j<n->Z3 f i (A i) j=if j<i+1 then A j else Z j:=by
 intro j a
 by_cases e:j=i
 subst e;rw[Ye,if_pos (Nat.lt_succ_self _)];rw[Zk _ _ e,b j a]
 by_cases q:j<i
 rw[if_pos q,if_pos zo];rw[if_neg q,if_neg zo]
theorem Zwg(B:Nat)(g:Nat->Nat)(L:List (Int×List Int))(k:Int):Ov Tryz.prog 127 (.mapv (Y2 L) (R6 B g L)) (.int .i64 k) false=some (Ts B g (Yz L) (S1 L k)):=by
 unfold Ov;rw[Tryz.underlying127];simp only[Zgt,Tryz.underlying3,Ad k L _ (Zf2 B g L)];rw[<- Zg2]
 cases(R6 B g L)[S1 L k]? <;> rfl
theorem Zgn(l:Nat->List Int)(n:Nat):flat (Ys l n)=Ys l n:=by
 unfold Ys
 induction List.range n with
 |nil=>rfl
 |cons x r ih=>
  rw[List.map_cons]
  show(Za Col.new 1 (V.int .i64) (Zb (l x))).cells++flat _=_
  rw[ih]
  cases l x<;>rfl
theorem Fz.rows{F:Nat->Bool}{H:Heap}{o g fz n:Nat}{c:Col}{l:Nat->List Int}(b:F o=true)(a:H o=.cells c g fz (Ys l n)):Fz F H (.msl o g 0 n 1) (.slice c false 1 (Ys l n)):=by
 have e:Ys l n=(List.range n).map λj=>Za .new 1 (V.int .i64) (Zb (l j)):=rfl;have:=Xm (F:=F) (H:=H) (o:=o) (g:=g) (m:=1) (fz:=fz) (c:=c) (f:=λj=>Za .new 1 (V.int .i64) (Zb (l j))) (l:=List.range n) b (by rw[a,<- e,Zgn]) (λj=>by cases l j<;>rfl);rw[List.length_range]at this;exact this
theorem Zh1(G:Nat->V)(hE:GExp G)(c d:Col)(m:MdM)(hb:MdB m)(a:m.p.Acy)(hr:m.p.rightP.2.2=0):
  Spec Tryz.prog G 27 [Zv c d m] Zi (λw _=>w=.tuple [Mz .new .new .new (Sc m.p),.int .i64 0]):=by
 have hG:=hE.ok;refine ZoM 100 234 [.tmp 2,.tmp 3] Tryz.func27 λX=>?_;simp only[Zd];refine Z ?_;intro g1;refine AW.weak (Zw (λo=>o==101) (l:=[(1,.view .new (Zv c d m)),(2,.nilp),(3,.int .i64 0)]) (m:=[]) ?_ trivial) ?_;simp -implicitDefEqProofs only[go_sem,seval];exact⟨Fz.ptr (v:=Zv c d m) (c:=.new) (fz:=0) zp (by rw[Zd];exact zp),Fz.same _,Fz.same _⟩;refine Zf Zd ?_;refine Zc hG ?_ (s:=F5 G hE _ _ m hb);refine Xw hr ?_;refine Zf hr ?_;have rtA:=PM.rt_of (PM.right_er.1 hr);have rt:=rtA.toRt5;refine Ha Zd hG ?_;have hnx:=hb.nx;have hnr:=hb.nr;refine⟨⟨Int.le_refl _,zo,zo⟩,λq=>⟨⟨Int.le_refl _,zo,zo⟩,λA R C x g7=>?_⟩⟩;rw[<- Zd];refine AW.weak (Zw (λo=>o==107) (l:=[(1,.view .new (Zv c d m)),(7,.view .new (.ptr 138 x 0))]) (m:=[(130,.cells .new q 0 (Vj m.verts.l.length [.int .i64 0,.int .i64 0,.int .i64 0,.bool false,.bool false,.nils,.nils])),(134,.cells .new A 0 (Vj m.regions.l.length [.nils])),(135,.mp X.w.heap.size R [] []),(136,.mp X.w.heap.size C [] []),(138,.cells .new x 0 [.msl 130 q 0 m.verts.l.length 7,.msl 134 A 0 m.regions.l.length 1,.mref 135 R,.mref 136 C])]) ?_ ?_) ?_;simp -implicitDefEqProofs only[go_sem,seval];exact⟨Fz.same _,Fz.ptr (v:=.ptr 138 x 0) (c:=.new) (fz:=0) zp zp⟩;simp only[Zy,Z2,and_true];exact⟨FzO.keep rfl zp,FzO.keep rfl zp,FzO.keep rfl zp,FzO.keep rfl zp,FzO.keep rfl zp⟩;refine Zf Zd ?_
 refine Yf m.regions.l.length (λk (g:Nat->Nat)=>⟨Z6 emp [(1,.view .new (Zv c d m)),(7,.view .new (.ptr 138 x 0)),(40,Za c 2 Yw m.regions),(41,.int .i64 m.regions.l.length),(42,.int .i64 k)],Z6 (Wh 1000000 g (Yz (m.p.ownK k)) Zi) [(130,.cells .new q 0 (Vj m.verts.l.length [.int .i64 0,.int .i64 0,.int .i64 0,.bool false,.bool false,.nils,.nils])),(134,.cells .new A 0 (Vj m.regions.l.length [.nils])),(135,.mp X.w.heap.size R (Y2 (m.p.ownK k)) (R6 1000000 g (m.p.ownK k))),(136,.mp X.w.heap.size C [] []),(138,.cells .new x 0 [.msl 130 q 0 m.verts.l.length 7,.msl 134 A 0 m.regions.l.length 1,.mref 135 R,.mref 136 C])]⟩)
  (λ_ _=>True) 0 (λ_=>0) (Nat.zero_le _) trivial (S7 (by rw[Zd];exact zp) zp ?_) ?_
 intro o;refine .inl ?_
 show Wh _ _ _ _ o=_
 unfold Wh
 split<;>rfl
 intro k g hk _ L hL
 by_cases hk1:k<m.regions.l.length
 have E:decide ((k:Int)<(m.regions.l.length:Int))=true:=zT;have hg:=List.getElem?_eq_getElem hk1;generalize m.regions.l[k]=J at hg;have how:=He hg;refine Zf (zi E (zi hg (zi hk1 (zi @Wn (zi @Int.natCast_nonneg @Int.ofNat_lt))))) ?_;intro g9;refine Vw [(127,.ptr 138 x 2,.mref 135 R),(3,.ptr 109 g9 1,.int .i64 J.2)] ⟨λj=>if j=3 then .mref 135 R else if j=9 then .mref 135 R else .int .i64 J.2,λj=>if j=0 then .lend else if j=6 then .lend else .keep⟩ zk hG zk zk ?_;simp -implicitDefEqProofs only[go_sem,seval,Zwg 1000000 g (m.p.ownK k) J.2,@Int.natCast_nonneg,@Int.ofNat_lt,true_or,or_true,true_and];refine⟨rfl,λg61=>?_⟩;have hix:=Iy (m.p.ownK k) J.2;have hkl:=PM.ownK_len (m:=m.p) k;refine Qd (f:=V.int .i64) (o:=1000000+S1 (m.p.ownK k) J.2) (g:=g (S1 (m.p.ownK k) J.2)) (l:=Yz (m.p.ownK k) (S1 (m.p.ownK k) J.2)) (l2:=[(k:Int)]) (λ_=>rfl) rfl rfl rfl ?_ ?_ λo2 g2 I=>?_
 (repeat rw[Zk _ _ zo])
 exact T4 zo;have:=PM.ownK_row (m:=m.p) k (S1 (m.p.ownK k) J.2);exact Yg zo zO;have I:o2=1000000+S1 (m.p.ownK k) J.2\/o2=162:=I;have N:(138=o2)=False:=eq_false zo;have n109:(109=o2)=False:=eq_false zo;have n135:(135=o2)=False:=eq_false zo;have n2:(o2=135)=False:=eq_false zo;simp -implicitDefEqProofs only[go_sem,seval,Oc Tryz.underlying127 Tryz.underlying3,Z6f 1000000 g (m.p.ownK k) J.2 k,Ii,Nat.le_refl,true_and,N,n109,n135]
 refine Oo [(1,.view .new (Zv c d m)),(7,.view .new (.ptr 138 x 0)),(40,Za c 2 Yw m.regions),(41,.int .i64 m.regions.l.length),(42,.int .i64 k)] (g:=g) (l:=Yz (m.p.ownK k)) (H0:=Zi) (m:=[(130,.cells .new q 0 (Vj m.verts.l.length [.int .i64 0,.int .i64 0,.int .i64 0,.bool false,.bool false,.nils,.nils])),(134,.cells .new A 0 (Vj m.regions.l.length [.nils])),(135,.mp X.w.heap.size R (Y2 (m.p.ownK k)) (R6 1000000 g (m.p.ownK k))),(136,.mp X.w.heap.size C [] []),(138,.cells .new x 0 [.msl 130 q 0 m.verts.l.length 7,.msl 134 A 0 m.regions.l.length 1,.mref 135 R,.mref 136 C])]) 135 1000000 162 (S1 (m.p.ownK k) J.2) (λu=>.mp X.w.heap.size R (Y2 (Sb (m.p.ownK k) J.2 k)) (Ll 1000000 g (m.p.ownK k) J.2 u)) (o2:=o2) (g2:=g2) (r:=Yz (m.p.ownK k) (S1 (m.p.ownK k) J.2)++[(k:Int)]) zS I zo
  (λa t b s=>RnX.mp (Rn.row a t b s zS)) (by simp -implicitDefEqProofs only[go_sem,seval,n2]) (zp) (λo h1 h2 h3=>?_) zp λt=>?_
 by_cases e1:o=109
 subst e1;exact .inl rfl
 by_cases e2:o=161
 subst e2;exact .inl rfl
 right
 (repeat rw[Zk _ _ zo])
 rfl;have w1:IntKind.i64.wrap ((k:Int)+1)=(k:Int)+1:=W0 zo zo;refine Zf w1 ?_
 have eR:Yz (m.p.ownK (k+1))=Z3 (Yz (m.p.ownK k)) (S1 (m.p.ownK k) J.2) (Yz (m.p.ownK k) (S1 (m.p.ownK k) J.2)++[(k:Int)]):=by
  rw[PM.ownK_succ,how];exact funext λj=>O7 _ _ _ j
 have eM:=Zkf 1000000 g (m.p.ownK k) J.2 k t
 have eS:Sb (m.p.ownK k) J.2 k=m.p.ownK (k+1):=by rw[PM.ownK_succ,how]
 rw[eS]at eM⊢;rw[eM,<- eR];refine hL _ ⟨hk1,Z3 g (S1 (m.p.ownK k) J.2) t,trivial,S7 zp zp λo=>?_⟩;exact Ze2 (m:=(135,_)::(162,.dead)::[(130,.cells .new q 0 (Vj m.verts.l.length [.int .i64 0,.int .i64 0,.int .i64 0,.bool false,.bool false,.nils,.nils])),(134,.cells .new A 0 (Vj m.regions.l.length [.nils])),(135,.mp X.w.heap.size R (Y2 (m.p.ownK k)) (R6 1000000 g (m.p.ownK k))),(136,.mp X.w.heap.size C [] []),(138,.cells .new x 0 [.msl 130 q 0 m.verts.l.length 7,.msl 134 A 0 m.regions.l.length 1,.mref 135 R,.mref 136 C])]) rfl o;have hke:k=m.regions.l.length:=zo;have E:decide ((m.regions.l.length:Int)<(m.regions.l.length:Int))=false:=zF;have hkl:=PM.ownK_len (m:=m.p) m.regions.l.length;rw[hke];refine AW.weak (Zw (λo=>Nat.ble 1000000 o) (l:=[(1,.view .new (Zv c d m)),(7,.view .new (.ptr 138 x 0)),(41,.int .i64 m.regions.l.length),(42,.int .i64 m.regions.l.length)]) (m:=[(130,.cells .new q 0 (Vj m.verts.l.length [.int .i64 0,.int .i64 0,.int .i64 0,.bool false,.bool false,.nils,.nils])),(134,.cells .new A 0 (Vj m.regions.l.length [.nils])),(135,.mp X.w.heap.size R (Y2 (m.p.ownK m.regions.l.length)) (Ys (Yz (m.p.ownK m.regions.l.length)) (m.p.ownK m.regions.l.length).length)),(136,.mp X.w.heap.size C [] []),(138,.cells .new x 0 [.msl 130 q 0 m.verts.l.length 7,.msl 134 A 0 m.regions.l.length 1,.mref 135 R,.mref 136 C])]) ?_ ?_) ?_;simp -implicitDefEqProofs only[go_sem,seval];exact⟨Fz.same _,Fz.same _,Fz.same _⟩
 simp only[Zy,Z2,and_true];exact⟨FzO.keep rfl zp,FzO.keep rfl zp,Z8l zp (FzL.fam zo (λj _=>Nat.ble_eq_true_of_le zo) λj U=>(U9 (lo:=1000000) rfl zo).trans (T4 U)),FzO.keep rfl zp,FzO.keep rfl zp⟩;refine AW.weak (Cc 135 (lo:=X.w.heap.size) (b:=R) (ks:=Y2 (m.p.ownK m.regions.l.length)) (vs:=Ys (Yz (m.p.ownK m.regions.l.length)) (m.p.ownK m.regions.l.length).length) [(1,.view .new (Zv c d m)),(7,.view .new (.ptr 138 x 0)),(41,.int .i64 m.regions.l.length),(42,.int .i64 m.regions.l.length)] [(130,.cells .new q 0 (Vj m.verts.l.length [.int .i64 0,.int .i64 0,.int .i64 0,.bool false,.bool false,.nils,.nils])),(134,.cells .new A 0 (Vj m.regions.l.length [.nils])),(136,.mp X.w.heap.size C [] []),(138,.cells .new x 0 [.msl 130 q 0 m.verts.l.length 7,.msl 134 A 0 m.regions.l.length 1,(.mapv (Y2 (m.p.ownK m.regions.l.length)) (Ys (Yz (m.p.ownK m.regions.l.length)) (m.p.ownK m.regions.l.length).length)),.mref 136 C])] zp (Nat.le_refl _) ?_ ?_) ?_;simp -implicitDefEqProofs only[go_sem,seval];exact⟨.inl rfl,.inl rfl,.inl rfl⟩;simp -implicitDefEqProofs only[go_sem,seval];exact⟨MZO.same ..,MZO.same ..,MZO.same ..,_,rfl,.inl rfl,.inl rfl,.inr ⟨rfl,rfl⟩,.inl rfl,trivial⟩;refine Zf (zi E Zd) ?_
 refine Yf m.verts.l.length (λi (z:(Nat->PlW)×(Nat->Nat)×(Nat->Nat))=>⟨Z6 emp [(1,.view .new (Zv c d m)),(7,.view .new (.ptr 138 x 0)),(65,Za c 8 (Y0 d) m.verts),(66,.int .i64 m.verts.l.length),(67,.int .i64 i)],Z6 (Wh 2000000 z.2.1 (m.p.kidL i) (Wh 3000000 z.2.2 (Yz (m.p.pntK i)) Zi)) [(130,.cells .new q 0 (W5 z.1 m.verts.l.length)),(134,.cells .new A 0 ((List.range m.regions.l.length).map (Ts 2000000 z.2.1 (m.p.kidL i)))),(136,.mp X.w.heap.size C (Y2 (m.p.pntK i)) (R6 3000000 z.2.2 (m.p.pntK i))),(138,.cells .new x 0 [.msl 130 q 0 m.verts.l.length 7,.msl 134 A 0 m.regions.l.length 1,(.mapv (Y2 (m.p.ownK m.regions.l.length)) (Ys (Yz (m.p.ownK m.regions.l.length)) (m.p.ownK m.regions.l.length).length)),.mref 136 C])]⟩)
  (λi z=>∀ j,j<m.verts.l.length->z.1 j=if j<i then plB m.p 0 j else plZ (λ_=>0) (λ_=>0) j) 0 (plZ (λ_=>0) (λ_=>0),λ_=>0,λ_=>0) (Nat.zero_le _) (λj U=>(if_neg (Nat.not_lt_zero _)).symm) (S7 (by rw[Zd];exact zp) ?_ ?_) ?_
 simp -implicitDefEqProofs only[go_sem,seval];rw[Zp4 (λ_=>0) (λ_=>0),Z4u 2000000 (λ_=>0)];exact⟨rfl,rfl,rfl⟩;intro o;refine .inl ?_
 show Wh _ _ _ _ o=_
 unfold Wh
 split
 rfl
 split<;>rfl
 rintro i ⟨f,M,K⟩ hi hR L2 hL2;simp only at hR
 by_cases y:i<m.verts.l.length
 have E:decide ((i:Int)<(m.verts.l.length:Int))=true:=zT;have hg:=List.getElem?_eq_getElem y;generalize m.verts.l[i]=D at hg;have O:=Ps hg;refine Zf (zi E (zi hg (zi y (zi Zt (zi @Int.natCast_nonneg @Int.ofNat_lt))))) ?_;intro g11;refine AW.weak (Ao (λo=>o==111) (B:=(Wh 2000000 M (m.p.kidL i) (Wh 3000000 K (Yz (m.p.pntK i)) Zi))) (l:=[(10,.int .i64 i),(1,.view .new (Zv c d m)),(7,.view .new (.ptr 138 x 0)),(65,Za c 8 (Y0 d) m.verts),(66,.int .i64 m.verts.l.length),(67,.int .i64 i),(11,.view .new (Y0 d D))]) (m:=[(130,.cells .new q 0 (W5 f m.verts.l.length)),(134,.cells .new A 0 ((List.range m.regions.l.length).map (Ts 2000000 M (m.p.kidL i)))),(136,.mp X.w.heap.size C (Y2 (m.p.pntK i)) (R6 3000000 K (m.p.pntK i))),(138,.cells .new x 0 [.msl 130 q 0 m.verts.l.length 7,.msl 134 A 0 m.regions.l.length 1,(.mapv (Y2 (m.p.ownK m.regions.l.length)) (Ys (Yz (m.p.ownK m.regions.l.length)) (m.p.ownK m.regions.l.length).length)),.mref 136 C])]) ?_ ?_ λo=>?_) ?_;simp -implicitDefEqProofs only[go_sem,seval];exact⟨Fz.same _,Fz.same _,Fz.same _,Fz.same _,Fz.same _,Fz.same _,Fz.ptr (v:=Y0 d D) (c:=.new) (fz:=0) rfl zp⟩;simp only[Zy,Z2,and_true];exact⟨FzO.keep rfl zp,FzO.keep rfl zp,FzO.keep rfl zp,FzO.keep rfl zp⟩;exact Ce (lo:=2000000) (((Lows.none 2000000).fam zd).fam zd) (λo ho=>beq_false_of_ne (show o≠111 by omega)) (m:=(111,_)::(111,_)::[(130,.cells .new q 0 (W5 f m.verts.l.length)),(134,.cells .new A 0 ((List.range m.regions.l.length).map (Ts 2000000 M (m.p.kidL i)))),(136,.mp X.w.heap.size C (Y2 (m.p.pntK i)) (R6 3000000 K (m.p.pntK i))),(138,.cells .new x 0 [.msl 130 q 0 m.verts.l.length 7,.msl 134 A 0 m.regions.l.length 1,(.mapv (Y2 (m.p.ownK m.regions.l.length)) (Ys (Yz (m.p.ownK m.regions.l.length)) (m.p.ownK m.regions.l.length).length)),.mref 136 C])]) rfl o
 refine Zf (zi y (zi Zt (zi @Int.natCast_nonneg @Int.ofNat_lt))) ?_;refine Zp ⟨λ_=>.top,λ_=>.lend⟩ zk hG zk zk ?_;have h3:=Tv (f:=f) (n:=m.verts.l.length) (j:=3) (v:=.bool (D.kind==1)) (plX 0 0 (D.kind==1) false i) y zd (by rw[hR i y,if_neg (Nat.lt_irrefl _)];rfl);have h4:=Tv (f:=Z3 f i (plX 0 0 (D.kind==1) false i)) (n:=m.verts.l.length) (j:=4) (v:=.bool (decide (D.of>=0))) (plX 0 0 (D.kind==1) (decide (D.of>=0)) i) y zd (by rw[Ye];rfl);rw[Px]at h4;have c3:i*7+3+1<=m.verts.l.length*7:=zo;have c4:i*7+4+1<=m.verts.l.length*7:=zo;have c5:i*7+4<m.verts.l.length*7:=zo;simp -implicitDefEqProofs only[go_sem,seval,y,U4,c3,c4,h3,h4];have h5:=Kv (f:=Z3 f i (plX 0 0 (D.kind==1) (decide (D.of>=0)) i)) (n:=m.verts.l.length) (j:=4) (v:=.bool (decide (D.of>=0))) y zd (by rw[Ye];rfl);generalize hf4:Z3 f i (plX 0 0 (D.kind==1) (decide (D.of>=0)) i)=f4 at h5
 have h6:f4 i=plX 0 0 (D.kind==1) (decide (D.of>=0)) i:=by rw[<- hf4,Ye]
 refine AW.weak (S7 (B:=(Wh 2000000 M (m.p.kidL i) (Wh 3000000 K (Yz (m.p.pntK i)) Zi))) (l:=[(1,.view .new (Zv c d m)),(7,.view .new (.ptr 138 x 0)),(65,Za c 8 (Y0 d) m.verts),(66,.int .i64 m.verts.l.length),(67,.int .i64 i),(10,.int .i64 i),(11,.view .new (Y0 d D)),(12,.ptr 130 q (i*7))]) (m:=[(130,.cells .new q 0 (W5 f4 m.verts.l.length)),(134,.cells .new A 0 ((List.range m.regions.l.length).map (Ts 2000000 M (m.p.kidL i)))),(136,.mp X.w.heap.size C (Y2 (m.p.pntK i)) (R6 3000000 K (m.p.pntK i))),(138,.cells .new x 0 [.msl 130 q 0 m.verts.l.length 7,.msl 134 A 0 m.regions.l.length 1,(.mapv (Y2 (m.p.ownK m.regions.l.length)) (Ys (Yz (m.p.ownK m.regions.l.length)) (m.p.ownK m.regions.l.length).length)),.mref 136 C])]) (by rw[Zt];exact zp) zp λo=>?_) ?_;exact Lows.base (lo:=2000000) (((Lows.none 2000000).fam zd).fam zd) (m:=(130,_)::(130,_)::[(130,.cells .new q 0 (W5 f m.verts.l.length)),(134,.cells .new A 0 ((List.range m.regions.l.length).map (Ts 2000000 M (m.p.kidL i)))),(136,.mp X.w.heap.size C (Y2 (m.p.pntK i)) (R6 3000000 K (m.p.pntK i))),(138,.cells .new x 0 [.msl 130 q 0 m.verts.l.length 7,.msl 134 A 0 m.regions.l.length 1,(.mapv (Y2 (m.p.ownK m.regions.l.length)) (Ys (Yz (m.p.ownK m.regions.l.length)) (m.p.ownK m.regions.l.length).length)),.mref 136 C])]) rfl o
 by_cases ho:0<=D.of
 have q0:decide (D.of>=0)=true:=zT;rw[q0]at h5 h6;have hpt:=rt.pt (v:=(i:Int)) (Int.natCast_nonneg i) (by rw[m.nv];omega);rw[O]at hpt;obtain⟨_,hp1,_⟩:=hpt.resolve_right (λh=>by have:D.of = -1:=h.1;omega);have hp1:D.of<m.p.vertices.length:=hp1;obtain⟨o,vo,hoe,hok,hgo,hvo⟩:=MdM.at ho hp1;have f2:=zi hoe (zi hok (zi hgo (zi Zt (zi Zd (zi @Int.natCast_nonneg @Int.ofNat_lt)))));refine Zf (zi h5 (zi U4 (zi c4 (zi c5 Zt)))) ?_;refine Zp ⟨λ_=>.top,λ_=>.lend⟩ zk hG zk zk ?_;have s0:(W5 f4 m.verts.l.length).set (i*7) (.int .i64 (o:Int))=_:=Tv (f:=f4) (j:=0) (plX (o:Int) 0 (D.kind==1) true i) y zd (by rw[h6];rfl);have s1:=Tv (f:=Z3 f4 i (plX (o:Int) 0 (D.kind==1) true i)) (n:=m.verts.l.length) (j:=1) (v:=.int .i64 vo.region) (plX (o:Int) vo.region (D.kind==1) true i) y zd (by rw[Ye];rfl);rw[Px]at s1;have k0:i*7+1<=m.verts.l.length*7:=zo;have k1:i*7+1+1<=m.verts.l.length*7:=zo;simp -implicitDefEqProofs only[go_sem,seval,f2,y,U4,k0,k1,s0,s1,Nat.zero_le];generalize hf6:Z3 f4 i (plX (o:Int) vo.region (D.kind==1) true i)=f6;refine Z4 ?_;refine Vw [(127,.ptr 138 x 3,.mref 136 C)] ⟨λj=>.mref 136 C,λj=>if j=3 then .keep else if j=9 then .keep else .lend⟩ zk hG zk zk ?_;have hpl:=PM.pntK_len (m:=m.p) i;have hix:=Iy (m.p.pntK i) (o:Int);simp -implicitDefEqProofs only[go_sem,seval,Zwg 3000000 K (m.p.pntK i) (o:Int),true_and,and_true];refine⟨rfl,λg23=>?_⟩;refine Qd (f:=V.int .i64) (o:=3000000+S1 (m.p.pntK i) (o:Int)) (g:=K (S1 (m.p.pntK i) (o:Int))) (l:=Yz (m.p.pntK i) (S1 (m.p.pntK i) (o:Int))) (l2:=[(i:Int)]) (λ_=>rfl) rfl rfl rfl ?_ ?_ λo2 g2 I=>?_
 (repeat rw[Zk _ _ zo])
 rw[Uv zo];exact T4 zo;have:=PM.pntK_row (m:=m.p) i (S1 (m.p.pntK i) (o:Int));exact Yg zo zO;have I:o2=3000000+S1 (m.p.pntK i) (o:Int)\/o2=224:=I;have N:(138=o2)=False:=eq_false zo;have n136:(136=o2)=False:=eq_false zo;have n2:(o2=136)=False:=eq_false zo;simp -implicitDefEqProofs only[go_sem,seval,Oc Tryz.underlying127 Tryz.underlying3,Z6f 3000000 K (m.p.pntK i) (o:Int) i,Ii,Nat.le_refl,true_and,N,n136]
 refine Oo [(1,.view .new (Zv c d m)),(7,.view .new (.ptr 138 x 0)),(65,Za c 8 (Y0 d) m.verts),(66,.int .i64 m.verts.l.length),(67,.int .i64 i)] (g:=K) (l:=Yz (m.p.pntK i)) (H0:=Wh 2000000 M (m.p.kidL i) Zi) (m:=[(130,.cells .new q 0 (W5 f6 m.verts.l.length)),(134,.cells .new A 0 ((List.range m.regions.l.length).map (Ts 2000000 M (m.p.kidL i)))),(136,.mp X.w.heap.size C (Y2 (m.p.pntK i)) (R6 3000000 K (m.p.pntK i))),(138,.cells .new x 0 [.msl 130 q 0 m.verts.l.length 7,.msl 134 A 0 m.regions.l.length 1,(.mapv (Y2 (m.p.ownK m.regions.l.length)) (Ys (Yz (m.p.ownK m.regions.l.length)) (m.p.ownK m.regions.l.length).length)),.mref 136 C])]) 136 3000000 224 (S1 (m.p.pntK i) (o:Int)) (λu=>.mp X.w.heap.size C (Y2 (Sb (m.p.pntK i) (o:Int) i)) (Ll 3000000 K (m.p.pntK i) (o:Int) u)) (o2:=o2) (g2:=g2) (r:=Yz (m.p.pntK i) (S1 (m.p.pntK i) (o:Int))++[(i:Int)]) zS I zo
  (λa t b s=>RnX.mp (Rn.row a t b s zS)) (by simp -implicitDefEqProofs only[go_sem,seval,n2]) (zp) (λo' h1 h2 h3=>?_) zp λt=>?_
 by_cases e2:o'=223
 subst e2;exact .inl rfl
 right
 rw[Mn (B:=3000000) (B':=2000000) zo]
 (repeat rw[Zk _ _ zo])
 by_cases e3:o'=130
 subst e3;rfl
 (repeat rw[Zk _ _ zo])
 refine Zs ?_;exact(if_neg e3).symm;have w1:IntKind.i64.wrap ((i:Int)+1)=(i:Int)+1:=W0 zo zo;refine Zf w1 ?_
 have hof:(m.p.vx (i:Int)).of=(o:Int):=by rw[O];exact hoe
 have eP:m.p.pntK (i+1)=Sb (m.p.pntK i) (o:Int) i:=by rw[PM.pntK_pt (by rw[hof];exact Int.natCast_nonneg o),hof]
 have eR:Yz (m.p.pntK (i+1))=Z3 (Yz (m.p.pntK i)) (S1 (m.p.pntK i) (o:Int)) (Yz (m.p.pntK i) (S1 (m.p.pntK i) (o:Int))++[(i:Int)]):=by
  rw[eP];exact funext λj=>O7 _ _ _ j
 have eM:=Zkf 3000000 K (m.p.pntK i) (o:Int) i t;rw[<- eP]at eM⊢;rw[eM,<- eR];have eK:m.p.kidL (i+1)=m.p.kidL i:=PM.kidL_pt (by rw[hof];exact Int.natCast_nonneg o)
 have hB:plB m.p 0 i=plX (o:Int) vo.region (D.kind==1) true i:=by
  rw[hoe]at hvo;unfold plB PM.around PM.rgO PM.kd;rw[hof,if_pos (Int.natCast_nonneg o),if_pos (Int.natCast_nonneg o),hvo,O,decide_eq_true (Int.natCast_nonneg o)];rfl
 refine hL2 _ ⟨y,(f6,M,Z3 K (S1 (m.p.pntK i) (o:Int)) t),?_,S7 zp ?_ λo'=>?_⟩
 show ∀ j,j<m.verts.l.length->f6 j=_
 rw[<- hf6,<- hf4,Px,<- hB];exact Z7f hR;rw[eK];exact zp;rw[eK,Mn (B:=2000000) (B':=3000000) zo]
 dsimp only
 exact Lows.base (lo:=2000000) (((Lows.none 2000000).fam zd).fam zd) (m:=(136,_)::(224,.dead)::[(130,.cells .new q 0 (W5 f6 m.verts.l.length)),(134,.cells .new A 0 ((List.range m.regions.l.length).map (Ts 2000000 M (m.p.kidL i)))),(136,.mp X.w.heap.size C (Y2 (m.p.pntK i)) (R6 3000000 K (m.p.pntK i))),(138,.cells .new x 0 [.msl 130 q 0 m.verts.l.length 7,.msl 134 A 0 m.regions.l.length 1,(.mapv (Y2 (m.p.ownK m.regions.l.length)) (Ys (Yz (m.p.ownK m.regions.l.length)) (m.p.ownK m.regions.l.length).length)),.mref 136 C])]) rfl o';have q0:decide (D.of>=0)=false:=zF;rw[q0]at h5 h6;have hpt:=rt.pt (v:=(i:Int)) (Int.natCast_nonneg i) (by rw[m.nv];omega);rw[O]at hpt;obtain⟨_,hr0,hr1,_⟩:=hpt.resolve_left (λh=>ho h.1);have hr0:0<=D.region:=hr0;have hr1:D.region<m.p.regions.length:=hr1;obtain⟨r,ry,hre,W,hrg,hro⟩:=Cd hr0 hr1;have f2:=zi hre (zi W (zi hrg (zi Zt (zi Zd (zi @Wn (zi @Int.natCast_nonneg @Int.ofNat_lt))))));refine Zf (zi h5 (zi U4 (zi c4 (zi c5 Zt)))) ?_;refine Zp ⟨λ_=>.top,λ_=>.lend⟩ zk hG zk zk ?_;have s0:(W5 f4 m.verts.l.length).set (i*7) (.int .i64 ry.2)=_:=Tv (f:=f4) (j:=0) (plX ry.2 0 (D.kind==1) false i) y zd (by rw[h6];rfl);have s1:=Tv (f:=Z3 f4 i (plX ry.2 0 (D.kind==1) false i)) (n:=m.verts.l.length) (j:=1) (v:=.int .i64 (r:Int)) (plX ry.2 (r:Int) (D.kind==1) false i) y zd (by rw[Ye];rfl);rw[Px]at s1;have k0:i*7+1<=m.verts.l.length*7:=zo
 have k1:i*7+1+1<=m.verts.l.length*7:=zo;simp -implicitDefEqProofs only[go_sem,seval,f2,y,U4,k0,k1,s0,s1,Nat.zero_le];generalize hf6:Z3 f4 i (plX ry.2 (r:Int) (D.kind==1) false i)=f6;refine Vw [(99,.ptr 138 x 1,.msl 134 A 0 m.regions.l.length 1)] ⟨λj=>.msl 134 A 0 m.regions.l.length 1,λj=>if j=3 then .keep else if j=9 then .keep else if j=13 then .pure else .lend⟩ zk hG zk zk ?_;have hkr:((List.range m.regions.l.length).map (Ts 2000000 M (m.p.kidL i)))[r]?=some (Ts 2000000 M (m.p.kidL i) r):=Ef _ W;simp -implicitDefEqProofs only[go_sem,seval,hkr,W,true_and,and_true,List.length_map,List.length_range,@Int.natCast_nonneg,@Int.ofNat_lt,Nat.mul_one];refine⟨rfl,λg55=>?_⟩;have hkn:=PM.kidL_len (m:=m.p) i r;refine Qd (f:=V.int .i64) (o:=2000000+r) (g:=M r) (l:=m.p.kidL i r) (l2:=[(i:Int)]) (λ_=>rfl) rfl rfl rfl ?_ (Yg zo zO) λo2 g2 I=>?_
 (repeat rw[Zk _ _ zo])
 exact T4 zo;have I:o2=2000000+r\/o2=256:=I;have n134:(134=o2)=False:=eq_false zo;have N:(138=o2)=False:=eq_false zo;have n2:(o2=134)=False:=eq_false zo;have S:(130=o2)=False:=eq_false zo;have hrk1:r+1<=m.regions.l.length:=W;simp -implicitDefEqProofs only[go_sem,seval,W,hrk1,true_and,and_true,List.length_map,List.length_range,@Int.natCast_nonneg,@Int.ofNat_lt,Nat.mul_one,n134,N,Nat.zero_le]
 refine Oo [(1,.view .new (Zv c d m)),(7,.view .new (.ptr 138 x 0)),(65,Za c 8 (Y0 d) m.verts),(66,.int .i64 m.verts.l.length),(67,.int .i64 i)] (g:=M) (l:=m.p.kidL i) (H0:=Wh 3000000 K (Yz (m.p.pntK i)) Zi) (m:=[(130,.cells .new q 0 (W5 f6 m.verts.l.length)),(134,.cells .new A 0 ((List.range m.regions.l.length).map (Ts 2000000 M (m.p.kidL i)))),(136,.mp X.w.heap.size C (Y2 (m.p.pntK i)) (R6 3000000 K (m.p.pntK i))),(138,.cells .new x 0 [.msl 130 q 0 m.verts.l.length 7,.msl 134 A 0 m.regions.l.length 1,(.mapv (Y2 (m.p.ownK m.regions.l.length)) (Ys (Yz (m.p.ownK m.regions.l.length)) (m.p.ownK m.regions.l.length).length)),.mref 136 C])]) 134 2000000 256 r (λu=>.cells .new A 0 (((List.range m.regions.l.length).map (Ts 2000000 M (m.p.kidL i))).set r u)) (o2:=o2) (g2:=g2) (r:=m.p.kidL i r++[(i:Int)]) zS I zo
  (λa t b s=>RnX.cl (Rn.row a t b s zS)) (by simp -implicitDefEqProofs only[go_sem,seval,n2]) (zp) (λo' h1 h2 h3=>?_) (by rw[Zd];exact zp) λt=>?_
 by_cases e2:o'=255
 subst e2;exact .inl rfl
 right
 by_cases e3:o'=130
 subst e3;simp -implicitDefEqProofs only[go_sem,seval,S]
 (repeat rw[Zk _ _ zo])
 refine Zs ?_;exact((if_neg e3).trans (if_neg h1)).symm;have w1:IntKind.i64.wrap ((i:Int)+1)=(i:Int)+1:=W0 zo zo;refine Zf w1 ?_
 have hof:(m.p.vx (i:Int)).of=D.of:=by rw[O];rfl
 have hrg2:(m.p.vx (i:Int)).region=(r:Int):=by rw[O];exact hre
 have T:¬ 0<=(m.p.vx (i:Int)).of:=by rw[hof];exact ho
 have eP:m.p.pntK (i+1)=m.p.pntK i:=PM.pntK_no T;have eK:=PM.kidL_at (m:=m.p) (n:=i) (r:=r) zo hrg2;have eS:=Zjh (B:=2000000) (g:=M) (l:=m.p.kidL i) (n:=m.regions.l.length) (j:=r) (k:=t) (r:=m.p.kidL i r++[(i:Int)]) W;rw[eS,<- eK]
 have hB:plB m.p 0 i=plX ry.2 (r:Int) (D.kind==1) false i:=by
  rw[hre]at hro;unfold plB PM.around PM.rgO PM.kd;rw[if_neg T,if_neg T,hrg2,hro,O,decide_eq_false (by rw[<- O];exact T)];rfl
 refine hL2 _ ⟨y,(f6,Z3 M r t,K),?_,S7 (by rw[Zd];exact zp) ?_ λo'=>?_⟩
 show ∀ j,j<m.verts.l.length->f6 j=_
 rw[<- hf6,<- hf4,Px,<- hB];exact Z7f hR;rw[eP];exact zp;rw[eP]
 dsimp only
 exact Lows.base (lo:=2000000) (((Lows.none 2000000).fam zd).fam zd) (m:=(134,_)::(256,.dead)::[(130,.cells .new q 0 (W5 f6 m.verts.l.length)),(134,.cells .new A 0 ((List.range m.regions.l.length).map (Ts 2000000 M (m.p.kidL i)))),(136,.mp X.w.heap.size C (Y2 (m.p.pntK i)) (R6 3000000 K (m.p.pntK i))),(138,.cells .new x 0 [.msl 130 q 0 m.verts.l.length 7,.msl 134 A 0 m.regions.l.length 1,(.mapv (Y2 (m.p.ownK m.regions.l.length)) (Ys (Yz (m.p.ownK m.regions.l.length)) (m.p.ownK m.regions.l.length).length)),.mref 136 C])]) rfl o';have hie:i=m.verts.l.length:=zo;have E:decide ((m.verts.l.length:Int)<(m.verts.l.length:Int))=false:=zF;have hpl:=PM.pntK_len (m:=m.p) m.verts.l.length;subst hie;refine AW.weak (Zw (λo=>Nat.ble 2000000 o) (l:=[(1,.view .new (Zv c d m)),(7,.view .new (.ptr 138 x 0)),(66,.int .i64 m.verts.l.length),(67,.int .i64 m.verts.l.length)]) (m:=[(130,.cells .new q 0 (W5 f m.verts.l.length)),(134,.cells .new A 0 (Ys (m.p.kidL m.verts.l.length) m.regions.l.length)),(136,.mp X.w.heap.size C (Y2 (m.p.pntK m.verts.l.length)) (Ys (Yz (m.p.pntK m.verts.l.length)) (m.p.pntK m.verts.l.length).length)),(138,.cells .new x 0 [.msl 130 q 0 m.verts.l.length 7,.msl 134 A 0 m.regions.l.length 1,(.mapv (Y2 (m.p.ownK m.regions.l.length)) (Ys (Yz (m.p.ownK m.regions.l.length)) (m.p.ownK m.regions.l.length).length)),.mref 136 C])]) ?_ ?_) ?_;simp -implicitDefEqProofs only[go_sem,seval];exact⟨Fz.same _,Fz.same _,Fz.same _⟩
 simp only[Zy,Z2,and_true];exact⟨FzO.keep rfl zp,FzO.of rfl zp (FzL.fam zo (λj _=>Nat.ble_eq_true_of_le zo) λj U=>(U9 (lo:=2000000) rfl zo).trans (T4 U)),Z8l zp (FzL.fam zo (λj _=>Nat.ble_eq_true_of_le zo) λj U=>(U9 (lo:=2000000) rfl zo).trans ((Uv zo).trans (T4 U))),FzO.keep rfl zp⟩;refine AW.weak (Cc 136 (lo:=X.w.heap.size) (b:=C) (ks:=Y2 (m.p.pntK m.verts.l.length)) (vs:=Ys (Yz (m.p.pntK m.verts.l.length)) (m.p.pntK m.verts.l.length).length) [(1,.view .new (Zv c d m)),(7,.view .new (.ptr 138 x 0)),(66,.int .i64 m.verts.l.length),(67,.int .i64 m.verts.l.length)] [(130,.cells .new q 0 (W5 f m.verts.l.length)),(134,.cells .new A 0 (Ys (m.p.kidL m.verts.l.length) m.regions.l.length)),(138,.cells .new x 0 [.msl 130 q 0 m.verts.l.length 7,.msl 134 A 0 m.regions.l.length 1,(.mapv (Y2 (m.p.ownK m.regions.l.length)) (Ys (Yz (m.p.ownK m.regions.l.length)) (m.p.ownK m.regions.l.length).length)),(.mapv (Y2 (m.p.pntK m.verts.l.length)) (Ys (Yz (m.p.pntK m.verts.l.length)) (m.p.pntK m.verts.l.length).length))])] zp (Nat.le_refl _) ?_ ?_) ?_;simp -implicitDefEqProofs only[go_sem,seval];exact⟨.inl rfl,.inl rfl,.inl rfl⟩;simp -implicitDefEqProofs only[go_sem,seval];exact⟨MZO.same ..,MZO.same ..,_,rfl,.inl rfl,.inl rfl,.inl rfl,.inr ⟨rfl,rfl⟩,trivial⟩;refine AW.weak (Zw (λo=>o==134) (l:=[(1,.view .new (Zv c d m)),(7,.view .new (.ptr 138 x 0)),(66,.int .i64 m.verts.l.length),(67,.int .i64 m.verts.l.length)]) (m:=[(130,.cells .new q 0 (W5 f m.verts.l.length)),(138,.cells .new x 0 [.msl 130 q 0 m.verts.l.length 7,(.slice .new false 1 (Ys (m.p.kidL m.verts.l.length) m.regions.l.length)),(.mapv (Y2 (m.p.ownK m.regions.l.length)) (Ys (Yz (m.p.ownK m.regions.l.length)) (m.p.ownK m.regions.l.length).length)),(.mapv (Y2 (m.p.pntK m.verts.l.length)) (Ys (Yz (m.p.pntK m.verts.l.length)) (m.p.pntK m.verts.l.length).length))])]) ?_ ?_) ?_
 simp -implicitDefEqProofs only[go_sem,seval];exact⟨Fz.same _,Fz.same _,Fz.same _⟩;simp only[Zy,Z2,and_true];exact⟨FzO.keep rfl zp,FzO.of (cs:=[.msl 130 q 0 m.verts.l.length 7,.msl 134 A 0 m.regions.l.length 1,(.mapv (Y2 (m.p.ownK m.regions.l.length)) (Ys (Yz (m.p.ownK m.regions.l.length)) (m.p.ownK m.regions.l.length).length)),(.mapv (Y2 (m.p.pntK m.verts.l.length)) (Ys (Yz (m.p.pntK m.verts.l.length)) (m.p.pntK m.verts.l.length).length))]) rfl zp ⟨Fz.same _,Fz.rows rfl zp,Fz.same _,Fz.same _,trivial⟩⟩;refine Zf (zi E Zd) ?_
 have eC:W5 f m.verts.l.length=W5 (f3 m.p 0) m.verts.l.length:=Ln λj U=>by rw[hR j U,if_pos U];rfl
 rw[eC]
 refine Yf m.verts.l.length (λi (_:Unit)=>st [(1,.view .new (Zv c d m)),(7,.view .new (.ptr 138 x 0)),(162,.msl 130 q 0 m.verts.l.length 7),(163,.int .i64 m.verts.l.length),(164,.int .i64 i)] [(130,.cells .new q 0 (W5 (f3 m.p i) m.verts.l.length)),(138,.cells .new x 0 [.msl 130 q 0 m.verts.l.length 7,(.slice .new false 1 (Ys (m.p.kidL m.verts.l.length) m.regions.l.length)),(.mapv (Y2 (m.p.ownK m.regions.l.length)) (Ys (Yz (m.p.ownK m.regions.l.length)) (m.p.ownK m.regions.l.length).length)),(.mapv (Y2 (m.p.pntK m.verts.l.length)) (Ys (Yz (m.p.pntK m.verts.l.length)) (m.p.pntK m.verts.l.length).length))])])
  (λ_ _=>True) 0 () (Nat.zero_le _) trivial (Weak.st (by rw[Zd];exact zp) zp) ?_
 intro i _ hi _ L3 hL3
 by_cases y:i<m.verts.l.length
 have E:decide ((i:Int)<(m.verts.l.length:Int))=true:=zT;refine Zf E ?_;intro g13;refine Zs ?_;refine Z4 ?_;refine Zp ⟨λ_=>.top,λi=>if i=9 then .any else .pure⟩ zk hG zk zk ?_;have l0:(W5 (f3 m.p i) m.verts.l.length)[i*7]?=some (.int .i64 (m.p.around i)):=Kv (j:=0) y zd rfl;have k0:i*7+1<=m.verts.l.length*7:=zo;have k1:i*7<m.verts.l.length*7:=zo;simp -implicitDefEqProofs only[go_sem,seval,y,U4,l0,k0,k1,@Int.natCast_nonneg,@Int.ofNat_lt];refine CallA.inl [(52,.dead),(53,.dead)] zk ?_ ((Kg G (.ptr 138 x 0) _).mono ?_);intro p hp;simp only[List.mem_cons,List.not_mem_nil,or_false]at hp
 rcases hp with rfl|rfl<;>rfl
 rintro w H' ⟨g2,g3',rfl,e2,e3⟩;simp -implicitDefEqProofs only[go_sem,seval,Z6,e2,e3];refine AW.block ?_;have har:m.p.around i<m.p.vertices.length:=a.ar1 (Int.natCast_nonneg i) (by rw[m.nv];omega)
 refine Pt 50 100 290 150 (λn:Nat=>Z6 Zi [(113,.cells .new g13 0 [.int .i64 i]),(130,.cells .new q 0 (W5 (Z3 (f3 m.p i) i (plB m.p n i)) m.verts.l.length)),(138,.cells .new x 0 [.msl 130 q 0 m.verts.l.length 7,(.slice .new false 1 (Ys (m.p.kidL m.verts.l.length) m.regions.l.length)),(.mapv (Y2 (m.p.ownK m.regions.l.length)) (Ys (Yz (m.p.ownK m.regions.l.length)) (m.p.ownK m.regions.l.length).length)),(.mapv (Y2 (m.p.pntK m.verts.l.length)) (Ys (Yz (m.p.pntK m.verts.l.length)) (m.p.pntK m.verts.l.length).length))])]) (λc _=>c+1) (λ_=>none) (λn _=>n<66) 0 rfl
  (λl r'=>Z33 G hG m.p a x q (.slice .new false 1 (Ys (m.p.kidL m.verts.l.length) m.regions.l.length)) (.mapv (Y2 (m.p.ownK m.regions.l.length)) (Ys (Yz (m.p.ownK m.regions.l.length)) (m.p.ownK m.regions.l.length).length)) (.mapv (Y2 (m.p.pntK m.verts.l.length)) (Ys (Yz (m.p.pntK m.verts.l.length)) (m.p.pntK m.verts.l.length).length)) _ har g2 g3' _ zp zp) ?_ (Zqh _ 0 (by rw[Nat.zero_add];exact Z65 ..)) ?_ ?_ (hPp:=?_)
 simp -implicitDefEqProofs only[go_sem,seval];rw[Yq (f3 m.p i) i (plB m.p 0 i) (by rw[f3,if_neg (Nat.lt_irrefl _)]),Px];exact Yq _ _ _ rfl;rintro l Y n k hr hn66 _;refine Zs ?_;refine AW.skip ?_;refine Zs ?_;intro Z _;have l2:(W5 (Z3 (f3 m.p i) i (plB m.p n i)) m.verts.l.length)[i*7+2]?=some (.int .i64 n):=Kv (j:=2) y zd (by rw[Ye];rfl);have s2:(W5 (Z3 (f3 m.p i) i (plB m.p n i)) m.verts.l.length).set (i*7+2) (.int .i64 ((n:Int)+1))=_:=Tv (j:=2) (plB m.p ((n:Int)+1) i) y zd (by rw[Ye];rfl);rw[Px]at s2;have w1:IntKind.i64.wrap ((n:Int)+1)=(n:Int)+1:=W0 zo zo;have k2:i*7+2+1<=m.verts.l.length*7:=zo;have k3:i*7+2<m.verts.l.length*7:=zo;refine Ha (zi y (zi U4 (zi l2 (zi s2 (zi w1 (zi k2 (zi k3 (zi @Int.natCast_nonneg @Int.ofNat_lt)))))))) hG ?_;refine(Yq _ 290 AObj.dead rfl).trans ?_
 funext o
 by_cases e1:o=130
 subst e1;rfl
 by_cases e2:o=113
 subst e2;rfl;simp only[Z3,if_neg e1,if_neg e2];rintro H2 sf hs h2 h3;refine AW.weak (Weak.rng (l:=[(1,.view .new (Zv c d m)),(7,.view .new (.ptr 138 x 0)),(162,.msl 130 q 0 m.verts.l.length 7),(163,.int .i64 m.verts.l.length),(164,.int .i64 i)]) h2 zp) ?_;rw[B8,Nat.zero_add]at hs
 have hs2:(sf:Int)=dpI m.p i:=by rw[hs];rfl
 rw[hs2,Zr5];have w1:IntKind.i64.wrap ((i:Int)+1)=(i:Int)+1:=W0 zo zo;refine Zf w1 ?_;exact hL3 _ ⟨y,(),trivial,Weak.st zp zp⟩;intro n H hH;have h138:H 138=_:=(congrFun hH 138);have h130:H 130=_:=(congrFun hH 130);refine⟨(List.range m.verts.l.length).map (Z3 (f3 m.p i) i (plB m.p n i)),by rw[List.length_map,List.length_range,m.nv],λj p hp=>?_,?_,?_⟩
 .rw[List.getElem?_map]at hp
  cases hq:(List.range m.verts.l.length)[j]? with
  |none=>rw[hq]at hp;cases hp
  |some j'=>
   obtain⟨hj1,hj2⟩:=List.getElem?_eq_some_iff.1 hq;rw[List.getElem_range]at hj2;subst hj2;rw[hq]at hp;cases hp
   by_cases e:j=i
   subst e;rw[Ye];rfl;rw[Zk _ _ e];rfl
 rw[List.length_map,List.length_range];exact h138;exact h130;have hie:i=m.verts.l.length:=zo;have E:decide ((m.verts.l.length:Int)<(m.verts.l.length:Int))=false:=zF;subst hie;refine Zf (zi E Zd) ?_
 have eC:W5 (f3 m.p m.verts.l.length) m.verts.l.length=W5 (f4 m.p (λ_=>0) (λ_=>0) 0) m.verts.l.length:=Ln λj U=>by rw[f3,if_pos U];rfl
 rw[eC];have hnw:=hb.nw
 refine Yf m.ways.l.length (λt (z:(Nat->Nat)×(Nat->Nat))=>⟨Z6 emp [(1,.view .new (Zv c d m)),(7,.view .new (.ptr 138 x 0)),(191,Za c 8 (Xp d) m.ways),(192,.int .i64 m.ways.l.length),(193,.int .i64 t)],Z6 (Wh 4000000 z.1 (λj=>m.p.wysI j false t) (Wh 5000000 z.2 (λj=>m.p.wysI j true t) Zi)) [(130,.cells .new q 0 (W5 (f4 m.p z.1 z.2 t) m.verts.l.length)),(138,.cells .new x 0 [.msl 130 q 0 m.verts.l.length 7,(.slice .new false 1 (Ys (m.p.kidL m.verts.l.length) m.regions.l.length)),(.mapv (Y2 (m.p.ownK m.regions.l.length)) (Ys (Yz (m.p.ownK m.regions.l.length)) (m.p.ownK m.regions.l.length).length)),(.mapv (Y2 (m.p.pntK m.verts.l.length)) (Ys (Yz (m.p.pntK m.verts.l.length)) (m.p.pntK m.verts.l.length).length))])]⟩)
  (λ_ _=>True) 0 (λ_=>0,λ_=>0) (Nat.zero_le _) trivial (S7 (by rw[Zd];exact zp) zp ?_) ?_
 intro o;refine .inl ?_
 show Wh _ _ _ _ o=_
 unfold Wh
 split
 rfl
 split<;>rfl
 rintro t ⟨gO,gI⟩ ht _ L4 hL4
 by_cases ht1:t<m.ways.l.length
 .have E:decide ((t:Int)<(m.ways.l.length:Int))=true:=zT
  have hg:=List.getElem?_eq_getElem ht1;generalize m.ways.l[t]=wy at hg;have hwy:=Mw hg;refine Zf (zi E (zi hg (zi ht1 (zi Z8 (zi @Int.natCast_nonneg @Int.ofNat_lt))))) ?_;intro g15;refine AW.weak (Ao (λo=>o==115) (B:=(Wh 4000000 gO (λj=>m.p.wysI j false t) (Wh 5000000 gI (λj=>m.p.wysI j true t) Zi))) (l:=[(14,.int .i64 t),(1,.view .new (Zv c d m)),(7,.view .new (.ptr 138 x 0)),(191,Za c 8 (Xp d) m.ways),(192,.int .i64 m.ways.l.length),(193,.int .i64 t),(15,.view .new (Xp d wy))]) (m:=[(130,.cells .new q 0 (W5 (f4 m.p gO gI t) m.verts.l.length)),(138,.cells .new x 0 [.msl 130 q 0 m.verts.l.length 7,(.slice .new false 1 (Ys (m.p.kidL m.verts.l.length) m.regions.l.length)),(.mapv (Y2 (m.p.ownK m.regions.l.length)) (Ys (Yz (m.p.ownK m.regions.l.length)) (m.p.ownK m.regions.l.length).length)),(.mapv (Y2 (m.p.pntK m.verts.l.length)) (Ys (Yz (m.p.pntK m.verts.l.length)) (m.p.pntK m.verts.l.length).length))])]) ?_ ?_ λo=>?_) ?_;simp -implicitDefEqProofs only[go_sem,seval];exact⟨Fz.same _,Fz.same _,Fz.same _,Fz.same _,Fz.same _,Fz.same _,Fz.ptr (v:=Xp d wy) (c:=.new) (fz:=0) rfl zp⟩;simp only[Zy,Z2,and_true];exact⟨FzO.keep rfl zp,FzO.keep rfl zp⟩;exact Ce (lo:=4000000) (((Lows.none 4000000).fam zd).fam zd) (λo ho=>beq_false_of_ne (show o≠115 by omega)) (m:=(115,_)::(115,_)::[(130,.cells .new q 0 (W5 (f4 m.p gO gI t) m.verts.l.length)),(138,.cells .new x 0 [.msl 130 q 0 m.verts.l.length 7,(.slice .new false 1 (Ys (m.p.kidL m.verts.l.length) m.regions.l.length)),(.mapv (Y2 (m.p.ownK m.regions.l.length)) (Ys (Yz (m.p.ownK m.regions.l.length)) (m.p.ownK m.regions.l.length).length)),(.mapv (Y2 (m.p.pntK m.verts.l.length)) (Ys (Yz (m.p.pntK m.verts.l.length)) (m.p.pntK m.verts.l.length).length))])]) rfl o
  have hwb:=rtA.way t (by rw[m.nw];exact ht1);rw[hwy]at hwb;simp only[PM.wayB,PM.inV,Bool.and_eq_true,decide_eq_true_eq]at hwb;obtain⟨hs0,hs1⟩:0<=wy.source/\wy.source<m.p.vertices.length:=hwb.1.1.1.1.1.1.1.1.1.2;obtain⟨he0,he1⟩:0<=wy.target/\wy.target<m.p.vertices.length:=hwb.1.1.1.1.1.1.1.1.2;obtain⟨Q,va,hae,hak,_,_⟩:=MdM.at hs0 hs1;obtain⟨P,ve,hee,hek,_,_⟩:=MdM.at he0 he1;have f0:=zi hae (zi hee (zi hak (zi hek (zi Z8 (zi @Int.natCast_nonneg @Int.ofNat_lt)))));refine Ha f0 hG ?_
  refine Zhs (.fork 8 12 (.fork 8 14 (.ord [0,1,2,3,4,6,9,10,11,13,5,7,8,12,14,15,16,17,18,19,20,21]) (.ord [0,1,2,3,4,6,9,10,11,13,5,7,14,8,12,15,16,17,18,19,20,21])) (.fork 8 14 (.ord [0,1,2,3,4,6,9,10,11,13,5,12,7,8,14,15,16,17,18,19,20,21]) (.ord [0,1,2,3,4,6,9,10,11,13,5,12,7,14,8,15,16,17,18,19,20,21])))
   [] ⟨λ_=>.top,λ_=>.pure⟩ zk hG zk zk ?_
  have lo5:(W5 (f4 m.p gO gI t) m.verts.l.length)[Q*7+5]?=some (Ts 4000000 gO (λj=>m.p.wysI j false t) Q):=Kv (j:=5) hak zd rfl;have lo6:(W5 (f4 m.p gO gI t) m.verts.l.length)[P*7+6]?=some (Ts 5000000 gI (λj=>m.p.wysI j true t) P):=Kv (j:=6) hek zd rfl;simp only[Zkm];have hw1:=PM.wysI_len (m:=m.p) (Q:Int) false t;have hw2:=PM.wysI_len (m:=m.p) (P:Int) true t;have k5:Q*7+5+1<=m.verts.l.length*7:=zo;have k6:P*7+6+1<=m.verts.l.length*7:=zo;have k5':Q*7+5<m.verts.l.length*7:=zo;have k6':P*7+6<m.verts.l.length*7:=zo;refine⟨⟨?_,?_⟩,?_,?_⟩
  all_goals
   simp -implicitDefEqProofs only[go_sem,seval,lo5,lo6,U4,k5,k6,k5',k6']
   repeat refine⟨rfl,λ_=>?_⟩
   refine Qd (f:=V.int .i64) (o:=4000000+Q) (g:=gO Q) (l:=m.p.wysI Q false t) (l2:=[(t:Int)]) (λ_=>rfl) rfl rfl rfl ?_ (Yg zo zO) λo2 g2 I=>?_
   (repeat rw[Zk _ _ zo])
   exact T4 zo;have I:o2=4000000+Q\/o2=320:=I;have S:(130=o2)=False:=eq_false zo;have n326:(326=o2)=False:=eq_false zo;simp -implicitDefEqProofs only[go_sem,seval,lo5,lo6,U4,k5,k6,k5',k6',S,n326]
   repeat refine⟨rfl,λ_=>?_⟩
   refine Qd (f:=V.int .i64) (o:=5000000+P) (g:=gI P) (l:=m.p.wysI P true t) (l2:=[(t:Int)]) (λ_=>rfl) rfl rfl rfl ?_ (Yg zo zO) λo3 g3 ho3=>?_
   (repeat rw[Zk _ _ zo])
   rw[Uv zo];exact T4 zo;have ho3:o3=5000000+P\/o3=327:=ho3;have n130':(130=o3)=False:=eq_false zo;simp -implicitDefEqProofs only[go_sem,seval,lo5,lo6,U4,k5,k6,k5',k6',S,n130',List.length_set];have m1:(o2=130)=False:=eq_false zo;have m2:(o2=o3)=False:=eq_false zo;have m3:(o2=326)=False:=eq_false zo;have m4:(o3=130)=False:=eq_false zo
   refine Zgs (gO:=gO) (gI:=gI) (lO:=λj=>m.p.wysI j false t) (lI:=λj=>m.p.wysI j true t) [(130,.cells .new q 0 (W5 (f4 m.p gO gI t) m.verts.l.length)),(138,.cells .new x 0 [.msl 130 q 0 m.verts.l.length 7,(.slice .new false 1 (Ys (m.p.kidL m.verts.l.length) m.regions.l.length)),(.mapv (Y2 (m.p.ownK m.regions.l.length)) (Ys (Yz (m.p.ownK m.regions.l.length)) (m.p.ownK m.regions.l.length).length)),(.mapv (Y2 (m.p.pntK m.verts.l.length)) (Ys (Yz (m.p.pntK m.verts.l.length)) (m.p.pntK m.verts.l.length).length))])] [(1,.view .new (Zv c d m)),(7,.view .new (.ptr 138 x 0)),(191,Za c 8 (Xp d) m.ways),(192,.int .i64 m.ways.l.length),(193,.int .i64 t)] 130 320 327 Q P (λu v=>.cells .new q 0 (((W5 (f4 m.p gO gI t) m.verts.l.length).set (Q*7+5) u).set (P*7+6) v)) (o2:=o2) (g2:=g2) (o3:=o3) (g3:=g3) (r:=m.p.wysI Q false t++[(t:Int)]) (r':=m.p.wysI P true t++[(t:Int)]) zS zS I ho3 zo zo
    (λv a g b k=>Ze6 (Rn.row a g b k zS)) (λu a g b k=>RnX.cl (Rn.row a g b k zS)) (by simp -implicitDefEqProofs only[go_sem,seval,m1,m2,m3]) (by simp -implicitDefEqProofs only[go_sem,seval,m4]) (zp) (λo q1 q2 q3 q4 q5=>?_) (by rw[Zd];exact zp) λt1 t2=>?_
   by_cases z1:o=319
   subst z1;exact .inl rfl
   by_cases z2:o=326
   subst z2;exact .inl rfl;have z3:o≠o2:=zo;have z4:o≠o3:=zo
   right
   simp only[Wb,Fp,Z3,if_neg q1,if_neg z1,if_neg z2,if_neg z3,if_neg z4]
   have hsr:(m.p.wy (t:Int)).source=(Q:Int):=by rw[hwy];exact hae
   have htr:(m.p.wy (t:Int)).target=(P:Int):=by rw[hwy];exact hee
   have w1:IntKind.i64.wrap ((t:Int)+1)=(t:Int)+1:=W0 zo zo;rw[Z9u m.p gO gI t m.verts.l.length Q P t1 t2 hak hek hsr htr];refine Zf w1 ?_;refine hL4 _ ⟨ht1,(Z3 gO Q t1,Z3 gI P t2),trivial,S7 (by rw[Zd];exact zp) zp λo=>?_⟩
   dsimp only
   rw[PM.outs_next hsr,PM.intos_next htr];exact Lows.base (lo:=4000000) (((Lows.none 4000000).fam zd).fam zd) (m:=(130,_)::(327,.dead)::(320,.dead)::[(130,.cells .new q 0 (W5 (f4 m.p gO gI t) m.verts.l.length)),(138,.cells .new x 0 [.msl 130 q 0 m.verts.l.length 7,(.slice .new false 1 (Ys (m.p.kidL m.verts.l.length) m.regions.l.length)),(.mapv (Y2 (m.p.ownK m.regions.l.length)) (Ys (Yz (m.p.ownK m.regions.l.length)) (m.p.ownK m.regions.l.length).length)),(.mapv (Y2 (m.p.pntK m.verts.l.length)) (Ys (Yz (m.p.pntK m.verts.l.length)) (m.p.pntK m.verts.l.length).length))])]) rfl o
 have hte:t=m.ways.l.length:=zo;have E:decide ((m.ways.l.length:Int)<(m.ways.l.length:Int))=false:=zF;rw[hte];refine AW.weak (Zw (λo=>Nat.ble 4000000 o) (l:=[(1,.view .new (Zv c d m)),(7,.view .new (.ptr 138 x 0)),(192,.int .i64 m.ways.l.length),(193,.int .i64 m.ways.l.length)]) (m:=[(130,.cells .new q 0 (flat ((List.range m.verts.l.length).map λj=>Np .new (plF m.p j)))),(138,.cells .new x 0 [.msl 130 q 0 m.verts.l.length 7,(.slice .new false 1 (Ys (m.p.kidL m.verts.l.length) m.regions.l.length)),(.mapv (Y2 (m.p.ownK m.regions.l.length)) (Ys (Yz (m.p.ownK m.regions.l.length)) (m.p.ownK m.regions.l.length).length)),(.mapv (Y2 (m.p.pntK m.verts.l.length)) (Ys (Yz (m.p.pntK m.verts.l.length)) (m.p.pntK m.verts.l.length).length))])]) ?_ ?_) ?_;simp -implicitDefEqProofs only[go_sem,seval];exact⟨Fz.same _,Fz.same _,Fz.same _⟩;simp only[Zy,Z2,and_true];refine⟨FzO.of (cs:=W5 (f4 m.p gO gI m.ways.l.length) m.verts.l.length) rfl rfl ?_,FzO.keep rfl zp⟩;unfold W5;rw[List.map_map];refine FzL.flat λj U=>?_;have U:=List.mem_range.1 U;refine⟨Fz.same _,Fz.same _,Fz.same _,Fz.same _,Fz.same _,?_,?_,trivial⟩
 show Fz _ _ (grown (4000000+j) (gO j) 1 (m.p.wysI j false m.ways.l.length)) (Za .new 1 (V.int .i64) (Zb (m.p.wysI j false m.p.ways.length)))
 rw[m.nw];exact W7 (f:=V.int .i64) (Nat.ble_eq_true_of_le zo) ((U9 (lo:=4000000) rfl zo).trans (T4 zo)) λ_=>rfl
 show Fz _ _ (grown (5000000+j) (gI j) 1 (m.p.wysI j true m.ways.l.length)) (Za .new 1 (V.int .i64) (Zb (m.p.wysI j true m.p.ways.length)))
 rw[m.nw];exact W7 (f:=V.int .i64) (Nat.ble_eq_true_of_le zo) ((U9 (lo:=4000000) rfl zo).trans ((Uv zo).trans (T4 zo))) λ_=>rfl;refine AW.weak (Zw (λo=>o==130) (l:=[(1,.view .new (Zv c d m)),(7,.view .new (.ptr 138 x 0)),(192,.int .i64 m.ways.l.length),(193,.int .i64 m.ways.l.length)]) (m:=[(138,.cells .new x 0 [Za .new 7 (Np .new) (Sc m.p).places,(Sc m.p).kids,(Sc m.p).owned,(Sc m.p).points])]) ?_ ?_) ?_;simp -implicitDefEqProofs only[go_sem,seval];exact⟨Fz.same _,Fz.same _,Fz.same _⟩;simp only[Zy,Z2,and_true];refine FzO.of (cs:=[.msl 130 q 0 m.verts.l.length 7,(.slice .new false 1 (Ys (m.p.kidL m.verts.l.length) m.regions.l.length)),(.mapv (Y2 (m.p.ownK m.regions.l.length)) (Ys (Yz (m.p.ownK m.regions.l.length)) (m.p.ownK m.regions.l.length).length)),(.mapv (Y2 (m.p.pntK m.verts.l.length)) (Ys (Yz (m.p.pntK m.verts.l.length)) (m.p.pntK m.verts.l.length).length))]) rfl zp ⟨?_,?_,?_,?_,trivial⟩;have:=Xm (F:=λo=>o==130) (H:=Z6 Zi [(130,AObj.cells .new q 0 (flat ((List.range m.verts.l.length).map λj=>Np .new (plF m.p j)))),(138,.cells .new x 0 [.msl 130 q 0 m.verts.l.length 7,(.slice .new false 1 (Ys (m.p.kidL m.verts.l.length) m.regions.l.length)),(.mapv (Y2 (m.p.ownK m.regions.l.length)) (Ys (Yz (m.p.ownK m.regions.l.length)) (m.p.ownK m.regions.l.length).length)),(.mapv (Y2 (m.p.pntK m.verts.l.length)) (Ys (Yz (m.p.pntK m.verts.l.length)) (m.p.pntK m.verts.l.length).length))])]) (o:=130) (g:=q) (m:=7) (fz:=0) (c:=.new) (f:=Np .new) (l:=(List.range m.verts.l.length).map (plF m.p)) rfl (by rw[List.map_map];rfl) (Z24 .new)
 rw[List.length_map,List.length_range]at this;unfold Sc;rw[m.nv];exact this;unfold Sc;rw[m.nv];exact Fz.same _;exact Fz.same _;unfold Sc;rw[m.nv];exact Fz.same _;refine Xc E ?_;refine Xc E ?_;refine AW.weak (Zw (λo=>o==138) (l:=[(2,Mz .new .new .new (Sc m.p)),(3,.int .i64 0)]) (m:=[]) ?_ trivial) ?_;simp -implicitDefEqProofs only[go_sem,seval];exact⟨Fz.ptr (v:=.agg [Za .new 7 (Np .new) (Sc m.p).places,(Sc m.p).kids,(Sc m.p).owned,(Sc m.p).points]) (c:=.new) (fz:=0) rfl zp,Fz.same _⟩;exact Zr
end Go.Hs
end

section
namespace Go.Hs
open Go.Proofs
set_option maxHeartbeats 1000000
set_option maxRecDepth 10000
theorem Fs:∀ (l acc:List Int) (r:Int),Rg acc (l++[r])=if 0<=r/\(Rg acc l).contains r=false then Rg acc l++[r]else Rg acc l
 |[],acc,r=>rfl
 |x::t,acc,r=>by
  rw[List.cons_append,Rg,Rg];exact Fs t _ r
theorem inIm(x:Int):∀ y∈(V.int .i64 x).cells,y.Im:=λy a=>by
 simp only[V.cells,List.mem_cons,List.not_mem_nil,or_false]at a;rw[a];exact .int _ _
theorem Lv(G:Nat->V)(A:Y6 G)(b c d e M:Col)(m:MdM)(E vs:Sl (List UInt8))(J:m.p.Rt)(l:Sl Int)(hl:l.l≠[])(hll:l.l.length<1000000)(hr:∀ v∈l.l,0<=v/\v<m.p.vertices.length):
  Spec Tryz.prog G 171 [Vm b c d e m E vs,Za M 1 (V.int .i64) l] Zi (λw _=>w=.bool (m.p.partU l.l)):=by
 refine Zo 0 48 [.tmp 4] Tryz.func171 λX=>?_;have B:0<l.l.length:=List.length_pos_iff.2 hl;have C:=List.getElem?_eq_getElem B
 have T:l.l.headD 0=l.l[0]:=by rw[List.headD_eq_head?_getD,List.head?_eq_getElem?,C]<;>rfl
 obtain⟨P,O⟩:=hr l.l[0] (List.getElem_mem B);rw[PM.partU,T];generalize l.l[0]=v at C P O;refine Zf (zi C B) ?_;refine Zc A ?_ (s:=Vv G A _ _ _ _ m E vs J.toRt5 v P O);refine Z ?_;refine Vz (fun(w:Int)=>st [(0,Vm b c d e m E vs),(1,Za M 1 (V.int .i64) l),(5,.int .i64 (m.p.around w))] []) (λw=>0<=w/\w<m.p.vertices.length/\(m.p.ups v).any (λs=>Pn [] (l.l.map (m.p.regU · s)))=(m.p.ups w).any λs=>Pn [] (l.l.map (m.p.regU · s))) (λw=>(m.p.ups w).length) v ⟨P,O,rfl⟩ (Weak.st zp zp) ?_;rintro w ⟨w0,w1,o⟩ L7 U
 by_cases K:0<=m.p.around w
 rotate_left;have R:decide (m.p.around w>=0)=false:=zF;rw[o,PM.Acy.ups_nil zo];exact Zq R;have R:decide (m.p.around w>=0)=true:=zT
 have D:m.p.around w<m.p.vertices.length:=by
  rcases J.acy.rng w w0 w1 with q|q
  omega;exact q.2
 have F:=J.acy.ups_cons w0 w1 K;have y:=congrArg List.length F;rw[List.length_cons]at y;rw[F,List.any_cons]at o;refine Zf R ?_;generalize hae:m.p.around w=a at K D o y
 refine Yf l.l.length (λk (g:Nat)=>st [(0,Vm b c d e m E vs),(1,Za M 1 (V.int .i64) l),(5,.int .i64 a),(6,grown 41 g 1 (Rg [] ((l.l.take k).map (m.p.regU · a)))),(20,Za M 1 (V.int .i64) l),(21,.int .i64 l.l.length),(22,.int .i64 k)] [(41,Yb g (V.int .i64) (Rg [] ((l.l.take k).map (m.p.regU · a))))])
  (λ_ _=>True) 0 0 (Nat.zero_le _) trivial (Weak.st zp zp) ?_
 intro k g hk _ L3 i
 by_cases n:k<l.l.length
 .have u:decide ((k:Int)<(l.l.length:Int))=true:=zT
  have hg:=List.getElem?_eq_getElem n
  have H:l.l.take (k+1)=l.l.take k++[l.l[k]]:=by rw[List.take_succ_eq_append_getElem n]
  obtain⟨Y,W⟩:=hr l.l[k] (List.getElem_mem n);have t:=Ft ((l.l.take k).map (m.p.regU · a)) [];rw[List.length_map,List.length_take]at t;generalize l.l[k]=x at hg H Y W;have N:IntKind.i64.wrap ((k:Int)+1)=(k:Int)+1:=W0 zo zo;rw[H,List.map_append]at i;simp only[List.map_cons,List.map_nil,Fs]at i;generalize Rg [] ((l.l.take k).map (m.p.regU · a))=j at t i
  have t:j.length<=k:=by simp only[List.length_nil]at t;omega
  refine Zf (zi u hg) ?_;refine Zc A ?_ (s:=Jj G A _ _ _ _ m E vs J x a Y W K);generalize m.p.regU x a=r at i
  by_cases I:0<=r
  rotate_left;have Q:decide (r>=0)=false:=zF;rw[if_neg (λh=>I h.1)]at i;refine Zg (zi Q N) ?_;exact i _ ⟨n,g,trivial,Weak.st zp zp⟩;have Q:decide (r>=0)=true:=zT;refine Zg Q ?_;refine CallA.bor A [Za .old 1 (V.int .i64) (Zb j),.int .i64 r] zk ⟨N5 zp (λ_=>rfl) inIm (λ_=>rfl),Yv (.int _ _) rfl,trivial⟩ ?_;refine(Mr G A .old r (Zb j) (by rw[Zl];omega)).mono ?_;rintro _ _ rfl;rw[Zl];refine⟨.bool _,?_⟩;cases hc:j.contains r;rw[if_pos ⟨I,hc⟩]at i;refine Zs ?_;refine Z ?_;intro g40;refine X2 (f:=V.int .i64) (l:=j) (l2:=[r]) (g:=g) (λ_=>rfl) rfl rfl rfl zp (Yg zo zO) λg2=>?_;refine Zs ?_;refine Zf N ?_;exact i _ ⟨n,g2,trivial,Weak.st zp zp⟩;rw[if_neg (λh=>by rw[hc]at h;cases h.2)]at i;refine Zs ?_;refine Zf N ?_;exact i _ ⟨n,g,trivial,Weak.st zp zp⟩
 have S:k=l.l.length:=zo;subst S;rw[List.take_length];have u:decide ((l.l.length:Int)<(l.l.length:Int))=false:=zS;have z:=Br (l.l.map (m.p.regU · a)) [];rw[List.length_nil,Nat.zero_add,List.length_map]at z;rw[<- z]at o;generalize Rg [] (l.l.map (m.p.regU · a))=j at o
 have L:(((j.length:Nat):Int)==((l.l.length:Nat):Int))=decide (j.length=l.l.length):=by
  rw[Bool.eq_iff_iff,beq_iff_eq,decide_eq_true_eq];omega
 cases h:decide (j.length=l.l.length);rw[h]at L o;rw[Bool.false_or]at o;refine Zf (zi u L) ?_;refine Zc A ?_ (s:=Vv G A _ _ _ _ m E vs J.toRt5 a K D);refine Z ?_;exact U _ ⟨a,zo,⟨K,D,o⟩,Weak.st zp zp⟩;rw[h]at L o;rw[o,Bool.true_or];exact Zq (zi u L)
end Go.Hs
end

section
namespace Go.Hs
def sgT(op:Nat):List UInt8:=(tabL.getD op ⟨[],0,0⟩).text
def wNot:List UInt8:=[110,111,116]
def wTrue:List UInt8:=[116,114,117,101]
def wFalse:List UInt8:=[102,97,108,115,101]
inductive Gr:Int->List (List UInt8)->X->Prop where
 |num {n:Int} {t:List UInt8} {v:Int}:Rh t=1->Uj (Sv t)=(v,0)->Gr n [t] (.leaf 1 v [])
 |name {n:Int} {t:List UInt8}:Rh t=2->Gr n [t] (.leaf 2 0 t)
 |tr {n:Int}:Gr n [wTrue] (.leaf 3 0 [])
 |fa {n:Int}:Gr n [wFalse] (.leaf 4 0 [])
 |neg {n:Int} {ts:List (List UInt8)} {a:X}:n<=9->Gr 9 ts a->Gr n ([45]::ts) (.un 5 a)
 |not {n:Int} {ts:List (List UInt8)} {a:X}:n<=9->Gr 9 ts a->Gr n (wNot::ts) (.un 6 a)
 |par {n:Int} {ts:List (List UInt8)} {a:X}:Gr 1 ts a->Gr n ([40]::(ts++[[41]])) a
 |bin {n:Int} {op:Nat} {ta tb:List (List UInt8)} {a b:X}:7<=op->op<=21->n<=lvl op->Gr (lvl op) ta a->Gr (lvl op+1) tb b->Gr n (ta++sgT op::tb) (.bin op a b)
 |ite {n:Int} {ta tb tc:List (List UInt8)} {a b c:X}:Gr 1 ta a->Gr 1 tb b->Gr 1 tc c->Gr n (wIf::(ta++Bi::(tb++Bj::(tc++[Lf])))) (.ite a b c)
theorem Gr.mono{n m:Int}{a:List (List UInt8)}{x:X}(h:Gr n a x)(b:m<=n):Gr m a x:=by
 cases h with
 |num h1 h2=>exact .num h1 h2
 |name h1=>exact .name h1
 |tr=>exact .tr
 |fa=>exact .fa
 |neg h1 h2=>exact .neg (by omega) h2
 |not h1 h2=>exact .not (by omega) h2
 |par h1=>exact .par h1
 |bin h1 h2 h3 h4 h5=>exact .bin h1 h2 (by omega) h4 h5
 |ite h1 h2 h3=>exact .ite h1 h2 h3
theorem Gr.pos{n:Int}{a:List (List UInt8)}{x:X}(h:Gr n a x):0<a.length:=by
 cases h<;>simp<;>omega
def Zue(t:Tk):List UInt8:=if(Rh t.text:Int)=t.kind then t.text else[]
theorem Z84{l:List Tk}{i:Nat}{w:List UInt8}(h:(l.map Zue)[i]?=some w):(Ym l i).text=w/\(Ym l i).kind=Rh w:=by
 have b:=Ex l i
 have:(Ym l i).text=w:=by
  rw[List.getElem?_map]at h;unfold Ym
  cases a:l[i]? with
  |none=>rw[a]at h;cases h
  |some t=>
   rw[a]at h;simp only[Option.map_some,Option.some.injEq]at h;simp only;rw[<- h];unfold Zue
   split<;>rfl
 exact⟨this,by rw[<- b,this]⟩
theorem Zsv{l:List Tk}{i:Nat}(h:i<l.length):(l.map Zue)[i]?=some (Ym l i).text:=by
 have a:(l.map Zue)[i]?=some (Zue l[i]):=by rw[List.getElem?_map,List.getElem?_eq_getElem h];rfl
 rw[a,(Z84 a).1]
def Seg(l:List Tk)(i:Nat)(ts:List (List UInt8)):Prop:=∃ pre post,l.map Zue=pre++(ts++post)/\pre.length=i
theorem Seg.right{l:List Tk}{i:Nat}{a b:List (List UInt8)}(h:Seg l i (a++b)):Seg l (i+a.length) b:=by
 obtain⟨pre,c,e,d⟩:=h;exact⟨pre++a,c,by rw[e];simp,by simp[d]⟩
theorem Seg.le{l:List Tk}{i:Nat}{b:List (List UInt8)}(h:Seg l i b):i+b.length<=l.length:=by
 obtain⟨pre,a,e,c⟩:=h;have:=congrArg List.length e;simp only[List.length_map,List.length_append]at this;omega
theorem Seg.app{l:List Tk}{i:Nat}{a b:List (List UInt8)}(h:Seg l i a)(n:Seg l (i+a.length) b):Seg l i (a++b):=by
 obtain⟨pre,c,e,k⟩:=h;obtain⟨j,d,g,f⟩:=n;refine⟨pre,d,?_,k⟩;rw[e]at g
 have o:pre++(a++c)=(pre++a)++c:=by simp
 rw[o]at g;obtain⟨p,m⟩:=List.append_inj g (by simp[k,f]);rw[e,m];simp
theorem Seg.one{l:List Tk}{i:Nat}{w:List UInt8}(hi:i<l.length)(h:(Ym l i).text=w):Seg l i [w]:=by
 have a:=Zsv hi;rw[h]at a;obtain⟨c,b⟩:=List.getElem?_eq_some_iff.1 a;refine⟨(l.map Zue).take i,(l.map Zue).drop (i+1),?_,?_⟩;rw[<- b,List.singleton_append,<- List.drop_eq_getElem_cons c,List.take_append_drop];rw[List.length_take];omega
def after(r:RS)(k:Nat)(x:X):RS:=⟨r.i+k,r.nodes++x.row r.nodes.length,r.e⟩
theorem Zcv{t:List UInt8}(h:Rh t=1):0<=(Uj (Sv t)).1:=by
 have e:=(Zg5 h).2
 have a:(Sv t).all Y9=true/\Sv t≠[]:=by
  unfold Sv
  split
  exact⟨by decide,by simp⟩;rename_i i;refine⟨?_,i⟩;rw[List.all_eq_true]at e⊢;exact λx g=>e x ((List.dropWhile_sublist _).mem g)
 obtain⟨a,f⟩:=a;generalize Sv t=s at a f
 have b:(s.head? == some 45)=false:=by
  cases s with
  |nil=>exact absurd rfl f
  |cons c r=>
   rw[beq_eq_false_iff_ne];intro d
   have d:c=45:=by simpa using d
   subst d;rw[List.all_cons]at a
   revert a
   simp[Y9]
 unfold Uj;rw[b];simp only[Bool.false_eq_true,if_false,or_false]
 split
 exact Int.le_refl _;unfold Zju
 split
 exact Int.natCast_nonneg _;exact Int.le_refl _
theorem Gr.ok{n:Int}{b:List (List UInt8)}{x:X}(h:Gr n b x):x.ok=true:=by
 induction h with
 |@num n t v h1 h2=>
  have a:=Zcv h1;rw[h2]at a;have a:0<=v:=a
  have:Sd ⟨1,v,[],-1,-1,-1⟩=true:=by
   unfold Sd;rw[if_neg (by simp;omega),if_neg (by simp)];rfl
  simp only[X.ok,this,Bool.true_and];rfl
 |@name n t h1=>
  have:Sd ⟨2,0,t,-1,-1,-1⟩=true:=by
   unfold Sd;rw[if_neg (by simp),if_pos rfl,h1];rfl
  simp only[X.ok,this,Bool.true_and];rfl
 |tr=>rfl
 |fa=>rfl
 |neg _ _ ih=>simp only[X.ok,ih,Bool.and_true];rfl
 |not _ _ ih=>simp only[X.ok,ih,Bool.and_true];rfl
 |par _ ih=>exact ih
 |bin h1 h2 _ _ _ ih1 ih2=>
  simp only[X.ok,ih1,ih2,Bool.and_true,Bool.and_eq_true,decide_eq_true_eq];omega
 |ite _ _ _ i1 i2 i3=>simp only[X.ok,i1,i2,i3];rfl
end Go.Hs
end

section
namespace Go.Hs
open Go.Proofs
set_option maxRecDepth 10000
theorem wu8R{z:Int}(h:0<=z)(a:z<256):IntKind.u8.wrap z=z:=by
 unfold IntKind.wrap;simp[IntKind.signed,IntKind.bits];omega
def R7(c:Col)(s:ASt):V:=.agg [.int .u8 s.kind,.str s.name,Za c 6 Y4 (Zb s.x)]
theorem Mp(c:Col)(s:ASt):R7 c s=.agg [.int .u8 s.kind,.str s.name,Za c 6 Y4 (Zb s.x)]:=rfl
end Go.Hs
end
