/- A part. No condition. -/
import Derived.Test.YtoahejkahaimnaaGreatDoorP48
import Derived.Test.YtoahejkahaimnaaGreatDoorP49
set_option linter.all false
section
namespace Go.Hs
open Go.Proofs
set_option maxRecDepth 10000
set_option maxHeartbeats 4000000
def plZ(gO gI:Nat->Nat)(j:Nat):PlW:=⟨0,0,0,false,false,⟨4000000+j,gO j,[]⟩,⟨5000000+j,gI j,[]⟩⟩
def plX(a r:Int)(s p:Bool)(j:Nat):PlW:=⟨a,r,0,s,p,⟨4000000+j,0,[]⟩,⟨5000000+j,0,[]⟩⟩
def plB(m:PM)(d:Int)(j:Nat):PlW:=⟨m.around j,m.rgO j,d,m.kd j==1,decide (0<=(m.vx j).of),⟨4000000+j,0,[]⟩,⟨5000000+j,0,[]⟩⟩
def Z3e(f:Nat->PlW)(n:Nat):List V:=flat (((List.range n).map f).map Zmi)
theorem Zce(f:Nat->PlW)(n:Nat):(Z3e f n).length=n*7:=by rw[Z3e,Zjb Zyj,List.length_map,List.length_range]
theorem Z4ea{α : Type}(f:Nat -> α)(n i:Nat)(y : α):((List.range n).map f).set i y=(List.range n).map (upd f i y):=by
 apply List.ext_getElem;simp;intro j h1 h2;rw[List.getElem_set];simp only[List.getElem_map,List.getElem_range,upd]
 by_cases e:i=j
 subst e;simp;rw[if_neg e,if_neg (Ne.symm e)]
theorem Zfs{α : Type}(f:Nat -> α){n i:Nat}(h:i<n):((List.range n).map f)[i]?=some (f i):=by
 rw[List.getElem?_map,List.getElem?_range h]<;>rfl
theorem Zte{f:Nat->PlW}{n i j:Nat}{v:V}(y:PlW)(hi:i<n)(hj:j<7)(hy:(Zmi y).cells=(Zmi (f i)).cells.set j v):(Z3e f n).set (i*7+j) v=Z3e (upd f i y) n:=by
 rw[Z3e,Z5s Zyj hj (Zfs f hi) hy,Z4ea,Z3e]
theorem Zwn{f:Nat->PlW}{n i j:Nat}{v:V}(hi:i<n)(hj:j<7)(hy:(Zmi (f i)).cells[j]?=some v):(Z3e f n)[i*7+j]?=some v:=Z7s Zyj hj (Zfs f hi) hy
theorem Zsi{α : Type}(f:Nat -> α)(i:Nat)(x y : α):upd (upd f i x) i y=upd f i y:=by
 funext j
 simp only[upd]
 split<;>rfl
theorem Z1k{f f':Nat->PlW}{n:Nat}(h:∀ j,j<n->f j=f' j):Z3e f n=Z3e f' n:=by
 unfold Z3e;rw[List.map_congr_left λj hj=>h j (List.mem_range.1 hj)]
def dpI(m:PM)(j:Nat):Int:=((chL m (m.around j)).length:Nat)
def f3(m:PM)(i j:Nat):PlW:=plB m (if j<i then dpI m j else 0) j
theorem f3_succ(m:PM)(i:Nat):upd (f3 m i) i (plB m (dpI m i) i)=f3 m (i+1):=by
 funext j
 by_cases e:j=i
 subst e;rw[Z3,f3,if_pos (Nat.lt_succ_self _)];rw[Zi _ _ e,f3,f3]
 by_cases q:j<i
 rw[if_pos q,if_pos zo];rw[if_neg q,if_neg zo]
theorem Z06{κ : Type}{B:Nat}:∀ (xs:List κ) (n:Nat),n+xs.length<=B->Z0o (fun(s:Nat) (_ : κ)=>s<B/\(none:Option Code)=none) (λs _=>((none:Option Code).isNone,s+1)) n xs
 |[],_,_=>trivial
 |_::r,n,h=>⟨⟨by simp at h;omega,rfl⟩,λ_=>Z06 r (n+1) (by simp at h;omega)⟩
theorem Zmv{κ : Type}:∀ (xs:List κ) (n:Nat),(Zla (fun(s:Nat) (_ : κ)=>((none:Option Code).isNone,s+1)) n xs).2=n+xs.length
 |[],_=>rfl
 |_::r,n=>by
  show(Zla _ (n+1) r).2=_
  rw[Zmv r (n+1),List.length_cons];omega
theorem chL_len(m:PM)(v:Int):(chL m v).length<=66:=by
 have key:∀ (f:Nat) (v:Int),(m.upsF f v).length<=f:=by
  intro f
  induction f with
  |zero=>intro v;exact Nat.le_refl _
  |succ f ih=>
   intro v;rw[PM.upsF]
   split
   exact Nat.zero_le _;rw[List.length_cons];exact Nat.succ_le_succ (ih _)
 unfold chL
 split
 rw[List.length_cons];exact Nat.succ_le_succ (key 65 v);exact Nat.zero_le _
def f4(m:PM)(gO gI:Nat->Nat)(t j:Nat):PlW:=⟨m.around j,m.rgO j,dpI m j,m.kd j==1,decide (0<=(m.vx j).of),⟨4000000+j,gO j,m.wysI j false t⟩,⟨5000000+j,gI j,m.wysI j true t⟩⟩
theorem Z6ea(m:PM)(gO gI:Nat->Nat)(t n na ne t1 t2:Nat)(ha:na<n)(he:ne<n)(h1:(m.wy (t:Int)).source=(na:Int))(h2:(m.wy (t:Int)).target=(ne:Int)):
  ((Z3e (f4 m gO gI t) n).set (na*7+5) (grown (4000000+na) t1 1 (m.wysI na false t++[(t:Int)]))).set (ne*7+6) (grown (5000000+ne) t2 1 (m.wysI ne true t++[(t:Int)]))=Z3e (f4 m (upd gO na t1) (upd gI ne t2) (t+1)) n:=by
 rw[Zte (j:=5) (v:=grown (4000000+na) t1 1 (m.wysI na false t++[(t:Int)])) { f4 m gO gI t na with out:=⟨4000000+na,t1,m.wysI na false t++[(t:Int)]⟩ } ha zd rfl,
  Zte (j:=6) (v:=grown (5000000+ne) t2 1 (m.wysI ne true t++[(t:Int)])) { upd (f4 m gO gI t) na { f4 m gO gI t na with out:=⟨4000000+na,t1,m.wysI na false t++[(t:Int)]⟩ } ne with into:=⟨5000000+ne,t2,m.wysI ne true t++[(t:Int)]⟩ } he zd rfl]
 refine Z1k λj _=>?_;have eO:=congrFun (PM.outs_next (m:=m) h1) j;have eI:=congrFun (PM.intos_next (m:=m) h2) j;unfold f4;rw[eO,eI];simp only[upd]
 by_cases e1:j=ne
 subst e1
 by_cases e2:j=na
 subst e2;simp;simp[e2]
 by_cases e2:j=na
 subst e2;simp[e1];simp[e1,e2]
def plF(m:PM)(j:Nat):PlM:=⟨m.around j,m.rgO j,dpI m j,m.kd j==1,decide (0<=(m.vx j).of),Zb (m.outI j),Zb (m.intoI j)⟩
def Ztk(m:PM):IxM:=⟨.mk false ((List.range m.vertices.length).map (plF m)),.slice .new false 1 (Zpa (m.kidL m.vertices.length) m.regions.length),.mapv (Zhc (m.ownK m.regions.length)) (Zpa (Zcc (m.ownK m.regions.length)) (m.ownK m.regions.length).length),
 .mapv (Zhc (m.pntK m.vertices.length)) (Zpa (Zcc (m.pntK m.vertices.length)) (m.pntK m.vertices.length).length)⟩
theorem Z7k{m:PM}{i:Nat}{p:PlM}(h:(Ztk m).places.l[i]?=some p):p=plF m i:=by
 have h:((List.range m.vertices.length).map (plF m))[i]?=some p:=h;rw[List.getElem?_map]at h
 cases hq:(List.range m.vertices.length)[i]? with
 |none=>rw[hq]at h;cases h
 |some j=>
  obtain⟨_,hj⟩:=List.getElem?_eq_some_iff.1 hq;rw[List.getElem_range]at hj;subst hj;rw[hq]at h;cases h;rfl
theorem ixOf_p(m:PM):IxP m (Ztk m) where
 len:=by show((List.range m.vertices.length).map (plF m)).length=_;rw[List.length_map,List.length_range]
 par:=λi p h=>by rw[Z7k h]<;>rfl
 reg:=λi p h=>by rw[Z7k h]<;>rfl
 st:=λi p h=>by rw[Z7k h]<;>rfl
 pt:=λi p h=>by rw[Z7k h]<;>rfl
 out:=λi p h=>by rw[Z7k h];exact Zl _
 into:=λi p h=>by rw[Z7k h];exact Zl _
theorem repV_pl(gO gI:Nat->Nat):∀ n,Z7f n [.int .i64 0,.int .i64 0,.int .i64 0,.bool false,.bool false,.nils,.nils]=Z3e (plZ gO gI) n:=by
 intro n
 have key:∀ (k n:Nat),Z7f n [V.int .i64 0,.int .i64 0,.int .i64 0,.bool false,.bool false,.nils,.nils]=flat (((List.range' k n).map (plZ gO gI)).map Zmi):=by
  intro k n
  induction n generalizing k with
  |zero=>rfl
  |succ n ih=>
   rw[List.range'_succ,List.map_cons,List.map_cons]
   show _++Z7f n _=(Zmi _).cells++flat _
   rw[ih (k+1)]<;>rfl
 rw[key 0 n,Z3e,List.range_eq_range']
theorem Zxea(B:Nat)(g:Nat->Nat):∀ n,Z7f n [V.nils]=(List.range n).map (Zcj B g λ_=>[]):=by
 intro n
 have key:∀ (k n:Nat),Z7f n [V.nils]=(List.range' k n).map (Zcj B g λ_=>[]):=by
  intro k n
  induction n generalizing k with
  |zero=>rfl
  |succ n ih=>
   rw[List.range'_succ,List.map_cons]
   show[V.nils]++Z7f n _=_
   rw[ih (k+1)]<;>rfl
 rw[key 0 n,List.range_eq_range']
theorem Z15{f A Z:Nat->PlW}{i n:Nat}(hR:∀ j,j<n->f j=if j<i then A j else Z j):∀ j,j<n->upd f i (A i) j=if j<i+1 then A j else Z j:=by
 intro j hj
 by_cases e:j=i
 subst e;rw[Z3,if_pos (Nat.lt_succ_self _)];rw[Zi _ _ e,hR j hj]
 by_cases q:j<i
 rw[if_pos q,if_pos zo];rw[if_neg q,if_neg zo]
theorem Zg6(B:Nat)(g:Nat->Nat)(L:List (Int×List Int))(k:Int):Zam Tryz.prog 127 (.mapv (Zhc L) (Zto B g L)) (.int .i64 k) false=some (Zcj B g (Zcc L) (ixK L k)):=by
 unfold Zam;rw[Tryz.underlying127];simp only[Zdma,Tryz.underlying3,Zrv k L _ (Z6ma B g L)];rw[<- Z7ma]
 cases(Zto B g L)[ixK L k]? <;> rfl
theorem Zh8(l:Nat->List Int)(n:Nat):flat (Zpa l n)=Zpa l n:=by
 unfold Zpa
 induction List.range n with
 |nil=>rfl
 |cons x r ih=>
  rw[List.map_cons]
  show(Za Col.new 1 (V.int .i64) (Zb (l x))).cells++flat _=_
  rw[ih]
  cases l x<;>rfl
theorem Fz.rows{F:Nat->Bool}{H:Heap}{o g fz n:Nat}{c:Col}{l:Nat->List Int}(hF:F o=true)(hH:H o=.cells c g fz (Zpa l n)):Fz F H (.msl o g 0 n 1) (.slice c false 1 (Zpa l n)):=by
 have e:Zpa l n=(List.range n).map λj=>Za .new 1 (V.int .i64) (Zb (l j)):=rfl;have:=Z2b (F:=F) (H:=H) (o:=o) (g:=g) (m:=1) (fz:=fz) (c:=c) (f:=λj=>Za .new 1 (V.int .i64) (Zb (l j))) (l:=List.range n) hF (by rw[hH,<- e,Zh8]) (λj=>by cases l j<;>rfl);rw[List.length_range]at this;exact this
theorem Z7la(G:Nat->V)(hE:GExp G)(c d:Col)(m:MdM)(hb:MdB m)(a:m.p.Acy)(hr:m.p.rightP.2.2=0):
  Spec Tryz.prog G 27 [Z4 c d m] Zk (λw _=>w=.tuple [ixV .new .new .new (Ztk m.p),.int .i64 0]):=by
 have hG:=hE.ok;refine ZoM 100 234 [.tmp 2,.tmp 3] Tryz.func27 λX=>?_;simp only[Zj];refine Z ?_;intro g1;refine AW.weak (Zw (λo=>o==101) (l:=[(1,.view .new (Z4 c d m)),(2,.nilp),(3,.int .i64 0)]) (m:=[]) ?_ trivial) ?_;simp -implicitDefEqProofs only[go_sem,seval];exact⟨Fz.ptr (v:=Z4 c d m) (c:=.new) (fz:=0) zp (by rw[Zj];exact zp),Fz.same _,Fz.same _⟩;refine Zf Zj ?_;refine Zc hG ?_ (s:=Zsq G hE _ _ m hb);refine Zsf hr ?_;refine Zf hr ?_;have rtA:=PM.rt_of (PM.right_er.1 hr);have rt:=rtA.toRt5;refine ZTf Zj hG ?_;have hnx:=hb.nx;have hnr:=hb.nr;refine⟨⟨Int.le_refl _,zo,zo⟩,λgp=>⟨⟨Int.le_refl _,zo,zo⟩,λgk b1 b2 gx g7=>?_⟩⟩;rw[<- Zj];refine AW.weak (Zw (λo=>o==107) (l:=[(1,.view .new (Z4 c d m)),(7,.view .new (.ptr 138 gx 0))]) (m:=[(130,.cells .new gp 0 (Z7f m.verts.l.length [.int .i64 0,.int .i64 0,.int .i64 0,.bool false,.bool false,.nils,.nils])),(134,.cells .new gk 0 (Z7f m.regions.l.length [.nils])),(135,.mp X.w.heap.size b1 [] []),(136,.mp X.w.heap.size b2 [] []),(138,.cells .new gx 0 [.msl 130 gp 0 m.verts.l.length 7,.msl 134 gk 0 m.regions.l.length 1,.mref 135 b1,.mref 136 b2])]) ?_ ?_) ?_;simp -implicitDefEqProofs only[go_sem,seval];exact⟨Fz.same _,Fz.ptr (v:=.ptr 138 gx 0) (c:=.new) (fz:=0) zp zp⟩;simp only[Zv,Zy,and_true];exact⟨FzO.keep rfl zp,FzO.keep rfl zp,FzO.keep rfl zp,FzO.keep rfl zp,FzO.keep rfl zp⟩;refine Zf Zj ?_
 refine Zaa m.regions.l.length (λk (g:Nat->Nat)=>⟨Zfa emp [(1,.view .new (Z4 c d m)),(7,.view .new (.ptr 138 gx 0)),(40,Za c 2 Zua m.regions),(41,.int .i64 m.regions.l.length),(42,.int .i64 k)],Zfa (Ztd 1000000 g (Zcc (m.p.ownK k)) Zk) [(130,.cells .new gp 0 (Z7f m.verts.l.length [.int .i64 0,.int .i64 0,.int .i64 0,.bool false,.bool false,.nils,.nils])),(134,.cells .new gk 0 (Z7f m.regions.l.length [.nils])),(135,.mp X.w.heap.size b1 (Zhc (m.p.ownK k)) (Zto 1000000 g (m.p.ownK k))),(136,.mp X.w.heap.size b2 [] []),(138,.cells .new gx 0 [.msl 130 gp 0 m.verts.l.length 7,.msl 134 gk 0 m.regions.l.length 1,.mref 135 b1,.mref 136 b2])]⟩)
  (λ_ _=>True) 0 (λ_=>0) (Nat.zero_le _) trivial (Zuf (by rw[Zj];exact zp) zp ?_) ?_
 intro o;refine .inl ?_
 show Ztd _ _ _ _ o=_
 unfold Ztd
 split<;>rfl
 intro k g hk _ L hL
 by_cases hk1:k<m.regions.l.length
 have hlt:decide ((k:Int)<(m.regions.l.length:Int))=true:=zT;have hg:=List.getElem?_eq_getElem hk1;generalize m.regions.l[k]=rg at hg;have how:=Zqp hg;refine Zf (zi hlt (zi hg (zi hk1 (zi @Z3b (zi @Int.natCast_nonneg @Int.ofNat_lt))))) ?_;intro g9;refine Z2c [(127,.ptr 138 gx 2,.mref 135 b1),(3,.ptr 109 g9 1,.int .i64 rg.2)] ⟨λj=>if j=3 then .mref 135 b1 else if j=9 then .mref 135 b1 else .int .i64 rg.2,λj=>if j=0 then .lend else if j=6 then .lend else .keep⟩ zk hG zk zk ?_;simp -implicitDefEqProofs only[go_sem,seval,Zg6 1000000 g (m.p.ownK k) rg.2,@Int.natCast_nonneg,@Int.ofNat_lt,true_or,or_true,true_and];refine⟨rfl,λg61=>?_⟩;have hix:=Z7q (m.p.ownK k) rg.2;have hkl:=PM.ownK_len (m:=m.p) k;refine Zgg (f:=V.int .i64) (o:=1000000+ixK (m.p.ownK k) rg.2) (g:=g (ixK (m.p.ownK k) rg.2)) (l:=Zcc (m.p.ownK k) (ixK (m.p.ownK k) rg.2)) (l2:=[(k:Int)]) (λ_=>rfl) rfl rfl rfl ?_ ?_ λo2 g2 ho2=>?_
 (repeat rw[Zi _ _ zo])
 exact Z9e zo;have:=PM.ownK_row (m:=m.p) k (ixK (m.p.ownK k) rg.2);exact Z9 zo zO;have ho2:o2=1000000+ixK (m.p.ownK k) rg.2\/o2=162:=ho2;have n138:(138=o2)=False:=eq_false zo;have n109:(109=o2)=False:=eq_false zo;have n135:(135=o2)=False:=eq_false zo;have n2:(o2=135)=False:=eq_false zo;simp -implicitDefEqProofs only[go_sem,seval,Zah Tryz.underlying127 Tryz.underlying3,Z05 1000000 g (m.p.ownK k) rg.2 k,Zyn,Nat.le_refl,true_and,n138,n109,n135]
 refine Zdi [(1,.view .new (Z4 c d m)),(7,.view .new (.ptr 138 gx 0)),(40,Za c 2 Zua m.regions),(41,.int .i64 m.regions.l.length),(42,.int .i64 k)] (g:=g) (l:=Zcc (m.p.ownK k)) (H0:=Zk) (m:=[(130,.cells .new gp 0 (Z7f m.verts.l.length [.int .i64 0,.int .i64 0,.int .i64 0,.bool false,.bool false,.nils,.nils])),(134,.cells .new gk 0 (Z7f m.regions.l.length [.nils])),(135,.mp X.w.heap.size b1 (Zhc (m.p.ownK k)) (Zto 1000000 g (m.p.ownK k))),(136,.mp X.w.heap.size b2 [] []),(138,.cells .new gx 0 [.msl 130 gp 0 m.verts.l.length 7,.msl 134 gk 0 m.regions.l.length 1,.mref 135 b1,.mref 136 b2])]) 135 1000000 162 (ixK (m.p.ownK k) rg.2) (λu=>.mp X.w.heap.size b1 (Zhc (Zsk (m.p.ownK k) rg.2 k)) (Zuz 1000000 g (m.p.ownK k) rg.2 u)) (o2:=o2) (g2:=g2) (r:=Zcc (m.p.ownK k) (ixK (m.p.ownK k) rg.2)++[(k:Int)]) zS ho2 zo
  (λa t b s=>RnX.mp (Rn.row a t b s zS)) (by simp -implicitDefEqProofs only[go_sem,seval,n2]) (zp) (λo h1 h2 h3=>?_) zp λt=>?_
 by_cases e1:o=109
 subst e1;exact .inl rfl
 by_cases e2:o=161
 subst e2;exact .inl rfl
 right
 (repeat rw[Zi _ _ zo])
 rfl;have w1:IntKind.i64.wrap ((k:Int)+1)=(k:Int)+1:=w64 zo zo;refine Zf w1 ?_
 have eR:Zcc (m.p.ownK (k+1))=upd (Zcc (m.p.ownK k)) (ixK (m.p.ownK k) rg.2) (Zcc (m.p.ownK k) (ixK (m.p.ownK k) rg.2)++[(k:Int)]):=by
  rw[PM.ownK_succ,how];exact funext λj=>Zqj _ _ _ j
 have eM:=Zq5 1000000 g (m.p.ownK k) rg.2 k t
 have eS:Zsk (m.p.ownK k) rg.2 k=m.p.ownK (k+1):=by rw[PM.ownK_succ,how]
 rw[eS]at eM⊢;rw[eM,<- eR];refine hL _ ⟨hk1,upd g (ixK (m.p.ownK k) rg.2) t,trivial,Zuf zp zp λo=>?_⟩;exact Z5ma (m:=(135,_)::(162,.dead)::[(130,.cells .new gp 0 (Z7f m.verts.l.length [.int .i64 0,.int .i64 0,.int .i64 0,.bool false,.bool false,.nils,.nils])),(134,.cells .new gk 0 (Z7f m.regions.l.length [.nils])),(135,.mp X.w.heap.size b1 (Zhc (m.p.ownK k)) (Zto 1000000 g (m.p.ownK k))),(136,.mp X.w.heap.size b2 [] []),(138,.cells .new gx 0 [.msl 130 gp 0 m.verts.l.length 7,.msl 134 gk 0 m.regions.l.length 1,.mref 135 b1,.mref 136 b2])]) rfl o;have hke:k=m.regions.l.length:=zo;have hlt:decide ((m.regions.l.length:Int)<(m.regions.l.length:Int))=false:=zF;have hkl:=PM.ownK_len (m:=m.p) m.regions.l.length;rw[hke];refine AW.weak (Zw (λo=>Nat.ble 1000000 o) (l:=[(1,.view .new (Z4 c d m)),(7,.view .new (.ptr 138 gx 0)),(41,.int .i64 m.regions.l.length),(42,.int .i64 m.regions.l.length)]) (m:=[(130,.cells .new gp 0 (Z7f m.verts.l.length [.int .i64 0,.int .i64 0,.int .i64 0,.bool false,.bool false,.nils,.nils])),(134,.cells .new gk 0 (Z7f m.regions.l.length [.nils])),(135,.mp X.w.heap.size b1 (Zhc (m.p.ownK m.regions.l.length)) (Zpa (Zcc (m.p.ownK m.regions.l.length)) (m.p.ownK m.regions.l.length).length)),(136,.mp X.w.heap.size b2 [] []),(138,.cells .new gx 0 [.msl 130 gp 0 m.verts.l.length 7,.msl 134 gk 0 m.regions.l.length 1,.mref 135 b1,.mref 136 b2])]) ?_ ?_) ?_;simp -implicitDefEqProofs only[go_sem,seval];exact⟨Fz.same _,Fz.same _,Fz.same _⟩
 simp only[Zv,Zy,and_true];exact⟨FzO.keep rfl zp,FzO.keep rfl zp,Zk7 zp (FzL.fam zo (λj _=>Nat.ble_eq_true_of_le zo) λj hj=>(Zqe (lo:=1000000) rfl zo).trans (Z9e hj)),FzO.keep rfl zp,FzO.keep rfl zp⟩;refine AW.weak (Zqr 135 (lo:=X.w.heap.size) (b:=b1) (ks:=Zhc (m.p.ownK m.regions.l.length)) (vs:=Zpa (Zcc (m.p.ownK m.regions.l.length)) (m.p.ownK m.regions.l.length).length) [(1,.view .new (Z4 c d m)),(7,.view .new (.ptr 138 gx 0)),(41,.int .i64 m.regions.l.length),(42,.int .i64 m.regions.l.length)] [(130,.cells .new gp 0 (Z7f m.verts.l.length [.int .i64 0,.int .i64 0,.int .i64 0,.bool false,.bool false,.nils,.nils])),(134,.cells .new gk 0 (Z7f m.regions.l.length [.nils])),(136,.mp X.w.heap.size b2 [] []),(138,.cells .new gx 0 [.msl 130 gp 0 m.verts.l.length 7,.msl 134 gk 0 m.regions.l.length 1,(.mapv (Zhc (m.p.ownK m.regions.l.length)) (Zpa (Zcc (m.p.ownK m.regions.l.length)) (m.p.ownK m.regions.l.length).length)),.mref 136 b2])] zp (Nat.le_refl _) ?_ ?_) ?_;simp -implicitDefEqProofs only[go_sem,seval];exact⟨.inl rfl,.inl rfl,.inl rfl⟩;simp -implicitDefEqProofs only[go_sem,seval];exact⟨MZO.same ..,MZO.same ..,MZO.same ..,_,rfl,.inl rfl,.inl rfl,.inr ⟨rfl,rfl⟩,.inl rfl,trivial⟩;refine Zf (zi hlt Zj) ?_
 refine Zaa m.verts.l.length (λi (z:(Nat->PlW)×(Nat->Nat)×(Nat->Nat))=>⟨Zfa emp [(1,.view .new (Z4 c d m)),(7,.view .new (.ptr 138 gx 0)),(65,Za c 8 (Z5a d) m.verts),(66,.int .i64 m.verts.l.length),(67,.int .i64 i)],Zfa (Ztd 2000000 z.2.1 (m.p.kidL i) (Ztd 3000000 z.2.2 (Zcc (m.p.pntK i)) Zk)) [(130,.cells .new gp 0 (Z3e z.1 m.verts.l.length)),(134,.cells .new gk 0 ((List.range m.regions.l.length).map (Zcj 2000000 z.2.1 (m.p.kidL i)))),(136,.mp X.w.heap.size b2 (Zhc (m.p.pntK i)) (Zto 3000000 z.2.2 (m.p.pntK i))),(138,.cells .new gx 0 [.msl 130 gp 0 m.verts.l.length 7,.msl 134 gk 0 m.regions.l.length 1,(.mapv (Zhc (m.p.ownK m.regions.l.length)) (Zpa (Zcc (m.p.ownK m.regions.l.length)) (m.p.ownK m.regions.l.length).length)),.mref 136 b2])]⟩)
  (λi z=>∀ j,j<m.verts.l.length->z.1 j=if j<i then plB m.p 0 j else plZ (λ_=>0) (λ_=>0) j) 0 (plZ (λ_=>0) (λ_=>0),λ_=>0,λ_=>0) (Nat.zero_le _) (λj hj=>(if_neg (Nat.not_lt_zero _)).symm) (Zuf (by rw[Zj];exact zp) ?_ ?_) ?_
 simp -implicitDefEqProofs only[go_sem,seval];rw[repV_pl (λ_=>0) (λ_=>0),Zxea 2000000 (λ_=>0)];exact⟨rfl,rfl,rfl⟩;intro o;refine .inl ?_
 show Ztd _ _ _ _ o=_
 unfold Ztd
 split
 rfl
 split<;>rfl
 rintro i ⟨f,gK,gP⟩ hi hR L2 hL2;simp only at hR
 by_cases hi1:i<m.verts.l.length
 have hlt:decide ((i:Int)<(m.verts.l.length:Int))=true:=zT;have hg:=List.getElem?_eq_getElem hi1;generalize m.verts.l[i]=vt at hg;have hvx:=Zwh hg;refine Zf (zi hlt (zi hg (zi hi1 (zi Zt (zi @Int.natCast_nonneg @Int.ofNat_lt))))) ?_;intro g11;refine AW.weak (Z8v (λo=>o==111) (B:=(Ztd 2000000 gK (m.p.kidL i) (Ztd 3000000 gP (Zcc (m.p.pntK i)) Zk))) (l:=[(10,.int .i64 i),(1,.view .new (Z4 c d m)),(7,.view .new (.ptr 138 gx 0)),(65,Za c 8 (Z5a d) m.verts),(66,.int .i64 m.verts.l.length),(67,.int .i64 i),(11,.view .new (Z5a d vt))]) (m:=[(130,.cells .new gp 0 (Z3e f m.verts.l.length)),(134,.cells .new gk 0 ((List.range m.regions.l.length).map (Zcj 2000000 gK (m.p.kidL i)))),(136,.mp X.w.heap.size b2 (Zhc (m.p.pntK i)) (Zto 3000000 gP (m.p.pntK i))),(138,.cells .new gx 0 [.msl 130 gp 0 m.verts.l.length 7,.msl 134 gk 0 m.regions.l.length 1,(.mapv (Zhc (m.p.ownK m.regions.l.length)) (Zpa (Zcc (m.p.ownK m.regions.l.length)) (m.p.ownK m.regions.l.length).length)),.mref 136 b2])]) ?_ ?_ λo=>?_) ?_;simp -implicitDefEqProofs only[go_sem,seval];exact⟨Fz.same _,Fz.same _,Fz.same _,Fz.same _,Fz.same _,Fz.same _,Fz.ptr (v:=Z5a d vt) (c:=.new) (fz:=0) rfl zp⟩;simp only[Zv,Zy,and_true];exact⟨FzO.keep rfl zp,FzO.keep rfl zp,FzO.keep rfl zp,FzO.keep rfl zp⟩;exact Zrr (lo:=2000000) (((Lows.none 2000000).fam zd).fam zd) (λo ho=>beq_false_of_ne (show o≠111 by omega)) (m:=(111,_)::(111,_)::[(130,.cells .new gp 0 (Z3e f m.verts.l.length)),(134,.cells .new gk 0 ((List.range m.regions.l.length).map (Zcj 2000000 gK (m.p.kidL i)))),(136,.mp X.w.heap.size b2 (Zhc (m.p.pntK i)) (Zto 3000000 gP (m.p.pntK i))),(138,.cells .new gx 0 [.msl 130 gp 0 m.verts.l.length 7,.msl 134 gk 0 m.regions.l.length 1,(.mapv (Zhc (m.p.ownK m.regions.l.length)) (Zpa (Zcc (m.p.ownK m.regions.l.length)) (m.p.ownK m.regions.l.length).length)),.mref 136 b2])]) rfl o
 refine Zf (zi hi1 (zi Zt (zi @Int.natCast_nonneg @Int.ofNat_lt))) ?_;refine Zp ⟨λ_=>.top,λ_=>.lend⟩ zk hG zk zk ?_;have h3:=Zte (f:=f) (n:=m.verts.l.length) (j:=3) (v:=.bool (vt.kind==1)) (plX 0 0 (vt.kind==1) false i) hi1 zd (by rw[hR i hi1,if_neg (Nat.lt_irrefl _)];rfl);have h4:=Zte (f:=upd f i (plX 0 0 (vt.kind==1) false i)) (n:=m.verts.l.length) (j:=4) (v:=.bool (decide (vt.of>=0))) (plX 0 0 (vt.kind==1) (decide (vt.of>=0)) i) hi1 zd (by rw[Z3];rfl);rw[Zsi]at h4;have c3:i*7+3+1<=m.verts.l.length*7:=zo;have c4:i*7+4+1<=m.verts.l.length*7:=zo;have c5:i*7+4<m.verts.l.length*7:=zo;simp -implicitDefEqProofs only[go_sem,seval,hi1,Zce,c3,c4,h3,h4];have h5:=Zwn (f:=upd f i (plX 0 0 (vt.kind==1) (decide (vt.of>=0)) i)) (n:=m.verts.l.length) (j:=4) (v:=.bool (decide (vt.of>=0))) hi1 zd (by rw[Z3];rfl);generalize hf4:upd f i (plX 0 0 (vt.kind==1) (decide (vt.of>=0)) i)=f4 at h5
 have h6:f4 i=plX 0 0 (vt.kind==1) (decide (vt.of>=0)) i:=by rw[<- hf4,Z3]
 refine AW.weak (Zuf (B:=(Ztd 2000000 gK (m.p.kidL i) (Ztd 3000000 gP (Zcc (m.p.pntK i)) Zk))) (l:=[(1,.view .new (Z4 c d m)),(7,.view .new (.ptr 138 gx 0)),(65,Za c 8 (Z5a d) m.verts),(66,.int .i64 m.verts.l.length),(67,.int .i64 i),(10,.int .i64 i),(11,.view .new (Z5a d vt)),(12,.ptr 130 gp (i*7))]) (m:=[(130,.cells .new gp 0 (Z3e f4 m.verts.l.length)),(134,.cells .new gk 0 ((List.range m.regions.l.length).map (Zcj 2000000 gK (m.p.kidL i)))),(136,.mp X.w.heap.size b2 (Zhc (m.p.pntK i)) (Zto 3000000 gP (m.p.pntK i))),(138,.cells .new gx 0 [.msl 130 gp 0 m.verts.l.length 7,.msl 134 gk 0 m.regions.l.length 1,(.mapv (Zhc (m.p.ownK m.regions.l.length)) (Zpa (Zcc (m.p.ownK m.regions.l.length)) (m.p.ownK m.regions.l.length).length)),.mref 136 b2])]) (by rw[Zt];exact zp) zp λo=>?_) ?_;exact Lows.base (lo:=2000000) (((Lows.none 2000000).fam zd).fam zd) (m:=(130,_)::(130,_)::[(130,.cells .new gp 0 (Z3e f m.verts.l.length)),(134,.cells .new gk 0 ((List.range m.regions.l.length).map (Zcj 2000000 gK (m.p.kidL i)))),(136,.mp X.w.heap.size b2 (Zhc (m.p.pntK i)) (Zto 3000000 gP (m.p.pntK i))),(138,.cells .new gx 0 [.msl 130 gp 0 m.verts.l.length 7,.msl 134 gk 0 m.regions.l.length 1,(.mapv (Zhc (m.p.ownK m.regions.l.length)) (Zpa (Zcc (m.p.ownK m.regions.l.length)) (m.p.ownK m.regions.l.length).length)),.mref 136 b2])]) rfl o
 by_cases ho:0<=vt.of
 have q0:decide (vt.of>=0)=true:=zT;rw[q0]at h5 h6;have hpt:=rt.pt (v:=(i:Int)) (Int.natCast_nonneg i) (by rw[m.nv];omega);rw[hvx]at hpt;obtain⟨_,hp1,_⟩:=hpt.resolve_right (λh=>by have:vt.of = -1:=h.1;omega);have hp1:vt.of<m.p.vertices.length:=hp1;obtain⟨o,vo,hoe,hok,hgo,hvo⟩:=MdM.at ho hp1;have f2:=zi hoe (zi hok (zi hgo (zi Zt (zi Zj (zi @Int.natCast_nonneg @Int.ofNat_lt)))));refine Zf (zi h5 (zi Zce (zi c4 (zi c5 Zt)))) ?_;refine Zp ⟨λ_=>.top,λ_=>.lend⟩ zk hG zk zk ?_;have s0:(Z3e f4 m.verts.l.length).set (i*7) (.int .i64 (o:Int))=_:=Zte (f:=f4) (j:=0) (plX (o:Int) 0 (vt.kind==1) true i) hi1 zd (by rw[h6];rfl);have s1:=Zte (f:=upd f4 i (plX (o:Int) 0 (vt.kind==1) true i)) (n:=m.verts.l.length) (j:=1) (v:=.int .i64 vo.region) (plX (o:Int) vo.region (vt.kind==1) true i) hi1 zd (by rw[Z3];rfl);rw[Zsi]at s1;have k0:i*7+1<=m.verts.l.length*7:=zo;have k1:i*7+1+1<=m.verts.l.length*7:=zo;simp -implicitDefEqProofs only[go_sem,seval,f2,hi1,Zce,k0,k1,s0,s1,Nat.zero_le];generalize hf6:upd f4 i (plX (o:Int) vo.region (vt.kind==1) true i)=f6;refine Z6 ?_;refine Z2c [(127,.ptr 138 gx 3,.mref 136 b2)] ⟨λj=>.mref 136 b2,λj=>if j=3 then .keep else if j=9 then .keep else .lend⟩ zk hG zk zk ?_;have hpl:=PM.pntK_len (m:=m.p) i;have hix:=Z7q (m.p.pntK i) (o:Int);simp -implicitDefEqProofs only[go_sem,seval,Zg6 3000000 gP (m.p.pntK i) (o:Int),true_and,and_true];refine⟨rfl,λg23=>?_⟩;refine Zgg (f:=V.int .i64) (o:=3000000+ixK (m.p.pntK i) (o:Int)) (g:=gP (ixK (m.p.pntK i) (o:Int))) (l:=Zcc (m.p.pntK i) (ixK (m.p.pntK i) (o:Int))) (l2:=[(i:Int)]) (λ_=>rfl) rfl rfl rfl ?_ ?_ λo2 g2 ho2=>?_
 (repeat rw[Zi _ _ zo])
 rw[Z3d zo];exact Z9e zo;have:=PM.pntK_row (m:=m.p) i (ixK (m.p.pntK i) (o:Int));exact Z9 zo zO;have ho2:o2=3000000+ixK (m.p.pntK i) (o:Int)\/o2=224:=ho2;have n138:(138=o2)=False:=eq_false zo;have n136:(136=o2)=False:=eq_false zo;have n2:(o2=136)=False:=eq_false zo;simp -implicitDefEqProofs only[go_sem,seval,Zah Tryz.underlying127 Tryz.underlying3,Z05 3000000 gP (m.p.pntK i) (o:Int) i,Zyn,Nat.le_refl,true_and,n138,n136]
 refine Zdi [(1,.view .new (Z4 c d m)),(7,.view .new (.ptr 138 gx 0)),(65,Za c 8 (Z5a d) m.verts),(66,.int .i64 m.verts.l.length),(67,.int .i64 i)] (g:=gP) (l:=Zcc (m.p.pntK i)) (H0:=Ztd 2000000 gK (m.p.kidL i) Zk) (m:=[(130,.cells .new gp 0 (Z3e f6 m.verts.l.length)),(134,.cells .new gk 0 ((List.range m.regions.l.length).map (Zcj 2000000 gK (m.p.kidL i)))),(136,.mp X.w.heap.size b2 (Zhc (m.p.pntK i)) (Zto 3000000 gP (m.p.pntK i))),(138,.cells .new gx 0 [.msl 130 gp 0 m.verts.l.length 7,.msl 134 gk 0 m.regions.l.length 1,(.mapv (Zhc (m.p.ownK m.regions.l.length)) (Zpa (Zcc (m.p.ownK m.regions.l.length)) (m.p.ownK m.regions.l.length).length)),.mref 136 b2])]) 136 3000000 224 (ixK (m.p.pntK i) (o:Int)) (λu=>.mp X.w.heap.size b2 (Zhc (Zsk (m.p.pntK i) (o:Int) i)) (Zuz 3000000 gP (m.p.pntK i) (o:Int) u)) (o2:=o2) (g2:=g2) (r:=Zcc (m.p.pntK i) (ixK (m.p.pntK i) (o:Int))++[(i:Int)]) zS ho2 zo
  (λa t b s=>RnX.mp (Rn.row a t b s zS)) (by simp -implicitDefEqProofs only[go_sem,seval,n2]) (zp) (λo' h1 h2 h3=>?_) zp λt=>?_
 by_cases e2:o'=223
 subst e2;exact .inl rfl
 right
 rw[Zdk (B:=3000000) (B':=2000000) zo]
 (repeat rw[Zi _ _ zo])
 by_cases e3:o'=130
 subst e3;rfl
 (repeat rw[Zi _ _ zo])
 refine Zs ?_;exact(if_neg e3).symm;have w1:IntKind.i64.wrap ((i:Int)+1)=(i:Int)+1:=w64 zo zo;refine Zf w1 ?_
 have hof:(m.p.vx (i:Int)).of=(o:Int):=by rw[hvx];exact hoe
 have eP:m.p.pntK (i+1)=Zsk (m.p.pntK i) (o:Int) i:=by rw[PM.pntK_pt (by rw[hof];exact Int.natCast_nonneg o),hof]
 have eR:Zcc (m.p.pntK (i+1))=upd (Zcc (m.p.pntK i)) (ixK (m.p.pntK i) (o:Int)) (Zcc (m.p.pntK i) (ixK (m.p.pntK i) (o:Int))++[(i:Int)]):=by
  rw[eP];exact funext λj=>Zqj _ _ _ j
 have eM:=Zq5 3000000 gP (m.p.pntK i) (o:Int) i t;rw[<- eP]at eM⊢;rw[eM,<- eR];have eK:m.p.kidL (i+1)=m.p.kidL i:=PM.kidL_pt (by rw[hof];exact Int.natCast_nonneg o)
 have hB:plB m.p 0 i=plX (o:Int) vo.region (vt.kind==1) true i:=by
  rw[hoe]at hvo;unfold plB PM.around PM.rgO PM.kd;rw[hof,if_pos (Int.natCast_nonneg o),if_pos (Int.natCast_nonneg o),hvo,hvx,decide_eq_true (Int.natCast_nonneg o)];rfl
 refine hL2 _ ⟨hi1,(f6,gK,upd gP (ixK (m.p.pntK i) (o:Int)) t),?_,Zuf zp ?_ λo'=>?_⟩
 show ∀ j,j<m.verts.l.length->f6 j=_
 rw[<- hf6,<- hf4,Zsi,<- hB];exact Z15 hR;rw[eK];exact zp;rw[eK,Zdk (B:=2000000) (B':=3000000) zo]
 dsimp only
 exact Lows.base (lo:=2000000) (((Lows.none 2000000).fam zd).fam zd) (m:=(136,_)::(224,.dead)::[(130,.cells .new gp 0 (Z3e f6 m.verts.l.length)),(134,.cells .new gk 0 ((List.range m.regions.l.length).map (Zcj 2000000 gK (m.p.kidL i)))),(136,.mp X.w.heap.size b2 (Zhc (m.p.pntK i)) (Zto 3000000 gP (m.p.pntK i))),(138,.cells .new gx 0 [.msl 130 gp 0 m.verts.l.length 7,.msl 134 gk 0 m.regions.l.length 1,(.mapv (Zhc (m.p.ownK m.regions.l.length)) (Zpa (Zcc (m.p.ownK m.regions.l.length)) (m.p.ownK m.regions.l.length).length)),.mref 136 b2])]) rfl o';have q0:decide (vt.of>=0)=false:=zF;rw[q0]at h5 h6;have hpt:=rt.pt (v:=(i:Int)) (Int.natCast_nonneg i) (by rw[m.nv];omega);rw[hvx]at hpt;obtain⟨_,hr0,hr1,_⟩:=hpt.resolve_left (λh=>ho h.1);have hr0:0<=vt.region:=hr0;have hr1:vt.region<m.p.regions.length:=hr1;obtain⟨r,ry,hre,hrk,hrg,hro⟩:=Zut hr0 hr1;have f2:=zi hre (zi hrk (zi hrg (zi Zt (zi Zj (zi @Z3b (zi @Int.natCast_nonneg @Int.ofNat_lt))))));refine Zf (zi h5 (zi Zce (zi c4 (zi c5 Zt)))) ?_;refine Zp ⟨λ_=>.top,λ_=>.lend⟩ zk hG zk zk ?_;have s0:(Z3e f4 m.verts.l.length).set (i*7) (.int .i64 ry.2)=_:=Zte (f:=f4) (j:=0) (plX ry.2 0 (vt.kind==1) false i) hi1 zd (by rw[h6];rfl);have s1:=Zte (f:=upd f4 i (plX ry.2 0 (vt.kind==1) false i)) (n:=m.verts.l.length) (j:=1) (v:=.int .i64 (r:Int)) (plX ry.2 (r:Int) (vt.kind==1) false i) hi1 zd (by rw[Z3];rfl);rw[Zsi]at s1;have k0:i*7+1<=m.verts.l.length*7:=zo
 have k1:i*7+1+1<=m.verts.l.length*7:=zo;simp -implicitDefEqProofs only[go_sem,seval,f2,hi1,Zce,k0,k1,s0,s1,Nat.zero_le];generalize hf6:upd f4 i (plX ry.2 (r:Int) (vt.kind==1) false i)=f6;refine Z2c [(99,.ptr 138 gx 1,.msl 134 gk 0 m.regions.l.length 1)] ⟨λj=>.msl 134 gk 0 m.regions.l.length 1,λj=>if j=3 then .keep else if j=9 then .keep else if j=13 then .pure else .lend⟩ zk hG zk zk ?_;have hkr:((List.range m.regions.l.length).map (Zcj 2000000 gK (m.p.kidL i)))[r]?=some (Zcj 2000000 gK (m.p.kidL i) r):=Zfs _ hrk;simp -implicitDefEqProofs only[go_sem,seval,hkr,hrk,true_and,and_true,List.length_map,List.length_range,@Int.natCast_nonneg,@Int.ofNat_lt,Nat.mul_one];refine⟨rfl,λg55=>?_⟩;have hkn:=PM.kidL_len (m:=m.p) i r;refine Zgg (f:=V.int .i64) (o:=2000000+r) (g:=gK r) (l:=m.p.kidL i r) (l2:=[(i:Int)]) (λ_=>rfl) rfl rfl rfl ?_ (Z9 zo zO) λo2 g2 ho2=>?_
 (repeat rw[Zi _ _ zo])
 exact Z9e zo;have ho2:o2=2000000+r\/o2=256:=ho2;have n134:(134=o2)=False:=eq_false zo;have n138:(138=o2)=False:=eq_false zo;have n2:(o2=134)=False:=eq_false zo;have n130:(130=o2)=False:=eq_false zo;have hrk1:r+1<=m.regions.l.length:=hrk;simp -implicitDefEqProofs only[go_sem,seval,hrk,hrk1,true_and,and_true,List.length_map,List.length_range,@Int.natCast_nonneg,@Int.ofNat_lt,Nat.mul_one,n134,n138,Nat.zero_le]
 refine Zdi [(1,.view .new (Z4 c d m)),(7,.view .new (.ptr 138 gx 0)),(65,Za c 8 (Z5a d) m.verts),(66,.int .i64 m.verts.l.length),(67,.int .i64 i)] (g:=gK) (l:=m.p.kidL i) (H0:=Ztd 3000000 gP (Zcc (m.p.pntK i)) Zk) (m:=[(130,.cells .new gp 0 (Z3e f6 m.verts.l.length)),(134,.cells .new gk 0 ((List.range m.regions.l.length).map (Zcj 2000000 gK (m.p.kidL i)))),(136,.mp X.w.heap.size b2 (Zhc (m.p.pntK i)) (Zto 3000000 gP (m.p.pntK i))),(138,.cells .new gx 0 [.msl 130 gp 0 m.verts.l.length 7,.msl 134 gk 0 m.regions.l.length 1,(.mapv (Zhc (m.p.ownK m.regions.l.length)) (Zpa (Zcc (m.p.ownK m.regions.l.length)) (m.p.ownK m.regions.l.length).length)),.mref 136 b2])]) 134 2000000 256 r (λu=>.cells .new gk 0 (((List.range m.regions.l.length).map (Zcj 2000000 gK (m.p.kidL i))).set r u)) (o2:=o2) (g2:=g2) (r:=m.p.kidL i r++[(i:Int)]) zS ho2 zo
  (λa t b s=>RnX.cl (Rn.row a t b s zS)) (by simp -implicitDefEqProofs only[go_sem,seval,n2]) (zp) (λo' h1 h2 h3=>?_) (by rw[Zj];exact zp) λt=>?_
 by_cases e2:o'=255
 subst e2;exact .inl rfl
 right
 by_cases e3:o'=130
 subst e3;simp -implicitDefEqProofs only[go_sem,seval,n130]
 (repeat rw[Zi _ _ zo])
 refine Zs ?_;exact((if_neg e3).trans (if_neg h1)).symm;have w1:IntKind.i64.wrap ((i:Int)+1)=(i:Int)+1:=w64 zo zo;refine Zf w1 ?_
 have hof:(m.p.vx (i:Int)).of=vt.of:=by rw[hvx];rfl
 have hrg2:(m.p.vx (i:Int)).region=(r:Int):=by rw[hvx];exact hre
 have hof0:¬ 0<=(m.p.vx (i:Int)).of:=by rw[hof];exact ho
 have eP:m.p.pntK (i+1)=m.p.pntK i:=PM.pntK_no hof0;have eK:=PM.kidL_at (m:=m.p) (n:=i) (r:=r) zo hrg2;have eS:=Zu6 (B:=2000000) (g:=gK) (l:=m.p.kidL i) (n:=m.regions.l.length) (j:=r) (k:=t) (r:=m.p.kidL i r++[(i:Int)]) hrk;rw[eS,<- eK]
 have hB:plB m.p 0 i=plX ry.2 (r:Int) (vt.kind==1) false i:=by
  rw[hre]at hro;unfold plB PM.around PM.rgO PM.kd;rw[if_neg hof0,if_neg hof0,hrg2,hro,hvx,decide_eq_false (by rw[<- hvx];exact hof0)];rfl
 refine hL2 _ ⟨hi1,(f6,upd gK r t,gP),?_,Zuf (by rw[Zj];exact zp) ?_ λo'=>?_⟩
 show ∀ j,j<m.verts.l.length->f6 j=_
 rw[<- hf6,<- hf4,Zsi,<- hB];exact Z15 hR;rw[eP];exact zp;rw[eP]
 dsimp only
 exact Lows.base (lo:=2000000) (((Lows.none 2000000).fam zd).fam zd) (m:=(134,_)::(256,.dead)::[(130,.cells .new gp 0 (Z3e f6 m.verts.l.length)),(134,.cells .new gk 0 ((List.range m.regions.l.length).map (Zcj 2000000 gK (m.p.kidL i)))),(136,.mp X.w.heap.size b2 (Zhc (m.p.pntK i)) (Zto 3000000 gP (m.p.pntK i))),(138,.cells .new gx 0 [.msl 130 gp 0 m.verts.l.length 7,.msl 134 gk 0 m.regions.l.length 1,(.mapv (Zhc (m.p.ownK m.regions.l.length)) (Zpa (Zcc (m.p.ownK m.regions.l.length)) (m.p.ownK m.regions.l.length).length)),.mref 136 b2])]) rfl o';have hie:i=m.verts.l.length:=zo;have hlt:decide ((m.verts.l.length:Int)<(m.verts.l.length:Int))=false:=zF;have hpl:=PM.pntK_len (m:=m.p) m.verts.l.length;subst hie;refine AW.weak (Zw (λo=>Nat.ble 2000000 o) (l:=[(1,.view .new (Z4 c d m)),(7,.view .new (.ptr 138 gx 0)),(66,.int .i64 m.verts.l.length),(67,.int .i64 m.verts.l.length)]) (m:=[(130,.cells .new gp 0 (Z3e f m.verts.l.length)),(134,.cells .new gk 0 (Zpa (m.p.kidL m.verts.l.length) m.regions.l.length)),(136,.mp X.w.heap.size b2 (Zhc (m.p.pntK m.verts.l.length)) (Zpa (Zcc (m.p.pntK m.verts.l.length)) (m.p.pntK m.verts.l.length).length)),(138,.cells .new gx 0 [.msl 130 gp 0 m.verts.l.length 7,.msl 134 gk 0 m.regions.l.length 1,(.mapv (Zhc (m.p.ownK m.regions.l.length)) (Zpa (Zcc (m.p.ownK m.regions.l.length)) (m.p.ownK m.regions.l.length).length)),.mref 136 b2])]) ?_ ?_) ?_;simp -implicitDefEqProofs only[go_sem,seval];exact⟨Fz.same _,Fz.same _,Fz.same _⟩
 simp only[Zv,Zy,and_true];exact⟨FzO.keep rfl zp,FzO.of rfl zp (FzL.fam zo (λj _=>Nat.ble_eq_true_of_le zo) λj hj=>(Zqe (lo:=2000000) rfl zo).trans (Z9e hj)),Zk7 zp (FzL.fam zo (λj _=>Nat.ble_eq_true_of_le zo) λj hj=>(Zqe (lo:=2000000) rfl zo).trans ((Z3d zo).trans (Z9e hj))),FzO.keep rfl zp⟩;refine AW.weak (Zqr 136 (lo:=X.w.heap.size) (b:=b2) (ks:=Zhc (m.p.pntK m.verts.l.length)) (vs:=Zpa (Zcc (m.p.pntK m.verts.l.length)) (m.p.pntK m.verts.l.length).length) [(1,.view .new (Z4 c d m)),(7,.view .new (.ptr 138 gx 0)),(66,.int .i64 m.verts.l.length),(67,.int .i64 m.verts.l.length)] [(130,.cells .new gp 0 (Z3e f m.verts.l.length)),(134,.cells .new gk 0 (Zpa (m.p.kidL m.verts.l.length) m.regions.l.length)),(138,.cells .new gx 0 [.msl 130 gp 0 m.verts.l.length 7,.msl 134 gk 0 m.regions.l.length 1,(.mapv (Zhc (m.p.ownK m.regions.l.length)) (Zpa (Zcc (m.p.ownK m.regions.l.length)) (m.p.ownK m.regions.l.length).length)),(.mapv (Zhc (m.p.pntK m.verts.l.length)) (Zpa (Zcc (m.p.pntK m.verts.l.length)) (m.p.pntK m.verts.l.length).length))])] zp (Nat.le_refl _) ?_ ?_) ?_;simp -implicitDefEqProofs only[go_sem,seval];exact⟨.inl rfl,.inl rfl,.inl rfl⟩;simp -implicitDefEqProofs only[go_sem,seval];exact⟨MZO.same ..,MZO.same ..,_,rfl,.inl rfl,.inl rfl,.inl rfl,.inr ⟨rfl,rfl⟩,trivial⟩;refine AW.weak (Zw (λo=>o==134) (l:=[(1,.view .new (Z4 c d m)),(7,.view .new (.ptr 138 gx 0)),(66,.int .i64 m.verts.l.length),(67,.int .i64 m.verts.l.length)]) (m:=[(130,.cells .new gp 0 (Z3e f m.verts.l.length)),(138,.cells .new gx 0 [.msl 130 gp 0 m.verts.l.length 7,(.slice .new false 1 (Zpa (m.p.kidL m.verts.l.length) m.regions.l.length)),(.mapv (Zhc (m.p.ownK m.regions.l.length)) (Zpa (Zcc (m.p.ownK m.regions.l.length)) (m.p.ownK m.regions.l.length).length)),(.mapv (Zhc (m.p.pntK m.verts.l.length)) (Zpa (Zcc (m.p.pntK m.verts.l.length)) (m.p.pntK m.verts.l.length).length))])]) ?_ ?_) ?_
 simp -implicitDefEqProofs only[go_sem,seval];exact⟨Fz.same _,Fz.same _,Fz.same _⟩;simp only[Zv,Zy,and_true];exact⟨FzO.keep rfl zp,FzO.of (cs:=[.msl 130 gp 0 m.verts.l.length 7,.msl 134 gk 0 m.regions.l.length 1,(.mapv (Zhc (m.p.ownK m.regions.l.length)) (Zpa (Zcc (m.p.ownK m.regions.l.length)) (m.p.ownK m.regions.l.length).length)),(.mapv (Zhc (m.p.pntK m.verts.l.length)) (Zpa (Zcc (m.p.pntK m.verts.l.length)) (m.p.pntK m.verts.l.length).length))]) rfl zp ⟨Fz.same _,Fz.rows rfl zp,Fz.same _,Fz.same _,trivial⟩⟩;refine Zf (zi hlt Zj) ?_
 have eC:Z3e f m.verts.l.length=Z3e (f3 m.p 0) m.verts.l.length:=Z1k λj hj=>by rw[hR j hj,if_pos hj];rfl
 rw[eC]
 refine Zaa m.verts.l.length (λi (_:Unit)=>st [(1,.view .new (Z4 c d m)),(7,.view .new (.ptr 138 gx 0)),(162,.msl 130 gp 0 m.verts.l.length 7),(163,.int .i64 m.verts.l.length),(164,.int .i64 i)] [(130,.cells .new gp 0 (Z3e (f3 m.p i) m.verts.l.length)),(138,.cells .new gx 0 [.msl 130 gp 0 m.verts.l.length 7,(.slice .new false 1 (Zpa (m.p.kidL m.verts.l.length) m.regions.l.length)),(.mapv (Zhc (m.p.ownK m.regions.l.length)) (Zpa (Zcc (m.p.ownK m.regions.l.length)) (m.p.ownK m.regions.l.length).length)),(.mapv (Zhc (m.p.pntK m.verts.l.length)) (Zpa (Zcc (m.p.pntK m.verts.l.length)) (m.p.pntK m.verts.l.length).length))])])
  (λ_ _=>True) 0 () (Nat.zero_le _) trivial (Weak.st (by rw[Zj];exact zp) zp) ?_
 intro i _ hi _ L3 hL3
 by_cases hi1:i<m.verts.l.length
 have hlt:decide ((i:Int)<(m.verts.l.length:Int))=true:=zT;refine Zf hlt ?_;intro g13;refine Zs ?_;refine Z6 ?_;refine Zp ⟨λ_=>.top,λi=>if i=9 then .any else .pure⟩ zk hG zk zk ?_;have l0:(Z3e (f3 m.p i) m.verts.l.length)[i*7]?=some (.int .i64 (m.p.around i)):=Zwn (j:=0) hi1 zd rfl;have k0:i*7+1<=m.verts.l.length*7:=zo;have k1:i*7<m.verts.l.length*7:=zo;simp -implicitDefEqProofs only[go_sem,seval,hi1,Zce,l0,k0,k1,@Int.natCast_nonneg,@Int.ofNat_lt];refine CallA.inl [(52,.dead),(53,.dead)] zk ?_ ((Z6m G (.ptr 138 gx 0) _).mono ?_);intro p hp;simp only[List.mem_cons,List.not_mem_nil,or_false]at hp
 rcases hp with rfl|rfl<;>rfl
 rintro w H' ⟨g2,g3',rfl,e2,e3⟩;simp -implicitDefEqProofs only[go_sem,seval,Zfa,e2,e3];refine AW.block ?_;have har:m.p.around i<m.p.vertices.length:=a.ar1 (Int.natCast_nonneg i) (by rw[m.nv];omega)
 refine Zxh 50 100 290 150 (λn:Nat=>Zfa Zk [(113,.cells .new g13 0 [.int .i64 i]),(130,.cells .new gp 0 (Z3e (upd (f3 m.p i) i (plB m.p n i)) m.verts.l.length)),(138,.cells .new gx 0 [.msl 130 gp 0 m.verts.l.length 7,(.slice .new false 1 (Zpa (m.p.kidL m.verts.l.length) m.regions.l.length)),(.mapv (Zhc (m.p.ownK m.regions.l.length)) (Zpa (Zcc (m.p.ownK m.regions.l.length)) (m.p.ownK m.regions.l.length).length)),(.mapv (Zhc (m.p.pntK m.verts.l.length)) (Zpa (Zcc (m.p.pntK m.verts.l.length)) (m.p.pntK m.verts.l.length).length))])]) (λc _=>c+1) (λ_=>none) (λn _=>n<66) 0 rfl
  (λl r'=>up1M_it G hG m.p a gx gp (.slice .new false 1 (Zpa (m.p.kidL m.verts.l.length) m.regions.l.length)) (.mapv (Zhc (m.p.ownK m.regions.l.length)) (Zpa (Zcc (m.p.ownK m.regions.l.length)) (m.p.ownK m.regions.l.length).length)) (.mapv (Zhc (m.p.pntK m.verts.l.length)) (Zpa (Zcc (m.p.pntK m.verts.l.length)) (m.p.pntK m.verts.l.length).length)) _ har g2 g3' _ zp zp) ?_ (Z06 _ 0 (by rw[Nat.zero_add];exact chL_len ..)) ?_ ?_ (hPp:=?_)
 simp -implicitDefEqProofs only[go_sem,seval];rw[Zea (f3 m.p i) i (plB m.p 0 i) (by rw[f3,if_neg (Nat.lt_irrefl _)]),Zsi];exact Zea _ _ _ rfl;rintro l Y n k hr hn66 _;refine Zs ?_;refine AW.skip ?_;refine Zs ?_;intro Z _;have l2:(Z3e (upd (f3 m.p i) i (plB m.p n i)) m.verts.l.length)[i*7+2]?=some (.int .i64 n):=Zwn (j:=2) hi1 zd (by rw[Z3];rfl);have s2:(Z3e (upd (f3 m.p i) i (plB m.p n i)) m.verts.l.length).set (i*7+2) (.int .i64 ((n:Int)+1))=_:=Zte (j:=2) (plB m.p ((n:Int)+1) i) hi1 zd (by rw[Z3];rfl);rw[Zsi]at s2;have w1:IntKind.i64.wrap ((n:Int)+1)=(n:Int)+1:=w64 zo zo;have k2:i*7+2+1<=m.verts.l.length*7:=zo;have k3:i*7+2<m.verts.l.length*7:=zo;refine ZTf (zi hi1 (zi Zce (zi l2 (zi s2 (zi w1 (zi k2 (zi k3 (zi @Int.natCast_nonneg @Int.ofNat_lt)))))))) hG ?_;refine(Zea _ 290 AObj.dead rfl).trans ?_
 funext o
 by_cases e1:o=130
 subst e1;rfl
 by_cases e2:o=113
 subst e2;rfl;simp only[upd,if_neg e1,if_neg e2];rintro H2 sf hs h2 h3;refine AW.weak (Weak.rng (l:=[(1,.view .new (Z4 c d m)),(7,.view .new (.ptr 138 gx 0)),(162,.msl 130 gp 0 m.verts.l.length 7),(163,.int .i64 m.verts.l.length),(164,.int .i64 i)]) h2 zp) ?_;rw[Zmv,Nat.zero_add]at hs
 have hs2:(sf:Int)=dpI m.p i:=by rw[hs];rfl
 rw[hs2,f3_succ];have w1:IntKind.i64.wrap ((i:Int)+1)=(i:Int)+1:=w64 zo zo;refine Zf w1 ?_;exact hL3 _ ⟨hi1,(),trivial,Weak.st zp zp⟩;intro n H hH;have h138:H 138=_:=(congrFun hH 138);have h130:H 130=_:=(congrFun hH 130);refine⟨(List.range m.verts.l.length).map (upd (f3 m.p i) i (plB m.p n i)),by rw[List.length_map,List.length_range,m.nv],λj p hp=>?_,?_,?_⟩
 .rw[List.getElem?_map]at hp
  cases hq:(List.range m.verts.l.length)[j]? with
  |none=>rw[hq]at hp;cases hp
  |some j'=>
   obtain⟨hj1,hj2⟩:=List.getElem?_eq_some_iff.1 hq;rw[List.getElem_range]at hj2;subst hj2;rw[hq]at hp;cases hp
   by_cases e:j=i
   subst e;rw[Z3];rfl;rw[Zi _ _ e];rfl
 rw[List.length_map,List.length_range];exact h138;exact h130;have hie:i=m.verts.l.length:=zo;have hlt:decide ((m.verts.l.length:Int)<(m.verts.l.length:Int))=false:=zF;subst hie;refine Zf (zi hlt Zj) ?_
 have eC:Z3e (f3 m.p m.verts.l.length) m.verts.l.length=Z3e (f4 m.p (λ_=>0) (λ_=>0) 0) m.verts.l.length:=Z1k λj hj=>by rw[f3,if_pos hj];rfl
 rw[eC];have hnw:=hb.nw
 refine Zaa m.ways.l.length (λt (z:(Nat->Nat)×(Nat->Nat))=>⟨Zfa emp [(1,.view .new (Z4 c d m)),(7,.view .new (.ptr 138 gx 0)),(191,Za c 8 (Z4b d) m.ways),(192,.int .i64 m.ways.l.length),(193,.int .i64 t)],Zfa (Ztd 4000000 z.1 (λj=>m.p.wysI j false t) (Ztd 5000000 z.2 (λj=>m.p.wysI j true t) Zk)) [(130,.cells .new gp 0 (Z3e (f4 m.p z.1 z.2 t) m.verts.l.length)),(138,.cells .new gx 0 [.msl 130 gp 0 m.verts.l.length 7,(.slice .new false 1 (Zpa (m.p.kidL m.verts.l.length) m.regions.l.length)),(.mapv (Zhc (m.p.ownK m.regions.l.length)) (Zpa (Zcc (m.p.ownK m.regions.l.length)) (m.p.ownK m.regions.l.length).length)),(.mapv (Zhc (m.p.pntK m.verts.l.length)) (Zpa (Zcc (m.p.pntK m.verts.l.length)) (m.p.pntK m.verts.l.length).length))])]⟩)
  (λ_ _=>True) 0 (λ_=>0,λ_=>0) (Nat.zero_le _) trivial (Zuf (by rw[Zj];exact zp) zp ?_) ?_
 intro o;refine .inl ?_
 show Ztd _ _ _ _ o=_
 unfold Ztd
 split
 rfl
 split<;>rfl
 rintro t ⟨gO,gI⟩ ht _ L4 hL4
 by_cases ht1:t<m.ways.l.length
 .have hlt:decide ((t:Int)<(m.ways.l.length:Int))=true:=zT
  have hg:=List.getElem?_eq_getElem ht1;generalize m.ways.l[t]=wy at hg;have hwy:=Zqk hg;refine Zf (zi hlt (zi hg (zi ht1 (zi Z8 (zi @Int.natCast_nonneg @Int.ofNat_lt))))) ?_;intro g15;refine AW.weak (Z8v (λo=>o==115) (B:=(Ztd 4000000 gO (λj=>m.p.wysI j false t) (Ztd 5000000 gI (λj=>m.p.wysI j true t) Zk))) (l:=[(14,.int .i64 t),(1,.view .new (Z4 c d m)),(7,.view .new (.ptr 138 gx 0)),(191,Za c 8 (Z4b d) m.ways),(192,.int .i64 m.ways.l.length),(193,.int .i64 t),(15,.view .new (Z4b d wy))]) (m:=[(130,.cells .new gp 0 (Z3e (f4 m.p gO gI t) m.verts.l.length)),(138,.cells .new gx 0 [.msl 130 gp 0 m.verts.l.length 7,(.slice .new false 1 (Zpa (m.p.kidL m.verts.l.length) m.regions.l.length)),(.mapv (Zhc (m.p.ownK m.regions.l.length)) (Zpa (Zcc (m.p.ownK m.regions.l.length)) (m.p.ownK m.regions.l.length).length)),(.mapv (Zhc (m.p.pntK m.verts.l.length)) (Zpa (Zcc (m.p.pntK m.verts.l.length)) (m.p.pntK m.verts.l.length).length))])]) ?_ ?_ λo=>?_) ?_;simp -implicitDefEqProofs only[go_sem,seval];exact⟨Fz.same _,Fz.same _,Fz.same _,Fz.same _,Fz.same _,Fz.same _,Fz.ptr (v:=Z4b d wy) (c:=.new) (fz:=0) rfl zp⟩;simp only[Zv,Zy,and_true];exact⟨FzO.keep rfl zp,FzO.keep rfl zp⟩;exact Zrr (lo:=4000000) (((Lows.none 4000000).fam zd).fam zd) (λo ho=>beq_false_of_ne (show o≠115 by omega)) (m:=(115,_)::(115,_)::[(130,.cells .new gp 0 (Z3e (f4 m.p gO gI t) m.verts.l.length)),(138,.cells .new gx 0 [.msl 130 gp 0 m.verts.l.length 7,(.slice .new false 1 (Zpa (m.p.kidL m.verts.l.length) m.regions.l.length)),(.mapv (Zhc (m.p.ownK m.regions.l.length)) (Zpa (Zcc (m.p.ownK m.regions.l.length)) (m.p.ownK m.regions.l.length).length)),(.mapv (Zhc (m.p.pntK m.verts.l.length)) (Zpa (Zcc (m.p.pntK m.verts.l.length)) (m.p.pntK m.verts.l.length).length))])]) rfl o
  have hwb:=rtA.way t (by rw[m.nw];exact ht1);rw[hwy]at hwb;simp only[PM.wayB,PM.inV,Bool.and_eq_true,decide_eq_true_eq]at hwb;obtain⟨hs0,hs1⟩:0<=wy.source/\wy.source<m.p.vertices.length:=hwb.1.1.1.1.1.1.1.1.1.2;obtain⟨he0,he1⟩:0<=wy.target/\wy.target<m.p.vertices.length:=hwb.1.1.1.1.1.1.1.1.2;obtain⟨na,va,hae,hak,_,_⟩:=MdM.at hs0 hs1;obtain⟨ne,ve,hee,hek,_,_⟩:=MdM.at he0 he1;have f0:=zi hae (zi hee (zi hak (zi hek (zi Z8 (zi @Int.natCast_nonneg @Int.ofNat_lt)))));refine ZTf f0 hG ?_
  refine Zeda (.fork 8 12 (.fork 8 14 (.ord [0,1,2,3,4,6,9,10,11,13,5,7,8,12,14,15,16,17,18,19,20,21]) (.ord [0,1,2,3,4,6,9,10,11,13,5,7,14,8,12,15,16,17,18,19,20,21])) (.fork 8 14 (.ord [0,1,2,3,4,6,9,10,11,13,5,12,7,8,14,15,16,17,18,19,20,21]) (.ord [0,1,2,3,4,6,9,10,11,13,5,12,7,14,8,15,16,17,18,19,20,21])))
   [] ⟨λ_=>.top,λ_=>.pure⟩ zk hG zk zk ?_
  have lo5:(Z3e (f4 m.p gO gI t) m.verts.l.length)[na*7+5]?=some (Zcj 4000000 gO (λj=>m.p.wysI j false t) na):=Zwn (j:=5) hak zd rfl;have lo6:(Z3e (f4 m.p gO gI t) m.verts.l.length)[ne*7+6]?=some (Zcj 5000000 gI (λj=>m.p.wysI j true t) ne):=Zwn (j:=6) hek zd rfl;simp only[Zp7];have hw1:=PM.wysI_len (m:=m.p) (na:Int) false t;have hw2:=PM.wysI_len (m:=m.p) (ne:Int) true t;have k5:na*7+5+1<=m.verts.l.length*7:=zo;have k6:ne*7+6+1<=m.verts.l.length*7:=zo;have k5':na*7+5<m.verts.l.length*7:=zo;have k6':ne*7+6<m.verts.l.length*7:=zo;refine⟨⟨?_,?_⟩,?_,?_⟩
  all_goals
   simp -implicitDefEqProofs only[go_sem,seval,lo5,lo6,Zce,k5,k6,k5',k6']
   repeat refine⟨rfl,λ_=>?_⟩
   refine Zgg (f:=V.int .i64) (o:=4000000+na) (g:=gO na) (l:=m.p.wysI na false t) (l2:=[(t:Int)]) (λ_=>rfl) rfl rfl rfl ?_ (Z9 zo zO) λo2 g2 ho2=>?_
   (repeat rw[Zi _ _ zo])
   exact Z9e zo;have ho2:o2=4000000+na\/o2=320:=ho2;have n130:(130=o2)=False:=eq_false zo;have n326:(326=o2)=False:=eq_false zo;simp -implicitDefEqProofs only[go_sem,seval,lo5,lo6,Zce,k5,k6,k5',k6',n130,n326]
   repeat refine⟨rfl,λ_=>?_⟩
   refine Zgg (f:=V.int .i64) (o:=5000000+ne) (g:=gI ne) (l:=m.p.wysI ne true t) (l2:=[(t:Int)]) (λ_=>rfl) rfl rfl rfl ?_ (Z9 zo zO) λo3 g3 ho3=>?_
   (repeat rw[Zi _ _ zo])
   rw[Z3d zo];exact Z9e zo;have ho3:o3=5000000+ne\/o3=327:=ho3;have n130':(130=o3)=False:=eq_false zo;simp -implicitDefEqProofs only[go_sem,seval,lo5,lo6,Zce,k5,k6,k5',k6',n130,n130',List.length_set];have m1:(o2=130)=False:=eq_false zo;have m2:(o2=o3)=False:=eq_false zo;have m3:(o2=326)=False:=eq_false zo;have m4:(o3=130)=False:=eq_false zo
   refine Zdda (gO:=gO) (gI:=gI) (lO:=λj=>m.p.wysI j false t) (lI:=λj=>m.p.wysI j true t) [(130,.cells .new gp 0 (Z3e (f4 m.p gO gI t) m.verts.l.length)),(138,.cells .new gx 0 [.msl 130 gp 0 m.verts.l.length 7,(.slice .new false 1 (Zpa (m.p.kidL m.verts.l.length) m.regions.l.length)),(.mapv (Zhc (m.p.ownK m.regions.l.length)) (Zpa (Zcc (m.p.ownK m.regions.l.length)) (m.p.ownK m.regions.l.length).length)),(.mapv (Zhc (m.p.pntK m.verts.l.length)) (Zpa (Zcc (m.p.pntK m.verts.l.length)) (m.p.pntK m.verts.l.length).length))])] [(1,.view .new (Z4 c d m)),(7,.view .new (.ptr 138 gx 0)),(191,Za c 8 (Z4b d) m.ways),(192,.int .i64 m.ways.l.length),(193,.int .i64 t)] 130 320 327 na ne (λu v=>.cells .new gp 0 (((Z3e (f4 m.p gO gI t) m.verts.l.length).set (na*7+5) u).set (ne*7+6) v)) (o2:=o2) (g2:=g2) (o3:=o3) (g3:=g3) (r:=m.p.wysI na false t++[(t:Int)]) (r':=m.p.wysI ne true t++[(t:Int)]) zS zS ho2 ho3 zo zo
    (λv a g b k=>RnX.cl2 (Rn.row a g b k zS)) (λu a g b k=>RnX.cl (Rn.row a g b k zS)) (by simp -implicitDefEqProofs only[go_sem,seval,m1,m2,m3]) (by simp -implicitDefEqProofs only[go_sem,seval,m4]) (zp) (λo q1 q2 q3 q4 q5=>?_) (by rw[Zj];exact zp) λt1 t2=>?_
   by_cases z1:o=319
   subst z1;exact .inl rfl
   by_cases z2:o=326
   subst z2;exact .inl rfl;have z3:o≠o2:=zo;have z4:o≠o3:=zo
   right
   simp only[Zbb,Z5r,upd,if_neg q1,if_neg z1,if_neg z2,if_neg z3,if_neg z4]
   have hsr:(m.p.wy (t:Int)).source=(na:Int):=by rw[hwy];exact hae
   have htr:(m.p.wy (t:Int)).target=(ne:Int):=by rw[hwy];exact hee
   have w1:IntKind.i64.wrap ((t:Int)+1)=(t:Int)+1:=w64 zo zo;rw[Z6ea m.p gO gI t m.verts.l.length na ne t1 t2 hak hek hsr htr];refine Zf w1 ?_;refine hL4 _ ⟨ht1,(upd gO na t1,upd gI ne t2),trivial,Zuf (by rw[Zj];exact zp) zp λo=>?_⟩
   dsimp only
   rw[PM.outs_next hsr,PM.intos_next htr];exact Lows.base (lo:=4000000) (((Lows.none 4000000).fam zd).fam zd) (m:=(130,_)::(327,.dead)::(320,.dead)::[(130,.cells .new gp 0 (Z3e (f4 m.p gO gI t) m.verts.l.length)),(138,.cells .new gx 0 [.msl 130 gp 0 m.verts.l.length 7,(.slice .new false 1 (Zpa (m.p.kidL m.verts.l.length) m.regions.l.length)),(.mapv (Zhc (m.p.ownK m.regions.l.length)) (Zpa (Zcc (m.p.ownK m.regions.l.length)) (m.p.ownK m.regions.l.length).length)),(.mapv (Zhc (m.p.pntK m.verts.l.length)) (Zpa (Zcc (m.p.pntK m.verts.l.length)) (m.p.pntK m.verts.l.length).length))])]) rfl o
 have hte:t=m.ways.l.length:=zo;have hlt:decide ((m.ways.l.length:Int)<(m.ways.l.length:Int))=false:=zF;rw[hte];refine AW.weak (Zw (λo=>Nat.ble 4000000 o) (l:=[(1,.view .new (Z4 c d m)),(7,.view .new (.ptr 138 gx 0)),(192,.int .i64 m.ways.l.length),(193,.int .i64 m.ways.l.length)]) (m:=[(130,.cells .new gp 0 (flat ((List.range m.verts.l.length).map λj=>Zwo .new (plF m.p j)))),(138,.cells .new gx 0 [.msl 130 gp 0 m.verts.l.length 7,(.slice .new false 1 (Zpa (m.p.kidL m.verts.l.length) m.regions.l.length)),(.mapv (Zhc (m.p.ownK m.regions.l.length)) (Zpa (Zcc (m.p.ownK m.regions.l.length)) (m.p.ownK m.regions.l.length).length)),(.mapv (Zhc (m.p.pntK m.verts.l.length)) (Zpa (Zcc (m.p.pntK m.verts.l.length)) (m.p.pntK m.verts.l.length).length))])]) ?_ ?_) ?_;simp -implicitDefEqProofs only[go_sem,seval];exact⟨Fz.same _,Fz.same _,Fz.same _⟩;simp only[Zv,Zy,and_true];refine⟨FzO.of (cs:=Z3e (f4 m.p gO gI m.ways.l.length) m.verts.l.length) rfl rfl ?_,FzO.keep rfl zp⟩;unfold Z3e;rw[List.map_map];refine FzL.flat λj hj=>?_;have hj:=List.mem_range.1 hj;refine⟨Fz.same _,Fz.same _,Fz.same _,Fz.same _,Fz.same _,?_,?_,trivial⟩
 show Fz _ _ (grown (4000000+j) (gO j) 1 (m.p.wysI j false m.ways.l.length)) (Za .new 1 (V.int .i64) (Zb (m.p.wysI j false m.p.ways.length)))
 rw[m.nw];exact Zkc (f:=V.int .i64) (Nat.ble_eq_true_of_le zo) ((Zqe (lo:=4000000) rfl zo).trans (Z9e zo)) λ_=>rfl
 show Fz _ _ (grown (5000000+j) (gI j) 1 (m.p.wysI j true m.ways.l.length)) (Za .new 1 (V.int .i64) (Zb (m.p.wysI j true m.p.ways.length)))
 rw[m.nw];exact Zkc (f:=V.int .i64) (Nat.ble_eq_true_of_le zo) ((Zqe (lo:=4000000) rfl zo).trans ((Z3d zo).trans (Z9e zo))) λ_=>rfl;refine AW.weak (Zw (λo=>o==130) (l:=[(1,.view .new (Z4 c d m)),(7,.view .new (.ptr 138 gx 0)),(192,.int .i64 m.ways.l.length),(193,.int .i64 m.ways.l.length)]) (m:=[(138,.cells .new gx 0 [Za .new 7 (Zwo .new) (Ztk m.p).places,(Ztk m.p).kids,(Ztk m.p).owned,(Ztk m.p).points])]) ?_ ?_) ?_;simp -implicitDefEqProofs only[go_sem,seval];exact⟨Fz.same _,Fz.same _,Fz.same _⟩;simp only[Zv,Zy,and_true];refine FzO.of (cs:=[.msl 130 gp 0 m.verts.l.length 7,(.slice .new false 1 (Zpa (m.p.kidL m.verts.l.length) m.regions.l.length)),(.mapv (Zhc (m.p.ownK m.regions.l.length)) (Zpa (Zcc (m.p.ownK m.regions.l.length)) (m.p.ownK m.regions.l.length).length)),(.mapv (Zhc (m.p.pntK m.verts.l.length)) (Zpa (Zcc (m.p.pntK m.verts.l.length)) (m.p.pntK m.verts.l.length).length))]) rfl zp ⟨?_,?_,?_,?_,trivial⟩;have:=Z2b (F:=λo=>o==130) (H:=Zfa Zk [(130,AObj.cells .new gp 0 (flat ((List.range m.verts.l.length).map λj=>Zwo .new (plF m.p j)))),(138,.cells .new gx 0 [.msl 130 gp 0 m.verts.l.length 7,(.slice .new false 1 (Zpa (m.p.kidL m.verts.l.length) m.regions.l.length)),(.mapv (Zhc (m.p.ownK m.regions.l.length)) (Zpa (Zcc (m.p.ownK m.regions.l.length)) (m.p.ownK m.regions.l.length).length)),(.mapv (Zhc (m.p.pntK m.verts.l.length)) (Zpa (Zcc (m.p.pntK m.verts.l.length)) (m.p.pntK m.verts.l.length).length))])]) (o:=130) (g:=gp) (m:=7) (fz:=0) (c:=.new) (f:=Zwo .new) (l:=(List.range m.verts.l.length).map (plF m.p)) rfl (by rw[List.map_map];rfl) (plCells .new)
 rw[List.length_map,List.length_range]at this;unfold Ztk;rw[m.nv];exact this;unfold Ztk;rw[m.nv];exact Fz.same _;exact Fz.same _;unfold Ztk;rw[m.nv];exact Fz.same _;refine Z1f hlt ?_;refine Z1f hlt ?_;refine AW.weak (Zw (λo=>o==138) (l:=[(2,ixV .new .new .new (Ztk m.p)),(3,.int .i64 0)]) (m:=[]) ?_ trivial) ?_;simp -implicitDefEqProofs only[go_sem,seval];exact⟨Fz.ptr (v:=.agg [Za .new 7 (Zwo .new) (Ztk m.p).places,(Ztk m.p).kids,(Ztk m.p).owned,(Ztk m.p).points]) (c:=.new) (fz:=0) rfl zp,Fz.same _⟩;exact Zr
end Go.Hs
end

section
namespace Go.Hs
open Go.Proofs
set_option maxHeartbeats 1000000
set_option maxRecDepth 10000
theorem Zqq:∀ (l acc:List Int) (r:Int),Zfi acc (l++[r])=if 0<=r/\(Zfi acc l).contains r=false then Zfi acc l++[r]else Zfi acc l
 |[],acc,r=>rfl
 |x::t,acc,r=>by
  rw[List.cons_append,Zfi,Zfi];exact Zqq t _ r
theorem inIm(x:Int):∀ y∈(V.int .i64 x).cells,y.Im:=λy hy=>by
 simp only[V.cells,List.mem_cons,List.not_mem_nil,or_false]at hy;rw[hy];exact .int _ _
theorem Zgl(G:Nat->V)(hG:GOk G)(b c d e c2:Col)(m:MdM)(ns vs:Sl (List UInt8))(hm:m.p.Rt)(l:Sl Int)(hl:l.l≠[])(hll:l.l.length<1000000)(hr:∀ v∈l.l,0<=v/\v<m.p.vertices.length):
  Spec Tryz.prog G 171 [ckV b c d e m ns vs,Za c2 1 (V.int .i64) l] Zk (λw _=>w=.bool (m.p.partU l.l)):=by
 refine Zo 0 48 [.tmp 4] Tryz.func171 λX=>?_;have hl0:0<l.l.length:=List.length_pos_iff.2 hl;have hg0:=List.getElem?_eq_getElem hl0
 have hhd:l.l.headD 0=l.l[0]:=by rw[List.headD_eq_head?_getD,List.head?_eq_getElem?,hg0]<;>rfl
 obtain⟨v0,v1⟩:=hr l.l[0] (List.getElem_mem hl0);rw[PM.partU,hhd];generalize l.l[0]=v at hg0 v0 v1;refine Zf (zi hg0 hl0) ?_;refine Zc hG ?_ (s:=Zwc G hG _ _ _ _ m ns vs hm.toRt5 v v0 v1);refine Z ?_;refine Zcd (fun(w:Int)=>st [(0,ckV b c d e m ns vs),(1,Za c2 1 (V.int .i64) l),(5,.int .i64 (m.p.around w))] []) (λw=>0<=w/\w<m.p.vertices.length/\(m.p.ups v).any (λs=>Zdl [] (l.l.map (m.p.regU · s)))=(m.p.ups w).any λs=>Zdl [] (l.l.map (m.p.regU · s))) (λw=>(m.p.ups w).length) v ⟨v0,v1,rfl⟩ (Weak.st zp zp) ?_;rintro w ⟨w0,w1,hw⟩ L7 hL7
 by_cases ha:0<=m.p.around w
 rotate_left;have q0:decide (m.p.around w>=0)=false:=zF;rw[hw,PM.Acy.ups_nil zo];exact Zq q0;have q0:decide (m.p.around w>=0)=true:=zT
 have ha1:m.p.around w<m.p.vertices.length:=by
  rcases hm.acy.rng w w0 w1 with q|q
  omega;exact q.2
 have hup:=hm.acy.ups_cons w0 w1 ha;have hlen:=congrArg List.length hup;rw[List.length_cons]at hlen;rw[hup,List.any_cons]at hw;refine Zf q0 ?_;generalize hae:m.p.around w=a at ha ha1 hw hlen
 refine Zaa l.l.length (λk (g:Nat)=>st [(0,ckV b c d e m ns vs),(1,Za c2 1 (V.int .i64) l),(5,.int .i64 a),(6,grown 41 g 1 (Zfi [] ((l.l.take k).map (m.p.regU · a)))),(20,Za c2 1 (V.int .i64) l),(21,.int .i64 l.l.length),(22,.int .i64 k)] [(41,Zca g (V.int .i64) (Zfi [] ((l.l.take k).map (m.p.regU · a))))])
  (λ_ _=>True) 0 0 (Nat.zero_le _) trivial (Weak.st zp zp) ?_
 intro k g hk _ L3 hL3
 by_cases hk1:k<l.l.length
 .have hlt:decide ((k:Int)<(l.l.length:Int))=true:=zT
  have hg:=List.getElem?_eq_getElem hk1
  have htk:l.l.take (k+1)=l.l.take k++[l.l[k]]:=by rw[List.take_succ_eq_append_getElem hk1]
  obtain⟨x0,x1⟩:=hr l.l[k] (List.getElem_mem hk1);have hsl:=Z8r ((l.l.take k).map (m.p.regU · a)) [];rw[List.length_map,List.length_take]at hsl;generalize l.l[k]=x at hg htk x0 x1;have w2:IntKind.i64.wrap ((k:Int)+1)=(k:Int)+1:=w64 zo zo;rw[htk,List.map_append]at hL3;simp only[List.map_cons,List.map_nil,Zqq]at hL3;generalize Zfi [] ((l.l.take k).map (m.p.regU · a))=acc at hsl hL3
  have hsl:acc.length<=k:=by simp only[List.length_nil]at hsl;omega
  refine Zf (zi hlt hg) ?_;refine Zc hG ?_ (s:=Z2l G hG _ _ _ _ m ns vs hm x a x0 x1 ha);generalize m.p.regU x a=r at hL3
  by_cases hr0:0<=r
  rotate_left;have q1:decide (r>=0)=false:=zF;rw[if_neg (λh=>hr0 h.1)]at hL3;refine Zg (zi q1 w2) ?_;exact hL3 _ ⟨hk1,g,trivial,Weak.st zp zp⟩;have q1:decide (r>=0)=true:=zT;refine Zg q1 ?_;refine CallA.bor hG [Za .old 1 (V.int .i64) (Zb acc),.int .i64 r] zk ⟨Zym zp (λ_=>rfl) inIm (λ_=>rfl),Zta (.int _ _) rfl,trivial⟩ ?_;refine(Zik G hG .old r (Zb acc) (by rw[Zl];omega)).mono ?_;rintro _ _ rfl;rw[Zl];refine⟨.bool _,?_⟩;cases hc:acc.contains r;rw[if_pos ⟨hr0,hc⟩]at hL3;refine Zs ?_;refine Z ?_;intro g40;refine Zhb (f:=V.int .i64) (l:=acc) (l2:=[r]) (g:=g) (λ_=>rfl) rfl rfl rfl zp (Z9 zo zO) λg2=>?_;refine Zs ?_;refine Zf w2 ?_;exact hL3 _ ⟨hk1,g2,trivial,Weak.st zp zp⟩;rw[if_neg (λh=>by rw[hc]at h;cases h.2)]at hL3;refine Zs ?_;refine Zf w2 ?_;exact hL3 _ ⟨hk1,g,trivial,Weak.st zp zp⟩
 have hke:k=l.l.length:=zo;subst hke;rw[List.take_length];have hlt:decide ((l.l.length:Int)<(l.l.length:Int))=false:=zS;have hall:=Zkn (l.l.map (m.p.regU · a)) [];rw[List.length_nil,Nat.zero_add,List.length_map]at hall;rw[<- hall]at hw;generalize Zfi [] (l.l.map (m.p.regU · a))=acc at hw
 have e1:(((acc.length:Nat):Int)==((l.l.length:Nat):Int))=decide (acc.length=l.l.length):=by
  rw[Bool.eq_iff_iff,beq_iff_eq,decide_eq_true_eq];omega
 cases h:decide (acc.length=l.l.length);rw[h]at e1 hw;rw[Bool.false_or]at hw;refine Zf (zi hlt e1) ?_;refine Zc hG ?_ (s:=Zwc G hG _ _ _ _ m ns vs hm.toRt5 a ha ha1);refine Z ?_;exact hL7 _ ⟨a,zo,⟨ha,ha1,hw⟩,Weak.st zp zp⟩;rw[h]at e1 hw;rw[hw,Bool.true_or];exact Zq (zi hlt e1)
end Go.Hs
end

section
namespace Go.Hs
def sgT(op:Nat):List UInt8:=(tabL.getD op ⟨[],0,0⟩).text
def wNot:List UInt8:=[110,111,116]
def wTrue:List UInt8:=[116,114,117,101]
def wFalse:List UInt8:=[102,97,108,115,101]
inductive Gr:Int->List (List UInt8)->X->Prop where
 |num {n:Int} {t:List UInt8} {v:Int}:isP t=1->Zje (Zzg t)=(v,0)->Gr n [t] (.leaf 1 v [])
 |name {n:Int} {t:List UInt8}:isP t=2->Gr n [t] (.leaf 2 0 t)
 |tr {n:Int}:Gr n [wTrue] (.leaf 3 0 [])
 |fa {n:Int}:Gr n [wFalse] (.leaf 4 0 [])
 |neg {n:Int} {ts:List (List UInt8)} {a:X}:n<=9->Gr 9 ts a->Gr n ([45]::ts) (.un 5 a)
 |not {n:Int} {ts:List (List UInt8)} {a:X}:n<=9->Gr 9 ts a->Gr n (wNot::ts) (.un 6 a)
 |par {n:Int} {ts:List (List UInt8)} {a:X}:Gr 1 ts a->Gr n ([40]::(ts++[[41]])) a
 |bin {n:Int} {op:Nat} {ta tb:List (List UInt8)} {a b:X}:7<=op->op<=21->n<=lvl op->Gr (lvl op) ta a->Gr (lvl op+1) tb b->Gr n (ta++sgT op::tb) (.bin op a b)
 |ite {n:Int} {ta tb tc:List (List UInt8)} {a b c:X}:Gr 1 ta a->Gr 1 tb b->Gr 1 tc c->Gr n (wIf::(ta++Zq7::(tb++Zs7::(tc++[Z4m])))) (.ite a b c)
theorem Gr.mono{n m:Int}{ts:List (List UInt8)}{x:X}(h:Gr n ts x)(hm:m<=n):Gr m ts x:=by
 cases h with
 |num h1 h2=>exact .num h1 h2
 |name h1=>exact .name h1
 |tr=>exact .tr
 |fa=>exact .fa
 |neg h1 h2=>exact .neg (by omega) h2
 |not h1 h2=>exact .not (by omega) h2
 |par h1=>exact .par h1
 |bin h1 h2 h3 h4 h5=>exact .bin h1 h2 (by omega) h4 h5
 |ite h1 h2 h3=>exact .ite h1 h2 h3
theorem Gr.pos{n:Int}{ts:List (List UInt8)}{x:X}(h:Gr n ts x):0<ts.length:=by
 cases h<;>simp<;>omega
def wdOf(t:Tk):List UInt8:=if(isP t.text:Int)=t.kind then t.text else[]
theorem next_wd{l:List Tk}{i:Nat}{w:List UInt8}(h:(l.map wdOf)[i]?=some w):(Zma l i).text=w/\(Zma l i).kind=isP w:=by
 have hk:=Zss l i
 have:(Zma l i).text=w:=by
  rw[List.getElem?_map]at h;unfold Zma
  cases hg:l[i]? with
  |none=>rw[hg]at h;cases h
  |some t=>
   rw[hg]at h;simp only[Option.map_some,Option.some.injEq]at h;simp only;rw[<- h];unfold wdOf
   split<;>rfl
 exact⟨this,by rw[<- hk,this]⟩
theorem Zvfa{l:List Tk}{i:Nat}(h:i<l.length):(l.map wdOf)[i]?=some (Zma l i).text:=by
 have hg:(l.map wdOf)[i]?=some (wdOf l[i]):=by rw[List.getElem?_map,List.getElem?_eq_getElem h];rfl
 rw[hg,(next_wd hg).1]
def Seg(l:List Tk)(i:Nat)(ts:List (List UInt8)):Prop:=∃ pre post,l.map wdOf=pre++(ts++post)/\pre.length=i
theorem Seg.right{l:List Tk}{i:Nat}{a b:List (List UInt8)}(h:Seg l i (a++b)):Seg l (i+a.length) b:=by
 obtain⟨pre,post,e,hp⟩:=h;exact⟨pre++a,post,by rw[e];simp,by simp[hp]⟩
theorem Seg.le{l:List Tk}{i:Nat}{b:List (List UInt8)}(h:Seg l i b):i+b.length<=l.length:=by
 obtain⟨pre,post,e,hp⟩:=h;have:=congrArg List.length e;simp only[List.length_map,List.length_append]at this;omega
theorem Seg.app{l:List Tk}{i:Nat}{a b:List (List UInt8)}(h:Seg l i a)(h2:Seg l (i+a.length) b):Seg l i (a++b):=by
 obtain⟨pre,post,e,hp⟩:=h;obtain⟨pre2,post2,e2,hp2⟩:=h2;refine⟨pre,post2,?_,hp⟩;rw[e]at e2
 have h1:pre++(a++post)=(pre++a)++post:=by simp
 rw[h1]at e2;obtain⟨q1,q2⟩:=List.append_inj e2 (by simp[hp,hp2]);rw[e,q2];simp
theorem Seg.one{l:List Tk}{i:Nat}{w:List UInt8}(hi:i<l.length)(h:(Zma l i).text=w):Seg l i [w]:=by
 have hg:=Zvfa hi;rw[h]at hg;obtain⟨q1,q2⟩:=List.getElem?_eq_some_iff.1 hg;refine⟨(l.map wdOf).take i,(l.map wdOf).drop (i+1),?_,?_⟩;rw[<- q2,List.singleton_append,<- List.drop_eq_getElem_cons q1,List.take_append_drop];rw[List.length_take];omega
def after(r:RS)(k:Nat)(x:X):RS:=⟨r.i+k,r.nodes++x.row r.nodes.length,r.e⟩
theorem Z8ea{t:List UInt8}(h:isP t=1):0<=(Zje (Zzg t)).1:=by
 have hd:=(isP_dig h).2
 have h1:(Zzg t).all Zqb=true/\Zzg t≠[]:=by
  unfold Zzg
  split
  exact⟨by decide,by simp⟩;rename_i hn;refine⟨?_,hn⟩;rw[List.all_eq_true]at hd⊢;exact λx hx=>hd x ((List.dropWhile_sublist _).mem hx)
 obtain⟨h1,h2⟩:=h1;generalize Zzg t=s at h1 h2
 have hh':(s.head? == some 45)=false:=by
  cases s with
  |nil=>exact absurd rfl h2
  |cons c r=>
   rw[beq_eq_false_iff_ne];intro hc
   have hc:c=45:=by simpa using hc
   subst hc;rw[List.all_cons]at h1
   revert h1
   simp[Zqb]
 unfold Zje;rw[hh'];simp only[Bool.false_eq_true,if_false,or_false]
 split
 exact Int.le_refl _;unfold told
 split
 exact Int.natCast_nonneg _;exact Int.le_refl _
theorem Gr.ok{n:Int}{ts:List (List UInt8)}{x:X}(h:Gr n ts x):x.ok=true:=by
 induction h with
 |@num n t v h1 h2=>
  have hp:=Z8ea h1;rw[h2]at hp;have hp:0<=v:=hp
  have:Zxg ⟨1,v,[],-1,-1,-1⟩=true:=by
   unfold Zxg;rw[if_neg (by simp;omega),if_neg (by simp)];rfl
  simp only[X.ok,this,Bool.true_and];rfl
 |@name n t h1=>
  have:Zxg ⟨2,0,t,-1,-1,-1⟩=true:=by
   unfold Zxg;rw[if_neg (by simp),if_pos rfl,h1];rfl
  simp only[X.ok,this,Bool.true_and];rfl
 |tr=>rfl
 |fa=>rfl
 |neg _ _ ih=>simp only[X.ok,ih,Bool.and_true];rfl
 |not _ _ ih=>simp only[X.ok,ih,Bool.and_true];rfl
 |par _ ih=>exact ih
 |bin h1 h2 _ _ _ ih1 ih2=>
  simp only[X.ok,ih1,ih2,Bool.and_true,Bool.and_eq_true,decide_eq_true_eq];omega
 |ite _ _ _ i1 i2 i3=>simp only[X.ok,i1,i2,i3];rfl
end Go.Hs
end

section
namespace Go.Hs
open Go.Proofs
set_option maxRecDepth 10000
theorem wu8R{z:Int}(h:0<=z)(h2:z<256):IntKind.u8.wrap z=z:=by
 unfold IntKind.wrap;simp[IntKind.signed,IntKind.bits];omega
def Z4i(c:Col)(s:ASt):V:=.agg [.int .u8 s.kind,.str s.name,Za c 6 Zkb (Zb s.x)]
theorem Zbl(c:Col)(s:ASt):Z4i c s=.agg [.int .u8 s.kind,.str s.name,Za c 6 Zkb (Zb s.x)]:=rfl
end Go.Hs
end
