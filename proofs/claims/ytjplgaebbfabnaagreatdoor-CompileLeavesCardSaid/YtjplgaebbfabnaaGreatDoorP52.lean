/- A part. No condition. -/
import Derived.Test.YtjplgaebbfabnaaGreatDoorP50
import Derived.Test.YtjplgaebbfabnaaGreatDoorP51
set_option linter.all false
section
namespace Go.Hs
open Go.Proofs
set_option maxHeartbeats 4000000
set_option maxRecDepth 10000
def plZ(gO gI:Nat->Nat)(j:Nat):PlW:=⟨0,0,0,false,false,⟨4000000+j,gO j,[]⟩,⟨5000000+j,gI j,[]⟩⟩
def plX(a r:Int)(s p:Bool)(j:Nat):PlW:=⟨a,r,0,s,p,⟨4000000+j,0,[]⟩,⟨5000000+j,0,[]⟩⟩
def plB(m:PM)(d:Int)(j:Nat):PlW:=⟨m.around j,m.rgO j,d,m.kd j==1,decide (0<=(m.vx j).of),⟨4000000+j,0,[]⟩,⟨5000000+j,0,[]⟩⟩
def Vh(f:Nat->PlW)(n:Nat):List V:=flat (((List.range n).map f).map P3)
theorem Tx(f:Nat->PlW)(n:Nat):(Vh f n).length=n*7:=by rw[Vh,Xu Mq,List.length_map,List.length_range]
theorem Zrz{α : Type}(f:Nat -> α)(n i:Nat)(y : α):((List.range n).map f).set i y=(List.range n).map (Ya f i y):=by
 apply List.ext_getElem;simp;intro j b a;rw[List.getElem_set];simp only[List.getElem_map,List.getElem_range,Ya]
 by_cases e:i=j
 subst e;simp;rw[if_neg e,if_neg (Ne.symm e)]
theorem Dy{α : Type}(f:Nat -> α){n i:Nat}(h:i<n):((List.range n).map f)[i]?=some (f i):=by
 rw[List.getElem?_map,List.getElem?_range h]<;>rfl
theorem Sv{f:Nat->PlW}{n i j:Nat}{v:V}(y:PlW)(hi:i<n)(b:j<7)(a:(P3 y).cells=(P3 (f i)).cells.set j v):(Vh f n).set (i*7+j) v=Vh (Ya f i y) n:=by
 rw[Vh,M1 Mq b (Dy f hi) a,Zrz,Vh]
theorem Jw{f:Nat->PlW}{n i j:Nat}{v:V}(hi:i<n)(b:j<7)(a:(P3 (f i)).cells[j]?=some v):(Vh f n)[i*7+j]?=some v:=Lx Mq b (Dy f hi) a
theorem Nc{α : Type}(f:Nat -> α)(i:Nat)(x y : α):Ya (Ya f i x) i y=Ya f i y:=by
 funext j
 simp only[Ya]
 split<;>rfl
theorem Kz{f f':Nat->PlW}{n:Nat}(h:∀ j,j<n->f j=f' j):Vh f n=Vh f' n:=by
 unfold Vh;rw[List.map_congr_left λj a=>h j (List.mem_range.1 a)]
def dpI(m:PM)(j:Nat):Int:=((Ma m (m.around j)).length:Nat)
def f3(m:PM)(i j:Nat):PlW:=plB m (if j<i then dpI m j else 0) j
theorem Zhba(m:PM)(i:Nat):Ya (f3 m i) i (plB m (dpI m i) i)=f3 m (i+1):=by
 funext j
 by_cases e:j=i
 subst e;rw[Ym,f3,if_pos (Nat.lt_succ_self _)];rw[Zp _ _ e,f3,f3]
 by_cases q:j<i
 rw[if_pos q,if_pos zo];rw[if_neg q,if_neg zo]
theorem Znk{κ : Type}{B:Nat}:∀ (xs:List κ) (n:Nat),n+xs.length<=B->R6 (fun(s:Nat) (_ : κ)=>s<B/\(none:Option Code)=none) (λs _=>((none:Option Code).isNone,s+1)) n xs
 |[],_,_=>trivial
 |_::r,n,h=>⟨⟨by simp at h;omega,rfl⟩,λ_=>Znk r (n+1) (by simp at h;omega)⟩
theorem Z4a{κ : Type}:∀ (xs:List κ) (n:Nat),(Yx (fun(s:Nat) (_ : κ)=>((none:Option Code).isNone,s+1)) n xs).2=n+xs.length
 |[],_=>rfl
 |_::r,n=>by
  show(Yx _ (n+1) r).2=_
  rw[Z4a r (n+1),List.length_cons];omega
theorem Zyba(m:PM)(v:Int):(Ma m v).length<=66:=by
 have a:∀ (f:Nat) (v:Int),(m.upsF f v).length<=f:=by
  intro f
  induction f with
  |zero=>intro v;exact Nat.le_refl _
  |succ f ih=>
   intro v;rw[PM.upsF]
   split
   exact Nat.zero_le _;rw[List.length_cons];exact Nat.succ_le_succ (ih _)
 unfold Ma
 split
 rw[List.length_cons];exact Nat.succ_le_succ (a 65 v);exact Nat.zero_le _
def f4(m:PM)(gO gI:Nat->Nat)(t j:Nat):PlW:=⟨m.around j,m.rgO j,dpI m j,m.kd j==1,decide (0<=(m.vx j).of),⟨4000000+j,gO j,m.wysI j false t⟩,⟨5000000+j,gI j,m.wysI j true t⟩⟩
theorem Zzz(m:PM)(gO gI:Nat->Nat)(t n na a t1 c:Nat)(ha:na<n)(e:a<n)(g:(m.wy (t:Int)).source=(na:Int))(f:(m.wy (t:Int)).target=(a:Int)):
  ((Vh (f4 m gO gI t) n).set (na*7+5) (grown (4000000+na) t1 1 (m.wysI na false t++[(t:Int)]))).set (a*7+6) (grown (5000000+a) c 1 (m.wysI a true t++[(t:Int)]))=Vh (f4 m (Ya gO na t1) (Ya gI a c) (t+1)) n:=by
 rw[Sv (j:=5) (v:=grown (4000000+na) t1 1 (m.wysI na false t++[(t:Int)])) { f4 m gO gI t na with out:=⟨4000000+na,t1,m.wysI na false t++[(t:Int)]⟩ } ha zd rfl,
  Sv (j:=6) (v:=grown (5000000+a) c 1 (m.wysI a true t++[(t:Int)])) { Ya (f4 m gO gI t) na { f4 m gO gI t na with out:=⟨4000000+na,t1,m.wysI na false t++[(t:Int)]⟩ } a with into:=⟨5000000+a,c,m.wysI a true t++[(t:Int)]⟩ } e zd rfl]
 refine Kz λj _=>?_;have h:=congrFun (PM.outs_next (m:=m) g) j;have i:=congrFun (PM.intos_next (m:=m) f) j;unfold f4;rw[h,i];simp only[Ya]
 by_cases d:j=a
 subst d
 by_cases b:j=na
 subst b;simp;simp[b]
 by_cases b:j=na
 subst b;simp[d];simp[d,b]
def plF(m:PM)(j:Nat):PlM:=⟨m.around j,m.rgO j,dpI m j,m.kd j==1,decide (0<=(m.vx j).of),Zd (m.outI j),Zd (m.intoI j)⟩
def Ue(m:PM):IxM:=⟨.mk false ((List.range m.vertices.length).map (plF m)),.slice .new false 1 (Y2 (m.kidL m.vertices.length) m.regions.length),.mapv (Xh (m.ownK m.regions.length)) (Y2 (Y9 (m.ownK m.regions.length)) (m.ownK m.regions.length).length),
 .mapv (Xh (m.pntK m.vertices.length)) (Y2 (Y9 (m.pntK m.vertices.length)) (m.pntK m.vertices.length).length)⟩
theorem Lu{m:PM}{i:Nat}{p:PlM}(h:(Ue m).places.l[i]?=some p):p=plF m i:=by
 have h:((List.range m.vertices.length).map (plF m))[i]?=some p:=h;rw[List.getElem?_map]at h
 cases a:(List.range m.vertices.length)[i]? with
 |none=>rw[a]at h;cases h
 |some j=>
  obtain⟨_,b⟩:=List.getElem?_eq_some_iff.1 a;rw[List.getElem_range]at b;subst b;rw[a]at h;cases h;rfl
theorem Z5s(m:PM):IxP m (Ue m) where
 len:=by show((List.range m.vertices.length).map (plF m)).length=_;rw[List.length_map,List.length_range]
 par:=λi p h=>by rw[Lu h]<;>rfl
 reg:=λi p h=>by rw[Lu h]<;>rfl
 st:=λi p h=>by rw[Lu h]<;>rfl
 pt:=λi p h=>by rw[Lu h]<;>rfl
 out:=λi p h=>by rw[Lu h];exact Zm _
 into:=λi p h=>by rw[Lu h];exact Zm _
theorem Zfaa(gO gI:Nat->Nat):∀ n,V5 n [.int .i64 0,.int .i64 0,.int .i64 0,.bool false,.bool false,.nils,.nils]=Vh (plZ gO gI) n:=by
 intro n
 have a:∀ (k n:Nat),V5 n [V.int .i64 0,.int .i64 0,.int .i64 0,.bool false,.bool false,.nils,.nils]=flat (((List.range' k n).map (plZ gO gI)).map P3):=by
  intro k n
  induction n generalizing k with
  |zero=>rfl
  |succ n ih=>
   rw[List.range'_succ,List.map_cons,List.map_cons]
   show _++V5 n _=(P3 _).cells++flat _
   rw[ih (k+1)]<;>rfl
 rw[a 0 n,Vh,List.range_eq_range']
theorem Zoz(B:Nat)(g:Nat->Nat):∀ n,V5 n [V.nils]=(List.range n).map (Su B g λ_=>[]):=by
 intro n
 have a:∀ (k n:Nat),V5 n [V.nils]=(List.range' k n).map (Su B g λ_=>[]):=by
  intro k n
  induction n generalizing k with
  |zero=>rfl
  |succ n ih=>
   rw[List.range'_succ,List.map_cons]
   show[V.nils]++V5 n _=_
   rw[ih (k+1)]<;>rfl
 rw[a 0 n,List.range_eq_range']
theorem Z3i{f A Z:Nat->PlW}{i n:Nat}(b:∀ j,j<n->f j=if j<i then A j else Z j):∀ j,j<n->Ya f i (A i) j=if j<i+1 then A j else Z j:=by
 intro j a
 by_cases e:j=i
 subst e;rw[Ym,if_pos (Nat.lt_succ_self _)];rw[Zp _ _ e,b j a]
 by_cases q:j<i
 rw[if_pos q,if_pos zo];rw[if_neg q,if_neg zo]
theorem Ztj(B:Nat)(g:Nat->Nat)(L:List (Int×List Int))(k:Int):Q7 Tryz.prog 139 (.mapv (Xh L) (Q9 B g L)) (.int .i64 k) false=some (Su B g (Y9 L) (St L k)):=by
 unfold Q7;rw[Tryz.underlying139];simp only[Zpj,Tryz.underlying3,Gh k L _ (Z97 B g L)];rw[<- Za8]
 cases(Q9 B g L)[St L k]? <;> rfl
theorem Zbr(l:Nat->List Int)(n:Nat):flat (Y2 l n)=Y2 l n:=by
 unfold Y2
 induction List.range n with
 |nil=>rfl
 |cons x r ih=>
  rw[List.map_cons]
  show(Za Col.new 1 (V.int .i64) (Zd (l x))).cells++flat _=_
  rw[ih]
  cases l x<;>rfl
theorem Fz.rows{F:Nat->Bool}{H:Heap}{o g fz n:Nat}{c:Col}{l:Nat->List Int}(b:F o=true)(a:H o=.cells c g fz (Y2 l n)):Fz F H (.msl o g 0 n 1) (.slice c false 1 (Y2 l n)):=by
 have e:Y2 l n=(List.range n).map λj=>Za .new 1 (V.int .i64) (Zd (l j)):=rfl;have:=Xa (F:=F) (H:=H) (o:=o) (g:=g) (m:=1) (fz:=fz) (c:=c) (f:=λj=>Za .new 1 (V.int .i64) (Zd (l j))) (l:=List.range n) b (by rw[a,<- e,Zbr]) (λj=>by cases l j<;>rfl);rw[List.length_range]at this;exact this
theorem Cl(G:Nat->V)(hE:GExp G)(c d:Col)(m:MdM)(hb:MdB m)(a:m.p.Acy)(hr:m.p.rightP.2.2=0):
  Spec Tryz.prog G 28 [Zw c d m] Zj (λw _=>w=.tuple [Uj .new .new .new (Ue m.p),.int .i64 0]):=by
 have hG:=hE.ok;refine ZoM 100 234 [.tmp 2,.tmp 3] Tryz.func28 λX=>?_;simp only[Zi];refine Z ?_;intro g1;refine AW.weak (Zl (λo=>o==101) (l:=[(1,.view .new (Zw c d m)),(2,.nilp),(3,.int .i64 0)]) (m:=[]) ?_ trivial) ?_;simp -implicitDefEqProofs only[go_sem,seval];exact⟨Fz.ptr (v:=Zw c d m) (c:=.new) (fz:=0) zp (by rw[Zi];exact zp),Zb,Zb⟩;refine Zf Zi ?_;refine Zc hG ?_ (s:=Dn G hE _ _ m hb);refine Xr hr ?_;refine Zf hr ?_;have rtA:=PM.rt_of (PM.right_er.1 hr);have rt:=rtA.toRt5;refine I7 Zi hG ?_;have hnx:=hb.nx;have hnr:=hb.nr;refine⟨⟨Int.le_refl _,zo,zo⟩,λq=>⟨⟨Int.le_refl _,zo,zo⟩,λA R C x g7=>?_⟩⟩;rw[<- Zi];refine AW.weak (Zl (λo=>o==107) (l:=[(1,.view .new (Zw c d m)),(7,.view .new (.ptr 138 x 0))]) (m:=[(130,.cells .new q 0 (V5 m.verts.l.length [.int .i64 0,.int .i64 0,.int .i64 0,.bool false,.bool false,.nils,.nils])),(134,.cells .new A 0 (V5 m.regions.l.length [.nils])),(135,.mp X.w.heap.size R [] []),(136,.mp X.w.heap.size C [] []),(138,.cells .new x 0 [.msl 130 q 0 m.verts.l.length 7,.msl 134 A 0 m.regions.l.length 1,.mref 135 R,.mref 136 C])]) ?_ ?_) ?_;simp -implicitDefEqProofs only[go_sem,seval];exact⟨Zb,Fz.ptr (v:=.ptr 138 x 0) (c:=.new) (fz:=0) zp zp⟩;simp only[Zt,Zv,and_true];exact⟨FzO.keep rfl zp,FzO.keep rfl zp,FzO.keep rfl zp,FzO.keep rfl zp,FzO.keep rfl zp⟩;refine Zf Zi ?_
 refine Yc m.regions.l.length (λk (g:Nat->Nat)=>⟨Z5 La [(1,.view .new (Zw c d m)),(7,.view .new (.ptr 138 x 0)),(40,Za c 2 Z3 m.regions),(41,.int .i64 m.regions.l.length),(42,.int .i64 k)],Z5 (Wt 1000000 g (Y9 (m.p.ownK k)) Zj) [(130,.cells .new q 0 (V5 m.verts.l.length [.int .i64 0,.int .i64 0,.int .i64 0,.bool false,.bool false,.nils,.nils])),(134,.cells .new A 0 (V5 m.regions.l.length [.nils])),(135,.mp X.w.heap.size R (Xh (m.p.ownK k)) (Q9 1000000 g (m.p.ownK k))),(136,.mp X.w.heap.size C [] []),(138,.cells .new x 0 [.msl 130 q 0 m.verts.l.length 7,.msl 134 A 0 m.regions.l.length 1,.mref 135 R,.mref 136 C])]⟩)
  (λ_ _=>True) 0 (λ_=>0) (Nat.zero_le _) trivial (Qc (by rw[Zi];exact zp) zp ?_) ?_
 intro o;refine .inl ?_
 show Wt _ _ _ _ o=_
 unfold Wt
 split<;>rfl
 intro k g hk _ L hL
 by_cases hk1:k<m.regions.l.length
 have E:decide ((k:Int)<(m.regions.l.length:Int))=true:=zT;have hg:=List.getElem?_eq_getElem hk1;generalize m.regions.l[k]=J at hg;have how:=Gr hg;refine Zf (zi E (zi hg (zi hk1 (zi @Wb Yh)))) ?_;intro g9;refine Ui [(139,.ptr 138 x 2,.mref 135 R),(3,.ptr 109 g9 1,.int .i64 J.2)] ⟨λj=>if j=3 then .mref 135 R else if j=9 then .mref 135 R else .int .i64 J.2,λj=>if j=0 then .lend else if j=6 then .lend else .keep⟩ zk hG zk zk ?_;simp -implicitDefEqProofs only[go_sem,seval,Ztj 1000000 g (m.p.ownK k) J.2,@Int.natCast_nonneg,@Int.ofNat_lt,true_or,or_true];refine⟨rfl,λg61=>?_⟩;have hix:=Gc (m.p.ownK k) J.2;have hkl:=PM.ownK_len (m:=m.p) k;refine Pf (f:=V.int .i64) (o:=1000000+St (m.p.ownK k) J.2) (g:=g (St (m.p.ownK k) J.2)) (l:=Y9 (m.p.ownK k) (St (m.p.ownK k) J.2)) (l2:=[(k:Int)]) (λ_=>rfl) rfl rfl rfl ?_ ?_ λo2 g2 I=>?_
 (repeat rw[Zp _ _ zo])
 exact S5 zo;have:=PM.ownK_row (m:=m.p) k (St (m.p.ownK k) J.2);exact Z4 zo zO;have I:o2=1000000+St (m.p.ownK k) J.2\/o2=162:=I;have N:(138=o2)=False:=eq_false zo;have n109:(109=o2)=False:=eq_false zo;have n135:(135=o2)=False:=eq_false zo;have n2:(o2=135)=False:=eq_false zo;simp -implicitDefEqProofs only[go_sem,seval,Ns Tryz.underlying139 Tryz.underlying3,Zzi 1000000 g (m.p.ownK k) J.2 k,Hu,Nat.le_refl,N,n109,n135]
 refine N6 [(1,.view .new (Zw c d m)),(7,.view .new (.ptr 138 x 0)),(40,Za c 2 Z3 m.regions),(41,.int .i64 m.regions.l.length),(42,.int .i64 k)] (g:=g) (l:=Y9 (m.p.ownK k)) (H0:=Zj) (m:=[(130,.cells .new q 0 (V5 m.verts.l.length [.int .i64 0,.int .i64 0,.int .i64 0,.bool false,.bool false,.nils,.nils])),(134,.cells .new A 0 (V5 m.regions.l.length [.nils])),(135,.mp X.w.heap.size R (Xh (m.p.ownK k)) (Q9 1000000 g (m.p.ownK k))),(136,.mp X.w.heap.size C [] []),(138,.cells .new x 0 [.msl 130 q 0 m.verts.l.length 7,.msl 134 A 0 m.regions.l.length 1,.mref 135 R,.mref 136 C])]) 135 1000000 162 (St (m.p.ownK k) J.2) (λu=>.mp X.w.heap.size R (Xh (Sb (m.p.ownK k) J.2 k)) (Kx 1000000 g (m.p.ownK k) J.2 u)) (o2:=o2) (g2:=g2) (r:=Y9 (m.p.ownK k) (St (m.p.ownK k) J.2)++[(k:Int)]) zS I zo
  (λa t b s=>RnX.mp (Rn.row a t b s zS)) (zq n2) (zp) (λo h1 h2 h3=>?_) zp λt=>?_
 by_cases e1:o=109
 subst e1;exact .inl rfl
 by_cases e2:o=161
 subst e2;exact .inl rfl
 right
 (repeat rw[Zp _ _ zo])
 rfl;have w1:IntKind.i64.wrap ((k:Int)+1)=(k:Int)+1:=Wy zo zo;refine Zf w1 ?_
 have eR:Y9 (m.p.ownK (k+1))=Ya (Y9 (m.p.ownK k)) (St (m.p.ownK k) J.2) (Y9 (m.p.ownK k) (St (m.p.ownK k) J.2)++[(k:Int)]):=by
  rw[PM.ownK_succ,how];exact funext λj=>Mo _ _ _ j
 have eM:=Zfi 1000000 g (m.p.ownK k) J.2 k t
 have eS:Sb (m.p.ownK k) J.2 k=m.p.ownK (k+1):=by rw[PM.ownK_succ,how]
 rw[eS]at eM⊢;rw[eM,<- eR];refine hL _ ⟨hk1,Ya g (St (m.p.ownK k) J.2) t,trivial,Qc zp zp λo=>?_⟩;exact Z87 (m:=(135,_)::(162,.dead)::[(130,.cells .new q 0 (V5 m.verts.l.length [.int .i64 0,.int .i64 0,.int .i64 0,.bool false,.bool false,.nils,.nils])),(134,.cells .new A 0 (V5 m.regions.l.length [.nils])),(135,.mp X.w.heap.size R (Xh (m.p.ownK k)) (Q9 1000000 g (m.p.ownK k))),(136,.mp X.w.heap.size C [] []),(138,.cells .new x 0 [.msl 130 q 0 m.verts.l.length 7,.msl 134 A 0 m.regions.l.length 1,.mref 135 R,.mref 136 C])]) rfl o;have hke:k=m.regions.l.length:=zo;have E:decide ((m.regions.l.length:Int)<(m.regions.l.length:Int))=false:=zF;have hkl:=PM.ownK_len (m:=m.p) m.regions.l.length;rw[hke];refine AW.weak (Zl (λo=>Nat.ble 1000000 o) (l:=[(1,.view .new (Zw c d m)),(7,.view .new (.ptr 138 x 0)),(41,.int .i64 m.regions.l.length),(42,.int .i64 m.regions.l.length)]) (m:=[(130,.cells .new q 0 (V5 m.verts.l.length [.int .i64 0,.int .i64 0,.int .i64 0,.bool false,.bool false,.nils,.nils])),(134,.cells .new A 0 (V5 m.regions.l.length [.nils])),(135,.mp X.w.heap.size R (Xh (m.p.ownK m.regions.l.length)) (Y2 (Y9 (m.p.ownK m.regions.l.length)) (m.p.ownK m.regions.l.length).length)),(136,.mp X.w.heap.size C [] []),(138,.cells .new x 0 [.msl 130 q 0 m.verts.l.length 7,.msl 134 A 0 m.regions.l.length 1,.mref 135 R,.mref 136 C])]) ?_ ?_) ?_;simp -implicitDefEqProofs only[go_sem,seval];exact⟨Zb,Zb,Zb⟩;simp only[Zt,Zv,and_true]
 exact⟨FzO.keep rfl zp,FzO.keep rfl zp,Z8p zp (FzL.fam zo (λj _=>Nat.ble_eq_true_of_le zo) λj U=>(Sa (lo:=1000000) rfl zo).trans (S5 U)),FzO.keep rfl zp,FzO.keep rfl zp⟩;refine AW.weak (B0 135 (lo:=X.w.heap.size) (b:=R) (ks:=Xh (m.p.ownK m.regions.l.length)) (vs:=Y2 (Y9 (m.p.ownK m.regions.l.length)) (m.p.ownK m.regions.l.length).length) [(1,.view .new (Zw c d m)),(7,.view .new (.ptr 138 x 0)),(41,.int .i64 m.regions.l.length),(42,.int .i64 m.regions.l.length)] [(130,.cells .new q 0 (V5 m.verts.l.length [.int .i64 0,.int .i64 0,.int .i64 0,.bool false,.bool false,.nils,.nils])),(134,.cells .new A 0 (V5 m.regions.l.length [.nils])),(136,.mp X.w.heap.size C [] []),(138,.cells .new x 0 [.msl 130 q 0 m.verts.l.length 7,.msl 134 A 0 m.regions.l.length 1,(.mapv (Xh (m.p.ownK m.regions.l.length)) (Y2 (Y9 (m.p.ownK m.regions.l.length)) (m.p.ownK m.regions.l.length).length)),.mref 136 C])] zp (Nat.le_refl _) ?_ ?_) ?_;simp -implicitDefEqProofs only[go_sem,seval];exact⟨.inl rfl,.inl rfl,.inl rfl⟩;simp -implicitDefEqProofs only[go_sem,seval];exact⟨MZO.same ..,MZO.same ..,MZO.same ..,_,rfl,.inl rfl,.inl rfl,.inr ⟨rfl,rfl⟩,.inl rfl,trivial⟩;refine Zf (zi E Zi) ?_
 refine Yc m.verts.l.length (λi (z:(Nat->PlW)×(Nat->Nat)×(Nat->Nat))=>⟨Z5 La [(1,.view .new (Zw c d m)),(7,.view .new (.ptr 138 x 0)),(65,Za c 8 (Yf d) m.verts),(66,.int .i64 m.verts.l.length),(67,.int .i64 i)],Z5 (Wt 2000000 z.2.1 (m.p.kidL i) (Wt 3000000 z.2.2 (Y9 (m.p.pntK i)) Zj)) [(130,.cells .new q 0 (Vh z.1 m.verts.l.length)),(134,.cells .new A 0 ((List.range m.regions.l.length).map (Su 2000000 z.2.1 (m.p.kidL i)))),(136,.mp X.w.heap.size C (Xh (m.p.pntK i)) (Q9 3000000 z.2.2 (m.p.pntK i))),(138,.cells .new x 0 [.msl 130 q 0 m.verts.l.length 7,.msl 134 A 0 m.regions.l.length 1,(.mapv (Xh (m.p.ownK m.regions.l.length)) (Y2 (Y9 (m.p.ownK m.regions.l.length)) (m.p.ownK m.regions.l.length).length)),.mref 136 C])]⟩)
  (λi z=>∀ j,j<m.verts.l.length->z.1 j=if j<i then plB m.p 0 j else plZ (λ_=>0) (λ_=>0) j) 0 (plZ (λ_=>0) (λ_=>0),λ_=>0,λ_=>0) (Nat.zero_le _) (λj U=>(if_neg (Nat.not_lt_zero _)).symm) (Qc (by rw[Zi];exact zp) ?_ ?_) ?_
 simp -implicitDefEqProofs only[go_sem,seval];rw[Zfaa (λ_=>0) (λ_=>0),Zoz 2000000 (λ_=>0)];exact⟨rfl,rfl,rfl⟩;intro o;refine .inl ?_
 show Wt _ _ _ _ o=_
 unfold Wt
 split
 rfl
 split<;>rfl
 rintro i ⟨f,M,K⟩ hi hR L2 hL2;simp only at hR
 by_cases y:i<m.verts.l.length
 have E:decide ((i:Int)<(m.verts.l.length:Int))=true:=zT;have hg:=List.getElem?_eq_getElem y;generalize m.verts.l[i]=D at hg;have O:=Qx hg;refine Zf (zi E (zi hg (zi y (zi Zz Yh)))) ?_;intro g11;refine AW.weak (Zfb (λo=>o==111) (B:=(Wt 2000000 M (m.p.kidL i) (Wt 3000000 K (Y9 (m.p.pntK i)) Zj))) (l:=[(10,.int .i64 i),(1,.view .new (Zw c d m)),(7,.view .new (.ptr 138 x 0)),(65,Za c 8 (Yf d) m.verts),(66,.int .i64 m.verts.l.length),(67,.int .i64 i),(11,.view .new (Yf d D))]) (m:=[(130,.cells .new q 0 (Vh f m.verts.l.length)),(134,.cells .new A 0 ((List.range m.regions.l.length).map (Su 2000000 M (m.p.kidL i)))),(136,.mp X.w.heap.size C (Xh (m.p.pntK i)) (Q9 3000000 K (m.p.pntK i))),(138,.cells .new x 0 [.msl 130 q 0 m.verts.l.length 7,.msl 134 A 0 m.regions.l.length 1,(.mapv (Xh (m.p.ownK m.regions.l.length)) (Y2 (Y9 (m.p.ownK m.regions.l.length)) (m.p.ownK m.regions.l.length).length)),.mref 136 C])]) ?_ ?_ λo=>?_) ?_;simp -implicitDefEqProofs only[go_sem,seval];exact⟨Zb,Zb,Zb,Zb,Zb,Zb,Fz.ptr (v:=Yf d D) (c:=.new) (fz:=0) rfl zp⟩;simp only[Zt,Zv,and_true];exact⟨FzO.keep rfl zp,FzO.keep rfl zp,FzO.keep rfl zp,FzO.keep rfl zp⟩;exact B3 (lo:=2000000) (((Lows.none 2000000).fam zd).fam zd) (λo ho=>beq_false_of_ne (show o≠111 by omega)) (m:=(111,_)::(111,_)::[(130,.cells .new q 0 (Vh f m.verts.l.length)),(134,.cells .new A 0 ((List.range m.regions.l.length).map (Su 2000000 M (m.p.kidL i)))),(136,.mp X.w.heap.size C (Xh (m.p.pntK i)) (Q9 3000000 K (m.p.pntK i))),(138,.cells .new x 0 [.msl 130 q 0 m.verts.l.length 7,.msl 134 A 0 m.regions.l.length 1,(.mapv (Xh (m.p.ownK m.regions.l.length)) (Y2 (Y9 (m.p.ownK m.regions.l.length)) (m.p.ownK m.regions.l.length).length)),.mref 136 C])]) rfl o
 refine Zf (zi y (zi Zz Yh)) ?_;refine Zy ⟨λ_=>.top,λ_=>.lend⟩ zk hG zk zk ?_;have h3:=Sv (f:=f) (n:=m.verts.l.length) (j:=3) (v:=.bool (D.kind==1)) (plX 0 0 (D.kind==1) false i) y zd (by rw[hR i y,if_neg (Nat.lt_irrefl _)];rfl);have h4:=Sv (f:=Ya f i (plX 0 0 (D.kind==1) false i)) (n:=m.verts.l.length) (j:=4) (v:=.bool (decide (D.of>=0))) (plX 0 0 (D.kind==1) (decide (D.of>=0)) i) y zd (by rw[Ym];rfl);rw[Nc]at h4;have c3:i*7+3+1<=m.verts.l.length*7:=zo;have c4:i*7+4+1<=m.verts.l.length*7:=zo;have c5:i*7+4<m.verts.l.length*7:=zo;refine Xr (zi y (zi @Tx (zi c3 (zi c4 (zi h3 h4))))) ?_;have h5:=Jw (f:=Ya f i (plX 0 0 (D.kind==1) (decide (D.of>=0)) i)) (n:=m.verts.l.length) (j:=4) (v:=.bool (decide (D.of>=0))) y zd (by rw[Ym];rfl);generalize hf4:Ya f i (plX 0 0 (D.kind==1) (decide (D.of>=0)) i)=f4 at h5
 have h6:f4 i=plX 0 0 (D.kind==1) (decide (D.of>=0)) i:=by rw[<- hf4,Ym]
 refine AW.weak (Qc (B:=(Wt 2000000 M (m.p.kidL i) (Wt 3000000 K (Y9 (m.p.pntK i)) Zj))) (l:=[(1,.view .new (Zw c d m)),(7,.view .new (.ptr 138 x 0)),(65,Za c 8 (Yf d) m.verts),(66,.int .i64 m.verts.l.length),(67,.int .i64 i),(10,.int .i64 i),(11,.view .new (Yf d D)),(12,.ptr 130 q (i*7))]) (m:=[(130,.cells .new q 0 (Vh f4 m.verts.l.length)),(134,.cells .new A 0 ((List.range m.regions.l.length).map (Su 2000000 M (m.p.kidL i)))),(136,.mp X.w.heap.size C (Xh (m.p.pntK i)) (Q9 3000000 K (m.p.pntK i))),(138,.cells .new x 0 [.msl 130 q 0 m.verts.l.length 7,.msl 134 A 0 m.regions.l.length 1,(.mapv (Xh (m.p.ownK m.regions.l.length)) (Y2 (Y9 (m.p.ownK m.regions.l.length)) (m.p.ownK m.regions.l.length).length)),.mref 136 C])]) (by rw[Zz];exact zp) zp λo=>?_) ?_;exact Lows.base (lo:=2000000) (((Lows.none 2000000).fam zd).fam zd) (m:=(130,_)::(130,_)::[(130,.cells .new q 0 (Vh f m.verts.l.length)),(134,.cells .new A 0 ((List.range m.regions.l.length).map (Su 2000000 M (m.p.kidL i)))),(136,.mp X.w.heap.size C (Xh (m.p.pntK i)) (Q9 3000000 K (m.p.pntK i))),(138,.cells .new x 0 [.msl 130 q 0 m.verts.l.length 7,.msl 134 A 0 m.regions.l.length 1,(.mapv (Xh (m.p.ownK m.regions.l.length)) (Y2 (Y9 (m.p.ownK m.regions.l.length)) (m.p.ownK m.regions.l.length).length)),.mref 136 C])]) rfl o
 by_cases ho:0<=D.of
 have q0:decide (D.of>=0)=true:=zT;rw[q0]at h5 h6;have hpt:=rt.pt (v:=(i:Int)) (Int.natCast_nonneg i) (by rw[m.nv];omega);rw[O]at hpt;obtain⟨_,hp1,_⟩:=hpt.resolve_right (λh=>by have:D.of = -1:=h.1;omega);have hp1:D.of<m.p.vertices.length:=hp1;obtain⟨o,vo,hoe,hok,hgo,hvo⟩:=MdM.at ho hp1;have f2:=zi hoe (zi hok (zi hgo (zi Zz (zi Zi Yh))));refine Zf (zi h5 (zi Tx (zi c4 (zi c5 Zz)))) ?_;refine Zy ⟨λ_=>.top,λ_=>.lend⟩ zk hG zk zk ?_;have s0:(Vh f4 m.verts.l.length).set (i*7) (.int .i64 (o:Int))=_:=Sv (f:=f4) (j:=0) (plX (o:Int) 0 (D.kind==1) true i) y zd (by rw[h6];rfl);have s1:=Sv (f:=Ya f4 i (plX (o:Int) 0 (D.kind==1) true i)) (n:=m.verts.l.length) (j:=1) (v:=.int .i64 vo.region) (plX (o:Int) vo.region (D.kind==1) true i) y zd (by rw[Ym];rfl);rw[Nc]at s1;have k0:i*7+1<=m.verts.l.length*7:=zo;have k1:i*7+1+1<=m.verts.l.length*7:=zo;simp -implicitDefEqProofs only[go_sem,seval,f2,y,Tx,k0,k1,s0,s1,Nat.zero_le];generalize hf6:Ya f4 i (plX (o:Int) vo.region (D.kind==1) true i)=f6;refine Z6 ?_;refine Ui [(139,.ptr 138 x 3,.mref 136 C)] ⟨λj=>.mref 136 C,λj=>if j=3 then .keep else if j=9 then .keep else .lend⟩ zk hG zk zk ?_;have hpl:=PM.pntK_len (m:=m.p) i;have hix:=Gc (m.p.pntK i) (o:Int);simp -implicitDefEqProofs only[go_sem,seval,Ztj 3000000 K (m.p.pntK i) (o:Int)];refine⟨rfl,λg23=>?_⟩;refine Pf (f:=V.int .i64) (o:=3000000+St (m.p.pntK i) (o:Int)) (g:=K (St (m.p.pntK i) (o:Int))) (l:=Y9 (m.p.pntK i) (St (m.p.pntK i) (o:Int))) (l2:=[(i:Int)]) (λ_=>rfl) rfl rfl rfl ?_ ?_ λo2 g2 I=>?_
 (repeat rw[Zp _ _ zo])
 rw[Tj zo];exact S5 zo;have:=PM.pntK_row (m:=m.p) i (St (m.p.pntK i) (o:Int));exact Z4 zo zO;have I:o2=3000000+St (m.p.pntK i) (o:Int)\/o2=224:=I;have N:(138=o2)=False:=eq_false zo;have n136:(136=o2)=False:=eq_false zo;have n2:(o2=136)=False:=eq_false zo;simp -implicitDefEqProofs only[go_sem,seval,Ns Tryz.underlying139 Tryz.underlying3,Zzi 3000000 K (m.p.pntK i) (o:Int) i,Hu,Nat.le_refl,N,n136]
 refine N6 [(1,.view .new (Zw c d m)),(7,.view .new (.ptr 138 x 0)),(65,Za c 8 (Yf d) m.verts),(66,.int .i64 m.verts.l.length),(67,.int .i64 i)] (g:=K) (l:=Y9 (m.p.pntK i)) (H0:=Wt 2000000 M (m.p.kidL i) Zj) (m:=[(130,.cells .new q 0 (Vh f6 m.verts.l.length)),(134,.cells .new A 0 ((List.range m.regions.l.length).map (Su 2000000 M (m.p.kidL i)))),(136,.mp X.w.heap.size C (Xh (m.p.pntK i)) (Q9 3000000 K (m.p.pntK i))),(138,.cells .new x 0 [.msl 130 q 0 m.verts.l.length 7,.msl 134 A 0 m.regions.l.length 1,(.mapv (Xh (m.p.ownK m.regions.l.length)) (Y2 (Y9 (m.p.ownK m.regions.l.length)) (m.p.ownK m.regions.l.length).length)),.mref 136 C])]) 136 3000000 224 (St (m.p.pntK i) (o:Int)) (λu=>.mp X.w.heap.size C (Xh (Sb (m.p.pntK i) (o:Int) i)) (Kx 3000000 K (m.p.pntK i) (o:Int) u)) (o2:=o2) (g2:=g2) (r:=Y9 (m.p.pntK i) (St (m.p.pntK i) (o:Int))++[(i:Int)]) zS I zo
  (λa t b s=>RnX.mp (Rn.row a t b s zS)) (zq n2) (zp) (λo' h1 h2 h3=>?_) zp λt=>?_
 by_cases e2:o'=223
 subst e2;exact .inl rfl
 right
 rw[L0 (B:=3000000) (B':=2000000) zo]
 (repeat rw[Zp _ _ zo])
 by_cases e3:o'=130
 subst e3;rfl
 (repeat rw[Zp _ _ zo])
 refine Zs ?_;exact(if_neg e3).symm;have w1:IntKind.i64.wrap ((i:Int)+1)=(i:Int)+1:=Wy zo zo;refine Zf w1 ?_
 have hof:(m.p.vx (i:Int)).of=(o:Int):=by rw[O];exact hoe
 have eP:m.p.pntK (i+1)=Sb (m.p.pntK i) (o:Int) i:=by rw[PM.pntK_pt (by rw[hof];exact Int.natCast_nonneg o),hof]
 have eR:Y9 (m.p.pntK (i+1))=Ya (Y9 (m.p.pntK i)) (St (m.p.pntK i) (o:Int)) (Y9 (m.p.pntK i) (St (m.p.pntK i) (o:Int))++[(i:Int)]):=by
  rw[eP];exact funext λj=>Mo _ _ _ j
 have eM:=Zfi 3000000 K (m.p.pntK i) (o:Int) i t;rw[<- eP]at eM⊢;rw[eM,<- eR];have eK:m.p.kidL (i+1)=m.p.kidL i:=PM.kidL_pt (by rw[hof];exact Int.natCast_nonneg o)
 have hB:plB m.p 0 i=plX (o:Int) vo.region (D.kind==1) true i:=by
  rw[hoe]at hvo;unfold plB PM.around PM.rgO PM.kd;rw[hof,if_pos (Int.natCast_nonneg o),if_pos (Int.natCast_nonneg o),hvo,O,decide_eq_true (Int.natCast_nonneg o)];rfl
 refine hL2 _ ⟨y,(f6,M,Ya K (St (m.p.pntK i) (o:Int)) t),?_,Qc zp ?_ λo'=>?_⟩
 show ∀ j,j<m.verts.l.length->f6 j=_
 rw[<- hf6,<- hf4,Nc,<- hB];exact Z3i hR;rw[eK];exact zp;rw[eK,L0 (B:=2000000) (B':=3000000) zo]
 dsimp only
 exact Lows.base (lo:=2000000) (((Lows.none 2000000).fam zd).fam zd) (m:=(136,_)::(224,.dead)::[(130,.cells .new q 0 (Vh f6 m.verts.l.length)),(134,.cells .new A 0 ((List.range m.regions.l.length).map (Su 2000000 M (m.p.kidL i)))),(136,.mp X.w.heap.size C (Xh (m.p.pntK i)) (Q9 3000000 K (m.p.pntK i))),(138,.cells .new x 0 [.msl 130 q 0 m.verts.l.length 7,.msl 134 A 0 m.regions.l.length 1,(.mapv (Xh (m.p.ownK m.regions.l.length)) (Y2 (Y9 (m.p.ownK m.regions.l.length)) (m.p.ownK m.regions.l.length).length)),.mref 136 C])]) rfl o';have q0:decide (D.of>=0)=false:=zF;rw[q0]at h5 h6;have hpt:=rt.pt (v:=(i:Int)) (Int.natCast_nonneg i) (by rw[m.nv];omega);rw[O]at hpt;obtain⟨_,hr0,hr1,_⟩:=hpt.resolve_left (λh=>ho h.1);have hr0:0<=D.region:=hr0;have hr1:D.region<m.p.regions.length:=hr1;obtain⟨r,ry,hre,W,hrg,hro⟩:=I3 hr0 hr1;have f2:=zi hre (zi W (zi hrg (zi Zz (zi Zi (zi @Wb Yh)))));refine Zf (zi h5 (zi Tx (zi c4 (zi c5 Zz)))) ?_;refine Zy ⟨λ_=>.top,λ_=>.lend⟩ zk hG zk zk ?_;have s0:(Vh f4 m.verts.l.length).set (i*7) (.int .i64 ry.2)=_:=Sv (f:=f4) (j:=0) (plX ry.2 0 (D.kind==1) false i) y zd (by rw[h6];rfl);have s1:=Sv (f:=Ya f4 i (plX ry.2 0 (D.kind==1) false i)) (n:=m.verts.l.length) (j:=1) (v:=.int .i64 (r:Int)) (plX ry.2 (r:Int) (D.kind==1) false i) y zd (by rw[Ym];rfl);rw[Nc]at s1;have k0:i*7+1<=m.verts.l.length*7:=zo;have k1:i*7+1+1<=m.verts.l.length*7:=zo
 simp -implicitDefEqProofs only[go_sem,seval,f2,y,Tx,k0,k1,s0,s1,Nat.zero_le];generalize hf6:Ya f4 i (plX ry.2 (r:Int) (D.kind==1) false i)=f6;refine Ui [(56,.ptr 138 x 1,.msl 134 A 0 m.regions.l.length 1)] ⟨λj=>.msl 134 A 0 m.regions.l.length 1,λj=>if j=3 then .keep else if j=9 then .keep else if j=13 then .pure else .lend⟩ zk hG zk zk ?_;have hkr:((List.range m.regions.l.length).map (Su 2000000 M (m.p.kidL i)))[r]?=some (Su 2000000 M (m.p.kidL i) r):=Dy _ W;simp -implicitDefEqProofs only[go_sem,seval,hkr,W,List.length_map,List.length_range,@Int.natCast_nonneg,@Int.ofNat_lt,Nat.mul_one];refine⟨rfl,λg55=>?_⟩;have hkn:=PM.kidL_len (m:=m.p) i r;refine Pf (f:=V.int .i64) (o:=2000000+r) (g:=M r) (l:=m.p.kidL i r) (l2:=[(i:Int)]) (λ_=>rfl) rfl rfl rfl ?_ (Z4 zo zO) λo2 g2 I=>?_
 (repeat rw[Zp _ _ zo])
 exact S5 zo;have I:o2=2000000+r\/o2=256:=I;have n134:(134=o2)=False:=eq_false zo;have N:(138=o2)=False:=eq_false zo;have n2:(o2=134)=False:=eq_false zo;have S:(130=o2)=False:=eq_false zo;have hrk1:r+1<=m.regions.l.length:=W;simp -implicitDefEqProofs only[go_sem,seval,W,hrk1,List.length_map,List.length_range,@Int.natCast_nonneg,@Int.ofNat_lt,Nat.mul_one,n134,N,Nat.zero_le]
 refine N6 [(1,.view .new (Zw c d m)),(7,.view .new (.ptr 138 x 0)),(65,Za c 8 (Yf d) m.verts),(66,.int .i64 m.verts.l.length),(67,.int .i64 i)] (g:=M) (l:=m.p.kidL i) (H0:=Wt 3000000 K (Y9 (m.p.pntK i)) Zj) (m:=[(130,.cells .new q 0 (Vh f6 m.verts.l.length)),(134,.cells .new A 0 ((List.range m.regions.l.length).map (Su 2000000 M (m.p.kidL i)))),(136,.mp X.w.heap.size C (Xh (m.p.pntK i)) (Q9 3000000 K (m.p.pntK i))),(138,.cells .new x 0 [.msl 130 q 0 m.verts.l.length 7,.msl 134 A 0 m.regions.l.length 1,(.mapv (Xh (m.p.ownK m.regions.l.length)) (Y2 (Y9 (m.p.ownK m.regions.l.length)) (m.p.ownK m.regions.l.length).length)),.mref 136 C])]) 134 2000000 256 r (λu=>.cells .new A 0 (((List.range m.regions.l.length).map (Su 2000000 M (m.p.kidL i))).set r u)) (o2:=o2) (g2:=g2) (r:=m.p.kidL i r++[(i:Int)]) zS I zo
  (λa t b s=>RnX.cl (Rn.row a t b s zS)) (zq n2) (zp) (λo' h1 h2 h3=>?_) (by rw[Zi];exact zp) λt=>?_
 by_cases e2:o'=255
 subst e2;exact .inl rfl
 right
 by_cases e3:o'=130
 subst e3;simp -implicitDefEqProofs only[go_sem,seval,S]
 (repeat rw[Zp _ _ zo])
 refine Zs ?_;exact((if_neg e3).trans (if_neg h1)).symm;have w1:IntKind.i64.wrap ((i:Int)+1)=(i:Int)+1:=Wy zo zo;refine Zf w1 ?_
 have hof:(m.p.vx (i:Int)).of=D.of:=by rw[O];rfl
 have hrg2:(m.p.vx (i:Int)).region=(r:Int):=by rw[O];exact hre
 have T:¬ 0<=(m.p.vx (i:Int)).of:=by rw[hof];exact ho
 have eP:m.p.pntK (i+1)=m.p.pntK i:=PM.pntK_no T;have eK:=PM.kidL_at (m:=m.p) (n:=i) (r:=r) zo hrg2;have eS:=Zfk (B:=2000000) (g:=M) (l:=m.p.kidL i) (n:=m.regions.l.length) (j:=r) (k:=t) (r:=m.p.kidL i r++[(i:Int)]) W;rw[eS,<- eK]
 have hB:plB m.p 0 i=plX ry.2 (r:Int) (D.kind==1) false i:=by
  rw[hre]at hro;unfold plB PM.around PM.rgO PM.kd;rw[if_neg T,if_neg T,hrg2,hro,O,decide_eq_false (by rw[<- O];exact T)];rfl
 refine hL2 _ ⟨y,(f6,Ya M r t,K),?_,Qc (by rw[Zi];exact zp) ?_ λo'=>?_⟩
 show ∀ j,j<m.verts.l.length->f6 j=_
 rw[<- hf6,<- hf4,Nc,<- hB];exact Z3i hR;rw[eP];exact zp;rw[eP]
 dsimp only
 exact Lows.base (lo:=2000000) (((Lows.none 2000000).fam zd).fam zd) (m:=(134,_)::(256,.dead)::[(130,.cells .new q 0 (Vh f6 m.verts.l.length)),(134,.cells .new A 0 ((List.range m.regions.l.length).map (Su 2000000 M (m.p.kidL i)))),(136,.mp X.w.heap.size C (Xh (m.p.pntK i)) (Q9 3000000 K (m.p.pntK i))),(138,.cells .new x 0 [.msl 130 q 0 m.verts.l.length 7,.msl 134 A 0 m.regions.l.length 1,(.mapv (Xh (m.p.ownK m.regions.l.length)) (Y2 (Y9 (m.p.ownK m.regions.l.length)) (m.p.ownK m.regions.l.length).length)),.mref 136 C])]) rfl o';have hie:i=m.verts.l.length:=zo;have E:decide ((m.verts.l.length:Int)<(m.verts.l.length:Int))=false:=zF;have hpl:=PM.pntK_len (m:=m.p) m.verts.l.length;subst hie;refine AW.weak (Zl (λo=>Nat.ble 2000000 o) (l:=[(1,.view .new (Zw c d m)),(7,.view .new (.ptr 138 x 0)),(66,.int .i64 m.verts.l.length),(67,.int .i64 m.verts.l.length)]) (m:=[(130,.cells .new q 0 (Vh f m.verts.l.length)),(134,.cells .new A 0 (Y2 (m.p.kidL m.verts.l.length) m.regions.l.length)),(136,.mp X.w.heap.size C (Xh (m.p.pntK m.verts.l.length)) (Y2 (Y9 (m.p.pntK m.verts.l.length)) (m.p.pntK m.verts.l.length).length)),(138,.cells .new x 0 [.msl 130 q 0 m.verts.l.length 7,.msl 134 A 0 m.regions.l.length 1,(.mapv (Xh (m.p.ownK m.regions.l.length)) (Y2 (Y9 (m.p.ownK m.regions.l.length)) (m.p.ownK m.regions.l.length).length)),.mref 136 C])]) ?_ ?_) ?_;simp -implicitDefEqProofs only[go_sem,seval];exact⟨Zb,Zb,Zb⟩;simp only[Zt,Zv,and_true]
 exact⟨FzO.keep rfl zp,FzO.of rfl zp (FzL.fam zo (λj _=>Nat.ble_eq_true_of_le zo) λj U=>(Sa (lo:=2000000) rfl zo).trans (S5 U)),Z8p zp (FzL.fam zo (λj _=>Nat.ble_eq_true_of_le zo) λj U=>(Sa (lo:=2000000) rfl zo).trans ((Tj zo).trans (S5 U))),FzO.keep rfl zp⟩;refine AW.weak (B0 136 (lo:=X.w.heap.size) (b:=C) (ks:=Xh (m.p.pntK m.verts.l.length)) (vs:=Y2 (Y9 (m.p.pntK m.verts.l.length)) (m.p.pntK m.verts.l.length).length) [(1,.view .new (Zw c d m)),(7,.view .new (.ptr 138 x 0)),(66,.int .i64 m.verts.l.length),(67,.int .i64 m.verts.l.length)] [(130,.cells .new q 0 (Vh f m.verts.l.length)),(134,.cells .new A 0 (Y2 (m.p.kidL m.verts.l.length) m.regions.l.length)),(138,.cells .new x 0 [.msl 130 q 0 m.verts.l.length 7,.msl 134 A 0 m.regions.l.length 1,(.mapv (Xh (m.p.ownK m.regions.l.length)) (Y2 (Y9 (m.p.ownK m.regions.l.length)) (m.p.ownK m.regions.l.length).length)),(.mapv (Xh (m.p.pntK m.verts.l.length)) (Y2 (Y9 (m.p.pntK m.verts.l.length)) (m.p.pntK m.verts.l.length).length))])] zp (Nat.le_refl _) ?_ ?_) ?_;simp -implicitDefEqProofs only[go_sem,seval];exact⟨.inl rfl,.inl rfl,.inl rfl⟩;simp -implicitDefEqProofs only[go_sem,seval];exact⟨MZO.same ..,MZO.same ..,_,rfl,.inl rfl,.inl rfl,.inl rfl,.inr ⟨rfl,rfl⟩,trivial⟩;refine AW.weak (Zl (λo=>o==134) (l:=[(1,.view .new (Zw c d m)),(7,.view .new (.ptr 138 x 0)),(66,.int .i64 m.verts.l.length),(67,.int .i64 m.verts.l.length)]) (m:=[(130,.cells .new q 0 (Vh f m.verts.l.length)),(138,.cells .new x 0 [.msl 130 q 0 m.verts.l.length 7,(.slice .new false 1 (Y2 (m.p.kidL m.verts.l.length) m.regions.l.length)),(.mapv (Xh (m.p.ownK m.regions.l.length)) (Y2 (Y9 (m.p.ownK m.regions.l.length)) (m.p.ownK m.regions.l.length).length)),(.mapv (Xh (m.p.pntK m.verts.l.length)) (Y2 (Y9 (m.p.pntK m.verts.l.length)) (m.p.pntK m.verts.l.length).length))])]) ?_ ?_) ?_
 simp -implicitDefEqProofs only[go_sem,seval];exact⟨Zb,Zb,Zb⟩;simp only[Zt,Zv,and_true];exact⟨FzO.keep rfl zp,FzO.of (cs:=[.msl 130 q 0 m.verts.l.length 7,.msl 134 A 0 m.regions.l.length 1,(.mapv (Xh (m.p.ownK m.regions.l.length)) (Y2 (Y9 (m.p.ownK m.regions.l.length)) (m.p.ownK m.regions.l.length).length)),(.mapv (Xh (m.p.pntK m.verts.l.length)) (Y2 (Y9 (m.p.pntK m.verts.l.length)) (m.p.pntK m.verts.l.length).length))]) rfl zp ⟨Zb,Fz.rows rfl zp,Zb,Zb,trivial⟩⟩;refine Zf (zi E Zi) ?_
 have eC:Vh f m.verts.l.length=Vh (f3 m.p 0) m.verts.l.length:=Kz λj U=>by rw[hR j U,if_pos U];rfl
 rw[eC]
 refine Yc m.verts.l.length (λi (_:Unit)=>st [(1,.view .new (Zw c d m)),(7,.view .new (.ptr 138 x 0)),(162,.msl 130 q 0 m.verts.l.length 7),(163,.int .i64 m.verts.l.length),(164,.int .i64 i)] [(130,.cells .new q 0 (Vh (f3 m.p i) m.verts.l.length)),(138,.cells .new x 0 [.msl 130 q 0 m.verts.l.length 7,(.slice .new false 1 (Y2 (m.p.kidL m.verts.l.length) m.regions.l.length)),(.mapv (Xh (m.p.ownK m.regions.l.length)) (Y2 (Y9 (m.p.ownK m.regions.l.length)) (m.p.ownK m.regions.l.length).length)),(.mapv (Xh (m.p.pntK m.verts.l.length)) (Y2 (Y9 (m.p.pntK m.verts.l.length)) (m.p.pntK m.verts.l.length).length))])])
  (λ_ _=>True) 0 () (Nat.zero_le _) trivial (Weak.st (by rw[Zi];exact zp) zp) ?_
 intro i _ hi _ L3 hL3
 by_cases y:i<m.verts.l.length
 have E:decide ((i:Int)<(m.verts.l.length:Int))=true:=zT;refine Zf E ?_;intro g13;refine Zs ?_;refine Z6 ?_;refine Zy ⟨λ_=>.top,λi=>if i=9 then .any else .pure⟩ zk hG zk zk ?_;have l0:(Vh (f3 m.p i) m.verts.l.length)[i*7]?=some (.int .i64 (m.p.around i)):=Jw (j:=0) y zd rfl;have k0:i*7+1<=m.verts.l.length*7:=zo;have k1:i*7<m.verts.l.length*7:=zo;simp -implicitDefEqProofs only[go_sem,seval,y,Tx,l0,k0,k1,@Int.natCast_nonneg,@Int.ofNat_lt];refine CallA.inl [(52,.dead),(53,.dead)] zk ?_ ((Ll G (.ptr 138 x 0) _).mono ?_);intro p hp;simp only[List.mem_cons,List.not_mem_nil,or_false]at hp
 rcases hp with rfl|rfl<;>rfl
 rintro w H' ⟨g2,g3',rfl,e2,e3⟩;simp -implicitDefEqProofs only[go_sem,seval,Z5,e2,e3];refine AW.block ?_;have har:m.p.around i<m.p.vertices.length:=a.ar1 (Int.natCast_nonneg i) (by rw[m.nv];omega)
 refine Qy 50 100 290 150 (λn:Nat=>Z5 Zj [(113,.cells .new g13 0 [.int .i64 i]),(130,.cells .new q 0 (Vh (Ya (f3 m.p i) i (plB m.p n i)) m.verts.l.length)),(138,.cells .new x 0 [.msl 130 q 0 m.verts.l.length 7,(.slice .new false 1 (Y2 (m.p.kidL m.verts.l.length) m.regions.l.length)),(.mapv (Xh (m.p.ownK m.regions.l.length)) (Y2 (Y9 (m.p.ownK m.regions.l.length)) (m.p.ownK m.regions.l.length).length)),(.mapv (Xh (m.p.pntK m.verts.l.length)) (Y2 (Y9 (m.p.pntK m.verts.l.length)) (m.p.pntK m.verts.l.length).length))])]) (λc _=>c+1) (λ_=>none) (λn _=>n<66) 0 rfl
  (λl r'=>Zw9 G hG m.p a x q (.slice .new false 1 (Y2 (m.p.kidL m.verts.l.length) m.regions.l.length)) (.mapv (Xh (m.p.ownK m.regions.l.length)) (Y2 (Y9 (m.p.ownK m.regions.l.length)) (m.p.ownK m.regions.l.length).length)) (.mapv (Xh (m.p.pntK m.verts.l.length)) (Y2 (Y9 (m.p.pntK m.verts.l.length)) (m.p.pntK m.verts.l.length).length)) _ har g2 g3' _ zp zp) ?_ (Znk _ 0 (by rw[Nat.zero_add];exact Zyba ..)) ?_ ?_ (hPp:=?_)
 simp -implicitDefEqProofs only[go_sem,seval];rw[Yp (f3 m.p i) i (plB m.p 0 i) (by rw[f3,if_neg (Nat.lt_irrefl _)]),Nc];exact Yp _ _ _ rfl;rintro l Y n k hr hn66 _;refine Zs ?_;refine AW.skip ?_;refine Zs ?_;intro Z _;have l2:(Vh (Ya (f3 m.p i) i (plB m.p n i)) m.verts.l.length)[i*7+2]?=some (.int .i64 n):=Jw (j:=2) y zd (by rw[Ym];rfl);have s2:(Vh (Ya (f3 m.p i) i (plB m.p n i)) m.verts.l.length).set (i*7+2) (.int .i64 ((n:Int)+1))=_:=Sv (j:=2) (plB m.p ((n:Int)+1) i) y zd (by rw[Ym];rfl);rw[Nc]at s2;have w1:IntKind.i64.wrap ((n:Int)+1)=(n:Int)+1:=Wy zo zo;have k2:i*7+2+1<=m.verts.l.length*7:=zo;have k3:i*7+2<m.verts.l.length*7:=zo;refine I7 (zi y (zi Tx (zi l2 (zi s2 (zi w1 (zi k2 (zi k3 Yh))))))) hG ?_;refine(Yp _ 290 AObj.dead rfl).trans ?_
 funext o
 by_cases e1:o=130
 subst e1;rfl
 by_cases e2:o=113
 subst e2;rfl;simp only[Ya,if_neg e1,if_neg e2];rintro H2 sf hs h2 h3;refine AW.weak (Weak.rng (l:=[(1,.view .new (Zw c d m)),(7,.view .new (.ptr 138 x 0)),(162,.msl 130 q 0 m.verts.l.length 7),(163,.int .i64 m.verts.l.length),(164,.int .i64 i)]) h2 zp) ?_;rw[Z4a,Nat.zero_add]at hs
 have hs2:(sf:Int)=dpI m.p i:=by rw[hs];rfl
 rw[hs2,Zhba];have w1:IntKind.i64.wrap ((i:Int)+1)=(i:Int)+1:=Wy zo zo;refine Zf w1 ?_;exact hL3 _ ⟨y,(),trivial,Weak.st zp zp⟩;intro n H hH;have h138:H 138=_:=(congrFun hH 138);have h130:H 130=_:=(congrFun hH 130);refine⟨(List.range m.verts.l.length).map (Ya (f3 m.p i) i (plB m.p n i)),by rw[List.length_map,List.length_range,m.nv],λj p hp=>?_,?_,?_⟩
 .rw[List.getElem?_map]at hp
  cases hq:(List.range m.verts.l.length)[j]? with
  |none=>rw[hq]at hp;cases hp
  |some j'=>
   obtain⟨hj1,hj2⟩:=List.getElem?_eq_some_iff.1 hq;rw[List.getElem_range]at hj2;subst hj2;rw[hq]at hp;cases hp
   by_cases e:j=i
   subst e;rw[Ym];rfl;rw[Zp _ _ e];rfl
 rw[List.length_map,List.length_range];exact h138;exact h130;have hie:i=m.verts.l.length:=zo;have E:decide ((m.verts.l.length:Int)<(m.verts.l.length:Int))=false:=zF;subst hie;refine Zf (zi E Zi) ?_
 have eC:Vh (f3 m.p m.verts.l.length) m.verts.l.length=Vh (f4 m.p (λ_=>0) (λ_=>0) 0) m.verts.l.length:=Kz λj U=>by rw[f3,if_pos U];rfl
 rw[eC];have hnw:=hb.nw
 refine Yc m.ways.l.length (λt (z:(Nat->Nat)×(Nat->Nat))=>⟨Z5 La [(1,.view .new (Zw c d m)),(7,.view .new (.ptr 138 x 0)),(191,Za c 8 (Yn d) m.ways),(192,.int .i64 m.ways.l.length),(193,.int .i64 t)],Z5 (Wt 4000000 z.1 (λj=>m.p.wysI j false t) (Wt 5000000 z.2 (λj=>m.p.wysI j true t) Zj)) [(130,.cells .new q 0 (Vh (f4 m.p z.1 z.2 t) m.verts.l.length)),(138,.cells .new x 0 [.msl 130 q 0 m.verts.l.length 7,(.slice .new false 1 (Y2 (m.p.kidL m.verts.l.length) m.regions.l.length)),(.mapv (Xh (m.p.ownK m.regions.l.length)) (Y2 (Y9 (m.p.ownK m.regions.l.length)) (m.p.ownK m.regions.l.length).length)),(.mapv (Xh (m.p.pntK m.verts.l.length)) (Y2 (Y9 (m.p.pntK m.verts.l.length)) (m.p.pntK m.verts.l.length).length))])]⟩)
  (λ_ _=>True) 0 (λ_=>0,λ_=>0) (Nat.zero_le _) trivial (Qc (by rw[Zi];exact zp) zp ?_) ?_
 intro o;refine .inl ?_
 show Wt _ _ _ _ o=_
 unfold Wt
 split
 rfl
 split<;>rfl
 rintro t ⟨gO,gI⟩ ht _ L4 hL4
 by_cases ht1:t<m.ways.l.length
 .have E:decide ((t:Int)<(m.ways.l.length:Int))=true:=zT
  have hg:=List.getElem?_eq_getElem ht1;generalize m.ways.l[t]=wy at hg;have hwy:=O8 hg;refine Zf (zi E (zi hg (zi ht1 (zi Yg Yh)))) ?_;intro g15;refine AW.weak (Zfb (λo=>o==115) (B:=(Wt 4000000 gO (λj=>m.p.wysI j false t) (Wt 5000000 gI (λj=>m.p.wysI j true t) Zj))) (l:=[(14,.int .i64 t),(1,.view .new (Zw c d m)),(7,.view .new (.ptr 138 x 0)),(191,Za c 8 (Yn d) m.ways),(192,.int .i64 m.ways.l.length),(193,.int .i64 t),(15,.view .new (Yn d wy))]) (m:=[(130,.cells .new q 0 (Vh (f4 m.p gO gI t) m.verts.l.length)),(138,.cells .new x 0 [.msl 130 q 0 m.verts.l.length 7,(.slice .new false 1 (Y2 (m.p.kidL m.verts.l.length) m.regions.l.length)),(.mapv (Xh (m.p.ownK m.regions.l.length)) (Y2 (Y9 (m.p.ownK m.regions.l.length)) (m.p.ownK m.regions.l.length).length)),(.mapv (Xh (m.p.pntK m.verts.l.length)) (Y2 (Y9 (m.p.pntK m.verts.l.length)) (m.p.pntK m.verts.l.length).length))])]) ?_ ?_ λo=>?_) ?_;simp -implicitDefEqProofs only[go_sem,seval];exact⟨Zb,Zb,Zb,Zb,Zb,Zb,Fz.ptr (v:=Yn d wy) (c:=.new) (fz:=0) rfl zp⟩;simp only[Zt,Zv,and_true];exact⟨FzO.keep rfl zp,FzO.keep rfl zp⟩;exact B3 (lo:=4000000) (((Lows.none 4000000).fam zd).fam zd) (λo ho=>beq_false_of_ne (show o≠115 by omega)) (m:=(115,_)::(115,_)::[(130,.cells .new q 0 (Vh (f4 m.p gO gI t) m.verts.l.length)),(138,.cells .new x 0 [.msl 130 q 0 m.verts.l.length 7,(.slice .new false 1 (Y2 (m.p.kidL m.verts.l.length) m.regions.l.length)),(.mapv (Xh (m.p.ownK m.regions.l.length)) (Y2 (Y9 (m.p.ownK m.regions.l.length)) (m.p.ownK m.regions.l.length).length)),(.mapv (Xh (m.p.pntK m.verts.l.length)) (Y2 (Y9 (m.p.pntK m.verts.l.length)) (m.p.pntK m.verts.l.length).length))])]) rfl o
  have hwb:=rtA.way t (by rw[m.nw];exact ht1);rw[hwy]at hwb;simp only[PM.wayB,PM.inV,Bool.and_eq_true,decide_eq_true_eq]at hwb;obtain⟨hs0,hs1⟩:0<=wy.source/\wy.source<m.p.vertices.length:=hwb.1.1.1.1.1.1.1.1.1.2;obtain⟨he0,he1⟩:0<=wy.target/\wy.target<m.p.vertices.length:=hwb.1.1.1.1.1.1.1.1.2;obtain⟨Q,va,hae,hak,_,_⟩:=MdM.at hs0 hs1;obtain⟨P,ve,hee,hek,_,_⟩:=MdM.at he0 he1;have f0:=zi hae (zi hee (zi hak (zi hek (zi Yg Yh))));refine I7 f0 hG ?_
  refine Jc (.fork 8 12 (.fork 8 14 (.ord [0,1,2,3,4,6,9,10,11,13,5,7,8,12,14,15,16,17,18,19,20,21]) (.ord [0,1,2,3,4,6,9,10,11,13,5,7,14,8,12,15,16,17,18,19,20,21])) (.fork 8 14 (.ord [0,1,2,3,4,6,9,10,11,13,5,12,7,8,14,15,16,17,18,19,20,21]) (.ord [0,1,2,3,4,6,9,10,11,13,5,12,7,14,8,15,16,17,18,19,20,21])))
   [] ⟨λ_=>.top,λ_=>.pure⟩ zk hG zk zk ?_
  have lo5:(Vh (f4 m.p gO gI t) m.verts.l.length)[Q*7+5]?=some (Su 4000000 gO (λj=>m.p.wysI j false t) Q):=Jw (j:=5) hak zd rfl;have lo6:(Vh (f4 m.p gO gI t) m.verts.l.length)[P*7+6]?=some (Su 5000000 gI (λj=>m.p.wysI j true t) P):=Jw (j:=6) hek zd rfl;simp only[Zhq];have hw1:=PM.wysI_len (m:=m.p) (Q:Int) false t;have hw2:=PM.wysI_len (m:=m.p) (P:Int) true t;have k5:Q*7+5+1<=m.verts.l.length*7:=zo;have k6:P*7+6+1<=m.verts.l.length*7:=zo;have k5':Q*7+5<m.verts.l.length*7:=zo;have k6':P*7+6<m.verts.l.length*7:=zo;refine⟨⟨?_,?_⟩,?_,?_⟩
  all_goals
   simp -implicitDefEqProofs only[go_sem,seval,lo5,lo6,Tx,k5,k6,k5',k6']
   repeat refine⟨rfl,λ_=>?_⟩
   refine Pf (f:=V.int .i64) (o:=4000000+Q) (g:=gO Q) (l:=m.p.wysI Q false t) (l2:=[(t:Int)]) (λ_=>rfl) rfl rfl rfl ?_ (Z4 zo zO) λo2 g2 I=>?_
   (repeat rw[Zp _ _ zo])
   exact S5 zo;have I:o2=4000000+Q\/o2=320:=I;have S:(130=o2)=False:=eq_false zo;have n326:(326=o2)=False:=eq_false zo;simp -implicitDefEqProofs only[go_sem,seval,lo5,lo6,Tx,k5,k6,k5',k6',S,n326]
   repeat refine⟨rfl,λ_=>?_⟩
   refine Pf (f:=V.int .i64) (o:=5000000+P) (g:=gI P) (l:=m.p.wysI P true t) (l2:=[(t:Int)]) (λ_=>rfl) rfl rfl rfl ?_ (Z4 zo zO) λo3 g3 ho3=>?_
   (repeat rw[Zp _ _ zo])
   rw[Tj zo];exact S5 zo;have ho3:o3=5000000+P\/o3=327:=ho3;have n130':(130=o3)=False:=eq_false zo;simp -implicitDefEqProofs only[go_sem,seval,lo5,lo6,Tx,k5,k6,k5',k6',S,n130',List.length_set];have m1:(o2=130)=False:=eq_false zo;have m2:(o2=o3)=False:=eq_false zo;have m3:(o2=326)=False:=eq_false zo;have m4:(o3=130)=False:=eq_false zo
   refine Z7w (gO:=gO) (gI:=gI) (lO:=λj=>m.p.wysI j false t) (lI:=λj=>m.p.wysI j true t) [(130,.cells .new q 0 (Vh (f4 m.p gO gI t) m.verts.l.length)),(138,.cells .new x 0 [.msl 130 q 0 m.verts.l.length 7,(.slice .new false 1 (Y2 (m.p.kidL m.verts.l.length) m.regions.l.length)),(.mapv (Xh (m.p.ownK m.regions.l.length)) (Y2 (Y9 (m.p.ownK m.regions.l.length)) (m.p.ownK m.regions.l.length).length)),(.mapv (Xh (m.p.pntK m.verts.l.length)) (Y2 (Y9 (m.p.pntK m.verts.l.length)) (m.p.pntK m.verts.l.length).length))])] [(1,.view .new (Zw c d m)),(7,.view .new (.ptr 138 x 0)),(191,Za c 8 (Yn d) m.ways),(192,.int .i64 m.ways.l.length),(193,.int .i64 t)] 130 320 327 Q P (λu v=>.cells .new q 0 (((Vh (f4 m.p gO gI t) m.verts.l.length).set (Q*7+5) u).set (P*7+6) v)) (o2:=o2) (g2:=g2) (o3:=o3) (g3:=g3) (r:=m.p.wysI Q false t++[(t:Int)]) (r':=m.p.wysI P true t++[(t:Int)]) zS zS I ho3 zo zo
    (λv a g b k=>Z4ba (Rn.row a g b k zS)) (λu a g b k=>RnX.cl (Rn.row a g b k zS)) (by simp -implicitDefEqProofs only[go_sem,seval,m1,m2,m3]) (by simp -implicitDefEqProofs only[go_sem,seval,m4]) (zp) (λo q1 q2 q3 q4 q5=>?_) (by rw[Zi];exact zp) λt1 t2=>?_
   by_cases z1:o=319
   subst z1;exact .inl rfl
   by_cases z2:o=326
   subst z2;exact .inl rfl;have z3:o≠o2:=zo;have z4:o≠o3:=zo
   right
   simp only[Wp,Db,Ya,if_neg q1,if_neg z1,if_neg z2,if_neg z3,if_neg z4]
   have hsr:(m.p.wy (t:Int)).source=(Q:Int):=by rw[hwy];exact hae
   have htr:(m.p.wy (t:Int)).target=(P:Int):=by rw[hwy];exact hee
   have w1:IntKind.i64.wrap ((t:Int)+1)=(t:Int)+1:=Wy zo zo;rw[Zzz m.p gO gI t m.verts.l.length Q P t1 t2 hak hek hsr htr];refine Zf w1 ?_;refine hL4 _ ⟨ht1,(Ya gO Q t1,Ya gI P t2),trivial,Qc (by rw[Zi];exact zp) zp λo=>?_⟩
   dsimp only
   rw[PM.outs_next hsr,PM.intos_next htr];exact Lows.base (lo:=4000000) (((Lows.none 4000000).fam zd).fam zd) (m:=(130,_)::(327,.dead)::(320,.dead)::[(130,.cells .new q 0 (Vh (f4 m.p gO gI t) m.verts.l.length)),(138,.cells .new x 0 [.msl 130 q 0 m.verts.l.length 7,(.slice .new false 1 (Y2 (m.p.kidL m.verts.l.length) m.regions.l.length)),(.mapv (Xh (m.p.ownK m.regions.l.length)) (Y2 (Y9 (m.p.ownK m.regions.l.length)) (m.p.ownK m.regions.l.length).length)),(.mapv (Xh (m.p.pntK m.verts.l.length)) (Y2 (Y9 (m.p.pntK m.verts.l.length)) (m.p.pntK m.verts.l.length).length))])]) rfl o
 have hte:t=m.ways.l.length:=zo;have E:decide ((m.ways.l.length:Int)<(m.ways.l.length:Int))=false:=zF;rw[hte];refine AW.weak (Zl (λo=>Nat.ble 4000000 o) (l:=[(1,.view .new (Zw c d m)),(7,.view .new (.ptr 138 x 0)),(192,.int .i64 m.ways.l.length),(193,.int .i64 m.ways.l.length)]) (m:=[(130,.cells .new q 0 (flat ((List.range m.verts.l.length).map λj=>M5 .new (plF m.p j)))),(138,.cells .new x 0 [.msl 130 q 0 m.verts.l.length 7,(.slice .new false 1 (Y2 (m.p.kidL m.verts.l.length) m.regions.l.length)),(.mapv (Xh (m.p.ownK m.regions.l.length)) (Y2 (Y9 (m.p.ownK m.regions.l.length)) (m.p.ownK m.regions.l.length).length)),(.mapv (Xh (m.p.pntK m.verts.l.length)) (Y2 (Y9 (m.p.pntK m.verts.l.length)) (m.p.pntK m.verts.l.length).length))])]) ?_ ?_) ?_;simp -implicitDefEqProofs only[go_sem,seval];exact⟨Zb,Zb,Zb⟩;simp only[Zt,Zv,and_true];refine⟨FzO.of (cs:=Vh (f4 m.p gO gI m.ways.l.length) m.verts.l.length) rfl rfl ?_,FzO.keep rfl zp⟩;unfold Vh;rw[List.map_map];refine FzL.flat λj U=>?_;have U:=List.mem_range.1 U;refine⟨Zb,Zb,Zb,Zb,Zb,?_,?_,trivial⟩
 show Fz _ _ (grown (4000000+j) (gO j) 1 (m.p.wysI j false m.ways.l.length)) (Za .new 1 (V.int .i64) (Zd (m.p.wysI j false m.p.ways.length)))
 rw[m.nw];exact Y5 (f:=V.int .i64) (Nat.ble_eq_true_of_le zo) ((Sa (lo:=4000000) rfl zo).trans (S5 zo)) λ_=>rfl
 show Fz _ _ (grown (5000000+j) (gI j) 1 (m.p.wysI j true m.ways.l.length)) (Za .new 1 (V.int .i64) (Zd (m.p.wysI j true m.p.ways.length)))
 rw[m.nw];exact Y5 (f:=V.int .i64) (Nat.ble_eq_true_of_le zo) ((Sa (lo:=4000000) rfl zo).trans ((Tj zo).trans (S5 zo))) λ_=>rfl;refine AW.weak (Zl (λo=>o==130) (l:=[(1,.view .new (Zw c d m)),(7,.view .new (.ptr 138 x 0)),(192,.int .i64 m.ways.l.length),(193,.int .i64 m.ways.l.length)]) (m:=[(138,.cells .new x 0 [Za .new 7 (M5 .new) (Ue m.p).places,(Ue m.p).kids,(Ue m.p).owned,(Ue m.p).points])]) ?_ ?_) ?_;simp -implicitDefEqProofs only[go_sem,seval];exact⟨Zb,Zb,Zb⟩;simp only[Zt,Zv,and_true];refine FzO.of (cs:=[.msl 130 q 0 m.verts.l.length 7,(.slice .new false 1 (Y2 (m.p.kidL m.verts.l.length) m.regions.l.length)),(.mapv (Xh (m.p.ownK m.regions.l.length)) (Y2 (Y9 (m.p.ownK m.regions.l.length)) (m.p.ownK m.regions.l.length).length)),(.mapv (Xh (m.p.pntK m.verts.l.length)) (Y2 (Y9 (m.p.pntK m.verts.l.length)) (m.p.pntK m.verts.l.length).length))]) rfl zp ⟨?_,?_,?_,?_,trivial⟩;have:=Xa (F:=λo=>o==130) (H:=Z5 Zj [(130,AObj.cells .new q 0 (flat ((List.range m.verts.l.length).map λj=>M5 .new (plF m.p j)))),(138,.cells .new x 0 [.msl 130 q 0 m.verts.l.length 7,(.slice .new false 1 (Y2 (m.p.kidL m.verts.l.length) m.regions.l.length)),(.mapv (Xh (m.p.ownK m.regions.l.length)) (Y2 (Y9 (m.p.ownK m.regions.l.length)) (m.p.ownK m.regions.l.length).length)),(.mapv (Xh (m.p.pntK m.verts.l.length)) (Y2 (Y9 (m.p.pntK m.verts.l.length)) (m.p.pntK m.verts.l.length).length))])]) (o:=130) (g:=q) (m:=7) (fz:=0) (c:=.new) (f:=M5 .new) (l:=(List.range m.verts.l.length).map (plF m.p)) rfl (by rw[List.map_map];rfl) (Zuaa .new)
 rw[List.length_map,List.length_range]at this;unfold Ue;rw[m.nv];exact this;unfold Ue;rw[m.nv];exact Zb;exact Zb;unfold Ue;rw[m.nv];exact Zb;refine Xm E ?_;refine Xm E ?_;refine AW.weak (Zl (λo=>o==138) (l:=[(2,Uj .new .new .new (Ue m.p)),(3,.int .i64 0)]) (m:=[]) ?_ trivial) ?_;simp -implicitDefEqProofs only[go_sem,seval];exact⟨Fz.ptr (v:=.agg [Za .new 7 (M5 .new) (Ue m.p).places,(Ue m.p).kids,(Ue m.p).owned,(Ue m.p).points]) (c:=.new) (fz:=0) rfl zp,Zb⟩;exact Zr
end Go.Hs
end

section
namespace Go.Hs
section
def Bf(l:List Int)(k w:Int):Prop:=∃ p q,l=p++w::q/\k∈p
theorem Bf.in{l:List Int}{k w:Int}(h:Bf l k w)(x y:List Int):Bf (x++l++y) k w:=by
 obtain⟨p,q,rfl,a⟩:=h;exact⟨x++p,q++y,by simp,by simp[a]⟩
theorem Bf.last{l:List Int}{k w:Int}(h:k∈l):Bf (l++[w]) k w:=⟨l,[],rfl,h⟩
theorem Bf.flat{α : Type}{f : α -> List Int}{k w:Int}{x : α}:∀ {l:List α},x∈l->Bf (f x) k w->Bf (l.flatMap f) k w
 |y::r,a,h=>by
  rw[List.flatMap_cons]
  rcases List.mem_cons.1 a with rfl|a
  exact h.in [] _;have:=(Bf.flat a h).in (f y) [];rwa [List.append_nil]at this
namespace PM
variable(m:PM)(act:List Int)
def actR(r:Int):Int:=act.getD r.toNat (-1)
def regsL(s:Int):List Int:=((List.range m.regions.length).filter fun(r:Nat)=>m.ow (r:Int)==s).map fun(r:Nat)=>(r:Int)
def leftF:Nat->Int->List Int
 |0,_=>[]
 |f+1,r=>if actR act r<0 then[]else(m.regsL (actR act r)).flatMap (leftF f)++[actR act r]
variable{m act}
theorem regsL_mem{s r:Int}:r∈m.regsL s↔(0<=r/\r<m.regions.length)/\m.ow r=s:=by
 unfold regsL;simp only[List.mem_map,List.mem_filter,List.mem_range,beq_iff_eq];refine⟨fun⟨x,⟨c,a⟩,b⟩=>?_,fun⟨c,a⟩=>⟨r.toNat,⟨by omega,?_⟩,by omega⟩⟩;subst b;exact⟨by omega,a⟩;rwa [show((r.toNat:Nat):Int)=r by omega]
theorem Zqi(s:Int):(m.regsL s).Nodup:=by
 unfold regsL List.Nodup;rw[List.pairwise_map]
 exact((List.nodup_range).filter _).imp λh=>by omega
variable(m act)in
structure Cf:Prop where
 a:m.Acy
 at_:∀ r:Int,0<=r->0<=actR act r->actR act r<m.vertices.length/\(m.vx (actR act r)).of<0/\(m.vx (actR act r)).region=r
variable(m act)in
def Ac(v:Int):Prop:=(m.vx v).of<0/\actR act (m.vx v).region=v
theorem ar_reg{v:Int}(h:(m.vx v).of<0):m.around v=m.ow (m.vx v).region:=by rw[around,if_neg (by omega)]
theorem Cf.up(c:Cf m act){r v:Int}(g:0<=v)(b:r∈m.regsL v)(h:0<=actR act r):m.around (actR act r)=v:=by
 obtain⟨⟨a,_⟩,d⟩:=regsL_mem.1 b;obtain⟨_,f,e⟩:=c.at_ r a h;rw[ar_reg f,e,d]
theorem Cf.left_in(c:Cf m act):∀ (f:Nat) (r:Int),0<=r->∀ w∈m.leftF act f r,(0<=w/\w<m.vertices.length)/\Ac m act w/\0<=(m.vx w).region/\0<=actR act r/\actR act r∈w::m.ups w
 |0,_,_,_,b=>by cases b
 |f+1,r,r0,w,b=>by
  rw[leftF]at b
  by_cases h:actR act r<0
  rw[if_pos h]at b;cases b;rw[if_neg h]at b;obtain⟨j,i,e⟩:=c.at_ r r0 (by omega)
  rcases List.mem_append.1 b with b|b
  obtain⟨g,d,b⟩:=List.mem_flatMap.1 b;obtain⟨k1,k2,k3,k4,k5⟩:=Cf.left_in c f g (regsL_mem.1 d).1.1 w b;exact⟨k1,k2,k3,by omega,List.mem_cons_of_mem _ (c.a.ups_tr (c.up (by omega) d k4) (by omega) k1.1 k1.2 k5)⟩;have b:w=actR act r:=List.mem_singleton.1 b;subst b;exact⟨⟨by omega,j⟩,⟨i,by rw[e]⟩,by rw[e];exact r0,by omega,List.mem_cons_self ..⟩
theorem Cf.sub_in(c:Cf m act){f:Nat}{v r w:Int}(b:0<=v)(g:r∈m.regsL v)(i:w∈m.leftF act f r):m.regU w v=r/\w≠v:=by
 have d:=(regsL_mem.1 g).1.1;obtain⟨k1,k2,k3,k4,k5⟩:=c.left_in f r d w i;have e:=c.up b g k4;refine⟨by rw[c.a.regU_of k1.1 k1.2 b k5 e,(c.at_ r d k4).2.2],λh=>?_⟩;have j:=c.a.ups_tr e b k1.1 k1.2 k5;have:=(c.a.ups_rng k1.1 k1.2 v j).2.2;rw[h]at this;omega
theorem Cf.left_nd(c:Cf m act):∀ (f:Nat) (r:Int),0<=r->(m.leftF act f r).Nodup
 |0,_,_=>List.nodup_nil
 |f+1,r,r0=>by
  rw[leftF]
  by_cases h:actR act r<0
  rw[if_pos h];exact List.nodup_nil;rw[if_neg h,List.nodup_append];refine⟨?_,by simp,λx a y b=>?_⟩;rw[List.Nodup,List.pairwise_flatMap];refine⟨λi d=>c.left_nd f i (regsL_mem.1 d).1.1,(Zqi _).imp_of_mem fun{n l} k j g x a y b e=>?_⟩;subst e;exact g ((c.sub_in (by omega) k a).1.symm.trans (c.sub_in (by omega) j b).1);obtain⟨i,d,a⟩:=List.mem_flatMap.1 a;rw[List.mem_singleton.1 b];exact(c.sub_in (by omega) d a).2
theorem Cf.left_mem(c:Cf m act)(b:∀ v:Int,0<=v->v<m.vertices.length->(m.vx v).of<0->0<=(m.vx v).region/\(m.vx v).region<m.regions.length):∀ (f:Nat) (k u:Int),0<=k->k<m.vertices.length->u∈k::m.ups k->(∀ x∈k::m.ups k,u∈x::m.ups x->Ac m act x) ->
  (m.ups k).length<f+(m.ups u).length->k∈m.leftF act f (m.vx u).region
 |0,k,u,k0,k1,d,_,hf=>by
  rcases List.mem_cons.1 d with rfl|d
  omega;have:=(c.a.ups_rng k0 k1 u d).2.2;omega
 |f+1,k,u,k0,k1,d,ha,hf=>by
  have t:=c.a.chain k0 k1 d;obtain⟨_,n⟩:=ha u d (List.mem_cons_self ..);rw[leftF,n,if_neg (by omega)]
  rcases List.mem_cons.1 d with rfl|l
  simp;obtain⟨y,j,o⟩:=c.a.mem_around k0 k1 l;have e:=c.a.chain k0 k1 j
  have g:u∈m.ups y:=by
   rw[c.a.ups_cons e.1 e.2 (by omega),o];exact List.mem_cons_self ..
  obtain⟨h,r⟩:=ha y j (List.mem_cons_of_mem _ g);have s:(m.vx y).region∈m.regsL u:=regsL_mem.2 ⟨b y e.1 e.2 h,by rw[<- ar_reg h,o]⟩;refine List.mem_append_left _ (List.mem_flatMap.2 ⟨_,s,c.left_mem b f k y k0 k1 j (λx q i=>ha x q ?_) ?_⟩);have p:=c.a.chain k0 k1 q;exact c.a.ups_sub p.1 p.2 i (List.mem_cons_of_mem _ g)
  have:m.ups y=u::m.ups u:=by rw[c.a.ups_cons e.1 e.2 (by omega),o]
  rw[this,List.length_cons];omega
theorem Cf.left_bf(c:Cf m act)(d:∀ v:Int,0<=v->v<m.vertices.length->(m.vx v).of<0->0<=(m.vx v).region/\(m.vx v).region<m.regions.length):∀ (f:Nat) (r k w:Int),0<=r->0<=k->k<m.vertices.length->w∈m.leftF act f r->w∈m.ups k->(∀ x∈k::m.ups k,w∈x::m.ups x->Ac m act x) ->
  (0<=actR act r->(m.ups k).length<f+(m.ups (actR act r)).length)->Bf (m.leftF act f r) k w
 |0,_,_,_,_,_,_,b,_,_,_=>by cases b
 |f+1,r,k,w,r0,k0,k1,b,hk,ha,i=>by
  rw[leftF]at b⊢
  by_cases h:actR act r<0
  rw[if_pos h]at b;cases b;rw[if_neg h]at b⊢
  replace i:=i (by omega)
  obtain⟨p,o,n⟩:=c.at_ r r0 (by omega)
  rcases List.mem_append.1 b with b|b
  obtain⟨g,e,b⟩:=List.mem_flatMap.1 b
  have:=Bf.flat e (c.left_bf d f g k w (regsL_mem.1 e).1.1 k0 k1 b hk ha λh'=>by
   have l:=c.up (by omega) e h';obtain⟨j,_⟩:=c.at_ g (regsL_mem.1 e).1.1 h'
   rw[c.a.ups_cons h' j (by omega),l,List.length_cons];omega)
  exact this.in [] _;have b:w=actR act r:=List.mem_singleton.1 b;subst b;refine Bf.last ?_;have:=c.left_mem d (f+1) k _ k0 k1 (List.mem_cons_of_mem _ hk) ha (by omega);rw[n,leftF,if_neg h]at this
  rcases List.mem_append.1 this with h'|h'
  exact h';have h':=List.mem_singleton.1 h';have:=(c.a.ups_rng k0 k1 _ hk).2.2;rw[<- h']at this;omega
structure LeftOk(m:PM)(act l:List Int):Prop where
 nd:l.Nodup
 ok:∀ w∈l,(0<=w/\w<m.vertices.length)/\Ac m act w
 bf:∀ w∈l,∀ k:Int,0<=k->k<m.vertices.length->w∈m.ups k->(∀ x∈k::m.ups k,w∈x::m.ups x->Ac m act x)->Bf l k w
theorem LeftOk.nil:LeftOk m act []:=⟨List.nodup_nil,(λ_ h=>nomatch h),(λ_ h=>nomatch h)⟩
abbrev RegOk(m:PM):Prop:=∀ v:Int,0<=v->v<m.vertices.length->(m.vx v).of<0->0<=(m.vx v).region/\(m.vx v).region<m.regions.length
theorem Cf.left_ok(c:Cf m act)(h:RegOk m){r:Int}(d:0<=r):LeftOk m act (m.leftF act 66 r):=
 ⟨c.left_nd 66 r d,λw b=>⟨(c.left_in 66 r d w b).1,(c.left_in 66 r d w b).2.1⟩,λw b k e k1 f g=>c.left_bf h 66 r k w d e k1 b f g λ_=>by have:=c.a.dep k e k1;omega⟩
theorem Cf.flat_ok(c:Cf m act)(h:RegOk m){s:Int}(f:0<=s):LeftOk m act ((m.regsL s).flatMap (m.leftF act 66)):=by
 refine⟨?_,λw a=>?_,λw a k i k1 n o=>?_⟩;rw[List.Nodup,List.pairwise_flatMap];refine⟨λg b=>c.left_nd 66 g (regsL_mem.1 b).1.1,(Zqi _).imp_of_mem fun{u t} q p d x l y j e=>?_⟩;subst e;exact d ((c.sub_in f q l).1.symm.trans (c.sub_in f p j).1);obtain⟨r,b,a⟩:=List.mem_flatMap.1 a;exact(c.left_ok h (regsL_mem.1 b).1.1).ok w a;obtain⟨r,b,a⟩:=List.mem_flatMap.1 a;exact Bf.flat b ((c.left_ok h (regsL_mem.1 b).1.1).bf w a k i k1 n o)
variable(m act)in
def isB(v:Int):Bool:=(m.kd v==1||m.kd v==2)&&actR act (m.vx v).region==v
variable(m act)in
def upB(v s:Int):Bool:=((m.ups v).takeWhile (· != s)).all (m.isB act)
theorem Acy.below(a:m.Acy){k w x:Int}(f:0<=k)(k1:k<m.vertices.length)(b:x∈m.ups k)(i:w∈m.ups x):x∈(m.ups k).takeWhile (· != w):=by
 refine a.ind (P:=λk=>x∈m.ups k->x∈(m.ups k).takeWhile (· != w)) ?_ ?_ f k1 b;intro k _ _ q b;rw[Acy.ups_nil q]at b;cases b;intro k f k1 d g h b;rw[a.ups_cons f k1 d]at b⊢
 by_cases e:m.around k=w
 have c:=a.chain d g b;have j:=(a.ups_rng c.1 c.2 w i).2.2
 rcases List.mem_cons.1 b with rfl|b
 rw[e]at j;omega;have:=(a.ups_rng d g x b).2.2;rw[e]at this;omega;rw[List.takeWhile_cons_of_pos (by simpa using e)]
 rcases List.mem_cons.1 b with rfl|b
 exact List.mem_cons_self ..;exact List.mem_cons_of_mem _ (h b)
abbrev KdOk(m:PM):Prop:=∀ v:Int,0<=v->v<m.vertices.length->(m.kd v=1\/m.kd v=2)->(m.vx v).of<0
theorem Zpy(a:KdOk m){v:Int}(c:0<=v)(b:v<m.vertices.length)(h:m.isB act v=true):Ac m act v:=by
 simp only[isB,Bool.and_eq_true,Bool.or_eq_true,beq_iff_eq]at h;exact⟨a v c b h.1,h.2⟩
theorem LeftOk.ahead{l:List Int}(o:LeftOk m act l)(a:m.Acy)(y:KdOk m){i:Nat}{w k:Int}(hi:l[i]?=some w)(d:0<=k)(k1:k<m.vertices.length)(s:m.inB k w=true)(t:m.isB act k=true)(n:m.upB act k w=true):∃ j,j<i/\l[j]?=some k:=by
 have v:=List.mem_of_getElem? hi
 have g:w∈m.ups k:=by simpa[inB]using s
 obtain⟨p,q,rfl,r⟩:=o.bf w v k d k1 g λx f c=>by
  have u:=a.chain d k1 f
  rcases List.mem_cons.1 c with rfl|c
  exact(o.ok _ v).2
  rcases List.mem_cons.1 f with rfl|f
  exact Zpy y d k1 t;exact Zpy y u.1 u.2 (List.all_eq_true.1 n x (a.below d k1 f c))
 obtain⟨j,z,e⟩:=List.getElem_of_mem r;have b:=o.nd
 have A:i=p.length:=by
  rcases Nat.lt_trichotomy i p.length with h|h|h
  rw[List.getElem?_append_left h]at hi;have:=List.mem_of_getElem? hi;rw[List.nodup_append]at b;exact absurd rfl (b.2.2 w this w (List.mem_cons_self ..));exact h;rw[List.getElem?_append_right (by omega),show i-p.length=(i-p.length-1)+1 by omega,List.getElem?_cons_succ]at hi;have:=List.mem_of_getElem? hi;rw[List.nodup_append,List.nodup_cons]at b;exact absurd this b.2.1.1
 exact⟨j,by omega,by rw[List.getElem?_append_left z,List.getElem?_eq_getElem z,e]⟩
theorem take_all{p:Int->Bool}:∀ {l:List Int},(∀ y∈l,p y=true)->l.takeWhile p=l
 |[],_=>rfl
 |y::r,h=>by rw[List.takeWhile_cons_of_pos (h y (List.mem_cons_self ..)),take_all λz a=>h z (List.mem_cons_of_mem _ a)]
theorem Cf.source(c:Cf m act)(n:RegOk m)(j:KdOk m){v home:Int}(d:0<=v)(b:v<m.vertices.length)(p:0<=home)(h:m.withinB v home=true)(hi:m.isB act v=true)(g:m.upB act v (-1)=true):v∈m.leftF act 66 home:=by
 obtain⟨u,l,e⟩:=List.any_eq_true.1 h
 have e:(m.vx u).region=home:=by simpa using e
 rw[<- e];refine c.left_mem n 66 v u d b l (λx f _=>?_) (by have:=c.a.dep v d b;omega)
 rcases List.mem_cons.1 f with rfl|f
 exact Zpy j d b hi;have i:=c.a.ups_rng d b x f;refine Zpy j i.1 i.2.1 (List.all_eq_true.1 g x ?_)
 have o:∀ y∈m.ups v,(y != -1)=true:=λy k=>by
  have:=(c.a.ups_rng d b y k).1;rw[bne_iff_ne];omega
 rw[take_all o];exact f
variable(m)in
def rgP(v:Int):Int:=if 0<=(m.vx v).of then(m.vx (m.vx v).of).region else(m.vx v).region
variable(m)in
def homeL(v:Int)(l:List Int):Int:=(((v::m.ups v).map m.rgP).find? λr=>l.all λu=>m.withinB u r).getD (-1)
theorem Acy.root(a:m.Acy)(f:∀ r:Int,0<=r->r<m.regions.length->m.ow r<0->r=0){v:Int}(c:0<=v)(b:v<m.vertices.length):m.withinB v 0=true:=by
 refine a.ind (P:=λv=>m.withinB v 0=true) ?_ ?_ c b;intro v c b q;rw[withinB_nil q,beq_iff_eq]
 by_cases h:0<=(m.vx v).of
 rw[around,if_pos h]at q;omega;have:=a.rg v c b (by omega);rw[around,if_neg h]at q;exact f _ this.1 this.2 q;intro v c b d g e;rw[a.withinB_up c b d,e,Bool.or_true]
theorem Rt5.rgP(h:m.Rt5){v:Int}(e:0<=v)(d:v<m.vertices.length):0<=m.rgP v/\m.rgP v<m.regions.length:=by
 unfold PM.rgP
 rcases h.pt e d with ⟨a,b,_,s,_⟩|⟨a,b,c,_⟩
 rw[if_pos a];simp only[stateB,Bool.and_eq_true,decide_eq_true_eq,beq_iff_eq]at s
 rcases h.pt a b with ⟨_,_,_,_,k⟩|⟨_,k,l,_⟩
 omega;exact⟨k,l⟩;rw[if_neg (by omega)];exact⟨b,c⟩
theorem Rt5.kdOk(h:m.Rt5):KdOk m:=λv d c b=>by
 rcases h.pt d c with ⟨_,_,_,_,k⟩|⟨a,_⟩
 unfold kd at b;omega;omega
theorem Rt5.home(h:m.Rt5)(a:m.Acy){v:Int}(i:0<=v)(g:v<m.vertices.length){l:List Int}(n:∀ u∈l,0<=u/\u<m.vertices.length):(0<=m.homeL v l/\m.homeL v l<m.regions.length)/\∀ u∈l,m.withinB u (m.homeL v l)=true:=by
 have b:∀ r:Int,0<=r->r<m.regions.length->m.ow r<0->r=0:=λr q o w=>by
  rcases h.own q o with ⟨e,_⟩|⟨_,e,_⟩
  exact e;omega
 unfold homeL
 cases f:((v::m.ups v).map m.rgP).find? λr=>l.all λu=>m.withinB u r with
 |none=>
  obtain⟨p,d,e⟩:=List.any_eq_true.1 (a.root b i g)
  have e:(m.vx p).region=0:=by simpa using e
  have c:=a.chain i g d
  have t:m.rgP p=0:=by
   rcases h.pt c.1 c.2 with ⟨_,_,k,_⟩|⟨k,_⟩
   omega;unfold PM.rgP;rw[if_neg (by omega),e]
  have:=List.find?_eq_none.1 f 0 (List.mem_map.2 ⟨p,d,t⟩);exact absurd (List.all_eq_true.2 λu j=>a.root b (n u j).1 (n u j).2) this
 |some r=>
  obtain⟨p,d,e⟩:=List.mem_map.1 (List.mem_of_find?_eq_some f);have c:=a.chain i g d;have s:=List.find?_some f;exact⟨e ▸ h.rgP c.1 c.2,List.all_eq_true.1 s⟩
end PM
end
section
def W5(l:List Int)(v:Int):Int:=match l with
 |[]=>0
 |x::r=>if v=x then 1 else if W5 r v=0 then 0 else W5 r v+1
theorem D1:∀ (l:List Int) (v:Int),0<=W5 l v/\W5 l v<=l.length
 |[],v=>⟨Int.le_refl _,Int.le_refl _⟩
 |x::r,v=>by
  have:=D1 r v;rw[W5,List.length_cons]
  split
  omega
  split<;>omega
theorem Zta:∀ {l:List Int} {v:Int},v∉l->W5 l v=0
 |[],_,_=>rfl
 |x::r,v,h=>by
  rw[List.mem_cons,not_or]at h;rw[W5,if_neg h.1,Zta h.2,if_pos rfl]
theorem Lp:∀ {l:List Int} {i:Nat} {w:Int},l.Nodup->l[i]?=some w->W5 l w=(i:Int)+1
 |[],_,_,_,h=>by cases h
 |x::r,0,w,_,h=>by
  rw[List.getElem?_cons_zero]at h;rw[W5,if_pos (Option.some.inj h).symm];rfl
 |x::r,i+1,w,hn,h=>by
  rw[List.nodup_cons]at hn;rw[List.getElem?_cons_succ]at h;have b:=List.mem_of_getElem? h;have a:w≠x:=λe=>hn.1 (e ▸ b);rw[W5,if_neg a,Lp hn.2 h,if_neg (by omega)];omega
theorem D2(w v:Int):∀ {l:List Int},w∉l->W5 (l++[w]) v=if v=w then(l.length:Int)+1 else W5 l v
 |[],_=>by
  simp only[List.nil_append,W5,if_true]
  split<;>rfl
 |x::r,h=>by
  rw[List.mem_cons,not_or]at h;have a:=D1 r v;rw[List.cons_append,W5,W5,D2 w v h.2,List.length_cons]
  split
  rename_i e;rw[if_neg (λq=>h.1 (q.symm.trans e))]
  split
  rw[if_neg (by omega)];omega;rfl
def Ut(n:Nat)(l:List Int):List Int:=(List.range n).map fun(v:Nat)=>W5 l (v:Int)
theorem Zqr(n:Nat)(l:List Int):(Ut n l).length=n:=by rw[Ut,List.length_map,List.length_range]
theorem Zrr{n v:Nat}(l:List Int)(h:v<n):(Ut n l)[v]?=some (W5 l (v:Int)):=by
 rw[Ut,List.getElem?_map,List.getElem?_range h];rfl
theorem Zpr(n:Nat):Ut n []=List.replicate n 0:=by
 rw[Ut]
 exact List.ext_getElem (by simp) λi _ _=>by simp[W5]
theorem Zor{n w:Nat}{l:List Int}(h:(w:Int)∉l):(Ut n l).set w ((l.length:Int)+1)=Ut n (l++[(w:Int)]):=by
 refine List.ext_getElem? λi=>?_;rw[Ut,Ut,List.getElem?_set,List.getElem?_map,List.getElem?_map,List.length_map,List.length_range]
 by_cases a:i<n
 rw[List.getElem?_range a,Option.map_some,Option.map_some,D2 _ _ h]
 by_cases e:w=i
 subst e;rw[if_pos rfl,if_pos a,if_pos rfl];rw[if_neg e,if_neg (by omega)];rw[List.getElem?_eq_none (by rw[List.length_range];omega)]
 by_cases e:w=i
 subst e;rw[if_pos rfl,if_neg a];rfl;rw[if_neg e];rfl
namespace PM
variable{m:PM}{act:List Int}
theorem LeftOk.asked{l:List Int}(o:LeftOk m act l)(a:m.Acy)(h:KdOk m){i:Nat}{w k:Int}(hi:l[i]?=some w)(f:0<=k)(k1:k<m.vertices.length)(d:m.isB act k=true)(c:m.inB k w=true)(g:W5 l k=0\/W5 l k>W5 l w):m.upB act k w=false:=by
 rw[Bool.eq_false_iff];intro b;obtain⟨j,n,e⟩:=o.ahead a h hi f k1 c d b;rw[Lp o.nd e,Lp o.nd hi]at g;omega
variable(m act)in
def rowB(l:List Int):Bool:=l.length==m.regions.length&&(List.range l.length).all fun(r:Nat)=>l.getD r (-1) == -1||((decide (0<=l.getD r (-1))&&decide (l.getD r (-1)<m.vertices.length))&&(m.kd (l.getD r (-1))==1||m.kd (l.getD r (-1))==2))&&m.rgP (l.getD r (-1))==(r:Int)
theorem Rt5.cf(h:m.Rt5)(a:m.Acy)(f:m.rowB act=true):Cf m act:=by
 refine⟨a,λr g c=>?_⟩;unfold actR at c⊢;simp only[rowB,Bool.and_eq_true,beq_iff_eq,List.all_eq_true,List.mem_range,Bool.or_eq_true,decide_eq_true_eq]at f
 have e:r.toNat<act.length:=by
  rcases Nat.lt_or_ge r.toNat act.length with q|q
  exact q;rw[List.getD_eq_getElem?_getD,List.getElem?_eq_none q]at c;exact absurd c (by decide)
 have:=(f.2 r.toNat e).resolve_left (by omega);have d:=h.kdOk _ this.1.1.1 this.1.1.2 this.1.2;have b:=this.2;unfold PM.rgP at b;rw[if_neg (by omega)]at b;exact⟨this.1.1.2,d,by omega⟩
end PM
end
section
namespace PM
variable(m:PM)
def leafR(q:StP×List Int):List Int:=
 if(m.wy q.1.first).kind=1 then[m.homeL (q.1.sources.headD 0) (q.1.sources++q.2)]
 else if(m.wy q.1.first).kind=2 then m.regsL (q.1.sources.headD 0)else[]
variable(act last:List Int)
def fitB:Bool:=m.rowB act&&m.rowB last
def exitL(r:Int):List Int:=if m.fitB act last=true/\0<=r/\r<m.regions.length then m.leftF act 66 r else[]
def leftL(q:StP×List Int):List Int:=(m.leafR q).flatMap (m.exitL act last)
def takeL(q:StP×List Int):List Int:=m.leftL act last q++if m.fitB act last=true/\(m.wy q.1.first).kind=3 then q.1.sources else[]
def meetL(a b:List Int):Bool:=b.any λv=>a.contains v
theorem meetL_comm(a b:List Int):meetL a b=meetL b a:=by
 unfold meetL;rw[Bool.eq_iff_iff,List.any_eq_true,List.any_eq_true];simp only[List.contains_iff_mem];exact⟨fun⟨x,h,k⟩=>⟨x,k,h⟩,fun⟨x,h,k⟩=>⟨x,k,h⟩⟩
def deepL(d:Int->Int)(q:StP×List Int):Int:=q.1.sources.foldl (λn v=>max n (d v)) 0
def innerB(a b:StP×List Int):Bool:=a.1.sources.any λv=>b.1.sources.any λs=>m.inB v s&&m.kd s==1
def aheadB(d:Int->Int)(a b:StP×List Int):Bool:=m.innerB a b&&decide (deepL d a>deepL d b)
variable{m act last}
theorem aheadB_one{d:Int->Int}{a b:StP×List Int}(h:m.aheadB d a b=true):m.aheadB d b a=false:=by
 simp only[aheadB,Bool.and_eq_true,decide_eq_true_eq]at h;rw[aheadB,Bool.and_eq_false_iff]
 right
 rw[decide_eq_false_iff_not];omega
theorem aheadB_self{d:Int->Int}{a:StP×List Int}:m.aheadB d a a=false:=by
 rw[aheadB,Bool.and_eq_false_iff]
 right
 rw[decide_eq_false_iff_not];omega
structure LvQ(m:PM)(q:StP×List Int):Prop where
 so:q.1.sources≠[]
 src:∀ v∈q.1.sources,0<=v/\v<m.vertices.length
 re:∀ v∈q.2,0<=v/\v<m.vertices.length
theorem LvQ.s0{q:StP×List Int}(h:LvQ m q):0<=q.1.sources.headD 0/\q.1.sources.headD 0<m.vertices.length:=h.src _ (headD_mem h.so)
theorem LvQ.all{q:StP×List Int}(h:LvQ m q):∀ u∈q.1.sources++q.2,0<=u/\u<m.vertices.length:=λu a=>(List.mem_append.1 a).elim (h.src u) (h.re u)
theorem withR_lv(h:m.StOk):∀ q∈m.withR,LvQ m q:=by
 intro q b;obtain⟨s,a,rfl⟩:=List.mem_map.1 b;have F:=allL_ok h.wfd s a;exact⟨F.so,F.src,reachL_rng m.allL s⟩
theorem exitL_ok(h:m.Rt5)(a:m.Acy)(r:Int):LeftOk m act (m.exitL act last r):=by
 unfold exitL
 by_cases e:m.fitB act last=true/\0<=r/\r<m.regions.length
 rw[if_pos e];have b:=e.1;simp only[fitB,Bool.and_eq_true]at b;exact(h.cf a b.1).left_ok a.rg e.2.1;rw[if_neg e];exact .nil
theorem leftL_ok(h:m.Rt5)(a:m.Acy){q:StP×List Int}(d:LvQ m q):LeftOk m act (m.leftL act last q):=by
 unfold leftL leafR
 split
 rw[List.flatMap_cons,List.flatMap_nil,List.append_nil];exact exitL_ok h a _
 split
 by_cases e:m.fitB act last=true
 have b:=e;simp only[fitB,Bool.and_eq_true]at b
 have:(m.regsL (q.1.sources.headD 0)).flatMap (m.exitL act last)=(m.regsL (q.1.sources.headD 0)).flatMap (m.leftF act 66):=by
  rw[List.flatMap_def,List.flatMap_def]
  congr 1
  refine List.map_congr_left λr c=>?_;have:=(regsL_mem.1 c).1;rw[exitL,if_pos ⟨e,this⟩]
 rw[this];exact(h.cf a b.1).flat_ok a.rg d.s0.1
 have:(m.regsL (q.1.sources.headD 0)).flatMap (m.exitL act last)=[]:=List.flatMap_eq_nil_iff.2 λr _=>by rw[exitL,if_neg (λk=>e k.1)]
 rw[this];exact .nil;exact .nil
theorem leftL_source(h:m.Rt5)(a:m.Acy){q:StP×List Int}(c:LvQ m q)(g:m.fitB act last=true)(j:(m.wy q.1.first).kind=1){v:Int}(f:v∈q.1.sources)(hi:m.isB act v=true)(i:m.upB act v (-1)=true):v∈m.leftL act last q:=by
 have d:=h.home a c.s0.1 c.s0.2 c.all;have b:=g;simp only[fitB,Bool.and_eq_true]at b;have e:=c.src v f;rw[leftL,leafR,if_pos j,List.flatMap_cons,List.flatMap_nil,List.append_nil,exitL,if_pos ⟨g,d.1⟩];exact(h.cf a b.1).source a.rg h.kdOk e.1 e.2 d.1.1 (d.2 v (List.mem_append_left _ f)) hi i
end PM
end
section
def Z9c(L:List (Int×List Int))(q:Int):List Int:=Y9 L (St L q)
theorem Z3j(k r q:Int):∀ L:List (Int×List Int),Z9c (Sb L k r) q=if q=k then Z9c L q++[r]else Z9c L q
 |[]=>by
  simp only[Z9c,Sb,St,Y9]
  by_cases e:k=q
  rw[if_pos e,if_pos e.symm];rfl;rw[if_neg e,if_neg (λh=>e h.symm)];rfl
 |p::L=>by
  have a:=Z3j k r q L;simp only[Z9c,Y9]at a⊢;rw[Sb]
  by_cases e:p.1=k
  rw[if_pos e,St,St]
  by_cases h:p.1=q
  rw[if_pos h,if_pos (h.symm.trans e)];rfl;rw[if_neg h,if_neg (λz=>h (e.trans z.symm))];rfl;rw[if_neg e,St,St]
  by_cases h:p.1=q
  rw[if_pos h,if_pos h,if_neg (λz=>e (h.trans z))];rfl;rw[if_neg h,if_neg h];exact a
namespace PM
variable{m:PM}
theorem own_regs(s:Int):Z9c (m.ownK m.regions.length) s=m.regsL s:=by
 have a:∀ n,Z9c (m.ownK n) s=((List.range n).filter fun(r:Nat)=>m.ow (r:Int)==s).map fun(r:Nat)=>(r:Int):=by
  intro n
  induction n with
  |zero=>rfl
  |succ n ih=>
   rw[ownK_succ,Z3j,ih,List.range_succ,List.filter_append,List.map_append]
   by_cases e:m.ow (n:Int)=s
   rw[if_pos e.symm,List.filter_cons_of_pos (by simpa using e)];rfl;rw[if_neg (λh=>e h.symm),List.filter_cons_of_neg (by simpa using e)];simp
 exact a _
theorem regsL_len(s:Int):(m.regsL s).length<=m.regions.length:=by
 rw[regsL,List.length_map];have:=List.length_filter_le (fun(r:Nat)=>m.ow (r:Int)==s) (List.range m.regions.length);rwa [List.length_range]at this
end PM
end
end Go.Hs
end

section
namespace Go.Hs
open Go.Proofs
set_option maxHeartbeats 4000000
set_option maxRecDepth 10000
def IxM.dp(x:IxM)(v:Int):Int:=match x.places.l[v.toNat]? with|some p=>p.depth|none => -1
theorem Z5c(G:Nat->V)(g:Y6 G)(b c d:Col)(x:IxM)(m:PM)(e:IxP m x)(v:Int)(j:0<=v)(i:v<m.vertices.length):
  Spec Tryz.prog G 119 [Uj b c d x,.int .i64 v] Zj (λw _=>w=.int .i64 (m.rgO v)):=by
 refine Zo 0 17 [.tmp 4] Tryz.func119 λX=>?_;obtain⟨n,rfl⟩:∃ n:Nat,v=(n:Int):=⟨v.toNat,zo⟩
 have f:n<x.places.l.length:=by rw[e.len];omega
 have a:=List.getElem?_eq_getElem f;generalize x.places.l[n]=p at a
 have h:(decide ((0:Int)<=(n:Int))&&decide ((n:Int)<x.places.l.length))=true:=by rw[Bool.and_eq_true];exact⟨zT,zT⟩
 refine Z ?_;refine Zc g ?_ (s:=Wm G _ _ _ _ _);refine Zg (zi h (zi a (zi f (zi Vj (zi V0 Yh))))) ?_;rw[e.reg n p a]
theorem Z0j(G:Nat->V)(g:Y6 G)(b c d:Col)(x:IxM)(m:PM)(f:IxP m x)(v:Int)(j:0<=v)(i:v<m.vertices.length):
  Spec Tryz.prog G 81 [Uj b c d x,.int .i64 v] Zj (λw _=>w=.int .i64 (x.dp v)):=by
 refine Zo 0 17 [.tmp 4] Tryz.func81 λX=>?_;obtain⟨n,rfl⟩:∃ n:Nat,v=(n:Int):=⟨v.toNat,zo⟩
 have e:n<x.places.l.length:=by rw[f.len];omega
 have a:=List.getElem?_eq_getElem e;generalize x.places.l[n]=p at a
 have h:(decide ((0:Int)<=(n:Int))&&decide ((n:Int)<x.places.l.length))=true:=by rw[Bool.and_eq_true];exact⟨zT,zT⟩
 refine Z ?_;refine Zc g ?_ (s:=Wm G _ _ _ _ _);refine Zg (zi h (zi a (zi e (zi Vj (zi V0 Yh))))) ?_;rw[IxM.dp,Int.toNat_natCast,a]
def Gz(c:Col)(l:Nat->List Int)(n:Nat):List V:=(List.range n).map λj=>Za c 1 (V.int .i64) (Zd (l j))
def IxO(m:PM)(c:Col)(x:IxM):Prop:=x.owned=.mapv (Xh (m.ownK m.regions.length)) (Gz c (Y9 (m.ownK m.regions.length)) (m.ownK m.regions.length).length)
theorem Zq7(m:PM):IxO m .new (Ue m):=rfl
theorem IxO.rc{m:PM}{c:Col}{x:IxM}(h:IxO m c x)(g:Col->Col):IxO m (g c) (x.rc g):=by
 unfold IxO at h⊢;rw[show(x.rc g).owned=x.owned.recol g from rfl,h];simp only[V.recol,Q3,V.mapv.injEq];refine⟨?_,?_⟩;rw[Xh,List.map_map];rfl;rw[Gz,Gz,List.map_map];exact List.map_congr_left λj _=>Y1 g c 1 .i64 _
theorem Z76(c:Col)(L:List (Int×List Int))(k:Int):Q7 Tryz.prog 139 (.mapv (Xh L) (Gz c (Y9 L) L.length)) (.int .i64 k) false=some (Za c 1 (V.int .i64) (Zd (Z9c L k))):=by
 unfold Q7;rw[Tryz.underlying139];simp only[Zpj,Tryz.underlying3,Gh k L _ (show(Gz c (Y9 L) L.length).length=L.length by rw[Gz,List.length_map,List.length_range])];unfold Z9c
 rcases Nat.lt_or_ge (St L k) L.length with h|h
 rw[Gz,List.getElem?_map,List.getElem?_range h];rfl;rw[List.getElem?_eq_none (by rw[Gz,List.length_map,List.length_range];exact h),show Y9 L (St L k)=[] by rw[Y9,List.getD_eq_getElem?_getD,List.getElem?_eq_none h];rfl];rfl
theorem Kk(G:Nat->V)(h:Y6 G)(b c d e:Col)(x:IxM)(m:PM)(g:IxO m e x)(i:m.regions.length<1000000)(s:Int):
  Spec Tryz.prog G 75 [Uj b c d x,.int .i64 s] Zj (λw _=>w=Za .new 1 (V.int .i64) (Zd (m.regsL s)).co):=by
 refine Zo 0 14 [.tmp 4] Tryz.func75 λX=>?_;have a:=Z76 e (m.ownK m.regions.length) s;rw[PM.own_regs]at a;have f:x.owned=_:=g;refine Zf (zi V0 (zi f a)) ?_;refine Zc h ?_ (s:=O1 G _ _ (by rw[Zm];have:=m.regsL_len s;omega));exact Zr
theorem Zhd(G:Nat->V)(e:Y6 G)(k j b c d:Col)(x:IxM)(m:PM)(a:m.Acy)(f:IxP m x)(v r:Int)(i:0<=v)(h:v<m.vertices.length)(g:0<=r):
  Spec Tryz.prog G 186 [.int .i64 v,.view k (Uj b c d x),.view j (.int .i64 r)] Zj (λw _=>w=.bool (!(m.withinB v r))):=by
 refine Zo 0 10 [.tmp 4] Tryz.func186 λX=>?_;refine Zf V0 ?_;refine Zc e ?_ (s:=Zya G e _ _ _ _ m a (f.rc _) v r i h g);exact Zr
def Rb(b c d e f:Col)(x:IxM)(k:Sl Int)(n:Int):V:=.view b (.agg [Uj c d e x,Za f 1 (V.int .u8) k,.int .i64 n])
theorem Tq(b c d e f:Col)(x:IxM)(k:Sl Int)(n:Int):Rb b c d e f x k n=.view b (.agg [Uj c d e x,Za f 1 (V.int .u8) k,.int .i64 n]):=rfl
theorem Oe(q:Col->Col)(b c d e f:Col)(x:IxM)(k:Sl Int)(n:Int):(Rb b c d e f x k n).recol q=Rb (q b) (q c) (q d) (q e) (q f) (x.rc q) k n:=by
 simp only[Tq,V.recol,Yv,Q2,Y1]
theorem Zj8(b c d e f:Col)(x:IxM)(k:Sl Int)(n:Int):(Rb b c d e f x k n).cells=[Rb b c d e f x k n]:=rfl
theorem Zk5(b c d e f:Col)(x:IxM)(k:Sl Int)(n:Int):(Rb b c d e f x k n).solid=true:=rfl
attribute[go_sem]Oe Zj8 Zk5
structure SsP(m:PM)(k:Sl Int):Prop where
 len:k.l.length=m.vertices.length
 at_:∀ i:Nat,i<m.vertices.length->k.l[i]?=some (m.kd (i:Int))
theorem Zv5(G:Nat->V)(p:Y6 G)(b c d e f c1:Col)(x:IxM)(k:Sl Int)(n:Int)(m:PM)(o:SsP m k)(v:Int)(s:Sl Int)(q:s.l.length<1000000):
  Spec Tryz.prog G 118 [Rb b c d e f x k n,.int .i64 v,Za c1 1 (V.int .u8) s] Zj (λw _=>w=.bool ((decide (0<=v)&&decide (v<m.vertices.length))&&s.l.contains (m.kd v))):=by
 refine Zo 0 29 [.tmp 6] Tryz.func118 λX=>?_
 by_cases z:0<=v
 rotate_left;have a:decide (v>=0)=false:=zF;have j:decide (0<=v)=false:=zF;rw[j];exact Zq (zi a Tq);have a:decide (v>=0)=true:=zT;have j:decide (0<=v)=true:=zT;have u:=o.len;rw[j]
 by_cases y:v<m.vertices.length
 rotate_left;have g:decide (v<(k.l.length:Int))=false:=zF;have h:decide (v<m.vertices.length)=false:=zF;rw[h];exact Zq (zi a (zi g Tq));obtain⟨i,rfl⟩:∃ i:Nat,v=(i:Int):=⟨v.toNat,zo⟩;have g:decide ((i:Int)<(k.l.length:Int))=true:=zT;have h:decide ((i:Int)<m.vertices.length)=true:=zT;have t:=o.at_ i zo;have r:i<k.l.length:=zo;rw[h];refine Zf (zi a (zi g (zi t (zi r (zi Tq Yh))))) ?_;refine Zc p ?_ (s:=Gj G p _ _ _ q);exact Zr
def Td(c:Col)(a l:Sl Int):V:=.agg [Za c 1 (V.int .i64) a,Za c 1 (V.int .i64) l]
theorem Yi(c:Col)(a l:Sl Int):Td c a l=.agg [Za c 1 (V.int .i64) a,Za c 1 (V.int .i64) l]:=rfl
@[go_sem] theorem Va(q:Col->Col)(c:Col)(a l:Sl Int):(Td c a l).recol q=Td (q c) a l:=by
 simp only[Yi,Xl,List.map_cons,List.map_nil,Y1]
def PM.okR(m:PM)(l:List Int)(r:Nat):Bool:=l.getD r (-1) == -1||((decide (0<=l.getD r (-1))&&decide (l.getD r (-1)<m.vertices.length))&&(m.kd (l.getD r (-1))==1||m.kd (l.getD r (-1))==2))&&m.rgP (l.getD r (-1))==(r:Int)
theorem O7(m:PM)(l:List Int):m.rowB l=(l.length==m.regions.length&&(List.range l.length).all (m.okR l)):=rfl
theorem PM.okR_at(m:PM){l:List Int}{r:Nat}{v:Int}(h:l[r]?=some v):m.okR l r=(v == -1||((decide (0<=v)&&decide (v<m.vertices.length))&&(m.kd v==1||m.kd v==2))&&m.rgO v==(r:Int)):=by
 unfold PM.okR;rw[show l.getD r (-1)=v by rw[List.getD_eq_getElem?_getD,h];rfl];rfl
theorem Ly(G:Nat->V)(N:Y6 G)(b c d e f c1:Col)(x:IxM)(k:Sl Int)(m:PM)(hx:IxP m x)(hk:SsP m k)(a l:Sl Int)(ha:a.l.length<1000000)(hl:l.l.length<1000000):
  Spec Tryz.prog G 76 [Rb b c d e f x k m.regions.length,Td c1 a l] Zj (λw _=>w=.bool (m.fitB a.l l.l)):=by
 refine Zo 0 54 [.tmp 4] Tryz.func76 λX=>?_;refine Zf (zi Yi Tq) ?_;intro g3;refine AW.weak (Zl (λo=>o==3) (l:=[(0,Rb b c d e f x k m.regions.length),(3,.view .new (Td c1 a l))]) (m:=[]) ?_ trivial) ?_;simp -implicitDefEqProofs only[go_sem,seval];exact⟨Zb,Fz.ptr (v:=Td c1 a l) (c:=.new) (fz:=0) zp (by rw[Yi];exact zp)⟩;refine Zf (zi Yi Tq) ?_;refine Yc 2 (λi (_:Unit)=>st [(0,Rb b c d e f x k m.regions.length),(15,Td c1 a l),(16,.int .i64 i)] []) (λi _=>∀ j,j<i->m.rowB (if j=0 then a.l else l.l)=true) 0 () (Nat.zero_le _) (λj F=>absurd F (Nat.not_lt_zero j)) (Weak.st (zq (zi @Yi @Tq)) zp) ?_;intro i _ hi W L1 Y
 by_cases I:i<2
 rotate_left;have T:i=2:=zo;subst T;have h0:m.rowB a.l=true:=W 0 zd;have h1:m.rowB l.l=true:=W 1 zd;have A:decide (((2:Nat):Int)<2)=false:=zF
 have e:m.fitB a.l l.l=true:=by rw[PM.fitB,h0,h1];rfl
 rw[e];exact Zq A;have A:decide ((i:Int)<2)=true:=zT;have wi:IntKind.i64.wrap ((i:Int)+1)=(i:Int)+1:=Wy zo zo
 have y:m.rowB (if i=0 then a.l else l.l)=false->m.fitB a.l l.l=false:=by
  intro h;rw[PM.fitB]
  by_cases e:i=0
  rw[if_pos e]at h;rw[h];rfl;rw[if_neg e]at h;rw[h,Bool.and_false]
 obtain⟨s,R,E,hsl⟩:∃ s:Sl Int,([Za c1 1 (V.int .i64) a,Za c1 1 (V.int .i64) l]:List V)[i]?=some (Za c1 1 (V.int .i64) s)/\(if i=0 then a.l else l.l)=s.l/\s.l.length<1000000:=by
  match i,I with
  |0,_=>exact⟨a,rfl,rfl,ha⟩
  |1,_=>exact⟨l,rfl,rfl,hl⟩
 rw[E]at y;have S:((i:Int)<2)=True:=eq_true zo;have fs:=zi A (zi R (zi S (zi @Nat.mul_one (zi Yi (zi Tq Yh)))))
 by_cases M:s.l.length=m.regions.length
 rotate_left
 have P:((s.l.length:Int) != (m.regions.length:Int))=true:=by rw[bne_iff_ne];omega
 have e1:(s.l.length==m.regions.length)=false:=beq_eq_false_iff_ne.2 M;rw[y (by rw[O7,e1];rfl)];exact Zq (zi P fs)
 have P:((s.l.length:Int) != (m.regions.length:Int))=false:=by rw[M];simp
 refine Zf (zi P fs) ?_;refine Yc s.l.length (λr (_:Unit)=>st [(0,Rb b c d e f x k m.regions.length),(15,Td c1 a l),(16,.int .i64 i),(26,Za c1 1 (V.int .i64) s),(27,.int .i64 s.l.length),(28,.int .i64 r)] []) (λr _=>∀ j,j<r->m.okR s.l j=true) 0 () (Nat.zero_le _) (λj F=>absurd F (Nat.not_lt_zero j)) (Weak.st (zq (zi @Yi @Tq)) zp) ?_;intro r _ hr hQ L2 K
 by_cases p:r<s.l.length
 rotate_left;have u:decide ((r:Int)<(s.l.length:Int))=false:=zF;refine Zf (zi u wi) ?_
 exact Y _ ⟨I,(),(λj F=>by
  by_cases e:j<i
  exact W j e;rw[show j=i by omega,E,O7,M,beq_self_eq_true,Bool.true_and,List.all_eq_true,<- M]
  exact λq C=>hQ q (by have:=List.mem_range.1 C;omega)),Weak.st (zq (zi @Yi @Tq)) zp⟩
 have u:decide ((r:Int)<(s.l.length:Int))=true:=zT;have U:=List.getElem?_eq_getElem p;generalize s.l[r]=v at U;have wr:IntKind.i64.wrap ((r:Int)+1)=(r:Int)+1:=Wy zo zo;have n:=m.okR_at U
 have J:m.okR s.l r=false->m.fitB a.l l.l=false:=λh=>y (by
  rw[O7,Bool.and_eq_false_iff]
  right
  rw[List.all_eq_false]
  exact⟨r,List.mem_range.2 p,by rw[h];decide⟩)
 have t:m.okR s.l r=true->∀ j,j<r+1->m.okR s.l j=true:=λh j F=>by
  by_cases e:j<r
  exact hQ j e;rwa [show j=r by omega]
 have z:=zi u (zi U (zi p (zi wr (zi Tq Yh))))
 by_cases L:v = -1
 have e0:(v == -1)=true:=by rw[L];rfl
 have Q:(v != -1)=false:=by rw[L];rfl
 rw[e0,Bool.true_or]at n;refine Zf (zi Q z) ?_;exact K _ ⟨p,(),t n,Weak.st (zq (zi @Yi @Tq)) zp⟩;have e0:(v == -1)=false:=beq_eq_false_iff_ne.2 L;have Q:(v != -1)=true:=bne_iff_ne.2 L;rw[e0,Bool.false_or]at n;refine Zf (zi Q z) ?_;intro g38;refine Wf (λo=>o==38) [Rb b c d e f x k m.regions.length,.int .i64 v,Za .new 1 (V.int .u8) (.mk false [1,2])] [] ⟨Zb,Zb,?_,trivial⟩ trivial ?_;exact Xa (f:=V.int .u8) (l:=[1,2]) (m:=1) (g:=g38) (fz:=0) (c:=.new) rfl zp λ_=>rfl;refine Zc N ?_ (s:=Zv5 G N _ _ _ _ _ _ _ _ _ m hk v _ zd);rw[<- con2]at n
 have H:((decide (0<=v)&&decide (v<m.vertices.length))&&[1,2].contains (m.kd v))=true->0<=v/\v<m.vertices.length:=λh=>by
  simp only[Bool.and_eq_true,decide_eq_true_eq]at h;exact h.1
 generalize((decide (0<=v)&&decide (v<m.vertices.length))&&[1,2].contains (m.kd v))=B at n H⊢
 cases B with
 |false=>
  refine Zf z ?_;rw[J n]
 |true=>
  have D:=H rfl;rw[Bool.true_and]at n;refine Zf z ?_;refine Zc N ?_ (s:=Z5c G N _ _ _ _ m (hx.rc _) v D.1 D.2)
  cases C:(m.rgO v==(r:Int))with
  |false=>
   have O:(m.rgO v != (r:Int))=true:=by rw[bne,C];rfl
   refine Xr (zi O z) ?_;refine Zf z ?_;rw[J (n.trans C)]
  |true=>
   have O:(m.rgO v != (r:Int))=false:=by rw[bne,C];rfl
   refine Xr (zi O z) ?_;refine Zf z ?_;exact K _ ⟨p,(),t (n.trans C),Weak.st (zq (zi @Yi @Tq)) zp⟩
theorem Zxc{lo hi:Nat}(H:Heap)(h:lo<=hi):Z9 lo (Z9 hi H)=Z9 hi H:=by
 funext o
 rcases Nat.lt_or_ge o lo with q|q
 rw[Xi q,Xi zo];rw[W6 q]
 rcases Nat.lt_or_ge o hi with p|p
 rw[Xi p];rfl;rw[W6 p,Qv]
theorem Zwa(B:Nat)(G:Nat->V)(b e:V)(r:Int)(d:b.cells=[b])(c:b.solid=true)(a l:Sl Int)(c1:Col)(f:e=Td c1 a l):
  InSp Tryz.prog G 83 [b,e,.int .i64 r] (Z5 Zj [(B+3,.dead),(B+4,.dead),(B+5,.dead)])
  (λw H'=>∃ g3 g4 g5,w=.func (.func 121) [] [.ptr (B+4) g4 0,.ptr (B+5) g5 0,.ptr (B+3) g3 0]/\H' (B+3)=.cells .new g3 0 [b]/\H' (B+4)=.cells .new g4 0 [Za c1 1 (V.int .i64) a,Za c1 1 (V.int .i64) l]/\H' (B+5)=.cells .new g5 0 [.int .i64 r]):=by
 subst f;refine Yr B 8 [.tmp 6] Tryz.func83 rfl rfl rfl rfl λX=>?_;simp only[Z5];refine Zf (zi d (zi c Yi)) ?_;intro g3 g4 g5;refine Z ?_;exact⟨g3,g4,g5,rfl,by simp -implicitDefEqProofs only[go_sem,seval,Nat.left_eq_add],by simp -implicitDefEqProofs only[go_sem,seval,Nat.left_eq_add],by simp -implicitDefEqProofs only[go_sem,seval,Nat.left_eq_add]⟩
theorem Zf7(G:Nat->V)(hG:Y6 G)(K c d e f c1 eo:Col)(x:IxM)(k:Sl Int)(m:PM)(ac:m.Acy)(hx:IxP m x)(ho:IxO m eo x)(hrl:m.regions.length<1000000)(a l:Sl Int)(hal:a.l.length=m.regions.length)
  (hcf:∀ r:Int,0<=r->0<=PM.actR a.l r->PM.actR a.l r<m.vertices.length/\(m.vx (PM.actR a.l r)).of<0/\(m.vx (PM.actR a.l r)).region=r):
  ∀ (fu b:Nat) (r:Int) (g3 g4 g5:Nat) (H:Heap),100*fu<=b->0<=r->r<m.regions.length->(0<=PM.actR a.l r->65<=fu+(m.ups (PM.actR a.l r)).length) ->
   H (b+103)=.cells .new g3 0 [Rb K c d e f x k m.regions.length]->H (b+104)=.cells .new g4 0 [Za c1 1 (V.int .i64) a,Za c1 1 (V.int .i64) l]->H (b+105)=.cells .new g5 0 [.int .i64 r] ->
   Eh Tryz.prog G (b+200) 121 [.ptr (b+104) g4 0,.ptr (b+105) g5 0,.ptr (b+103) g3 0] H (λw:Int=>[.int .i64 w]) (m.leftF a.l fu r):=by
 intro fu
 induction fu with
 |zero=>
  intro b r g3 g4 g5 H hb r0 r1 F h3 h4 h5;refine Wz .marks (b+110) 40 4 [] Tryz.func121 λX t cl σ R dom y s0 hy hd hR _=>?_;refine AW.weak (Y7 (lo:=b+200) (B:=H) (l:=[(0,.func t [] cl),(1,.ptr (b+104) g4 0),(2,.ptr (b+105) g5 0),(3,.ptr (b+103) g3 0)]) (m:=[(b+103,.cells .new g3 0 [Rb K c d e f x k m.regions.length]),(b+104,.cells .new g4 0 [Za c1 1 (V.int .i64) a,Za c1 1 (V.int .i64) l]),(b+105,.cells .new g5 0 [.int .i64 r])]) ⟨rfl,rfl,rfl,rfl,trivial⟩ ⟨h3,h4,h5,trivial⟩ rfl) ?_;obtain⟨n,rfl⟩:∃ n:Nat,r=(n:Int):=⟨r.toNat,zo⟩;have hn:n<a.l.length:=zo;have hg:=List.getElem?_eq_getElem hn;generalize a.l[n]=v at hg
  have hv:PM.actR a.l (n:Int)=v:=by rw[PM.actR,List.getD_eq_getElem?_getD,Int.toNat_natCast,hg];rfl
  have O:=hcf (n:Int) r0;rw[hv]at O F;have F1:=zi hg (zi hn (zi Tq (zi @Nat.left_eq_add (zi @Nat.add_eq_left Yh))));refine Zf F1 ?_;intro g;have e12:b+110+4=b+114:=rfl;rw[e12]
  have h0:v<0:=by
   refine Int.not_le.1 λq=>?_;have:=F q;have:=ac.dep v q (O q).1;omega
  have q0:decide (v<0)=true:=zT;have D:m.leftF a.l 0 (n:Int)=[]:=rfl;rw[D];refine Zf (zi q0 F1) ?_;refine⟨.inr trivial,?_⟩;simp -implicitDefEqProofs only[go_sem,seval,Nat.add_le_add_iff_left];exact hR
 |succ fu ih=>
 intro b r g3 g4 g5 H hb r0 r1 F h3 h4 h5;refine Wz .marks (b+110) 40 4 [] Tryz.func121 λX t cl σ R dom y s0 hy hd hR _=>?_;refine AW.weak (Y7 (lo:=b+200) (B:=H) (l:=[(0,.func t [] cl),(1,.ptr (b+104) g4 0),(2,.ptr (b+105) g5 0),(3,.ptr (b+103) g3 0)]) (m:=[(b+103,.cells .new g3 0 [Rb K c d e f x k m.regions.length]),(b+104,.cells .new g4 0 [Za c1 1 (V.int .i64) a,Za c1 1 (V.int .i64) l]),(b+105,.cells .new g5 0 [.int .i64 r])]) ⟨rfl,rfl,rfl,rfl,trivial⟩ ⟨h3,h4,h5,trivial⟩ rfl) ?_;obtain⟨n,rfl⟩:∃ n:Nat,r=(n:Int):=⟨r.toNat,zo⟩;have hn:n<a.l.length:=zo;have hg:=List.getElem?_eq_getElem hn;generalize a.l[n]=v at hg
 have hv:PM.actR a.l (n:Int)=v:=by rw[PM.actR,List.getD_eq_getElem?_getD,Int.toNat_natCast,hg];rfl
 have O:=hcf (n:Int) r0;rw[hv]at O F;have F1:=zi hg (zi hn (zi Tq (zi @Nat.left_eq_add (zi @Nat.add_eq_left Yh))));refine Zf F1 ?_;intro g;have e12:b+110+4=b+114:=rfl;rw[e12]
 by_cases h0:v<0
 have q0:decide (v<0)=true:=zT
 have D:m.leftF a.l (fu+1) (n:Int)=[]:=by rw[PM.leftF,hv,if_pos h0]
 rw[D];refine Zf (zi q0 F1) ?_;refine⟨.inr trivial,?_⟩;simp -implicitDefEqProofs only[go_sem,seval,Nat.add_le_add_iff_left];exact hR;have q0:decide (v<0)=false:=zF;refine Zf (zi q0 F1) ?_;refine Zc hG ?_ (s:=Kk G hG _ _ _ _ _ m (ho.rc _) hrl v)
 have hrs:(Zd (m.regsL v)).co.l=m.regsL v:=by rw[Zqy,Zm]
 have D:m.leftF a.l (fu+1) (n:Int)=((Zd (m.regsL v)).co.l.drop 0).flatMap (m.leftF a.l fu)++[v]:=by rw[PM.leftF,hv,if_neg h0,hrs];rfl
 have Q:=m.regsL_len v;rw[<- hrs]at Q;rw[D]at hd⊢;have S:∀ q∈(Zd (m.regsL v)).co.l,(0<=q/\q<m.regions.length)/\m.ow q=v:=λq hq=>PM.regsL_mem.1 (by rwa [hrs]at hq);generalize(Zd (m.regsL v)).co=u at Q S hd⊢;refine Z ?_
 refine Yc u.l.length (λj (w : σ × Heap)=>stM (b+200) w.2 [(1,.ptr (b+104) g4 0),(2,.ptr (b+105) g5 0),(3,.ptr (b+103) g3 0),(4,.ptr (b+114) g 0),(5,.int .i64 v),(21,Za .new 1 (V.int .i64) u),(22,.int .i64 u.l.length),(23,.int .i64 j)] [(b+103,.cells .new g3 0 [Rb K c d e f x k m.regions.length]),(b+104,.cells .new g4 0 [Za c1 1 (V.int .i64) a,Za c1 1 (V.int .i64) l]),(b+105,.cells .new g5 0 [.int .i64 n]),(b+114,.cells .new g 0 [.func t [] cl])])
  (λj w=>R w.1 (Z9 (b+200) w.2)/\R6 dom y w.1 ((u.l.drop j).flatMap (m.leftF a.l fu)++[v])/\Yx y s0 ((u.l.drop 0).flatMap (m.leftF a.l fu)++[v])=Yx y w.1 ((u.l.drop j).flatMap (m.leftF a.l fu)++[v])) 0 (s0,H) (Nat.zero_le _) ⟨hR,hd,rfl⟩ (Y7 ⟨rfl,rfl,rfl,rfl,rfl,rfl,rfl,rfl,trivial⟩ ⟨by simp -implicitDefEqProofs only[go_sem,seval,Nat.left_eq_add,Nat.add_eq_left,Tq],by simp -implicitDefEqProofs only[go_sem,seval,Nat.left_eq_add,Nat.add_eq_left],by simp -implicitDefEqProofs only[go_sem,seval,Nat.left_eq_add,Nat.add_eq_left],by simp -implicitDefEqProofs only[go_sem,seval,Nat.left_eq_add,Nat.add_eq_left],trivial⟩ (by simp -implicitDefEqProofs only[go_sem,seval,Nat.add_le_add_iff_left])) ?_
 rintro j ⟨s1,H1⟩ hj ⟨hR1,A,o⟩ L hL;simp only at hR1 A o;rw[o]
 by_cases E:j<u.l.length
 rotate_left;have hlt:decide ((j:Int)<(u.l.length:Int))=false:=zF;rw[List.drop_eq_nil_of_le zo,List.flatMap_nil,List.nil_append]at A⊢;refine Xm hlt ?_;refine Z0 ?_;refine Wh [2] zk (by rfl) ?_;simp -implicitDefEqProofs only[go_sem,seval,Mf,Nat.left_eq_add,Nat.add_eq_left];refine⟨_,rfl,T7 hy s1 v zp zm A.1 ?_ (λH2 J i=>?_) zk (n:=2) rfl zp⟩;simp -implicitDefEqProofs only[go_sem,seval,Nat.add_le_add_iff_left];exact hR1;refine Zs ?_;rw[Qw];exact⟨_,rfl,.inr trivial,J⟩;have hlt:decide ((j:Int)<(u.l.length:Int))=true:=zT;have hgj:=List.getElem?_eq_getElem E;have C:=S _ (List.getElem_mem E);have hdj:u.l.drop j=u.l[j]::u.l.drop (j+1):=List.drop_eq_getElem_cons E;rw[hdj,List.flatMap_cons,List.append_assoc]at A o⊢;generalize u.l[j]=r' at hgj C hdj A o⊢;obtain⟨q,rfl⟩:∃ q:Nat,r'=(q:Int):=⟨r'.toNat,zo⟩;have wj:IntKind.i64.wrap ((j:Int)+1)=(j:Int)+1:=Wy zo zo;have F2:=zi hlt (zi hgj (zi E (zi Tq (zi @Nat.left_eq_add (zi @Nat.add_eq_left Yh)))));refine Zf F2 ?_;refine CallA.inl [(b+3,.dead),(b+4,.dead),(b+5,.dead)] zk ?_ ((Zwa b G (Rb K c d e f x k m.regions.length) (Td c1 a l) q rfl rfl a l c1 rfl).mono ?_);intro p hp;simp only[List.mem_cons,List.not_mem_nil,or_false]at hp
 rcases hp with rfl|rfl|rfl<;>(simp -implicitDefEqProofs only[go_sem,seval,Nat.left_eq_add,Nat.add_eq_left];rw[Xi zo])
 rintro w H' ⟨w3,w4,w5,rfl,e3,e4,e5⟩;simp -implicitDefEqProofs only[go_sem,seval,Z5,e3,e4,e5];refine AW.block ?_
 have hfq:0<=PM.actR a.l (q:Int)->65<=fu+(m.ups (PM.actR a.l (q:Int))).length:=λh=>by
  obtain⟨k1,k2,k3⟩:=hcf (q:Int) C.1.1 h
  have har:m.around (PM.actR a.l (q:Int))=v:=by rw[PM.ar_reg k2,k3,C.2]
  rw[ac.ups_cons h k1 zo,har,List.length_cons];have:=F zo;omega
 have ihB:∀ Hx:Heap,Hx (b+3)=.cells .new w3 0 [Rb K c d e f x k m.regions.length]->Hx (b+4)=.cells .new w4 0 [Za c1 1 (V.int .i64) a,Za c1 1 (V.int .i64) l]->Hx (b+5)=.cells .new w5 0 [.int .i64 q] ->
   Eh Tryz.prog G (b+100) 121 [.ptr (b+4) w4 0,.ptr (b+5) w5 0,.ptr (b+3) w3 0] Hx (λw:Int=>[.int .i64 w]) (m.leftF a.l fu q):=by
  intro Hx;obtain⟨b2,e2⟩:∃ b2,b=b2+100:=⟨b-100,zo⟩;have:=ih b2 q w3 w4 w5 Hx zo C.1.1 C.1.2 hfq;rw[e2];exact this
 obtain⟨hda,N⟩:=Lb A
 refine AW.weak (Y7 (lo:=b+200) (B:=H1) (l:=[(1,.ptr (b+104) g4 0),(2,.ptr (b+105) g5 0),(3,.ptr (b+103) g3 0),(4,.ptr (b+114) g 0),(5,.int .i64 v),(21,Za .new 1 (V.int .i64) u),(22,.int .i64 u.l.length),(23,.int .i64 j),(30,.func (.func 121) [] [.ptr (b+4) w4 0,.ptr (b+5) w5 0,.ptr (b+3) w3 0])])
  (m:=[(b+103,.cells .new g3 0 [Rb K c d e f x k m.regions.length]),(b+104,.cells .new g4 0 [Za c1 1 (V.int .i64) a,Za c1 1 (V.int .i64) l]),(b+105,.cells .new g5 0 [.int .i64 n]),(b+114,.cells .new g 0 [.func t [] cl]),(b+3,.cells .new w3 0 [Rb K c d e f x k m.regions.length]),(b+4,.cells .new w4 0 [Za c1 1 (V.int .i64) a,Za c1 1 (V.int .i64) l]),(b+5,.cells .new w5 0 [.int .i64 q])])
  ⟨rfl,rfl,rfl,rfl,rfl,rfl,rfl,rfl,rfl,trivial⟩ ⟨by simp -implicitDefEqProofs only[go_sem,seval,Nat.left_eq_add,Nat.add_eq_left,Tq],by simp -implicitDefEqProofs only[go_sem,seval,Nat.left_eq_add,Nat.add_eq_left],by simp -implicitDefEqProofs only[go_sem,seval,Nat.left_eq_add,Nat.add_eq_left],by simp -implicitDefEqProofs only[go_sem,seval,Nat.left_eq_add,Nat.add_eq_left],by simp -implicitDefEqProofs only[go_sem,seval,Nat.left_eq_add,Nat.add_eq_left],by simp -implicitDefEqProofs only[go_sem,seval,Nat.left_eq_add,Nat.add_eq_left],by simp -implicitDefEqProofs only[go_sem,seval,Nat.left_eq_add,Nat.add_eq_left],trivial⟩ (by simp -implicitDefEqProofs only[go_sem,seval,Nat.add_le_add_iff_left])) ?_
 refine AW.range b (b+100) (b+195) (b+150) (fun(w : σ × Bool) (H:Heap)=>R w.1 (Z9 (b+200) H)/\H=Z5 (Z9 (b+200) H) [(b+103,.cells .new g3 0 [Rb K c d e f x k m.regions.length]),(b+104,.cells .new g4 0 [Za c1 1 (V.int .i64) a,Za c1 1 (V.int .i64) l]),(b+105,.cells .new g5 0 [.int .i64 n]),(b+114,.cells .new g 0 [.func t [] cl])])
  (Cj y λk=>[k]) jB (λw k=>R6 dom y w.1 [k]) (s1,true) rfl zk (by exact λ_ h=>nomatch h) (λp hp=>?_) (λ_=>rfl) zo zo
  (λl r'=>ihB _ ?_ ?_ ?_) (λ_ _ _=>trivial) rfl ?_ (Ip (f:=λk=>[k]) (by rwa [List.flatMap_singleton'])) ?_ ?_
 simp only[List.mem_cons,List.not_mem_nil,or_false]at hp;subst hp;exact(by decide:31<40);simp -implicitDefEqProofs only[go_sem,seval,Nat.left_eq_add,Nat.add_eq_left,Nat.le_add_right,Nat.add_le_add_iff_left];simp -implicitDefEqProofs only[go_sem,seval,Nat.left_eq_add,Nat.add_eq_left,Nat.le_add_right,Nat.add_le_add_iff_left];simp -implicitDefEqProofs only[go_sem,seval,Nat.left_eq_add,Nat.add_eq_left,Nat.le_add_right,Nat.add_le_add_iff_left];simp -implicitDefEqProofs only[go_sem,seval,Nat.left_eq_add,Nat.add_eq_left,Nat.le_add_right,Nat.add_le_add_iff_left];rw[Zxc H1 zo,Rh];refine⟨hR1,Yp _ _ _ ?_⟩;simp -implicitDefEqProofs only[go_sem,seval,Nat.left_eq_add,Nat.add_eq_left];rw[Xi zo];rintro l' Y ⟨s2,b2⟩ kk Hk hle hrd hdk hjm ⟨rk,hB⟩;simp only at hdk rk;generalize Ya (Z9 (b+100) Hk) (b+195) .dead=B at *;cases b2;cases hjm;generalize hM:Z9 (b+200) B=M at rk hB;subst hB
 have P:Z9 (b+200) M=M:=by simp -implicitDefEqProofs only[go_sem,seval,Nat.add_le_add_iff_left]at hM;exact hM
 clear hM;refine Zs ?_;refine AW.region zk ?_;refine Zs ?_;intro Zx hXZ _;refine AW.block ?_;refine Z6 ?_;refine Wh [2] zk (by rfl) ?_;simp -implicitDefEqProofs only[go_sem,seval,Mf,Nat.left_eq_add,Nat.add_eq_left];refine⟨_,rfl,T7 (hy.at hXZ) s2 kk zp zm hdk.1 ?_ (λH2 J i=>?_) zk (n:=2) rfl zp⟩;simp -implicitDefEqProofs only[go_sem,seval,Nat.add_le_add_iff_left];rw[P];exact rk;have e103:=i (b+103) zo;have W:=i (b+104) zo;have U:=i (b+105) zo;have T:=i (b+114) zo;simp -implicitDefEqProofs only[go_sem,seval,Nat.left_eq_add,Nat.add_eq_left]at e103 W U T
 have enx:Cj y (λk=>[k]) (s2,true) kk=((y s2 kk).2,(y s2 kk).1):=by unfold Cj;rw[Qw]
 generalize y s2 kk=z at J enx;obtain⟨bb,s3⟩:=z;refine Zs ?_;refine AW.weak (Y7 (lo:=b+200) (B:=H2) (l:=[(4,.ptr (b+114) g 0),(35,.bool !bb)]) (m:=[(b+103,.cells .new g3 0 [Rb K c d e f x k m.regions.length]),(b+104,.cells .new g4 0 [Za c1 1 (V.int .i64) a,Za c1 1 (V.int .i64) l]),(b+105,.cells .new g5 0 [.int .i64 n]),(b+114,.cells .new g 0 [.func t [] cl])]) ⟨rfl,rfl,trivial⟩ ⟨e103,W,U,T,trivial⟩ rfl) ?_;cases bb;refine Z ?_;refine AW.ret ?_;simp -implicitDefEqProofs only[go_sem,seval,Nat.left_eq_add,Nat.add_eq_left,Nat.add_le_add_iff_left];rw[enx];rw[Zxc H2 zo,Rh];refine⟨rfl,J,Yp _ _ _ ?_⟩;simp -implicitDefEqProofs only[go_sem,seval,Nat.left_eq_add,Nat.add_eq_left];rw[Xi zo];refine Z ?_;rw[enx];have hle5:(b+5<=b)=False:=eq_false zo;simp -implicitDefEqProofs only[go_sem,seval,Nat.left_eq_add,Nat.add_eq_left,Nat.add_le_add_iff_left,Nat.le_add_right,hle5];rw[Zxc H2 zo,Rh];refine⟨rfl,J,Yp _ _ _ ?_⟩;simp -implicitDefEqProofs only[go_sem,seval,Nat.left_eq_add,Nat.add_eq_left];rw[Xi zo];rintro H2 ⟨I,hH⟩ i _;have hfl:=Lv y (λk=>[k]) (m.leftF a.l fu (q:Int)) s1;rw[List.flatMap_singleton']at hfl;rw[Lw y (m.leftF a.l fu (q:Int)) _ s1,hfl]at o⊢;rw[hfl]at N;generalize(Yx (λw k=>((jB (Cj y (λk=>[k]) w k)).isNone,Cj y (λk=>[k]) w k)) (s1,true) (m.leftF a.l fu (q:Int))).2=z at I o N⊢;obtain⟨s2,b2⟩:=z;simp only at I o N⊢;generalize hM:Z9 (b+200) (Ya (Z9 (b+100) H2) (b+195) .dead)=M at I hH
 have P:Z9 (b+200) M=M:=by rw[<- hM,Rh]
 cases b2;refine AW.weak (Weak.rng (l:=[(4,.ptr (b+114) g 0)]) hH ⟨rfl,trivial⟩) ?_;refine Z ?_;refine⟨.inr trivial,?_⟩;simp -implicitDefEqProofs only[go_sem,seval,Nat.left_eq_add,Nat.add_eq_left,Nat.add_le_add_iff_left];rw[P];exact I;refine AW.weak (Weak.rng (l:=[(1,.ptr (b+104) g4 0),(2,.ptr (b+105) g5 0),(3,.ptr (b+103) g3 0),(4,.ptr (b+114) g 0),(5,.int .i64 v),(21,Za .new 1 (V.int .i64) u),(22,.int .i64 u.l.length),(23,.int .i64 j)]) hH ⟨rfl,rfl,rfl,rfl,rfl,rfl,rfl,rfl,trivial⟩) ?_;rw[if_pos rfl]at o⊢;refine Zf wj ?_;exact hL _ ⟨E,(s2,M),⟨by rw[P];exact I,N rfl,o⟩,Y7 ⟨rfl,rfl,rfl,rfl,rfl,rfl,rfl,by simp -implicitDefEqProofs only[go_sem,seval,wj];try rfl,trivial⟩ ⟨by simp -implicitDefEqProofs only[go_sem,seval,Nat.left_eq_add,Nat.add_eq_left],by simp -implicitDefEqProofs only[go_sem,seval,Nat.left_eq_add,Nat.add_eq_left],by simp -implicitDefEqProofs only[go_sem,seval,Nat.left_eq_add,Nat.add_eq_left],by simp -implicitDefEqProofs only[go_sem,seval,Nat.left_eq_add,Nat.add_eq_left],trivial⟩ (by simp -implicitDefEqProofs only[go_sem,seval,Nat.add_le_add_iff_left])⟩
theorem ZoMI{P:Program}{G:Nat->V}{f:FuncId}{a:Func}{c:Code}{args:List V}{H:Heap}{K:V->Heap->Prop}(q:Nat)(n:Nat)(d:List ResultVar)(l:P.funcs[f]?=some a)(h:∀ X,AW P ⟨X,H,n,q,G,none,[],.marks⟩ c (T3 P d K) ⟨Uy 0 args,H⟩)
  (m:a.body=some c:=by rfl) (j:a.ntmps=n:=by rfl) (i:a.results.toList=d:=by rfl) (b:Nat.ble args.length n=true:=by rfl):InSp P G f args H K:=by
 subst j i
 exact λX _ o p r=>(Od (.inr rfl) (λ_=>rfl) q l m b o p r (h X)).mono λe w' ⟨c,v,y,Y,g,x,w,u⟩=>by
  rcases g with ⟨g,t⟩|⟨k,s,_⟩
  grind
  grind
theorem Z2a:∀ (xs l:List Int),(Yx (fun(l:List Int) k=>(((λ_:List Int=>(none:Option Code)) (l++[k])).isNone,l++[k])) l xs).2=l++xs
 |[],l=>(List.append_nil l).symm
 |x::r,l=>by
  show(Yx _ (l++[x]) r).2=_
  rw[Z2a r (l++[x]),List.append_assoc];rfl
theorem Zby(g:Nat)(l:List Int):(Yb g (V.int .i64) l).noMp=Yb g (V.int .i64) l:=by cases l<;>rfl
theorem Zlk:∀ (xs l:List Int),l.length+xs.length<1000000->R6 (fun(l:List Int) (_:Int)=>l.length<1000000/\(none:Option Code)=none) (fun(l:List Int) k=>(((λ_:List Int=>(none:Option Code)) (l++[k])).isNone,l++[k])) l xs
 |[],_,_=>trivial
 |x::r,l,h=>by
  rw[List.length_cons]at h;exact⟨⟨zo,rfl⟩,λ_=>Zlk r (l++[x]) (by rw[List.length_append,List.length_cons,List.length_nil];omega)⟩
theorem Zj2(G:Nat->V)(d:FuncId)(t:Z7 Tryz.prog d=true)(a:List V)(n j i:Nat)(q rv:V)(u:List V)(xs:List Int)(A:xs.length<1000000)
  (s:∀ H:Heap,H 6703=.cells .new n 0 [q]->H 6704=.cells .new j 0 u->H 6705=.cells .new i 0 [rv]->Eh Tryz.prog G 6800 d a H (λw:Int=>[.int .i64 w]) xs):
  InSp Tryz.prog G 120 [.nils,.func (.func d) [] a] (Z5 Zj [(6703,.cells .new n 0 [q]),(6704,.cells .new j 0 u),(6705,.cells .new i 0 [rv])]) (λw _=>w=Za .new 1 (V.int .i64) (Zd xs)):=by
 refine ZoMI 6900 13 [.tmp 4] Tryz.func120 λX=>?_;refine Z ?_;intro e;refine Z ?_;refine AW.weak (Weak.st (l:=[(2,.ptr 6902 e 0),(6,.func (.func d) [] a)]) (m:=[(6902,.cells .new e 0 [grown 6961 0 1 ([]:List Int)]),(6703,.cells .new n 0 [q]),(6704,.cells .new j 0 u),(6705,.cells .new i 0 [rv]),(6961,Yb 0 (V.int .i64) ([]:List Int))]) zp (by simp -implicitDefEqProofs only[go_sem,seval,Vm,Wd];try rfl)) ?_
 refine AW.range 6700 6800 6990 6950 (fun(l:List Int) (H:Heap)=>∃ g,H 6902=.cells .new e 0 [grown 6961 g 1 l]/\H 6961=Yb g (V.int .i64) l) (λl k=>l++[k]) (λ_=>none) (λl _=>l.length<1000000) [] rfl t (by exact λ_ h=>nomatch h) (λp v=>?_) (λ_=>rfl) zd zd
  (λy r=>s _ (zp) (zp) (zp)) (λ_ _ _=>trivial) rfl ⟨0,zp,by simp -implicitDefEqProofs only[go_sem,seval,Zby]⟩ ?_ ?_ ?_
 simp only[List.mem_cons,List.not_mem_nil,or_false]at v;subst v;exact(by decide:7<13);exact Zlk xs [] (zu A);rintro y Y l k J _ z D C ⟨g,c,b⟩;generalize Ya (Z9 6800 J) 6990 .dead=B at *;refine Zs ?_;refine AW.region zk ?_;refine Zs ?_;intro K E _;refine AW.weak (Weak.st (l:=[(2,.ptr 6902 e 0),(5,.int .i64 k)]) (m:=[(6902,.cells .new e 0 [grown 6961 g 1 l]),(6961,Yb g (V.int .i64) l)]) zp ⟨c,b,trivial⟩) ?_;refine Z ?_;intro I;refine Ys (f:=V.int .i64) (l:=l) (l2:=[k]) (g:=g) (λ_=>rfl) rfl rfl rfl zp (Z4 zo zO) λF=>?_;refine Zs ?_;exact⟨F,rfl,Zby _ _⟩;rintro L ⟨g,c,b⟩ x _;rw[Z2a,List.nil_append]at c b;refine AW.weak (Weak.rng (lo:=6800) (ol:=6990) (l:=[(2,.ptr 6902 e 0)]) rfl ⟨rfl,trivial⟩) ?_;refine AW.weak (Weak.st (l:=[(2,.ptr 6902 e 0)]) (m:=[(6902,.cells .new e 0 [grown 6961 g 1 xs]),(6961,Yb g (V.int .i64) xs)]) zp ⟨c,b,trivial⟩) ?_;refine Z1 ?_;refine AW.weak (Zl (λo=>o==6961) (l:=[(4,Za .new 1 (V.int .i64) (Zd xs))]) (m:=[]) ?_ trivial) ?_;simp -implicitDefEqProofs only[go_sem,seval];exact Y5 (l:=xs) (g:=g) (f:=V.int .i64) rfl zp (λ_=>rfl);exact Zr
theorem Zxt(G:Nat->V)(b:FuncId)(i:Z7 Tryz.prog b=true)(a:List V)(e d c:Nat)(f rv:V)(g:List V)(xs:List Int)(k:xs.length<1000000)
  (h:∀ H:Heap,H 6703=.cells .new e 0 [f]->H 6704=.cells .new d 0 g->H 6705=.cells .new c 0 [rv]->Eh Tryz.prog G 6800 b a H (λw:Int=>[.int .i64 w]) xs):
  InSp Tryz.prog G 82 [.func (.func b) [] a] (Z5 Zj [(6703,.cells .new e 0 [f]),(6704,.cells .new d 0 g),(6705,.cells .new c 0 [rv])]) (λw _=>w=Za .new 1 (V.int .i64) (Zd xs)):=by
 refine Yr 0 5 [.tmp 2] Tryz.func82 rfl rfl rfl rfl λX=>?_;refine Z ?_;refine CallA.inl [(6703,.cells .new e 0 [f]),(6704,.cells .new d 0 g),(6705,.cells .new c 0 [rv])] zk ?_ ((Zj2 G b i a e d c f rv g xs k h).mono ?_);intro p j;simp only[List.mem_cons,List.not_mem_nil,or_false]at j
 rcases j with rfl|rfl|rfl<;>rfl
 rintro w l rfl;exact Zr
theorem Z9a{m:PM}(b:m.Rt5)(c:m.Acy)(a l:List Int)(r:Int):(m.exitL a l r).length<=m.vertices.length:=
 PM.nodup_len (PM.exitL_ok b c r).nd λw d=>((PM.exitL_ok b c r).ok w d).1
theorem Zht(G:Nat->V)(B:Y6 G)(b c d e f c1 L:Col)(x:IxM)(k:Sl Int)(m:PM)(I:m.Rt5)(F:m.Acy)(J:IxP m x)(N:IxO m L x)(P:SsP m k)(U:m.vertices.length<1000000)(M:m.regions.length<1000000)(a l:Sl Int)(ha:a.l.length<1000000)(O:l.l.length<1000000)(r:Int):
  Spec Tryz.prog G 43 [Rb b c d e f x k m.regions.length,Td c1 a l,.int .i64 r] Zj (λw _=>w=Za .new 1 (V.int .i64) (Zd (m.exitL a.l l.l r))):=by
 refine Zo 0 28 [.tmp 6] Tryz.func43 λX=>?_;refine Zf (zi Yi Tq) ?_;intro Y;refine AW.weak (Zl (λo=>o==4) (l:=[(0,Rb b c d e f x k m.regions.length),(2,.int .i64 r),(4,.view .new (Td c1 a l))]) (m:=[]) ?_ trivial) ?_;simp -implicitDefEqProofs only[go_sem,seval];exact⟨Zb,Zb,Fz.ptr (v:=Td c1 a l) (c:=.new) (fz:=0) zp (by rw[Yi];exact zp)⟩;refine Zf Yi ?_;refine Zc B ?_ (s:=Ly G B _ _ _ _ _ _ _ _ m (J.rc _) P a l ha O)
 cases A:m.fitB a.l l.l with
 |false=>
  have i:m.exitL a.l l.l r=[]:=by rw[PM.exitL,A,if_neg (λh=>by cases h.1)]
  rw[i];exact Zq Yi
 |true=>
 by_cases W:r<0
 have u:decide (r<0)=true:=zT
 have i:m.exitL a.l l.l r=[]:=by rw[PM.exitL,if_neg (λh=>zo)]
 rw[i];refine Xr (zi u Yi) ?_;exact Zr;have u:decide (r<0)=false:=zF
 by_cases K:r<m.regions.length
 rotate_left;have y:decide (r>=(m.regions.length:Int))=true:=zT
 have i:m.exitL a.l l.l r=[]:=by rw[PM.exitL,if_neg (λh=>zo)]
 rw[i];refine Xr (zi u (zi y (zi Tq Yi))) ?_;exact Zr;have y:decide (r>=(m.regions.length:Int))=false:=zF
 have i:m.exitL a.l l.l r=m.leftF a.l 66 r:=by rw[PM.exitL,if_pos ⟨A,zo,K⟩]
 have z:=Z9a (m:=m) I F a.l l.l r
 have g:m.rowB a.l=true/\a.l.length=m.regions.length:=by
  have:=A;simp only[PM.fitB,Bool.and_eq_true]at this;refine⟨this.1,?_⟩;have h:=this.1;rw[O7,Bool.and_eq_true,beq_iff_eq]at h;exact h.1
 rw[i]at z⊢;refine Xr (zi u (zi y (zi Tq Yi))) ?_;refine Zf Yi ?_;refine CallA.inl [(6703,.dead),(6704,.dead),(6705,.dead)] zk ?_ ((Zwa 6700 G (Rb b c d e f x k m.regions.length) (Td c1 a l) r rfl rfl a l c1 rfl).mono ?_);intro p t;simp only[List.mem_cons,List.not_mem_nil,or_false]at t
 rcases t with rfl|rfl|rfl<;>rfl
 rintro w H ⟨q,n,j,rfl,E,D,C⟩
 replace E:H 6703=.cells .new q 0 [Rb b c d e f x k m.regions.length]:=E
 replace D:H 6704=.cells .new n 0 [Za c1 1 (V.int .i64) a,Za c1 1 (V.int .i64) l]:=D
 replace C:H 6705=.cells .new j 0 [.int .i64 r]:=C
 simp -implicitDefEqProofs only[go_sem,seval,Z5,E,D,C]
 refine CallA.inl [(6703,.cells .new q 0 [Rb b c d e f x k m.regions.length]),(6704,.cells .new n 0 [Za c1 1 (V.int .i64) a,Za c1 1 (V.int .i64) l]),(6705,.cells .new j 0 [.int .i64 r])] zk ?_
  ((Zxt G 121 zk [.ptr 6704 n 0,.ptr 6705 j 0,.ptr 6703 q 0] q n j _ _ _ (m.leftF a.l 66 r) zo λT S R Q=>Zf7 G B b c d e f c1 L x k m F J N M a l g.2 (I.cf F g.1).at_ 66 6600 r q n j T zd zo K (λ_=>zo) S R Q).mono ?_)
 intro p t;simp only[List.mem_cons,List.not_mem_nil,or_false]at t
 rcases t with rfl|rfl|rfl<;>rfl
 rintro w H4 rfl;exact Zr
theorem Zd1(m:PM)(v:Int)(a:0<=v)(l:List Int):m.homeL v l=(((Ma m v).map m.rgO).find? λr=>l.all λu=>m.withinB u r).getD (-1):=by
 rw[show Ma m v=v::m.ups v from if_pos a];rfl
theorem Zpk(G:Nat->V)(A:Y6 G)(b c d c1:Col)(x:IxM)(m:PM)(a:m.Acy)(t:IxP m x)(v h:Int)(h0:0<=v)(R:v<m.vertices.length)(e:Sl Int)(hm:∀ u∈h::e.l,0<=u/\u<m.vertices.length)(hl:e.l.length<100000)(I:∀ u:Int,0<=u->u<m.vertices.length->0<=m.rgO u):
  Spec Tryz.prog G 116 [Uj b c d x,.int .i64 v,.int .i64 h,Za c1 1 (V.int .i64) e] Zj (λw _=>w=.int .i64 (m.homeL v (h::e.l))):=by
 refine ZoM 100 37 [.cell 8 3] Tryz.func116 λX=>?_
 have e0:(decide (0<=v)&&decide (v<x.places.l.length))=true:=by rw[t.len,Bool.and_eq_true];exact⟨zT,zT⟩
 refine Z ?_;intro T j;refine Z ?_;refine Zc A ?_ (s:=Wm G _ _ _ _ v);refine Zg e0 ?_;intro g17;refine⟨Z4 zo zo,λB S=>?_⟩
 have M:(Sl.mk false (h::e.l)).l.length<1000000:=by show(h::e.l).length<_;rw[List.length_cons];omega
 have z:∀ u∈(Sl.mk false (h::e.l)).l,0<=u/\u<m.vertices.length:=hm;refine AW.weak (Zl (λo=>o==117) (l:=[(1,.int .i64 v),(4,.ptr 104 T 0),(8,.ptr 108 j 0),(9,.ptr 109 S 0)]) (m:=[(104,.cells .new T 0 [Uj b c d x]),(108,.cells .new j 0 [.int .i64 0]),(109,.cells .new S 0 [Za .new 1 (V.int .i64) (.mk false (h::e.l))])]) ?_ ?_) ?_;simp -implicitDefEqProofs only[go_sem,seval];exact⟨Zb,Zb,Zb,Zb⟩;simp only[Zt,Zv,and_true];refine⟨FzO.keep rfl zp,FzO.keep rfl zp,FzO.of (cs:=[.msl 117 B 0 (1+e.l.length) 1]) rfl zp ⟨?_,trivial⟩⟩;rw[show 1+e.l.length=(h::e.l).length by rw[List.length_cons];omega];exact Xa (f:=V.int .i64) (l:=h::e.l) (m:=1) (g:=B) (fz:=0) (c:=.new) rfl zp λ_=>rfl;refine AW.weak (Zl (λo=>o==104||o==109) (l:=[(1,.int .i64 v),(4,.view .new (Uj b c d x)),(8,.ptr 108 j 0),(9,.view .new (Za .new 1 (V.int .i64) (.mk false (h::e.l))))]) (m:=[(108,.cells .new j 0 [.int .i64 0])]) ?_ ?_) ?_;simp -implicitDefEqProofs only[go_sem,seval];exact⟨Zb,Fz.ptr (v:=Uj b c d x) (c:=.new) (fz:=0) zp zp,Zb,Fz.ptr (v:=Za .new 1 (V.int .i64) (.mk false (h::e.l))) (c:=.new) (fz:=0) zp zp⟩;simp only[Zt,Zv,and_true];exact FzO.keep rfl zp;refine Z ?_;refine CallA.inl [(52,.dead),(53,.dead)] zk ?_ ((Ll G (Uj b c d x) v).mono ?_);intro p K;simp only[List.mem_cons,List.not_mem_nil,or_false]at K
 rcases K with rfl|rfl<;>rfl
 rintro w H' ⟨g2,N,rfl,e2,e3⟩;simp -implicitDefEqProofs only[go_sem,seval,Z5,e2,e3];refine AW.block ?_
 refine Qy 50 100 190 150 (λH=>Ya Zj 108 (.cells .new j 0 [.int .i64 (H.getD 0)])) (λ_ k=>if((h::e.l).all λu=>m.withinB u (m.rgO k))=true then some (m.rgO k)else none) anO (λ_ k=>0<=k/\k<m.vertices.length) none rfl
  (λl r'=>E5 G A b c d x m a t v R g2 N _ zp zp) ?_ (Pb rfl λk L _=>Ir a R k L) ?_ ?_
 simp -implicitDefEqProofs only[go_sem,seval];exact Yp _ _ _ rfl
 .rintro l Y H k hr ⟨k0,k1⟩ hj
  cases H;rotate_left;cases hj;refine Zs ?_;refine AW.region zk ?_;refine Zs ?_;intro Zx _;have y:0<=m.rgO k:=(I k k0 k1);obtain⟨n,p,rfl,L,hg,K,J,_⟩:=t.at k0 k1;refine AW.block ?_;refine Xm (zi hg (zi L (zi Vj (zi V0 Yh)))) ?_;intro g11;rw[J];obtain⟨r,D⟩:∃ r,r=m.rgO (n:Int):=⟨_,rfl⟩;rw[<- D]at y⊢;refine AW.weak (Zl (λo=>o==161) (l:=[(4,.view .new (Uj b c d x)),(8,.ptr 108 j 0),(9,.view .new (Za .new 1 (V.int .i64) (.mk false (h::e.l)))),(11,.view .new (.int .i64 r))]) (m:=[(108,.cells .new j 0 [.int .i64 0])]) ?_ ?_) ?_;simp -implicitDefEqProofs only[go_sem,seval,V0];exact⟨Zb,Zb,Zb,Fz.ptr (v:=.int .i64 r) (c:=.new) (fz:=0) zp zp⟩;simp only[Zt,Zv,and_true];exact FzO.keep rfl zp;refine Z ?_
  refine Zc A ?_ (ha:=by simp only[List.map_cons,List.map_nil,Y1,V.recol,Yv,Q2]) (s:=Rk G A Col.new.ent 186 (λcx=>∃ F E b c d x,IxP m x/\cx=[.view F (Uj b c d x),.view E (.int .i64 r)]) (by
   rintro _ ⟨F,E,b,c,d,x,t,rfl⟩
   exact⟨_,_,_,_,_,_,t.rc Col.ent,by simp only[List.map_cons,List.map_nil,V.recol,Q2];rfl⟩) [.view Col.new.ent (Uj b.ent c.ent d.ent (x.rc Col.ent)),.view Col.new.ent (.int .i64 r)] ⟨_,_,_,_,_,_,t.rc _,rfl⟩ zk (λu => !(m.withinB u r)) (.mk false (h::e.l)) M (by
   rintro u hu _ ⟨F,E,b,c,d,x,t,rfl⟩;obtain⟨W,U⟩:=z u hu
   exact Zhd G A F E b c d x m a t u r W U y))
  have i:((h::e.l).any λu => !(m.withinB u r)) = !((h::e.l).all λu=>m.withinB u r):=by rw[List.not_all_eq_any_not]
  cases q:(h::e.l).all λu=>m.withinB u r with
  |false=>
   rw[q]at i
   have C:((h::e.l).all λu=>m.withinB u (m.rgO (n:Int)))=false:=by rw[<- D];exact q
   rw[i];refine Zf C ?_;exact⟨rfl,Yp _ _ _ rfl⟩
  |true=>
   rw[q]at i
   have C:((h::e.l).all λu=>m.withinB u (m.rgO (n:Int)))=true:=by rw[<- D];exact q
   rw[i];refine Zf C ?_;refine AW.ret ?_;refine Xr C ?_;rw[<- D];exact⟨rfl,Zx7⟩
 rintro H2 O P Q h3;rw[Q8]at P
 have e9:m.homeL v (h::e.l)=O.getD (-1):=by rw[P,Zd1 m v h0,List.find?_map];rfl
 rw[e9];cases O;refine AW.weak (Weak.rng (l:=[(8,.ptr 108 j 0)]) Q ⟨rfl,trivial⟩) ?_;refine Z ?_;rfl;refine AW.weak (Weak.rng (l:=[(8,.ptr 108 j 0)]) Q ⟨rfl,trivial⟩) ?_;refine Z ?_;rfl
theorem Zc1(G:Nat->V)(o:Y6 G)(b c d e f c1:Col)(x:IxM)(k:Sl Int)(n:Int)(m:PM)(a:m.Acy)(p:IxP m x)(q:Bool)(v:Int)(g:List Int)(l:∀ u∈v::g,0<=u/\u<m.vertices.length)(s:g.length<100000)(h:∀ u:Int,0<=u->u<m.vertices.length->0<=m.rgO u):
  Spec Tryz.prog G 73 [Rb b c d e f x k n,Za c1 1 (V.int .i64) (.mk q (v::g))] Zj (λw _=>w=.int .i64 (m.homeL v (v::g))):=by
 refine Zo 0 25 [.tmp 4] Tryz.func73 λX=>?_;have r:Za c1 1 (V.int .i64) (.mk q (v::g))=.slice c1 q 1 ((v::g).map (V.int .i64)):=rfl
 have i:(((v::g).length:Int)==0)=false:=by rw[List.length_cons];exact beq_false_of_ne zo
 have j:=l v (List.mem_cons_self ..);refine Zf (zi i (zi Tq r)) ?_;refine Zy ⟨λ_=>.int .i64 (m.homeL v (v::g)),λ_=>.pure⟩ zk o zk zk ?_;simp -implicitDefEqProofs only[go_sem,seval,Nat.le_refl,List.take_length,Bool.and_true];refine⟨⟨zk,?_⟩,?_⟩;simp -implicitDefEqProofs only[go_sem,seval];rw[show V.slice c1 q 1 (g.map (V.int .i64))=Za c1 1 (V.int .i64) (.mk q g)from rfl];simp -implicitDefEqProofs only[go_sem,seval,Y1]
 exact(Zpk G o _ _ _ _ (x.rc Col.ent) m a (p.rc _) v v j.1 j.2 (.mk q g) l s h).mono λw _ e=>by rw[e];rfl
 exact Zr
theorem G0(G:Nat->V)(t:Y6 G)(W:Col)(b1 b2 b3 Y b c d e f g:Col)(m:MdM)(x:IxM)(O:IxP m.p x)(z:m.p.Wfd)(q:StP×List Int)(j v:Int)(H:j=PM.srcOf q.1)(R:0<=v)(Q:v<m.p.vertices.length)(s0:0<=j)(D:j<m.p.vertices.length)
  (U:0<=q.1.first) (T:q.1.first<m.p.ways.length):
  Spec Tryz.prog G 100 [.int .i64 v,.view b1 (.bool (m.p.fixB j)),.view b2 (Wl b c d e f g m x),.view b3 (.int .i64 j),.view Y (Yo W q)] Zj (λw _=>w=.bool (!(m.p.inReach q.1 v))):=by
 refine Zo 0 51 [.tmp 6] Tryz.func100 λX=>?_;generalize k:m.p.inReach q.1 v=rb;rw[PM.inReach,<- H]at k;have a:=z.acy;obtain⟨ns,F,ev,I,J,es⟩:=m.at s0 D;obtain⟨nf,M,S,A,B,L⟩:=m.wyAt U T
 have o:(m.p.vx j).region=F.region:=by rw[es]<;>rfl
 have C:(m.p.wy q.1.first).kind=M.kind:=by rw[L]<;>rfl
 refine Z ?_;cases u:m.p.fixB j;refine Zf u ?_;refine Zy ⟨λ_=>.top,λi=>if i=3 then .any else .pure⟩ zk t zk zk ?_;refine Zs ?_;intro K;rw[u,if_neg zS]at k;refine Wg 28 [Wl b c d e f g m x,.int .i64 j,Za .new 1 (V.int .u8) (.mk false [1])] ⟨Zb,Zb,Xa (f:=V.int .u8) (l:=[1]) (m:=1) (g:=K) (fz:=0) (c:=.new) rfl zp (λ_=>rfl),trivial⟩ ?_;refine Zc t ?_ (s:=Ti G t _ _ _ _ _ _ _ m _ j s0 D _ zd);rw[Ax];cases y:(m.p.kd j==1);have n:¬m.p.kd j=1:=zu y;rw[if_neg (λh=>n h.1)]at k;subst k;refine Zg y ?_;rfl;have n:m.p.kd j=1:=zu y;cases E:(M.kind==2)
 have r:¬(m.p.wy q.1.first).kind=2:=by rw[C];simpa using E
 rw[if_neg (λh=>r h.2)]at k;subst k;refine Zg (zi S (zi y (zi E (zi B (zi A (zi Uz (zi Yg (zi Xc Yh)))))))) ?_;rfl
 have r:(m.p.wy q.1.first).kind=2:=by rw[C];simpa using E
 rw[if_pos ⟨n,r⟩]at k;subst k;refine Zg (zi S (zi y (zi E (zi B (zi A (zi Uz (zi Yg (zi Xc Yh)))))))) ?_;refine Zy ⟨λ_=>.bool (m.p.inB v j),λ_=>.pure⟩ zk t zk zk ?_;refine Xr @Uz ?_;refine⟨⟨zk,?_⟩,?_⟩;simp -implicitDefEqProofs only[go_sem,seval]
 exact(Gx G t _ _ _ _ m.p a (O.rc _) v j R Q s0 D n).mono λw _ e=>by rw[e]<;>rfl
 exact Zr
 have P:m.p.kd j≠10/\m.p.kd j≠11:=by
  unfold PM.fixB at u;simp only[Bool.or_eq_true,beq_iff_eq]at u;omega
 obtain⟨_,N,r1⟩:=z.fix j s0 D P.1 P.2;rw[u,if_pos rfl,o]at k;rw[o]at N;subst k;refine Zf u ?_;refine Zy ⟨λ_=>.bool (m.p.withinB v F.region),λ_=>.pure⟩ zk t zk zk ?_;rw[ev];simp -implicitDefEqProofs only[go_sem,seval,J,I,Uz,Zz,@Int.natCast_nonneg,@Int.ofNat_lt];refine⟨⟨zk,?_⟩,?_⟩;simp -implicitDefEqProofs only[go_sem,seval]
 exact(Zya G t _ _ _ _ m.p a (O.rc _) v F.region R Q N).mono λw _ e=>by rw[e]<;>rfl
 exact Zr
theorem con3(k a b c:Int):[a,b,c].contains k=(k==a||k==b||k==c):=by
 show List.elem k [a,b,c]=_
 simp only[List.elem]
 cases k==a<;>cases k==b<;>cases k==c<;>rfl
theorem Zuh(G:Nat->V)(B:Y6 G)(y:Col)(b c d e f g:Col)(m:MdM)(x:IxM)(M:IxP m.p x)(hw:m.p.ways.length<=600)(E:m.p.Wfd)(q:StP×List Int)(hsn:q.1.sources≠[])(s0:0<=PM.srcOf q.1)(s1:PM.srcOf q.1<m.p.vertices.length)(f0:0<=q.1.first)(f1:q.1.first<m.p.ways.length)
  (hel:q.1.ends.length<100000) (her:∀ e∈q.1.ends,e.1 = -1\/(0<=e.1/\e.1<m.p.vertices.length)) (hbr:∀ e∈q.1.ends,∀ t∈e.2,0<=t/\t<m.p.ways.length) (hbl:∀ e∈q.1.ends,e.2.length<100000) (hfl:q.1.effects.length<400000) (hfr:∀ t∈q.1.effects,0<=t/\t<m.p.ways.length)
  (hrl:q.2.length<100000) (hrr:∀ v∈q.2,0<=v/\v<m.p.vertices.length):
  Spec Tryz.prog G 62 [Wl b c d e f g m x,Yo y q] Zj (λw _=>w=.bool (m.p.rightS q.1 q.2)):=by
 refine Zo 0 85 [.tmp 4] Tryz.func62 λX=>?_
 have hsr:∃ r,q.1.sources=PM.srcOf q.1::r:=by
  cases h:q.1.sources with
  |nil=>exact absurd h hsn
  |cons a r=>exact⟨r,by rw[PM.srcOf,h]<;>rfl⟩
 obtain⟨r,hsr⟩:=hsr;generalize N:PM.srcOf q.1=u at *
 have h0:q.1.sources[0]?=some u:=by rw[hsr]<;>rfl
 have hp:0<q.1.sources.length:=by rw[hsr];exact Nat.succ_pos _
 refine Zf Xc ?_;intro g2 g3;refine AW.weak (Zl (λo=>o==2||o==3) (l:=[(2,.view .new (Wl b c d e f g m x)),(3,.view .new (Yo y q)),(4,.bool false)]) (m:=[]) ?_ trivial) ?_;refine Zs ?_;exact⟨Fz.ptr (v:=Wl b c d e f g m x) (c:=.new) (fz:=0) zp zp,Fz.ptr (v:=Yo y q) (c:=.new) (fz:=0) zp zp,Zb⟩;refine Zf (zi h0 (zi hp Xc)) ?_;intro g5;have hEs:X6 y q.1.ends=Za y 2 (Vx y) (Zd q.1.ends):=rfl;refine AW.weak (Zl (λo=>o==5) (l:=[(2,.view .new (Wl b c d e f g m x)),(3,.view .new (Yo y q)),(5,.view .new (.int .i64 u))]) (m:=[]) ?_ trivial) ?_;refine Zs ?_;exact⟨Zb,Zb,Fz.ptr (v:=.int .i64 u) (c:=.new) (fz:=0) zp zp⟩;refine Zf (zi Xc hEs) ?_;refine Yc q.1.ends.length (λk (_:Unit)=>st [(2,.view .new (Wl b c d e f g m x)),(3,.view .new (Yo y q)),(5,.view .new (.int .i64 u)),(16,Za y 2 (Vx y) (Zd q.1.ends)),(17,.int .i64 q.1.ends.length),(18,.int .i64 k)] []) (λk _=>∀ i,i<k->m.p.endB q.1 i=true) 0 () (Nat.zero_le _) (λi h=>absurd h (Nat.not_lt_zero _)) (Weak.st zp zp) ?_;intro k _ hk hR L hL
 by_cases J:k<q.1.ends.length
 have hlt:decide ((k:Int)<(q.1.ends.length:Int))=true:=zT;have hg:=List.getElem?_eq_getElem J;have I:=List.getElem_mem J;generalize q.1.ends[k]=z at hg I;refine Zf (zi hlt (zi hg (zi J (zi U9 Yh)))) ?_;intro g7;refine AW.weak (Zl (λo=>o==7) (l:=[(2,.view .new (Wl b c d e f g m x)),(3,.view .new (Yo y q)),(5,.view .new (.int .i64 u)),(6,.int .i64 k),(7,.view .new (Vx y z)),(16,Za y 2 (Vx y) (Zd q.1.ends)),(17,.int .i64 q.1.ends.length),(18,.int .i64 k)]) (m:=[]) ?_ trivial) ?_;refine Zs ?_;exact⟨Zb,Zb,Zb,Zb,Fz.ptr (v:=Vx y z) (c:=.new) (fz:=0) zp zp,Zb,Zb,Zb⟩
 have T:PM.endAt q.1 k=z:=by rw[PM.endAt,List.getD_eq_getElem?_getD,hg]<;>rfl
 have O:m.p.endB q.1 k=false->m.p.rightS q.1 q.2=false:=λh=>by
  have:((List.range q.1.ends.length).all λi=>m.p.endB q.1 i)=false:=by
   rw[List.all_eq_false];exact⟨k,List.mem_range.2 J,by rw[h];simp⟩
  rw[PM.rightS,this]<;>rfl
 by_cases e1:z.1 = -1
 have Y:(z.1 == -1)=true:=by rw[e1]<;>rfl
 rw[O (by rw[PM.endB,T,Y]<;>rfl)];refine Zf (zi Y U9) ?_;rfl
 .have Y:(z.1 == -1)=false:=beq_false_of_ne e1
  obtain⟨en0,en1⟩:0<=z.1/\z.1<m.p.vertices.length:=by
   rcases her z I with h|h
   exact absurd h e1;exact h
  cases hbe:z.2 with
  |nil=>
   have hn:Za y 1 (V.int .i64) (Zd z.2)=.nils:=by rw[hbe]<;>rfl
   refine Zf (zi Y (zi U9 hn)) ?_;refine Si [Wl b c d e f g m x,Za y 1 (V.int .i64) .nil] ⟨Zb,Zb,trivial⟩ ?_;refine Zc B ?_ (s:=M0 G B _ _ _ _ _ _ _ m _ .nil zd (λt ht=>by cases ht) E.sc)
   have hB:m.p.endB q.1 k=((List.range k).all λi=>m.p.orthoB (PM.endAt q.1 i).1 z.1):=by
    rw[PM.endB,T,Y,hbe]<;>rfl
   refine Zs ?_
   have hsl:((Zd q.1.ends).sub 0 k).l=q.1.ends.take k:=by rw[B1,Zm];simp
   have hsn:((Zd q.1.ends).sub 0 k).l.length=k:=by rw[hsl,List.length_take];omega
   have P:min k q.1.ends.length=k:=zo;refine Zf (zi Xc (zi hEs (zi hk (zi (Nat.zero_le k) (zi P Yh))))) ?_
   refine Yc k (λj (_:Unit)=>st [(2,.view .new (Wl b c d e f g m x)),(3,.view .new (Yo y q)),(5,.view .new (.int .i64 u)),(6,.int .i64 k),(7,.view .new (Vx y z)),(16,Za y 2 (Vx y) (Zd q.1.ends)),(17,.int .i64 q.1.ends.length),(18,.int .i64 k),(48,Za y 2 (Vx y) ((Zd q.1.ends).sub 0 k)),(49,.int .i64 k),(50,.int .i64 j)] [])
    (λj _=>∀ i,i<j->m.p.orthoB (PM.endAt q.1 i).1 z.1=true) 0 () (Nat.zero_le _) (λi h=>absurd h (Nat.not_lt_zero _)) (Weak.st (by refine Zs ?_;exact⟨rfl,by rw[U9,hn],by rw[List.length_take,Nat.sub_zero,P]⟩) zp) ?_
   intro j _ hj hJ L2 hL2
   by_cases A:j<k
   .have C:decide ((j:Int)<(k:Int))=true:=zT
    have F:=List.getElem?_eq_getElem (l:=q.1.ends) (i:=j) zo;have Q:=List.getElem_mem (l:=q.1.ends) (n:=j) zo;generalize q.1.ends[j]'zo=D at F Q
    have H:PM.endAt q.1 j=D:=by rw[PM.endAt,List.getD_eq_getElem?_getD,F]<;>rfl
    have hgs:(List.take (k-0) q.1.ends)[j]?=some D:=by rw[Nat.sub_zero,List.getElem?_take,if_pos A,F]
    have hjl:j<(List.take (k-0) q.1.ends).length:=by rw[List.length_take,Nat.sub_zero];omega
    have S:=hR j A
    obtain⟨fn0,fn1⟩:0<=D.1/\D.1<m.p.vertices.length:=by
     rcases her D Q with h|h
     rw[PM.endB,H,h]at S;simp at S;exact h
    have w2:IntKind.i64.wrap ((j:Int)+1)=(j:Int)+1:=Wy zo zo;have R:decide (j<k)=true:=decide_eq_true A;refine Zf (zi R (zi A (zi hgs (zi hjl (zi U9 Yh))))) ?_;intro g9;refine Z ?_
    repeat first|refine AW.block ?_|refine Z6 ?_
    refine Zy ⟨λ_=>.bool (m.p.orthoB D.1 z.1),λ_=>.pure⟩ zk B zk zk ?_;refine Xr (zi @U9 @Uz) ?_;refine⟨⟨zk,?_⟩,?_⟩;simp -implicitDefEqProofs only[go_sem,seval]
    exact(D4 G B _ _ _ _ m.p E.acy (M.rc _) D.1 z.1 fn0 fn1 en0 en1).mono λw _ e=>by rw[e]<;>rfl
    cases W:m.p.orthoB D.1 z.1
    have hf:m.p.endB q.1 k=false:=by
     rw[hB,List.all_eq_false];exact⟨j,List.mem_range.2 A,by rw[H,W];simp⟩
    rw[O hf];refine Zf W ?_;rfl;refine Zf (zi W w2) ?_;refine hL2 _ ⟨A,(),λi K=>?_,Weak.st (by refine Zs ?_;exact⟨rfl,rfl,rfl⟩) zp⟩
    rcases Nat.lt_succ_iff_lt_or_eq.1 K with h|h
    exact hJ i h;subst h;rw[H];exact W
   have hje:j=k:=zo;have C:decide ((k:Int)<(k:Int))=false:=zF;rw[hje]at hJ⊢;have w1:IntKind.i64.wrap ((k:Int)+1)=(k:Int)+1:=Wy zo zo;refine Zf (zi C w1) ?_;refine hL _ ⟨J,(),λi K=>?_,Weak.st zp zp⟩
   rcases Nat.lt_succ_iff_lt_or_eq.1 K with h|h
   exact hR i h;subst h;rw[hB,List.all_eq_true];exact λi K=>hJ i (List.mem_range.1 K)
  |cons t0 tr=>
   have hn:Za y 1 (V.int .i64) (Zd z.2)=.slice y false 1 (z.2.map (V.int .i64)):=by rw[hbe]<;>rfl
   refine Zf (zi Y (zi U9 hn)) ?_;intro g34;refine Wg 34 [Wl b c d e f g m x,.int .i64 z.1,Za .new 1 (V.int .u8) (.mk false [1])] ⟨Zb,Zb,Xa (f:=V.int .u8) (l:=[1]) (m:=1) (g:=g34) (fz:=0) (c:=.new) rfl zp (λ_=>rfl),trivial⟩ ?_;refine Zc B ?_ (s:=Ti G B _ _ _ _ _ _ _ m _ z.1 en0 en1 _ zd);rw[Ax]
   have hne:(z.2==[])=false:=by rw[hbe]<;>rfl
   cases qk:(m.p.kd z.1==1);rw[O (by rw[PM.endB,T,Y,hne,qk]<;>rfl)];refine Zg (zi qk hn) ?_;rfl;refine Zg (zi qk hn) ?_;refine Si [Wl b c d e f g m x,Za y 1 (V.int .i64) (Zd z.2)] ⟨Zb,by rw[hn];exact Zb,trivial⟩ ?_;refine Zc B ?_ (s:=M0 G B _ _ _ _ _ _ _ m _ (Zd z.2) (by rw[Zm];exact Nat.lt_of_lt_of_le (hbl z I) zd) (λt ht=>hbr z I t (by rw[Zm]at ht;exact ht)) E.sc);cases qf:m.p.forkedB z.2
   have hB:m.p.endB q.1 k=((List.range k).all λi=>m.p.orthoB (PM.endAt q.1 i).1 z.1):=by
    rw[PM.endB,T,Y,hne,qk,qf]<;>rfl
   refine Xr qf ?_
   have hsl:((Zd q.1.ends).sub 0 k).l=q.1.ends.take k:=by rw[B1,Zm];simp
   have hsn:((Zd q.1.ends).sub 0 k).l.length=k:=by rw[hsl,List.length_take];omega
   have P:min k q.1.ends.length=k:=zo;refine Zf (zi Xc (zi hEs (zi hk (zi (Nat.zero_le k) (zi P Yh))))) ?_
   refine Yc k (λj (_:Unit)=>st [(2,.view .new (Wl b c d e f g m x)),(3,.view .new (Yo y q)),(5,.view .new (.int .i64 u)),(6,.int .i64 k),(7,.view .new (Vx y z)),(16,Za y 2 (Vx y) (Zd q.1.ends)),(17,.int .i64 q.1.ends.length),(18,.int .i64 k),(48,Za y 2 (Vx y) ((Zd q.1.ends).sub 0 k)),(49,.int .i64 k),(50,.int .i64 j)] [])
    (λj _=>∀ i,i<j->m.p.orthoB (PM.endAt q.1 i).1 z.1=true) 0 () (Nat.zero_le _) (λi h=>absurd h (Nat.not_lt_zero _)) (Weak.st (by refine Zs ?_;exact⟨rfl,by rw[U9,hn],by rw[List.length_take,Nat.sub_zero,P]⟩) zp) ?_
   intro j _ hj hJ L2 hL2
   by_cases A:j<k
   .have C:decide ((j:Int)<(k:Int))=true:=zT
    have F:=List.getElem?_eq_getElem (l:=q.1.ends) (i:=j) zo;have Q:=List.getElem_mem (l:=q.1.ends) (n:=j) zo;generalize q.1.ends[j]'zo=D at F Q
    have H:PM.endAt q.1 j=D:=by rw[PM.endAt,List.getD_eq_getElem?_getD,F]<;>rfl
    have hgs:(List.take (k-0) q.1.ends)[j]?=some D:=by rw[Nat.sub_zero,List.getElem?_take,if_pos A,F]
    have hjl:j<(List.take (k-0) q.1.ends).length:=by rw[List.length_take,Nat.sub_zero];omega
    have S:=hR j A
    obtain⟨fn0,fn1⟩:0<=D.1/\D.1<m.p.vertices.length:=by
     rcases her D Q with h|h
     rw[PM.endB,H,h]at S;simp at S;exact h
    have w2:IntKind.i64.wrap ((j:Int)+1)=(j:Int)+1:=Wy zo zo;have R:decide (j<k)=true:=decide_eq_true A;refine Zf (zi R (zi A (zi hgs (zi hjl (zi U9 Yh))))) ?_;intro g9;refine Z ?_
    repeat first|refine AW.block ?_|refine Z6 ?_
    refine Zy ⟨λ_=>.bool (m.p.orthoB D.1 z.1),λ_=>.pure⟩ zk B zk zk ?_;refine Xr (zi @U9 @Uz) ?_;refine⟨⟨zk,?_⟩,?_⟩;simp -implicitDefEqProofs only[go_sem,seval]
    exact(D4 G B _ _ _ _ m.p E.acy (M.rc _) D.1 z.1 fn0 fn1 en0 en1).mono λw _ e=>by rw[e]<;>rfl
    cases W:m.p.orthoB D.1 z.1
    have hf:m.p.endB q.1 k=false:=by
     rw[hB,List.all_eq_false];exact⟨j,List.mem_range.2 A,by rw[H,W];simp⟩
    rw[O hf];refine Zf W ?_;rfl;refine Zf (zi W w2) ?_;refine hL2 _ ⟨A,(),λi K=>?_,Weak.st (by refine Zs ?_;exact⟨rfl,rfl,rfl⟩) zp⟩
    rcases Nat.lt_succ_iff_lt_or_eq.1 K with h|h
    exact hJ i h;subst h;rw[H];exact W
   have hje:j=k:=zo;have C:decide ((k:Int)<(k:Int))=false:=zF;rw[hje]at hJ⊢;have w1:IntKind.i64.wrap ((k:Int)+1)=(k:Int)+1:=Wy zo zo;refine Zf (zi C w1) ?_;refine hL _ ⟨J,(),λi K=>?_,Weak.st zp zp⟩
   rcases Nat.lt_succ_iff_lt_or_eq.1 K with h|h
   exact hR i h;subst h;rw[hB,List.all_eq_true];exact λi K=>hJ i (List.mem_range.1 K);rw[O (by rw[PM.endB,T,Y,hne,qk,qf]<;>rfl)];refine Zg qf ?_;rfl
 .have hke:k=q.1.ends.length:=zo
  have hlt:decide ((q.1.ends.length:Int)<(q.1.ends.length:Int))=false:=zF;rw[hke]at hR⊢
  have hall:((List.range q.1.ends.length).all λi=>m.p.endB q.1 i)=true:=by
   rw[List.all_eq_true];exact λi K=>hR i (List.mem_range.1 K)
  rw[PM.rightS,hall,Bool.true_and,N];refine Zf (zi hlt Xc) ?_;intro g68;refine Wg 68 [Wl b c d e f g m x,.int .i64 u,Za .new 1 (V.int .u8) (.mk false [3,8,9])] ⟨Zb,Zb,Xa (f:=V.int .u8) (l:=[3,8,9]) (m:=1) (g:=g68) (fz:=0) (c:=.new) rfl zp (λ_=>rfl),trivial⟩ ?_;refine Zc B ?_ (s:=Ti G B _ _ _ _ _ _ _ m _ u s0 s1 _ zd);rw[con3,<- show m.p.fixB u=(m.p.kd u==3||m.p.kd u==8||m.p.kd u==9)from rfl];cases qx:m.p.fixB u
  .refine Zg (zi qx Xc) ?_
   intro g10;refine Zf (zi qx Xc) ?_;refine Wg 10 [Za y 1 (V.int .i64) (Zd q.2),.func (.func 100) [] [.view .new (.bool (m.p.fixB u)),.view .new (Wl b c d e f g m x),.view .new (.int .i64 u),.view .new (Yo y q)]] ⟨Zb,by rw[qx];exact Fz.func ⟨Fz.ptr (c:=.new) (fz:=0) zp zp,Zb,Zb,Zb,trivial⟩,trivial⟩ ?_
   refine Zc B ?_ (ha:=by simp only[List.map_cons,List.map_nil,Y1,V.recol,Yv,Tv,Tw]) (s:=Rk G B y.ent 100 (λU=>∃ y b1 b2 b3 b4 b c d e f g x,IxP m.p x/\U=[.view b1 (.bool (m.p.fixB u)),.view b2 (Wl b c d e f g m x),.view b3 (.int .i64 u),.view b4 (Yo y q)]) (by
    rintro _ ⟨y,b1,b2,b3,b4,b,c,d,e,f,g,x,M,rfl⟩
    exact⟨_,_,_,_,_,_,_,_,_,_,_,_,M.rc _,by simp only[List.map_cons,List.map_nil,V.recol,Tv,Tw];rfl⟩) [.view Col.new.ent (.bool (m.p.fixB u)),.view Col.new.ent (Wl b.ent c.ent d.ent e.ent f.ent g.ent m (x.rc Col.ent)),.view Col.new.ent (.int .i64 u),.view Col.new.ent (Yo y.ent q)] ⟨_,_,_,_,_,_,_,_,_,_,_,_,M.rc _,rfl⟩ zk (λv => !(m.p.inReach q.1 v)) (Zd q.2) (by rw[Zm];exact Nat.lt_of_lt_of_le hrl zd) (by
    rintro v hv _ ⟨y,b1,b2,b3,b4,b,c,d,e,f,g,x,M,rfl⟩;rw[Zm]at hv;obtain⟨v0,v1⟩:=hrr v hv
    exact G0 G B y b1 b2 b3 b4 b c d e f g m x M E q u v N.symm v0 v1 s0 s1 f0 f1))
   refine Z ?_
   skip
   first|rfl|(rw[List.all_eq_not_any_not];first|rfl|simp)
  .refine Zg (zi qx Xc) ?_
   intro g10;refine Zf (zi qx Xc) ?_;refine Si [Wl b c d e f g m x,Za y 1 (V.int .i64) (Zd q.1.effects)] ⟨Zb,Zb,trivial⟩ ?_;refine Zc B ?_ (s:=M0 G B _ _ _ _ _ _ _ m _ (Zd q.1.effects) (by rw[Zm];exact Nat.lt_of_lt_of_le hfl zd) (λt ht=>hfr t (by rw[Zm]at ht;exact ht)) E.sc);cases qf:m.p.forkedB q.1.effects
   .refine Zg (zi qf Xc) ?_
    refine Wg 10 [Za y 1 (V.int .i64) (Zd q.2),.func (.func 100) [] [.view .new (.bool (m.p.fixB u)),.view .new (Wl b c d e f g m x),.view .new (.int .i64 u),.view .new (Yo y q)]] ⟨Zb,by rw[qx];exact Fz.func ⟨Fz.ptr (c:=.new) (fz:=0) zp zp,Zb,Zb,Zb,trivial⟩,trivial⟩ ?_
    refine Zc B ?_ (ha:=by simp only[List.map_cons,List.map_nil,Y1,V.recol,Yv,Tv,Tw]) (s:=Rk G B y.ent 100 (λU=>∃ y b1 b2 b3 b4 b c d e f g x,IxP m.p x/\U=[.view b1 (.bool (m.p.fixB u)),.view b2 (Wl b c d e f g m x),.view b3 (.int .i64 u),.view b4 (Yo y q)]) (by
     rintro _ ⟨y,b1,b2,b3,b4,b,c,d,e,f,g,x,M,rfl⟩
     exact⟨_,_,_,_,_,_,_,_,_,_,_,_,M.rc _,by simp only[List.map_cons,List.map_nil,V.recol,Tv,Tw];rfl⟩) [.view Col.new.ent (.bool (m.p.fixB u)),.view Col.new.ent (Wl b.ent c.ent d.ent e.ent f.ent g.ent m (x.rc Col.ent)),.view Col.new.ent (.int .i64 u),.view Col.new.ent (Yo y.ent q)] ⟨_,_,_,_,_,_,_,_,_,_,_,_,M.rc _,rfl⟩ zk (λv => !(m.p.inReach q.1 v)) (Zd q.2) (by rw[Zm];exact Nat.lt_of_lt_of_le hrl zd) (by
     rintro v hv _ ⟨y,b1,b2,b3,b4,b,c,d,e,f,g,x,M,rfl⟩;rw[Zm]at hv;obtain⟨v0,v1⟩:=hrr v hv
     exact G0 G B y b1 b2 b3 b4 b c d e f g m x M E q u v N.symm v0 v1 s0 s1 f0 f1))
    refine Z ?_
    skip
    first|rfl|(rw[List.all_eq_not_any_not];first|rfl|simp)
   refine Zg (zi qf Xc) ?_
   first|rfl|simp
@[go_sem] theorem loadK_ss(n:Nat)(ob:AObj)(q b c d e f:Col)(x:IxM)(k:Sl Int)(r:Int):Ty (some (false,n)) ob (.view q (Rb b c d e f x k r))=some (Rb b c d e f x k r):=rfl
structure PgM where
 m:MdM
 L:List (StP×List Int)
 gs:V
 ef:V
 en:V
 ex:V
 lv:List (List Int)
 x:IxM
 y:IxM
 k:Sl Int
def PgM.rc(q:Col->Col)(p:PgM):PgM:=⟨p.m,p.L,p.gs.recol q,p.ef.recol q,p.en.recol q,p.ex.recol q,p.lv,p.x.rc q,p.y.rc q,p.k⟩
def Tt(c:Col)(l:List Int):V:=Za c 1 (V.int .i64) (Zd l)
theorem Il(c:Col)(l:List Int):Tt c l=Za c 1 (V.int .i64) (Zd l):=rfl
theorem Zti(q:Col->Col)(c:Col)(l:List Int):(Tt c l).recol q=Tt (q c) l:=Y1 q c 1 .i64 _
def Ph(c:Col)(p:PgM):V:=.view c (.agg [.str p.m.name,Za c 2 Z3 p.m.vars,Za c 1 V.str p.m.events,Za c 2 Z3 p.m.regions,Za c 8 (Yf c) p.m.verts,Za c 8 (Yn c) p.m.ways,
 Za c 6 (Yo c) (Zd p.L),p.gs,p.ef,p.en,p.ex,Za c 1 (Tt c) (Zd p.lv),Uj c c c p.x,Rb c c c c c p.y p.k p.m.p.regions.length])
theorem Wn(c:Col)(p:PgM):Ph c p=.view c (.agg [.str p.m.name,Za c 2 Z3 p.m.vars,Za c 1 V.str p.m.events,Za c 2 Z3 p.m.regions,Za c 8 (Yf c) p.m.verts,Za c 8 (Yn c) p.m.ways,
 Za c 6 (Yo c) (Zd p.L),p.gs,p.ef,p.en,p.ex,Za c 1 (Tt c) (Zd p.lv),Uj c c c p.x,Rb c c c c c p.y p.k p.m.p.regions.length]):=rfl
theorem W4(q:Col->Col)(c:Col)(p:PgM):(Ph c p).recol q=Ph (q c) (p.rc q):=by
 simp only[Wn,PgM.rc,V.recol,Yv,Xy,Uq,Qt,Qu,Q2,Oe];rw[Y8 q c 6 (Tw q c),Y8 q c 1 (Zti q c)]
theorem Zk8(c:Col)(p:PgM):(Ph c p).cells=[Ph c p]:=rfl
theorem Zl5(c:Col)(p:PgM):(Ph c p).solid=true:=rfl
attribute[go_sem]W4 Zk8 Zl5
theorem Tf(G:Nat->V)(c:Col)(p:PgM)(s:Int):Spec Tryz.prog G 40 [Ph c p,.int .i64 s] Zj (λw _=>w=.bool (decide (0<=s)&&decide (s<p.L.length))):=by
 refine Zo 0 20 [.tmp 4] Tryz.func40 λX=>?_;have d:(Zd p.L).l=p.L:=Zm _
 by_cases e:0<=s
 have a:decide (s>=0)=true:=zT;have b:decide (0<=s)=true:=zT;rw[b];exact Zq (zi a (zi d Wn));have a:decide (s>=0)=false:=zF;have b:decide (0<=s)=false:=zF;rw[b];exact Zq (zi a (zi d Wn))
theorem Bh(G:Nat->V)(y:Y6 G)(c:Col)(p:PgM)(A:IxP p.m.p p.x)(n:Nat)(q:StP×List Int)(t:p.L[n]?=some q)(B:∀ v∈q.1.sources,0<=v/\v<p.m.p.vertices.length)(F:q.1.sources.length<1000000):
  Spec Tryz.prog G 42 [Ph c p,.int .i64 n] Zj (λw _=>w=.int .i64 (PM.deepL p.x.dp q)):=by
 refine Zo 0 31 [.tmp 4] Tryz.func42 λX=>?_;have E:(Zd p.L).l=p.L:=Zm _;have D:(Zd q.1.sources).l=q.1.sources:=Zm _;have C:n<p.L.length:=(List.getElem?_eq_some_iff.1 t).1;have z:=zi E (zi D (zi t (zi C (zi Wn (zi Xc Yh)))));refine Zf z ?_;refine Yc q.1.sources.length (λi (_:Unit)=>st [(0,Ph c p),(4,.int .i64 ((q.1.sources.take i).foldl (λn v=>max n (p.x.dp v)) 0)),(14,Za c 1 (V.int .i64) (Zd q.1.sources)),(15,.int .i64 q.1.sources.length),(16,.int .i64 i)] []) (λ_ _=>True) 0 () (Nat.zero_le _) trivial (Weak.st (zq @Wn) zp) ?_;intro i _ H _ I e
 by_cases a:i<q.1.sources.length
 rotate_left;have k:i=q.1.sources.length:=zo;have b:decide ((q.1.sources.length:Int)<(q.1.sources.length:Int))=false:=zF;rw[k,List.take_length];refine Zf b ?_;rfl;have b:decide ((i:Int)<(q.1.sources.length:Int))=true:=zT;have u:=List.getElem?_eq_getElem a;have g:=B _ (List.getElem_mem a);have r:q.1.sources.take (i+1)=q.1.sources.take i++[q.1.sources[i]]:=List.take_succ_eq_append_getElem a;generalize q.1.sources[i]=v at u g r;have o:IntKind.i64.wrap ((i:Int)+1)=(i:Int)+1:=Wy zo zo;rw[r,List.foldl_append,List.foldl_cons,List.foldl_nil]at e;refine Zf (zi b (zi u (zi a z))) ?_;refine Zc y ?_ (s:=Z0j G y _ _ _ _ _ (A.rc _) v g.1 g.2)
 have j:∀ d f:Int,(if d>f then d else f)=max f d:=λd f=>by rw[Int.max_def];split<;>split<;>omega
 have h:(p.x.rc Col.ent).dp v=p.x.dp v:=rfl;rw[h,j];refine Zf o ?_;exact e _ ⟨a,(),trivial,Weak.st (zq (zi @Wn o)) zp⟩
structure PgOk(p:PgM):Prop where
 rt:p.m.p.Rt5
 ac:p.m.p.Acy
 x:IxP p.m.p p.x
 xo:∃ c,IxO p.m.p c p.x
 y:IxP p.m.p p.y
 yo:∃ c,IxO p.m.p c p.y
 k:SsP p.m.p p.k
 nv:p.m.p.vertices.length<1000000
 nr:p.m.p.regions.length<1000000
theorem PgOk.rc{p:PgM}(h:PgOk p)(g:Col->Col):PgOk (p.rc g):=⟨h.rt,h.ac,h.x.rc g,h.xo.elim λc e=>⟨_,e.rc g⟩,h.y.rc g,h.yo.elim λc e=>⟨_,e.rc g⟩,h.k,h.nv,h.nr⟩
theorem Z0c(G:Nat->V)(A:Y6 G)(c c1:Col)(p:PgM)(ok:PgOk p)(a l:Sl Int)(ha:a.l.length<1000000)(J:l.l.length<1000000)(n:Nat)(b:List Int)(R:n<p.L.length)(j:p.lv[n]?=some b)(H:b.length<600)(u:(b.flatMap (p.m.p.exitL a.l l.l)).length<1000000):
  Spec Tryz.prog G 14 [Ph c p,Td c1 a l,.int .i64 n] Zj (λw _=>w=Za .new 1 (V.int .i64) (Zd (b.flatMap (p.m.p.exitL a.l l.l)))):=by
 refine Zo 0 38 [.tmp 6] Tryz.func14 λX=>?_;have P:(Zd p.lv).l=p.lv:=Zm _;have O:(Zd b).l=b:=Zm _;have x:n<p.lv.length:=(List.getElem?_eq_some_iff.1 j).1;refine Zf Yi ?_;intro T;refine AW.weak (Zl (λo=>o==4) (l:=[(0,Ph c p),(2,.int .i64 n),(4,.view .new (Td c1 a l))]) (m:=[]) ?_ trivial) ?_;simp -implicitDefEqProofs only[go_sem,seval];exact⟨Zb,Zb,Fz.ptr (v:=Td c1 a l) (c:=.new) (fz:=0) zp (by rw[Yi];exact zp)⟩;refine Z ?_;refine Zc A ?_ (s:=Tf G _ _ n)
 have Q:(decide True&&decide ((n:Int)<(p.L.length:Int)))=true:=by rw[Bool.and_eq_true];exact⟨rfl,zT⟩
 have E:=zi P (zi O (zi j (zi x (zi Wn (zi Il Yh)))));rw[show(PgM.rc Col.ent p).L=p.L from rfl,Q];refine Zf E ?_;refine Yc b.length (λi (g:Nat)=>st [(0,Ph c p),(4,.view .new (Td c1 a l)),(7,grown 35 g 1 ((b.take i).flatMap (p.m.p.exitL a.l l.l))),(20,Za c 1 (V.int .i64) (Zd b)),(21,.int .i64 b.length),(22,.int .i64 i)] [(35,Yb g (V.int .i64) ((b.take i).flatMap (p.m.p.exitL a.l l.l)))]) (λ_ _=>True) 0 0 (Nat.zero_le _) trivial (Weak.st (by simp -implicitDefEqProofs only[go_sem,seval,Wn,Vm];try rfl) (by simp -implicitDefEqProofs only[go_sem,seval,Wd];try rfl)) ?_;intro i g S _ U q
 by_cases d:i<b.length
 rotate_left;have z:i=b.length:=zo;have h:decide ((b.length:Int)<(b.length:Int))=false:=zF;rw[z,List.take_length];generalize b.flatMap (p.m.p.exitL a.l l.l)=F at *;refine AW.weak (Zl (λo=>o==35) (l:=[(7,Za .new 1 (V.int .i64) (Zd F)),(21,.int .i64 b.length),(22,.int .i64 b.length)]) (m:=[]) ?_ trivial) ?_;simp -implicitDefEqProofs only[go_sem,seval];exact⟨Y5 (l:=F) (g:=g) (f:=V.int .i64) rfl zp (λ_=>rfl),Zb⟩;refine Zf h ?_;rfl;have h:decide ((i:Int)<(b.length:Int))=true:=zT;have D:=List.getElem?_eq_getElem d;have t:b.take (i+1)=b.take i++[b[i]]:=List.take_succ_eq_append_getElem d;generalize b[i]=r at D t;have C:IntKind.i64.wrap ((i:Int)+1)=(i:Int)+1:=Wy zo zo;rw[t,List.flatMap_append,List.flatMap_cons,List.flatMap_nil,List.append_nil]at q
 have M:((b.take i).flatMap (p.m.p.exitL a.l l.l)).length+(p.m.p.exitL a.l l.l r).length<1000000:=by
  have e:b.flatMap (p.m.p.exitL a.l l.l)=((b.take i).flatMap (p.m.p.exitL a.l l.l)++p.m.p.exitL a.l l.l r)++(b.drop (i+1)).flatMap (p.m.p.exitL a.l l.l):=by
   conv=>lhs;rw[<- List.take_append_drop (i+1) b,List.flatMap_append,t,List.flatMap_append,List.flatMap_cons,List.flatMap_nil,List.append_nil]
  rw[e,List.length_append,List.length_append]at u;omega
 have K:=Z9a (m:=p.m.p) ok.rt ok.ac a.l l.l r;obtain⟨co,I⟩:=ok.yo;have B:=zi h (zi D (zi d E));refine Xm B ?_;refine Z0f B ?_
 repeat first|refine AW.block ?_|refine Z6 ?_
 refine Xm B ?_;refine Zy ⟨λ_=>Za .new 1 (V.int .i64) (Zd (p.m.p.exitL a.l l.l r)),λ_=>.pure⟩ zk A zk zk ?_;refine Xr (zi @Wn @Yi) ?_;refine⟨⟨zk,?_⟩,?_⟩;simp -implicitDefEqProofs only[go_sem,seval]
 exact(Zht G A _ _ _ _ _ _ _ _ _ p.m.p ok.rt ok.ac (ok.y.rc _) (I.rc _) ok.k ok.nv ok.nr a l ha J r).mono λw _ e=>by rw[e];exact Y1 Col.bk .new 1 .i64 _
 refine Ys (f:=V.int .i64) (l:=(b.take i).flatMap (p.m.p.exitL a.l l.l)) (l2:=p.m.p.exitL a.l l.l r) (g:=g) (λ_=>rfl) rfl rfl rfl zp (Z4 zo zo) λN=>?_;refine Zs ?_;refine Zf C ?_;exact q _ ⟨d,N,trivial,Weak.st (zq (zi @Wn (zi @Yi C))) zp⟩
theorem Zyh(G:Nat->V)(p:Y6 G)(b c d:Col)(x:IxM)(m:PM)(a:m.Acy)(f:IxP m x)(v s:Int)(r:0<=v)(q:v<m.vertices.length)(s0:0<=s)(n:s<m.vertices.length):
  Spec Tryz.prog G 80 [Uj b c d x,.int .i64 v,.int .i64 s] Zj (λw _=>w=.bool (m.inB v s&&m.kd s==1)):=by
 by_cases j:m.kd s=1
 rw[j,beq_self_eq_true,Bool.and_true];exact Gx G p b c d x m a f v s r q s0 n j;have t:(m.kd s==1)=false:=beq_eq_false_iff_ne.2 j;rw[t,Bool.and_false];refine ZoM 100 43 [.cell 6 4] Tryz.func80 λX=>?_;obtain⟨nv,B,rfl,z,A,y,_⟩:=f.at r q;obtain⟨o,ps,rfl,h,k,_,_,g,_⟩:=f.at s0 n
 have es:ps.state=false:=by rw[g];exact t
 have t1:(decide ((0:Int)<=(nv:Int))&&decide ((nv:Int)<x.places.l.length))=true:=by rw[Bool.and_eq_true];exact⟨zT,zT⟩
 have u:(decide ((0:Int)<=(o:Int))&&decide ((o:Int)<x.places.l.length))=true:=by rw[Bool.and_eq_true];exact⟨zT,zT⟩
 refine Z ?_;intro D C;refine Z6 (Z6 (Zy ⟨λi=>if i=2 then .bool true else if i=7 then .bool true else .top,λ_=>.pure⟩ zk p zk zk ?_));simp -implicitDefEqProofs only[go_sem,seval,k,h,es,Vj,V0,@Int.natCast_nonneg,@Int.ofNat_lt];refine⟨⟨zk,?_⟩,⟨zk,?_⟩,?_⟩;simp -implicitDefEqProofs only[go_sem,seval,<- V0]
 exact(Wm G _ _ _ _ _).mono λv _ e=>by rw[e];exact congrArg V.bool t1
 simp -implicitDefEqProofs only[go_sem,seval,<- V0]
 exact(Wm G _ _ _ _ _).mono λv _ e=>by rw[e];exact congrArg V.bool u
 exact Zr
theorem Zt7(G:Nat->V)(a:Y6 G)(h g c:Col)(p:PgM)(ok:PgOk p)(v s:Int)(f:0<=v)(d:v<p.m.p.vertices.length)(s0:0<=s)(b:s<p.m.p.vertices.length):
  Spec Tryz.prog G 79 [.int .i64 s,.view h (Ph c p),.view g (.int .i64 v)] Zj (λw _=>w=.bool (p.m.p.inB v s&&p.m.p.kd s==1)):=by
 refine Zo 0 13 [.tmp 4] Tryz.func79 λX=>?_;refine Z ?_;refine Zy ⟨λ_=>.bool (p.m.p.inB v s&&p.m.p.kd s==1),λ_=>.pure⟩ zk a zk zk ?_;refine Xr @Wn ?_;refine⟨⟨zk,?_⟩,?_⟩;simp -implicitDefEqProofs only[go_sem,seval]
 exact(Zyh G a _ _ _ _ p.m.p ok.ac (ok.x.rc _) v s f d s0 b).mono λw _ e=>by rw[e];rfl
 exact Zr
theorem Z9aa(G:Nat->V)(N:Y6 G)(c:Col)(p:PgM)(ok:PgOk p)(z q:Nat)(a d:StP×List Int)(x:p.L[z]?=some a)(u:p.L[q]?=some d)(S:PM.LvQ p.m.p a)(o2:PM.LvQ p.m.p d)(W:a.1.sources.length<1000000)(l2:d.1.sources.length<1000000):
  Spec Tryz.prog G 41 [Ph c p,.int .i64 z,.int .i64 q] Zj (λw _=>w=.bool (p.m.p.innerB a d)):=by
 refine Zo 0 33 [.tmp 6] Tryz.func41 λX=>?_;have T:(Zd p.L).l=p.L:=Zm _;have O:(Zd a.1.sources).l=a.1.sources:=Zm _;have n:(Zd d.1.sources).l=d.1.sources:=Zm _;have H:z<p.L.length:=(List.getElem?_eq_some_iff.1 x).1;have F:q<p.L.length:=(List.getElem?_eq_some_iff.1 u).1;refine Z ?_;intro g3;refine AW.weak (Zl (λo=>o==3) (l:=[(1,.int .i64 z),(2,.int .i64 q),(3,.view .new (Ph c p))]) (m:=[]) ?_ trivial) ?_;simp -implicitDefEqProofs only[go_sem,seval];exact⟨Zb,Zb,Fz.ptr (v:=Ph c p) (c:=.new) (fz:=0) zp zp⟩;have A:=zi T (zi O (zi n (zi x (zi u (zi H (zi F (zi Wn (zi Xc Yh))))))));refine Zf A ?_;refine Yc a.1.sources.length (λi (_:Unit)=>st [(2,.int .i64 q),(3,.view .new (Ph c p)),(16,Za c 1 (V.int .i64) (Zd a.1.sources)),(17,.int .i64 a.1.sources.length),(18,.int .i64 i)] []) (λi _=>((a.1.sources.take i).any λv=>d.1.sources.any λs=>p.m.p.inB v s&&p.m.p.kd s==1)=false) 0 () (Nat.zero_le _) (by rw[List.take_zero];rfl) (Weak.st (zq @Wn) zp) ?_;intro i _ Y K L1 M
 by_cases b:i<a.1.sources.length
 rotate_left;have I:i=a.1.sources.length:=zo;have k:decide ((i:Int)<(a.1.sources.length:Int))=false:=zF;rw[I,List.take_length]at K;refine Zf k ?_;rw[PM.innerB,K];have k:decide ((i:Int)<(a.1.sources.length:Int))=true:=zT;have J:=List.getElem?_eq_getElem b;have E:=S.src _ (List.getElem_mem b);have r:=List.getElem_mem b;have Q:a.1.sources.take (i+1)=a.1.sources.take i++[a.1.sources[i]]:=List.take_succ_eq_append_getElem b;generalize a.1.sources[i]=v at J E Q r;have P:IntKind.i64.wrap ((i:Int)+1)=(i:Int)+1:=Wy zo zo;refine Xm (zi k (zi J (zi b A))) ?_;refine Zf (zi J (zi b A)) ?_;intro g8;refine AW.weak (Zl (λo=>o==8) (l:=[(2,.int .i64 q),(3,.view .new (Ph c p)),(8,.view .new (.int .i64 v)),(16,Za c 1 (V.int .i64) (Zd a.1.sources)),(17,.int .i64 a.1.sources.length),(18,.int .i64 i)]) (m:=[]) ?_ trivial) ?_;simp -implicitDefEqProofs only[go_sem,seval,Wn];exact⟨Zb,Zb,Fz.ptr (v:=.int .i64 v) (c:=.new) (fz:=0) zp zp,Zb,Zb,Zb⟩;refine Zf A ?_;simp only[<- Wn]
 refine Zc N ?_ (ha:=by simp only[List.map_cons,List.map_nil,Y1,V.recol,Yv,W4]) (s:=Rk G N c.ent 79 (λU=>∃ D C c g,PgOk g/\g.m=p.m/\U=[.view D (Ph c g),.view C (.int .i64 v)]) (by
  rintro _ ⟨D,C,c,g,j,e,rfl⟩
  exact⟨_,_,_,g.rc Col.ent,j.rc _,e,by simp only[List.map_cons,List.map_nil,V.recol,W4];rfl⟩) [.view Col.new.ent (Ph c.ent (p.rc Col.ent)),.view Col.new.ent (.int .i64 v)] ⟨_,_,_,_,ok.rc _,rfl,rfl⟩ zk (λs=>p.m.p.inB v s&&p.m.p.kd s==1) (Zd d.1.sources) (by rw[n];exact l2) (by
  rintro s R _ ⟨D,C,c,g,j,e,rfl⟩;rw[n]at R;have t:=o2.src s R;have:=Zt7 G N D C c g j v s E.1 (by rw[e];exact E.2) t.1 (by rw[e];exact t.2);rw[e]at this
  exact this))
 have f:((a.1.sources.take (i+1)).any λv=>d.1.sources.any λs=>p.m.p.inB v s&&p.m.p.kd s==1)=d.1.sources.any λs=>p.m.p.inB v s&&p.m.p.kd s==1:=by
  rw[Q,List.any_append,K,Bool.false_or,List.any_cons,List.any_nil,Bool.or_false]
 have y:(d.1.sources.any λs=>p.m.p.inB v s&&p.m.p.kd s==1)=true->p.m.p.innerB a d=true:=λh=>List.any_eq_true.2 ⟨v,r,h⟩;generalize(d.1.sources.any λs=>p.m.p.inB v s&&p.m.p.kd s==1)=B at f y⊢
 cases B with
 |true=>
  refine Z ?_;rw[y rfl]
 |false=>
  refine Zf P ?_;exact M _ ⟨b,(),f,Weak.st (zq (zi @Wn P)) zp⟩
theorem N5(G:Nat->V)(d:Y6 G)(c:Col)(p:PgM)(ok:PgOk p)(b a:Nat)(g f:StP×List Int)(i:p.L[b]?=some g)(h:p.L[a]?=some f)(j:PM.LvQ p.m.p g)(o2:PM.LvQ p.m.p f)(k:g.1.sources.length<1000000)(l2:f.1.sources.length<1000000):
  Spec Tryz.prog G 13 [Ph c p,.int .i64 b,.int .i64 a] Zj (λw _=>w=.bool (p.m.p.aheadB p.x.dp g f)):=by
 refine Zo 0 30 [.tmp 6] Tryz.func13 λX=>?_;have q:b<p.L.length:=(List.getElem?_eq_some_iff.1 i).1;have o:a<p.L.length:=(List.getElem?_eq_some_iff.1 h).1
 have t1:(decide ((0:Int)<=(b:Int))&&decide ((b:Int)<(p.L.length:Int)))=true:=by rw[Bool.and_eq_true];exact⟨zT,zT⟩
 have n:(decide ((0:Int)<=(a:Int))&&decide ((a:Int)<(p.L.length:Int)))=true:=by rw[Bool.and_eq_true];exact⟨zT,zT⟩
 refine Z ?_;refine Zc d ?_ (s:=(Tf G c.ent (p.rc Col.ent) b).mono λw _ e=>e.trans (congrArg V.bool t1));refine Z ?_;refine Zc d ?_ (s:=(Tf G c.ent (p.rc Col.ent) a).mono λw _ e=>e.trans (congrArg V.bool n));refine Z ?_;refine Zc d ?_ (s:=Z9aa G d c.ent (p.rc Col.ent) (ok.rc _) b a g f i h j o2 k l2);rw[show(p.rc Col.ent).m=p.m from rfl]
 cases l:p.m.p.innerB g f with
 |false=>
  refine Z ?_;rw[PM.aheadB,l];rfl
 |true=>
 refine Z ?_;refine Zc d ?_ (s:=Bh G d c.ent (p.rc Col.ent) (ok.rc _).x b g i j.src k);refine Z ?_;refine Zc d ?_ (s:=Bh G d c.ent (p.rc Col.ent) (ok.rc _).x a f h o2.src l2);refine Z ?_;rw[PM.aheadB,l];rfl
theorem E9(G:Nat->V)(d:Y6 G)(c c1:Col)(p:PgM)(ok:PgOk p)(a l:Sl Int)(ha:a.l.length<1000000)(x:l.l.length<1000000)(n:Nat)(q:StP×List Int)(E:p.L[n]?=some q)(B:p.lv[n]?=some (p.m.p.leafR q))(A:(p.m.p.leafR q).length<600)(N:0<=q.1.first)(M:q.1.first<p.m.p.ways.length)(z:(p.m.p.leftL a.l l.l q).length<1000000)(I:q.1.sources.length<1000000):
  Spec Tryz.prog G 36 [Ph c p,Td c1 a l,.int .i64 n] Zj (λw _=>w=Za .new 1 (V.int .i64) (Zd (p.m.p.takeL a.l l.l q))):=by
 refine Zo 0 54 [.tmp 6] Tryz.func36 λX=>?_;have Q:(Zd p.L).l=p.L:=Zm _;have S:(Zd q.1.sources).l=q.1.sources:=Zm _;have F:n<p.L.length:=(List.getElem?_eq_some_iff.1 E).1
 have t1:(decide ((0:Int)<=(n:Int))&&decide ((n:Int)<(p.L.length:Int)))=true:=by rw[Bool.and_eq_true];exact⟨zT,zT⟩
 obtain⟨j,y,P,J,C,O⟩:=p.m.wyAt N M
 have D:(p.m.p.wy q.1.first).kind=y.kind:=by rw[O];rfl
 refine Zf Yi ?_;intro R;refine AW.weak (Zl (λo=>o==4) (l:=[(0,Ph c p),(2,.int .i64 n),(4,.view .new (Td c1 a l))]) (m:=[]) ?_ trivial) ?_;simp -implicitDefEqProofs only[go_sem,seval];exact⟨Zb,Zb,Fz.ptr (v:=Td c1 a l) (c:=.new) (fz:=0) zp (by rw[Yi];exact zp)⟩;refine Zf Yi ?_;refine Zc d ?_ (s:=Z0c G d c.ent c1.ent (p.rc Col.ent) (ok.rc _) a l ha x n (p.m.p.leafR q) F B A z);refine AW.weak (Weak.st (l:=[(0,Ph c p),(2,.int .i64 n),(4,.view .new (Td c1 a l)),(7,Za .new 1 (V.int .i64) (Zd (p.m.p.leftL a.l l.l q)))]) (m:=[]) (zq @Yi) zp) ?_;have b:=zi Q (zi E (zi F (zi P (zi J (zi C (zi Wn (zi Yi (zi Xc (zi Yg Yh)))))))))
 repeat refine Z6 ?_
 refine Zy ⟨λi=>if i=2 then .bool true else .bool (p.m.p.fitB a.l l.l),λ_=>.pure⟩ zk d zk zk ?_
 cases u:p.m.p.fitB a.l l.l with
 |false=>
  simp -implicitDefEqProofs only[go_sem,seval,b];refine⟨⟨zk,?_⟩,⟨zk,?_⟩,?_⟩;simp only[<- Wn,List.map_cons,List.map_nil,W4,Yj]
  exact(Tf G c.ent (p.rc Col.ent) n).mono λw _ e=>by rw[e];exact congrArg V.bool t1
  simp only[<- Yi,List.map_cons,List.map_nil,Oe,Va]
  exact(Ly G d _ _ _ _ _ _ _ _ p.m.p (ok.y.rc _) ok.k a l ha x).mono λw _ e=>by rw[e,u];rfl
  have e:p.m.p.takeL a.l l.l q=p.m.p.leftL a.l l.l q:=by rw[PM.takeL,u,if_neg (λh=>by cases h.1),List.append_nil]
  rw[e];exact Zr
 |true=>
  cases t:(y.kind==3)with
  |false=>
   have b:=zi t b;simp -implicitDefEqProofs only[go_sem,seval,b];refine⟨⟨zk,?_⟩,⟨zk,?_⟩,?_⟩;simp only[<- Wn,List.map_cons,List.map_nil,W4,Yj]
   exact(Tf G c.ent (p.rc Col.ent) n).mono λw _ e=>by rw[e];exact congrArg V.bool t1
   simp only[<- Yi,List.map_cons,List.map_nil,Oe,Va]
   exact(Ly G d _ _ _ _ _ _ _ _ p.m.p (ok.y.rc _) ok.k a l ha x).mono λw _ e=>by rw[e,u];rfl
   have e:p.m.p.takeL a.l l.l q=p.m.p.leftL a.l l.l q:=by rw[PM.takeL,if_neg (λh=>by rw[D]at h;rw[beq_eq_false_iff_ne]at t;exact t h.2),List.append_nil]
   rw[e];exact Zr
  |true=>
   have r:y.kind=3:=beq_iff_eq.1 t
   have H:p.m.p.leftL a.l l.l q=[]:=by rw[PM.leftL,PM.leafR,D,r];rfl
   have e:p.m.p.takeL a.l l.l q=q.1.sources:=by rw[PM.takeL,H,u,D,if_pos ⟨rfl,r⟩,List.nil_append]
   rw[e,H];have b:=zi t b;simp -implicitDefEqProofs only[go_sem,seval,b];refine⟨⟨zk,?_⟩,⟨zk,?_⟩,?_⟩;simp only[<- Wn,List.map_cons,List.map_nil,W4,Yj]
   exact(Tf G c.ent (p.rc Col.ent) n).mono λw _ e=>by rw[e];exact congrArg V.bool t1
   simp only[<- Yi,List.map_cons,List.map_nil,Oe,Va]
   exact(Ly G d _ _ _ _ _ _ _ _ p.m.p (ok.y.rc _) ok.k a l ha x).mono λw _ e=>by rw[e,u];rfl
   refine Zf b ?_;refine Ys (f:=V.int .i64) (l:=([]:List Int)) (l2:=q.1.sources) (g:=0) (λ_=>rfl) rfl rfl rfl zp (Z4 zo zO) λK=>?_;refine Zs ?_;refine AW.weak (Zl (λo=>o==52) (l:=[(7,Za .new 1 (V.int .i64) (Zd q.1.sources))]) (m:=[]) ?_ trivial) ?_;simp -implicitDefEqProofs only[go_sem,seval];exact Y5 (l:=q.1.sources) (g:=K) (f:=V.int .i64) rfl zp (λ_=>rfl);exact Zr
theorem Zes(G:Nat->V)(a:Y6 G)(b c:Col)(l:Sl Int)(d:l.l.length<1000000)(v:Int):
  Spec Tryz.prog G 38 [.int .i64 v,.view b (Za c 1 (V.int .i64) l)] Zj (λw _=>w=.bool (l.l.contains v)):=by
 refine Zo 0 7 [.tmp 3] Tryz.func38 λX=>?_;refine Z ?_;refine Zc a ?_ (s:=O0 G a _ v l d);exact Zr
structure TkOk2(p:PgM)(a l:List Int)(n:Nat)(q:StP×List Int):Prop where
 at_:p.L[n]?=some q
 lv:p.lv[n]?=some (p.m.p.leafR q)
 rs:(p.m.p.leafR q).length<600
 f0:0<=q.1.first
 f1:q.1.first<p.m.p.ways.length
 sm:(p.m.p.leftL a l q).length<500000
 so:q.1.sources.length<500000
theorem TkOk2.len{p:PgM}{a l:List Int}{n:Nat}{q:StP×List Int}(h:TkOk2 p a l n q):(p.m.p.takeL a l q).length<1000000:=by
 have c:=h.sm;have b:=h.so;rw[PM.takeL,List.length_append]
 split
 omega;rw[List.length_nil];omega
theorem Ga(G:Nat->V)(f:Y6 G)(c c1:Col)(p:PgM)(ok:PgOk p)(a l:Sl Int)(ha:a.l.length<1000000)(k:l.l.length<1000000)(i h:Nat)(e g:StP×List Int)(d:TkOk2 p a.l l.l i e)(o2:TkOk2 p a.l l.l h g):
  Spec Tryz.prog G 12 [Ph c p,Td c1 a l,.int .i64 i,.int .i64 h] Zj (λw _=>w=.bool (PM.meetL (p.m.p.takeL a.l l.l e) (p.m.p.takeL a.l l.l g))):=by
 refine Zo 0 20 [.tmp 8] Tryz.func12 λX=>?_;have k1:=d.len;have k2:=o2.len;refine Zf Yi ?_;intro u;refine AW.weak (Zl (λo=>o==5) (l:=[(0,Ph c p),(2,.int .i64 i),(3,.int .i64 h),(5,.view .new (Td c1 a l))]) (m:=[]) ?_ trivial) ?_;simp -implicitDefEqProofs only[go_sem,seval];exact⟨Zb,Zb,Zb,Fz.ptr (v:=Td c1 a l) (c:=.new) (fz:=0) zp (by rw[Yi];exact zp)⟩;refine Zf Yi ?_;refine Zc f ?_ (s:=E9 G f c.ent c1.ent (p.rc Col.ent) (ok.rc _) a l ha k i e d.at_ d.lv d.rs d.f0 d.f1 (by have:=d.sm;exact(by omega:(p.m.p.leftL a.l l.l e).length<1000000)) (by have:=d.so;omega));intro t;rw[show(p.rc Col.ent).m=p.m from rfl];refine AW.weak (Zl (λo=>o==9) (l:=[(0,Ph c p),(3,.int .i64 h),(5,.view .new (Td c1 a l)),(9,.view .new (Za .new 1 (V.int .i64) (Zd (p.m.p.takeL a.l l.l e))))]) (m:=[]) ?_ trivial) ?_;simp -implicitDefEqProofs only[go_sem,seval,Yi];exact⟨Zb,Zb,Zb,Fz.ptr (v:=Za .new 1 (V.int .i64) (Zd (p.m.p.takeL a.l l.l e))) (c:=.new) (fz:=0) zp zp⟩;refine Zf Yi ?_;refine Zc f ?_ (s:=E9 G f c.ent c1.ent (p.rc Col.ent) (ok.rc _) a l ha k h g o2.at_ o2.lv o2.rs o2.f0 o2.f1 (by have:=o2.sm;exact(by omega:(p.m.p.leftL a.l l.l g).length<1000000)) (by have:=o2.so;omega));rw[show(p.rc Col.ent).m=p.m from rfl];generalize p.m.p.takeL a.l l.l e=j at k1⊢;generalize p.m.p.takeL a.l l.l g=q at k2⊢
 refine Zc f ?_ (ha:=by simp only[List.map_cons,List.map_nil,Y1,V.recol,Yv]) (s:=Rk G f Col.new.ent 38 (λn=>∃ b c,n=[.view b (Za c 1 (V.int .i64) (Zd j))]) (by
  rintro _ ⟨b,c,rfl⟩
  exact⟨_,_,by simp only[List.map_cons,List.map_nil,V.recol,Y1];rfl⟩) [.view Col.new.ent (Za Col.new.ent 1 (V.int .i64) (Zd j))] ⟨_,_,rfl⟩ zk (λv=>j.contains v) (Zd q) (by rw[Zm];exact k2) (by
  rintro v r _ ⟨b,c,rfl⟩;have:=Zes G f b c (Zd j) (by rw[Zm];exact k1) v;rw[Zm]at this
  exact this))
 exact Zr
theorem Ci(G:Nat->V)(a n:Int)(ha:InK .i64 a)(d:0<n/\n<1000000):Spec Tryz.prog G 11 [.int .i64 a,.int .i64 n] Zj (λv _=>v=.int .i64 (a%n)):=by
 refine Zo 0 15 [.tmp 4] Tryz.func11 λX=>?_;have c:(n=0)=False:=eq_false zo;have f:=Int.emod_nonneg a (by omega:n≠0);have g:=Int.emod_lt_of_pos a d.1
 by_cases h:a.tmod n<0
 have q:decide (a.tmod n<0)=true:=zT
 have e:a.tmod n+n=a%n:=by
  rw[Int.tmod_eq_emod]at h⊢
  split at h
  omega;rename_i b;rw[if_neg b];have:(n.natAbs:Int)=n:=zo;omega
 have w:IntKind.i64.wrap (a.tmod n+n)=a.tmod n+n:=Wy zo zo;refine Zf (zi c (zi q w)) ?_;rw[e];have q:decide (a.tmod n<0)=false:=zF
 have e:a.tmod n=a%n:=by
  rw[Int.tmod_eq_emod]at h⊢
  split at h
  rename_i b;rw[if_pos b];omega;rename_i b;have:(n.natAbs:Int)=n:=zo;omega
 refine Zf (zi c q) ?_;rw[e]
theorem De:∀ (l acc:List Int) (r:Int),Qj acc (l++[r])=if 0<=r/\(Qj acc l).contains r=false then Qj acc l++[r]else Qj acc l
 |[],acc,r=>rfl
 |x::t,acc,r=>by
  rw[List.cons_append,Qj,Qj];exact De t _ r
theorem inIm(x:Int):∀ y∈(V.int .i64 x).cells,y.Im:=λy a=>by
 simp only[V.cells,List.mem_cons,List.not_mem_nil,or_false]at a;rw[a];exact .int _ _
theorem K7(G:Nat->V)(A:Y6 G)(b c d e M:Col)(m:MdM)(E vs:Sl (List UInt8))(J:m.p.Rt)(l:Sl Int)(hl:l.l≠[])(hll:l.l.length<1000000)(hr:∀ v∈l.l,0<=v/\v<m.p.vertices.length):
  Spec Tryz.prog G 191 [V6 b c d e m E vs,Za M 1 (V.int .i64) l] Zj (λw _=>w=.bool (m.p.partU l.l)):=by
 refine Zo 0 48 [.tmp 4] Tryz.func191 λX=>?_;have B:0<l.l.length:=List.length_pos_iff.2 hl;have C:=List.getElem?_eq_getElem B
 have T:l.l.headD 0=l.l[0]:=by rw[List.headD_eq_head?_getD,List.head?_eq_getElem?,C]<;>rfl
 obtain⟨P,O⟩:=hr l.l[0] (List.getElem_mem B);rw[PM.partU,T];generalize l.l[0]=v at C P O;refine Zf (zi C B) ?_;refine Zc A ?_ (s:=Uh G A _ _ _ _ m E vs J.toRt5 v P O);refine Z ?_;refine Vs (fun(w:Int)=>st [(0,V6 b c d e m E vs),(1,Za M 1 (V.int .i64) l),(5,.int .i64 (m.p.around w))] []) (λw=>0<=w/\w<m.p.vertices.length/\(m.p.ups v).any (λs=>Oy [] (l.l.map (m.p.regU · s)))=(m.p.ups w).any λs=>Oy [] (l.l.map (m.p.regU · s))) (λw=>(m.p.ups w).length) v ⟨P,O,rfl⟩ (Weak.st zp zp) ?_;rintro w ⟨w0,w1,o⟩ L7 U
 by_cases K:0<=m.p.around w
 rotate_left;have R:decide (m.p.around w>=0)=false:=zF;rw[o,PM.Acy.ups_nil zo];exact Zq R;have R:decide (m.p.around w>=0)=true:=zT
 have D:m.p.around w<m.p.vertices.length:=by
  rcases J.acy.rng w w0 w1 with q|q
  omega;exact q.2
 have F:=J.acy.ups_cons w0 w1 K;have y:=congrArg List.length F;rw[List.length_cons]at y;rw[F,List.any_cons]at o;refine Zf R ?_;generalize hae:m.p.around w=a at K D o y
 refine Yc l.l.length (λk (g:Nat)=>st [(0,V6 b c d e m E vs),(1,Za M 1 (V.int .i64) l),(5,.int .i64 a),(6,grown 41 g 1 (Qj [] ((l.l.take k).map (m.p.regU · a)))),(20,Za M 1 (V.int .i64) l),(21,.int .i64 l.l.length),(22,.int .i64 k)] [(41,Yb g (V.int .i64) (Qj [] ((l.l.take k).map (m.p.regU · a))))])
  (λ_ _=>True) 0 0 (Nat.zero_le _) trivial (Weak.st zp zp) ?_
 intro k g hk _ L3 i
 by_cases n:k<l.l.length
 .have u:decide ((k:Int)<(l.l.length:Int))=true:=zT
  have hg:=List.getElem?_eq_getElem n
  have H:l.l.take (k+1)=l.l.take k++[l.l[k]]:=by rw[List.take_succ_eq_append_getElem n]
  obtain⟨Y,W⟩:=hr l.l[k] (List.getElem_mem n);have t:=Df ((l.l.take k).map (m.p.regU · a)) [];rw[List.length_map,List.length_take]at t;generalize l.l[k]=x at hg H Y W;have N:IntKind.i64.wrap ((k:Int)+1)=(k:Int)+1:=Wy zo zo;rw[H,List.map_append]at i;simp only[List.map_cons,List.map_nil,De]at i;generalize Qj [] ((l.l.take k).map (m.p.regU · a))=j at t i
  have t:j.length<=k:=by simp only[List.length_nil]at t;omega
  refine Zf (zi u hg) ?_;refine Zc A ?_ (s:=It G A _ _ _ _ m E vs J x a Y W K);generalize m.p.regU x a=r at i
  by_cases I:0<=r
  rotate_left;have Q:decide (r>=0)=false:=zF;rw[if_neg (λh=>I h.1)]at i;refine Zg (zi Q N) ?_;exact i _ ⟨n,g,trivial,Weak.st zp zp⟩;have Q:decide (r>=0)=true:=zT;refine Zg Q ?_;refine CallA.bor A [Za .old 1 (V.int .i64) (Zd j),.int .i64 r] zk ⟨I0 zp (λ_=>rfl) inIm (λ_=>rfl),Xf (.int _ _) rfl,trivial⟩ ?_;refine(O0 G A .old r (Zd j) (by rw[Zm];omega)).mono ?_;rintro _ _ rfl;rw[Zm];refine⟨.bool _,?_⟩;cases hc:j.contains r;rw[if_pos ⟨I,hc⟩]at i;refine Zs ?_;refine Z ?_;intro g40;refine Ys (f:=V.int .i64) (l:=j) (l2:=[r]) (g:=g) (λ_=>rfl) rfl rfl rfl zp (Z4 zo zO) λg2=>?_;refine Zs ?_;refine Zf N ?_;exact i _ ⟨n,g2,trivial,Weak.st zp zp⟩;rw[if_neg (λh=>by rw[hc]at h;cases h.2)]at i;refine Zs ?_;refine Zf N ?_;exact i _ ⟨n,g,trivial,Weak.st zp zp⟩
 have S:k=l.l.length:=zo;subst S;rw[List.take_length];have u:decide ((l.l.length:Int)<(l.l.length:Int))=false:=zS;have z:=Zma (l.l.map (m.p.regU · a)) [];rw[List.length_nil,Nat.zero_add,List.length_map]at z;rw[<- z]at o;generalize Qj [] (l.l.map (m.p.regU · a))=j at o
 have L:(((j.length:Nat):Int)==((l.l.length:Nat):Int))=decide (j.length=l.l.length):=by
  rw[Bool.eq_iff_iff,beq_iff_eq,decide_eq_true_eq];omega
 cases h:decide (j.length=l.l.length);rw[h]at L o;rw[Bool.false_or]at o;refine Zf (zi u L) ?_;refine Zc A ?_ (s:=Uh G A _ _ _ _ m E vs J.toRt5 a K D);refine Z ?_;exact U _ ⟨a,zo,⟨K,D,o⟩,Weak.st zp zp⟩;rw[h]at L o;rw[o,Bool.true_or];exact Zq (zi u L)
def Z29(s:ASt):AM:=⟨s.kind,s.name,Zd s.x⟩
theorem toAM_v(s:ASt):(Z29 s).v=s:=by
 show ASt.mk s.kind s.name (Zd s.x).l=s
 rw[Zm]
def amS(l:List ASt):Sl AM:=Zd (l.map Z29)
theorem Z78(l:List ASt):(amS l).l=l.map Z29:=Zm _
theorem amS_v(l:List ASt):(amS l).l.map AM.v=l:=by
 rw[Z78,List.map_map];exact(List.map_congr_left λs _=>toAM_v s).trans (List.map_id _)
theorem Zy1(c:Col)(l:List ASt):Za c 3 (R3 c) (Zd l)=Za c 3 (Ss c) (amS l):=by
 cases l with
 |nil=>rfl
 |cons s r=>
  show V.slice c false 3 ((s::r).map (R3 c))=V.slice c false 3 (((s::r).map Z29).map (Ss c))
  rw[List.map_map]<;>rfl
structure SB(s:ASt):Prop where
 n:s.name.length<100000
 l:s.x.length<100000
 x:∀ n∈s.x,n.name.length<100000
structure BOk(b:List ASt):Prop where
 s:∀ s∈b,SB s
 k:b.length<=512
theorem BOk.amb{l:List ASt}(h:BOk l):∀ a∈(amS l).l,AmB a:=by
 intro a b;rw[Z78]at b;obtain⟨s,c,rfl⟩:=List.mem_map.1 b;have:=h.s s c;exact⟨this.n,by show(Zd s.x).l.length<_;rw[Zm];have:=this.l;omega,by show ∀ n∈(Zd s.x).l,_;rw[Zm];exact this.x⟩
theorem Z07{l:List Tk}(c:TkOk l):(X5 l).1.length<100000/\∀ n∈(X5 l).1,n.name.length<100000:=by
 have a:=((Se l (l.length+1) 1 ⟨0,[],0⟩).ok ⟨Nat.zero_le _,Nat.le_refl _⟩);unfold X5
 split
 exact⟨Nat.zero_lt_succ _,λn b=>by cases b⟩
 split
 exact⟨Nat.zero_lt_succ _,λn b=>by cases b⟩;have:=a.1;have:=a.2;have:=c.len;exact⟨by show(We _ _ _ _).2.nodes.length<_;omega,Ld c⟩
theorem Zz9{l:List Tk}(a:TkOk l)(i:Nat):(Wi l i).length<100000:=by
 unfold Wi
 split
 rename_i t h;exact a.text t (List.mem_of_getElem? h);exact Nat.zero_lt_succ _
theorem Zdc{k:Int}{nm:List UInt8}(h:nm.length<100000):SB ⟨k,nm,[]⟩:=⟨h,Nat.zero_lt_succ _,λn a=>by cases a⟩
theorem Zd5{l:List Tk}(b:TkOk l)(k:Int)(w:List UInt8)(d:List (List UInt8))(i:Nat):SB (Sk l k w d i).1:=by
 have a:=Zz9 b i;have c:=Z07 (l:=l.drop (i+2)) ⟨Nat.lt_of_le_of_lt (by rw[List.length_drop];omega) b.len,λt h=>b.text t (List.mem_of_mem_drop h)⟩;unfold Sk Fc Jo
 split
 exact Zdc (Nat.zero_lt_succ _)
 split
 exact Zdc a
 split
 exact Zdc a
 split
 exact Zdc a;exact⟨a,c.1,c.2⟩
theorem Zxk{l:List Tk}(b:TkOk l){n:Nat}:∀ (f i:Nat) (acc:List ASt),BOk acc->BOk (Kn l n f i acc).1
 |0,i,acc,h=>h
 |f+1,i,acc,h=>by
  rw[Kn]
  split
  exact h
  split
  exact⟨λs a=>(by cases a),Nat.zero_le _⟩;rename_i c
  split
  exact⟨λs a=>(by cases a),Nat.zero_le _⟩;refine Zxk b f _ _ ⟨λs a=>?_,by rw[List.length_append,List.length_singleton];have:=h.k;omega⟩
  rcases List.mem_append.1 a with a|a
  exact h.s s a;rw[List.mem_singleton.1 a];unfold Ul
  split<;>exact Zd5 b _ _ _ _
theorem Ze2{s:List UInt8}(a:s.length<=900):BOk (Tu s).1:=by
 unfold Tu
 split
 exact⟨λs a=>(by cases a),Nat.zero_le _⟩;exact Zxk (El zo) _ _ _ ⟨λs a=>(by cases a),Nat.zero_le _⟩
theorem E4(G:Nat->V)(e:GExp G)(s:List UInt8)(f:s.length<100000):Spec Tryz.prog G 193 [.str s] Zj (λv _=>v=.bool (R4 s)):=by
 have g:=e.ok;refine Zo 0 26 [.tmp 2] Tryz.func193 λX=>?_;rw[R4];refine Z ?_;refine Zn g ?_ (s:=Th G e s f);generalize Y4 s=p;obtain⟨l,a,q⟩:=p;simp only[encTok,encTks];refine Zs ?_;cases c:(q==0);exact Zh c
 have d:(((l.length:Nat):Int)==1)=(l.length==1):=by
  rw[Bool.eq_iff_iff,beq_iff_eq,beq_iff_eq];omega
 cases b:(l.length==1);rw[b]at d;exact Zh (zi c (zi d (@Zm Tk l)));rw[b]at d;have h:l.length=1:=zu b;obtain⟨t,rfl⟩:∃ t,l=[t]:=List.length_eq_one_iff.1 h;exact Zh (zi c Vr)
def Xw(vs ev:List (List UInt8))(s:List UInt8):Bool:=(Tu s).2.2==0&&(E6 (Tu s).1 vs ev).2==0
theorem K8(G:Nat->V)(n:GExp G)(b c d e:Col)(m:MdM)(u vs:Sl (List UInt8))(s:List UInt8)(A:s.length<=900)(z:vs.l.length<100000)(j:m.events.l.length<1000000):
  Spec Tryz.prog G 196 [V6 b c d e m u vs,.str s] Zj (λw _=>w=.bool (Xw vs.l m.events.l s)):=by
 have y:=n.ok;refine Zo 0 32 [.tmp 4] Tryz.func196 λX=>?_;have f:=Ze2 A;have g:=λc D C B=>Z2k G n c D C B (amS (Tu s).1) vs m.events (by rw[Z78,List.length_map];have:=f.k;omega) f.amb z j;rw[amS_v]at g;have x:=Fo G n s zo;rw[Xw];generalize Tu s=p at g x f;obtain⟨l,a,q⟩:=p;simp only at g f;generalize E6 l vs.l m.events.l=t at g;refine Z ?_;refine Zn y ?_ (s:=x);simp only[Ze8,Gi,Zy1];refine Zs ?_;intro E;refine AW.weak (Zl (λo=>o==5) (l:=[(0,V6 b c d e m u vs),(5,.view .new (.agg [Za .new 3 (Ss .new) (amS l)])),(7,.int .i64 q)]) (m:=[]) ?_ trivial) ?_;refine Zs ?_;exact⟨Zb,Fz.ptr (v:=.agg [Za .new 3 (Ss .new) (amS l)]) (c:=.new) (fz:=0) rfl zp,Zb⟩;cases r:(q==0);have h:(q != 0)=true:=zu r;exact Zq h;have h:(q != 0)=false:=zu r;refine Xm h ?_;refine Z0f h ?_;refine Z6 ?_;refine Zy ⟨λi=>if i=10 then .tuple [.int .i64 t.1,.int .i64 t.2]else .top,λ_=>.pure⟩ zk y zk zk ?_;refine Xr @Xv ?_;refine⟨⟨zk,by refine Zs ?_;exact(g _ _ _ _).mono (by rintro _ _ rfl;rfl)⟩,?_⟩;refine Z ?_;rw[Bool.true_and]
theorem u8Im(x:Int):∀ y∈(V.int .u8 x).cells,y.Im:=λy a=>by
 simp only[V.cells,List.mem_cons,List.not_mem_nil,or_false]at a;rw[a];exact .int _ _
theorem Rd.u8{H:Heap}{o g n:Nat}{l:List Int}(h:H o=.cells .new g 0 (flat (l.map (V.int .u8))))(a:l.length=n):Rd H (.msl o g 0 n 1) (Za .old 1 (V.int .u8) (.mk false l)):=by
 subst a;have:=Rd.msl (l:=l) (off:=0) (n:=l.length) (m:=1) (f:=V.int .u8) (f':=V.int .u8) (g:=g) (fz:=0) (c:=.new) h (λ_=>rfl) u8Im (λ_=>rfl) zo;rw[List.drop_zero,List.take_length,Nat.zero_mul]at this;exact this
theorem Rg(k x:Int):(Sl.mk false [k]).l.contains x=(x==k):=by
 show[k].contains x=_
 rw[List.contains_cons,List.contains_nil,Bool.or_false]
theorem Z2b(k j x:Int):(Sl.mk false [k,j]).l.contains x=(x==k||x==j):=by
 show[k,j].contains x=_
 rw[List.contains_cons,List.contains_cons,List.contains_nil,Bool.or_false]
theorem eqN(n k:Nat):(((n:Nat):Int)==((k:Nat):Int))=(n==k):=by rw[Bool.eq_iff_iff,beq_iff_eq,beq_iff_eq];omega
theorem Znaa(G:Nat->V)(f:Y6 G)(b c d e:Col)(m:MdM)(a vs:Sl (List UInt8))(g:m.ways.l.length<1000000)(v:Int)(i:0<=v)(h:v<m.p.vertices.length):
  Spec Tryz.prog G 124 [V6 b c d e m a vs,.int .i64 v] Zj (λw _=>w=.bool (m.p.k3 v)):=by
 refine Zo 0 17 [.tmp 4] Tryz.func124 λX=>?_;rw[PM.k3];refine Z ?_;intro j;refine Zs ?_;refine CallA.bor f [V6 b.ent c.ent d.ent e.ent m a vs,.int .i64 v,Za .old 1 (V.int .u8) (.mk false [2,12])] zk ⟨Xf (N1 _ _ _ _ _ _ _) zp,Xf (.int _ _) rfl,Rd.u8 (l:=[2,12]) zp rfl,trivial⟩ ?_;refine(Wv G f _ _ _ _ .old m a vs v i h (.mk false [2,12]) zd).mono ?_;rintro _ _ rfl;refine⟨.bool _,?_⟩;rw[Z2b];cases q:(m.p.kd v==2||m.p.kd v==12);refine Zs ?_;exact Zr;refine Zs ?_;refine Zc f ?_ (s:=Rm G f _ _ _ _ m a vs g v);refine Z ?_
 rw[Bool.false_or,<- eqN]<;>rfl
theorem PM.Rt.wayAt{m:PM}(h:m.Rt):∀ t∈m.ways,(0<=t.source/\t.source<m.vertices.length)/\(0<=t.target/\t.target<m.vertices.length):=by
 intro t b;obtain⟨i,a,rfl⟩:=List.mem_iff_getElem.1 b;have:=h.way i a
 have e:m.wy (i:Int)=m.ways[i]:=by
  show m.ways.getD ((i:Int)).toNat wy0=_
  rw[List.getD_eq_getElem?_getD,Int.toNat_natCast,List.getElem?_eq_getElem a]<;>rfl
 rw[e]at this;simp only[PM.wayB,PM.inV,Bool.and_eq_true,decide_eq_true_eq]at this;exact⟨this.1.1.1.1.1.1.1.1.1.2,this.1.1.1.1.1.1.1.1.2⟩
theorem PM.Rt.outR{m:PM}(h:m.Rt)(v:Int):∀ u∈m.out v,0<=u/\u<m.vertices.length:=by
 intro u a;obtain⟨t,b,rfl⟩:=List.mem_map.1 a;exact(h.wayAt t (List.mem_filter.1 b).1).2
theorem PM.Rt.incR{m:PM}(h:m.Rt)(v:Int):∀ u∈m.inc v,0<=u/\u<m.vertices.length:=by
 intro u a;obtain⟨t,b,rfl⟩:=List.mem_map.1 a;exact(h.wayAt t (List.mem_filter.1 b).1).1
theorem Ep(m:MdM)(v:Int):(m.p.out v).length<=m.ways.l.length:=by
 rw[Ztx,List.length_map];exact List.length_filter_le _ _
theorem Z8aa(m:MdM)(v:Int):(m.p.inc v).length<=m.ways.l.length:=by
 rw[Z7x,List.length_map];exact List.length_filter_le _ _
theorem gtN(n k:Nat):decide (((n:Nat):Int)>((k:Nat):Int))=decide (k<n):=decide_eq_decide.2 zo
theorem Zlj{l:List Int}{k:Nat}(h:decide (k<l.length)=true):l≠[]:=by
 rintro rfl;simp at h
theorem Zmaa(G:Nat->V)(a:Y6 G)(b c d e:Col)(m:MdM)(f vs:Sl (List UInt8))(r:m.p.Rt)(k:m.ways.l.length<1000000)(v:Int)(x:0<=v)(u:v<m.p.vertices.length):
  Spec Tryz.prog G 125 [V6 b c d e m f vs,.int .i64 v] Zj (λw _=>w=.bool (m.p.k4 v)):=by
 refine Zo 0 31 [.tmp 4] Tryz.func125 λX=>?_;rw[PM.k4];have o:=r.outR v;have t:=Ep m v;refine Z ?_;refine Zc a ?_ (s:=Rm G a _ _ _ _ m f vs k v);generalize m.p.out v=out at o t;refine Z ?_;intro y;refine Zs ?_;refine CallA.bor a [V6 b.ent c.ent d.ent e.ent m f vs,.int .i64 v,Za .old 1 (V.int .u8) (.mk false [6])] zk ⟨Xf (N1 _ _ _ _ _ _ _) zp,Xf (.int _ _) rfl,Rd.u8 (l:=[6]) zp rfl,trivial⟩ ?_;refine(Wv G a _ _ _ _ .old m f vs v x u (.mk false [6]) zd).mono ?_;rintro _ _ rfl;refine⟨.bool _,?_⟩;rw[Rg];cases q:(m.p.kd v==6);refine Zs ?_;exact Zr;refine Zs ?_;refine Zc a ?_ (s:=L9 G a _ _ _ _ m f vs k v);have g:(((m.p.inc v).length:Int)==1)=((m.p.inc v).length==1):=eqN _ 1;cases j:((m.p.inc v).length==1);rw[j]at g;exact Zh (zi g (@Zm Int (m.p.inc v)));rw[j]at g;have h:decide ((out.length:Int)>1)=decide (1<out.length):=gtN _ 1;cases i:decide (1<out.length);rw[i]at h;exact Zh (zi g (zi h (zi (@Zm Int (m.p.inc v)) (@Zm Int out))));rw[i]at h;refine Zg (zi g (zi h (zi (@Zm Int (m.p.inc v)) (@Zm Int out)))) ?_;have n:=K7 G a b.ent c.ent d.ent e.ent .old m f vs r (Zd out) (by rw[Zm];exact Zlj i) (by rw[Zm];omega) (by rw[Zm];exact o);rw[Zm]at n;refine Zc a ?_ (s:=n);refine Z ?_;rfl
theorem Rd.i64{H:Heap}{o g n:Nat}{l:List Int}(h:H o=.cells .new g 0 (flat (l.map (V.int .i64))))(a:l.length=n):Rd H (.msl o g 0 n 1) (Za .old 1 (V.int .i64) (.mk false l)):=by
 subst a;have:=Rd.msl (l:=l) (off:=0) (n:=l.length) (m:=1) (f:=V.int .i64) (f':=V.int .i64) (g:=g) (fz:=0) (c:=.new) h (λ_=>rfl) inIm (λ_=>rfl) zo;rw[List.drop_zero,List.take_length,Nat.zero_mul]at this;exact this
theorem Z95(G:Nat->V)(j:GExp G)(b c d e:Col)(m:MdM)(h vs:Sl (List UInt8))(f:vs.l=m.p.vn)(n:vs.l.length<100000)(g:m.events.l.length<1000000)(t:Int)(v:0<=t)(u:t<m.p.ways.length)(i:(m.p.wy t).effect.length<=900):
  Spec Tryz.prog G 133 [V6 b c d e m h vs,.int .i64 t] Zj (λw _=>w=.bool (m.p.k12 Xw t)):=by
 have r:=j.ok;refine Zo 0 16 [.tmp 4] Tryz.func133 λX=>?_;obtain⟨k,x,rfl,o,q,a⟩:=MdM.wyAt v u;rw[PM.k12,PM.body,a,<- f];rw[a]at i;refine Zf (zi q (zi o (zi Yg (zi Xv Yh)))) ?_;refine Zc r ?_ (s:=K8 G j b.ent c.ent d.ent e.ent m h vs x.effect i n g);exact Zr
theorem Z85(G:Nat->V)(o:GExp G)(b c d e:Col)(m:MdM)(a vs:Sl (List UInt8))(j:vs.l=m.p.vn)(t:vs.l.length<100000)(f:m.events.l.length<1000000)(v:Int)(A:0<=v)(z:v<m.p.vertices.length)(i:(m.p.vx v).entry.length<=900/\(m.p.vx v).exit.length<=900):
  Spec Tryz.prog G 134 [V6 b c d e m a vs,.int .i64 v] Zj (λw _=>w=.bool (m.p.k13 Xw v)):=by
 have g:=o.ok;refine Zo 0 36 [.tmp 4] Tryz.func134 λX=>?_;rw[PM.k13,PM.body,PM.body,<- j];refine Z ?_;intro C;refine Zs ?_;refine CallA.bor g [V6 b.ent c.ent d.ent e.ent m a vs,.int .i64 v,Za .old 1 (V.int .u8) (.mk false [1])] zk ⟨Xf (N1 _ _ _ _ _ _ _) zp,Xf (.int _ _) rfl,Rd.u8 (l:=[1]) zp rfl,trivial⟩ ?_;refine(Wv G g _ _ _ _ .old m a vs v A z (.mk false [1]) zd).mono ?_;rintro _ _ rfl;refine⟨.bool _,?_⟩;rw[Rg];obtain⟨k,x,rfl,u,y,h⟩:=MdM.at A z;rw[h]at i⊢;cases q:(m.p.kd k==1);refine Zs ?_;exact Zr;refine Zg (zi y (zi u (zi Zz (zi Xv Yh)))) ?_;refine Zc g ?_ (s:=K8 G o b.ent c.ent d.ent e.ent m a vs x.entry i.1 t f);have B:Xw vs.l m.p.events x.p.entry=Xw vs.l m.events.l x.entry:=rfl;have n:Xw vs.l m.p.events x.p.exit=Xw vs.l m.events.l x.exit:=rfl;rw[B,n];cases r:Xw vs.l m.events.l x.entry;exact Zh r;refine Zg (zi r (zi y (zi u (zi Zz (zi Xv Yh))))) ?_;refine Zc g ?_ (s:=K8 G o b.ent c.ent d.ent e.ent m a vs x.exit i.2 t f);exact Zr
theorem Z75(G:Nat->V)(o:Y6 G)(b c d e:Col)(m:MdM)(a vs:Sl (List UInt8))(j:m.p.Rt)(t:Int)(u:0<=t)(s:t<m.p.ways.length):
  Spec Tryz.prog G 135 [V6 b c d e m a vs,.int .i64 t] Zj (λw _=>w=.bool (m.p.k14 t)):=by
 refine Zo 0 22 [.tmp 4] Tryz.func135 λX=>?_;obtain⟨k,x,rfl,r,n,g⟩:=MdM.wyAt u s;obtain⟨⟨s0,q⟩,t0,t1⟩:=j.wayAt x.p (List.mem_of_getElem? (i:=k) (by show(m.ways.l.map TrM.p)[k]?=_;rw[List.getElem?_map,n]<;>rfl));rw[PM.k14,g];refine Zf (zi n (zi r (zi Yg (zi Xv Yh)))) ?_;intro z;refine Zf Yg ?_;intro y;refine Zs ?_;refine CallA.bor o [V6 b.ent c.ent d.ent e.ent m a vs,Za .old 1 (V.int .i64) (.mk false [x.source,x.target])] zk ⟨Xf (N1 b c d e m a vs) (Of _ _ _ _ _ _ _ _),Rd.i64 (l:=[x.source,x.target]) zp rfl,trivial⟩ ?_;refine(K7 G o _ _ _ _ .old m a vs j (.mk false [x.source,x.target]) (by intro h;cases h) (by show 2<1000000;decide) (λv f=>?_)).mono ?_;have f:v∈[x.source,x.target]:=f;simp only[List.mem_cons,List.not_mem_nil,or_false]at f
 rcases f with rfl|rfl
 exact⟨s0,q⟩;exact⟨t0,t1⟩;rintro _ _ rfl;refine⟨.bool _,?_⟩;refine Zs ?_;exact Zr
theorem Zhaa(G:Nat->V)(g:Y6 G)(b c d e:Col)(m:MdM)(a vs:Sl (List UInt8))(u:m.p.Rt)(t:Int)(z:0<=t)(y:t<m.p.ways.length):
  Spec Tryz.prog G 130 [V6 b c d e m a vs,.int .i64 t] Zj (λw _=>w=.bool (m.p.k9 t)):=by
 refine Zo 0 30 [.tmp 4] Tryz.func130 λX=>?_;obtain⟨k,x,rfl,v,r,h⟩:=MdM.wyAt z y;obtain⟨⟨s0,n⟩,t0,t1⟩:=u.wayAt x.p (List.mem_of_getElem? (i:=k) (by show(m.ways.l.map TrM.p)[k]?=_;rw[List.getElem?_map,r]<;>rfl));rw[PM.k9,h];have s:(x.p.triggers.length==0&&x.p.after==0||m.p.kd x.p.source==1)=((x.triggers.l.length==0&&x.after==0)||m.p.kd x.source==1):=rfl;rw[s];refine Zf (zi r (zi v (zi Yg (zi Xv Yh)))) ?_;intro A;have f:((x.triggers.l.length:Int)==0)=(x.triggers.l.length==0):=eqN _ 0;cases q:(x.triggers.l.length==0);rw[q]at f;refine Zf (zi f Yg) ?_;intro j;refine Zs ?_;refine CallA.bor g [V6 b.ent c.ent d.ent e.ent m a vs,.int .i64 x.source,Za .old 1 (V.int .u8) (.mk false [1])] zk ⟨Xf (N1 _ _ _ _ _ _ _) zp,Xf (.int _ _) rfl,Rd.u8 (l:=[1]) zp rfl,trivial⟩ ?_;refine(Wv G g _ _ _ _ .old m a vs x.source s0 n (.mk false [1]) zd).mono ?_;rintro _ _ rfl;refine⟨.bool _,?_⟩;rw[Rg];refine Zs ?_;exact Zr;rw[q]at f;cases o:(x.after==0);refine Zf (zi f (zi o Yg)) ?_;intro j;refine Zs ?_;refine CallA.bor g [V6 b.ent c.ent d.ent e.ent m a vs,.int .i64 x.source,Za .old 1 (V.int .u8) (.mk false [1])] zk ⟨Xf (N1 _ _ _ _ _ _ _) zp,Xf (.int _ _) rfl,Rd.u8 (l:=[1]) zp rfl,trivial⟩ ?_;refine(Wv G g _ _ _ _ .old m a vs x.source s0 n (.mk false [1]) zd).mono ?_;rintro _ _ rfl;refine⟨.bool _,?_⟩;rw[Rg];refine Zs ?_;exact Zr;exact Zq (zi f (zi o Yg))
theorem Zpaa(G:Nat->V)(v:Y6 G)(b c d e:Col)(m:MdM)(j vs:Sl (List UInt8))(E:m.verts.l.length<1000000)(r:Int):
  Spec Tryz.prog G 122 [V6 b c d e m j vs,.int .i64 r] Zj (λw _=>w=.bool (m.p.k1 r)):=by
 refine Zo 0 34 [.tmp 4] Tryz.func122 λX=>?_
 have A:m.p.k1 r=((m.verts.l.filter λx=>x.kind==3&&x.region==r).length==1):=by
  show(((m.verts.l.map VtM.p).filter _).length==1)=_
  rw[List.filter_map,List.length_map]<;>rfl
 rw[A];simp only[Xv];refine Z ?_
 refine Yc m.verts.l.length (λk (_:Unit)=>st [(0,V6 b c d e m j vs),(1,.int .i64 r),(5,.int .i64 ((m.verts.l.take k).filter λx=>x.kind==3&&x.region==r).length),(12,Za c 8 (Yf d) m.verts),(13,.int .i64 m.verts.l.length),(14,.int .i64 k)] [])
  (λ_ _=>True) 0 () (Nat.zero_le _) trivial (Weak.st (T9 @Xv) zp) ?_
 intro k _ F _ I a
 by_cases f:k<m.verts.l.length
 have g:decide ((k:Int)<(m.verts.l.length:Int))=true:=zT;have t:=List.getElem?_eq_getElem f
 have h:m.verts.l.take (k+1)=m.verts.l.take k++[m.verts.l[k]]:=by rw[List.take_succ_eq_append_getElem f]
 have z:((m.verts.l.take k).filter λx=>x.kind==3&&x.region==r).length<=k:=Nat.le_trans (List.length_filter_le _ _) (by rw[List.length_take];omega);generalize m.verts.l[k]=x at t h;rw[h,List.filter_append,List.length_append]at a;generalize((m.verts.l.take k).filter λx=>x.kind==3&&x.region==r).length=n at z a;have o:IntKind.i64.wrap ((k:Int)+1)=(k:Int)+1:=Wy zo zo;have y:IntKind.i64.wrap ((n:Int)+1)=(n:Int)+1:=Wy zo zo;have C:(0:Int)<=(k:Int):=Int.natCast_nonneg k
 have B:(k:Int)<m.p.vertices.length:=by rw[m.nv];omega
 have s:m.p.kd (k:Int)=x.kind:=by rw[PM.kd,Qx t]<;>rfl
 refine Zf (zi g (zi t Zz)) ?_;intro H;refine Z ?_;intro D;refine Zs ?_;refine CallA.bor v [V6 b.ent c.ent d.ent e.ent m j vs,.int .i64 k,Za .old 1 (V.int .u8) (.mk false [3])] zk ⟨Xf (N1 _ _ _ _ _ _ _) zp,Xf (.int _ _) rfl,Rd.u8 (l:=[3]) zp rfl,trivial⟩ ?_;refine(Wv G v _ _ _ _ .old m j vs k C B (.mk false [3]) zd).mono ?_;rintro _ _ rfl;refine⟨.bool _,?_⟩;rw[Rg,s];cases u:(x.kind==3);rw[List.filter_cons_of_neg (by simp[u])]at a;simp only[List.filter_nil,List.length_nil,Nat.add_zero]at a;refine Zs ?_;refine Zf o ?_;exact a _ ⟨f,(),trivial,Weak.st zp zp⟩;cases i:(x.region==r);rw[List.filter_cons_of_neg (by simp[i])]at a;simp only[List.filter_nil,List.length_nil,Nat.add_zero]at a;refine Zg (zi i (zi o Zz)) ?_;exact a _ ⟨f,(),trivial,Weak.st zp zp⟩;rw[List.filter_cons_of_pos (by simp[u,i])]at a;simp only[List.filter_nil,List.length_cons,List.length_nil,Nat.zero_add]at a;refine Zg (zi i (zi o (zi y Zz))) ?_;exact a _ ⟨f,(),trivial,Weak.st (by refine Zs ?_;exact⟨rfl,rfl⟩) zp⟩;have q:k=m.verts.l.length:=zo;subst q;rw[List.take_length];have g:decide ((m.verts.l.length:Int)<(m.verts.l.length:Int))=false:=zS;refine Zf g ?_
 rw[<- eqN]<;>rfl
theorem Za6(G:Nat->V)(j:Y6 G)(b c d e:Col)(m:MdM)(h vs:Sl (List UInt8))(u:m.p.Rt)(t:Int)(B:0<=t)(A:t<m.p.ways.length):
  Spec Tryz.prog G 132 [V6 b c d e m h vs,.int .i64 t] Zj (λw _=>w=.bool (m.p.k11 t)):=by
 refine Zo 0 45 [.tmp 4] Tryz.func132 λX=>?_;obtain⟨k,x,rfl,z,v,n⟩:=MdM.wyAt B A;obtain⟨⟨s0,o⟩,t0,t1⟩:=u.wayAt x.p (List.mem_of_getElem? (i:=k) (by show(m.ways.l.map TrM.p)[k]?=_;rw[List.getElem?_map,v]<;>rfl));rw[PM.k11,n]
 have y:(if x.p.kind=3 then x.p.source==x.p.target&&m.p.kd x.p.source==1 else if x.p.kind=2 then m.p.kd x.p.source==1&&m.p.inB x.p.target x.p.source else true) =
  (if x.kind=3 then x.source==x.target&&m.p.kd x.source==1 else if x.kind=2 then m.p.kd x.source==1&&m.p.inB x.target x.source else true):=rfl
 rw[y];refine Zf (zi v (zi z (zi Yg (zi Xv Yh)))) ?_;intro E
 by_cases a:x.kind=3
 rw[if_pos a];have q:(x.kind==3)=true:=zu a;cases g:(x.source==x.target);exact Zq (zi q (zi g Yg));refine Zf (zi q (zi g Yg)) ?_;intro D;refine Zs ?_;refine CallA.bor j [V6 b.ent c.ent d.ent e.ent m h vs,.int .i64 x.source,Za .old 1 (V.int .u8) (.mk false [1])] zk ⟨Xf (N1 _ _ _ _ _ _ _) zp,Xf (.int _ _) rfl,Rd.u8 (l:=[1]) zp rfl,trivial⟩ ?_;refine(Wv G j _ _ _ _ .old m h vs x.source s0 o (.mk false [1]) zd).mono ?_;rintro _ _ rfl;refine⟨.bool _,?_⟩;rw[Rg];refine Zs ?_;exact Zr;rw[if_neg a];have q:(x.kind==3)=false:=zu a
 by_cases f:x.kind=2
 rw[if_pos f];have g:(x.kind==2)=true:=zu f;refine Zf (zi q (zi g Yg)) ?_;intro C;refine Zs ?_;refine CallA.bor j [V6 b.ent c.ent d.ent e.ent m h vs,.int .i64 x.source,Za .old 1 (V.int .u8) (.mk false [1])] zk ⟨Xf (N1 _ _ _ _ _ _ _) zp,Xf (.int _ _) rfl,Rd.u8 (l:=[1]) zp rfl,trivial⟩ ?_;refine(Wv G j _ _ _ _ .old m h vs x.source s0 o (.mk false [1]) zd).mono ?_;rintro _ _ rfl;refine⟨.bool _,?_⟩;rw[Rg];cases r:(m.p.kd x.source==1);exact Zh r;refine Zg (zi r Yg) ?_;refine Zc j ?_ (s:=Iv G j b.ent c.ent d.ent e.ent m h vs u x.target x.source t0 t1);exact Zr;rw[if_neg f];have g:(x.kind==2)=false:=zu f;exact Zq (zi q g)
theorem Z65(G:Nat->V)(o:Y6 G)(b c d e:Col)(m:MdM)(B vs:Sl (List UInt8))(D:m.p.Rt)(t:Int)(O:0<=t)(N:t<m.p.ways.length):
  Spec Tryz.prog G 136 [V6 b c d e m B vs,.int .i64 t] Zj (λw _=>w=.bool (m.p.k15 t)):=by
 refine Zo 0 65 [.tmp 4] Tryz.func136 λX=>?_;obtain⟨k,x,rfl,M,I,C⟩:=MdM.wyAt O N;obtain⟨⟨s0,v⟩,t0,t1⟩:=D.wayAt x.p (List.mem_of_getElem? (i:=k) (by show(m.ways.l.map TrM.p)[k]?=_;rw[List.getElem?_map,I]<;>rfl));obtain⟨i,y,H,E,F,K⟩:=MdM.at t0 t1;obtain⟨j,z,n,r,u,J⟩:=MdM.at s0 v;rw[PM.k15,C,PM.kd,K,J];have H:x.target=(i:Int):=H;have n:x.source=(j:Int):=n
 have L:(if y.p.kind=10 then !(x.p.source==y.p.of) && !m.p.inB x.p.source y.p.of else if y.p.kind=11 then m.p.inB x.p.source y.p.of && !(z.p.of==y.p.of)else true) =
  (if y.kind=10 then !(x.source==y.of) && !m.p.inB x.source y.of else if y.kind=11 then m.p.inB x.source y.of && !(z.of==y.of)else true):=rfl
 rw[L];refine Zf (zi I (zi M (zi Yg (zi Xv Yh)))) ?_;intro R;refine I7 (zi H (zi F (zi E (zi Yg (zi Zz (zi Xv Yh)))))) o ?_;intro Q
 by_cases f:y.kind=10
 rw[if_pos f];have q:(y.kind==10)=true:=zu f;cases g:(x.source==y.of)
 have A:(x.source != y.of)=true:=by rw[bne,g]<;>rfl
 refine Zf (zi q (zi A (zi Yg Zz))) ?_;refine Zc o ?_ (s:=Iv G o b.ent c.ent d.ent e.ent m B vs D x.source y.of s0 v);exact Zr
 have A:(x.source != y.of)=false:=by rw[bne,g]<;>rfl
 exact Zq (zi q (zi A (zi Yg Zz)));rw[if_neg f];have q:(y.kind==10)=false:=zu f
 by_cases a:y.kind=11
 rw[if_pos a];have g:(y.kind==11)=true:=zu a;have h:=λb c d e=>Iv G o b c d e m B vs D x.source y.of s0 v;rw[n]at h⊢;refine Xm (zi q (zi g n)) ?_;refine Xm (zi q (zi g n)) ?_;refine Xm (zi q (zi g n)) ?_;refine Z0f (zi q (zi g n)) ?_;generalize m.p.inB (j:Int) y.of=P at h⊢;refine Z6 ?_;cases P;refine Zy ⟨λi=>if i=5 then .bool false else .top,λ_=>.pure⟩ zk o zk zk ?_;refine Xr (zi n (zi u (zi r (zi @Zz (zi @Yg (zi @Xv Yh)))))) ?_;refine⟨⟨zk,by refine Zs ?_;exact(h _ _ _ _).mono (by rintro _ _ rfl;rfl)⟩,?_⟩;exact Zr;refine Zy ⟨λi=>if i=5 then .bool true else .top,λ_=>.pure⟩ zk o zk zk ?_;refine Xr (zi n (zi u (zi r (zi @Zz (zi @Yg (zi @Xv Yh)))))) ?_;refine⟨⟨zk,by refine Zs ?_;exact(h _ _ _ _).mono (by rintro _ _ rfl;rfl)⟩,?_⟩;exact Zr;rw[if_neg a];have g:(y.kind==11)=false:=zu a;exact Zq (zi q g)
theorem leN(n k:Nat):decide (((n:Nat):Int)<=((k:Nat):Int))=decide (n<=k):=decide_eq_decide.2 zo
theorem Zkaa(G:Nat->V)(F:GExp G)(b c d e:Col)(m:MdM)(o vs:Sl (List UInt8))(D:m.ways.l.length<1000000)(C:∀ t∈m.ways.l,t.guard.length<100000)(v:Int)(L:0<=v)(K:v<m.p.vertices.length):
  Spec Tryz.prog G 127 [V6 b c d e m o vs,.int .i64 v] Zj (λw _=>w=.bool (m.p.k6 v)):=by
 have j:=F.ok;refine Zo 0 53 [.tmp 4] Tryz.func127 λX=>?_
 have J:m.p.elses v=(m.ways.l.filter λt=>t.source==v&&R4 t.guard).length:=by
  show((m.ways.l.map TrM.p).filter _).length=_
  rw[List.filter_map,List.length_map]<;>rfl
 rw[PM.k6,J];simp only[Xv];refine Z ?_
 refine Yc m.ways.l.length (λk (_:Unit)=>st [(0,V6 b c d e m o vs),(1,.int .i64 v),(5,.int .i64 ((m.ways.l.take k).filter λt=>t.source==v&&R4 t.guard).length),(12,Za c 8 (Yn d) m.ways),(13,.int .i64 m.ways.l.length),(14,.int .i64 k)] [])
  (λ_ _=>True) 0 () (Nat.zero_le _) trivial (Weak.st (T9 @Xv) zp) ?_
 intro k _ O _ Q a
 by_cases f:k<m.ways.l.length
 have i:decide ((k:Int)<(m.ways.l.length:Int))=true:=zT;have E:=List.getElem?_eq_getElem f
 have u:m.ways.l.take (k+1)=m.ways.l.take k++[m.ways.l[k]]:=by rw[List.take_succ_eq_append_getElem f]
 have r:=C m.ways.l[k] (List.getElem_mem f);have I:((m.ways.l.take k).filter λt=>t.source==v&&R4 t.guard).length<=k:=Nat.le_trans (List.length_filter_le _ _) (by rw[List.length_take];omega);generalize m.ways.l[k]=x at E u r;rw[u,List.filter_append,List.length_append]at a;generalize((m.ways.l.take k).filter λt=>t.source==v&&R4 t.guard).length=n at I a;have A:IntKind.i64.wrap ((k:Int)+1)=(k:Int)+1:=Wy zo zo;have H:IntKind.i64.wrap ((n:Int)+1)=(n:Int)+1:=Wy zo zo;refine Zf (zi i (zi E Yg)) ?_;intro P;cases h:(x.source==v);rw[List.filter_cons_of_neg (by simp[h])]at a;simp only[List.filter_nil,List.length_nil,Nat.add_zero]at a;refine Zf (zi h (zi A Yg)) ?_;exact a _ ⟨f,(),trivial,Weak.st (T9 @Xv) zp⟩;refine Zf (zi h Yg) ?_;refine Zc j ?_ (s:=E4 G F x.guard r);cases g:R4 x.guard;rw[List.filter_cons_of_neg (by simp[g])]at a;simp only[List.filter_nil,List.length_nil,Nat.add_zero]at a;refine Zg (zi g A) ?_;exact a _ ⟨f,(),trivial,Weak.st (T9 @Xv) zp⟩;rw[List.filter_cons_of_pos (by simp[h,g])]at a;simp only[List.filter_nil,List.length_cons,List.length_nil,Nat.zero_add]at a;refine Zg (zi g (zi A H)) ?_;exact a _ ⟨f,(),trivial,Weak.st (by refine Xr @Xv ?_;exact⟨rfl,rfl⟩) zp⟩;have B:k=m.ways.l.length:=zo;subst B;rw[List.take_length];have i:decide ((m.ways.l.length:Int)<(m.ways.l.length:Int))=false:=zS;generalize(m.ways.l.filter λt=>t.source==v&&R4 t.guard).length=n;refine Zf i ?_;intro M;refine Zs ?_;refine CallA.bor j [V6 b.ent c.ent d.ent e.ent m o vs,.int .i64 v,Za .old 1 (V.int .u8) (.mk false [4,5])] zk ⟨Xf (N1 _ _ _ _ _ _ _) zp,Xf (.int _ _) rfl,Rd.u8 (l:=[4,5]) zp rfl,trivial⟩ ?_;refine(Wv G j _ _ _ _ .old m o vs v L K (.mk false [4,5]) zd).mono ?_;rintro _ _ rfl;refine⟨.bool _,?_⟩;rw[Z2b];cases q:(m.p.kd v==4||m.p.kd v==5)
 refine Zs ?_;exact Zr;refine Zs ?_;refine Zc j ?_ (s:=L9 G j _ _ _ _ m o vs D v);have z:decide (((m.p.inc v).length:Int)>0)=decide (0<(m.p.inc v).length):=gtN _ 0;cases h:decide (0<(m.p.inc v).length);rw[h]at z;exact Zh (zi z (@Zm Int (m.p.inc v)));rw[h]at z;refine Zg (zi z (@Zm Int (m.p.inc v))) ?_;refine Zc j ?_ (s:=Rm G j _ _ _ _ m o vs D v);have y:decide (((m.p.out v).length:Int)>0)=decide (0<(m.p.out v).length):=gtN _ 0;cases g:decide (0<(m.p.out v).length);rw[g]at y;exact Zh (zi y (@Zm Int (m.p.out v)));rw[g]at y;have N:decide ((n:Int)<=1)=decide (n<=1):=leN _ 1;exact Zh (zi y (zi N (@Zm Int (m.p.out v))))
@[go_sem] theorem loadK_ck(n:Nat)(ob:AObj)(c1 b c d e:Col)(m:MdM)(a vs:Sl (List UInt8)):Ty (some (false,n)) ob (.view c1 (V6 b c d e m a vs))=some (V6 b c d e m a vs):=rfl
theorem Ze0(G:Nat->V)(f:Y6 G)(i b c d e:Col)(m:MdM)(a vs:Sl (List UInt8))(v:Int)(h:0<=v)(g:v<m.p.vertices.length):
  Spec Tryz.prog G 192 [.int .i64 v,.view i (V6 b c d e m a vs)] Zj (λw _=>w=.bool (!(m.p.kd v==1))):=by
 refine Zo 0 9 [.tmp 3] Tryz.func192 λX=>?_;refine Z ?_;intro j;refine Zs ?_;refine CallA.bor f [V6 b.ent c.ent d.ent e.ent m a vs,.int .i64 v,Za .old 1 (V.int .u8) (.mk false [1])] zk ⟨Xf (N1 _ _ _ _ _ _ _) zp,Xf (.int _ _) rfl,Rd.u8 (l:=[1]) zp rfl,trivial⟩ ?_;refine(Wv G f _ _ _ _ .old m a vs v h g (.mk false [1]) zd).mono ?_;rintro _ _ rfl;refine⟨.bool _,?_⟩;rw[Rg];refine Zs ?_;exact Zr
theorem Za1(G:Nat->V)(t:Y6 G)(c1 o b c d e:Col)(m:MdM)(i vs:Sl (List UInt8))(s:Sl Int)(B:s.l.length<1000000)(A:∀ v∈s.l,0<=v/\v<m.p.vertices.length):
  Spec Tryz.prog G 77 [Za c1 1 (V.int .i64) s,.func (.func 192) [] [.view o (V6 b c d e m i vs)]] Zj (λv _=>v=.int .i64 (Rz (λu => !(m.p.kd u==1)) s.l)):=by
 refine Zo 0 19 [.tmp 4] Tryz.func77 λX=>?_;refine Z ?_
 refine Yc s.l.length (λk (_:Unit)=>st [(0,Za c1 1 (V.int .i64) s),(1,.func (.func 192) [] [.view o (V6 b c d e m i vs)]),(7,.int .i64 s.l.length),(8,.int .i64 k)] []) (λk _=>∀ y∈s.l.take k,(!(m.p.kd y==1))=false) 0 () (Nat.zero_le _) zS
  (Weak.st zp zp) ?_
 intro k _ C h D n
 by_cases f:k<s.l.length
 .have a:decide ((k:Int)<(s.l.length:Int))=true:=zT
  have g:=List.getElem?_eq_getElem f;obtain⟨r,q⟩:=A s.l[k] (List.getElem_mem f);generalize s.l[k]=x at g r q;refine Zf (zi a g) ?_;refine Zc t ?_ (s:=Ze0 G t o.ent b.ent c.ent d.ent e.ent m i vs x r q)
  cases w:(!(m.p.kd x==1))with
  |true=>
   refine Z ?_;rw[V2 (p:=λu => !(m.p.kd u==1)) g h w]
  |false=>
   have z:IntKind.i64.wrap ((k:Int)+1)=(k:Int)+1:=Wy zo zo;refine Zf z ?_;exact n _ ⟨f,(),take_all g h w,Weak.st zp zp⟩
 have j:k=s.l.length:=zo;have a:decide ((k:Int)<(s.l.length:Int))=false:=zF;rw[j,List.take_length]at h;refine Zf a ?_;rw[V3 (p:=λu => !(m.p.kd u==1)) h]
theorem Z21(G:Nat->V)(f:Y6 G)(c1 g b c d e:Col)(m:MdM)(a vs:Sl (List UInt8))(s:Sl Int)(h:s.l.length<1000000)(i:∀ v∈s.l,0<=v/\v<m.p.vertices.length):
  Spec Tryz.prog G 37 [Za c1 1 (V.int .i64) s,.func (.func 192) [] [.view g (V6 b c d e m a vs)]] Zj (λv _=>v=.bool (s.l.any λu => !(m.p.kd u==1))):=by
 refine Zo 0 9 [.tmp 4] Tryz.func37 λX=>?_;refine Z ?_;refine Zc f ?_ (s:=Za1 G f c1.ent g.ent b.ent c.ent d.ent e.ent m a vs s h i);refine Z ?_;rw[Ot]
theorem Zlaa(G:Nat->V)(a:Y6 G)(b c d e:Col)(m:MdM)(f vs:Sl (List UInt8))(x:m.p.Rt)(r:m.ways.l.length<1000000)(v:Int)(C:0<=v)(B:v<m.p.vertices.length):
  Spec Tryz.prog G 126 [V6 b c d e m f vs,.int .i64 v] Zj (λw _=>w=.bool (m.p.k5 v)):=by
 refine Zo 0 37 [.tmp 4] Tryz.func126 λX=>?_;rw[PM.k5];have j:=x.incR v;have z:=Z8aa m v;refine Z ?_;intro E;refine AW.weak (Zl (λo=>o==2) (l:=[(1,.int .i64 v),(2,.view .new (V6 b c d e m f vs))]) (m:=[]) ?_ trivial) ?_;refine Zs ?_;exact⟨Zb,Fz.ptr (v:=V6 b c d e m f vs) (c:=.new) (fz:=0) zp zp⟩;refine Z ?_;refine Zc a ?_ (s:=L9 G a b.ent c.ent d.ent e.ent m f vs r v);generalize m.p.inc v=inc at j z;refine Z ?_;intro D;refine Zs ?_;refine CallA.bor a [V6 b.ent c.ent d.ent e.ent m f vs,.int .i64 v,Za .old 1 (V.int .u8) (.mk false [7])] zk ⟨Xf (N1 _ _ _ _ _ _ _) zp,Xf (.int _ _) rfl,Rd.u8 (l:=[7]) zp rfl,trivial⟩ ?_;refine(Wv G a _ _ _ _ .old m f vs v C B (.mk false [7]) zd).mono ?_;rintro _ _ rfl;refine⟨.bool _,?_⟩;rw[Rg];cases q:(m.p.kd v==7);exact Zh q;refine Zg q ?_;refine Zc a ?_ (s:=Rm G a b.ent c.ent d.ent e.ent m f vs r v);have g:(((m.p.out v).length:Int)==1)=((m.p.out v).length==1):=eqN _ 1;cases n:((m.p.out v).length==1);rw[n]at g;exact Zh (zi g (@Zm Int (m.p.out v)));rw[n]at g;have h:decide ((inc.length:Int)>1)=decide (1<inc.length):=gtN _ 1;cases i:decide (1<inc.length);rw[i]at h;exact Zh (zi g (zi h (zi (@Zm Int (m.p.out v)) (@Zm Int inc))));rw[i]at h;refine Zg (zi g (zi h (zi (@Zm Int (m.p.out v)) (@Zm Int inc)))) ?_;have y:=Z21 G a .old .old b.ent c.ent d.ent e.ent m f vs (Zd inc) (by rw[Zm];omega) (by rw[Zm];exact j);rw[Zm]at y;refine Zc a ?_ (s:=y)
 have A:(inc.all λu=>m.p.kd u==1) = !(inc.any λu => !(m.p.kd u==1)):=by
  rw[List.all_eq_not_any_not]
 rw[A];cases k:(inc.any λu => !(m.p.kd u==1));rotate_left;exact Zh k;refine Zg k ?_;have t:=K7 G a b.ent c.ent d.ent e.ent .old m f vs x (Zd inc) (by rw[Zm];exact Zlj i) (by rw[Zm];omega) (by rw[Zm];exact j);rw[Zm]at t;refine Zc a ?_ (s:=t);exact Zr
theorem Z44(k j i x:Int):(Sl.mk false [k,j,i]).l.contains x=(x==k||x==j||x==i):=by
 show[k,j,i].contains x=_
 rw[List.contains_cons,List.contains_cons,List.contains_cons,List.contains_nil,Bool.or_false,Bool.or_assoc]
def Xj(names:List (List UInt8))(s:List UInt8):Int:=(Qg s names).2.2
theorem Zb6(G:Nat->V)(z:GExp G)(b c d e:Col)(m:MdM)(f vs:Sl (List UInt8))(L:m.p.Rt)(C:f.l=m.p.vn++[Pd])(D:f.l.length<1000000)(t:Int)(O:0<=t)(N:t<m.p.ways.length)(g:(m.p.wy t).guard.length<100000):
  Spec Tryz.prog G 131 [V6 b c d e m f vs,.int .i64 t] Zj (λw _=>w=.bool (m.p.k10 Xj t)):=by
 have h:=z.ok;refine Zo 0 62 [.tmp 4] Tryz.func131 λX=>?_;obtain⟨k,x,rfl,M,H,n⟩:=MdM.wyAt O N;obtain⟨⟨s0,F⟩,t0,t1⟩:=L.wayAt x.p (List.mem_of_getElem? (i:=k) (by show(m.ways.l.map TrM.p)[k]?=_;rw[List.getElem?_map,H]<;>rfl));rw[n]at g;have g:x.guard.length<100000:=g;rw[PM.k10,n,Xj,<- C]
 have K:(((m.p.kd x.p.source==4||m.p.kd x.p.source==5)&&R4 x.p.guard)||((Qg x.p.guard f.l).2.2==0&&((Y4 x.p.guard).1.length==0||m.p.kd x.p.source==1||m.p.kd x.p.source==4||m.p.kd x.p.source==5))) =
  (((m.p.kd x.source==4||m.p.kd x.source==5)&&R4 x.guard)||((Qg x.guard f.l).2.2==0&&((Y4 x.guard).1.length==0||m.p.kd x.source==1||m.p.kd x.source==4||m.p.kd x.source==5))):=rfl
 rw[K];refine Z1 ?_;refine Xm (zi H (zi M (zi Yg (zi Xv Yh)))) ?_;intro S;refine AW.weak (Zl (λo=>o==5) (l:=[(0,V6 b c d e m f vs),(5,.view .new (Yn d x))]) (m:=[]) ?_ trivial) ?_;refine Xr @Xv ?_;exact⟨Zb,Fz.ptr (v:=Yn d x) (c:=.new) (fz:=0) zp zp⟩;refine Wq (fun(_:Unit)=>st [(0,V6 b c d e m f vs),(5,.view .new (Yn d x))] []) (λ_=>((m.p.kd x.source==4||m.p.kd x.source==5)&&R4 x.guard)=false) (λU y=>?_) ?_;refine Zf Yg ?_;intro Q;refine Zs ?_;refine CallA.bor h [V6 b.ent c.ent d.ent e.ent m f vs,.int .i64 x.source,Za .old 1 (V.int .u8) (.mk false [4,5])] zk ⟨Xf (N1 _ _ _ _ _ _ _) zp,Xf (.int _ _) rfl,Rd.u8 (l:=[4,5]) zp rfl,trivial⟩ ?_;refine(Wv G h _ _ _ _ .old m f vs x.source s0 F (.mk false [4,5]) zd).mono ?_;rintro _ _ rfl;refine⟨.bool _,?_⟩;rw[Z2b];cases q:(m.p.kd x.source==4||m.p.kd x.source==5);refine Zg q ?_;exact y _ () (by rw[q]<;>rfl) (Weak.st (T9 @Yg) zp);refine Zg (zi q Yg) ?_;refine Zc h ?_ (s:=E4 G z x.guard g);cases j:R4 x.guard;refine Zg j ?_;exact y _ () (by rw[j,Bool.and_false]) (Weak.st (T9 @Yg) zp);exact Zh j;intro _ J;rw[J,Bool.false_or];have u:=λE=>Pm G z E x.guard f g D;generalize Qg x.guard f.l=p at u⊢;have r:∀ E,Spec Tryz.prog G 71 [.str x.guard,Za E 1 V.str f] Zj (λv _=>v=.tuple [.agg [Za .new 6 Xp (Zd p.1)],.int .i64 p.2.1,.int .i64 p.2.2]):=u;refine Z6 ?_;refine Zy ⟨λi=>if i=6 then .tuple [.agg [Za .new 6 Xp (Zd p.1)],.int .i64 p.2.1,.int .i64 p.2.2]else .top,λ_=>.pure⟩ zk h zk zk ?_;refine Xr (zi @Yg @Xv) ?_;refine⟨⟨zk,by refine Zs ?_;exact(r _).mono (by rintro _ _ rfl;exact zm)⟩,?_⟩;intro R;have I:=Th G z x.guard g;generalize Y4 x.guard=T at I⊢;obtain⟨l,a,q⟩:=T;refine Zf Yg ?_;refine Zn h ?_ (s:=I);simp only[encTok,encTks];refine Zs ?_;have A:((l.length:Int)==0)=(l.length==0):=eqN _ 0;cases B:(p.2.2==0)
 exact Zh B;cases j:(l.length==0);rotate_left;rw[j]at A;exact Zh (zi B (zi A (@Zm Tk l)));rw[j]at A;refine Zg (zi B (zi A (zi (@Zm Tk l) Yg))) ?_;intro P;refine Zs ?_;refine CallA.bor h [V6 b.ent c.ent d.ent e.ent m f vs,.int .i64 x.source,Za .old 1 (V.int .u8) (.mk false [1,4,5])] zk ⟨Xf (N1 _ _ _ _ _ _ _) zp,Xf (.int _ _) rfl,Rd.u8 (l:=[1,4,5]) zp rfl,trivial⟩ ?_;refine(Wv G h _ _ _ _ .old m f vs x.source s0 F (.mk false [1,4,5]) zd).mono ?_;rintro _ _ rfl;refine⟨.bool _,?_⟩;rw[Z44];refine Zs ?_;refine Z ?_;rw[Bool.true_and,Bool.false_or]
theorem Zoaa(G:Nat->V)(f:Y6 G)(b c d e:Col)(m:MdM)(a vs:Sl (List UInt8))(C:m.p.Rt)(A:m.ways.l.length<1000000)(v:Int)(r:0<=v)(o:v<m.p.vertices.length):
  Spec Tryz.prog G 123 [V6 b c d e m a vs,.int .i64 v] Zj (λw _=>w=.bool (m.p.k2 v)):=by
 refine Zo 0 42 [.tmp 4] Tryz.func123 λX=>?_;rw[PM.k2];have B:=C.outR v;have J:=Ep m v;refine Z ?_;refine Zc f ?_ (s:=Rm G f _ _ _ _ m a vs A v);generalize m.p.out v=out at B J;obtain⟨k,x,rfl,D,E,I⟩:=MdM.at r o;rw[I];have t:x.p.region=x.region:=rfl;rw[t];refine Z0 ?_;refine Z6 ?_;cases q:(m.p.kd k==3);refine Zy ⟨λi=>if i=3 then .bool false else .top,λi=>if i=3 then .lend else .pure⟩ zk f zk zk ?_;refine Xr @Xv ?_;intro h;refine⟨BorC.of [V6 b.ent c.ent d.ent e.ent m a vs,.int .i64 k,Za .old 1 (V.int .u8) (.mk false [3])] zk ⟨Xf (N1 b c d e m a vs) (Of _ _ _ _ _ _ _ _),Xf (.int _ _) rfl,Rd.u8 (l:=[3]) zp rfl,trivial⟩ ((Wv G f _ _ _ _ .old m a vs k r o (.mk false [3]) zd).mono ?_),?_⟩;rintro _ _ rfl;exact⟨.bool _,by rw[Rg,q]⟩;exact Zr;cases z:(out.length==1);have L:((out.length:Int)==1)=false:=(eqN _ 1).trans z;refine Zy ⟨λi=>if i=3 then .bool true else .top,λi=>if i=3 then .lend else .pure⟩ zk f zk zk ?_;refine Xr (zi @Xv (zi @Zm L)) ?_;intro h;refine⟨BorC.of [V6 b.ent c.ent d.ent e.ent m a vs,.int .i64 k,Za .old 1 (V.int .u8) (.mk false [3])] zk ⟨Xf (N1 b c d e m a vs) (Of _ _ _ _ _ _ _ _),Xf (.int _ _) rfl,Rd.u8 (l:=[3]) zp rfl,trivial⟩ ((Wv G f _ _ _ _ .old m a vs k r o (.mk false [3]) zd).mono ?_),?_⟩;rintro _ _ rfl;exact⟨.bool _,by rw[Rg,q]⟩;exact Zr;obtain⟨w,rfl⟩:∃ w,out=[w]:=List.length_eq_one_iff.1 (zu z);obtain⟨H,F⟩:=B w (List.mem_singleton.2 rfl);have g:=λb c d e=>Is G f b c d e m a vs C w x.region H F;have u:[w].headD 0=w:=rfl;have n:Zd [w]=.mk false [w]:=rfl;rw[u];cases y:m.p.withinB w x.region
 rw[y]at g;refine Zy ⟨λi=>if i=3 then .bool true else if i=23 then .bool false else .top,λi=>if i=3 then .lend else .pure⟩ zk f zk zk ?_;refine Xr (zi @Xv (zi n (zi E (zi D (zi @Zz Yh))))) ?_;intro h;refine⟨BorC.of [V6 b.ent c.ent d.ent e.ent m a vs,.int .i64 k,Za .old 1 (V.int .u8) (.mk false [3])] zk ⟨Xf (N1 b c d e m a vs) (Of _ _ _ _ _ _ _ _),Xf (.int _ _) rfl,Rd.u8 (l:=[3]) zp rfl,trivial⟩ ((Wv G f _ _ _ _ .old m a vs k r o (.mk false [3]) zd).mono ?_),⟨zk,by refine Zs ?_;exact(g _ _ _ _).mono (by rintro _ _ rfl;rfl)⟩,?_⟩;rintro _ _ rfl;exact⟨.bool _,by rw[Rg,q]⟩;exact Zr;rw[y]at g;have j:=λb c d e=>L9 G f b c d e m a vs A k;generalize m.p.inc k=inc at j⊢;have K:((inc.length:Int)==0)=(inc.length==0):=eqN _ 0;refine Zy ⟨λi=>if i=3 then .bool true else if i=23 then .bool true else if i=28 then Za .new 1 (V.int .i64) (Zd inc)else .top,λi=>if i=3 then .lend else .pure⟩ zk f zk zk ?_;refine Xr (zi @Xv (zi n (zi @Zm (zi E (zi D (zi @Zz Yh)))))) ?_;intro h;refine⟨BorC.of [V6 b.ent c.ent d.ent e.ent m a vs,.int .i64 k,Za .old 1 (V.int .u8) (.mk false [3])] zk ⟨Xf (N1 b c d e m a vs) (Of _ _ _ _ _ _ _ _),Xf (.int _ _) rfl,Rd.u8 (l:=[3]) zp rfl,trivial⟩ ((Wv G f _ _ _ _ .old m a vs k r o (.mk false [3]) zd).mono ?_),⟨zk,by refine Zs ?_;exact(g _ _ _ _).mono (by rintro _ _ rfl;rfl)⟩,⟨zk,by refine Zs ?_;exact(j _ _ _ _).mono (by rintro _ _ rfl;exact zm)⟩,?_⟩
 rintro _ _ rfl;exact⟨.bool _,by rw[Rg,q]⟩;refine Z ?_
 first|rfl|(rw[K]<;>rfl)
theorem Ziaa(G:Nat->V)(z:Y6 G)(b c d e:Col)(m:MdM)(I vs:Sl (List UInt8))(P:m.p.Rt)(hw:m.ways.l.length<1000000)(v:Int)(h0:0<=v)(h1:v<m.p.vertices.length):
  Spec Tryz.prog G 129 [V6 b c d e m I vs,.int .i64 v] Zj (λw _=>w=.bool (m.p.k8 v)):=by
 refine Zo 0 67 [.tmp 4] Tryz.func129 λX=>?_;rw[PM.k8];have S:=P.outR v;have hl:=Ep m v;have C:=λb c d e=>Rm G z b c d e m I vs hw v;have L:=P.toRt5.pt h0 h1;generalize m.p.out v=out at S hl C;obtain⟨k,x,rfl,hk,hg,hx⟩:=MdM.at h0 h1;rw[PM.kd,hx];rw[hx]at L;refine Z1 ?_;refine Z0 ?_;refine Z6 ?_;refine Zy ⟨λi=>if i=10 then Za .new 1 (V.int .i64) (Zd out)else .top,λ_=>.pure⟩ zk z zk zk ?_;refine Xr (zi @Xv (zi hg (zi hk (zi @Zz Yh)))) ?_;refine⟨⟨zk,by refine Zs ?_;exact(C _ _ _ _).mono (by rintro _ _ rfl;exact zm)⟩,?_⟩;intro g5;refine AW.weak (Zl (λo=>o==5) (l:=[(0,V6 b c d e m I vs),(5,.view .new (Yf d x)),(6,Za .new 1 (V.int .i64) (Zd out))]) (m:=[]) ?_ trivial) ?_;refine Xr @Xv ?_;exact⟨Zb,Fz.ptr (v:=Yf d x) (c:=.new) (fz:=0) zp zp,Zb⟩
 have hp:(if x.p.kind=11 then out.length==1 && !m.p.inB (out.headD 0) x.p.of else if x.p.kind=10 then Oy [] (out.map (m.p.regU · x.p.of))&&decide (0<out.length)else true) =
  (if x.kind=11 then out.length==1 && !m.p.inB (out.headD 0) x.of else if x.kind=10 then Oy [] (out.map (m.p.regU · x.of))&&decide (0<out.length)else true):=rfl
 rw[hp]
 by_cases n:x.kind=11
 rw[if_pos n];have q:(x.kind==11)=true:=zu n;refine Xm Zz ?_;refine Xm q ?_;refine Z0f q ?_;refine Z6 ?_;cases H:(out.length==1);have e1:((out.length:Int)==1)=false:=(eqN _ 1).trans H;refine I7 (zi @Zm e1) z ?_;exact Zr;obtain⟨w,rfl⟩:∃ w,out=[w]:=List.length_eq_one_iff.1 (zu H);obtain⟨w0,w1⟩:=S w (List.mem_singleton.2 rfl);have D:=λb c d e=>Iv G z b c d e m I vs P w x.of w0 w1;have U:[w].headD 0=w:=rfl;have M:Zd [w]=.mk false [w]:=rfl;rw[U];generalize m.p.inB w x.of=bb at D⊢;cases bb;refine Zy ⟨λi=>if i=10 then .bool false else .top,λ_=>.pure⟩ zk z zk zk ?_;refine Xr (zi M @Zz) ?_;refine⟨⟨zk,by refine Zs ?_;exact(D _ _ _ _).mono (by rintro _ _ rfl;rfl)⟩,?_⟩;exact Zr;refine Zy ⟨λi=>if i=10 then .bool true else .top,λ_=>.pure⟩ zk z zk zk ?_;refine Xr (zi M @Zz) ?_;refine⟨⟨zk,by refine Zs ?_;exact(D _ _ _ _).mono (by rintro _ _ rfl;rfl)⟩,?_⟩;exact Zr;rw[if_neg n];have q:(x.kind==11)=false:=zu n
 by_cases a:x.kind=10
 rotate_left;rw[if_neg a];have H:(x.kind==10)=false:=zu a;exact Zq (zi q (zi H Zz));rw[if_pos a];have H:(x.kind==10)=true:=zu a
 have R:0<=x.of:=by
  rcases L with h|h
  exact h.1;exact absurd (.inl a) h.2.2.2
 refine Zf (zi q (zi H Zz)) ?_
 refine Yc out.length (λj (g:Nat)=>st [(0,V6 b c d e m I vs),(5,.view .new (Yf d x)),(6,Za .new 1 (V.int .i64) (Zd out)),(7,grown 62 g 1 ((out.take j).map (m.p.regU · x.of))),(41,Za .new 1 (V.int .i64) (Zd out)),(42,.int .i64 out.length),(43,.int .i64 j)] [(62,Yb g (V.int .i64) ((out.take j).map (m.p.regU · x.of)))])
  (λj _=>Oy [] (out.map (m.p.regU · x.of))=Oy ((out.take j).map (m.p.regU · x.of)) ((out.drop j).map (m.p.regU · x.of))) 0 0 (Nat.zero_le _) rfl (Weak.st (T9 (zi @Zz (@Zm Int out))) zp) ?_
 intro j g hj u L3 A
 by_cases t:j<out.length
 .have E:decide ((j:Int)<(out.length:Int))=true:=zT
  have F:=List.getElem?_eq_getElem t
  have J:out.take (j+1)=out.take j++[out[j]]:=by rw[List.take_succ_eq_append_getElem t]
  have O:out.drop j=out[j]::out.drop (j+1):=List.drop_eq_getElem_cons t;obtain⟨y0,y1⟩:=S out[j] (List.getElem_mem t)
  have Y:((out.take j).map (m.p.regU · x.of)).length<=j:=by rw[List.length_map,List.length_take];omega
  generalize out[j]=y at F J O y0 y1;have w2:IntKind.i64.wrap ((j:Int)+1)=(j:Int)+1:=Wy zo zo;rw[O,List.map_cons,Oy]at u;rw[J,List.map_append,List.map_cons,List.map_nil]at A;generalize(out.take j).map (m.p.regU · x.of)=B at Y u A
  have N:(Zd out).l[j]?=some y:=by rw[Zm];exact F
  refine Zf (zi E (zi F (zi N (zi t (zi (@Zm Int out) (zi Zz Yh)))))) ?_;refine Zc z ?_ (s:=It G z b.ent c.ent d.ent e.ent m I vs P y x.of y0 y1 R);generalize m.p.regU y x.of=r at u A
  by_cases K:0<=r
  rotate_left;have Q:decide (r<0)=true:=zT;rw[u,decide_eq_false K];exact Zh Q;have Q:decide (r<0)=false:=zF;rw[decide_eq_true K,Bool.true_and]at u;refine Zg Q ?_;refine CallA.bor z [Za .old 1 (V.int .i64) (Zd B),.int .i64 r] zk ⟨I0 zp (λ_=>rfl) inIm (λ_=>rfl),Xf (.int _ _) rfl,trivial⟩ ?_;refine(O0 G z .old r (Zd B) (by rw[Zm];omega)).mono ?_;rintro _ _ rfl;rw[Zm];refine⟨.bool _,?_⟩;cases W:B.contains r;rotate_left;rw[W]at u;rw[u];exact Zh W;rw[W,Bool.not_false,Bool.true_and]at u;refine Zs ?_;refine Z ?_;intro g61;refine Ys (f:=V.int .i64) (l:=B) (l2:=[r]) (g:=g) (λ_=>rfl) rfl rfl rfl zp (Z4 zo zO) λg2=>?_;refine Zs ?_;refine Zf w2 ?_;exact A _ ⟨t,g2,u,Weak.st (T9 @Zz) zp⟩
 have T:j=out.length:=zo;subst T;rw[List.drop_length]at u;have E:decide ((out.length:Int)<(out.length:Int))=false:=zS;rw[u];have e3:decide ((out.length:Int)>0)=decide (0<out.length):=gtN _ 0;refine Zf (zi E (zi (@Zm Int out) e3)) ?_;rfl
theorem Zjaa(G:Nat->V)(g:Y6 G)(b c d e:Col)(m:MdM)(u vs:Sl (List UInt8))(Q:m.p.Rt)(W:m.ways.l.length<1000000)(Y:m.verts.l.length<1000000)(v:Int)(S:0<=v)(R:v<m.p.vertices.length):
  Spec Tryz.prog G 128 [V6 b c d e m u vs,.int .i64 v] Zj (λw _=>w=.bool (m.p.k7 v)):=by
 refine Zo 0 77 [.tmp 4] Tryz.func128 λX=>?_;have P:=Q.outR v;have hl:=Ep m v;have s:=λb c d e=>Rm G g b c d e m u vs W v;rw[PM.k7];refine Z ?_;intro g12;refine Zs ?_;refine CallA.bor g [V6 b.ent c.ent d.ent e.ent m u vs,.int .i64 v,Za .old 1 (V.int .u8) (.mk false [8,9])] zk ⟨Xf (N1 _ _ _ _ _ _ _) zp,Xf (.int _ _) rfl,Rd.u8 (l:=[8,9]) zp rfl,trivial⟩ ?_;refine(Wv G g _ _ _ _ .old m u vs v S R (.mk false [8,9]) zd).mono ?_;rintro _ _ rfl;refine⟨.bool _,?_⟩;rw[Z2b];cases q:(m.p.kd v==8||m.p.kd v==9);exact Zh q;generalize m.p.out v=out at P hl s;obtain⟨k,x,rfl,hk,hg,O⟩:=MdM.at S R
 have hP:m.p.twins k=(m.verts.l.filter λy=>y.kind==x.kind&&y.region==x.region).length:=by
  rw[PM.twins,PM.kd,O]
  show((m.verts.l.map VtM.p).filter _).length=_
  rw[List.filter_map,List.length_map]<;>rfl
 rw[hP,O];have K:x.p.region=x.region:=rfl;rw[K];refine Xr q ?_;refine Z0f q ?_;refine Z6 ?_;refine Zy ⟨λi=>if i=10 then Za .new 1 (V.int .i64) (Zd out)else .top,λ_=>.pure⟩ zk g zk zk ?_;refine Xr (zi @Xv (zi hg (zi hk (zi @Zz Yh)))) ?_;refine⟨⟨zk,by refine Zs ?_;exact(s _ _ _ _).mono (by rintro _ _ rfl;exact zm)⟩,?_⟩;intro g5;refine AW.weak (Zl (λo=>o==5) (l:=[(0,V6 b c d e m u vs),(5,.view .new (Yf d x)),(6,Za .new 1 (V.int .i64) (Zd out))]) (m:=[]) ?_ trivial) ?_;refine Xr @Xv ?_;exact⟨Zb,Fz.ptr (v:=Yf d x) (c:=.new) (fz:=0) zp zp,Zb⟩;refine Zf Xv ?_
 refine Yc m.verts.l.length (λj (_:Unit)=>st [(0,V6 b c d e m u vs),(5,.view .new (Yf d x)),(6,Za .new 1 (V.int .i64) (Zd out)),(7,.int .i64 ((m.verts.l.take j).filter λy=>y.kind==x.kind&&y.region==x.region).length),(30,Za c 8 (Yf d) m.verts),(31,.int .i64 m.verts.l.length),(32,.int .i64 j)] [])
  (λ_ _=>True) 0 () (Nat.zero_le _) trivial (Weak.st (T9 (zi @Xv @Zz)) zp) ?_
 intro j _ hj _ L3 a
 by_cases f:j<m.verts.l.length
 have h:decide ((j:Int)<(m.verts.l.length:Int))=true:=zT;have F:=List.getElem?_eq_getElem f
 have D:m.verts.l.take (j+1)=m.verts.l.take j++[m.verts.l[j]]:=by rw[List.take_succ_eq_append_getElem f]
 have hn:((m.verts.l.take j).filter λy=>y.kind==x.kind&&y.region==x.region).length<=j:=Nat.le_trans (List.length_filter_le _ _) (by rw[List.length_take];omega);generalize m.verts.l[j]=y at F D;rw[D,List.filter_append,List.length_append]at a;generalize((m.verts.l.take j).filter λy=>y.kind==x.kind&&y.region==x.region).length=n at hn a;have C:IntKind.i64.wrap ((j:Int)+1)=(j:Int)+1:=Wy zo zo;have T:IntKind.i64.wrap ((n:Int)+1)=(n:Int)+1:=Wy zo zo;refine Zf (zi h (zi F Zz)) ?_;intro g9;cases r:(y.kind==x.kind);rw[List.filter_cons_of_neg (by simp[r])]at a;simp only[List.filter_nil,List.length_nil,Nat.add_zero]at a;refine Zf (zi r (zi C Zz)) ?_;exact a _ ⟨f,(),trivial,Weak.st (T9 @Zz) zp⟩;cases t:(y.region==x.region);rw[List.filter_cons_of_neg (by simp[t])]at a;simp only[List.filter_nil,List.length_nil,Nat.add_zero]at a;refine Zf (zi r (zi t (zi C Zz))) ?_;exact a _ ⟨f,(),trivial,Weak.st (T9 @Zz) zp⟩;rw[List.filter_cons_of_pos (by simp[r,t])]at a;simp only[List.filter_nil,List.length_cons,List.length_nil,Nat.zero_add]at a;refine Zf (zi r (zi t (zi C (zi T Zz)))) ?_;exact a _ ⟨f,(),trivial,Weak.st (by refine Xr @Zz ?_;exact⟨rfl,rfl⟩) zp⟩;have L:j=m.verts.l.length:=zo;subst L;rw[List.take_length];have h:decide ((m.verts.l.length:Int)<(m.verts.l.length:Int))=false:=zS;generalize(m.verts.l.filter λy=>y.kind==x.kind&&y.region==x.region).length=n;refine Xm h ?_;refine Z0f h ?_;refine Z6 ?_;have B:((n:Int)==1)=(n==1):=eqN _ 1;have H:decide ((out.length:Int)<=1)=decide (out.length<=1):=decide_eq_decide.2 zo;have N:((out.length:Int)==0)=(out.length==0):=eqN _ 0;cases r:(x.region==0);rotate_left
 have A:(x.region != 0)=false:=by rw[bne,r]<;>rfl
 refine Zy ⟨λi=>.top,λ_=>.pure⟩ zk g zk zk ?_;refine Xr (zi @Zz (zi @Zm A)) ?_;exact Zr
 have A:(x.region != 0)=true:=by rw[bne,r]<;>rfl
 cases t:(n==1);rw[t]at B;refine Zy ⟨λi=>.top,λ_=>.pure⟩ zk g zk zk ?_;refine Xr (zi @Zz (zi @Zm (zi A B))) ?_;exact Zr;rw[t]at B;cases J:decide (out.length<=1);rw[J]at H;refine Zy ⟨λi=>.top,λ_=>.pure⟩ zk g zk zk ?_;refine Xr (zi @Zz (zi @Zm (zi A (zi B H)))) ?_;exact Zr;rw[J]at H;cases I:(out.length==0);rotate_left;rw[I]at N;refine Zy ⟨λi=>.top,λ_=>.pure⟩ zk g zk zk ?_;refine Xr (zi @Zz (zi @Zm (zi A (zi B (zi H N))))) ?_;exact Zr;rw[I]at N;have hle:out.length<=1:=zu J;have hne:¬ out.length=0:=zu I;obtain⟨w,rfl⟩:∃ w,out=[w]:=List.length_eq_one_iff.1 zo;obtain⟨U,C⟩:=P w (List.mem_singleton.2 rfl);have z:=λb c d e=>Is G g b c d e m u vs Q w x.region U C;have M:[w].headD 0=w:=rfl;have E:Zd [w]=.mk false [w]:=rfl;rw[M];generalize m.p.withinB w x.region=bb at z⊢;cases bb;refine Zy ⟨λi=>if i=23 then .bool false else .top,λ_=>.pure⟩ zk g zk zk ?_;refine Xr (zi @Zz (zi @Zm (zi A (zi B E)))) ?_;refine⟨⟨zk,by refine Zs ?_;exact(z _ _ _ _).mono (by rintro _ _ rfl;rfl)⟩,?_⟩;exact Zr;refine Zy ⟨λi=>if i=23 then .bool true else .top,λ_=>.pure⟩ zk g zk zk ?_;refine Xr (zi @Zz (zi @Zm (zi A (zi B E)))) ?_;refine⟨⟨zk,by refine Zs ?_;exact(z _ _ _ _).mono (by rintro _ _ rfl;rfl)⟩,?_⟩;exact Zr
end Go.Hs
end

section
namespace Go.Hs
section
def srt(l:List Int):List Int:=l.mergeSort λx y=>decide (x<=y)
theorem Z8b(l:List Int):(srt l).length=l.length:=List.length_mergeSort _
theorem srt_eq{l k:List Int}(i:l.Nodup)(e:k.Pairwise (· < ·))(h:∀ v,v∈l↔v∈k):srt l=k:=by
 have d:k.Nodup:=e.imp fun{a b} h=>by omega
 have p:List.Perm (srt l) k:=(List.mergeSort_perm _ _).trans ((List.perm_ext_iff_of_nodup i d).2 h);refine List.Perm.eq_of_pairwise (le:=(· <= ·)) (λa b _ _ g f=>Int.le_antisymm g f) ?_ (e.imp fun{a b} h=>Int.le_of_lt h) p;have:=List.pairwise_mergeSort (le:=λx y:Int=>decide (x<=y)) (λa b c g f=>by grind) (λa b=>by grind) l
 exact this.imp fun{a b} h=>by grind
namespace PM
variable{m:PM}
theorem reach_sort{L:List StP}{s:StP}{q:List Int}(c:∀ x∈L,m.AtOk x)(b:m.AtOk s)(h:QEnd m L s q):srt q=m.reachL L s:=by
 refine srt_eq h.nd (Zwi L s) λv=>?_;rw[Zpz c b h,List.mem_map]
 constructor
 intro a;have d:=h.rng v a;refine⟨v.toNat,List.mem_filter.2 ⟨List.mem_range.2 (by omega),?_⟩,by omega⟩
 grind
 grind
end PM
end
section
variable{P:Program}{E:Ent}
theorem Zdaa{N:Nat}{G:Nat->V}{f:FuncId}{b:Func}{c:Code}{args:List V}{H:Heap}{K:V->Heap->Prop}(q:Nat)(y:P.funcs[f]?=some b)(B:b.body=some c)(m:Nat.ble args.length b.ntmps=true)
  {X:Cx} {a:Array Value} (D:Inv X H) (E:∀ g,RelG X g (G g)) (J:RelA X a args) (C:N<=X.w.heap.size) (h:AW P ⟨X,H,b.ntmps,q,G,none,[],.inl N⟩ c (T3 P b.results.toList K) ⟨Uy 0 args,H⟩):
  Calls P f a X.w (λe w'=>∃ c v H' Y,e=.returned c/\Y.w=w'/\GoesN N X H Y H'/\Rel Y c v/\(∀ g,RelG Y g (G g))/\K v H'):=by
 have I:RK.F (.inl N)=Fence.wide:=Zjb rfl;refine(callsIn_wide (n:=0)).1 (callsIn_of_wp_marks y B trivial ?_);have s:=h _ _ ⟨X,Zia b.ntmps q (Nat.le_of_ble_eq_true m) D E J⟩;rw[I]at s;refine wpIn_mono s ?_;rintro e r w' (⟨k,⟨Y,j⟩,d⟩|⟨L,rfl,x⟩);rotate_left;exact(x.no rfl).elim;have p:Ent.N ⟨X,H,b.ntmps,q,G,none,[],.inl N⟩=N:=Nat.min_eq_left C
 have fin:(∃ v,Zni P k b.results.toList=some v/\K v k.H)->LeavesInM Fence.wide 0 P b r.tmps (λe w'=>∃ c v H' Y,e=.returned c/\Y.w=w'/\GoesN N X H Y H'/\Rel Y c v/\(∀ g,RelG Y g (G g))/\K v H') r.defers .returning w':=by
  intro⟨v,t,o⟩;obtain⟨c,A,u⟩:=Zmi j t;have z:r.defers=[]:=DefR.nil j.df;rw[z];have i:=j.go;rw[p]at i;exact⟨c,A,c,v,k.H,Y,rfl,j.hw,i,u,j.gl,o⟩
 cases e with
 |normal=>exact fin d
 |ret=>exact fin d
 |exit id=>exact d.elim
 |goto l=>exact d.elim
 |panic L=>exact d.elim
 |outgrown=>exact d.elim
theorem HandX.inl{ops:Array Oper}{R:Exit->Act->World->Prop}{st:AS}{K:AS->Prop}{dst:Option Nat}{f:Operand}{args:Array Operand}{ats:Array TypeId}{ty:TypeId}{pos:String}{af:Array Edge}{gd:Option (Nat×Bool)}{fid:FuncId}{fn:Func}{c:Code}{cl ags:List V}
  (q n:Nat) (rs:List ResultVar) (hfn:P.funcs[fid]?=some fn) (hf:st.ev E f=.func (.func fid) [] cl) (ha:args.toList.map (st.ev E)++cl=ags)
  (h:∀ X1,AW P ⟨X1,st.H,n,q,E.G,none,[],.inl E.N⟩ c (T3 P rs (λv H'=>K (AS.put ⟨st.τ,H'⟩ dst v))) ⟨Uy 0 ags,st.H⟩)
  (hd:(ops.all (Wo E.n))=true) {k:Nat} (ho:ops[k]?=some ⟨dst,.call ⟨.value f,args,ats⟩,ty,pos,af,gd⟩) (hw:Z8 ops st.τ ⟨dst,.call ⟨.value f,args,ats⟩,ty,pos,af,gd⟩=some true)
  (hen:Z7 P fid=true:=by kernel_rfl) (hb:fn.body=some c:=by rfl) (hn:fn.ntmps=n:=by rfl) (hr:fn.results.toList=rs:=by rfl) (hn0:Nat.ble ags.length n=true:=by rfl) (hdf:E.df=[]:=by rfl) (hrk:E.rk ≠ .marks:=by exact RK.noConfusion):
  HandX P E ops R ⟨dst,.call ⟨.value f,args,ats⟩,ty,pos,af,gd⟩ st K:=by
 subst hn hr;refine Or.inl ⟨hw,λX a hX=>?_⟩;refine⟨λ_ _=>trivial,?_⟩;rw[Oper.semAt_eq _ _ _ (λ_ h=>by cases h)];have hfv:=hX.ev f;rw[hf]at hfv;generalize hq:a.eval f=qv at hfv
 cases hfv with
 |func _ xs ys _ _ hx hy hxr hyr=>
  have hx0:xs = #[]:=by
   have:xs.size=0:=hx;exact Array.eq_empty_of_size_eq_zero this
  subst hx0
  have hA:RelA X (args.map a.eval++ys) (args.toList.map (st.ev E)++cl):=by
   refine⟨by simp[hy],λi h1 h2=>?_⟩
   by_cases hi:i<args.size
   rw[Array.getElem_append_left (zu hi),List.getElem_append_left (zu hi)];simp only[Array.getElem_map,List.getElem_map,Array.getElem_toList];exact hX.ev _;rw[Array.getElem_append_right zO,List.getElem_append_right zO];simp only[Array.size_map,List.length_map,Array.length_toList];exact hyr _ _ _
  rw[ha]at hA;have hk:=Zdaa q hfn hb hn0 hX.go.inv hX.gl hA hX.size (h X)
  have hdm:∀ d,dst=some d->d<E.n:=by
   intro d hdst;rw[Array.all_eq_true']at hd;obtain⟨hlt,e⟩:=Array.getElem?_eq_some_iff.1 ho;have:=hd _ (Array.getElem_mem hlt);rw[e]at this;simp only[Wo,hdst]at this;simpa using this
  have hrun:(execOp a.eval ⟨dst,.call ⟨.value f,args,ats⟩,ty,pos,af,gd⟩).run P X.w=.ok (.enter fid (args.map a.eval++ys)) X.w:=by
   unfold Z7 at hen
   split at hen
   rename_i fn' hfn';simp only[Bool.and_eq_true]at hen;obtain⟨hn1,hn2⟩:=hen
   have hn1':(fn'.name == "runtime.NumGoroutine")=false:=zu hn1
   have hn2':fn'.body.isNone=false:=by cases hb':fn'.body<;>simp_all
   simp only[execOp,resolve,hq,Deferred.ofValue,Sem.run_bind,Sem.run_pure,Result.andThen_ok,invoke,callFunc,run_program,hfn',hn1',hn2'];simp;simp at hen
  rw[hrun,Oper.uponIn_enter];refine⟨λh=>(by cases h),(E.rk.calls).2 (hk.mono ?_)⟩;rintro e w' ⟨c,v,H',Y,rfl,rfl,hg,hr,hgl,hK⟩
  have hdn:a.defers=[]:=by
   have:=hX.df;rw[hdf]at this;exact DefR.nil this hrk
  refine⟨_,⟨Y,rfl,?_,?_,?_,λt=>?_,hgl⟩,hK⟩;have:=hX.go.then hg (Nat.le_refl _)
  cases dst<;>exact this
  have:(a.put dst c).defers=[]:=by cases dst<;>exact hdn
  rw[this,hdf];exact .none _ _ _
  cases dst<;>simp[Act.put,hX.sz]
  .have h0:=(hX.tm t).mono hg.le
   cases dst with
   |none=>exact h0
   |some d=>
    simp only[Act.put,AS.put,Ya]
    by_cases htd:t=d
    subst htd
    have:t<a.tmps.size:=by rw[hX.sz];exact hdm _ rfl
    simp[this,hr];simp only[htd,if_false]
    have:(a.tmps.setIfInBounds d c).getD t undef=a.tmps.getD t undef:=by
     simp[Array.getD_eq_getD_getElem?,Array.getElem?_setIfInBounds_ne (Ne.symm htd)]
    rw[this];exact h0
def InlF(P:Program)(G:Nat->V)(N:Nat)(f:FuncId)(args:List V)(H:Heap)(K:V->Heap->Prop):Prop:=
 ∃ fn c q,P.funcs[f]?=some fn/\fn.body=some c/\Nat.ble args.length fn.ntmps=true/\∀ X1,AW P ⟨X1,H,fn.ntmps,q,G,none,[],.inl N⟩ c (T3 P fn.results.toList K) ⟨Uy 0 args,H⟩
theorem ZoI{G:Nat->V}{N:Nat}{f:FuncId}{a:Func}{c:Code}{args:List V}{H:Heap}{K:V->Heap->Prop}(q n:Nat)(d:List ResultVar)(i:P.funcs[f]?=some a)(h:∀ X1,AW P ⟨X1,H,n,q,G,none,[],.inl N⟩ c (T3 P d K) ⟨Uy 0 args,H⟩)
  (j:a.body=some c:=by rfl) (g:a.ntmps=n:=by rfl) (e:a.results.toList=d:=by rfl) (b:Nat.ble args.length n=true:=by rfl):InlF P G N f args H K:=by
 subst g e;exact⟨a,c,q,i,j,b,h⟩
theorem B4{ops:Array Oper}{R:Exit->Act->World->Prop}{st:AS}{K:AS->Prop}{dst:Option Nat}{f:Operand}{args:Array Operand}{b:Array TypeId}{ty:TypeId}{pos:String}{af:Array Edge}{gd:Option (Nat×Bool)}{a:FuncId}{cl g:List V}{u:V->Heap->Prop}
  (A:InlF P E.G E.N a g st.H u) (y:st.ev E f=.func (.func a) [] cl) (ha:args.toList.map (st.ev E)++cl=g) (r:∀ v H',u v H'->K (AS.put ⟨st.τ,H'⟩ dst v))
  (z:(ops.all (Wo E.n))=true) {k:Nat} (x:ops[k]?=some ⟨dst,.call ⟨.value f,args,b⟩,ty,pos,af,gd⟩) (w:Z8 ops st.τ ⟨dst,.call ⟨.value f,args,b⟩,ty,pos,af,gd⟩=some true)
  (o:Z7 P a=true:=by kernel_rfl) (p:E.df=[]:=by rfl) (m:E.rk ≠ .marks:=by exact RK.noConfusion):
  HandX P E ops R ⟨dst,.call ⟨.value f,args,b⟩,ty,pos,af,gd⟩ st K:=by
 obtain⟨t,c,q,F,D,C,B⟩:=A;refine HandX.inl q t.ntmps t.results.toList F y ha (λI=>(B I).mono ?_) z x w o D rfl rfl C p m;intro e s d
 cases e with
 |ret=>obtain⟨v,j,h⟩:=d;exact⟨v,j,r _ _ h⟩
 |normal=>obtain⟨v,j,h⟩:=d;exact⟨v,j,r _ _ h⟩
 |exit i=>exact d.elim
 |goto l=>exact d.elim
 |panic ch=>exact d.elim
 |outgrown=>exact d.elim
def Gives1(P:Program)(a:Act)(X:Cx)(o:Oper)(v:V):Prop:=∃ c,(execOp a.eval o).run P X.w=.ok (.value c) X.w/\Rel X c v
theorem Z6p{ops:Array Oper}{R:Exit->Act->World->Prop}{st:AS}{K:AS->Prop}{dst:Option Nat}{t:TypeId}{x lo:Operand}{ty:TypeId}{pos:String}{af:Array Edge}{gd:Option (Nat×Bool)}{e:TypeId}{m ob g off len:Nat}
  (J:P.underlying t=some (.slice e)) (L:Yw P e=some m) (H:st.ev E x=.msl ob g off (len+1) m) (z:st.ev E lo=.int .i64 1)
  (O:∀ off',off'=off+m\/(len=0/\off'=off)->K (AS.put st dst (.msl ob g off' len m)))
  (F:(ops.all (Wo E.n))=true) {n:Nat} (M:ops[n]?=some ⟨dst,.slice t x (some lo) none none,ty,pos,af,gd⟩) (I:Z8 ops st.τ ⟨dst,.slice t x (some lo) none none,ty,pos,af,gd⟩=some true):
  HandX P E ops R ⟨dst,.slice t x (some lo) none none,ty,pos,af,gd⟩ st K:=by
 refine Or.inl ⟨I,λX a s=>?_⟩
 have u:∃ off',(off'=off+m\/(len=0/\off'=off))/\Gives1 P a X ⟨dst,.slice t x (some lo) none none,ty,pos,af,gd⟩ (.msl ob g off' len m):=by
  have v:=s.ev x;rw[H]at v;have D:=s.ev lo;rw[z]at D;have l:execOp a.eval ⟨dst,.slice t x (some lo) none none,ty,pos,af,gd⟩=(do pure (Next.value (<- Instr.sliceAt t (a.eval x) (some (a.eval lo)) none none))):=rfl;generalize U:a.eval x=y at v l
  cases v with
  |msl _ _ _ _ _ b bs cap hβ hcap hb=>
   have B:=Vv (P:=P) (w:=X.w) (X:=X) (isSlice:=true) (len:=len+1) (cap:=cap) (lo:=some (a.eval lo)) (hi:=none) (mx:=none) (lo':=some (.int .i64 1)) (hi':=none) (mx':=none) (i:=1) (j:=len+1) (k:=cap) D trivial trivial rfl rfl rfl (.inl rfl) zo zo (Nat.le_refl _)
   have f:(Instr.sliceAt t (.slice (some ⟨b,bs+off,none⟩) (len+1) cap) (some (a.eval lo)) none none).run P X.w=.ok (.slice (if cap=1 then some ⟨b,bs+off,none⟩else(some (⟨b,bs+off,none⟩:Addr)).map (·.add (1*m))) (len+1-1) (cap-1)) X.w:=by
    simp only[Instr.sliceAt,Instr.slice,Zk J,B,Y0 L,Sem.run_bind,Result.andThen_ok,Sem.run_pure]
   obtain⟨G,C,r,N⟩:=hb
   by_cases q:cap=1
   subst q;have A:len=0:=zo;subst A;refine⟨off,.inr ⟨rfl,rfl⟩,_,by rw[l];simp only[Sem.run_bind,f,Result.andThen_ok,Sem.run_pure];rfl,?_⟩
   show Rel X (.slice (if True then _ else _) _ _) _
   rw[if_pos trivial];exact .msl _ _ _ _ _ b bs 0 hβ (Nat.le_refl _) ⟨G,C,r,zo⟩;refine⟨off+m,.inl rfl,_,by rw[l];simp only[Sem.run_bind,f,Result.andThen_ok,Sem.run_pure];rfl,?_⟩;rw[if_neg q,Option.map_some,Addr.add_lit,Nat.one_mul,Nat.add_assoc,Nat.add_sub_cancel];refine .msl _ _ _ _ _ b bs (cap-1) hβ zo ⟨G,C,r,?_⟩
   have:m+(cap-1)*m=cap*m:=by rw[Nat.add_comm,<- Nat.succ_mul];congr 1;omega
   omega
 obtain⟨off',T,c,S,Q⟩:=u;refine Oq _ (λ_ h=>nomatch h) ?_;unfold Oper.wp;rw[S,Oper.upon_value];refine⟨_,⟨X,s.step (Goes.refl s.go.inv) Q λd p=>?_⟩,O _ T⟩;rw[Array.all_eq_true']at F;have:=F _ (Array.mem_of_getElem? M);unfold Wo at this;have o:dst=some d:=p;subst o;simpa using this
end
end Go.Hs
end
