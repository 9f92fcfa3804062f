/- A part. No condition. -/
import Derived.Test.YtkennpiglkfalaaGreatDoorP46
import Derived.Test.YtkennpiglkfalaaGreatDoorP47
set_option linter.all false
open List renaming length->aa
open Bool renaming false->ab,true->ad
open Option renaming some->ae
open Go.Proofs.Tryz
open List renaming range->aE
open UInt8 renaming ofNat->aJ
section
namespace Go.Hs
open Go.Proofs
set_option maxHeartbeats 4000000
set_option maxRecDepth 10000
def VK(gO gI:Nat->Nat)(j:Nat):JV:=⟨0,0,0,ab,ab,⟨4000000+j,gO j,[]⟩,⟨5000000+j,gI j,[]⟩⟩
def IC(a r:Int)(s p:Bool)(j:Nat):JV:=⟨a,r,0,s,p,⟨4000000+j,0,[]⟩,⟨5000000+j,0,[]⟩⟩
def JD(m:PM)(d:Int)(j:Nat):JV:=⟨m.around j,m.rgO j,d,m.kd j==1,decide (0<=(m.vx j).of),⟨4000000+j,0,[]⟩,⟨5000000+j,0,[]⟩⟩
def Rl(f:Nat->JV)(n:Nat):List V:=flat (((aE n).map f).map No)
def Sr(f n):(Rl f n).length=n*7:=by rw[Rl,Ww K7,BC,HV]
def zg{α}(f n i)(y:α):((aE n).map f).set i y=(aE n).map (Ye f i y):=by apply QD;simp;intro j a h2;rw[JT];simp only[FG,LI,Ye];by_cases e:i=j;subst e;simp;rw[AA e,AA (FS e)]
def XI{α:Type}(f:Nat->α){n i}(h:i<n):((aE n).map f)[i]?=ae (f i):=by rw[ED,cH h]<;>rfl
def Rs{f n i j v}(y)(hi:i<n)(b:j<7)(a:(No y).cells=(No (f i)).cells.set j v):(Rl f n).set (i*7+j) v=Rl (Ye f i y) n:=by rw[Rl,X4 K7 b (XI f hi) a,zg,Rl]
def Fv{f n i j v}(hi:i<n)(b:j<7)(a:(No (f i)).cells[j]?=ae v):(Rl f n)[i*7+j]?=ae v:=As K7 b (XI f hi) a
def M0{α}(f i)(x y:α):Ye (Ye f i x) i y=Ye f i y:=by funext j;simp only[Ye];split<;>rfl
def Hy{f f' n}(h:∀ j,j<n->f j=f' j):Rl f n=Rl f' n:=by unfold Rl;rw[FQ λj a=>h j (DC.1 a)]
def RW(m:PM)(j:Nat):Int:=(aa (Mm m (m.around j)):Nat)
def f3(m:PM)(i j:Nat):JV:=JD m (if j<i then RW m j else 0) j
def vV(m i):Ye (f3 m i) i (JD m (RW m i) i)=f3 m (i+1):=by funext j;by_cases e:j=i;subst e;rw[Ys,f3,AF (GH _)];rw[Zy _ _ e,f3,f3];by_cases q:j<i;rw[AF q,AF zo];rw[AA q,AA zo]
def gU{κ B}:∀ xs n,n+xs.length<=B->Oo (fun(s:Nat) (_:κ)=>s<B/\(none:Option Code)=none) (λs _=>((none:Option Code).isNone,s+1)) n xs
 |[],_,_=>trivial|_::r,n,h=>⟨⟨by simp at h;omega,rfl⟩,λ_=>gU r (n+1) (by simp at h;omega)⟩
def dI{κ}:∀ xs n,(Y4 (fun(s:Nat) (_:κ)=>((none:Option Code).isNone,s+1)) n xs).2=n+xs.length
 |[],_=>rfl|_::r,n=>by show(Y4 _ _ r).2=_;rw[dI r (n+1),CW];omega
def oN(m v):(Mm m v).length<=66:=by
 have a:∀ (f) (v),aa (m.upsF f v)<=f:=by
  intro f
  induction f with|zero=>intro v;exact BO _|succ f ih=>intro v;rw[PM.upsF];split;exact CB _;rw[CW];exact QO (ih _)
 unfold Mm;split;rw[CW];exact QO (a 65 v);exact CB _
def f4(m:PM)(gO gI:Nat->Nat)(t j:Nat):JV:=⟨m.around j,m.rgO j,RW m j,m.kd j==1,decide (0<=(m.vx j).of),⟨4000000+j,gO j,m.wysI j ab t⟩,⟨5000000+j,gI j,m.wysI j ad t⟩⟩
def nX(m gO gI)(t n na ne t1 b:Nat)(ha:na<n)(d:ne<n)(e:(m.wy (t:Int)).AV=(na:Int))(h2:(m.wy (t:Int)).target=(ne:Int)):((Rl (f4 m gO gI t) n).set (na*7+5) (AZ (4000000+na) t1 1 (m.wysI na ab t++[(t:Int)]))).set (ne*7+6) (AZ (5000000+ne) b 1 (m.wysI ne ad t++[(t:Int)]))=Rl (f4 m (Ye gO na t1) (Ye gI ne b) (t+1)) n:=by
 rw[Rs {f4 m gO gI t na with out:=⟨4000000+na,t1,m.wysI na ab t++[(t:Int)]⟩} ha zd rfl,
  Rs {Ye (f4 m gO gI t) na {f4 m gO gI t na with out:=⟨4000000+na,t1,m.wysI na ab t++[(t:Int)]⟩} ne with DN:=⟨5000000+ne,b,m.wysI ne ad t++[(t:Int)]⟩} d zd rfl]
 refine Hy λj _=>?_;have f:=congrFun (PM.outs_next e) j;have g:=congrFun (PM.intos_next h2) j;unfold f4;rw[f,g];simp only[Ye];by_cases c:j=ne;subst c;by_cases a:j=na;subst a;simp;simp[a];by_cases a:j=na;subst a;simp[c];simp[c,a]
def SN(m:PM)(j:Nat):TT:=⟨m.around j,m.rgO j,RW m j,m.kd j==1,decide (0<=(m.vx j).of),Zb (m.outI j),Zb (m.intoI j)⟩
def Qm(m:PM):LC:=⟨.mk ab ((aE (aa m.AN)).map (SN m)),.slice .new ab 1 (Qa (m.kidL (aa m.AN)) (aa m.AU)),.FM (St (m.ownK (aa m.AU))) (Qa (Up (m.ownK (aa m.AU))) (aa (m.ownK (aa m.AU)))),
 .FM (St (m.pntK (aa m.AN))) (Qa (Up (m.pntK (aa m.AN))) (aa (m.pntK (aa m.AN))))⟩
def Io{m i p}(h:(Qm m).places.l[i]?=ae p):p=SN m i:=by have h:((aE _).map _)[i]?=ae p:=h;rw[ED]at h;rcases a:(aE _)[i]? with _|j;rw[a]at h;cases h;have⟨_,b⟩:=DG.1 a;rw[LI]at b;subst b;rw[a]at h;cases h;rfl
def ACL(m):EQ m (Qm m) where
 len:=by show aa ((aE _).map _)=_;rw[BC,HV]
 PQ:=λi p h=>by rw[Io h]<;>rfl
 bN:=λi p h=>by rw[Io h]<;>rfl
 st:=λi p h=>by rw[Io h]<;>rfl
 pt:=λi p h=>by rw[Io h]<;>rfl
 out:=λi p h=>by rw[Io h];exact Zl _
 DN:=λi p h=>by rw[Io h];exact Zl _
def p9(gO gI):∀ n,Tr n [qI 0,qI 0,qI 0,ab,ab,.AG,.AG]=Rl (VK gO gI) n:=by
 intro n;have a:∀ (k n),Tr n [qI 0,qI 0,qI 0,ab,ab,.AG,.AG]=flat (((List.range' k n).map (VK gO gI)).map No):=by
  intro k n
  induction n generalizing k with|zero=>rfl|succ n ih=>rw[List.range'_succ,BI,BI];show _++Tr n _=(No _).cells++flat _;rw[ih _]<;>rfl
 rw[a 0 n,Rl,List.range_eq_range']
def wO(B g):∀ n,Tr n [V.AG]=(aE n).map (Oz B g λ_=>[]):=by
 intro n;have a:∀ (k n),Tr n [V.AG]=(List.range' k n).map (Oz B g λ_=>[]):=by
  intro k n
  induction n generalizing k with|zero=>rfl|succ n ih=>rw[List.range'_succ,BI];show[V.AG]++Tr n _=_;rw[ih _]<;>rfl
 rw[a 0 n,List.range_eq_range']
def im{f A Z:Nat->JV}{i n}(b:∀ j,j<n->f j=if j<i then A j else Z j):∀ j,j<n->Ye f i (A i) j=if j<i+1 then A j else Z j:=by intro j a;by_cases e:j=i;subst e;rw[Ys,AF (GH _)];rw[Zy _ _ e,b j a];by_cases q:j<i;rw[AF q,AF zo];rw[AA q,AA zo]
def fy(B g L)(k:Int):Kh Tryz.prog 124 (.FM (St L) (Gd B g L)) k ab=ae (Oz B g (Up L) (Pd L k)):=by unfold Kh;rw[underlying124];simp only[UP,underlying3,eV k L _ (nq B g L)];rw[<- oI];cases(Gd B g L)[Pd L k]? <;> rfl
abbrev JB(L:List (Int×iS)):V:=.FM (St L) (Qa (Up L) (aa L))
abbrev oW(m:BR):=m.p.ownK (aa m.AU.l)
abbrev pW(m:BR):=m.p.pntK (aa m.AL.l)
abbrev rK(m:BR):V:=.slice .new ab 1 (Qa (m.p.kidL (aa m.AL.l)) (aa m.AU.l))
abbrev pO(gp:Nat)(m:BR)(f:Nat->JV):Nat×BL:=(130,qC gp 0 (Rl f (aa m.AL.l)))
abbrev xO(gx gp:Nat)(m:BR)(a b c:V):Nat×BL:=(138,qC gx 0 [.A_ 130 gp 0 (aa m.AL.l) 7,a,b,c])
abbrev xT(gx gp:Nat)(m:BR):Nat×BL:=xO gx gp m (rK m) (JB (oW m)) (JB (pW m))
abbrev h2(X:Cx)(b2 gx gp gk:Nat)(m:BR)(i:Nat)(f:Nat->JV)(a b:Nat->Nat):List (Nat×BL):=[pO gp m f,(134,qC gk 0 ((aE (aa m.AU.l)).map (Oz 2000000 a (m.p.kidL i)))),(136,.mp X.w.heap.size b2 (St (m.p.pntK i)) (Gd 3000000 b (m.p.pntK i))),xO gx gp m (.A_ 134 gk 0 (aa m.AU.l) 1) (JB (oW m)) (.DF 136 b2)]
def vG(l n):flat (Qa l n)=Qa l n:=by
 unfold Qa
 induction aE n with|nil=>rfl|cons x r ih=>rw[BI];show(Za _ 1 () (Zb (l x))).cells++flat _=_;rw[ih];cases l x<;>rfl
def Fz.rows{F H o g fz n c l}(b:F o=ad)(a:H o=.cells c g fz (Qa l n)):Fz F H (.A_ o g 0 n 1) (.slice c ab 1 (Qa l n)):=by have e:Qa l n=(aE n).map _:=rfl;have:=Xm (H:=H) b (by rw[a,<- e,vG]) (λj=>by cases l j<;>rfl);rw[HV]at this;exact this
def mi(G)(hE:CR G)(c d m)(hb:EM m)(a:m.p.BW)(hr:m.p.rightP.2.2=0):Spec () G 20 [Zw c d m] Zm (V.tuple [I5 .new .new .new (Qm m.p),qI 0]):=by
 have hG:=hE.ok;refine PG 100 _ _ func20 λX=>?_;simp only[Zj];refine Z ?_;intro g1;refine Y2 (λo=>o==101) [2,3] [] (l:=[(1,qW (Zw c d m))]) (m:=[]) ?_ trivial ?_;simp -implicitDefEqProofs only[go_sem,seval];exact CS (v:=Zw c d m) (c:=.new) (fz:=0) zp (by rw[Zj];exact zp);refine Zf Zj ?_;refine Zc hG ?_ (s:=kl G hE _ _ m hb);refine Xc hr ?_;refine Zf hr ?_;have rtA:=PM.rt_of (PM.right_er.1 hr);have rt:=rtA.toFB;refine Pr Zj hG ?_;have hnx:=hb.nx;have hnr:=hb.nr;refine⟨⟨TD _,zo,zo⟩,λx=>⟨⟨TD _,zo,zo⟩,λE T I q g7=>?_⟩⟩;rw[<- Zj];refine Y2 (λo=>o==107) [1] [130,134,135,136] (l:=[(7,qW (.ptr 138 q 0))]) (m:=[xO q x m (.A_ 134 E 0 (aa m.AU.l) 1) (.DF 135 T) (.DF 136 I)]) ?_ ?_ ?_;simp -implicitDefEqProofs only[go_sem,seval];exact CS (v:=.ptr 138 q 0) (c:=.new) (fz:=0) zp zp;simp only[Z2,Z5,CE];exact CQ rfl zp;refine Zf Zj ?_;refine Wy (aa m.AU.l) (λk  g=>⟨Yb Mv [(1,qW (Zw c d m)),(7,qW (.ptr 138 q 0)),(40,Za c 2 Yw m.AU),(41,aa m.AU.l),(42,k)],Yb (Vj 1000000 g (Up (m.p.ownK k)) Zm) [(130,qC x 0 (Tr (aa m.AL.l) [qI 0,qI 0,qI 0,ab,ab,.AG,.AG])),(134,qC E 0 (Tr (aa m.AU.l) [.AG])),(135,.mp X.w.heap.size T (St (m.p.ownK k)) (Gd 1000000 g (m.p.ownK k))),(136,.mp X.w.heap.size I [] []),xO q x m (.A_ 134 E 0 (aa m.AU.l) 1) (.DF 135 T) (.DF 136 I)]⟩)
  (λ_ _=>True) 0 (λ_=>0) qz trivial (Pn (by rw[Zj];exact zp) zp ?_) ?_
 intro o;refine .inl ?_;show Vj _ _ _ _ o=_;unfold Vj;split<;>rfl;intro k g hk _ L hL;by_cases hk1:k<aa m.AU.l;have C:=zU ((k:Int)<(aa m.AU.l:Int));have hg:=AY hk1;generalize m.AU.l[k]=J at hg;have how:=Mr hg;refine Zf (j5 C hg hk1 @Xj Ya) ?_;intro g9;refine U6 [(124,.ptr 138 q 2,.DF 135 T),(3,.ptr 109 g9 1,qI J.2)] ⟨λj=>if j=3 then .DF 135 T else if j=9 then .DF 135 T else qI J.2,λj=>if j=0 then .CO else if j=6 then .CO else .keep⟩ zk hG zk zk ?_;simp -implicitDefEqProofs only[go_sem,seval,fy 1000000 g (m.p.ownK k) J.2,@DS,@GY,true_or,or_true];refine⟨rfl,λg61=>?_⟩;have hix:=D4 (m.p.ownK k) J.2;have hkl:=PM.ownK_len (m:=m.p) k;refine U5 (f:=V.int .i64) (o:=1000000+Pd (m.p.ownK k) J.2) (g:=g (Pd (m.p.ownK k) J.2)) (l:=Up (m.p.ownK k) (Pd (m.p.ownK k) J.2)) (l2:=[(k:Int)]) (λ_=>rfl) rfl rfl rfl ?_ ?_ λo2 g2 D=>?_
 (repeat rw[Zy _ _ zo])
 exact R4 zo;have:=PM.ownK_row (m:=m.p) k (Pd (m.p.ownK k) J.2);exact Z3 zo zO;have D:o2=1000000+Pd (m.p.ownK k) J.2\/o2=162:=D;have N:(138=o2)=False:=GD zo;have n109:(109=o2)=False:=GD zo;have n135:(135=o2)=False:=GD zo;have n2:(o2=135)=False:=GD zo;simp -implicitDefEqProofs only[go_sem,seval,Ln underlying124 underlying3,iX 1000000 g (m.p.ownK k) J.2 k,Dm,BO,N,n109,n135];refine Kc [(1,qW (Zw c d m)),(7,qW (.ptr 138 q 0)),(40,Za c 2 Yw m.AU),(41,aa m.AU.l),(42,k)] (g:=g) (l:=Up (m.p.ownK k)) (H0:=Zm) (m:=[(130,qC x 0 (Tr (aa m.AL.l) [qI 0,qI 0,qI 0,ab,ab,.AG,.AG])),(134,qC E 0 (Tr (aa m.AU.l) [.AG])),(135,.mp X.w.heap.size T (St (m.p.ownK k)) (Gd 1000000 g (m.p.ownK k))),(136,.mp X.w.heap.size I [] []),xO q x m (.A_ 134 E 0 (aa m.AU.l) 1) (.DF 135 T) (.DF 136 I)]) 135 1000000 162 (Pd (m.p.ownK k) J.2) (λu=>.mp X.w.heap.size T (St (R8 (m.p.ownK k) J.2 k)) (Hv 1000000 g (m.p.ownK k) J.2 u)) (o2:=o2) (g2:=g2) (r:=Up (m.p.ownK k) (Pd (m.p.ownK k) J.2)++[(k:Int)]) zS D zo
  (λa t b s=>RnX.mp (Rn.row a t b s zS)) (zq n2) (zp) (λo h1 h2 h3=>?_) zp λt=>?_
 by_cases e1:o=109;subst e1;exact .inl rfl;by_cases e2:o=161;subst e2;exact .inl rfl;right
 (repeat rw[Zy _ _ zo])
 rfl;have w1:=wQ ((k:Int)+1);refine Zf w1 ?_;have eR:Up (m.p.ownK (k+1))=Ye (Up (m.p.ownK k)) (Pd (m.p.ownK k) J.2) (Up (m.p.ownK k) (Pd (m.p.ownK k) J.2)++[(k:Int)]):=by rw[PM.ownK_succ,how];exact funext λj=>Ky _ _ _ j
 have eM:=ja 1000000 g (m.p.ownK k) J.2 k t;have eS:R8 (m.p.ownK k) J.2 k=m.p.ownK (k+1):=by rw[PM.ownK_succ,how]
 rw[eS]at eM⊢;rw[eM,<- eR];refine hL _ ⟨hk1,Ye g (Pd (m.p.ownK k) J.2) t,AJ,Pn zp zp λo=>?_⟩;exact nL (m:=(135,_)::(162,.AR)::[(130,qC x 0 (Tr (aa m.AL.l) [qI 0,qI 0,qI 0,ab,ab,.AG,.AG])),(134,qC E 0 (Tr (aa m.AU.l) [.AG])),(135,.mp X.w.heap.size T (St (m.p.ownK k)) (Gd 1000000 g (m.p.ownK k))),(136,.mp X.w.heap.size I [] []),xO q x m (.A_ 134 E 0 (aa m.AU.l) 1) (.DF 135 T) (.DF 136 I)]) rfl o;have hke:k=aa m.AU.l:=zo;have C:=zV ((aa m.AU.l:Int)<(aa m.AU.l:Int));have hkl:=PM.ownK_len (m:=m.p) (aa m.AU.l);rw[hke];refine BM (Z4 (λo=>Nat.ble 1000000 o) (l:=[(1,qW (Zw c d m)),(7,qW (.ptr 138 q 0)),(41,aa m.AU.l),(42,aa m.AU.l)]) (m:=[(130,qC x 0 (Tr (aa m.AL.l) [qI 0,qI 0,qI 0,ab,ab,.AG,.AG])),(134,qC E 0 (Tr (aa m.AU.l) [.AG])),(135,.mp X.w.heap.size T (St (m.p.ownK (aa m.AU.l))) (Qa (Up (m.p.ownK (aa m.AU.l))) (aa (m.p.ownK (aa m.AU.l))))),(136,.mp X.w.heap.size I [] []),xO q x m (.A_ 134 E 0 (aa m.AU.l) 1) (.DF 135 T) (.DF 136 I)]) ?_ ?_) ?_;simp -implicitDefEqProofs only[go_sem,seval];exact⟨Zd,Zd,Zd⟩;simp only[Z2,Z5,CE];exact⟨CQ rfl zp,CQ rfl zp,dh zp (FzL.fam zo (λj _=>TN zo) λj S=>(Sz (lo:=1000000) rfl zo).trans (R4 S)),CQ rfl zp,CQ rfl zp⟩;refine BM (g_ 135 (lo:=X.w.heap.size) (b:=T) (ks:=St (m.p.ownK (aa m.AU.l))) (vs:=Qa (Up (m.p.ownK (aa m.AU.l))) (aa (m.p.ownK (aa m.AU.l)))) [(1,qW (Zw c d m)),(7,qW (.ptr 138 q 0)),(41,aa m.AU.l),(42,aa m.AU.l)] [(130,qC x 0 (Tr (aa m.AL.l) [qI 0,qI 0,qI 0,ab,ab,.AG,.AG])),(134,qC E 0 (Tr (aa m.AU.l) [.AG])),(136,.mp X.w.heap.size I [] []),xO q x m (.A_ 134 E 0 (aa m.AU.l) 1) (JB (oW m)) (.DF 136 I)] zp ql ?_ ?_) ?_;simp -implicitDefEqProofs only[go_sem,seval];exact⟨.inl rfl,.inl rfl,.inl rfl⟩;simp -implicitDefEqProofs only[go_sem,seval];exact⟨TK ..,TK ..,TK ..,_,rfl,.inl rfl,.inl rfl,.inr ⟨rfl,rfl⟩,.inl rfl,AJ⟩;refine Zf (zi C Zj) ?_;refine Wy (aa m.AL.l) (λi  z=>⟨Yb Mv [(1,qW (Zw c d m)),(7,qW (.ptr 138 q 0)),(65,Za c 8 (Y6 d) m.AL),(66,aa m.AL.l),(67,i)],Yb (Vj 2000000 z.2.1 (m.p.kidL i) (Vj 3000000 z.2.2 (Up (m.p.pntK i)) Zm)) (h2 X I q x E m i z.1 z.2.1 z.2.2)⟩)
  (λi z=>∀ j,j<aa m.AL.l->z.1 j=if j<i then JD m.p 0 j else VK (λ_=>0) (λ_=>0) j) 0 (VK (λ_=>0) (λ_=>0),λ_=>0,λ_=>0) qz (λj S=>(AA (FH _)).symm) (Pn (by rw[Zj];exact zp) ?_ ?_) ?_
 simp -implicitDefEqProofs only[go_sem,seval];rw[p9 (λ_=>0) (λ_=>0),wO 2000000 (λ_=>0)];exact⟨rfl,rfl,rfl⟩;intro o;refine .inl ?_;show Vj _ _ _ _ o=_;unfold Vj;split;rfl;split<;>rfl;rintro i ⟨f,M,K⟩ hi hR L2 hL2;simp only at hR;by_cases y:i<aa m.AL.l;have C:=zU ((i:Int)<(aa m.AL.l:Int));have hg:=AY y;generalize m.AL.l[i]=A at hg;have O:=Rj hg;refine Zf (j5 C hg y Zp Ya) ?_;intro g11;refine BM (jn (λo=>o==111) (B:=(Vj 2000000 M (m.p.kidL i) (Vj 3000000 K (Up (m.p.pntK i)) Zm))) (l:=[(10,i),(1,qW (Zw c d m)),(7,qW (.ptr 138 q 0)),(65,Za c 8 (Y6 d) m.AL),(66,aa m.AL.l),(67,i),(11,qW (Y6 d A))]) (m:=(h2 X I q x E m i f M K)) ?_ ?_ λo=>?_) ?_;simp -implicitDefEqProofs only[go_sem,seval];exact⟨Zd,Zd,Zd,Zd,Zd,Zd,CS (v:=Y6 d A) (c:=.new) (fz:=0) rfl zp⟩;simp only[Z2,Z5,CE];exact⟨CQ rfl zp,CQ rfl zp,CQ rfl zp,CQ rfl zp⟩;exact iJ (lo:=2000000) (((QL 2000000).fam zd).fam zd) (λo ho=>OG (show o≠111 by omega)) (m:=(111,_)::(111,_)::(h2 X I q x E m i f M K)) rfl o;refine Zf (j3 y Zp Ya) ?_;refine Zv ⟨λ_=>.top,λ_=>.CO⟩ zk hG zk zk ?_;have h3:=Rs (f:=f) (n:=aa m.AL.l) (j:=3) (v:=.bool (A.AD==1)) (IC 0 0 (A.AD==1) ab i) y zd (by rw[hR i y,AA (LM _)];rfl);have h4:=Rs (f:=Ye f i (IC 0 0 (A.AD==1) ab i)) (n:=aa m.AL.l) (j:=4) (v:=.bool (decide (A.of>=0))) (IC 0 0 (A.AD==1) (decide (A.of>=0)) i) y zd (by rw[Ys];rfl);rw[M0]at h4;have c3:i*7+3+1<=aa m.AL.l*7:=zo;have c4:i*7+4+1<=aa m.AL.l*7:=zo;have c5:i*7+4<aa m.AL.l*7:=zo;refine Xc (j6 y @Sr c3 c4 h3 h4) ?_;have h5:=Fv (f:=Ye f i (IC 0 0 (A.AD==1) (decide (A.of>=0)) i)) (n:=aa m.AL.l) (j:=4) (v:=.bool (decide (A.of>=0))) y zd (by rw[Ys];rfl);generalize hf4:Ye f i (IC 0 0 (A.AD==1) (decide (A.of>=0)) i)=f4 at h5;have h6:f4 i=IC 0 0 (A.AD==1) (decide (A.of>=0)) i:=by rw[<- hf4,Ys]
 refine BM (Pn (B:=(Vj 2000000 M (m.p.kidL i) (Vj 3000000 K (Up (m.p.pntK i)) Zm))) (l:=[(1,qW (Zw c d m)),(7,qW (.ptr 138 q 0)),(65,Za c 8 (Y6 d) m.AL),(66,aa m.AL.l),(67,i),(10,i),(11,qW (Y6 d A)),(12,.ptr 130 x (i*7))]) (m:=(h2 X I q x E m i f4 M K)) (by rw[Zp];exact zp) zp λo=>?_) ?_;exact WJ (lo:=2000000) (((QL 2000000).fam zd).fam zd) (m:=(130,_)::(130,_)::(h2 X I q x E m i f M K)) rfl o;by_cases ho:0<=A.of;have q0:=zU (A.of>=0);rw[q0]at h5 h6;have hpt:=rt.pt (v:=(i:Int)) (DS i) (by rw[m.nv];omega);rw[O]at hpt;obtain⟨_,hp1,_⟩:=hpt.resolve_right (λh=>by have:A.of = -1:=h.1;omega);have hp1:A.of<aa m.p.AN:=hp1;obtain⟨o,vo,hoe,hok,hgo,hvo⟩:=EH ho hp1;have f2:=j6 hoe hok hgo Zp Zj Ya;refine Zf (j5 h5 Sr c4 c5 Zp) ?_;refine Zv ⟨λ_=>.top,λ_=>.CO⟩ zk hG zk zk ?_;have s0:(Rl f4 (aa m.AL.l)).set (i*7) (o:Int)=_:=Rs (f:=f4) (j:=0) (IC (o:Int) 0 (A.AD==1) ad i) y zd (by rw[h6];rfl);have s1:=Rs (f:=Ye f4 i (IC (o:Int) 0 (A.AD==1) ad i)) (n:=aa m.AL.l) (j:=1) (v:=qI vo.region) (IC (o:Int) vo.region (A.AD==1) ad i) y zd (by rw[Ys];rfl);rw[M0]at s1;have k0:i*7+1<=aa m.AL.l*7:=zo;have k1:i*7+1+1<=aa m.AL.l*7:=zo;simp -implicitDefEqProofs only[go_sem,seval,f2,y,Sr,k0,k1,s0,s1,CB];generalize hf6:Ye f4 i (IC (o:Int) vo.region (A.AD==1) ad i)=f6;refine Zz ?_;refine U6 [(124,.ptr 138 q 3,.DF 136 I)] ⟨λj=>.DF 136 I,λj=>if j=3 then .keep else if j=9 then .keep else .CO⟩ zk hG zk zk ?_;have hpl:=PM.pntK_len (m:=m.p) i;have hix:=D4 (m.p.pntK i) (o:Int);simp -implicitDefEqProofs only[go_sem,seval,fy 3000000 K (m.p.pntK i) (o:Int)];refine⟨rfl,λg23=>?_⟩;refine U5 (f:=V.int .i64) (o:=3000000+Pd (m.p.pntK i) (o:Int)) (g:=K (Pd (m.p.pntK i) (o:Int))) (l:=Up (m.p.pntK i) (Pd (m.p.pntK i) (o:Int))) (l2:=[(i:Int)]) (λ_=>rfl) rfl rfl rfl ?_ ?_ λo2 g2 D=>?_
 (repeat rw[Zy _ _ zo])
 rw[T9 zo];exact R4 zo;have:=PM.pntK_row (m:=m.p) i (Pd (m.p.pntK i) (o:Int));exact Z3 zo zO;have D:o2=3000000+Pd (m.p.pntK i) (o:Int)\/o2=224:=D;have N:(138=o2)=False:=GD zo;have n136:(136=o2)=False:=GD zo;have n2:(o2=136)=False:=GD zo;simp -implicitDefEqProofs only[go_sem,seval,Ln underlying124 underlying3,iX 3000000 K (m.p.pntK i) (o:Int) i,Dm,BO,N,n136];refine Kc [(1,qW (Zw c d m)),(7,qW (.ptr 138 q 0)),(65,Za c 8 (Y6 d) m.AL),(66,aa m.AL.l),(67,i)] (g:=K) (l:=Up (m.p.pntK i)) (H0:=Vj 2000000 M (m.p.kidL i) Zm) (m:=(h2 X I q x E m i f6 M K)) 136 3000000 224 (Pd (m.p.pntK i) (o:Int)) (λu=>.mp X.w.heap.size I (St (R8 (m.p.pntK i) (o:Int) i)) (Hv 3000000 K (m.p.pntK i) (o:Int) u)) (o2:=o2) (g2:=g2) (r:=Up (m.p.pntK i) (Pd (m.p.pntK i) (o:Int))++[(i:Int)]) zS D zo
  (λa t b s=>RnX.mp (Rn.row a t b s zS)) (zq n2) (zp) (λo' h1 h2 h3=>?_) zp λt=>?_
 by_cases e2:o'=223;subst e2;exact .inl rfl;right;rw[It (B:=3000000) (B':=2000000) zo]
 (repeat rw[Zy _ _ zo])
 by_cases e3:o'=130;subst e3;rfl
 (repeat rw[Zy _ _ zo])
 refine Zs ?_;exact(AA e3).symm;have w1:=wQ ((i:Int)+1);refine Zf w1 ?_;have W:(m.p.vx (i:Int)).of=(o:Int):=by rw[O];exact hoe
 have eP:m.p.pntK (i+1)=R8 (m.p.pntK i) (o:Int) i:=by rw[PM.pntK_pt (by rw[W];exact DS o),W]
 have eR:Up (m.p.pntK (i+1))=Ye (Up (m.p.pntK i)) (Pd (m.p.pntK i) (o:Int)) (Up (m.p.pntK i) (Pd (m.p.pntK i) (o:Int))++[(i:Int)]):=by rw[eP];exact funext λj=>Ky _ _ _ j
 have eM:=ja 3000000 K (m.p.pntK i) (o:Int) i t;rw[<- eP]at eM⊢;rw[eM,<- eR];have eK:m.p.kidL (i+1)=m.p.kidL i:=PM.kidL_pt (by rw[W];exact DS o);have hB:JD m.p 0 i=IC (o:Int) vo.region (A.AD==1) ad i:=by rw[hoe]at hvo;unfold JD PM.around PM.rgO PM.kd;rw[W,AF (DS o),AF (DS o),hvo,O,EI (DS o)];rfl
 refine hL2 _ ⟨y,(f6,M,Ye K (Pd (m.p.pntK i) (o:Int)) t),?_,Pn zp ?_ λo'=>?_⟩;show ∀ j,j<aa m.AL.l->f6 j=_;rw[<- hf6,<- hf4,M0,<- hB];exact im hR;unfold h2;rw[eK];exact zp;rw[eK,It (B:=2000000) (B':=3000000) zo];dsimp only;exact WJ (lo:=2000000) (((QL 2000000).fam zd).fam zd) (m:=(136,_)::(224,.AR)::(h2 X I q x E m i f6 M K)) rfl o';have q0:=zV (A.of>=0);rw[q0]at h5 h6;have hpt:=rt.pt (v:=(i:Int)) (DS i) (by rw[m.nv];omega);rw[O]at hpt;obtain⟨_,hr0,hr1,_⟩:=hpt.resolve_left (λh=>ho h.1);have hr0:0<=A.region:=hr0;have hr1:A.region<aa m.p.AU:=hr1;obtain⟨r,ry,hre,U,hrg,hro⟩:=Ov hr0 hr1;have f2:=j7 hre U hrg Zp Zj @Xj Ya;refine Zf (j5 h5 Sr c4 c5 Zp) ?_;refine Zv ⟨λ_=>.top,λ_=>.CO⟩ zk hG zk zk ?_;have s0:(Rl f4 (aa m.AL.l)).set (i*7) (qI ry.2)=_:=Rs (f:=f4) (j:=0) (IC ry.2 0 (A.AD==1) ab i) y zd (by rw[h6];rfl);have s1:=Rs (f:=Ye f4 i (IC ry.2 0 (A.AD==1) ab i)) (n:=aa m.AL.l) (j:=1) (v:=qI (r:Int)) (IC ry.2 (r:Int) (A.AD==1) ab i) y zd (by rw[Ys];rfl);rw[M0]at s1;have k0:i*7+1<=aa m.AL.l*7:=zo;have k1:i*7+1+1<=aa m.AL.l*7:=zo;simp -implicitDefEqProofs only[go_sem,seval,f2,y,Sr,k0,k1,s0,s1,CB];generalize hf6:Ye f4 i (IC ry.2 (r:Int) (A.AD==1) ab i)=f6;refine U6 [(97,.ptr 138 q 1,.A_ 134 E 0 (aa m.AU.l) 1)] ⟨λj=>.A_ 134 E 0 (aa m.AU.l) 1,λj=>if j=3 then .keep else if j=9 then .keep else if j=13 then .pure else .CO⟩ zk hG zk zk ?_;have hkr:((aE (aa m.AU.l)).map (Oz 2000000 M (m.p.kidL i)))[r]?=ae (Oz 2000000 M (m.p.kidL i) r):=XI _ U;simp -implicitDefEqProofs only[go_sem,seval,hkr,U,BC,HV,@DS,@GY,GV];refine⟨rfl,λg55=>?_⟩;have hkn:=PM.kidL_len (m:=m.p) i r;refine U5 (f:=V.int .i64) (o:=2000000+r) (g:=M r) (l:=m.p.kidL i r) (l2:=[(i:Int)]) (λ_=>rfl) rfl rfl rfl ?_ (Z3 zo zO) λo2 g2 D=>?_
 (repeat rw[Zy _ _ zo])
 exact R4 zo;have D:o2=2000000+r\/o2=256:=D;have n134:(134=o2)=False:=GD zo;have N:(138=o2)=False:=GD zo;have n2:(o2=134)=False:=GD zo;have Q:(130=o2)=False:=GD zo;have hrk1:r+1<=aa m.AU.l:=U;simp -implicitDefEqProofs only[go_sem,seval,U,hrk1,BC,HV,@DS,@GY,GV,n134,N,CB];refine Kc [(1,qW (Zw c d m)),(7,qW (.ptr 138 q 0)),(65,Za c 8 (Y6 d) m.AL),(66,aa m.AL.l),(67,i)] (g:=M) (l:=m.p.kidL i) (H0:=Vj 3000000 K (Up (m.p.pntK i)) Zm) (m:=(h2 X I q x E m i f6 M K)) 134 2000000 256 r (λu=>qC E 0 (((aE (aa m.AU.l)).map (Oz 2000000 M (m.p.kidL i))).set r u)) (o2:=o2) (g2:=g2) (r:=m.p.kidL i r++[(i:Int)]) zS D zo
  (λa t b s=>RnX.cl (Rn.row a t b s zS)) (zq n2) (zp) (λo' h1 h2 h3=>?_) (by rw[Zj];exact zp) λt=>?_
 by_cases e2:o'=255;subst e2;exact .inl rfl;right;by_cases e3:o'=130;subst e3;simp -implicitDefEqProofs only[go_sem,seval,Q]
 (repeat rw[Zy _ _ zo])
 refine Zs ?_;exact((AA e3).trans (AA h1)).symm;have w1:=wQ ((i:Int)+1);refine Zf w1 ?_;have W:(m.p.vx (i:Int)).of=A.of:=by rw[O];rfl
 have hrg2:(m.p.vx (i:Int)).region=(r:Int):=by rw[O];exact hre
 have R:¬0<=(m.p.vx (i:Int)).of:=by rw[W];exact ho
 have eP:m.p.pntK (i+1)=m.p.pntK i:=PM.pntK_no R;have eK:=PM.kidL_at (m:=m.p) (n:=i) (r:=r) zo hrg2;have eS:=dt (B:=2000000) (g:=M) (l:=m.p.kidL i) (n:=aa m.AU.l) (j:=r) (k:=t) (r:=m.p.kidL i r++[(i:Int)]) U;rw[eS,<- eK];have hB:JD m.p 0 i=IC ry.2 (r:Int) (A.AD==1) ab i:=by rw[hre]at hro;unfold JD PM.around PM.rgO PM.kd;rw[AA R,AA R,hrg2,hro,O,GC (by rw[<- O];exact R)];rfl
 refine hL2 _ ⟨y,(f6,Ye M r t,K),?_,Pn (by rw[Zj];exact zp) ?_ λo'=>?_⟩;show ∀ j,j<aa m.AL.l->f6 j=_;rw[<- hf6,<- hf4,M0,<- hB];exact im hR;unfold h2;rw[eP];exact zp;rw[eP];dsimp only;exact WJ (lo:=2000000) (((QL 2000000).fam zd).fam zd) (m:=(134,_)::(256,.AR)::(h2 X I q x E m i f6 M K)) rfl o';have hie:i=aa m.AL.l:=zo;have C:=zV ((aa m.AL.l:Int)<(aa m.AL.l:Int));have hpl:=PM.pntK_len (m:=m.p) (aa m.AL.l);subst hie;refine BM (Z4 (λo=>Nat.ble 2000000 o) (l:=[(1,qW (Zw c d m)),(7,qW (.ptr 138 q 0)),(66,aa m.AL.l),(67,aa m.AL.l)]) (m:=[pO x m f,(134,qC E 0 (Qa (m.p.kidL (aa m.AL.l)) (aa m.AU.l))),(136,.mp X.w.heap.size I (St (m.p.pntK (aa m.AL.l))) (Qa (Up (m.p.pntK (aa m.AL.l))) (aa (m.p.pntK (aa m.AL.l))))),xO q x m (.A_ 134 E 0 (aa m.AU.l) 1) (JB (oW m)) (.DF 136 I)]) ?_ ?_) ?_;simp -implicitDefEqProofs only[go_sem,seval];exact⟨Zd,Zd,Zd⟩;simp only[Z2,Z5,CE];exact⟨CQ rfl zp,D_ rfl zp (FzL.fam zo (λj _=>TN zo) λj S=>(Sz (lo:=2000000) rfl zo).trans (R4 S)),dh zp (FzL.fam zo (λj _=>TN zo) λj S=>(Sz (lo:=2000000) rfl zo).trans ((T9 zo).trans (R4 S))),CQ rfl zp⟩;refine BM (g_ 136 (lo:=X.w.heap.size) (b:=I) (ks:=St (m.p.pntK (aa m.AL.l))) (vs:=Qa (Up (m.p.pntK (aa m.AL.l))) (aa (m.p.pntK (aa m.AL.l)))) [(1,qW (Zw c d m)),(7,qW (.ptr 138 q 0)),(66,aa m.AL.l),(67,aa m.AL.l)] [pO x m f,(134,qC E 0 (Qa (m.p.kidL (aa m.AL.l)) (aa m.AU.l))),xO q x m (.A_ 134 E 0 (aa m.AU.l) 1) (JB (oW m)) (JB (pW m))] zp ql ?_ ?_) ?_;simp -implicitDefEqProofs only[go_sem,seval];exact⟨.inl rfl,.inl rfl,.inl rfl⟩;simp -implicitDefEqProofs only[go_sem,seval];exact⟨TK ..,TK ..,_,rfl,.inl rfl,.inl rfl,.inl rfl,.inr ⟨rfl,rfl⟩,AJ⟩;refine BM (Z4 (λo=>o==134) (l:=[(1,qW (Zw c d m)),(7,qW (.ptr 138 q 0)),(66,aa m.AL.l),(67,aa m.AL.l)]) (m:=[pO x m f,xT q x m]) ?_ ?_) ?_;simp -implicitDefEqProofs only[go_sem,seval];exact⟨Zd,Zd,Zd⟩;simp only[Z2,Z5,CE];exact⟨CQ rfl zp,D_ (cs:=[.A_ 130 x 0 (aa m.AL.l) 7,.A_ 134 E 0 (aa m.AU.l) 1,(JB (oW m)),(JB (pW m))]) rfl zp ⟨Zd,Fz.rows rfl zp,Zd,Zd,AJ⟩⟩;refine Zf (zi C Zj) ?_;have eC:Rl f (aa m.AL.l)=Rl (f3 m.p 0) (aa m.AL.l):=Hy λj S=>by rw[hR j S,AF S];rfl
 rw[eC];refine Wy (aa m.AL.l) (λi  _=>st [(1,qW (Zw c d m)),(7,qW (.ptr 138 q 0)),(162,.A_ 130 x 0 (aa m.AL.l) 7),(163,aa m.AL.l),(164,i)] [pO x m (f3 m.p i),xT q x m])
  (λ_ _=>True) 0 () qz trivial (AO (by rw[Zj];exact zp) zp) ?_
 intro i _ hi _ L3 hL3;by_cases y:i<aa m.AL.l;have C:=zU ((i:Int)<(aa m.AL.l:Int));refine Zf C ?_;intro g13;refine Zs ?_;refine Zz ?_;refine Zv ⟨λ_=>.top,λi=>if i=9 then .any else .pure⟩ zk hG zk zk ?_;have l0:(Rl (f3 m.p i) (aa m.AL.l))[i*7]?=ae (qI (m.p.around i)):=Fv (j:=0) y zd rfl;have k0:i*7+1<=aa m.AL.l*7:=zo;have k1:i*7<aa m.AL.l*7:=zo;simp -implicitDefEqProofs only[go_sem,seval,y,Sr,l0,k0,k1,@DS,@GY];refine HO [(52,.AR),(53,.AR)] zk ?_ ((G6 G (.ptr 138 q 0) _).mono ?_);intro p hp;simp only[BY,CL,CF]at hp;rcases hp with rfl|rfl<;>rfl;rintro w H' ⟨g2,g3',rfl,e2,e3⟩;simp -implicitDefEqProofs only[go_sem,seval,Yb,e2,e3];refine BK ?_;have har:m.p.around i<aa m.p.AN:=a.ar1 (DS i) (by rw[m.nv];omega);refine Ms 50 100 290 150 (λn:Nat=>Yb Zm [(113,qC g13 0 [i]),(130,qC x 0 (Rl (Ye (f3 m.p i) i (JD m.p n i)) (aa m.AL.l))),xT q x m]) (λc _=>c+1) (λ_=>none) (λn _=>n<66) 0 rfl
  (λl r'=>xK G hG m.p a q x (rK m) (JB (oW m)) (JB (pW m)) _ har g2 g3' _ zp zp) ?_ (gU _ 0 (by rw[EE];exact oN ..)) ?_ ?_ (hPp:=?_)
 simp -implicitDefEqProofs only[go_sem,seval];rw[Xf (f3 m.p i) i (JD m.p 0 i) (by rw[f3,AA (LM _)]),M0];exact Xf _ _ _ rfl;rintro l Y n k hr hn66 _;refine Zs ?_;refine EP ?_;refine Zs ?_;intro Z _;have l2:(Rl (Ye (f3 m.p i) i (JD m.p n i)) (aa m.AL.l))[i*7+2]?=ae (qI n):=Fv (j:=2) y zd (by rw[Ys];rfl);have s2:(Rl (Ye (f3 m.p i) i (JD m.p n i)) (aa m.AL.l)).set (i*7+2) (qI ((n:Int)+1))=_:=Rs (j:=2) (JD m.p ((n:Int)+1) i) y zd (by rw[Ys];rfl);rw[M0]at s2;have w1:=wQ ((n:Int)+1);have k2:i*7+2+1<=aa m.AL.l*7:=zo;have k3:i*7+2<aa m.AL.l*7:=zo;refine Pr (j8 y Sr l2 s2 w1 k2 k3 Ya) hG ?_;refine(Xf _ 290 BL.AR rfl).trans ?_;funext o;by_cases e1:o=130;subst e1;rfl;by_cases e2:o=113;subst e2;rfl;simp only[Ye,AA e1,AA e2];rintro H2 sf hs h2 h3;refine BM (JA (l:=[(1,qW (Zw c d m)),(7,qW (.ptr 138 q 0)),(162,.A_ 130 x 0 (aa m.AL.l) 7),(163,aa m.AL.l),(164,i)]) h2 zp) ?_;rw[dI,EE]at hs;have hs2:(sf:Int)=RW m.p i:=by rw[hs];rfl
 rw[hs2,vV];have w1:=wQ ((i:Int)+1);refine Zf w1 ?_;exact hL3 _ ⟨y,(),AJ,AO zp zp⟩;intro n H hH;have h138:H 138=_:=(congrFun hH 138);have h130:H 130=_:=(congrFun hH 130);refine⟨(aE (aa m.AL.l)).map (Ye (f3 m.p i) i (JD m.p n i)),by rw[BC,HV,m.nv],λj p hp=>?_,?_,?_⟩
 .rw[ED]at hp;rcases hq:(aE (aa m.AL.l))[j]? with _|j';rw[hq]at hp;cases hp;obtain⟨hj1,hj2⟩:=DG.1 hq;rw[LI]at hj2;subst hj2;rw[hq]at hp;cases hp;by_cases e:j=i;subst e;rw[Ys];rfl;rw[Zy _ _ e];rfl
 rw[BC,HV];exact h138;exact h130;have hie:i=aa m.AL.l:=zo;have C:=zV ((aa m.AL.l:Int)<(aa m.AL.l:Int));subst hie;refine Zf (zi C Zj) ?_;have eC:Rl (f3 m.p (aa m.AL.l)) (aa m.AL.l)=Rl (f4 m.p (λ_=>0) (λ_=>0) 0) (aa m.AL.l):=Hy λj S=>by rw[f3,AF S];rfl
 rw[eC];have hnw:=hb.nw;refine Wy (aa m.AE.l) (λt  z=>⟨Yb Mv [(1,qW (Zw c d m)),(7,qW (.ptr 138 q 0)),(191,Za c 8 (Xo d) m.AE),(192,aa m.AE.l),(193,t)],Yb (Vj 4000000 z.1 (λj=>m.p.wysI j ab t) (Vj 5000000 z.2 (λj=>m.p.wysI j ad t) Zm)) [pO x m (f4 m.p z.1 z.2 t),xT q x m]⟩)
  (λ_ _=>True) 0 (λ_=>0,λ_=>0) qz trivial (Pn (by rw[Zj];exact zp) zp ?_) ?_
 intro o;refine .inl ?_;show Vj _ _ _ _ o=_;unfold Vj;split;rfl;split<;>rfl;rintro t ⟨gO,gI⟩ ht _ L4 hL4;by_cases ht1:t<aa m.AE.l
 .have C:=zU ((t:Int)<(aa m.AE.l:Int));have hg:=AY ht1;generalize m.AE.l[t]=wy at hg;have hwy:=Ri hg;refine Zf (j5 C hg ht1 Z6 Ya) ?_;intro g15;refine BM (jn (λo=>o==115) (B:=(Vj 4000000 gO (λj=>m.p.wysI j ab t) (Vj 5000000 gI (λj=>m.p.wysI j ad t) Zm))) (l:=[(14,t),(1,qW (Zw c d m)),(7,qW (.ptr 138 q 0)),(191,Za c 8 (Xo d) m.AE),(192,aa m.AE.l),(193,t),(15,qW (Xo d wy))]) (m:=[pO x m (f4 m.p gO gI t),xT q x m]) ?_ ?_ λo=>?_) ?_;simp -implicitDefEqProofs only[go_sem,seval];exact⟨Zd,Zd,Zd,Zd,Zd,Zd,CS (v:=Xo d wy) (c:=.new) (fz:=0) rfl zp⟩;simp only[Z2,Z5,CE];exact⟨CQ rfl zp,CQ rfl zp⟩;exact iJ (lo:=4000000) (((QL 4000000).fam zd).fam zd) (λo ho=>OG (show o≠115 by omega)) (m:=(115,_)::(115,_)::[pO x m (f4 m.p gO gI t),xT q x m]) rfl o;have hwb:=rtA.SU t (by rw[m.nw];exact ht1);rw[hwy]at hwb;simp only[PM.wayB,PM.inV,BP,CM]at hwb;obtain⟨hs0,hs1⟩:0<=wy.AV/\wy.AV<aa m.p.AN:=hwb.1.1.1.1.1.1.1.1.1.2;obtain⟨he0,he1⟩:0<=wy.target/\wy.target<aa m.p.AN:=hwb.1.1.1.1.1.1.1.1.2;obtain⟨P,va,hae,hak,_,_⟩:=EH hs0 hs1;obtain⟨ne,ve,hee,hek,_,_⟩:=EH he0 he1;have f0:=j6 hae hee hak hek Z6 Ya;refine Pr f0 hG ?_;refine xY (.GX 8 12 (.GX 8 14 (.IB [0,1,2,3,4,6,9,10,11,13,5,7,8,12,14,15,16,17,18,19,20,21]) (.IB [0,1,2,3,4,6,9,10,11,13,5,7,14,8,12,15,16,17,18,19,20,21])) (.GX 8 14 (.IB [0,1,2,3,4,6,9,10,11,13,5,12,7,8,14,15,16,17,18,19,20,21]) (.IB [0,1,2,3,4,6,9,10,11,13,5,12,7,14,8,15,16,17,18,19,20,21])))
   [] ⟨λ_=>.top,λ_=>.pure⟩ zk hG zk zk ?_
  have lo5:(Rl (f4 m.p gO gI t) (aa m.AL.l))[P*7+5]?=ae (Oz 4000000 gO (λj=>m.p.wysI j ab t) P):=Fv (j:=5) hak zd rfl;have lo6:(Rl (f4 m.p gO gI t) (aa m.AL.l))[ne*7+6]?=ae (Oz 5000000 gI (λj=>m.p.wysI j ad t) ne):=Fv (j:=6) hek zd rfl;simp only[vZ];have hw1:=PM.wysI_len (m:=m.p) (P:Int) ab t;have hw2:=PM.wysI_len (m:=m.p) (ne:Int) ad t;have k5:P*7+5+1<=aa m.AL.l*7:=zo;have k6:ne*7+6+1<=aa m.AL.l*7:=zo;have k5':P*7+5<aa m.AL.l*7:=zo;have k6':ne*7+6<aa m.AL.l*7:=zo;refine⟨⟨?_,?_⟩,?_,?_⟩
  all_goals
   simp -implicitDefEqProofs only[go_sem,seval,lo5,lo6,Sr,k5,k6,k5',k6']
   repeat refine⟨rfl,λ_=>?_⟩
   refine U5 (f:=V.int .i64) (o:=4000000+P) (g:=gO P) (l:=m.p.wysI P ab t) (l2:=[(t:Int)]) (λ_=>rfl) rfl rfl rfl ?_ (Z3 zo zO) λo2 g2 D=>?_
   (repeat rw[Zy _ _ zo])
   exact R4 zo;have D:o2=4000000+P\/o2=320:=D;have Q:(130=o2)=False:=GD zo;have n326:(326=o2)=False:=GD zo;simp -implicitDefEqProofs only[go_sem,seval,lo5,lo6,Sr,k5,k6,k5',k6',Q,n326]
   repeat refine⟨rfl,λ_=>?_⟩
   refine U5 (f:=V.int .i64) (o:=5000000+ne) (g:=gI ne) (l:=m.p.wysI ne ad t) (l2:=[(t:Int)]) (λ_=>rfl) rfl rfl rfl ?_ (Z3 zo zO) λo3 g3 ho3=>?_
   (repeat rw[Zy _ _ zo])
   rw[T9 zo];exact R4 zo;have ho3:o3=5000000+ne\/o3=327:=ho3;have n130':(130=o3)=False:=GD zo;simp -implicitDefEqProofs only[go_sem,seval,lo5,lo6,Sr,k5,k6,k5',k6',Q,n130',List.length_set];have m1:(o2=130)=False:=GD zo;have m2:(o2=o3)=False:=GD zo;have m3:(o2=326)=False:=GD zo;have m4:(o3=130)=False:=GD zo;refine w6 (gO:=gO) (gI:=gI) (lO:=λj=>m.p.wysI j ab t) (lI:=λj=>m.p.wysI j ad t) [pO x m (f4 m.p gO gI t),xT q x m] [(1,qW (Zw c d m)),(7,qW (.ptr 138 q 0)),(191,Za c 8 (Xo d) m.AE),(192,aa m.AE.l),(193,t)] 130 320 327 P ne (λu v=>qC x 0 (((Rl (f4 m.p gO gI t) (aa m.AL.l)).set (P*7+5) u).set (ne*7+6) v)) (o2:=o2) (g2:=g2) (o3:=o3) (g3:=g3) (r:=m.p.wysI P ab t++[(t:Int)]) (r':=m.p.wysI ne ad t++[(t:Int)]) zS zS D ho3 zo zo
    (λv a g b k=>ti (Rn.row a g b k zS)) (λu a g b k=>RnX.cl (Rn.row a g b k zS)) (by simp -implicitDefEqProofs only[go_sem,seval,m1,m2,m3]) (by simp -implicitDefEqProofs only[go_sem,seval,m4]) (zp) (λo q1 q2 q3 q4 q5=>?_) (by rw[Zj];exact zp) λt1 t2=>?_
   by_cases z1:o=319;subst z1;exact .inl rfl;by_cases z2:o=326;subst z2;exact .inl rfl;have z3:o≠o2:=zo;have z4:o≠o3:=zo;right;simp only[Vc,YI,Ye,AA q1,AA z1,AA z2,AA z3,AA z4];have hsr:(m.p.wy (t:Int)).AV=(P:Int):=by rw[hwy];exact hae
   have htr:(m.p.wy (t:Int)).target=(ne:Int):=by rw[hwy];exact hee
   have w1:=wQ ((t:Int)+1);rw[nX m.p gO gI t (aa m.AL.l) P ne t1 t2 hak hek hsr htr];refine Zf w1 ?_;refine hL4 _ ⟨ht1,(Ye gO P t1,Ye gI ne t2),AJ,Pn (by rw[Zj];exact zp) zp λo=>?_⟩;dsimp only;rw[PM.outs_next hsr,PM.intos_next htr];exact WJ (lo:=4000000) (((QL 4000000).fam zd).fam zd) (m:=(130,_)::(327,.AR)::(320,.AR)::[pO x m (f4 m.p gO gI t),xT q x m]) rfl o
 have hte:t=aa m.AE.l:=zo;have C:=zV ((aa m.AE.l:Int)<(aa m.AE.l:Int));rw[hte];refine BM (Z4 (λo=>Nat.ble 4000000 o) (l:=[(1,qW (Zw c d m)),(7,qW (.ptr 138 q 0)),(192,aa m.AE.l),(193,aa m.AE.l)]) (m:=[(130,qC x 0 (flat ((aE (aa m.AL.l)).map λj=>Js .new (SN m.p j)))),xT q x m]) ?_ ?_) ?_;simp -implicitDefEqProofs only[go_sem,seval];exact⟨Zd,Zd,Zd⟩;simp only[Z2,Z5,CE];refine⟨D_ (cs:=Rl (f4 m.p gO gI (aa m.AE.l)) (aa m.AL.l)) rfl rfl ?_,CQ rfl zp⟩;unfold Rl;rw[EL];refine FzL.flat λj S=>?_;have S:=DC.1 S;refine⟨Zd,Zd,Zd,Zd,Zd,?_,?_,AJ⟩;show Fz _ _ (AZ (4000000+j) (gO j) 1 (m.p.wysI j ab (aa m.AE.l))) (Za .new 1 (V.int .i64) (Zb (m.p.wysI j ab (aa m.p.AE))));rw[m.nw];exact Yp (f:=V.int .i64) (TN zo) ((Sz (lo:=4000000) rfl zo).trans (R4 zo)) λ_=>rfl;show Fz _ _ (AZ (5000000+j) (gI j) 1 (m.p.wysI j ad (aa m.AE.l))) (Za .new 1 (V.int .i64) (Zb (m.p.wysI j ad (aa m.p.AE))));rw[m.nw];exact Yp (f:=V.int .i64) (TN zo) ((Sz (lo:=4000000) rfl zo).trans ((T9 zo).trans (R4 zo))) λ_=>rfl;refine BM (Z4 (λo=>o==130) (l:=[(1,qW (Zw c d m)),(7,qW (.ptr 138 q 0)),(192,aa m.AE.l),(193,aa m.AE.l)]) (m:=[(138,qC q 0 [Za .new 7 (Js .new) (Qm m.p).places,(Qm m.p).SE,(Qm m.p).SL,(Qm m.p).SO])]) ?_ ?_) ?_;simp -implicitDefEqProofs only[go_sem,seval];exact⟨Zd,Zd,Zd⟩;simp only[Z2,Z5,CE];refine D_ (cs:=[.A_ 130 x 0 (aa m.AL.l) 7,(rK m),(JB (oW m)),(JB (pW m))]) rfl zp ⟨?_,?_,?_,?_,AJ⟩;have:=Xm (F:=λo=>o==130) (H:=Yb Zm [(130,qC x 0 (flat ((aE (aa m.AL.l)).map λj=>Js .new (SN m.p j)))),xT q x m]) (o:=130) (g:=x) (m:=7) (fz:=0) (c:=.new) (f:=Js .new) (l:=(aE (aa m.AL.l)).map (SN m.p)) rfl (by rw[EL];rfl) (wA .new);rw[BC,HV]at this;unfold Qm;rw[m.nv];exact this;unfold Qm;rw[m.nv];exact Zd;exact Zd;unfold Qm;rw[m.nv];exact Zd;refine Ym C ?_;refine Ym C ?_;refine Y2 (λo=>o==138) [3] [] (l:=[(2,I5 .new .new .new (Qm m.p))]) (m:=[]) ?_ trivial ?_;simp -implicitDefEqProofs only[go_sem,seval];exact CS (v:=.agg [Za .new 7 (Js .new) (Qm m.p).places,(Qm m.p).SE,(Qm m.p).SL,(Qm m.p).SO]) (c:=.new) (fz:=0) rfl zp;exact Zr
def jN:∀ l acc r,Pt acc (l++[r])=if 0<=r/\(Pt acc l).contains r=ab then Pt acc l++[r]else Pt acc l
 |[],acc,r=>rfl|x::t,acc,r=>by rw[LG,Pt,Pt];exact jN t _ r
def ZY(x):∀ y∈(qI x).cells,y.Im:=λy a=>by simp only[V.cells,BY,CL,CF]at a;rw[a];exact .int _ _
def Gh(G)(A:Yy G)(b c d e c2 m K vs)(I:m.p.Rt)(l)(hl:l.l≠[])(hll:l.l.length<1000000)(hr:∀ v∈l.l,0<=v/\v<m.p.AN.length):Spec () G 162 [So b c d e m K vs,Za c2 1 (V.int .i64) l] Zm (m.p.partU l.l):=by
 refine Zo 0 48 _ func162 λX=>?_;have B:=JH.2 hl;have C:=AY B;have S:l.l.headD 0=l.l[0]:=by rw[List.headD_eq_head?_getD,List.head?_eq_getElem?,C]<;>rfl
 obtain⟨O,N⟩:=hr _ (BT B);rw[PM.partU,S];generalize l.l[0]=v at C O N;refine Zf (zi C B) ?_;refine Zc A ?_ (s:=U4 G A _ _ _ _ m K vs I.toFB v O N);refine Z ?_;refine Xw [0,1] [] (fun w=>[(5,(m.p.around w))]) (λ_=>[]) (λw=>0<=w/\w<aa m.p.AN/\(m.p.ups v).any (λs=>Tp [] (l.l.map (m.p.regU · s)))=(m.p.ups w).any λs=>Tp [] (l.l.map (m.p.regU · s))) (λw=>aa (m.p.ups w)) v ⟨O,N,rfl⟩ zp zp ?_;rintro w ⟨w0,Y,o⟩ L7 T;by_cases J:0<=m.p.around w
 rotate_left;have Q:=zV (m.p.around w>=0);rw[o,PM.BW.ups_nil zo];exact Zq Q;have Q:=zU (m.p.around w>=0)
 have D:m.p.around w<aa m.p.AN:=by rcases I.FC.DA w w0 Y with q|q;omega;exact q.2
 have E:=I.FC.ups_cons w0 Y J;have y:=BU List.length E;rw[CW]at y;rw[E,HR]at o;refine Zf Q ?_;generalize hae:m.p.around w=a at J D o y;refine Z8 [0,1,5,20,21] [] (aa l.l) (λk  g=>[(6,AZ 41 g 1 (Pt [] ((l.l.take k).map (m.p.regU · a)))),(22,k)]) (λk g=>[(41,Z9 g (V.int .i64) (Pt [] ((l.l.take k).map (m.p.regU · a))))]) (λ_ _=>True) 0 0 qz trivial zp zp ?_;intro k g hk _ L3 i;by_cases n:k<aa l.l
 .have u:=zU ((k:Int)<(aa l.l:Int));have hg:=AY n;have F:l.l.take (k+1)=l.l.take k++[l.l[k]]:=by rw[DO n]
  obtain⟨W,U⟩:=hr l.l[k] (BT n);have t:=YT ((l.l.take k).map (m.p.regU · a)) [];rw[BC,CZ]at t;generalize l.l[k]=x at hg F W U;have M:=wQ ((k:Int)+1);rw[F,DL]at i;simp only[BI,BV,jN]at i;generalize Pt [] ((l.l.take k).map (m.p.regU · a))=j at t i;have t:aa j<=k:=by simp only[GT]at t;omega
  refine Zf (zi u hg) ?_;refine Zc A ?_ (s:=En G A _ _ _ _ m K vs I x a W U J);generalize m.p.regU x a=r at i;by_cases H:0<=r
  rotate_left;have P:=zV (r>=0);rw[AA (λh=>H h.1)]at i;refine Zg (zi P M) ?_;exact i _ ⟨n,g,AJ,AO zp zp⟩;have P:=zU (r>=0);refine Zg P ?_;refine EZ A [Za .old 1 (V.int .i64) (Zb j),r] zk ⟨Ez zp BE ZY BE,Xg (.int _ _) rfl,AJ⟩ ?_;refine(Iv G A .old r (Zb j) (by rw[Zl];omega)).mono ?_;rintro _ _ rfl;rw[Zl];refine⟨.bool _,?_⟩;cases hc:j.contains r;rw[AF ⟨H,hc⟩]at i;refine Zs ?_;refine Z ?_;intro g40;refine Yg (f:=V.int .i64) (l:=j) (l2:=[r]) BE rfl rfl rfl zp (Z3 zo zO) λg2=>?_;refine Zs ?_;refine Zf M ?_;exact i _ ⟨n,g2,AJ,AO zp zp⟩;rw[AA (λh=>by rw[hc]at h;cases h.2)]at i;refine Zs ?_;refine Zf M ?_;exact i _ ⟨n,g,AJ,AO zp zp⟩
 have R:k=aa l.l:=zo;subst R;rw[B_];have u:decide ((aa l.l:Int)<(aa l.l:Int))=ab:=zS;have z:=fC (l.l.map (m.p.regU · a)) [];rw[GT,EE,BC]at z;rw[<- z]at o;generalize Pt [] (l.l.map (m.p.regU · a))=j at o;have L:(((aa j:Nat):Int)==((aa l.l:Nat):Int))=decide (aa j=aa l.l):=by rw[FW,CX,CM];omega
 cases h:decide (aa j=aa l.l);rw[h]at L o;rw[CH]at o;refine Zf (zi u L) ?_;refine Zc A ?_ (s:=U4 G A _ _ _ _ m K vs I.toFB a J D);refine Z ?_;exact T _ ⟨a,zo,⟨J,D,o⟩,AO zp zp⟩;rw[h]at L o;rw[o,LA];exact Zq (zi u L)
def Ja(t:bS)(below:Bool):Int×Int:=
 if t=[]\/(t.head?=ae 48/\(aa t>1\/below=ad))\/t.all Yz=ab then(0,2)
 else Hp (if below then -(val (t.reverse.map Sw):Int)else val (t.reverse.map Sw))
def tc(s):Vz s=Ja (if(s.head? == ae 45)=ad then s.drop 1 else s) (s.head? == ae 45):=rfl
def jS(c)(n:Nat)(b:n<256):((c.toNat:Int)==(n:Int))=(c==aJ n):=by
 by_cases h:c.toNat=n;have a:c=aJ n:=by apply cd.1;rw[WU,h];omega
 rw[a];simp;omega;have a:¬c=aJ n:=by intro e;apply h;rw[e,WU];omega
 have h2:¬(c.toNat:Int)=(n:Int):=zo;rw[show(c==aJ n)=ab by simpa using a,show((c.toNat:Int)==(n:Int))=ab from FD.2 h2]
def AC0(c:UInt8):((c.toNat:Int)==45)=(c==45):=jS c 45 zd
def UY(c:UInt8):((c.toNat:Int)==48)=(c==48):=jS c 48 zd
def rL(G)(M:Yy G)(s:bS)(hs:s.length<1000000):Spec () G 311 [s] Zm (encR (Vz s)):=by
 rw[tc];generalize t:(s.head? == ae 45)=b0;generalize n:(if b0=ad then s.drop 1 else s)=t0;refine Zo 0 64 [.tmp 2,.tmp 3] func311 λX=>?_;refine Z1 ?_;refine Yt (fun(_:Unit)=>st [(0,s),(4,b0)] []) (λ_=>True) (λK1 H=>?_) ?_
 .rcases s with _|⟨c,r⟩;refine Z1 ?_;exact H _ () trivial (AO (by refine Zs ?_;rw[<- t]<;>rfl) zp);refine Ym @AC0 ?_;exact H _ () trivial (AO (by refine Zs ?_;rw[<- t]<;>rfl) zp)
 intro _ _;refine Yt (fun(_:Unit)=>st [(0,t0),(4,b0)] []) (λ_=>True) (λK2 F=>?_) ?_;refine Z1 ?_;refine Zi rfl (λh2=>?_) (λh2=>?_);subst h2;have z:1<=aa s:=by cases s;simp at t;simp
 refine Ym (zi z @BO) ?_;refine F _ () trivial ?_;exact(AO (by refine Zs ?_;rw[<- n];simp;try exact HY zS) zp);subst h2;refine Z0 ?_;exact F _ () trivial (AO (by refine Zs ?_;rw[<- n];simp) zp);intro _ _;have htl:aa t0<=aa s:=by rw[<- n];split<;>simp
 try clear n t
 refine Yt (fun(_:Unit)=>st [(0,t0),(4,b0)] []) (λ_=>t0≠[]/\¬(t0.head?=ae 48/\(aa t0>1\/b0=ad))) (λK3 E=>?_) ?_
 .rcases t0 with _|⟨c,r⟩;refine Z1 ?_;refine Zi rfl (λa=>?_) (λa=>?_)
  .refine Z ?_;rw[Ja,AF (.inl rfl)]
   try rfl
  cases a;by_cases j:c=48;have e:(c==48)=ad:=zu j;by_cases hl:aa r=0
  .have p:=zV (((aa r+1:Nat):Int)>1);cases b0;refine Ym (j3 @UY e p) ?_;refine Xh rfl ?_;refine Z0 ?_;exact E _ () ⟨zS,by simp[hl]⟩ qs;refine Ym (j3 @UY e p) ?_;refine Zi rfl (λa=>?_) (λa=>?_)
   .refine Z ?_;rw[Ja,AF (.inr (.inl ⟨by simp[j],.inr rfl⟩))]
    try rfl
   cases a
  have p:=zU (((aa r+1:Nat):Int)>1);refine Ym (j3 @UY e p) ?_;refine Zi rfl (λa=>?_) (λa=>?_)
  .refine Z ?_;rw[Ja,AF (.inr (.inl ⟨by simp[j],.inl zO⟩))]
   try rfl
  cases a;have e:(c==48)=ab:=zu j;refine Ym (zi @UY e) ?_;refine Xh rfl ?_;refine Z0 ?_;exact E _ () ⟨zS,by simp[j]⟩ qs
 rintro _ ⟨S,Q⟩;refine Z1 ?_;refine Z1 ?_;refine BK ?_;refine Z8 [0,4] [] (aa t0) (λk  x=>[(5,AZ 56 x 1 (HE ((t0.drop (aa t0-k)).reverse.map Sw))),(6,qI ((aa t0:Int)-1-k))]) (λk x=>[(56,Z9 x (V.int .i64) (HE ((t0.drop (aa t0-k)).reverse.map Sw)))]) (λk _=>(t0.drop (aa t0-k)).all Yz=ad) 0 0 qz (by rw[HT zo]<;>rfl) (by rw[HT zo];refine Zs ?_;exact⟨rfl,BU _ (by rw[Xi zo zo];omega)⟩) (by rw[HT zo];simp -implicitDefEqProofs only[go_sem,seval];try rfl) ?_;intro k gx hk I L2 W;refine Z1 ?_;refine Zi rfl (λa=>?_) (λa=>?_);have y:k<aa t0:=by have:=JC a;omega
 refine Z0 ?_;obtain⟨i,hi⟩:∃ i,i=aa t0-1-k:=⟨_,rfl⟩;have e0:((aa t0:Int)-1-k)=(i:Int):=zo;have A:i<aa t0:=zo;have K:=AY A;have q:t0.drop i=t0[i]::t0.drop (i+1):=FL A;have w:t0.all Yz=((t0.take i).all Yz&&(Yz t0[i]&&(t0.drop (i+1)).all Yz)):=by rw[<- HQ,<- q,<- LF,HX]
 generalize t0[i]=c at K q w;rw[show aa t0-k=i+1 by omega]at I⊢;rw[e0];have hlen:aa ((t0.drop (i+1)).reverse.map Sw)<1000000:=zO;refine Zz ?_;refine BK ?_;refine Zz ?_;by_cases j:Yz c=ad;have B:48<=c.toNat/\c.toNat<=57:=by unfold Yz at j;simpa using j
 have L:=zV ((c.toNat:Int)<48);have b2:=zV ((c.toNat:Int)>57);have T:qN ((c.toNat:Int)-48)=((Sw c:Nat):Int):=by rw[Xi zo zo];unfold Sw;omega
 have N:qN (c.toNat:Int)=(c.toNat:Int):=Xi zo zo;refine Ym (j3 K L b2) ?_;refine Xh rfl ?_;refine Ym (j3 K N T) ?_;intro g55;refine Yg (f:=V.int .i64) (l:=HE ((t0.drop (i+1)).reverse.map Sw)) (l2:=[((Sw c:Nat):Int)]) BE rfl rfl rfl rfl (Z3 zo zO) λY=>?_;refine Zs ?_;refine Z1 ?_;have u:(t0.drop (aa t0-(k+1))).reverse.map Sw=(t0.drop (i+1)).reverse.map Sw++[Sw c]:=by rw[show aa t0-(k+1)=i by omega,q];simp
 refine W _ ⟨y,Y,?_,AO (by rw[u];refine Xc @XG ?_;exact⟨rfl,BU _ (by rw[Xi zo zo];omega)⟩) (by rw[u];simp -implicitDefEqProofs only[go_sem,seval,XG];try rfl)⟩;rw[show aa t0-(k+1)=i by omega,q,HQ,j,I]<;>rfl;have U:Yz c=ab:=zu j;have C:t0.all Yz=ab:=by rw[w,U];simp
 have B:c.toNat<48\/57<c.toNat:=by rcases GG c.toNat 48 with h|h;exact .inl h;rcases GG 57 c.toNat with z|z;exact .inr z;exact absurd (by unfold Yz;simp[h,z]) j
 have D:Ja t0 b0=(0,2):=by rw[Ja,AF (.inr (.inr C))]
 rcases B with h|h;have L:=zU ((c.toNat:Int)<48);refine Ym (zi K L) ?_;refine Zi rfl (λJ=>?_) (λJ=>?_);refine Z ?_;rw[D]<;>rfl;cases J;have L:=zV ((c.toNat:Int)<48);have b2:=zU ((c.toNat:Int)>57);refine Ym (j3 K L b2) ?_;refine Zi rfl (λJ=>?_) (λJ=>?_);refine Z ?_;rw[D]<;>rfl;cases J
 .have y:k=aa t0:=by have:=SJ a;omega
  subst y;rw[TQ,HB]at I⊢;have D:Ja t0 b0=Hp (IE b0 (val (t0.reverse.map Sw))):=by
   rw[Ja,AA (by rw[I];simp[S,Q])]
   try rfl
  have b:LB (t0.reverse.map Sw):=by intro d hd;obtain⟨c,z,rfl⟩:=CY.1 hd;have:=ER.1 I c (List.mem_reverse.1 z);unfold Yz at this;unfold Sw;simp at this;omega
  have P:aa (t0.reverse.map Sw)<1000000:=zO;generalize t0.reverse.map Sw=out at b P D;refine Z0 ?_;refine BM (Z4 (λo=>o==56) (l:=[(4,b0),(5,qE (JO (decide (out=[])) out))]) (m:=[]) ?_ trivial) ?_;refine Zs ?_;rw[<- xp rfl];exact⟨Zd,Yp rfl rfl BE⟩;refine Z1 ?_;refine Zn M ?_ (s:=(lu G M _ (decide (out=[])) out zS zo));rw[dZ _ _ ql b];have R:decide (out=[])=ad->dg (val out)=[]:=by intro h;have:=JC h;subst this;rfl
  have O:aa (dg (val out))<1000000:=by have:=ABr (jf b);omega
  refine Zs ?_;refine GS M zk ?_;refine Zs ?_;rw[<- Ei];refine(ABI G M _ _ _ _ R (ABs _) O).mono ?_;rintro _ _ rfl;rw[AC4];refine Xc @encR.eq_1 ?_;refine Z ?_;rw[D]
  try rfl
def Lc(G)(d:Yy G)(a)(o:FJ a.l)(g r)(p:r.i<1000000):RdS 1012 [] G 298 [] a g r (.AB (Yj a.l r.i).BG) r:=by
 intro h;refine Zo 1000 50 [.tmp 2] func298 λX=>?_;simp only[Yb,Y3];refine Z1 ?_;refine Zz ?_;by_cases m:r.i<aa a.l;have f:=zV ((r.i:Int)>=aa a.l);have c:=AY m;have n:=o.BG _ (BT m);generalize a.l[r.i]=t at c n;have b:=kK c;have k:J3 Tryz.prog G 119 [t.BG] (.int .u8 (Tc t.BG)):=⟨zk,by refine Zs ?_;refine(Of G d t.BG zo).mono ?_;rintro _ _ rfl;rfl⟩
 by_cases e:(Tc t.BG:Int)=t.AD;rw[AF e]at b;have j:((Tc t.BG:Int) != t.AD)=ab:=zu e;refine Zz<|Zv ⟨λi=>if i=22 then .int .u8 (Tc t.BG)else .top,λ_=>.pure⟩ zk d zk zk ?_;refine Xc (j4 f c @Wd j) ?_;refine⟨k,?_⟩;refine Xh rfl ?_;refine Z0 ?_;refine Pr (zi c @Wd) d ?_;refine Z ?_;exact⟨by rw[b],h,zp,zp⟩;rw[AA e]at b;have j:((Tc t.BG:Int) != t.AD)=ad:=zu e;refine Zz<|Zv ⟨λi=>if i=22 then .int .u8 (Tc t.BG)else .top,λ_=>.pure⟩ zk d zk zk ?_;refine Xc (j4 f c @Wd j) ?_;refine⟨k,?_⟩;refine Zi rfl (λh2=>?_) (λh2=>?_);refine Z ?_;exact⟨by rw[b],h,zp,zp⟩;cases h2;have f:=zU ((r.i:Int)>=aa a.l);have b:=Hz (l:=a.l) (i:=r.i) zo;refine Pr f d ?_;refine Zi rfl (λh2=>?_) (λh2=>?_);refine Z ?_;exact⟨by rw[b],h,zp,zp⟩;cases h2
def Qg(G)(d:Yy G)(a g r)(c:r.BS.length<1000000):RdS 1012 [] G 282 [] a g r r.last r:=by intro b;refine Zo 1000 9 _ func282 λX=>?_;simp only[Yb,Y3];refine Z ?_;exact⟨by rw[Xi zo zo]<;>rfl,b,zp,zp⟩
def Lb(G)(d:Yy G)(b g r)(j:r.BS.length<1000000)(n):RdS 1012 [] G 283 [Y9 n] b g r ad (r.put n):=by intro e;refine Zo 1000 15 _ func283 λX=>?_;simp only[Yb,Y3,X7];refine Z1 ?_;intro k;refine qF 1003 [0] [8,1012] 3 (Y9 n) ?_;simp only[X7];refine AW.later ?_;refine Pr @Y3 d ?_;intro h;refine fI (l2:=[n]) Rc rfl rfl rfl zp (Z3 zo zO) λi a=>?_;refine Zs ?_;refine Z1 ?_;refine FU ?_;refine Zs ?_;refine⟨st [(4,ad)] [(8,C9 1012 [] b g a (r.put n)),(1012,Dw a (r.BS++[n]))],Z4 (λ_=>ab) ?_ ?_,?_⟩;refine Zs ?_;exact Zd;simp only[Z2,Z5,CE];exact⟨CQ rfl zp,jI rfl zp⟩;refine Zs ?_;exact Yk ⟨rfl,a,zp,zp⟩
def Ld(G)(e:Yy G)(d g r)(hi:r.i<1000000)(h:r.BS.length<1000000)(op b a x y z):RdS 1012 [] G 301 [Y9 ⟨op,b,a,x,y,z⟩] d g r ad (Ry r op b a).2:=by
 intro gx;refine Zo 1000 18 _ func301 λX=>?_;have f:qN ((r.i:Int)+1)=((r.i+1:Nat):Int):=by rw[Xi zo zo];omega
 simp only[Yb,Y3,X7];refine Z1 ?_;intro j;refine Ym f ?_;refine Z1 ?_;refine Z1 ?_;refine Z1 ?_;refine Z1 ?_;rw[<- X7 ⟨op,b,a,-1,-1,-1⟩];refine Yn e (Lb G e d g r.adv h ⟨op,b,a,-1,-1,-1⟩) λc=>?_;refine Zu ?_;refine Z ?_;exact⟨rfl,c,zp,zp⟩
def Lf(G)(e:Yy G)(a)(h:FJ a.l)(g r)(hi:r.i<1000000)(w:bS):RdS 1012 [] G 299 [w] a g r (.bool (On a.l w r).1) (On a.l w r).2:=by
 intro gx;refine Zo 1000 19 _ func299 λX=>?_;have f:qN ((r.i:Int)+1)=((r.i+1:Nat):Int):=by rw[Xi zo zo];omega
 have b:On _ w r=if(Yj a.l _).BG≠w then(ab,r.err 80)else(ad,r.adv):=rfl;refine Z1 ?_;refine Z1 ?_;refine Yn e (Lc G e a h g r hi) λc=>?_;refine Zu ?_;generalize Yj _ _=t at b⊢;by_cases d:t.BG=w;rw[AA (zu d)]at b;refine Zi rfl (λh2=>?_) (λh2=>?_);rw[d]at h2;simp at h2;refine Zf (zi @Y3 f) ?_;rw[b];exact⟨rfl,c,zp,zp⟩;rw[AF d]at b;refine Zi rfl (λh2=>?_) (λh2=>?_);refine Zf @Y3 ?_;rw[b];exact⟨rfl,c,zp,zp⟩;have h2:=zu h2;exact absurd h2 d
def cy:∀ t,aa (Q6 t)<=aa t
 |[]=>BO _|[c]=>BO _|c::d::r=>by rw[Q6];split;have:=cy (d::r);simp only[CW]at this⊢;omega;exact BO _
def kR(c:UInt8):((c.toNat:Int)==48)=(c==48):=by have:=RE (λc=>((c.toNat:Int)==48)==(c==48)) (by decide +kernel) c;simpa using this
def AAa(G)(p:Yy G)(v g r)(hi:r.i<1000000)(D:r.BS.length<1000000)(t:bS)(I:t.length<100000):RdS 1012 [] G 302 [t] v g r (.bool (Lk r t).1) (Lk r t).2:=by
 intro gx;refine Zo 1000 31 _ func302 λX=>?_;have b:Lk r t=if(Vz _).2≠0 then(ab,r.err 60)else Ry r 1 _ []:=rfl;have F:=cy t;refine Z1 ?_;refine Yt (fun(_:Unit)=>st [(0,.ptr 8 g 0),(1,(Q6 t))] [(8,C9 1012 [] v g gx r),(1012,Dw gx r.BS)]) (λ_=>True) (λK k=>?_) ?_
 .refine BK ?_;refine Xw [0] [8,1012] (fun(s:bS)=>[(1,s)]) (λ_=>[]) (λs=>Q6 s=Q6 t/\aa s<=aa t) (λs=>aa s) t ⟨rfl,BO _⟩ zp (by simp -implicitDefEqProofs only[go_sem,seval,Yb];try rfl) ?_;rintro s ⟨w,C⟩ J y;refine Zz ?_;by_cases a:aa s>1
  rotate_left;have u:=zV ((aa s:Int)>1)
  have j:Q6 s=s:=by match s,a with|[],_=>rfl|[c],_=>rfl|c::d::r,h=>simp at h
  refine Ym u ?_;refine Z0 ?_;exact k _ () trivial (AO (by rw[<- w,j];simp -implicitDefEqProofs only[go_sem,seval];try rfl) zp);have u:=zU ((aa s:Int)>1);obtain⟨c,d,q,l⟩:∃ c d q,s=c::d::q:=by match s,a with|c::d::q,_=>exact⟨c,d,q,rfl⟩
  have A:s[0]?=ae c:=by rw[l]<;>rfl
  have x:(s.drop 1).take (aa s-1)=d::q:=by rw[l];simp
  have o:Q6 s=if c=48 then Q6 (d::q)else s:=by rw[l]<;>rfl
  have E:aa (d::q)+1=aa s:=by rw[l];simp
  by_cases m:c=48;have f:=zu m;rw[AF m]at o;refine Ym (j4 u A @kR f) ?_;refine Z0 ?_;refine BK ?_;have H:1<=aa s:=zo;refine Ym (j3 H x @BO) ?_;exact y _ ⟨d::q,zo,⟨by rw[<- o];exact w,zo⟩,AO zp zp⟩;have f:(c==48)=ab:=zu m;rw[AA m]at o;refine Ym (j4 u A @kR f) ?_;refine Z0 ?_;exact k _ () trivial (AO (by rw[<- w,o];simp -implicitDefEqProofs only[go_sem,seval];try rfl) zp)
 intro _ _;generalize Q6 t=s at b F⊢;refine Z1 ?_;refine Zn p ?_ (s:=(rL G p s zo));generalize Vz s=q at b⊢;obtain⟨n,e⟩:=q;simp only at b;refine Xc @encR.eq_1 ?_;refine Zz ?_;by_cases j:e=0;have f:(e==0)=ad:=zu j;rw[AA (show ¬e≠0 by simpa using j)]at b;refine Wo zk ?_;simp -implicitDefEqProofs only[go_sem,seval,bne,f];refine Xh rfl ?_;refine Z1 ?_;rw[<- X7 ⟨1,n,[],0,0,0⟩];refine Yn p (Ld G p v g r hi D 1 n [] 0 0 0) λz=>?_;refine Zu ?_;refine Z ?_;rw[b];exact⟨rfl,z,zp,zp⟩;have f:(e==0)=ab:=zu j;rw[AF j]at b;refine Wo zk ?_;simp -implicitDefEqProofs only[go_sem,seval,bne,f];refine Zi rfl (λB=>?_) (λB=>?_);refine Zf @Y3 ?_;rw[b];exact⟨rfl,gx,zp,zp⟩;cases B
structure TC(G:Nat->V)(sl:Sl Tk)(g:Nat)(inner:II)(i0:Nat):Prop where
 SG:∀ n r,1<=n->n<=9->i0<r.i->R9 sl.l r->RdS 1012 [] G 261 [.int .i64 n] sl g r (.bool (inner n r).1) (inner n r).2
 un:∀ r,i0<r.i->R9 sl.l r->RdS 1012 [] G 280 [] sl g r (.bool (inner 9 r).1) (inner 9 r).2
def mP{l}(a:FJ l)(i):(Yj l i).BG.length<100000:=by unfold Yj;split;rename_i t h;split;exact a.BG _ (DY h);exact H3 _;exact H3 _
def ZG(l){w}(a:Tc w≠0)(r):CJ l 0 r (On l w r).2/\((On l w r).1=ad->CJ l 1 r (On l w r).2)/\((On l w r).1=ad->(On l w r).2=r.adv):=by rw[RL l a];refine⟨(R6 l w r).1,(R6 l w r).2,?_⟩;unfold Sb;split;intro h;cases h;exact λ_=>rfl
def r9(G)(h:Yy G)(e)(O:FJ e.l)(g r)(hr:R9 e.l r)(hlt:r.i<e.l.length)(d)(t:TC G e g d r.i)(hb:LU e.l d):RdS 1012 [] G 300 [] e g r (.bool (Re e.l d r).1) (Re e.l d r).2:=by
 have hTl:=O.len;intro gx;refine Zo 1000 47 _ func300 λX=>?_;have f:Re _ d r=andThen _ λa=>andThen (On e.l Kr a) λj=>andThen (d 1 j) λb=>
  andThen (On e.l Ks b) λq=>andThen (d 1 q) λc=>andThen (On e.l Ps c) λA=>(ad,A.put ⟨22,0,[],a.last,b.last,c.last⟩):=rfl
 generalize Re e.l d r=res at f⊢;have F:=(K_ hlt).ok hr;have hw:qN ((r.i:Int)+1)=((r.i+1:Nat):Int):=by rw[Xi zo zo];omega
 have M:=t.SG 1 r.adv zd zd (GH _) F;have Y:=hb 1 r.adv;generalize d 1 r.adv=x1 at f M Y;have⟨t1,a⟩:=x1;simp only at M Y;have N:=Y.ok F;have hau:r.i+1<=a.i:=Y.up;refine Z1 ?_;refine Ym (zi @Y3 hw) ?_;refine Zz ?_;cases t1 with|false=>rw[Xq]at f;refine Ym @Y3 ?_;refine Yn h (M) (gx:=gx) λp=>?_;refine Zu ?_;refine Zi rfl (λm=>?_) (λm=>?_);refine Z ?_;rw[f];exact⟨rfl,p,zr,zr⟩;cases m|true=>
 rw[Y7]at f;have hai:a.i<1000000:=by have:=N.1;omega
 have han:aa a.BS<1000000:=by have:=N.1;have:=N.2;omega
 have R:=Lf G h e O g a hai Kr;have W:=ZG e.l (w:=Kr) (by decide +kernel) a;generalize On e.l Kr a=x2 at f R W;have⟨t2,j⟩:=x2;simp only at R W;cases t2 with|false=>rw[Xq]at f;refine Ym @Y3 ?_;refine Yn h (M) (gx:=gx) λp=>?_;refine Zu ?_;refine Xc @Y3 ?_;refine Yn h (R) (gx:=p) λz=>?_;refine Zu ?_;refine Zi rfl (λm=>?_) (λm=>?_);refine Z ?_;rw[f];exact⟨rfl,z,zr,zr⟩;cases m|true=>
 rw[Y7]at f;have D:=(W.2.1 rfl).ok N;have e2:=W.2.2 rfl;have h2n:j.BS=a.BS:=by rw[e2]<;>rfl
 have h2l:j.last=a.last:=by rw[e2]<;>rfl
 have h2i:j.i=a.i+1:=by rw[e2]<;>rfl
 have L:=t.SG 1 j zd zd zo D;have U:=hb 1 j;generalize d 1 j=x3 at f L U;have⟨t3,b⟩:=x3;simp only at L U;have s:=U.ok D;have hbu:j.i<=b.i:=U.up;have hbi:b.i<1000000:=by have:=s.1;omega
 have hbn:aa b.BS<1000000:=by have:=s.1;have:=s.2;omega
 refine Ym @Y3 ?_;refine Yn h (M) (gx:=gx) λp=>?_;refine Zu ?_;refine Xc @Y3 ?_;refine Yn h (R) (gx:=p) λz=>?_;refine Zu ?_;refine Ym @Y3 ?_;have J:aa j.BS<1000000:=by rw[h2n];exact han
 refine Yn h (Qg G h e g j J) (gx:=z) λy=>?_;refine Zu ?_;rw[h2l];refine Zz ?_;cases t3 with|false=>rw[Xq]at f;refine Ym @Y3 ?_;refine Yn h (L) (gx:=y) λo=>?_;refine Zu ?_;refine Zi rfl (λk=>?_) (λk=>?_);refine Z ?_;rw[f];exact⟨rfl,o,zr,zr⟩;cases k|true=>
 rw[Y7]at f;have Q:=Lf G h e O g b hbi Ks;have T:=ZG e.l (w:=Ks) (by decide +kernel) b;generalize On e.l Ks b=x4 at f Q T;have⟨t4,q⟩:=x4;simp only at Q T;cases t4 with|false=>rw[Xq]at f;refine Ym @Y3 ?_;refine Yn h (L) (gx:=y) λo=>?_;refine Zu ?_;refine Xc @Y3 ?_;refine Yn h (Q) (gx:=o) λx=>?_;refine Zu ?_;refine Zi rfl (λk=>?_) (λk=>?_);refine Z ?_;rw[f];exact⟨rfl,x,zr,zr⟩;cases k|true=>
 rw[Y7]at f;have C:=(T.2.1 rfl).ok s;have e3:=T.2.2 rfl;have h3n:q.BS=b.BS:=by rw[e3]<;>rfl
 have h3l:q.last=b.last:=by rw[e3]<;>rfl
 have h3i:q.i=b.i+1:=by rw[e3]<;>rfl
 have K:=t.SG 1 q zd zd zo C;have b5:=hb 1 q;generalize d 1 q=x5 at f K b5;have⟨t5,c⟩:=x5;simp only at K b5;have E:=b5.ok C;have hci:c.i<1000000:=by have:=E.1;omega
 refine Ym @Y3 ?_;refine Yn h (L) (gx:=y) λo=>?_;refine Zu ?_;refine Xc @Y3 ?_;refine Yn h (Q) (gx:=o) λx=>?_;refine Zu ?_;refine Ym @Y3 ?_;have I:aa q.BS<1000000:=by rw[h3n];exact hbn
 refine Yn h (Qg G h e g q I) (gx:=x) λv=>?_;refine Zu ?_;rw[h3l];cases t5 with|false=>rw[Xq]at f;refine Ym @Y3 ?_;refine Yn h (K) (gx:=v) λn=>?_;refine Zu ?_;refine Z ?_;rw[f];exact⟨rfl,n,zr,zr⟩|true=>
 rw[Y7]at f;have P:=Lf G h e O g c hci Ps;have S:=ZG e.l (w:=Ps) (by decide +kernel) c;generalize On e.l Ps c=x6 at f P S;have⟨t6,A⟩:=x6;simp only at P S;cases t6 with|false=>rw[Xq]at f;refine Ym @Y3 ?_;refine Yn h (K) (gx:=v) λn=>?_;refine Zu ?_;refine Xc @Y3 ?_;refine Yn h (P) (gx:=n) λu=>?_;refine Zu ?_;refine Z ?_;rw[f];exact⟨rfl,u,zr,zr⟩|true=>
 rw[Y7]at f;have B:=(S.2.1 rfl).ok E;have e4:=S.2.2 rfl;have h4l:A.last=c.last:=by rw[e4]<;>rfl
 have H:aa A.BS<1000000:=by have:=B.1;have:=B.2;omega
 refine Ym @Y3 ?_;refine Yn h (K) (gx:=v) λn=>?_;refine Zu ?_;refine Xc @Y3 ?_;refine Yn h (P) (gx:=n) λu=>?_;refine Zu ?_;refine Xc @Y3 ?_;refine Yn h (Qg G h e g A H) (gx:=u) λgx9=>?_;refine Zu ?_;rw[h4l];refine Xc @Y3 ?_;rw[<- X7 ⟨22,0,[],a.last,b.last,c.last⟩];refine Yn h (Lb G h e g A H ⟨22,0,[],a.last,b.last,c.last⟩) (gx:=gx9) λgxa=>?_;refine Zu ?_;refine Z ?_;rw[f];exact⟨rfl,gxa,zr,zr⟩
def ABP(G)(j:Yy G)(d)(H:FJ d.l)(g r)(M:R9 d.l r)(c)(E:TC G d g c r.i)(hb:LU d.l c):RdS 1012 [] G 279 [] d g r (.bool (Be d.l c r).1) (Be d.l c r).2:=by
 have hTl:=H.len;have o:r.i<1000000:=by have:=M.1;omega
 have v:aa r.BS<1000000:=by have:=M.2;omega
 have hw:qN ((r.i:Int)+1)=((r.i+1:Nat):Int):=by rw[Xi zo zo];omega
 intro gx;refine Zo 1000 83 _ func279 λX=>?_;have e:Be _ c r=if(Yj _ r.i).BG=[40]then andThen (c 1 r.adv) (On d.l [41])
  else if(Yj d.l r.i).BG=HM then Re d.l c r
  else if(Yj d.l r.i).BG=[116,114,117,101]then Ry r 3 0 []
  else if(Yj d.l r.i).BG=[102,97,108,115,101]then Ry r 4 0 []
  else if(Yj d.l r.i).BG≠[]/\(Yj d.l r.i).AD=1 then Lk r (Yj d.l r.i).BG
  else if(Yj d.l r.i).BG≠[]/\(Yj d.l r.i).AD=2 then Ry r 2 0 (Yj d.l r.i).BG
  else(ab,r.err 80):=rfl
 have z:=mP H r.i;have U:=λh=>r9 G j d H g r M h c E hb;have s:(Yj d.l r.i).BG≠[]->∃ t,d.l[r.i]?=ae t/\Yj d.l r.i=t/\r.i<aa d.l:=by intro h;unfold Yj at h⊢;rcases F:d.l[r.i]? with _|t;rw[F]at h;exact absurd rfl h;rw[F]at h;simp only at h;split at h;rename_i q;refine⟨t,rfl,?_,(DG.1 F).1⟩;simp only;rw[AF q];exact absurd rfl h
 have n:(Yj d.l r.i).BG≠[]->R9 d.l r.adv:=λh=>by have⟨t,_,_,q⟩:=s h;exact(K_ q).ok M
 generalize Be d.l c r=Q at e⊢;refine Z1 ?_;refine Z1 ?_;refine Yn j (Lc G j d H g r o) λm=>?_;refine Zu ?_;generalize Yj d.l r.i=t at e z n s⊢;have⟨k,t,p⟩:=t;simp only at e z n s;refine Yt (fun(_:Unit)=>st [(0,.ptr 8 g 0)] [(8,C9 1012 [] d g m r),(1012,Dw m r.BS)]) (λ_=>Q=(ab,r.err 80)) (λK1 I=>?_) ?_;rotate_left;intro _ e;refine Zf @Y3 ?_;rw[e];exact⟨rfl,m,zr,zr⟩;refine BK ?_;by_cases L:t=[40]
 .have e1:(t==[40])=ad:=zu L;have u:t≠[]:=by rw[L];simp
  rw[AF L]at e;have N:=E.SG 1 r.adv zd zd (GH _) (n u);have A:=(hb 1 r.adv).ok (n u);generalize c 1 r.adv=x at N e A;have⟨b,a⟩:=x;simp only at N A;have W:a.i<1000000:=by have:=A.1;omega
  refine Ym e1 ?_;refine Ym (zi @Y3 hw) ?_;cases b;rw[Xq]at e;refine Ym @Y3 ?_;refine Yn j (N) λf=>?_;refine Zu ?_;refine Z ?_;rw[e];exact⟨rfl,f,zr,zr⟩;rw[Y7]at e;refine Ym @Y3 ?_;refine Yn j (N) λf=>?_;refine Zu ?_;refine Xc @Y3 ?_;refine Yn j (Lf G j d H g a W [41]) λJ=>?_;refine Zu ?_;generalize On d.l [41] a=y at e⊢;have⟨b,a2⟩:=y;cases b;refine Zs ?_;refine Z ?_;rw[e];exact⟨rfl,J,zr,zr⟩;refine Zs ?_;refine Z ?_;rw[e];exact⟨rfl,J,zr,zr⟩
 have e1:(t==[40])=ab:=zu L;rw[AA L]at e;refine Ym e1 ?_;refine Xh rfl ?_
 try clear h2
 by_cases K:t=HM;have e2:(t==[105,102])=ad:=by rw[K]<;>rfl
 have u:t≠[]:=by rw[K];decide
 have⟨_,_,_,D⟩:=s u;rw[AF K]at e;refine Ym e2 ?_;refine Z1 ?_;refine Yn j (U D) λf=>?_;refine Zu ?_;refine Z ?_;rw[e];exact⟨rfl,f,zr,zr⟩;have e2:(t==[105,102])=ab:=by rw[FD];exact K
 rw[AA K]at e;refine Ym e2 ?_;refine Xh rfl ?_
 try clear h2
 by_cases P:t=[116,114,117,101];have e3:(t==[116,114,117,101])=ad:=zu P;rw[AF P]at e;refine Ym e3 ?_;refine Z1 ?_;rw[<- X7 ⟨3,0,[],0,0,0⟩];refine Yn j (Ld G j d g r o v 3 0 [] 0 0 0) λf=>?_;refine Zu ?_;refine Z ?_;rw[e];exact⟨rfl,f,zr,zr⟩;have e3:(t==[116,114,117,101])=ab:=zu P;rw[AA P]at e;refine Ym e3 ?_;refine Xh rfl ?_
 try clear h2
 by_cases O:t=[102,97,108,115,101];have Y:(t==[102,97,108,115,101])=ad:=zu O;rw[AF O]at e;refine Ym Y ?_;refine Z1 ?_;rw[<- X7 ⟨4,0,[],0,0,0⟩];refine Yn j (Ld G j d g r o v 4 0 [] 0 0 0) λf=>?_;refine Zu ?_;refine Z ?_;rw[e];exact⟨rfl,f,zr,zr⟩;have Y:(t==[102,97,108,115,101])=ab:=zu O;rw[AA O]at e;refine Ym Y ?_;refine Xh rfl ?_
 try clear h2
 by_cases C:t=[]
 .have B:(t==[])=ad:=by rw[C]<;>rfl
  rw[AA (λh=>h.1 C),AA (λh=>h.1 C)]at e;refine Pr B j ?_;refine Xh rfl ?_
  try clear h2
  refine Pr B j ?_;refine Z0 ?_;exact I _ () e qs
 have B:(t==[])=ab:=zu C;have⟨t0,F,T,D⟩:=s C;have w:d.l[r.i]?=ae ⟨k,t,p⟩:=by rw[F,T]
 by_cases k1:k=1;have S:(k==1)=ad:=zu k1;rw[AF ⟨C,k1⟩]at e;refine Pr (j5 B @Y3 w @Wd S) j ?_;refine Ym @Y3 ?_;refine Yn j (AAa G j d g r o v t z) λf=>?_;refine Zu ?_;refine Z ?_;rw[e];exact⟨rfl,f,zr,zr⟩;have S:(k==1)=ab:=zu k1;rw[AA (λh=>k1 h.2)]at e;refine Pr (j5 B @Y3 w @Wd S) j ?_;refine Xh rfl ?_
 try clear h2
 by_cases k2:k=2;have R:(k==2)=ad:=zu k2;rw[AF ⟨C,k2⟩]at e;refine Pr (j5 B @Y3 w @Wd R) j ?_;refine Ym @Y3 ?_;rw[<- X7 ⟨2,0,t,0,0,0⟩];refine Yn j (Ld G j d g r o v 2 0 t 0 0 0) λf=>?_;refine Zu ?_;refine Z ?_;rw[e];exact⟨rfl,f,zr,zr⟩;have R:(k==2)=ab:=zu k2;rw[AA (λh=>k2 h.2)]at e;refine Pr (j5 B @Y3 w @Wd R) j ?_;refine Z0 ?_;exact I _ () e (AO zp (Vw @Y3))
def JN(op:Nat):bS:=(tabL.getD op ⟨[],0,0⟩).BG
def ABW:∀ op,7<=op->op<=21->1<=Lp op/\Lp op<=8/\Dt (JN op) 2=ae op/\Tc (JN op)≠0:=by
 have:((aE 22).all λop=>decide (7<=op->1<=Lp op/\Lp op<=8/\Dt (JN op) 2=ae op/\Tc (JN op)≠0))=ad:=by decide +kernel
 intro op a h2;have:=ER.1 this op (DC.2 (by omega));simp only[CM]at this;exact this a
def after(r:RS)(k:Nat)(x:X):RS:=⟨r.i+k,r.BS++x.row (aa r.BS),r.e⟩
def ACr{t op}(h:Dt t 2=ae op):JN op=t:=by have⟨s,a,h2,_⟩:=Jf h;unfold JN;rw[DK,a];exact h2
open Go.Proofs
set_option maxRecDepth 10000
def SQ:List bS:=[[],[],[],[],[],[45],[110,111,116],[42],[100,105,118],[109,111,100],[43],[45],[60],[60,61],[62],[62,61],[61],[60,62],[97,110,100],[111,114],[120,111,114],[105,109,112,108,105,101,115]]
def vv(op)(h:5<=op)(h2:op<=21):SQ[op]?=ae (JN op):=by
 have:((aE 22).all λop=>decide (op<5)||SQ[op]? == ae (JN op))=ad:=by decide +kernel
 have:=ER.1 this op (DC.2 zo);simp only[F_,CM,CX]at this;rcases this with h|h;omega;exact h
def qh(G)(b:Yy G):Spec () G 303 [] Zm (Za .new 1 V.AB (.mk ab SQ)):=by refine Zo 0 2 _ func303 λX=>?_;refine Z1 ?_;refine Z1 ?_;intro a;refine BM (Z4 (λo=>o==1) (l:=[(0,Za .new 1 V.AB (.mk ab SQ))]) (m:=[]) ?_ trivial) ?_;refine Zs ?_;exact Xm (l:=SQ) rfl zp BE;exact Zr
def k_:List V:=[qI 0,qI 10,qI 10,qI 10,qI 10,qI 9,qI 9,qI 8,qI 8,qI 8,qI 7,qI 7,qI 6,qI 6,qI 6,qI 6,qI 5,qI 5,qI 4,qI 3,qI 2,qI 1,qI 10]
def qY(op)(h:op<23):k_[op]?=ae (qI (Lp op)):=by match op,h with|0,_=>rfl|1,_=>rfl|2,_=>rfl|3,_=>rfl|4,_=>rfl|5,_=>rfl|6,_=>rfl|7,_=>rfl|8,_=>rfl|9,_=>rfl|10,_=>rfl|11,_=>rfl|12,_=>rfl|13,_=>rfl|14,_=>rfl|15,_=>rfl|16,_=>rfl|17,_=>rfl|18,_=>rfl|19,_=>rfl|20,_=>rfl|21,_=>rfl|22,_=>rfl|n+23,h=>exact absurd h zo
def AAT(G)(d:Yy G)(op:Nat)(a:op<23):Spec () G 304 [.int .u8 op] Zm (Lp op):=by refine Zo 0 7 _ func304 λX=>?_;have c:=qY op a;unfold k_ at c;have b:(op:Int)<23:=zo;refine Z1 ?_;refine Ym (j5 c b @DS @GV @EE) ?_;intro e;exact Zr
def YS{t op}(a:7<=op)(h2:op<=21):(t≠[]/\JN op=t)↔Dt t 2=ae op:=by constructor;rintro⟨_,rfl⟩;exact(ABW op a h2).2.2.1;intro h;exact⟨(Jf h).choose_spec.2.2.2,ACr h⟩
def bR{z}(h:0<=z)(h2:z<256):IntKind.u8.wrap z=z:=by unfold IntKind.wrap;simp[IntKind.signed,IntKind.bits];omega
def rj(G)(u:Yy G)(e)(I:FJ e.l)(g r)(H:r.i<1000000)(n:Int):RdS 1012 [] G 281 [n] e g r (.int .u8 (I2 e.l n r.i)) r:=by
 intro gx;refine Zo 1000 32 _ func281 λX=>?_;have d:I2 _ n _=match Dt (Yj e.l r.i).BG 2 with|some op=>if Lp op=n then op else 0|none=>0:=rfl
 generalize I2 e.l n r.i=A at d⊢;refine Z1 ?_;refine Z1 ?_;refine Yn u (Lc G u e I g r H) λv=>?_;refine Zu ?_;generalize(Yj e.l r.i).BG=t at d⊢;refine Z1 ?_;refine Zc u ?_ (s:=(qh G u));refine Z1 ?_;refine BK ?_;refine Z8 [0,1,5,6] [8,1012] 22 (λk  _=>[(7,.int .u8 k)]) (λ_ _=>[]) (λk _=>7<=k/\∀ j,7<=j->j<k->¬(Dt t 2=ae j/\Lp j=n)) 7 () zd ⟨BO _,λj F h2=>zo⟩ zp zp ?_;rintro k _ J ⟨m,E⟩ K o;refine Z1 ?_;refine Zi rfl (λb=>?_) (λb=>?_)
 .have c:k<=21:=by have b:decide ((k:Int)<=21)=ad:=b;simp at b;omega
  have D:=vv k zo c;have a:¬(Dt t 2=ae k/\Lp k=n)->∀ j,7<=j->j<k+1->¬(Dt t 2=ae j/\Lp j=n):=by intro h j F h2;by_cases q:j=k;subst q;exact h;exact E j F zo
  have f:IntKind.u8.wrap ((k:Int)+1)=((k+1:Nat):Int):=by rw[bR zo zo];omega
  refine Z0 ?_;refine Zz ?_;refine BK ?_;by_cases w:t=[];have z:(t==[])=ad:=by rw[w]<;>rfl
  refine Ym z ?_;refine Ym f ?_;exact o _ ⟨zo,(),⟨zo,a (λh=>(YS m c).2 h.1 |>.1 w)⟩,AO zp zp⟩;have z:(t==[])=ab:=zu w;by_cases x:JN k=t
  rotate_left;have C:(JN k==t)=ab:=zu x;refine Ym (j3 z D C) ?_;refine Ym f ?_;exact o _ ⟨zo,(),⟨zo,a (λh=>x ((YS m c).2 h.1).2)⟩,AO zp zp⟩;have C:(JN k==t)=ad:=zu x;have y:=(YS m c).1 ⟨w,x⟩;refine Ym (j3 z D C) ?_;refine Zc u ?_ (s:=(AAT G u k zo));rw[y]at d;simp only at d
  by_cases p:Lp k=n;rw[AF p]at d;have B:(Lp k==n)=ad:=zu p;rw[B];refine Z ?_;rw[d];exact⟨rfl,v,zr,zr⟩;have B:(Lp k==n)=ab:=zu p;rw[B];refine Ym f ?_;exact o _ ⟨zo,(),⟨zo,a (λh=>p h.2)⟩,AO zp zp⟩
 have c:k=22:=by have b:decide ((k:Int)<=21)=ab:=b;simp at b;omega
 refine Z0 ?_;have d:A=0:=by rw[d];rcases y:Dt t 2 with _|op;rfl;simp only;rw[AA];intro p;have:=An y;exact E op this.1 zo ⟨y,p⟩
 refine Z ?_;rw[d];exact⟨rfl,v,zr,zr⟩
def p'(G)(j:Yy G)(d)(D:FJ d.l)(g r)(C:R9 d.l r)(c)(q:TC G d g c r.i)(J:LU d.l c):RdS 1012 [] G 280 [] d g r (.bool (KY d.l c r).1) (KY d.l c r).2:=by
 have M:=D.len;have B:r.i<1000000:=by have:=C.1;omega
 have K:qN ((r.i:Int)+1)=((r.i+1:Nat):Int):=by rw[Xi zo zo];omega
 intro gx;refine Zo 1000 29 _ func280 λX=>?_;have e:KY _ c r=if(Yj _ _).BG=[45]then andThen (c 9 r.adv) λa=>(ad,a.put ⟨5,0,[],a.last,-1,-1⟩)
  else if(Yj d.l r.i).BG=[110,111,116]then andThen (c 9 r.adv) λa=>(ad,a.put ⟨6,0,[],a.last,-1,-1⟩)
  else Be d.l c r:=rfl
 have p:=ABP G j d D g r C c q J;have m:(Yj d.l r.i).BG≠[]->r.i<aa d.l:=by intro h;rw[<- Nat.not_le];intro h2;apply h;rw[Hz h2]
 generalize KY d.l c r=o at e⊢;generalize Be d.l c r=N at e p;refine Z1 ?_;refine Z1 ?_;refine Yt (fun(x:Nat×Int)=>st [(0,.ptr 8 g 0),(3,.int .u8 x.2)] [(8,C9 1012 [] d g x.1 r),(1012,Dw x.1 r.BS)]) (λx=>r.i<aa d.l/\o=andThen (c 9 r.adv) λa=>(ad,a.put ⟨x.2,0,[],a.last,-1,-1⟩)) (λO v=>?_) ?_
 .refine Z1 ?_;refine Yn j (Lc G j d D g r B) λn=>?_;refine Zu ?_;generalize(Yj d.l r.i).BG=t at e m⊢;refine BK ?_;by_cases y:t=[45];have I:=zu y;rw[AF y]at e;refine Ym I ?_;refine Z1 ?_;exact v _ (n,5) ⟨m (by rw[y];simp),e⟩ qs;have I:(t==[45])=ab:=zu y;rw[AA y]at e;refine Ym I ?_;refine Xh rfl ?_
  try clear h2
  by_cases w:t=[110,111,116];have H:(t==[110,111,116])=ad:=zu w;rw[AF w]at e;refine Ym H ?_;refine Z1 ?_;exact v _ (n,6) ⟨m (by rw[w];simp),e⟩ qs;have H:(t==[110,111,116])=ab:=zu w;rw[AA w]at e;refine Ym H ?_;refine Z1 ?_;refine Yn j (p) λf=>?_;refine Zu ?_;refine Z ?_;rw[e];exact⟨rfl,f,zr,zr⟩
 rintro⟨gx,A⟩ ⟨L,e⟩;replace e:o=andThen (c 9 r.adv) λa=>(ad,a.put ⟨A,0,[],a.last,-1,-1⟩):=e;have u:R9 d.l r.adv:=(K_ L).ok C;have z:=q.un r.adv (GH _) u;have k:=(J 9 r.adv).ok u;generalize c 9 r.adv=x at z e k;have⟨b,a⟩:=x;simp only at z k;have s:aa a.BS<1000000:=by have:=k.1;have:=k.2;omega
 refine Ym (zi @Y3 K) ?_;cases b;rw[Xq]at e;refine Ym @Y3 ?_;refine Yn j (z) λf=>?_;refine Zu ?_;refine Z ?_;rw[e];exact⟨rfl,f,zr,zr⟩;rw[Y7]at e;refine Ym @Y3 ?_;refine Yn j (z) λf=>?_;refine Zu ?_;refine Xc @Y3 ?_;refine Yn j (Qg G j d g a s) λF=>?_;refine Zu ?_;refine Xc @Y3 ?_;rw[<- X7 ⟨A,0,[],a.last,-1,-1⟩];refine Yn j (Lb G j d g a s ⟨A,0,[],a.last,-1,-1⟩) λE=>?_;refine Zu ?_;refine Z ?_;rw[e];exact⟨rfl,E,zr,zr⟩
def rD{l f}(k r):CJ l 0 r (H9 l (Yv l f) k r).2:=by rw[H8 (Pk l f) (λ_ _=>Bn)];exact JQ (L0 (Vv l f) r) λ_=>(L0 (Vv l f) r).trans (Dz (Vv l f) _ _ _)
def zZ(l b n m r):S7 l b n (m+1) r=if I2 l n r.i=0 then(ad,r)else andThen (b (n+1) r.adv) λa=>S7 l b n m (a.put ⟨I2 l n r.i,0,[],r.last,a.last,-1⟩):=rfl
def zQ{l n i}(h:I2 l n i≠0):i<l.length/\I2 l n i<=21:=by
 unfold I2 at h⊢;rcases a:Dt _ 2 with _|op;rw[a]at h;exact absurd rfl h;have h2:=An a;have:Py l i=ae op:=by rw[Fx,a]
 refine⟨Ij this,?_⟩;simp only;split<;>omega
def sb(G)(j:Yy G)(c)(hT:FJ c.l)(g):∀ f r,c.l.length<f+r.i->R9 c.l r ->
  (∀ n,1<=n->n<=9->RdS 1012 [] G 261 [.int .i64 n] c g r (.bool (Yv c.l f n r).1) (Yv c.l f n r).2) /\
  RdS 1012 [] G 280 [] c g r (.bool (Yv c.l f 9 r).1) (Yv c.l f 9 r).2:=by
 have hTl:=hT.len;intro f
 induction f with|zero=>intro r hf O;have:=O.1;omega|succ f ih=>
 intro r hf O;have I:TC G c g _ r.i:=⟨λn S R h9 hi C=>(ih S zo C).1 n R h9,λS hi C=>(ih S zo C).2⟩;have K:=Vv c.l f;have B:=p' G j c hT g r O _ I K;have J:∀ k:Nat,Yv c.l (f+1) (9-k) r=H9 c.l (Yv c.l f) k r:=by intro k;rw[H8 (Pk c.l f) (λ_ _=>Bn)]<;>rfl
 have h9:Yv c.l (f+1) 9 r=KY c.l (Yv c.l f) r:=J 0;rw[h9];refine⟨?_,B⟩
 suffices h:∀ k:Nat,k<=8->RdS 1012 [] G 261 [.int .i64 (9-k)] c g r (.bool (H9 c.l (Yv c.l f) k r).1) (H9 c.l (Yv c.l f) k r).2 by intro n R hn9;have:=h (9-n).toNat zo;rw[<- J,show(9:Int)-((9-n).toNat:Nat)=n by omega]at this;exact this
 intro k
 induction k with
 |zero=>intro _ gx;refine Zo 1000 46 [.tmp 4] func261 λX=>?_;have d:H9 c.l (Yv c.l f) 0 r=KY c.l (Yv c.l f) r:=rfl;generalize H9 c.l (Yv c.l f) 0 r=w at d⊢;generalize KY c.l (Yv c.l f) r=y at d B;refine Z1 ?_;refine Z1 ?_;refine Z1 ?_;refine Z1 ?_;refine Yn j (B) λp=>?_;refine Zu ?_;refine Z ?_;rw[d];exact⟨rfl,p,zr,zr⟩|succ k e=>
  intro hk gx;have e:=e zo;obtain⟨n,hn⟩:∃ n:Int,n=8-k:=⟨_,rfl⟩;have e9:(9:Int)-((k+1:Nat):Int)=n:=zo;have e9k:(9:Int)-(k:Int)=n+1:=zo;have hn1:1<=n/\n<=8:=zo;rw[e9];rw[e9k]at e;refine Zo 1000 46 [.tmp 4] func261 λX=>?_;have d:H9 c.l (Yv c.l f) (k+1) r=andThen (H9 c.l (Yv c.l f) k r) (S7 c.l (Yv c.l f) n (aa c.l+1)):=by rw[H9,hn]
  have t:=rD (l:=c.l) (f:=f) k r;generalize H9 c.l (Yv c.l f) (k+1) r=w at d⊢;generalize H9 c.l (Yv c.l f) k r=y at d e t;obtain⟨b,q0⟩:=y;simp only at e t;have T:(n==10)=ab:=wE;have q9:(n==9)=ab:=wE;have s:=wQ (n+1);refine Z1 ?_;refine Ym T ?_;refine Ym q9 ?_;refine Z0 ?_;refine Zz ?_;cases b with|false=>rw[Xq]at d;refine Ym s ?_;refine Yn j (e) (gx:=gx) λp=>?_;refine Zu ?_;refine Z ?_;rw[d];exact⟨rfl,p,zr,zr⟩|true=>
  rw[Y7]at d;have Y:=t.ok O;refine Ym s ?_;refine Yn j (e) (gx:=gx) λp=>?_;refine Zu ?_;refine Z0 ?_;refine BK ?_;refine Xw [0,1] [] (fun(x:Nat×Nat×RS)=>[]) (λx=>[(8,C9 1012 [] c g x.1 x.2.2),(1012,Dw x.1 x.2.2.BS)]) (λx=>w=S7 c.l (Yv c.l f) n x.2.1 x.2.2/\R9 c.l x.2.2/\r.i<=x.2.2.i/\aa c.l<x.2.1+x.2.2.i) (λx=>x.2.1) (p,aa c.l+1,q0) ⟨d,Y,t.up,Nat.lt_add_right _ (GH _)⟩ zp zp ?_
  try clear d
  rintro⟨gy,m,q⟩ ⟨d,u,H,hm⟩ L3 hL3;replace d:w=S7 c.l (Yv c.l f) n m q:=d;replace u:R9 c.l q:=u;replace H:r.i<=q.i:=H;replace hm:aa c.l<m+q.i:=hm;obtain⟨m,rfl⟩:∃ m',m=m'+1:=⟨m-1,by have:=u.1;omega⟩;have W:q.i<1000000:=by have:=u.1;omega
  have U:aa q.BS<1000000:=by have:=u.1;have:=u.2;omega
  rw[zZ]at d;have E:=zQ (l:=c.l) (n:=n) (i:=q.i);refine Z1 ?_;refine Yn j (rj G j c hT g q W n) (gx:=gy) λgz=>?_;refine Zu ?_;generalize I2 c.l n q.i=A at d E⊢;refine Z1 ?_;by_cases P:A=0;have e1:(((A:Nat):Int)==0)=ad:=by rw[P]<;>rfl
  rw[AF P]at d;rw[e1];refine Z ?_;rw[d];exact⟨rfl,gz,zr,zr⟩;have e1:(((A:Nat):Int)==0)=ab:=wE;rw[AA P]at d;rw[e1];refine Z0 ?_;obtain⟨hil,hop21⟩:=E P;have hw:IntKind.i64.wrap ((q.i:Int)+1)=((q.i+1:Nat):Int):=by rw[Xi zo zo];omega
  have v:R9 c.l q.adv:=(K_ hil).ok u;have Q:=I.SG (n+1) q.adv zo zo (by show r.i<q.i+1;omega) v;have o:=K (n+1) q.adv;generalize Yv c.l f (n+1) q.adv=z at d Q o;obtain⟨b,a⟩:=z;simp only at Q o;have ha:=o.ok v;have haup:q.i+1<=a.i:=o.up;have L:aa a.BS<1000000:=by have:=ha.1;have:=ha.2;omega
  refine Z1 ?_;refine Yn j (Qg G j c g q U) (gx:=gz) λN=>?_;refine Zu ?_;refine Ym (zi @Y3 hw) ?_;refine Zz ?_;cases b;rw[Xq]at d;refine Ym (zi @Y3 s) ?_;refine Yn j (Q) (gx:=N) λD=>?_;refine Zu ?_;refine Zi rfl (λM=>?_) (λM=>?_);refine Z ?_;rw[d];exact⟨rfl,D,zr,zr⟩;cases M;rw[Y7]at d;refine Ym (zi @Y3 s) ?_;refine Yn j (Q) (gx:=N) λD=>?_;refine Zu ?_;refine Z1 ?_;refine Yn j (Qg G j c g a L) (gx:=D) λgz3=>?_;refine Zu ?_;refine Xc @Y3 ?_;rw[<- X7 ⟨A,0,[],q.last,a.last,-1⟩];refine Yn j (Lb G j c g a L ⟨A,0,[],q.last,a.last,-1⟩) (gx:=gz3) λgz4=>?_;refine Zu ?_;have F:R9 c.l (a.put ⟨A,0,[],q.last,a.last,-1⟩):=⟨ha.1,by have R:=o.GK;have h2:=u.2;show aa (a.BS++[_])<=a.i;rw[BQ,JI];have h3:aa a.BS+(q.i+1)+0<=aa q.BS+a.i:=R;omega⟩
  refine hL3 _ ⟨(gz4,m,a.put ⟨A,0,[],q.last,a.last,-1⟩),GH _,⟨d,F,?_,?_⟩,AO zp (by simp -implicitDefEqProofs only[go_sem,seval];try exact⟨rfl,rfl⟩)⟩;show r.i<=a.i;omega;show aa c.l<m+a.i;omega
def encRr(c:AH)(p:List XN×Int×Int):V:=.tuple [encXs c p.1,qI p.2.1,qI p.2.2]
def fZ(G)(n:Yy G)(c a)(t:FJ a.l):Spec () G 244 [Za c 3 Xy a] Zm (λv _=>v=encRr .new (Xt a.l)):=by
 have z:=t.len;refine Zo 0 34 _ func244 λX=>?_;have h:Xt _=if(Yv _ _ 1 _).1=ab then(([]:List XN),((Yv _ (aa a.l+1) 1 ⟨0,[],0⟩).2.i:Int),(Yv a.l (aa a.l+1) 1 ⟨0,[],0⟩).2.e)
  else if Wg (Yv a.l (aa a.l+1) 1 ⟨0,[],0⟩).2.BS>64 then([],0,3)else((Yv a.l (aa a.l+1) 1 ⟨0,[],0⟩).2.BS,((Yv a.l (aa a.l+1) 1 ⟨0,[],0⟩).2.i:Int),(0:Int)):=rfl
 have p:R9 a.l ⟨0,[],0⟩:=⟨CB _,BO _⟩;have k:=λg=>(sb G n a t g (aa a.l+1) ⟨0,[],0⟩ (GH _) p).1 1 zd zd;have f:=Nc t;have j:=(Vv a.l (aa a.l+1) 1 ⟨0,[],0⟩);generalize Xt a.l=x at h⊢;generalize Yv a.l (aa a.l+1) 1 ⟨0,[],0⟩=y at h k j f;obtain⟨b,r⟩:=y;simp only at h k j f;have q:aa r.BS<1000000:=by have:=(j.ok p);have A:=this.1;have h2:=this.2;omega
 refine Z1 ?_;refine Z1 ?_;intro w;refine Y2 (λ_=>ab) [5] [] (l:=[]) (m:=[(8,.cells .new w 0 [Za .any 3 Xy a,.int .i64 0,.AG,.int .i64 0])]) trivial ?_ ?_;simp only[Z2,Z5,CE];exact D_ (cs:=[Za c 3 Xy a,.int .i64 0,.AG,.int .i64 0]) rfl zp ⟨Fz.any (Xn _ _ _),Zd,Zd,Zd,AJ⟩;refine Z1 ?_;refine j_ n (k w) zk (λF=>rfl) rfl rfl rfl _ zp (by simp only[Yl,BI,BV,Xn];rfl) zp λu=>?_;refine Zu ?_;cases b with|false=>refine W7 rfl ?_;refine BM (Z4 (λo=>o==8) (l:=[(5,.view .new (.agg [Za .any 3 Xy a,.int .i64 r.i,AZ 1012 u 6 r.BS,.int .i64 r.e]))]) (m:=[]) ?_ trivial) ?_;refine Zs ?_;exact CS (v:=.agg [Za .any 3 Xy a,.int .i64 r.i,AZ 1012 u 6 r.BS,.int .i64 r.e]) rfl zp;refine ZT n ?_;refine Z ?_;rw[h]<;>rfl|true=>
 refine Z0 ?_;refine Y2 (λo=>o==1012) [5] [] (l:=[]) (m:=[(8,.cells .new w 0 [Za .any 3 Xy a,.int .i64 r.i,encXs .new r.BS,.int .i64 r.e])]) trivial ?_ ?_;simp only[Z2,Z5,CE];exact D_ (cs:=[Za .any 3 Xy a,.int .i64 r.i,AZ 1012 u 6 r.BS,.int .i64 r.e]) rfl zp ⟨Zd,Zd,Yp rfl zp Rc,Zd,AJ⟩;rw[AA zS]at h;refine Ym @encXs.eq_1 ?_;refine GW @Yu n ?_ (s:=(Fs G n _ (Zb r.BS) (by rw[Zl];exact q) (by rw[Zl];exact f)));rw[Zl];refine Zs ?_;refine Zi rfl (λd=>?_) (λd=>?_);have d:=zu d;rw[AF d]at h;refine Z ?_;rw[h]<;>rfl;have d:¬Wg r.BS>64:=zu d;rw[AA d]at h;refine Z0 ?_;refine BM (Z4 (λo=>o==8) (l:=[(5,.view .new (.agg [Za .any 3 Xy a,.int .i64 r.i,encXs .new r.BS,.int .i64 r.e]))]) (m:=[]) ?_ trivial) ?_;refine Zs ?_;exact CS (v:=.agg [Za .any 3 Xy a,.int .i64 r.i,encXs .new r.BS,.int .i64 r.e]) rfl zp;refine Pr @encXs.eq_1 n ?_;refine Z ?_;rw[h]<;>rfl
def AAJ(G)(z:Yy G)(s:bS)(L:s.length<100000):Spec () G 224 [s] Zm (encRr .new (V5 s)):=by
 refine Zo 0 50 _ func224 λX=>?_;have b:V5 s=if(Yr s).2.2≠0 then(([]:List XN),(Yr s).2.1,(Yr s).2.2)
  else if(Xt _).2.2=3 then([],0,3)
  else if(Xt _).2.2=0/\(Xt _).2.1=(aa (Yr s).1:Nat)then((Xt (Yr s).1).1,0,0)
  else([],if(Xt (Yr s).1).2.1=(aa (Yr s).1:Nat)then(aa s:Int)else((Yr s).1.getD (Xt (Yr s).1).2.1.toNat ⟨0,[],0⟩).pos,if(Xt (Yr s).1).2.2=0 then 80 else(Xt (Yr s).1).2.2):=rfl
 generalize V5 s=B at b⊢;have I:=J9 L;have M:=Rq G z s L;have d:=λc=>fZ G z c (Zb (Yr s).1) (by rw[Zl];exact I);simp only[Zl]at d;have H:=Qp (l:=(Yr s).1);generalize Yr s=t at b I M d H;generalize Xt t.1=p at b d H;have⟨l,O,J⟩:=t;have⟨K,i,e⟩:=p;simp only at b I d H;refine Z1 ?_;refine Z1 ?_;refine Zn z ?_ (s:=M);refine Xc (j3 @encTok.eq_1 @encTks.eq_1 @Xn) ?_;refine Z1 ?_;by_cases k:J=0
 rotate_left;have E:(J != 0)=ad:=zu k;rw[AF k]at b;rw[E];refine Zi rfl (λy=>?_) (λy=>?_);refine Z ?_
 rw[b]<;>rfl;cases y;have E:=zu k;rw[AA (zu k)]at b;rw[E];refine Z1 ?_;refine GW @Xn z ?_ (s:=(d _));refine Xc (j3 @encRr.eq_1 @encXs.eq_1 @Yu) ?_;refine Z1 ?_;by_cases j:e=3;have D:=zu j;rw[AF j]at b;rw[D];refine Zi rfl (λx=>?_) (λx=>?_);refine Z ?_;rw[b]<;>rfl;cases x;have D:(e==3)=ab:=zu j;rw[AA j]at b;rw[D];refine Z1 ?_;obtain⟨m,rfl⟩:∃ m:Nat,i=m:=⟨i.toNat,zo⟩;have a:B=if e≠0 then([],(if(m:Int)=(aa l:Nat)then(aa s:Int)else(l.getD m ⟨0,[],0⟩).pos),e)else if m<aa l then([],(if(m:Int)=(aa l:Nat)then(aa s:Int)else(l.getD m ⟨0,[],0⟩).pos),80)else(K,0,0):=by rw[b,GZ];by_cases f:e=0;rw[AA (show ¬e≠0 by simpa using f)];by_cases o:m<aa l;rw[AA zo,AF o,AF f];rw[AF ⟨f,zo⟩,AA o];rw[AF f,AA (λh=>f h.1),AA f]
 try clear b
 generalize g:(if(m:Int)=(aa l:Nat)then(aa s:Int)else(l.getD m ⟨0,[],0⟩).pos)=N at a;refine Yt (fun(_:Unit)=>st [(0,s),(5,Za .new 3 Xy (Zb l)),(7,e),(8,Za .new 6 Y9 (Zb K)),(9,m),(10,N)] []) (λ_=>True) (λP r=>?_) ?_;refine Z1 ?_;by_cases o:m<aa l;have n:=zU (((m:Nat):Int)<((aa l:Nat):Int));obtain⟨A,q⟩:∃ A,l[m]?=ae A:=⟨_,AY o⟩;have F:l.getD m ⟨0,[],0⟩=A:=by rw[DK,q]<;>rfl
 rw[AA zo,F]at g;rw[n];refine Ym (zi q @Wd) ?_;exact r _ () trivial (AO (by rw[<- g];simp -implicitDefEqProofs only[go_sem,seval];try rfl) zp);have n:=zV (((m:Nat):Int)<((aa l:Nat):Int));rw[AF zo]at g;rw[n];refine Z0 ?_;exact r _ () trivial (AO (by rw[<- g];simp -implicitDefEqProofs only[go_sem,seval];try rfl) zp);intro _ _;refine Z1 ?_;by_cases f:e=0
 rotate_left;have C:(e != 0)=ad:=zu f;rw[AF f]at a;rw[C];refine Zi rfl (λw=>?_) (λw=>?_);refine Z ?_
 rw[a]<;>rfl;cases w;have C:(e != 0)=ab:=zu f;rw[AA (zu f)]at a;rw[C];refine Z1 ?_;by_cases o:m<aa l;have n:=zU (((m:Nat):Int)<((aa l:Nat):Int));rw[AF o]at a;rw[n];refine Zi rfl (λu=>?_) (λu=>?_);refine Z ?_;rw[a]<;>rfl;cases u;have n:=zV (((m:Nat):Int)<((aa l:Nat):Int));rw[AA o]at a;rw[n];refine Z ?_;rw[a]<;>rfl
def L5(G)(f:Yy G)(c s)(i:Nat):Spec () G 242 [Za c 3 Xy s,i] Zm (X6 s.l i):=by refine Zo 0 14 [.tmp 4] func242 λX=>?_;refine Z1 ?_;refine Zz ?_;by_cases e:i<aa s.l;have b:=zU ((i:Int)<aa s.l);have a:=AY e;generalize s.l[i]=t at a;rw[J8 a];refine Ym b ?_;refine Zi rfl (λd=>?_) (λd=>?_);exact Zq (zi a @Wd);cases d;have b:=zV ((i:Int)<aa s.l);refine Zf b ?_;rw[Nv zo]
def rE(G)(e:Yy G)(c s)(i:Nat):Spec () G 243 [Za c 3 Xy s,i] Zm (O7 s.l i):=by refine Zo 0 17 _ func243 λX=>?_;refine Z1 ?_;by_cases d:i<aa s.l;have b:=zU ((i:Int)<aa s.l);have a:=AY d;generalize s.l[i]=t at a;rw[H4 a];exact Zq (j3 b a @Wd);have b:=zV ((i:Int)<aa s.l);rw[Oi zo];exact Zq b
def R5(c:AH)(s:EU):V:=.agg [.int .u8 s.AD,s.name,Za c 6 Y9 (Zb s.x)]
def Lt(c s):R5 c s=.agg [.int .u8 s.AD,s.name,Za c 6 Y9 (Zb s.x)]:=rfl
def encSR(r:EU×Int×Int):V:=.tuple [R5 .new r.1,qI r.2.1,qI r.2.2]
def wM(G)(y:Yy G)(c a)(hT:FJ a.l)(i:Nat)(hi:i<=a.l.length):Spec () G 220 [Za c 3 Xy a,i] Zm (encSR (Ud a.l i)):=by
 have d:Ud _ i=if X6 _ i=Pu then Tn _ 2 _ _ (i+1)else Tn a.l 1 [58,61] [[59]] i:=rfl;generalize Ud a.l i=O at d⊢;have hTl:=hT.len;refine Zo 0 98 [.cell 4 257,.tmp 5,.tmp 6] func220 λX=>?_;refine Z1 ?_;intro N;refine Z1 ?_;intro M;refine Z1 ?_;intro g15;refine Z1 ?_;intro g16;refine Yt (fun(x:(Nat×Int)×bS×List bS)=>st [(0,Za c 3 Xy a),(1,qI x.1.1),(4,.ptr 4 N 0),(7,.ptr 7 M 0),(8,Za .new 1 V.AB (.mk ab [x.2.1])),(9,Za .new 1 V.AB (.mk ab x.2.2))] [(4,qC N 0 [.int .u8 0,.AB [],.AG]),(7,qC M 0 [.int .u8 x.1.2,.AB [],.AG])])
  (λx=>x.1.1<=aa a.l+1/\(x.1.2=1\/x.1.2=2)/\aa x.2.2<=2/\x.2.1≠[]/\O=Tn a.l x.1.2 x.2.1 x.2.2 x.1.1) (λK1 U=>?_) ?_
 refine Z1 ?_;refine GW @Xn y ?_ (s:=(L5 G y _ a i));by_cases B:X6 a.l i=Pu;rw[AF B]at d;rw[B];unfold Pu;have F:(([101,109,105,116]:bS)==[101,109,105,116])=ad:=rfl;refine Xc F ?_;refine Z1 ?_;refine Z1 ?_;intro g22;refine Z1 ?_;intro g23;have hw:qN ((i:Int)+1)=((i+1:Nat):Int):=by rw[Xi zo zo];omega
 refine Ym hw ?_;refine U _ ((i+1,2),[40],[[41],[59]]) ⟨by show i+1<=_;omega,.inr rfl,by show(2:Nat)<=2;decide,by show([40]:bS)≠[];decide,d⟩ (Z4 (λo=>o==22||o==23) ?_ ?_);refine Zs ?_;exact⟨Zd,Zd,Zd,Zd,Xm (f:=V.AB) (l:=[[40]]) rfl zp BE,Xm (f:=V.AB) (l:=[[41],[59]]) rfl zp BE⟩;simp only[Z2,Z5,CE];exact⟨CQ rfl zp,CQ rfl zp⟩;rw[AA B]at d;have F:(X6 a.l i==[101,109,105,116])=ab:=by rw[FD];exact B
 refine Xc F ?_;refine Z0 ?_;refine U _ ((i,1),[58,61],[[59]]) ⟨by show i<=_;omega,.inl rfl,by show(1:Nat)<=2;decide,by show([58,61]:bS)≠[];decide,d⟩ (Z4 (λo=>o==15||o==16) ?_ ?_);refine Zs ?_;exact⟨Zd,Zd,Zd,Zd,Xm (f:=V.AB) (l:=[[58,61]]) rfl zp BE,Xm (f:=V.AB) (l:=[[59]]) rfl zp BE⟩;simp only[Z2,Z5,CE];exact⟨CQ rfl zp,CQ rfl zp⟩
 try clear d
 rintro⟨⟨j,k⟩,w,q⟩ ⟨hj,hk,hws,D,d⟩;simp only at hj hk hws D d;have hl1:(Sl.mk ab [w]).l=[w]:=rfl;refine Z1 ?_;refine GW @Xn y ?_ (s:=(rE G y _ a j));unfold Tn at d;cases W:O7 a.l j with|false=>rw[AF W]at d;refine Zs ?_;refine Z ?_;rw[d]<;>rfl|true=>
 rw[AA (by rw[W];decide)]at d;have hjl:j<aa a.l:=by refine MC λh=>?_;rw[Oi zo]at W;cases W
 have hg:=AY hjl;generalize a.l[j]=t at hg;rw[J8 hg]at d;refine Zs ?_;refine Z0 ?_;have hw:qN ((j:Int)+1)=((j+1:Nat):Int):=by rw[Xi zo zo];omega
 have hw2:qN (((j+1:Nat):Int)+1)=((j+2:Nat):Int):=by rw[Xi zo zo];omega
 refine Ym (zi hg @Wd) ?_;refine Ym hw ?_;have p1:J3 Tryz.prog G 242 [Za c 3 Xy a,qI ((j+1:Nat):Int)] (.AB (X6 a.l (j+1))):=⟨zk,by refine Xc @Xn ?_;refine(L5 G y _ a (j+1)).mono ?_;rintro _ _ rfl;rfl⟩
 refine Zz ?_;refine Zz<|Zv ⟨λi=>if i=2 then .AB (X6 a.l (j+1))else .top,λ_=>.pure⟩ zk y zk zk ?_;refine Xc hl1 ?_;refine⟨p1,?_⟩;by_cases u:X6 a.l (j+1)=w
 rotate_left;rw[AF u]at d;have F:(X6 a.l (j+1)==w)=ab:=zu u;rw[F];refine Z ?_
 rw[d]<;>rfl;rw[AA (zu u)]at d;have F:(X6 a.l (j+1)==w)=ad:=zu u;rw[F]
 try clear p1
 refine Z0 ?_;have Q:j+1<aa a.l:=by refine MC λh=>?_;rw[Nv zo]at u;exact D u.symm
 refine Ym hw2 ?_;refine Yt (fun(x:Nat×List XN)=>st [(0,Za c 3 Xy a),(1,qI x.1),(4,.ptr 4 N 0),(7,.ptr 7 M 0),(9,Za .new 1 V.AB (.mk ab q))] [(4,qC N 0 [.int .u8 0,.AB [],.AG]),(7,qC M 0 [.int .u8 k,t.BG,Za .new 6 Y9 (Zb x.2)])])
  (λx=>x.1<=aa a.l+2/\O=Kw a.l ⟨k,t.BG,x.2⟩ q x.1) (λK4 T=>?_) ?_
 .refine Yt (fun(b:Bool)=>st [(0,Za c 3 Xy a),(1,qI ((j+2:Nat):Int)),(4,.ptr 4 N 0),(7,.ptr 7 M 0),(9,Za .new 1 V.AB (.mk ab q)),(59,b)] [(4,qC N 0 [.int .u8 0,.AB [],.AG]),(7,qC M 0 [.int .u8 k,t.BG,.AG])])
   (λb=>b=ad↔¬(k=2/\X6 a.l (j+2)=[41])) (λK5 C=>?_) ?_
  rcases hk with rfl|rfl;refine CA zk ?_;have z:((1:Int)==1)=ad:=rfl;refine Xc z ?_;exact C _ ad ⟨λ_ h=>absurd h.1 zd,λ_=>rfl⟩ qs;refine CA zk ?_;have z:((2:Int)==1)=ab:=rfl;refine Xc z ?_;refine Co @Xn y ?_ (s:=(L5 G y _ a (j+2)));refine C _ (!(X6 a.l (j+2)==[41])) ⟨λh h2=>?_,λh=>?_⟩ qs;rw[h2.2]at h;cases h;have:¬X6 a.l (j+2)=[41]:=λh3=>h ⟨rfl,h3⟩;simpa using this;intro b hb;cases b with
  |false=>
   have hq:k=2/\X6 a.l (j+2)=[41]:=MC λh=>by have:=hb.2 h;cases this
   rw[AF hq]at d;refine Z0 ?_;exact T _ (j+2,[]) ⟨by show j+2<=_;omega,d⟩ qs
  |true=>
  have hq:=hb.1 rfl;rw[AA hq]at d;unfold Ef at d;refine W7 rfl ?_;have hj2:j+2<=aa a.l:=Q;have E:(a.sub (j+2) (aa a.l)).l=a.l.drop (j+2):=by rw[Mq];exact HY (by rw[EJ];omega)
  have I:=λc=>fZ G y c (a.sub (j+2) (aa a.l)) (by rw[E];exact⟨by rw[EJ];omega,λt ht=>hT.BG t (OW ht)⟩);have J:=Qp (l:=a.l.drop (j+2));rw[E]at I;rw[EJ]at J;generalize Xt (a.l.drop (j+2))=p at d I J;obtain⟨xs,n,e⟩:=p;simp only at d J;have hw3:qN (((j+2:Nat):Int)+n)=((j+2+n.toNat:Nat):Int):=by rw[Xi zo zo];omega
  have hll:aa a.l<=aa a.l:=BO _;refine Wo zk ?_;refine Xc (zi hj2 hll) ?_;refine GW @Xn y ?_ (s:=(I _));refine Xc (j3 @encRr.eq_1 @encXs.eq_1 @Yu) ?_;refine Ym hw3 ?_;refine Zz ?_;by_cases B:e=0
  rotate_left;rw[AF B]at d;have z:(e==0)=ab:=zu B;refine Wo zk ?_;simp -implicitDefEqProofs only[go_sem,seval,bne,z];refine Z ?_
  rw[d,show((j+2:Nat):Int)+n=((j+2+n.toNat:Nat):Int) by omega]<;>rfl;rw[AA (zu B)]at d;have z:(e==0)=ad:=zu B;refine Wo zk ?_;simp -implicitDefEqProofs only[go_sem,seval,bne,z];refine Z1 ?_;exact T _ (j+2+n.toNat,xs) ⟨by show j+2+n.toNat<=_;omega,d⟩ qs
 rintro⟨r,xs⟩ ⟨hi2,d⟩;simp only at hi2 d;unfold Kw at d;refine Zk λK5 C=>?_;refine Z1 ?_;refine BK ?_;refine Z8 [0,4,7,9] [4,7] (aa q) (λm (_:Unit)=>[(1,qI ((r+m:Nat):Int)),(13,m)]) (λ_ _=>[]) (λm _=>V9 a.l q r=V9 a.l (q.drop m) (r+m)) 0 () qz rfl zp zp ?_;intro m _ hm K L7 hL7;refine Zz ?_;have P:(Sl.mk ab q).l=q:=rfl;refine Ym P ?_;refine Zi rfl (λL=>?_) (λL=>?_);rotate_left;have hm2:m=aa q:=by have:=zN L;omega
 rw[HT zo]at K;refine Z0 ?_;refine C _ ?_;refine Z ?_;rw[d,K];show _=encSR (_,((r+m:Nat):Int),if ad=ad then 0 else 110);rfl;have H:m<aa q:=zL L;have R:q[m]?=ae q[m]:=AY H;have S:q.drop m=q[m]::q.drop (m+1):=FL H;generalize q[m]=Y at R S;rw[S,V9]at K;refine Z0 ?_;have p2:J3 Tryz.prog G 242 [Za c 3 Xy a,qI ((r+m:Nat):Int)] (.AB (X6 a.l (r+m))):=⟨zk,by refine Xc @Xn ?_;refine(L5 G y _ a (r+m)).mono ?_;rintro _ _ rfl;rfl⟩
 refine Zz ?_;refine BK ?_;refine Zz ?_;refine Zz<|Zv ⟨λi=>if i=2 then .AB (X6 a.l (r+m))else .top,λ_=>.pure⟩ zk y zk zk ?_;refine Xc (zi P R) ?_;refine⟨p2,?_⟩
 try clear p2
 by_cases A:X6 a.l (r+m)=Y
 rotate_left;rw[AA A]at K;have z:(X6 a.l (r+m)==Y)=ab:=zu A;rw[z];refine Z ?_
 rw[d,K]<;>rfl;rw[AF A]at K;have z:(X6 a.l (r+m)==Y)=ad:=zu A;rw[z];refine Z0 ?_;have hw5:qN (((r+m:Nat):Int)+1)=((r+(m+1):Nat):Int):=by rw[Xi zo zo];omega
 have hw6:qN ((m:Int)+1)=((m+1:Nat):Int):=by rw[Xi zo zo];omega
 refine Ym hw5 ?_;refine Ym hw6 ?_;exact hL7 _ ⟨H,(),K,AO zp zp⟩
section
variable{P:Program}{E:BX}
def J4{s op}{d:Option Nat}{t ty t' x y pos af gd ls ms r}(h:op=.eql\/op=.neq)(n:P.underlying t=ae (.struct (P.fieldsOf t)))(g:P.stoodInHeld t=ab)(j:P.eqGuardType P.depth t=ab)(m:s.ev E x=.agg ls)(l:s.ev E y=.agg ms)(o:RO P 0 (P.fieldsOf t).toList ls=ad)(p:OB ls ms=ae r):Gives P E ⟨d,.binOp op t x y t',ty,pos,af,gd⟩ s (.bool (if op=.eql then r else !r)):=by
 intro X a w k;have e:=k.ev x;have b:=k.ev y;rw[m]at e;rw[l]at b;have i:execOp _ ⟨d,.binOp op t x y t',ty,pos,af,gd⟩=(do let c <- (do eqGuard op t x y _ _;binOp op t _ (a.eval y));pure _):=rfl;rw[i];generalize a.eval x=u at e;generalize a.eval y=q at b;cases e with
 |agg xs _ hsx _ hrx=>
  cases b with
  |agg ys _ hsy _ hry=>
   have f:(Op.equalIn 10000 t (.agg xs) (.agg ys)).run P X.w=.ok r X.w:=by rw[run_equalIn_agg _ _ t xs ys n g];refine Y_ (X:=X) _ _ _ 0 ls ms r o p ?_ ?_;grind;grind
   refine⟨.bool _,?_,.bool _⟩;rcases h with rfl|rfl;simp only[Sem.run_bind,run_eqGuard_agg _ _ t x y xs ys j,Result.andThen_ok,run_eql_struct,f,Sem.run_pure,EN];simp only[Sem.run_bind,run_eqGuard_agg _ _ t x y xs ys j,Result.andThen_ok,run_neq_struct,f];rfl
