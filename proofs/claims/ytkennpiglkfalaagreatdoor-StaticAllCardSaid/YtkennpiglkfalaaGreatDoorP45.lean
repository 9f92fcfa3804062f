/- A part. No condition. -/
import Derived.Test.YtkennpiglkfalaaGreatDoorP44
set_option linter.all false
open List renaming length->aa
open Bool renaming false->ab,true->ad
open Option renaming some->ae,none->ah
open List renaming range->aE
open Nat renaming blt->aT
open Go.Result renaming andThen_ok->aB
open Go.Sem renaming run_bind->aC,run_pure->aD
section
namespace Go.Hs
open Go.Proofs
set_option maxHeartbeats 4000000
set_option maxRecDepth 10000
def W9(c:AH)(r:List DI):V:=Za c 3 (Ve c) (Zb r)
def Ej(c r):W9 c r=Za c 3 (Ve c) (Zb r):=rfl
@[go_sem] def xa(g c r):(W9 c r).recol g=W9 (g c) r:=gF g c c _
@[go_sem] def za(g c c1 s):(Za c 1 (W9 c1) s).recol g=Za (g c) 1 (W9 (g c1)) s:=Xz g c 1 (xa g c1) s
def Ee(c r):(W9 c r).cells.length=1:=by cases r<;>rfl
def mm(c r):(W9 c r).solid=ad:=by cases r<;>rfl
def eQ(c r):(W9 c r).cells=[W9 c r]:=by cases r<;>rfl
def tp(G)(hG:Yy G)(c d c1 m)(A:m.p.DM)(out)(hol:out.l.length<=512)(F:∀ o∈out.l,0<=o/\o<m.p.AE.length)(most:Nat)(W:most<100000):Spec () G 72 [Zw c d m,Za c1 1 (V.int .i64) out,most] Zm (Za .new 1 (W9 .new) (Zb (m.p.fansR most out.l))):=by
 refine Zo 0 64 _ Tryz.func72 λX=>?_;refine Zf Zj ?_;intro g3;refine Y2 (λo=>o==3) [1,2] [] (l:=[(3,qW (Zw c d m))]) (m:=[]) ?_ trivial ?_;simp -implicitDefEqProofs only[go_sem,seval];exact CS zp (by rw[Zj];exact zp);refine Z1 ?_;intro g14;refine Y2 (λo=>o==14) [1,2,3] [] (l:=[(7,Za .new 1 (W9 .new) (Zb [[]]))]) (m:=[]) ?_ trivial ?_;simp -implicitDefEqProofs only[go_sem,seval];exact Xm (f:=W9 .new) (l:=[[]]) rfl zp (Ee _);refine Z ?_;refine Wy (aa out.l) (λk (_:Unit)=>st [(1,Za c1 1 (V.int .i64) out),(2,most),(3,qW (Zw c d m)),(7,Za .new 1 (W9 .new) (Zb (m.p.fansR most (out.l.take k)))),(8,k)] []) (λ_ _=>True) 0 () qz trivial qs ?_;intro k _ hk _ K1 q;by_cases t:k<aa out.l
 rotate_left;have hke:k=aa out.l:=zo;have r:=zV ((aa out.l:Int)<(aa out.l:Int));rw[hke,B_];exact Zq r;have r:=zU ((k:Int)<(aa out.l:Int));have J:=AY t;have j:=F _ (BT t);have R:=DO t;have hR:=PM.fansR_ok A most _ (out.l.take k) rfl λo H=>F o (OX H);rw[R,PM.fansR_snoc]at q
 have hlk:aa (out.l.take k)=k:=by rw[CZ];omega
 rw[hlk]at hR;obtain⟨⟨hLl,M⟩,_⟩:=hR;generalize out.l[k]=o at J j q;generalize m.p.fansR most (out.l.take k)=L at hLl M q⊢;have D:=Aw G hG c.ent d.ent m A o j.1 j.2 most W;have E:=PM.waysR_ok A (most:=most) j.1 j.2;have hS:m.p.fanS most L o=Np most (λrow=>(m.p.waysR most o).map λw=>row++[w]) L []:=rfl;rw[hS]at q;generalize m.p.waysR most o=h at D E q;obtain⟨_,hwl,_⟩:=E;have N:(Zb L).l=L:=Zl _;have eW:(Zb h).l=h:=Zl _;have wk:=wQ ((k:Int)+1);refine Ym r ?_;refine H_ r ?_
 repeat first|refine BK ?_|refine Zz ?_
 refine Zv ⟨λ_=>Za .new 3 (Ve .new) (Zb h),λ_=>.pure⟩ zk hG zk zk ?_;simp -implicitDefEqProofs only[go_sem,seval,J,t,Zj,GY];refine⟨⟨zk,?_⟩,?_⟩;simp -implicitDefEqProofs only[go_sem,seval];exact D.mono λv _ e=>by rw[e,gF];rfl
 refine Z ?_;generalize hT:Np most (λrow=>h.map λw=>row++[w]) L []=T at q;refine Wy (aa L) (λi (x:List (List DI)×Nat)=>st [(1,Za c1 1 (V.int .i64) out),(2,most),(3,qW (Zw c d m)),(7,Za .new 1 (W9 .new) (Zb L)),(8,k),(9,Za .new 3 (Ve .new) (Zb h)),(10,AZ 61 x.2 1 x.1),(11,i)] [(61,Z9 x.2 (W9 .new) x.1)])
  (λi x=>Np most (λrow=>h.map λw=>row++[w]) (L.drop i) x.1=T/\aa x.1<=most+(most+512)) 0 ([],0) qz ⟨hT,CB _⟩ (AO (zq @Zj) zp) ?_
 rintro i ⟨a,g⟩ hi ⟨s,K⟩ K2 hK2;replace s:Np most (λrow=>h.map λw=>row++[w]) (L.drop i) a=T:=s;replace K:aa a<=most+(most+512):=K;have x1f:∀ b:Bool,b=decide (i<aa L)->decide ((i:Int)<(aa L:Int))=b:=λb e=>by rw[e];exact EB.2 zo
 by_cases y:i<aa L
 rotate_left
 obtain rfl:a=T:=by rw[<- s,HT zo];rfl
 have C:=zV ((i:Int)<(aa L:Int));refine Zf (j3 N C wk) ?_;refine q _ ⟨t,(),AJ,Z4 (λo=>o==61) ?_ trivial⟩;refine Zs ?_;exact⟨Zd,Zd,Zd,Yp (l:=a) (f:=W9 .new) rfl zp (Ee _),Zd⟩;by_cases hm:aa a<=most
 rotate_left
 obtain rfl:a=T:=by rw[<- s,Ci zo]
 have C:=zU ((i:Int)<(aa L:Int));have O:=zV ((aa a:Int)<=(most:Int));refine Zf (j4 N C O wk) ?_;refine q _ ⟨t,(),AJ,Z4 (λo=>o==61) ?_ trivial⟩;refine Zs ?_;exact⟨Zd,Zd,Zd,Yp (l:=a) (f:=W9 .new) rfl zp (Ee _),Zd⟩;have C:=zU ((i:Int)<(aa L:Int));have O:=zU ((aa a:Int)<=(most:Int));have B:=AY y;have S:=(M _ (BT y)).1;rw[ZM B hm]at s;generalize L[i]=row at B s S;have eR:(Zb row).l=row:=Zl _;have wi:=wQ ((i:Int)+1);refine Ym (j3 N C O) ?_;refine Z ?_;refine Wy (aa h) (λn (g:Nat)=>st [(1,Za c1 1 (V.int .i64) out),(2,most),(3,qW (Zw c d m)),(7,Za .new 1 (W9 .new) (Zb L)),(8,k),(9,Za .new 3 (Ve .new) (Zb h)),(10,AZ 61 g 1 (a++(h.take n).map λw=>row++[w])),(11,i),(12,n)] [(61,Z9 g (W9 .new) (a++(h.take n).map λw=>row++[w]))])
  (λ_ _=>True) 0 g qz trivial (AO (by rw[HZ,BV,DW];exact zp) (by rw[HZ,BV,DW];exact zp)) ?_
 intro n g hn _ K3 z;by_cases u:n<aa h
 rotate_left;have U:n=aa h:=zo;have r:=zV ((aa h:Int)<(aa h:Int));rw[U,B_];refine Zf (j3 r eW wi) ?_;exact hK2 _ ⟨y,(a++h.map λw=>row++[w],g),⟨s,by rw[BQ,BC];omega⟩,AO zp zp⟩;have r:=zU ((n:Int)<(aa h:Int));have I:=AY u;have Q:h.take (n+1)=h.take n++[h[n]]:=DO u;rw[Q,DL,BI,BV,<- DH]at z
 have Y:aa (a++(h.take n).map λw=>row++[w])=aa a+n:=by rw[BQ,BC,CZ];omega
 generalize h[n]=w at I z;generalize(a++(h.take n).map λw=>row++[w])=ac at z Y⊢;have wn:=wQ ((n:Int)+1);have f:=j8 u eW N B y Ej eR Ya;refine Zf f ?_;refine Yg (f:=Ve .new) (l:=([]:List DI)) (l2:=row) (g:=0) BE rfl rfl rfl zp (Z3 zo zO) λg1=>?_;refine Zs ?_
 repeat first|refine BK ?_|refine Zz ?_
 refine yP 8 zk (by rfl) ?_;simp -implicitDefEqProofs only[go_sem,seval,I,u,eW,Wh,GY];intro g58;refine U5 (f:=Ve .new) (l:=row) (l2:=[w]) (o:=51) BE rfl rfl rfl zr (Z3 zo zO) λP g2 H=>?_;refine Zs ?_;have H:P=51\/P=59:=zu H;refine⟨_,Z4 (λo=>o==P||o==58) (l:=[(1,Za c1 1 (V.int .i64) out),(2,most),(3,qW (Zw c d m)),(7,Za .new 1 (W9 .new) (Zb L)),(8,k),(9,Za .new 3 (Ve .new) (Zb h)),(11,i),(12,n),(52,AZ 61 g 1 ac),(59,W9 .new (row++[w]))]) (m:=[(61,Z9 g (W9 .new) ac)]) ?_ ?_,?_⟩;simp -implicitDefEqProofs only[go_sem,seval,Ej];exact⟨Zd,Zd,Zd,Zd,Zd,Zd,Zd,Zd,Zd,Yp (l:=row++[w]) (f:=Ve .new) zS zp BE⟩;simp only[Z2,Z5,CE];rcases H with rfl|rfl<;>exact DR rfl;refine Xc (zi @mm @eQ) ?_;intro g60;refine Yg (f:=W9 .new) (l:=ac) (l2:=[row++[w]]) (Ee _) rfl (by rw[BI,BV];show[_]=(W9 _ _).cells++[];rw[eQ];rfl) rfl zp (Z3 zo zO) λg3=>?_;refine Zs ?_;refine Zf wn ?_;exact z _ ⟨u,g3,AJ,AO zp zp⟩
section
def KX(l:iS):iS:=l.mergeSort λx y=>decide (x<=y)
def X_(l):(KX l).length=l.length:=List.length_mergeSort _
def ACx{l k}(g:l.Nodup)(e:k.Pairwise (· < ·))(h:∀ v,v∈l↔v∈k):KX l=k:=by
 have d:k.Nodup:=e.imp fun{a b} h=>by omega
 have p:List.Perm (KX l) k:=(List.mergeSort_perm _ _).trans ((List.perm_ext_iff_of_nodup g d).2 h);refine List.Perm.eq_of_pairwise (λa b _ _ f h2=>Int.le_antisymm f h2) ?_ (e.imp fun{a b} h=>Int.le_of_lt h) p;have:=List.pairwise_mergeSort (le:=λx y:Int=>decide (x<=y)) (λa b c f h2=>by grind) (λa b=>by grind) l;exact this.imp fun{a b} h=>by grind
namespace PM
variable{m:PM}
def reach_sort{L s q}(c:∀ x∈L,m.AtOk x)(b:m.AtOk s)(h:LN m L s q):KX q=m.reachL L s:=by refine ACx h.nd (pJ L s) λv=>?_;rw[iC c b h,CY];constructor;intro a;have d:=h.DA v a;refine⟨v.toNat,IY.2 ⟨DC.2 (by omega),?_⟩,by omega⟩;grind;grind
end PM
end
@[go_sem] def ADp{P}(t t1 d a v f c e b H A):UU P [(t1,f,c),(d,e,b)] t a v H A=(((t=t1/\a=f/\v=c)\/(t=d/\a=e/\v=b))/\(W0 P H t1 f=ae c/\W0 P H d e=ae b)/\A):=by apply propext;constructor;rintro⟨⟨j,h2⟩,g⟩;have i:=h2 _ (GA ..);have h:=h2 _ (FR _ (GA ..));grind;rintro⟨j,⟨i,h⟩,g⟩;refine⟨⟨by grind,λp k=>?_⟩,g⟩;grind
def Vj(B:Nat)(g:Nat->Nat)(l:Nat->iS)(H:A'):A':=λo=>if B<=o/\o<B+1000000 then Z9 (g (o-B)) () (l (o-B))else H o
def Oz(B:Nat)(g:Nat->Nat)(l:Nat->iS)(j:Nat):V:=AZ (B+j) (g j) 1 (l j)
def R4{B g l H j}(a:j<1000000):Vj B g l H (B+j)=Z9 (g j) () (l j):=by unfold Vj;grind
def T9{B g l H o}(a:o<B\/B+1000000<=o):Vj B g l H o=H o:=by unfold Vj;grind
def pD{B g l H j k r}(a:j<1000000):Ye (Vj B g l H) (B+j) (Z9 k () r)=Vj B (Ye g j k) (Ye l j r) H:=by funext o;by_cases e:o=B+j;subst e;rw[Ys,R4 a,Ys,Ys];rw[Zy _ _ e];unfold Vj;split;rw[Zy _ _ zo,Zy _ _ zo];rfl
def dd{B g l j k r}:Oz B (Ye g j k) (Ye l j r) j=AZ (B+j) k 1 r:=by unfold Oz;simp_all
def jV{B g l i j k r}(h:i≠j):Oz B (Ye g j k) (Ye l j r) i=Oz B g l i:=by unfold Oz;rw[Zy _ _ h,Zy _ _ h]
def dt{B g l n j k r}(a:j<n):((aE n).map (Oz B g l)).set j (AZ (B+j) k 1 r)=(aE n).map (Oz B (Ye g j k) (Ye l j r)):=by apply QD;simp;intro i b h2;rw[JT];simp only[FG,LI];split;rename_i h;subst h;rw[dd];rename_i h;rw[jV (λe=>h e.symm)]
def oe{B g l n k r}:(aE n).map (Oz B g l)++[AZ (B+n) k 1 r]=(aE (n+1)).map (Oz B (Ye g n k) (Ye l n r)):=by rw[HW,DL,List.map_singleton,dd];congr 1;refine FQ λi a=>?_;rw[jV zG]
def R8:List (Int×iS)->Int->Int->List (Int×iS)
 |[],k,r=>[(k,[r])]|p::L,k,r=>if p.1=k then(p.1,p.2++[r])::L else p::R8 L k r
def Pd:List (Int×iS)->Int->Nat
 |[],_=>0|p::L,k=>if p.1=k then 0 else Pd L k+1
def Up(L:List (Int×iS))(j:Nat):iS:=(L.getD j (0,[])).2
def D4:∀ L k,Pd L k<=aa L
 |[],_=>BO _|p::L,k=>by rw[Pd];split;grind;exact QO (D4 L k)
def XX:∀ L k r,aa (R8 L k r)<=aa L+1
 |[],_,_=>BO _|p::L,k,r=>by rw[R8];split;grind;exact QO (XX L k r)
def Ky:∀ L k r j,Up (R8 L k r) j=Ye (Up L) (Pd L k) (Up L (Pd L k)++[r]) j
 |[],k,r,j=>by cases j<;>rfl
 |p::L,k,r,j=>by
  rw[R8,Pd];split;cases j<;>rfl
  .rcases j with _|j;rfl;have:=Ky L k r j;show Up _ j=_;rw[this];simp only[Ye];by_cases e:j=Pd L k;subst e;rw[AF rfl,AF rfl];rfl;rw[AA e,AA zo];rfl
def St(L:List (Int×iS)):List V:=L.map λp=>qI p.1
def Di:∀ L k r,Pd L k<aa L->St (R8 L k r)=St L/\aa (R8 L k r)=aa L
 |[],_,_,h=>absurd h (FH _)|p::L,k,r,h=>by rw[Pd]at h;rw[R8];split;exact ID;rename_i a;rw[AA a]at h;have⟨b,h2⟩:=Di L k r (Nat.lt_of_succ_lt_succ h);exact⟨by show _::_=_::_;rw[show List.map _ _=St (R8 L k r)from rfl,b];rfl,by grind⟩
def XT:∀ L k r,Pd L k=aa L->St (R8 L k r)=St L++[.int .i64 k]/\aa (R8 L k r)=aa L+1
 |[],_,_,_=>⟨rfl,rfl⟩|p::L,k,r,h=>by rw[Pd]at h;rw[R8];split;grind;rename_i a;rw[AA a]at h;obtain⟨b,h2⟩:=XT L k r (Nat.succ.inj h);exact⟨by show _::_=_::_;rw[show List.map _ _=St (R8 L k r)from rfl,b];rfl,by grind⟩
def Bk:∀ L (k:Int),Uk (.int .i64) k (St L)=ae (if Pd L k<aa L then ae (Pd L k)else ah)
 |[],k=>by rfl|p::L,k=>by show Uk _ k (qI p.1::St L)=_;rw[Uk,AF rfl,Pd,CW];by_cases e:p.1=k;grind;rw[AA e,AA (λh=>e h.symm),Bk L k];grind
def eV(k:Int):∀ L vs,aa vs=aa L->R3 (.int .i64) k (St L) vs=ae vs[Pd L k]?
 |[],vs,h=>by rw[GL.1 h];rfl
 |p::L,[],h=>by grind|p::L,v::vs,h=>by show R3 _ k (qI p.1::St L) _=_;rw[R3,AF rfl,Pd];by_cases e:p.1=k;grind;rw[AA (λh=>e h.symm),AA e,eV k L vs zG];rfl
def Gd(B:Nat)(g:Nat->Nat)(L:List (Int×iS)):List V:=(aE (aa L)).map (Oz B g (Up L))
def nq(B g L):(Gd B g L).length=L.length:=by simp[Gd]
def oI(B g L k):((Gd B g L)[Pd L k]?).getD .AG=Oz B g (Up L) (Pd L k):=by
 unfold Gd;by_cases q:Pd L k<aa L;grind;have h:Pd L k=aa L:=by have:=D4 L k;omega
 rw[OT zG,h];unfold Oz Up;rw[DK,OT ql];rfl
def Hv(B:Nat)(g:Nat->Nat)(L:List (Int×iS))(k:Int)(u:V):List V:=if Pd L k<aa L then(Gd B g L).set (Pd L k) u else Gd B g L++[u]
def iX(B g L k r u):KN (.int .i64) (.int .i64 k) u (St L) (Gd B g L)=ae (St (R8 L k r),Hv B g L k u):=by unfold KN Hv;rw[Bk];by_cases q:Pd L k<aa L;rw[AF q,AF q,(Di L k r q).1];rw[AA q,AA q,(XT L k r (by have:=D4 L k;omega)).1]
def ja(B g L k r t):Hv B g L k (AZ (B+Pd L k) t 1 (Up L (Pd L k)++[r]))=Gd B (Ye g (Pd L k) t) (R8 L k r):=by
 have e:=funext λj=>Ky L k r j;unfold Hv Gd;rw[e];by_cases q:Pd L k<aa L;rw[AF q,dt q,(Di L k r q).2];have h:Pd L k=aa L:=by have:=D4 L k;omega
 rw[AA q,(XT L k r h).2,h,oe]
def e_(B g L k a t b s){u c}(h:Rn a t b s u c):(Hv B g L k c).length=(Hv B g L k u).length/\∀ i h1 (h2:i<(Hv B g L k c).length),Rn a t b s (Hv B g L k u)[i] (Hv B g L k c)[i]:=by unfold Hv;split;exact h.set _ _;exact h.app _
def Pn{E τ}{H B:A'}{l m}(h:Vy τ l)(b:Vy H m)(c:∀ o,B o=.AR\/B o=H o):Weak E ⟨τ,H⟩ ⟨Yb Mv l,Yb B m⟩:=by refine T4 (λ_=>ab) (λt=>?_) (λo=>?_);rcases Vl t l (X5 h)with a|a;exact .inl a;refine .inr ?_;show Fz _ H _ (Yb Mv l t);rw[a];exact Zd;show FzO _ H o (Yb B m o);rcases Vl o m (X5 b)with a|a;rw[a];rcases c o with h2|h2;rw[h2];trivial;rw[h2];exact DR rfl;rw[a];exact DR rfl
def Sz{α G o}:∀ {m:List (Nat × α)} {lo},(m.all λp=>aT p.1 lo)=ad->lo<=o->Yb G m o=G o
 |[],_,_,_=>rfl|p::m,lo,h,ho=>by rw[HQ,BP,IR]at h;rw[Vc,Zy _ _ zo,Sz h.2 ho]
def It{B B' g b l a H}(h:B+1000000<=B'\/B'+1000000<=B):Vj B g l (Vj B' b a H)=Vj B' b a (Vj B g l H):=by funext o;unfold Vj;grind
def dS{B g l H j t r}(a:j<1000000):∀ {m},(m.all λp=>aT p.1 B)=ad->Ye (Yb (Vj B g l H) m) (B+j) (Z9 t () r)=Yb (Vj B (Ye g j t) (Ye l j r) H) m
 |[],_=>pD a|p::m,h=>by rw[HQ,BP,IR]at h;rw[Vc,Vc,<- dS a h.2];funext o;simp only[Ye];grind
def Bv{P E c Q n H' H0 g l m}(lt x B d j)(F:V->BL){o2 g2 r}(u:r≠[])(v:o2=B+j\/o2=d)(y:j<1000000)(A:∀ a g b k,RnX a g b k (F (AZ a g 1 r)) (F (AZ b k 1 r)))(h2:H' o2=Z9 g2 () r)(s:H' x=F (AZ o2 g2 1 r))(z:∀ o,o≠x->o≠B+j->o≠d->Yb (Vj B g l H0) m o=.AR\/H' o=Yb (Vj B g l H0) m o)(q:∀ t,Yb Mv lt t=.top\/Yb Mv lt t = n t)(h:∀ t,AW P E c Q ⟨Yb Mv lt,Yb (Vj B (Ye g j t) (Ye l j r) H0) ((x,F (AZ (B+j) t 1 r))::(d,.AR)::m)⟩)(w:(((x,BL.AR)::(d,.AR)::m).all λp=>aT p.1 B)=ad:=by rfl)(i:x≠d:=by decide):AW P E c Q ⟨n,H'⟩:=by have f:=w;rw[HQ,HQ,BP,BP,IR,IR]at f;have⟨G,D,C⟩:=f;refine rV x F _ d o2 g2 u v zo i zo A h2 s z q λt=>?_;have e:=dS (B:=B) (g:=g) (l:=l) (H:=H0) (t:=t) (r:=r) y (m:=(x,F (AZ (B+j) t 1 r))::(d,.AR)::m) (by grind);have:=h t;rw[<- e]at this;exact this
def Kc{P E c Q e H' H0 g l m}(lt x B d j)(F:V->BL){o2 g2 r}(s:r≠[])(u:o2=B+j\/o2=d)(w:j<1000000)(z:∀ a g b k,RnX a g b k (F (AZ a g 1 r)) (F (AZ b k 1 r)))(h2:H' o2=Z9 g2 () r)(q:H' x=F (AZ o2 g2 1 r))(y:∀ o,o≠x->o≠B+j->o≠d->Yb (Vj B g l H0) m o=.AR\/H' o=Yb (Vj B g l H0) m o)(n:Vy e lt)(h:∀ t,AW P E c Q ⟨Yb Mv lt,Yb (Vj B (Ye g j t) (Ye l j r) H0) ((x,F (AZ (B+j) t 1 r))::(d,.AR)::m)⟩)(v:(((x,BL.AR)::(d,.AR)::m).all λp=>aT p.1 B)=ad:=by rfl)(i:x≠d:=by decide):AW P E c Q ⟨e,H'⟩:=
 Bv lt x B d j F s u w z h2 q y (λt=>Vl t lt (X5 n)) h v i
def nL{B g l m}(a:(m.all λp=>aT p.1 B)=ad)(o):Vj B g l Zm o=.AR\/Vj B g l Zm o=Yb (Vj B g l Zm) m o:=by rcases GG o B with h|h;exact .inl (T9 (.inl h));exact .inr (Sz a h).symm
def RnX.mp{a g b k B lo e G L c ks u d}(h:Rn a g b k u d):RnX a g b k (.mp lo e ks (Hv B G L c u)) (.mp lo e ks (Hv B G L c d)):=
 .inr ⟨_,_,_,_,_,rfl,rfl,(e_ B G L c a g b k h).1,(e_ B G L c a g b k h).2⟩
def RnX.cl{a g b k i fz t c}{cs:List V}{u d}(h:Rn a g b k u d):RnX a g b k (.cells c t fz (cs.set i u)) (.cells c t fz (cs.set i d)):=
 .inl ⟨_,_,_,_,_,rfl,rfl,(h.set cs i).1,(h.set cs i).2⟩
def jn{E}(F){τ}{H B:A'}{l m}(h:Nf F H τ l)(a:Qv F H m)(d:∀ o,B o=.AR\/(F o=ab/\B o=H o)):Weak E ⟨τ,H⟩ ⟨Yb Mv l,Yb B m⟩:=by
 refine T4 F (λt=>Fi t h) (λo=>?_);show FzO F H o (Yb B m o)
 induction m with
 |nil=>show FzO F H o (B o);rcases d o with q|⟨c,b⟩;rw[q];trivial;rw[b];exact DR c
 |cons p m ih=>rw[Vc];by_cases e:o=p.1;subst e;rw[Ys];exact a.1;rw[Zy _ _ e];exact ih a.2
def FzL.map{F H}{α:Type}{f f'}:∀ {l:List α},(∀ x∈l,Fz F H (f x) (f' x))->FzL F H (l.map f) (l.map f')
 |[],_=>trivial|x::r,h=>⟨h x (GA ..),FzL.map λy a=>h y (FR _ a)⟩
def Qa(l:Nat->iS)(n:Nat):List V:=(aE n).map λj=>qE (Zb (l j))
def FzL.fam{F H B g l n}(c:n<=1000000)(b:∀ j,j<1000000->F (B+j)=ad)(a:∀ j,j<1000000->H (B+j)=Z9 (g j) (V.int .i64) (l j)):FzL F H ((aE n).map (Oz B g l)) (Qa l n):=
 FzL.map λj d=>Yp (b j zG) (a j zG) λ_=>rfl
def dr(o b ks vs):∀ l,mzL o b ks vs l l
 |[]=>trivial|_::l=>⟨.inl rfl,dr o b ks vs l⟩
def MZO.CG(o b ks vs ob):MZO o b ks vs ob ob:=by cases ob with|AR=>trivial|mp lo b' ks' vs'=>rfl|lp b r=>rfl|cells c g fz cs=>exact⟨cs,rfl,dr o b ks vs cs⟩
abbrev TK:=@MZO.CG
def Lows(lo:Nat)(G:A'):Prop:=∀ o,o<lo->G o=.AR
def Lows.none(lo):Lows lo Zm:=λ_ _=>rfl
abbrev QL:=@Lows.none
def Lows.fam{lo B g l H}(h:Lows lo H)(b:lo<=B):Lows lo (Vj B g l H):=λo a=>(T9 (.inl zo)).trans (h o a)
def Lows.base{lo G}(h:Lows lo G){m}(a:(m.all λp=>aT p.1 lo)=ad)(o):G o=.AR\/G o=Yb G m o:=by rcases GG o lo with q|q;exact .inl (h o q);exact .inr (Sz a q).symm
abbrev WJ:=@Lows.base
def iJ{lo G}(h:Lows lo G){F:Nat->Bool}(b:∀ o,lo<=o->F o=ab){m}(a:(m.all λp=>aT p.1 lo)=ad)(o):G o=.AR\/(F o=ab/\G o=Yb G m o):=by rcases GG o lo with q|q;exact .inl (h o q);exact .inr ⟨b o q,(Sz a q).symm⟩
def eh{B g l H H' o}(h:H o=H' o):Vj B g l H o=Vj B g l H' o:=by unfold Vj;grind
def YH{α G a o}(h:G o=a o):∀ m:List (Nat × α),Yb G m o=Yb a m o
 |[]=>h|p::m=>by rw[Vc,Vc];simp only[Ye];split;rfl;exact YH h m
def w6{P E c Q W H' gO gI lO lI}(m lt x d f a e)(F:V->V->BL){o2 g2 o3 g3 r r'}(hr:r≠[])(N:r'≠[])(ho:o2=4000000+a\/o2=d)(y:o3=5000000+e\/o3=f)(ha:a<1000000)(he:e<1000000)(S:∀ v a g b k,RnX a g b k (F (AZ a g 1 r) v) (F (AZ b k 1 r) v))(R:∀ u a g b k,RnX a g b k (F u (AZ a g 1 r')) (F u (AZ b k 1 r')))(h2:H' o2=Z9 g2 (V.int .i64) r)(h3:H' o3=Z9 g3 (V.int .i64) r')(hx:H' x=F (AZ o2 g2 1 r) (AZ o3 g3 1 r'))(hH:∀ o,o≠x->o≠4000000+a->o≠d->o≠5000000+e->o≠f->Yb (Vj 4000000 gO lO (Vj 5000000 gI lI Zm)) m o=.AR\/H' o=Yb (Vj 4000000 gO lO (Vj 5000000 gI lI Zm)) m o)(hτ:Vy W lt)(h:∀ t t',AW P E c Q ⟨Yb Mv lt,Yb (Vj 4000000 (Ye gO a t) (Ye lO a r) (Vj 5000000 (Ye gI e t') (Ye lI e r') Zm)) ((x,F (AZ (4000000+a) t 1 r) (AZ (5000000+e) t' 1 r'))::(f,.AR)::(d,.AR)::m)⟩)(X:(((x,BL.AR)::(f,.AR)::(d,.AR)::m).all λp=>aT p.1 4000000)=ad:=by rfl)(D:(m.all λp => !Nat.beq p.1 d && !Nat.beq p.1 f)=ad:=by rfl)(M:x≠d:=by decide)(L:x≠f:=by decide)(h12:d≠f:=by decide):AW P E c Q ⟨W,H'⟩:=by
 have H:=X;simp only[HQ,BP,IR]at H;obtain⟨b0,b2,b1,z⟩:=H;have w:∀ (G) (s),(s=d\/s=f)->Yb G m s=G s:=by
  intro G s hs;clear h hH X z
  induction m with|nil=>rfl|cons p m ih=>rw[HQ,BP,BP]at D;obtain⟨⟨n,j⟩,J⟩:=D;rw[Vc,Zy _ _ (by rintro rfl;rcases hs with q|q<;>rw[q]at n j<;>simp at n j),ih J]
 have U:(m.all λp=>aT p.1 5000000)=ad:=by rw[ER]at z⊢;intro p hp;have:=z p hp;rw[IR]at this⊢;omega
 let Z:=Ye (Ye (Vj 5000000 gI lI Zm) (5000000+e) .AR) o3 (Z9 g3 (V.int .i64) r');have Y:∀ o,o≠o3->o≠5000000+e->Z o=Vj _ gI lI Zm o:=λo n j=>(Zy _ _ n).trans (Zy _ _ j);have i:Z o3=Z9 g3 _ r':=Ys ..;have O:5000000+e≠o3->Z _=.AR:=λq=>(Zy _ _ q).trans (Ys ..);clear_value Z;refine Kc lt (g:=gO) (l:=lO) (H0:=Z) x _ d a (λu=>F u (AZ o3 g3 1 r')) hr ho ha (λa g b k=>S _ a g b k) h2 hx (λo n j J=>?_) hτ (λt=>?_)
  (by simp only[HQ,BP,IR];exact⟨b0,b1,z⟩) M
 by_cases C:o=o3;subst C;right;rw[h3];rcases y with q|q;rw[Sz z zo,T9 zo,i];rw[w _ _ (.inr q),T9 zo,i];by_cases T:o=5000000+e;subst T;left;rw[Sz z zo,T9 zo,O C];rw[YH (eh (Y o C T)) m];by_cases e5:o=f;left;rw[w _ _ (.inr e5),T9 zo,T9 zo];rfl;exact hH o n j J T e5;refine Bv lt (g:=gI) (g2:=g3) (l:=lI) (H0:=Vj 4000000 (Ye gO a t) (Ye lO a r) Zm) (m:=(x,F (AZ (4000000+a) t 1 r) (AZ o3 g3 1 r'))::(d,.AR)::m) x 5000000 f e (λu=>F (AZ (4000000+a) t 1 r) u) N y he (λa g b k=>R _ a g b k) ?_ ?_ (λo n j J=>?_) ?_ (λt'=>?_)
  (by simp only[HQ,BP,IR];exact⟨zo,zo,zo,zo,U⟩) L
 have n1:o3≠x:=zo;have n2:o3≠d:=zo;rw[Vc,Vc,Zy _ _ n1,Zy _ _ n2];rcases y with q|q;rw[Sz z zo,T9 zo,i];rw[w _ _ (.inr q),T9 zo,i];rw[Vc,Ys];by_cases C:o=o3;subst C;omega;right;refine YH ?_ _;rw[It zo];exact eh (Y o C j);exact λ_=>.inr rfl;rw[It zo];have K:∀ (G) (A B),Yb G ((x,A)::(f,.AR)::(x,B)::(d,.AR)::m)=Yb G ((x,A)::(f,.AR)::(d,.AR)::m):=λG A B=>by funext o;simp only[Vc,Ye];by_cases I:o=x;rw[AF I,AF I];rw[AA I,AA I,AA I]
 rw[K];exact h t t'
def ti{a g b k i j fz t c}{cs:List V}{u d v}(h:Rn a g b k u d):RnX a g b k (.cells c t fz ((cs.set i u).set j v)) (.cells c t fz ((cs.set i d).set j v)):=
 .inl ⟨_,_,_,_,_,rfl,rfl,zS,λq e h2=>by rw[JT,JT,JT,JT];split;exact .CG _;split;exact h;exact .CG _⟩
def FzL.app{F H}:∀ {a a' b b'},FzL F H a a'->FzL F H b b'->FzL F H (a++b) (a'++b')
 |[],[],_,_,_,h=>h|[],_::_,_,_,h,_=>h.elim|_::_,[],_,_,h,_=>h.elim|_::_,_::_,_,_,h,k=>⟨h.1,FzL.app h.2 k⟩
def FzL.flat{F H}{α:Type}{f f'}:∀ {l:List α},(∀ x∈l,FzL F H (f x).cells (f' x).cells)->FzL F H (flat (l.map f)) (flat (l.map f'))
 |[],_=>trivial|x::r,h=>FzL.app (h x (GA ..)) (FzL.flat λy a=>h y (FR _ a))
section
variable{P:Program}{E:BX}
def pG{N G f fn c args H K}(q)(u:P.funcs[f]?=ae fn)(z:fn.body=ae c)(j:Nat.ble args.length fn.ntmps=ad){X cargs}(B:BZ X H)(C:∀ g,FI X g (G g))(E:FA X cargs args)(A:N<=X.w.heap.size)(h:AW P ⟨X,H,fn.ntmps,q,G,ah,[],.inl N⟩ c (Rf P fn.results.toList K) ⟨Tq 0 args,H⟩):Calls P f cargs X.w (λe w'=>∃ c v H' Y,e=.returned c/\Y.w=w'/\JE N X H Y H'/\AI Y c v/\(∀ g,FI Y g (G g))/\K v H'):=by
 have D:RK.F (.inl N)=Fence.wide:=Cr rfl;refine(callsIn_wide (n:=0)).1 (callsIn_of_wp_marks u z trivial ?_);have o:=h _ _ ⟨X,dk fn.ntmps q (LK j) B C E⟩;rw[D]at o;refine wpIn_mono o ?_;rintro e p w' (⟨i,⟨Y,d⟩,a⟩|⟨I,rfl,t⟩);rotate_left;exact(t.no rfl).elim;have m:BX.N ⟨X,H,fn.ntmps,q,G,ah,[],.inl N⟩=N:=MJ A;have CK:(∃ v,MU P i fn.results.toList=ae v/\K v i.H)->LeavesInM Fence.wide 0 P fn p.tmps (λe w'=>∃ c v H' Y,e=.returned c/\Y.w=w'/\JE N X H Y H'/\AI Y c v/\(∀ g,FI Y g (G g))/\K v H') p.defers .returning w':=by intro⟨v,r,k⟩;have⟨c,y,s⟩:=kX d r;have x:=MD d.df;rw[x];have b:=d.go;rw[m]at b;exact⟨c,y,c,v,i.H,Y,rfl,d.hw,b,s,d.gl,k⟩
 cases e with|normal=>exact CK a|ret=>exact CK a|exit id=>exact a.elim|goto l=>exact a.elim|panic I=>exact a.elim|outgrown=>exact a.elim
def HandX.inl{ops R st K}{dst:Option Nat}{f args ats ty pos af gd fid fn c cl ags}(q n rs)(hfn:P.funcs[fid]?=ae fn)(hf:st.ev E f=.func (.func fid) [] cl)(ha:args.toList.map (st.ev E)++cl=ags)(h:∀ X1,AW P ⟨X1,st.H,n,q,E.G,ah,[],.inl E.N⟩ c (Rf P rs (λv H'=>K (AS.put ⟨st.τ,H'⟩ dst v))) ⟨Tq 0 ags,st.H⟩)(hd:(ops.all (W4 E.n))=ad){k:Nat}(ho:ops[k]?=ae ⟨dst,.call ⟨.value f,args,ats⟩,ty,pos,af,gd⟩)(hw:Yc ops st.τ ⟨dst,.call ⟨.value f,args,ats⟩,ty,pos,af,gd⟩=ae ad)(hen:Yf P fid=ad:=by kernel_rfl)(hb:fn.body=ae c:=by rfl)(hn:fn.ntmps=n:=by rfl)(hr:fn.results.toList=rs:=by rfl)(hn0:Nat.ble ags.length n=ad:=by rfl)(hdf:E.df=[]:=by rfl)(hrk:E.rk ≠ .HF:=by exact RK.noConfusion):HandX P E ops R ⟨dst,.call ⟨.value f,args,ats⟩,ty,pos,af,gd⟩ st K:=by
 subst hn hr;refine Or.inl ⟨hw,λX a hX=>?_⟩;refine⟨λ_ _=>trivial,?_⟩;rw[Oper.semAt_eq _ _ _ (λ_ h=>by cases h)];have hfv:=hX.ev f;rw[hf]at hfv;generalize hq:a.eval f=qv at hfv;cases hfv with
 |func _ xs ys _ _ hx hy hxr hyr=>
  have hx0:xs = #[]:=by have:xs.size=0:=hx;exact VV this
  subst hx0;have hA:FA X (args.map a.eval++ys) (args.toList.map (st.ev E)++cl):=by refine⟨by simp[hy],λi h1 h2=>?_⟩;by_cases hi:i<args.size;rw[PV (zu hi),OV (zu hi)];simp only[VW,FG,SY];exact hX.ev _;rw[SX zO,QI zO];simp only[bW,BC,IW];exact hyr _ _ _
  rw[ha]at hA;have hk:=pG q hfn hb hn0 hX.go.BJ hX.gl hA hX.size (h X);have hdm:∀ d,dst=ae d->d<E.n:=by intro d hdst;rw[KF]at hd;have⟨hlt,e⟩:=DB.1 ho;have:=hd _ (MB hlt);rw[e]at this;simp only[W4,hdst]at this;simpa using this
  have hrun:(execOp a.eval ⟨dst,.call ⟨.value f,args,ats⟩,ty,pos,af,gd⟩).run P X.w=.ok (.enter fid (args.map a.eval++ys)) X.w:=by
   unfold Yf at hen;split at hen;rename_i fn' hfn';simp only[BP]at hen;have⟨hn1,hn2⟩:=hen;have hn1':(fn'.name == "runtime.NumGoroutine")=ab:=zu hn1;have hn2':fn'.body.isNone=ab:=by cases hb':fn'.body<;>simp_all
   simp only[execOp,resolve,hq,Deferred.ofValue,aC,aD,aB,invoke,callFunc,run_program,hfn',hn1',hn2'];simp;simp at hen
  rw[hrun,Oper.uponIn_enter];refine⟨λh=>(by cases h),(E.rk.calls).2 (hk.mono ?_)⟩;rintro e w' ⟨c,v,H',Y,rfl,rfl,hg,hr,hgl,hK⟩;have hdn:a.defers=[]:=by have:=hX.df;rw[hdf]at this;exact MD this hrk
  refine⟨_,⟨Y,rfl,?_,?_,?_,λt=>?_,hgl⟩,hK⟩;have:=hX.go.then hg ql;cases dst<;>exact this;have:(a.put dst c).defers=[]:=by cases dst<;>exact hdn
  rw[this,hdf];exact .none _ _ _;cases dst<;>simp[Act.put,hX.sz]
  .have h0:=(hX.tm t).mono hg.le;cases dst with
   |none=>exact h0|some d=>
    simp only[Act.put,AS.put,Ye];by_cases htd:t=d;subst htd;have:t<a.tmps.size:=by rw[hX.sz];exact hdm _ rfl
    simp[this,hr];simp only[htd,HD];have:(a.tmps.setIfInBounds d c).getD t undef=a.tmps.getD t undef:=by simp[HA,bU (FS htd)]
    rw[this];exact h0
def V_(P:Program)(G:Nat->V)(N:Nat)(f:FuncId)(args:List V)(H:A')(K:V->A'->Prop):Prop:=
 ∃ fn c q,P.funcs[f]?=ae fn/\fn.body=ae c/\Nat.ble (aa args) fn.ntmps=ad/\∀ X1,AW P ⟨X1,H,fn.ntmps,q,G,ah,[],.inl N⟩ c (Rf P fn.results.toList K) ⟨Tq 0 args,H⟩
def w9{G N f fn c args H K}(q n rs)(e:P.funcs[f]?=ae fn)(h:∀ X1,AW P ⟨X1,H,n,q,G,ah,[],.inl N⟩ c (Rf P rs K) ⟨Tq 0 args,H⟩)(g:fn.body=ae c:=by rfl)(d:fn.ntmps=n:=by rfl)(b:fn.results.toList=rs:=by rfl)(a:Nat.ble args.length n=ad:=by rfl):V_ P G N f args H K:=by subst d b;exact⟨fn,c,q,e,g,a,h⟩
def ic{ops R st K}{dst:Option Nat}{f args ats ty pos af gd fid cl ags K0}(u:V_ P E.G E.N fid ags st.H K0)(r:st.ev E f=.func (.func fid) [] cl)(ha:args.toList.map (st.ev E)++cl=ags)(m:∀ v H',K0 v H'->K (AS.put ⟨st.τ,H'⟩ dst v))(t:(ops.all (W4 E.n))=ad){k:Nat}(p:ops[k]?=ae ⟨dst,.call ⟨.value f,args,ats⟩,ty,pos,af,gd⟩)(o:Yc ops st.τ ⟨dst,.call ⟨.value f,args,ats⟩,ty,pos,af,gd⟩=ae ad)(h:Yf P fid=ad:=by kernel_rfl)(j:E.df=[]:=by rfl)(g:E.rk ≠ .HF:=by exact RK.noConfusion):HandX P E ops R ⟨dst,.call ⟨.value f,args,ats⟩,ty,pos,af,gd⟩ st K:=by have⟨A,c,q,y,h2,x,w⟩:=u;refine HandX.inl q _ _ y r ha (λz=>(w z).mono ?_) t p o h h2 rfl rfl x j g;intro e s a;cases e with|ret=>have⟨v,d,b⟩:=a;exact⟨v,d,m _ _ b⟩|normal=>have⟨v,d,b⟩:=a;exact⟨v,d,m _ _ b⟩|exit i=>exact a.elim|goto l=>exact a.elim|panic ch=>exact a.elim|outgrown=>exact a.elim
def lU(P:Program)(a:Act)(X:Cx)(o:Oper)(v:V):Prop:=∃ c,(execOp a.eval o).run P X.w=.ok (.value c) X.w/\AI X c v
def mw{ops R st K}{dst:Option Nat}{t x lo ty pos af gd e m ob g off len}(I:P.underlying t=ae (.slice e))(J:Y0 P e=ae m)(G:st.ev E x=.A_ ob g off (len+1) m)(v:st.ev E lo=qI 1)(N:∀ off',off'=off+m\/(len=0/\off'=off)->K (AS.put st dst (.A_ ob g off' len m)))(D:(ops.all (W4 E.n))=ad){n:Nat}(L:ops[n]?=ae ⟨dst,.slice t x (ae lo) ah ah,ty,pos,af,gd⟩)(H:Yc ops st.τ ⟨dst,.slice t x (ae lo) ah ah,ty,pos,af,gd⟩=ae ad):HandX P E ops R ⟨dst,.slice t x (ae lo) ah ah,ty,pos,af,gd⟩ st K:=by
 refine Or.inl ⟨H,λX a r=>?_⟩;have s:∃ off',(off'=off+m\/(len=0/\off'=off))/\lU P a X ⟨dst,.slice t x (ae lo) ah ah,ty,pos,af,gd⟩ (.A_ ob g off' len m):=by
  have u:=r.ev x;rw[G]at u;have C:=r.ev lo;rw[v]at C;have k:execOp _ ⟨dst,.slice t x (ae lo) ah ah,ty,pos,af,gd⟩=(do pure (Next.value (<- Instr.sliceAt t (a.eval x) (ae (a.eval lo)) ah ah))):=rfl;generalize S:a.eval x=y at u k;cases u with
  |A_ _ _ _ _ _ b bs cap hβ hcap hb=>
   have A:=Ul (P:=P) (w:=X.w) (isSlice:=ad) (lo:=ae _) (hi:=ah) (mx:=ah) (lo':=ae _) (hi':=ah) (mx':=ah) (i:=1) (j:=len+1) C trivial trivial rfl rfl rfl (.inl rfl) zo zo ql;have f:(Instr.sliceAt t (.slice (ae ⟨b,bs+off,ah⟩) (len+1) cap) (ae (a.eval lo)) ah ah).run P X.w=.ok (.slice (if cap=1 then ae ⟨b,bs+off,ah⟩else(ae (⟨b,bs+off,ah⟩:Addr)).map (·.add (1*m))) (len+1-1) (cap-1)) X.w:=by simp only[Instr.sliceAt,Instr.slice,Zt I,A,Y8 J,aC,aB,aD]
   have⟨F,B,q,M⟩:=hb;by_cases p:cap=1;subst p;have z:len=0:=zo;subst z;refine⟨off,.inr ID,_,by rw[k];simp only[aC,f,aB,aD];rfl,?_⟩;show AI X _ _;rw[AF trivial];exact .A_ _ _ _ _ _ b bs 0 hβ ql ⟨F,B,q,zo⟩;refine⟨off+m,.inl rfl,_,by rw[k];simp only[aC,f,aB,aD];rfl,?_⟩;rw[AA p,NT,Addr.add_lit,Nat.one_mul,GM,TM];refine .A_ _ _ _ _ _ b bs (cap-1) hβ zo ⟨F,B,q,?_⟩;have:m+(cap-1)*m=cap*m:=by rw[WL,<- QP];congr 1;omega
   omega
 have⟨off',Q,c,h2,O⟩:=s;refine Ol _ (λ_ h=>nomatch h) ?_;unfold Oper.wp;rw[h2,Oper.upon_value];refine⟨_,⟨X,r.step (GF r.go.BJ) O λd o=>?_⟩,N _ Q⟩;rw[KF]at D;have:=D _ (Array.mem_of_getElem? L);unfold W4 at this;have l:=o;subst l;simpa using this
