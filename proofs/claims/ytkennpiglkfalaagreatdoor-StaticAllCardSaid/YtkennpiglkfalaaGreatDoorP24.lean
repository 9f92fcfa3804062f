/- A part. No condition. -/
import Derived.Test.YtkennpiglkfalaaGreatDoorP21
set_option linter.all false
namespace Go.Hs
section
variable{P:Program}{E:BX}
def yM(g c v):(V.view c v).recol g=.view (g c) (v.recol g):=rfl
def y_(g fn l m):(V.func fn l m).recol g=.func fn (l.map (V.recol g)) (m.map (V.recol g)):=by simp[V.recol,Yl]
def Ic(g o k off):(V.ptr o k off).recol g=.ptr o k off:=rfl
def S9{α}(h o g m)(l:List α):(AZ o g m l).recol h=AZ o g m l:=by cases l<;>rfl
def bM(h c g fz cs):(BL.cells c g fz cs).recol h=.cells (h c) g fz (cs.map (V.recol h)):=by simp[BL.recol,Yl]
def Eg(c:AH):c.ent.ent=c.ent:=by cases c<;>rfl
def z6:AH.old.ent=.old/\AH.any.ent=.any:=⟨rfl,rfl⟩
attribute[go_sem]z6 yM y_ Ic S9 bM Eg
def YA{l x}:x∈flat l↔∃ v∈l,x∈v.cells:=by simp[flat]
def V1{α c m f}(e:∀ x,∀ y∈(f x).cells,y.Im)(s:Sl α):(Za c m f s).Im:=by rcases s with _|⟨b,l⟩;exact .AG;refine .slice _ _ _ _ λx a=>?_;have⟨v,d,a⟩:=YA.1 a;grind
def Q5{c k}(s):(Za c 1 (V.int k) s).Im:=V1 (λx y a=>by simp[V.cells]at a;subst a;exact .int _ _) s
def Xg{H v v'}(h:v.Im)(a:v.recol AH.ent=v'):Rd H v v':=.base _ _ ⟨h,a.symm⟩
def dX{α:Type}{m f}(a:∀ x,(f x).cells.length=m)(l:List α){off n}(h:off+n<=l.length):((flat (l.map f)).drop (off*m)).take (n*m)=flat (((l.drop off).take n).map f):=by
 have b:l=l.take off++((l.drop off).take n++(l.drop off).drop n):=by rw[HX,HX]
 have d:(flat ((l.take off).map f)).length=off*m:=by rw[Ww a,CZ,MJ zo]
 have c:(flat (((l.drop off).take n).map f)).length=n*m:=by rw[Ww a,CZ,EJ,MJ zo]
 have e:flat (l.map f)=flat ((l.take off).map f)++(flat (((l.drop off).take n).map f)++flat (((l.drop off).drop n).map f)):=by rw[<- T0,<- T0,<- DL,<- DL,<- b]
 grind
def Rd.A_{α:Type}{H o g fz m off n c f f'}{l:List α}(z:H o=.cells c g fz (flat (l.map f)))(k:∀ x,(f x).cells.length=m)(p:∀ x,∀ y∈(f x).cells,y.Im)(e:∀ x,(f x).recol AH.ent=f' x)(b:off+n<=l.length):Rd H (.A_ o g (off*m) n m) (.slice .old false m (((l.drop off).take n).map f')):=by
 have q:((l.drop off).take n).length=n:=zG;have d:((l.drop off).take n).map f'=(((l.drop off).take n).map f).map (V.recol AH.ent):=by rw[EL];exact FQ λx _=>(e x).symm
 have j:off*m+n*m<=l.length*m:=by rw[<- MH];exact O' m b
 refine Cv.A_ o g _ n m c fz _ _ rfl z zG ?_ (by rw[Ww k];exact j) λi s h2=>?_;intro v h;obtain⟨x,_,rfl⟩:=CY.1 h;rw[<- e x,Um,BC,k];have t:flat (((l.drop off).take n).map f')=(((flat (l.map f)).drop (off*m)).take (n*m)).map (V.recol AH.ent):=by rw[d,Qq,dX k l b]
 have A:(flat _)[i]=((flat _)[off*m+i]).recol AH.ent:=by
  have r:(flat (((l.drop off).take n).map f'))[i]?=some (((flat (l.map f))[off*m+i]).recol AH.ent):=by
   rw[t,ED,OU];have w:i<n*m:=by rw[t,BC,CZ]at h2;omega
   rw[AF w,QG,AY s];rfl
  rw[AY h2]at r;exact EY r
 rw[A];refine .base _ _ ⟨?_,rfl⟩;have⟨v,h,u⟩:=YA.1 (BT s);obtain⟨a,_,rfl⟩:=CY.1 h;exact p a _ u
abbrev LO:=@Rd.A_
def Ez{α H o g m f f'}{l:List α}(d:H o=Z9 g f l)(c:∀ x,(f x).cells.length=m)(b:∀ x,∀ y∈(f x).cells,y.Im)(a:∀ x,(f x).recol AH.ent=f' x):Rd H (AZ o g m l) (Za .old m f' (Zb l)):=by rcases l with _|⟨x,r⟩;exact Xg .AG rfl;have:=LO (off:=0) (n:=(x::r).length) d c b a zo;rw[HB,B_,NS]at this;exact this
def Rd.ptr{H o g fz c}{v a:V}(e:H o=.cells c g fz v.cells)(b:∀ y∈v.cells,y.Im)(d:v.recol AH.ent=a):Rd H (.ptr o g 0) (.view .old a):=by
 have k:a.cells=v.cells.map (V.recol AH.ent):=by rw[<- d,Um]
 have j:a.cells.length=v.cells.length:=zG;refine Cv.ptr o g 0 c fz _ a rfl e zo λi f h2=>?_;have h:a.cells[i]=(v.cells[0+i]).recol AH.ent:=by grind
 rw[h];exact .base _ _ ⟨b _ (BT f),rfl⟩
def Rd.func{H fn ys ys'}(b:ys.length=ys'.length)(a:∀ i h1 (h2:i<ys'.length),Rd H ys[i] ys'[i]):Rd H (.func fn [] ys) (.func fn [] ys'):=
 Cv.func fn [] ys [] _ rfl b (λi h1=>by grind) a
def RdL(H:A'):List V->List V->Prop
 |[],[]=>True|a::r,b::t=>Rd H a b/\RdL H r t|_,_=>False
def RdL.get{H}:∀ {l r},RdL H l r->r.length=l.length/\∀ i h1 (h2:i<r.length),Rd H l[i] r[i]
 |[],[],_=>⟨rfl,λi h1=>by grind⟩|[],_::_,h=>h.elim|_::_,[],h=>h.elim|a::l,b::r,h=>by have⟨h1,h2⟩:=RdL.get h.2;refine⟨by grind,λi k1 k2=>?_⟩;rcases i with _|i;exact h.1;grind
def kr{H fn ys ys'}(h:RdL H ys ys'):Rd H (.func fn [] ys) (.func fn [] ys'):=Rd.func h.get.1.symm h.get.2
def BorC.of{G f args H v}(args')(a:Yf P f=true)(h:RdL H args args')(b:Spec P G f args' Zm (λv' _=>v'.Fl/\v'=v)):BorC P G f args H v:=
 λd _ c=>E1 d a h.get.1 h.get.2 (b.mono λ_ _ ⟨e,h2⟩=>⟨e,by rw[h2];exact c⟩)
def CallA.AX{G}(a:Yy G){f args H K}(args')(b:Yf P f=true)(h:RdL H args args')(c:Spec P G f args' Zm (λv _=>v.Fl/\K v H)):CallA P G f args H K:=E1 a b h.get.1 h.get.2 c
abbrev EZ:=@CallA.AX
def Fz.ptr{F H o g fz c v}(b:F o=true)(a:H o=.cells c g fz v.cells):Fz F H (.ptr o g 0) (.view c v):=
 Cv.ptr o g 0 c fz _ v b a zo λi d h2=>by simp only[EE];exact Zd
abbrev CS:=@Fz.ptr
def Fz.func{F H fn ys ys'}(h:FzL F H ys ys'):Fz F H (.func fn [] ys) (.func fn [] ys'):=
 Cv.func fn [] ys [] _ rfl h.get.1.symm (λi a=>by grind) h.get.2
def AW.later{c Q s}(h:AW P E c (λe s'=>∃ s'',Weak E s' s''/\Q e s'') s):AW P E c Q s:=
 λa w d=>wpIn_mono (h a w d) λ_ i w' f=>f.imp (λs' g ⟨s'',b,h2⟩=>⟨s'',b i w' g,h2⟩) λ_ h=>h
def Fj{H:A'}(f:BL->BL)(o):∀ m,(∀ p∈m,f (H p.1)=p.2)->Yb Zm m o=if m.any (·.1==o)then f (H o)else .AR
 |[],_=>by rfl|p::r,h=>by
  have a:=Fj f o r λq d=>h q zG;have c:=h p zS;by_cases e:o=p.1;subst e;simp[Yb,c];have b:(p::r).any (·.1==o)=r.any (·.1==o):=by grind
  rw[b,<- a];simp only[Yb,Ye,AA e]
def Fh{H H':A'}(f:BL->BL)(o):∀ m:List (Nat×BL),Yb H (m.map λp=>(p.1,f (H' p.1))) o=if m.any (·.1==o)then f (H' o)else H o
 |[]=>by rfl|p::r=>by
  have a:=Fh (H:=H) (H':=H') f o r;by_cases e:o=p.1;subst e;simp[Yb];have b:(p::r).any (·.1==o)=r.any (·.1==o):=by grind
  rw[b,<- a];simp only[BI,Yb,Ye,AA e]
def CallA.hand{G}(a:Yy G){f args}{H:A'}{K}(m)(b:Yf P f=true)(c:∀ p∈m,(H p.1).recol AH.ent=p.2)(h:Spec P G f (args.map (V.recol AH.ent)) (Yb Zm m) (λv H'=>K (v.recol AH.bk) (Yb H (m.map λp=>(p.1,(H' p.1).recol AH.bk))))):CallA P G f args H K:=by
 refine kG a (λo=>m.any (·.1==o)) b ?_;have e:(λo=>if m.any (·.1==o)then(H o).recol AH.ent else .AR)=Yb Zm m:=by funext o;exact(Fj _ o m c).symm
 rw[e];refine h.mono λv H' d=>⟨_,λo=>?_,d⟩;rw[Fh _ o m];grind
def KU{α:Type}(c:AH)(g:Nat)(f:α->V)(l:List α):BL:=match l with|[]=>.AR|_::_=>.cells c g 0 (flat (l.map f))
def gD{α}(c g)(f:α->V):KU c g f []=.AR:=rfl
def D6{α}(c g f){l:List α}(h:l≠[]):KU c g f l=.cells c g 0 (flat (l.map f)):=by cases l with|nil=>grind|cons=>rfl
def vT{α}(h c g f f')(a:∀ x,(f x).recol h=f' x)(l:List α):(KU c g f l).recol h=KU (h c) g f' l:=by rcases l with _|⟨x,r⟩;rfl;simp only[KU,BL.recol,Yl];rw[<- Qq,EL];congr 2;simp_all
def fI{ops Q rest τ H α f m bytes}(i:∀ x,(f x).cells.length=m){e g}{l l2:List α}{xc n}(o:n=l2.length)(j:xc=flat (l2.map f)){ob}(c:ob=KC H (AZ (E.q+e) g m l))(d:H (E.q+e)=KU .any g f l)(k:Tg bytes (l.length+l2.length))(h:∀ c2 g2,Yx P E ops Q rest ⟨Ye τ e (AZ (E.q+e) g2 m (l++l2)),Ye H (E.q+e) (KU c2 g2 f (l++l2))⟩):B7 P E ops Q rest e τ H m bytes (AZ (E.q+e) g m l) (some (n,xc)) ob:=by
 subst c o j;rcases l with _|⟨x,r⟩;simp only[gD,QK]at *;refine⟨by grind,λp=>?_,λp g2=>?_⟩;have:l2=[]:=zG;subst this;have:=h .new 0;rwa [gD,Xf H _ _ d]at this;have a:l2≠[]:=zG;have:=h .new g2;rwa [Xs _ _ _ a,D6 _ _ _ a]at this;have a:x::r≠[]:=zS;have b:(x::r)++l2≠[]:=zS;rw[Xs _ _ _ a]at *;rw[D6 _ _ _ a]at d;rw[Fy,d];refine⟨rfl,k,rfl,by rw[Ww i];omega,zo,λg2=>?_⟩;have:=h .any g2;rw[Xs _ _ _ b]at this;have s:((flat (List.map f (x::r))).drop 0).take ((x::r).length*m)=flat (List.map f (x::r)):=by rw[HB,<- Ww i,B_]
 rw[s,<- T0,<- DL];rwa [BQ]at this
def jI{α F H o g c f}{l:List α}(b:F o=false)(a:H o=KU c g f l):FzO F H o (KU .any g f l):=by rcases l with _|⟨x,r⟩;trivial;exact⟨c,0,_,a,.inr rfl,BO _,by grind,rfl,λi d h2=>Zd⟩
def Vb(F){G f args H K}(args' m)(a:FzL F H args args')(b:Qv F H m)(h:CallA P G f args' (Yb Zm m) K):CallA P G f args H K:=
 I1 F a.get.1 a.get.2 (λo=>YK o b) h
