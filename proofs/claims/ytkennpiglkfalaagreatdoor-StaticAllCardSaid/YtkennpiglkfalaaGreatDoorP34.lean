/- A part. No condition. -/
import Derived.Test.YtkennpiglkfalaaGreatDoorP33
set_option linter.all false
open List renaming length->aa
open Bool renaming false->ab,true->ad
open Option renaming some->ae,none->ah
open Go.Proofs.Tryz renaming prog->ai
open Go.Proofs.Tryz
open Nat renaming blt->aT
section
namespace Go.Hs
open Go.Proofs
set_option maxRecDepth 100000
def Ki(s:Sg):V:=.agg [s.BG,s.Z',s.CC]
def Iu(s):Ki s=.agg [s.BG,s.Z',s.CC]:=rfl
def qi(s):(Ki s).cells.length=3:=rfl
def GP:List V:=flat (tabL.map Ki)
def fM(op)(h:op<23)(k)(a:k<3):GP[op*3+k]?=((Ki (tabL.getD op ⟨[],0,0⟩)).cells)[k]? := by
 match k,a with
 |0,_=>exact match op,h with|0,_=>rfl|1,_=>rfl|2,_=>rfl|3,_=>rfl|4,_=>rfl|5,_=>rfl|6,_=>rfl|7,_=>rfl|8,_=>rfl|9,_=>rfl|10,_=>rfl|11,_=>rfl|12,_=>rfl|13,_=>rfl|14,_=>rfl|15,_=>rfl|16,_=>rfl|17,_=>rfl|18,_=>rfl|19,_=>rfl|20,_=>rfl|21,_=>rfl|22,_=>rfl|n+23,h=>absurd h zo
 |1,_=>exact match op,h with|0,_=>rfl|1,_=>rfl|2,_=>rfl|3,_=>rfl|4,_=>rfl|5,_=>rfl|6,_=>rfl|7,_=>rfl|8,_=>rfl|9,_=>rfl|10,_=>rfl|11,_=>rfl|12,_=>rfl|13,_=>rfl|14,_=>rfl|15,_=>rfl|16,_=>rfl|17,_=>rfl|18,_=>rfl|19,_=>rfl|20,_=>rfl|21,_=>rfl|22,_=>rfl|n+23,h=>absurd h zo
 |2,_=>exact match op,h with|0,_=>rfl|1,_=>rfl|2,_=>rfl|3,_=>rfl|4,_=>rfl|5,_=>rfl|6,_=>rfl|7,_=>rfl|8,_=>rfl|9,_=>rfl|10,_=>rfl|11,_=>rfl|12,_=>rfl|13,_=>rfl|14,_=>rfl|15,_=>rfl|16,_=>rfl|17,_=>rfl|18,_=>rfl|19,_=>rfl|20,_=>rfl|21,_=>rfl|22,_=>rfl|n+23,h=>absurd h zo
def mN(op)(h:op<23):GP[op*3+1]?=ae (qI (Lp op)):=by rw[fM op h 1 zd]<;>rfl
def XZ:aa GP=69:=rfl
def XY(f):(V.agg GP).recol f=.agg GP:=by
 have:Xd f GP=GP:=by
  rw[Yl];have:∀ v∈GP,v.recol f=v:=by intro v b;unfold GP flat at b;rw[KK]at b;have⟨a,c,b⟩:=b;obtain⟨s,_,rfl⟩:=CY.1 c;simp only[Iu,V.cells,BY,CL,CF]at b;rcases b with rfl|rfl|rfl<;>rfl
  exact(FQ this).trans (List.map_id _)
 rw[V.recol,this]
def YL:∀ c l off,off+aa c<=aa l->Hs.setAt l off c=l.take off++c++l.drop (off+aa c)
 |[],l,off,_=>by simp[Hs.setAt]|v::r,l,off,h=>by
  simp only[CW]at h;rw[Hs.setAt,YL r _ _ (by rw[List.length_set];omega)];have a:(l.set off v).take (off+1)=l.take off++[v]:=by rw[IZ,List.getElem?_set_self zo,List.take_set_of_le ql]<;>rfl
  have h2:(l.set off v).drop (off+1+aa r)=l.drop (off+(aa r+1)):=by rw[List.drop_set_of_lt zo];congr 1;omega
  rw[a,h2];simp
def eT{l c}(h:c.length=l.length):Hs.setAt l 0 c=c:=by rw[YL c l 0 zo,h];simp
def Dc(l)(h:l.length=69):Hs.setAt l 0 GP=GP:=eT (by rw[h]<;>rfl)
def Kp(G)(a:Yy G):Spec () G 267 [] Zm (V.agg GP):=by refine Zo 0 24 [.cell 0 317] func267 λX=>?_;refine Z1 ?_;intro b;exact Zr
structure bY(G:Nat->V)(f:FuncId)(cap:List V)(p:Sg->Bool):Prop where
 en:Yf ai f=ad
 rc:cap.map (V.recol AH.ent)=cap
 sp:∀ s:Sg,Spec ai G f (Ki s::cap) Zm (λv _=>v=.bool (p s))
def dR(f s):(Ki s).recol f=Ki s:=by simp only[Iu,X9,BI,BV,Xr,Ua]
def Dd(G)(j:Yy G)(c s)(m:s.l.length<1000000){f cap p}(e:bY G f cap p):Spec () G 295 [Za c 3 Ki s,.func (.func f) [] cap] Zm (Oy p s.l):=by
 refine Zo 0 19 [.tmp 4] func295 λX=>?_;refine Z1 ?_;refine Z1 ?_;refine BK ?_;refine Z8 [0,1,7] [] (aa s.l) (λk  _=>[(8,k)]) (λ_ _=>[]) (λk _=>∀ y∈s.l.take k,p y=ab) 0 () qz zS zp zp ?_;intro k _ n d o g;refine Z1 ?_;refine Zz ?_;refine Zi rfl (λi=>?_) (λi=>?_);have a:=zu i;have b:=AY a;generalize s.l[k]=x at b;refine Z1 ?_;refine Ym (zi b @Iu) ?_;refine GS j e.en ?_;simp only[BI,e.rc,<- Iu,dR];refine(e.sp x).mono ?_;rintro _ _ rfl;refine Zs ?_;refine Zi rfl (λh=>?_) (λh=>?_);refine Z ?_;rw[Td b d h];refine Z1 ?_;refine g _ ⟨a,(),V3 b d h,AO zw zp⟩;have a:k=aa s.l:=by simp at i;omega
 refine Z ?_;rw[a,B_]at d;rw[Te d]
def yo(G)(d:Yy G)(t:bS)(p:Int)(s):Spec () G 296 [Ki s,.view .old t,.view .old p] Zm (NW t p s):=by
 refine Zo 0 20 _ func296 λX=>?_;simp only[Iu];refine Zk λK a=>CA zk ?_;refine Zs ?_;intro e;refine a _ ?_
 try clear a K
 unfold NW;cases c:(s.BG==t)<;>cases h2:(s.CC==p)<;>cases b:(s.BG==[])<;>((refine Zk λK a=>CA zk ?_;simp -implicitDefEqProofs only[go_sem,seval,bne,c,h2,b];refine a _ ?_;clear a K);(refine FU ?_;refine Zs ?_;refine Yk ?_);rfl)
def AB8{G}(a:Yy G)(t:bS)(p:Int):bY G 296 [.view .old t,.view .old p] (NW t p):=⟨zk,rfl,yo G a t p⟩
def xj(t p):Oy (NW t p) tabL=match Dt t p with|some i=>(i:Int)|none => -1:=rfl
def encOf(o:Nat×Bool):V:=.tuple [.int .u8 o.1,.bool o.2]
def jl{t p i}(h:Dt t p=ae i):i<23:=(OS.1 h).1
def Az(G)(b:Yy G)(t:bS)(p:Int):Spec () G 269 [t,p] Zm (encOf (Ds t p)):=by
 refine Zo 0 17 _ func269 λX=>?_;refine Z1 ?_;intro u r;refine Z1 ?_;refine Zn b ?_ (s:=(Kp G b));refine Xc (j3 @XY @XZ @BO) ?_;intro d;rw[Dc _ ?hl]
 case hl=>rfl
 refine Zz<|Pq 0 zk rfl rfl ?_;refine Zs ?_;refine⟨_,wV underlying317 zk (m:=3) (cs:=GP) zp zp zd,?_⟩;refine EZ b [Za .old 3 Ki (.mk ab tabL),.func (.func 296) [] [.view .old t,.view .old p]] zk ⟨?_,kr ⟨?_,?_,AJ⟩,AJ⟩ ?_;exact LO (off:=0) (n:=23) (l:=tabL) (f:=Ki) (f':=Ki) (g:=d) (fz:=0) (c:=.new) zp qi (λx y a=>by simp only[Iu,V.cells,BY,CL,CF]at a;rcases a with rfl|rfl|rfl;exact .AB _;exact .int _ _;exact .int _ _) (dR _) zd
 exact Rd.ptr (v:=.AB t) (c:=.new) (fz:=0) zp (by intro y a;simp[V.cells]at a;subst a;exact .AB _) zp;exact Rd.ptr (v:=qI p) (c:=.new) (fz:=0) zp (by intro y a;simp[V.cells]at a;subst a;exact .int _ _) zp;refine(Dd G b _ (.mk ab tabL) zd (AB8 b t p)).mono ?_;rintro _ _ rfl;refine⟨.int _ _,?_⟩;refine Zs ?_;have j:=xj t p;unfold Ds;show AW _ _ _ _ {τ:=Ye _ 7 (Oy (NW t p) tabL),H:=_};rw[j];rcases h:Dt t p with _|i;exact Zr;have q:=jl h;refine NF [7] [] ?_;have o:((0:Int)>(i:Int))=False:=by rw[eq_iff_iff,iff_false];omega
 have e:IntKind.u8.wrap (i:Int)=i:=by unfold IntKind.wrap;simp[IntKind.signed,IntKind.bits];omega
 have k:=zU ((i:Int)>=0);exact Zq (j3 o e k)
def Y9(n:XN):V:=.agg [.int .u8 n.op,n.num,n.name,n.a,n.b,n.c]
def X7(n):Y9 n=.agg [.int .u8 n.op,n.num,n.name,n.a,n.b,n.c]:=rfl
def Rc(n):(Y9 n).cells.length=6:=rfl
def Wd(t):Xy t=.agg [.int .u8 t.AD,t.BG,t.pos]:=rfl
def N0(f n):(Y9 n).recol f=Y9 n:=by simp only[X7,X9,BI,BV,Xr,Ua]
def AAG(f t):(Xy t).recol f=Xy t:=by simp only[Wd,X9,BI,BV,Xr,Ua]
@[go_sem] def Xn(g c s):(Za c 3 Xy s).recol g=Za (g c) 3 Xy s:=Xz g c 3 (AAG g) s
@[go_sem] def Yu(g c s):(Za c 6 Y9 s).recol g=Za (g c) 6 Y9 s:=Xz g c 6 (N0 g) s
def C9(NO:Nat)(tl:List V)(sl:Sl Tk)(g gx:Nat)(r:RS):BL:=.cells .any g 0 (Za .any 3 Xy sl::qI r.i::AZ NO gx 6 r.BS::qI r.e::tl)
def Dw(gx:Nat)(ns:List XN):BL:=KU .any gx Y9 ns
def Y3(b tl a g gx r):C9 b tl a g gx r=.cells .any g 0 (Za .any 3 Xy a::qI r.i::AZ b gx 6 r.BS::qI r.e::tl):=rfl
def RdS(NO:Nat)(tl:List V)(G:Nat->V)(f:FuncId)(args:List V)(sl:Sl Tk)(g:Nat)(r:RS)(v:V)(r':RS):Prop:=
 ∀ gx,Spec () G f (.ptr 8 g 0::args) (Yb Zm [(8,C9 NO tl sl g gx r),(NO,Dw gx r.BS)]) (λb a=>b=v/\∃ gx',a 8=C9 NO tl sl g gx' r'/\a NO=Dw gx' r'.BS)
def RdS.call{b tl G}(y:Yy G){f a args' d g gx r r' v}(h:RdS b tl G f args' d g r v r'){H K}(j:Yf ai f=ad)(i:∀ F,tl.map (V.recol F)=tl)(t:8≠b)(c:a.map (V.recol AH.ent)=args')(s:v.recol AH.bk=v)(z:H 8=C9 b tl d g gx r)(x:H b=Dw gx r.BS)(u:∀ gx',K v (Yb H [(8,C9 b tl d g gx' r'),(b,Dw gx' r'.BS)])):CallA ai G f (.ptr 8 g 0::a) H K:=by
 have n:∀ (F) gx r,F .any=.any->(C9 b tl d g gx r).recol F=C9 b tl d g gx r:=by intro F gx r k;simp only[Y3,bM,BI,S9,Xn,Xr,k,i]
 have m:∀ (F) gx e,F .any=.any->(Dw gx e).recol F=Dw gx e:=by intro F gx e k;rw[Dw,vT F _ gx Y9 Y9 (N0 F),k]
 refine CallA.hand y [(8,C9 b tl d g gx r),(b,Dw gx r.BS)] j ?_ ?_;intro p l;simp only[BY,CL,CF]at l;rcases l with rfl|rfl;rw[z,n _ _ _ rfl];rw[x,m _ _ _ rfl];have w:(V.ptr 8 g 0::a).map (V.recol AH.ent)=.ptr 8 g 0::args':=by rw[BI,Ic,c]
 rw[w];refine(h gx).mono ?_;rintro _ A ⟨rfl,gx',q,o⟩;simp only[BI,BV,q,o,n _ _ _ UC,m _ _ _ UC,s];exact u _
def Yn{c tl G}(n:Yy G){f a args' d g gx r r' v}(h:RdS c tl G f args' d g r v r'){H K}(l:∀ gx',K v (Yb H [(8,C9 c tl d g gx' r'),(c,Dw gx' r'.BS)]))(j:Yf ai f=ad:=by kernel_rfl)(e:∀ F,tl.map (V.recol F)=tl:=by exact λF=>rfl)(i:8≠c:=by decide)(b:a.map (V.recol AH.ent)=args':=by exact zx)(k:v.recol AH.bk=v:=by exact zm)(o:H 8=C9 c tl d g gx r:=by exact zr)(m:H c=Dw gx r.BS:=by exact zr):CallA ai G f (.ptr 8 g 0::a) H K:=RdS.call n h j e i b k o m l
structure FJ(l:List Tk):Prop where
 len:aa l<100000
 BG:∀ t∈l,aa t.BG<100000
def kK{l i t}(h:l[i]?=ae t):Yj l i=if(Tc t.BG:Int)=t.AD then t else⟨0,[],0⟩:=by unfold Yj;rw[h]
def Hz{l i}(h:l.length<=i):Yj l i=⟨0,[],0⟩:=by unfold Yj;rw[OT h]
def Hl(G)(n:CR G)(a)(p:FJ a.l)(g r)(q:r.i<1000000):RdS 1031 [.func (.func 250) [] []] G 268 [] a g r (Xy (Yj a.l r.i)) r:=by
 have e:=n.ok;intro h;refine Zo 1000 50 [.cell 2 235] func268 λX=>?_;simp only[Yb,Y3];refine Z1 ?_;intro s;refine Zz ?_;by_cases m:r.i<aa a.l;have f:=zU ((r.i:Int)<aa a.l);have c:=AY m;have o:=p.BG _ (BT m);generalize a.l[r.i]=t at c o;have b:=kK c;have k:J3 ai G 137 [t.BG] (.int .u8 (Tc t.BG)):=⟨zk,by refine Zs ?_;refine(Pb G n t.BG zo).mono ?_;rintro _ _ rfl;rfl⟩
 by_cases d:(Tc t.BG:Int)=t.AD;rw[AF d]at b;have j:((Tc t.BG:Int)==t.AD)=ad:=zu d;refine Zz<|Zv ⟨λi=>if i=22 then .int .u8 (Tc t.BG)else .top,λ_=>.pure⟩ zk e zk zk ?_;refine Xc (j4 f c @Wd j) ?_;refine⟨k,?_⟩;refine Zi rfl (λh2=>?_) (λh2=>?_);refine Pr (zi c @Wd) e ?_;refine Z ?_;exact⟨by rw[b]<;>rfl,h,zp,zp⟩;cases h2;rw[AA d]at b;have j:((Tc t.BG:Int)==t.AD)=ab:=zu d;refine Zz<|Zv ⟨λi=>if i=22 then .int .u8 (Tc t.BG)else .top,λ_=>.pure⟩ zk e zk zk ?_;refine Xc (j4 f c @Wd j) ?_;refine⟨k,?_⟩;refine Xh rfl ?_;refine Z ?_;exact⟨by rw[b]<;>rfl,h,zp,zp⟩;have f:=zV ((r.i:Int)<aa a.l);have b:=Hz (l:=a.l) (i:=r.i) zo;refine Pr f e ?_;refine Xh rfl ?_;refine Z ?_;exact⟨by rw[b]<;>rfl,h,zp,zp⟩
def Mx(G)(d:Yy G)(a g r)(c:r.BS.length<1000000):RdS 1031 [.func (.func 250) [] []] G 270 [] a g r r.last r:=by intro b;refine Zo 1000 9 _ func270 λX=>?_;simp only[Yb,Y3];refine Z ?_;exact⟨by rw[Xi zo zo]<;>rfl,b,zp,zp⟩
def vz{l:iS}(h:aa l<=3):setAt [qI (-1),qI (-1),qI (-1)] 0 (l.map ())=[qI (l.getD 0 (-1)),qI (l.getD 1 (-1)),qI (l.getD 2 (-1))]:=by match l,h with|[],_=>rfl|[_],_=>rfl|[_,_],_=>rfl|[_,_,_],_=>rfl
def iU(k)(l:iS):flat (l.map (V.int k))=l.map (V.int k):=by induction l with|nil=>rfl|cons x r ih=>unfold flat at ih⊢;rw[BI,FY,ih]<;>rfl
def PF(n:XN)(ps:iS):XN:={n with a:=ps.getD 0 (-1),b:=ps.getD 1 (-1),c:=ps.getD 2 (-1)}
def J6(G)(t:Yy G)(h g r)(z:r.BS.length<1000000)(n c ps)(d:ps.l.length<=3):RdS 1031 [.func (.func 250) [] []] G 271 [Y9 n,Za c 1 (V.int .i64) ps] h g r ad (r.put (PF n ps.l)):=by
 intro j;refine Zo 1000 34 _ func271 λX=>?_;simp only[Yb,Y3,X7];refine Z1 ?_;intro v;refine Z1 ?_;intro u;refine Zz<|jW 2 zk rfl rfl ?_;refine Zs ?_;refine⟨_,_,GivesE.copy underlying45 zk zp zp (by refine Zs ?_;exact BU (λx=>ae (aa ps.l,x)) (iU _ _)) d ql zO,?_⟩;rw[vz d];refine Zs ?_;have e:PF n ps.l={n with a:=ps.l.getD 0 (-1),b:=ps.l.getD 1 (-1),c:=ps.l.getD 2 (-1)}:=rfl;generalize ps.l.getD 0 (-1)=s at e⊢;generalize ps.l.getD 1 (-1)=q at e⊢;generalize ps.l.getD 2 (-1)=p at e⊢;refine BM (Z4 (λo=>o==1008) (l:=[(0,.ptr 8 g 0),(4,.ptr 1004 v 0),(7,.slice .new ab 1 [s,q,p])])
  (m:=[(8,C9 1031 [.func (.func 250) [] []] h g j r),(1031,Dw j r.BS),(1004,qC v 0 [.int .u8 n.op,n.num,n.name,n.a,n.b,n.c])]) ?_ ?_) ?_
 refine Zs ?_;refine⟨Zd,Zd,?_⟩;exact Xm (f:=V.int .i64) (l:=[s,q,p]) rfl zp BE;simp only[Z2,Z5,CE];exact⟨CQ rfl zp,CQ rfl zp,CQ rfl zp⟩;refine Zz<|Zv ⟨λ_=>.top,λi=>if i=2 then .CO else if i=5 then .CO else if i=8 then .CO else .pure⟩ zk t zk zk ?_;refine Xc @Y3 ?_;refine AW.later ?_;refine ZT t ?_;intro w;refine fI (f:=Y9) (l:=r.BS) (l2:=[PF n ps.l]) Rc rfl (by rw[e]<;>rfl) rfl zp (Z3 zo zO) λy k=>?_;refine Zs ?_;refine Z1 ?_;refine FU ?_;refine Zs ?_;refine⟨st [(6,ad)] [(8,C9 1031 [.func (.func 250) [] []] h g k (r.put (PF n ps.l))),(1031,Dw k (r.BS++[PF n ps.l]))],Z4 (λ_=>ab) ?_ ?_,?_⟩;refine Zs ?_;exact Zd;simp only[Z2,Z5,CE];exact⟨CQ rfl zp,jI (c:=y) rfl zp⟩;refine Zs ?_;exact Yk ⟨rfl,k,zp,zp⟩
def AAW(G)(s:bS):Spec () G 309 [s,.AB [48]] Zm (λv _=>v=.AB (s.dropWhile (· == 48))):=by
 refine Sy λX a _ _ h=>?_;obtain⟨x,y,rfl,g,f⟩:=h.two;obtain⟨d,rfl,rfl⟩:=g.str_inv;obtain⟨b,rfl,c⟩:=f.str_inv;obtain rfl:b=⟨#[48]⟩:=by have⟨⟨l⟩⟩:=b;simp at c;rw[c]
 refine(show Calls _ _ _ _ _ from Any.strings_TrimLeft_one ot d 48 zd _).mono ?_;rintro e w' ⟨rfl,rfl⟩;exact⟨_,_,rfl,RowKit.Below.refl _ _,.AB _ _ rfl,by simp[Lib.trimLeftB]⟩
def Hm(G)(e:Yy G)(d g r)(hi:r.i<1000000)(h:r.BS.length<1000000)(op b a x y z):RdS 1031 [.func (.func 250) [] []] G 292 [Y9 ⟨op,b,a,x,y,z⟩] d g r ad (Ry r op b a).2:=by
 intro gx;refine Zo 1000 15 _ func292 λX=>?_;have f:qN ((r.i:Int)+1)=((r.i+1:Nat):Int):=by rw[Xi zo zo];omega
 simp only[Yb,Y3,X7];refine Z1 ?_;intro j;refine Ym f ?_;refine Z1 ?_;rw[<- X7 ⟨op,b,a,x,y,z⟩];refine Yn e (J6 G e d g r.adv h ⟨op,b,a,x,y,z⟩ .any .nil zd) λc=>?_;refine Zu ?_;refine Z ?_;exact⟨rfl,c,zp,zp⟩
def E5(G)(m:CR G)(a)(o:FJ a.l)(g r)(hi:r.i<1000000)(w:bS):RdS 1031 [.func (.func 250) [] []] G 293 [w] a g r (.bool (Sb a.l w r).1) (Sb a.l w r).2:=by
 have q:=m.ok;intro gx;refine Zo 1000 27 _ func293 λX=>?_;have n:qN ((r.i:Int)+1)=((r.i+1:Nat):Int):=by rw[Xi zo zo];omega
 refine Z1 ?_;refine Z1 ?_;refine Yn q (Hl G m a o g r hi) λc=>?_;refine Zu ?_;refine Xc @Wd ?_;intro s;have b:Sb _ w r=if(Yj _ r.i).AD=0\/(Yj a.l r.i).BG≠w then(ab,r.err 80)else(ad,r.adv):=rfl;generalize Yj a.l r.i=t at b⊢;obtain⟨k,t,p⟩:=t;simp only at b;by_cases e:k=0;have f:=zu e;rw[AF (.inl e)]at b;refine Ym f ?_;refine Zi rfl (λh2=>?_) (λh2=>?_);refine Zf @Y3 ?_;rw[b];exact⟨rfl,c,zp,zp⟩;cases h2;have f:(k==0)=ab:=zu e;by_cases d:t=w;have j:=zu d;rw[AA (by rintro(h|h);exact e h;exact h d)]at b;refine Wo zk ?_;simp -implicitDefEqProofs only[go_sem,seval,f,bne,j];refine Xh rfl ?_;refine Zf (zi @Y3 n) ?_;rw[b];exact⟨rfl,c,zp,zp⟩;have j:(t==w)=ab:=zu d;rw[AF (.inr d)]at b;refine Wo zk ?_;simp -implicitDefEqProofs only[go_sem,seval,f,bne,j];refine Zi rfl (λh2=>?_) (λh2=>?_);refine Zf @Y3 ?_;rw[b];exact⟨rfl,c,zp,zp⟩;cases h2
def mb(t):(Tu t).length<=t.length+1:=by unfold Tu;split;simp;exact CT ((lX _).length_le) (QN _)
def ABT(G)(l:CR G)(f g r)(hi:r.i<1000000)(o:r.BS.length<1000000)(t:bS)(u:t.length<100000):RdS 1031 [.func (.func 250) [] []] G 291 [t] f g r (.bool (T7 r t).1) (T7 r t).2:=by have d:=l.ok;intro gx;refine Zo 1000 26 _ func291 λX=>?_;refine Z1 ?_;refine Z1 ?_;refine Zc d ?_ (s:=(AAW G t));have h:Tu t=if t.dropWhile _=[]then[48]else t.dropWhile _:=rfl;have b:T7 r t=if(Vz _).2≠0 then(ab,r.err _)else Ry r 1 _ []:=rfl;have p:=mb t;refine Yt (fun(_:Unit)=>st [(0,.ptr 8 g 0),(1,(Tu t))] [(8,C9 1031 [.func (.func 250) [] []] f g gx r),(1031,Dw gx r.BS)]) (λ_=>True) (λv a=>?_) ?_;rw[h]at a;refine Z1 ?_;refine Zi rfl (λh2=>?_) (λh2=>?_);have h2:=zu h2;rw[AF h2]at a;refine Z1 ?_;exact a _ () trivial (AO zp (by simp -implicitDefEqProofs only[go_sem,seval,Yb]));have h2:=zu h2;rw[AA h2]at a;refine Z0 ?_;exact a _ () trivial (AO zp (by simp -implicitDefEqProofs only[go_sem,seval,Yb]));intro _ _;generalize Tu t=s at p b⊢;refine Z1 ?_;refine Zn d ?_ (s:=(n3 G l.tob6 s zo));generalize Vz s=q at b⊢;obtain⟨n,e⟩:=q;simp only at b;refine Xc @encR.eq_1 ?_;refine Zz ?_;by_cases c:e=0;have k:(e==0)=ad:=zu c;rw[AA (show ¬e≠0 by simpa using c)]at b;refine Wo zk ?_;simp -implicitDefEqProofs only[go_sem,seval,bne,k];refine Xh rfl ?_;refine Z1 ?_;rw[<- X7 ⟨1,n,[],0,0,0⟩];refine Yn d (Hm G d f g r hi o 1 n [] 0 0 0) λj=>?_;refine Zu ?_;refine Z ?_;rw[b];exact⟨rfl,j,zp,zp⟩;have k:(e==0)=ab:=zu c;rw[AF c]at b;refine Wo zk ?_;simp -implicitDefEqProofs only[go_sem,seval,bne,k];refine Zi rfl (λm=>?_) (λm=>?_);refine Zf @Y3 ?_;rw[b];exact⟨rfl,gx,zp,zp⟩;cases m
def YF(G:Nat->V)(sl:Sl Tk)(g:Nat)(inner:II)(i0:Nat):Prop:=
 ∀ n r,1<=n->n<=9->i0<r.i->R9 sl.l r->RdS 1031 [.func (.func 250) [] []] G 250 [.int .i64 n] sl g r (.bool (inner n r).1) (inner n r).2
def Dv{l}(a:FJ l)(i):(Yj l i).BG.length<100000:=by unfold Yj;split;rename_i t h;split;exact a.BG _ (DY h);exact H3 _;exact H3 _
def mf(l w r):(Sb l w r).1=ad->(Sb l w r).2=r.adv:=by unfold Sb;split;intro h;cases h;exact λ_=>rfl
def PC(l:List Tk)(inner:II):List bS->iS->RS->Bool×RS
 |[],CC,r=>andThen (Sb l Ps r) λb=>(ad,b.put (PF ⟨22,0,[],0,0,0⟩ CC))|w::ws,CC,r=>andThen (Sb l w r) λc=>andThen (inner 1 c) λa=>PC l inner ws (CC++[a.last]) a
def ua(l a r):Ub l a r=PC l a [HM,Kr,Ks] [] r:=rfl
def brW:List bS:=[HM,Kr,Ks]
def A2(G)(Y:CR G)(e)(U:FJ e.l)(g r)(hr:R9 e.l r)(c)(Q:YF G e g c r.i)(hb:LU e.l c):RdS 1031 [.func (.func 250) [] []] G 294 [] e g r (.bool (Ub e.l c r).1) (Ub e.l c r).2:=by
 have p:=Y.ok;have hTl:=U.len;intro gx;refine Zo 1000 37 _ func294 λX=>?_;refine Z1 ?_;refine Z1 ?_;refine Z1 ?_;refine BK ?_;refine Wy 3 (λk  x=>st [(0,.ptr 8 g 0),(3,AZ 1027 x.1 1 x.2.2.1),(6,.agg (brW.map V.AB)),(7,k)] [(1027,Z9 x.1 (V.int .i64) x.2.2.1),(8,C9 1031 [.func (.func 250) [] []] e g x.2.1 x.2.2.2),(1031,Dw x.2.1 x.2.2.2.BS)])
  (λk x=>Ub e.l c r=PC e.l c (brW.drop k) x.2.2.1 x.2.2.2/\R9 e.l x.2.2.2/\r.i<=x.2.2.2.i/\aa x.2.2.1=k) 0 (0,gx,[],r) qz ⟨ua _ _ _,hr,BO _,rfl⟩
  (AO (by refine Zs ?_;exact⟨rfl,rfl⟩) (by simp -implicitDefEqProofs only[go_sem,seval,Yb];try rfl)) ?_
 rintro k ⟨gp,J,d,q⟩ hk ⟨j,E,C,v⟩ L2 W;have j:Ub e.l c r=PC e.l c (brW.drop k) d q:=j;have E:R9 e.l q:=E;have C:r.i<=q.i:=C;have v:aa d=k:=v;have D:q.i<1000000:=by have:=E.1;omega
 refine Z1 ?_;refine Zz ?_;refine Zi rfl (λB=>?_) (λB=>?_)
 .have hk1:k<3:=by have B:decide ((k:Int)<3)=ad:=B;simp at B;omega
  refine Z0 ?_;refine Zz ?_;refine BK ?_;obtain⟨w,M,L⟩:∃ w,(brW.map V.AB)[k]?=ae (.AB w)/\brW.drop k=w::brW.drop (k+1):=by have F:=hk1;exact⟨brW[k],by rw[ED,AY F]<;>rfl,FL F⟩
  have H:(k:Int)<3:=zo;rw[L,PC]at j;have m:=R6 e.l w q;have A:=mf e.l w q;have h:=E5 G Y e U g q D w;generalize Sb e.l w q=y at j m h A;obtain⟨b,t⟩:=y;simp only at m h A;refine Ym (j4 M H @DS @GV) ?_;refine Zz ?_;cases b;rw[Xq]at j;refine Z1 ?_;refine Yn p (h) (gx:=J) λgz=>?_;refine Zu ?_;refine Zi rfl (λI=>?_) (λI=>?_);refine Z ?_;rw[j];exact⟨rfl,gz,zr,zr⟩;cases I;rw[Y7]at j;have R:=m.2 rfl;have n:=R.ok E;have P:r.i<t.i:=by rw[A rfl];show r.i<q.i+1;omega
  have K:=Q 1 t zd zd P n;have u:=hb 1 t;generalize c 1 t=z at j K u;obtain⟨b,a⟩:=z;simp only at K u;have T:=u.ok n;have S:aa a.BS<1000000:=by have:=T.1;have:=T.2;omega
  cases b;rw[Xq]at j;refine Ym @Y3 ?_;refine Yn p (h) (gx:=J) λgz=>?_;refine Zu ?_;refine Xc @Y3 ?_;refine Yn p (K) (gx:=gz) λs=>?_;refine Zu ?_;refine Zi rfl (λI=>?_) (λI=>?_);refine Z ?_;rw[j];exact⟨rfl,s,zr,zr⟩;cases I;rw[Y7]at j;refine Ym @Y3 ?_;refine Yn p (h) (gx:=J) λgz=>?_;refine Zu ?_;refine Xc @Y3 ?_;refine Yn p (K) (gx:=gz) λs=>?_;refine Zu ?_;refine Xh rfl ?_;refine Z1 ?_;refine Yn p (Mx G p e g a S) (gx:=s) λgz3=>?_;refine Zu ?_;intro g26;refine Yg (f:=V.int .i64) (l:=d) (l2:=[a.last]) BE rfl rfl rfl zp (Z3 zo zO) λg27=>?_;refine Zs ?_;refine Z1 ?_;refine W _ ⟨hk1,(g27,gz3,d++[a.last],a),⟨j,T,?_,?_⟩,AO zw zp⟩;show r.i<=a.i;have:=u.up;omega;show aa (d++[a.last])=k+1;rw[BQ,JI,v]
 .have hk1:k=3:=by have B:decide ((k:Int)<3)=ab:=B;simp at B;omega
  refine Z0 ?_;rw[hk1,show brW.drop 3=[]from rfl,PC]at j;have m:=R6 e.l Ps q;have h:=E5 G Y e U g q D Ps;generalize Sb e.l Ps q=y at j m h;obtain⟨b,t⟩:=y;simp only at m h;have n:=(m.1).ok E;have N:aa t.BS<1000000:=by have:=n.1;have:=n.2;omega
  cases b;rw[Xq]at j;refine Z1 ?_;refine Yn p (h) (gx:=J) λgz=>?_;refine Zu ?_;refine Z ?_;rw[j];exact⟨rfl,gz,zr,zr⟩;rw[Y7]at j;refine Z1 ?_;refine Yn p (h) (gx:=J) λgz=>?_;refine Zu ?_;refine Vb (λo=>o==1027) [.ptr 8 g 0,Y9 ⟨22,0,[],0,0,0⟩,qE (Zb d)] [(8,C9 1031 [.func (.func 250) [] []] e g gz t),(1031,Dw gz t.BS)] ⟨Zd,Zd,?_,AJ⟩ ?_ ?_;exact Yp rfl zp BE;simp only[Z2,Z5,CE];exact⟨CQ rfl zp,CQ rfl zp⟩;have O:aa (Zb d).l<=3:=by rw[Zl];omega
  refine Yn p (J6 G p e g t N ⟨22,0,[],0,0,0⟩ .old (Zb d) O) (gx:=gz) λs=>?_;refine Zu ?_;refine Z ?_;rw[j];exact⟨rfl,s,zr,zr⟩
def xP(G)(T:CR G)(e)(Q:FJ e.l)(g r)(U:R9 e.l r)(d)(L:YF G e g d r.i)(W:LU e.l d):RdS 1031 [.func (.func 250) [] []] G 266 [] e g r (.bool (Ti e.l d r).1) (Ti e.l d r).2:=by
 have u:=T.ok;have hTl:=Q.len;have E:r.i<1000000:=by have:=U.1;omega
 have K:aa r.BS<1000000:=by have:=U.2;omega
 have hw:qN ((r.i:Int)+1)=((r.i+1:Nat):Int):=by rw[Xi zo zo];omega
 intro gx;refine Zo 1000 _ _ func266 λX=>?_;have j:Ti e.l d r=if(Yj e.l r.i).AD=1 then T7 r (Yj e.l r.i).BG
  else if(Yj e.l r.i).AD=2 then Ry r 2 0 (Yj e.l r.i).BG
  else if(Yj e.l r.i).AD=0 then(ab,r.err 80)
  else if(Ds (Yj e.l r.i).BG 1).2 then andThen (d 9 r.adv) λa=>(ad,a.put ⟨(Ds (Yj e.l r.i).BG 1).1,0,[],a.last,-1,-1⟩)
  else if(Yj e.l r.i).BG=[40]then andThen (d 1 r.adv) (Sb e.l [41])
  else if(Yj e.l r.i).BG=HM then Ub e.l d r
  else if(Ds (Yj e.l r.i).BG 0).2/\(Yj e.l r.i).AD=3 then Ry r (Ds (Yj e.l r.i).BG 0).1 0 []
  else(ab,r.err 80):=rfl
 have J:=Dv Q r.i;have C:=λh=>(K_ (Jh h)).ok U;have w:(Yj e.l r.i).AD=0->(Ds (Yj e.l r.i).BG 0).2=ab:=λh=>by unfold Ds;rcases ho:Dt (Yj e.l r.i).BG 0 with _|i;rfl;have O:=Ji e.l r.i;rw[h]at O;rcases kh ho with ⟨h,_⟩|⟨h,_⟩;rw[h]at O;exact absurd O zd;rw[h]at O;exact absurd O zd
 refine Z1 ?_;refine Z1 ?_;refine Yn u (Hl G T e Q g r E) λq=>?_;refine Zu ?_;refine Xc @Wd ?_;intro g3;generalize Yj e.l r.i=t at j J C w⊢;obtain⟨k,t,p⟩:=t;simp only at j J C w;refine Z1 ?_;refine Zn u ?_ (s:=(Az G u t 1));generalize Ds t 1=o1 at j⊢;obtain⟨M,one⟩:=o1;simp only at j;refine Xc @encOf.eq_1 ?_;refine Yt (fun(_:Unit)=>st [(0,.ptr 8 g 0),(3,.ptr 1003 g3 0)] [(1003,qC g3 0 [.int .u8 k,t,p]),(8,C9 1031 [.func (.func 250) [] []] e g q r),(1031,Dw q r.BS)])
  (λ_=>(k=0\/(k≠0/\k≠1/\k≠2/\one=ab/\t≠[40]/\t≠HM))) (λK1 S=>?_) ?_
 .refine BK ?_;by_cases k1:k=1;have e1:=zu k1;rw[AF k1]at j;refine Ym e1 ?_;refine Zi rfl (λh2=>?_) (λh2=>?_);refine Z1 ?_;refine Yn u (ABT G T e g r E K t J) (gx:=q) λn=>?_;refine Zu ?_;refine Z ?_;rw[j];exact⟨rfl,n,zr,zr⟩;cases h2;have e1:(k==1)=ab:=zu k1;rw[AA k1]at j;refine Ym e1 ?_;refine Xh rfl ?_
  try clear h2
  by_cases k2:k=2;have e2:(k==2)=ad:=zu k2;rw[AF k2]at j;refine Ym e2 ?_;refine Zi rfl (λh2=>?_) (λh2=>?_);refine Z1 ?_;rw[<- X7 ⟨2,0,t,0,0,0⟩];refine Yn u (Hm G u e g r E K 2 0 t 0 0 0) (gx:=q) λn=>?_;refine Zu ?_;refine Z ?_;rw[j];exact⟨rfl,n,zr,zr⟩;cases h2;have e2:(k==2)=ab:=zu k2;rw[AA k2]at j;refine Ym e2 ?_;refine Xh rfl ?_
  try clear h2
  by_cases A:k=0;have e0:(k==0)=ad:=zu A;refine Ym e0 ?_;refine Zi rfl (λh2=>?_) (λh2=>?_);refine Z0 ?_;exact S _ () (.inl A) qs;cases h2;have e0:(k==0)=ab:=zu A;rw[AA A]at j;have H:=C A;refine Ym e0 ?_;refine Xh rfl ?_
  try clear h2
  refine Z1 ?_;refine Zi rfl (λh3=>?_) (λh3=>?_)
  .subst h3;rw[AF rfl]at j;have F:=L 9 r.adv zd zd (GH _) H;have v:=(W 9 r.adv).ok H;generalize d 9 r.adv=x at F j v;obtain⟨b,a⟩:=x;simp only at F v;have P:aa a.BS<1000000:=by have:=v.1;have:=v.2;omega
   refine Ym (zi @Y3 hw) ?_;cases b;refine Ym @Y3 ?_;refine Yn u (F) (gx:=q) λn=>?_;refine Zu ?_;refine Z ?_;rw[j];exact⟨rfl,n,zr,zr⟩;refine Ym @Y3 ?_;refine Yn u (F) (gx:=q) λn=>?_;refine Zu ?_;refine Yn u (Mx G u e g a P) (gx:=n) λz=>?_;refine Zu ?_;intro g58;refine Vb (λo=>o==1058) [.ptr 8 g 0,Y9 ⟨M,0,[],0,0,0⟩,.slice .new ab 1 [a.last]] [(8,C9 1031 [.func (.func 250) [] []] e g z a),(1031,Dw z a.BS)] ⟨Zd,Zd,?_,AJ⟩ ?_ ?_;exact Xm (f:=V.int .i64) (l:=[a.last]) rfl zp BE;simp only[Z2,Z5,CE];exact⟨CQ rfl zp,CQ rfl zp⟩;refine Yn u (J6 G u e g a P ⟨M,0,[],0,0,0⟩ .old (.mk ab [a.last]) (LK rfl)) (gx:=z) λgx4=>?_;refine Zu ?_;refine Z ?_;rw[j];exact⟨rfl,gx4,zr,zr⟩
  subst h3;rw[AA zS]at j;refine Z1 ?_;refine Zi rfl (λI=>?_) (λI=>?_)
  .have I:t=[40]:=zu I;rw[AF I]at j;have F:=L 1 r.adv zd zd (GH _) H;have v:=(W 1 r.adv).ok H;generalize d 1 r.adv=x at F j v;obtain⟨b,a⟩:=x;simp only at F v;have Y:a.i<1000000:=by have:=v.1;omega
   refine Ym (zi @Y3 hw) ?_;cases b;refine Ym @Y3 ?_;refine Yn u (F) (gx:=q) λn=>?_;refine Zu ?_;refine Z ?_;rw[j];exact⟨rfl,n,zr,zr⟩;rw[Y7]at j;refine Ym @Y3 ?_;refine Yn u (F) (gx:=q) λn=>?_;refine Zu ?_;refine Yn u (E5 G T e Q g a Y [41]) (gx:=n) λz=>?_;refine Zu ?_;generalize Sb e.l [41] a=y at j⊢;obtain⟨b,a2⟩:=y;cases b;refine Zs ?_;refine Z ?_;rw[j];exact⟨rfl,z,zr,zr⟩;refine Zs ?_;refine Z ?_;rw[j];exact⟨rfl,z,zr,zr⟩
  have I:¬t=[40]:=zu I;rw[AA I]at j;refine Z1 ?_;refine Zi rfl (λD=>?_) (λD=>?_);have D:t=HM:=by have D:(t==[105,102])=ad:=D;exact eq_of_beq D
  rw[AF D]at j;refine Z1 ?_;refine Yn u (A2 G T e Q g r U d L W) (gx:=q) λn=>?_;refine Zu ?_;refine Z ?_;rw[j];exact⟨rfl,n,zr,zr⟩;have D:¬t=HM:=by have D:(t==[105,102])=ab:=D;exact FD.1 D
  refine Z0 ?_;exact S _ () (.inr ⟨A,k1,k2,rfl,I,D⟩) qs
 rintro _ B;have R:Ti e.l d r=if(Ds t 0).2/\k=3 then Ry r (Ds t 0).1 0 []else(ab,r.err 80):=by rw[j];rcases B with A|⟨A,k1,k2,k3,k4,k5⟩;have:=w A;subst A;rw[AA zd,AA zd,AF rfl,this,AA zS];rw[AA k1,AA k2,AA A,k3,AA zS,AA k4,AA k5]
 try clear j
 have j:=R
 try clear R w B
 refine Z1 ?_;refine Zn u ?_ (s:=(Az G u t 0));generalize Ds t 0=o0 at j⊢;obtain⟨N,ok⟩:=o0;simp only at j;refine Xc @encOf.eq_1 ?_;cases ok;rw[AA zS]at j;refine Z1 ?_;refine Xh rfl ?_;refine Zf @Y3 ?_;rw[j];exact⟨rfl,q,zr,zr⟩;by_cases k3:k=3;have e3:(k==3)=ad:=zu k3;rw[AF ⟨rfl,k3⟩]at j;refine Ym e3 ?_;refine Zi rfl (λh7=>?_) (λh7=>?_);refine Z1 ?_;rw[<- X7 ⟨N,0,[],0,0,0⟩];refine Yn u (Hm G u e g r E K N 0 [] 0 0 0) (gx:=q) λn=>?_;refine Zu ?_;refine Z ?_;rw[j];exact⟨rfl,n,zr,zr⟩;cases h7;have e3:(k==3)=ab:=zu k3;rw[AA (λh=>k3 h.2)]at j;refine Ym e3 ?_;refine Xh rfl ?_;refine Zf @Y3 ?_;rw[j];exact⟨rfl,q,zr,zr⟩
def mZ(l b n m r):Us l b n (m+1) r=match Py l r.i with|none=>(ad,r)|some op=>if Lp op<n then(ad,r)else andThen (b (Lp op+1) r.adv) λa=>Us l b n m (a.put ⟨op,0,[],r.last,a.last,-1⟩):=rfl
def yY{l i}:((Yj l i).AD=0\/(Ds (Yj l i).BG 2).2=ab->Py l i=ah)/\((Yj l i).AD≠0->(Ds (Yj l i).BG 2).2=ad->Py l i=ae (Ds (Yj l i).BG 2).1):=by
 unfold Py Ds;constructor;rintro(h|h);rw[AF h];split;rfl
 .rcases a:Dt _ 2 with _|op;rfl;rw[a]at h;cases h
 .intro h h2;rw[AA h];rcases a:Dt _ 2 with _|op;rw[a]at h2;cases h2;rfl
def ACZ(t p):(Ds t p).1<23:=by unfold Ds;split;rename_i h;exact jl h;decide
def wc(G)(hE:CR G)(d)(hT:FJ d.l)(g):∀ f (n:Int) r,1<=n->n<=9->d.l.length<f+r.i->R9 d.l r ->
  RdS 1031 [.func (.func 250) [] []] G 250 [n] d g r (.bool (Yv d.l f n r).1) (Yv d.l f n r).2:=by
 have w:=hE.ok;have hTl:=hT.len;intro f
 induction f with|zero=>intro n r _ _ hf hr;have:=hr.1;omega|succ f ih=>
 intro n r hn1 hn9 hf hr gx;have hin:∀ i0,r.i<=i0->YF G d g _ i0:=λi0 hi0 n' r' h1 B hi hr'=>ih n' r' h1 B zo hr';have L:=Vv d.l f;have e:Yv _ (f+1) n r=andThen (Ti d.l (Yv d.l f) r) (Us d.l (Yv d.l f) n (aa d.l+1)):=rfl;generalize Yv d.l (f+1) n r=P at e⊢;refine Zo 1000 65 [.tmp 4] func250 λX=>?_;have D:=xP G hE d hT g r hr _ (hin r.i ql) L;have E:=L0 L r;generalize Ti d.l (Yv d.l f) r=y at e D E;obtain⟨b,q0⟩:=y;simp only at D E;refine Z1 ?_;refine Zz ?_;cases b with|false=>rw[Xq]at e;refine Z1 ?_;refine Yn w (D) λO=>?_;refine Zu ?_;refine Zi rfl (λh2=>?_) (λh2=>?_);refine Z ?_;rw[e];exact⟨rfl,O,zr,zr⟩;cases h2|true=>
 rw[Y7]at e;have hq0:=E.ok hr;refine Z1 ?_;refine Yn w (D) λO=>?_;refine Zu ?_;refine Z1 ?_;refine Zn w ?_ (s:=(Kp G w));refine Xc (j3 @XY @XZ @BO) ?_;intro g5;rw[Dc _ ?hl]
 case hl=>rfl
 refine BK ?_;refine Xw [0,1,5] [1005] (fun x=>[]) (λx=>[(8,C9 1031 [.func (.func 250) [] []] d g x.1 x.2.2),(1031,Dw x.1 x.2.2.BS)]) (λx=>P=Us d.l (Yv d.l f) n x.2.1 x.2.2/\R9 d.l x.2.2/\r.i<=x.2.2.i/\aa d.l<x.2.1+x.2.2.i) (λx=>x.2.1) (O,aa d.l+1,q0) ⟨e,hq0,E.up,Nat.lt_add_right _ (GH _)⟩ zp zp ?_
 try clear e
 rintro⟨gy,m,q⟩ ⟨e,F,T,hm⟩ L3 hL3;replace e:P=Us d.l (Yv d.l f) n m q:=e;replace F:R9 d.l q:=F;replace T:r.i<=q.i:=T;replace hm:aa d.l<m+q.i:=hm;obtain⟨m,rfl⟩:∃ m',m=m'+1:=⟨m-1,by have:=F.1;omega⟩;have hqI:q.i<1000000:=by have:=F.1;omega
 have hqn:aa q.BS<1000000:=by have:=F.1;have:=F.2;omega
 rw[mZ]at e;have v:=yY (l:=d.l) (i:=q.i);have j:=ACZ (Yj d.l q.i).BG 2;have R:=Dv hT q.i;have I:∀ u,Py d.l q.i=ae u->1<=Lp u/\Lp u<=8:=λu h=>by have:=YE h;exact⟨this.2.2.1,this.2.2.2⟩
 have H:∀ u,Py d.l q.i=ae u->q.i<aa d.l:=λu h=>Ij h;refine Z1 ?_;refine Yn w (Hl G hE d hT g q hqI) (gx:=gy) λgz=>?_;refine Zu ?_;refine Xc @Wd ?_;intro g6;generalize Py d.l q.i=oa at e v I H;generalize Yj d.l q.i=t at v j R⊢;obtain⟨k,t,p⟩:=t;simp only at v j R;refine Z1 ?_;refine Zn w ?_ (s:=(Az G w t 2));generalize Ds t 2=o2 at v j⊢;obtain⟨u,ok⟩:=o2;simp only at v j;refine Xc @encOf.eq_1 ?_;have hlv:=mN u j;have U:(u:Int)<23:=zo;refine Ym (j4 U @DS hlv @EE) ?_;refine Zz ?_;cases ok with|false=>rw[v.1 (.inr rfl)]at e;refine Z1 ?_;refine Zi rfl (λB=>?_) (λB=>?_);refine Z ?_;rw[e];exact⟨rfl,gz,zr,zr⟩;cases B|true=>
 by_cases hk:k=0;have e1:(k==0)=ad:=zu hk;rw[v.1 (.inl hk)]at e;refine Ym e1 ?_;refine Zi rfl (λB=>?_) (λB=>?_);refine Z ?_;rw[e];exact⟨rfl,gz,zr,zr⟩;cases B;have e1:(k==0)=ab:=zu hk;have K:=v.2 hk rfl;rw[K]at e;simp only at e;obtain⟨hl1,hl8⟩:=I u K;have hil:=H u K;generalize Lp u=lv at e hl1 hl8⊢;by_cases C:lv<n;have e2:decide (lv<n)=ad:=zu C;rw[AF C]at e;refine Ym (zi e1 e2) ?_;refine Zi rfl (λB=>?_) (λB=>?_);refine Z ?_;rw[e];exact⟨rfl,gz,zr,zr⟩;cases B;have e2:decide (lv<n)=ab:=zu C;rw[AA C]at e;refine Ym (zi e1 e2) ?_;refine Z0 ?_;have hw:qN ((q.i:Int)+1)=((q.i+1:Nat):Int):=by rw[Xi zo zo];omega
 have Q:=wQ (lv+1);have J:R9 d.l q.adv:=(K_ hil).ok F;have hc:=ih (lv+1) q.adv zo zo (by show aa d.l<f+(q.i+1);omega) J;have A:=L (lv+1) q.adv;generalize Yv d.l f (lv+1) q.adv=z at e hc A;obtain⟨b,a⟩:=z;simp only at hc A;have ha:=A.ok J;have haup:q.i+1<=a.i:=A.up;have W:aa a.BS<1000000:=by have:=ha.1;have:=ha.2;omega
 refine Z1 ?_;refine Yn w (Mx G w d g q hqn) (gx:=gz) λgz1=>?_;refine Zu ?_;refine Ym (zi @Y3 hw) ?_;refine Zz ?_;cases b;rw[Xq]at e;refine Ym (zi @Y3 Q) ?_;refine Yn w (hc) (gx:=gz1) λN=>?_;refine Zu ?_;refine Zi rfl (λY=>?_) (λY=>?_);refine Z ?_;rw[e];exact⟨rfl,N,zr,zr⟩;cases Y;rw[Y7]at e;refine Ym (zi @Y3 Q) ?_;refine Yn w (hc) (gx:=gz1) λN=>?_;refine Zu ?_;refine Z1 ?_;refine Yn w (Mx G w d g a W) (gx:=N) λM=>?_;refine Zu ?_;intro g63;refine Vb (λo=>o==1063) [.ptr 8 g 0,Y9 ⟨u,0,[],0,0,0⟩,.slice .new ab 1 [q.last,a.last]] [(8,C9 1031 [.func (.func 250) [] []] d g M a),(1031,Dw M a.BS),(1005,qC g5 0 GP)] ⟨Zd,Zd,?_,AJ⟩ ?_ ?_;exact Xm (f:=V.int .i64) (l:=[q.last,a.last]) rfl zp BE;simp only[Z2,Z5,CE];exact⟨CQ rfl zp,CQ rfl zp,CQ rfl zp⟩;refine Yn w (J6 G w d g a W ⟨u,0,[],0,0,0⟩ .old (.mk ab [q.last,a.last]) (LK rfl)) (gx:=M) λgz4=>?_;refine Zu ?_;have S:R9 d.l (a.put ⟨u,0,[],q.last,a.last,-1⟩):=⟨ha.1,by have h1:=A.GK;have h2:=F.2;show aa (a.BS++[_])<=a.i;rw[BQ,JI];have h3:aa a.BS+(q.i+1)+0<=aa q.BS+a.i:=h1;omega⟩
 refine hL3 _ ⟨(gz4,m,a.put ⟨u,0,[],q.last,a.last,-1⟩),GH _,⟨e,S,?_,?_⟩,AO zp (by refine Zs ?_;exact⟨rfl,rfl⟩)⟩;show r.i<=a.i;omega;show aa d.l<m+a.i;omega
def Wl(rec:Int->Int)(has:Bool)(place last:Int):Option Int:=
 if has=ab then(if place ≠ -1 then ah else ae last)
 else if place≠last then ah else if rec last<0 then ah else ae (rec last-1)
def Jg(l:List XN)(i:Int):Option XN:=if i<0 then ah else l[i.toNat]?
def begR(l:List XN):Nat->Int->Int
 |0,_ => -1
 |f+1,i=>match Jg l i with
  |none => -1
  |some n=>bif Tm n then
   match Wl (begR l f) (aT 2 (Z7 n.op)) n.c (i-1)with|none => -1|some l2=>match Wl (begR l f) (aT 1 (Z7 n.op)) n.b l2 with|none => -1|some l1=>match Wl (begR l f) (aT 0 (Z7 n.op)) n.a l1 with|none => -1|some l0=>l0+1
   else -1
def rH(l):∀ f i,-1<=begR l f i
 |0,_=>by simp[begR]|f+1,i=>by
  have d:∀ b a last q,Wl (begR l f) b a last=ae q->q=last \/ -1<=q:=by intro b a last q h;unfold Wl at h;grind
  rw[begR];rcases c:Jg l i with _|n;simp;simp only;have e:0<=i:=by unfold Jg at c;grind
  grind
def At(l:List XN)(x:X)(b:Nat):Prop:=∃ pre post,l=pre++x.row b++post/\aa pre=b
def X.row_top:∀ (x:X) k,∃ body,x.row k=body++[x.top k]/\aa body+1=x.size
 |.leaf op _ _,k=>⟨[],rfl,rfl⟩|.un op a,k=>⟨a.row k,rfl,by rw[X.row_len];rfl⟩|.DP op a b,k=>⟨a.row k++b.row _,rfl,by rw[BQ,X.row_len,X.row_len];rfl⟩|.ite a b c,k=>⟨a.row k++b.row _++c.row _,rfl,by rw[BQ,BQ,X.row_len,X.row_len,X.row_len];rfl⟩
def At.top{l x b}(h:At l x b):Jg l ((b:Int)+x.size-1)=ae (x.top b):=by
 obtain⟨pre,a,rfl,c⟩:=h;have⟨body,d,h2⟩:=x.row_top b;unfold Jg;rw[AA (by omega)];have:((b:Int)+x.size-1).toNat=aa (pre++body):=by rw[BQ];omega
 simp_all
def At.get{l x b}(h:At l x b):l[b+x.size-1]?=ae (x.top b):=by have:=h.top;unfold Jg at this;have a:=x.size_pos;rw[AA (by omega)]at this;rw[<- this];congr 1;omega
def At.un{l op a b}(h:At l (.un op a) b):At l a b:=by obtain⟨pre,c,rfl,d⟩:=h;exact⟨pre,_,by simp only[X.row,DH];rfl,d⟩
def At.DP{l op x y b}(h:At l (.DP op x y) b):At l x b/\At l y (b+x.size):=by obtain⟨pre,a,rfl,c⟩:=h;refine⟨⟨pre,y.row _++[X.top (.DP op x y) b]++a,by simp only[X.row,DH];rfl,c⟩,⟨pre++x.row b,[X.top (.DP op x y) b]++a,?_,by rw[BQ,X.row_len,c]⟩⟩;simp only[X.row,DH];rfl
def At.ite{l x y z b}(h:At l (.ite x y z) b):At l x b/\At l y (b+x.size)/\At l z (b+x.size+y.size):=by
 obtain⟨pre,a,rfl,c⟩:=h;refine⟨⟨pre,y.row _++z.row _++[X.top (.ite x y z) b]++a,by simp only[X.row,DH];rfl,c⟩,⟨pre++x.row b,z.row (b+x.size+y.size)++[X.top (.ite x y z) b]++a,?_,by rw[BQ,X.row_len,c]⟩,⟨pre++x.row b++y.row (b+x.size),[X.top (.ite x y z) b]++a,?_,by rw[BQ,BQ,X.row_len,X.row_len,c]⟩⟩
 all_goals(· simp only[X.row,DH];rfl)
def Gj(a last):Wl a ab (-1) last=ae last:=rfl
def Rg{a last}(h:0<=a last):Wl a ad last last=ae (a last-1):=by unfold Wl;grind
def Lx:∀ x l b f,x.ok=ad->At l x b->x.size<=f->begR l f ((b:Int)+x.size-1)=b
 |.leaf op _ _,l,b,f,hok,h,hf=>by
  unfold X.ok at hok;simp only[BP,CM]at hok;obtain⟨f,rfl⟩:∃ f',f=f'+1:=⟨f-1,by simp only[X.size]at hf;omega⟩;rw[begR,h.top];simp only[X.top];have g:Z7 op=0:=by unfold Z7;rw[AF hok.2]
  rw[hok.1,g,MX];simp only[show aT 2 0=ab from rfl,show aT 1 0=ab from rfl,show aT 0 0=ab from rfl,Gj,X.size];omega
 |.un op a,l,b,f,hok,h,hf=>by
  unfold X.ok at hok;simp only[BP,CM]at hok;simp only[X.size]at hf;obtain⟨f,rfl⟩:∃ f',f=f'+1:=⟨f-1,by omega⟩;have k:=Lx a l b f hok.2 h.un (by omega);rw[begR,h.top];simp only[X.top];have g:Z7 op=1:=by unfold Z7;rw[AA (by omega),AF (by omega)]
  rw[Pv (by omega),g,MX];have e:(b:Int)+(X.un op a).size-1-1=b+a.size-1:=by simp only[X.size];omega
  simp only[show aT 2 1=ab from rfl,show aT 1 1=ab from rfl,show aT 0 1=ad from rfl,Gj,e];rw[Rg (by rw[k];omega),k];simp
 |.DP op x y,l,b,f,hok,h,hf=>by
  unfold X.ok at hok;simp only[BP,CM]at hok;simp only[X.size]at hf;obtain⟨f,rfl⟩:∃ f',f=f'+1:=⟨f-1,by omega⟩;have d:=Lx x l b f hok.1.2 h.DP.1 (by omega);have c:=Lx y l (b+x.size) f hok.2 h.DP.2 (by omega);rw[begR,h.top];simp only[X.top];have g:Z7 op=2:=by unfold Z7;rw[AA (by omega),AA (by omega),AF (by omega)]
  rw[Pv (by omega),g,MX];have e:(b:Int)+(X.DP op x y).size-1-1=b+x.size+y.size-1:=by simp only[X.size];omega
  have j:((b+x.size:Nat):Int)=b+x.size:=zo;rw[j]at c;simp only[show aT 2 2=ab from rfl,show aT 1 2=ad from rfl,show aT 0 2=ad from rfl,Gj,e];rw[Rg (by rw[c];omega),c];simp only;rw[Rg (by rw[d];omega),d];simp
 |.ite x y z,l,b,f,hok,h,hf=>by
  unfold X.ok at hok;simp only[BP]at hok;simp only[X.size]at hf;obtain⟨f,rfl⟩:∃ f',f=f'+1:=⟨f-1,by omega⟩;have d:=Lx x l b f hok.1.1 h.ite.1 (by omega);have c:=Lx y l (b+x.size) f hok.1.2 h.ite.2.1 (by omega);have i:=Lx z l (b+x.size+y.size) f hok.2 h.ite.2.2 (by omega);rw[begR,h.top];simp only[X.top];rw[Pv (by omega),show Z7 22=3 from rfl,MX];have e:(b:Int)+(X.ite x y z).size-1-1=b+x.size+y.size+z.size-1:=by simp only[X.size];omega
  have j:((b+x.size:Nat):Int)=b+x.size:=zo;have m:((b+x.size+y.size:Nat):Int)=b+x.size+y.size:=zo;rw[j]at c;rw[m]at i;simp only[show aT 2 3=ad from rfl,show aT 1 3=ad from rfl,show aT 0 3=ad from rfl,e];rw[Rg (by rw[i];omega),i];simp only;rw[Rg (by rw[c];omega),c];simp only;rw[Rg (by rw[d];omega),d];simp
def Vg{b c a last q}(h:Wl b c a last=ae q):c=ab/\a = -1/\q=last\/c=ad/\a=last/\0<=b last/\q=b last-1:=by unfold Wl at h;grind
def At.glue{l x b}(h:At l x b):∃ pre,l.take (b+x.size)=pre++x.row b/\pre.length=b:=by obtain⟨pre,a,rfl,c⟩:=h;refine⟨pre,?_,c⟩;rw[NR (by rw[BQ,X.row_len];omega),HY (by rw[BQ,X.row_len];omega)]
def Kb{l x b pre}(h:l.take (b+x.size)=pre++x.row b)(a:pre.length=b):At l x b:=
 ⟨pre,l.drop _,by rw[<- h,HX],a⟩
def vK{l i n}(h:Jg l i=ae n):0<=i/\l[i.toNat]?=ae n/\i.toNat<l.length:=by unfold Jg at h;grind
def Rh(l):∀ f i,0<=begR l f i->∃ (x:X) (b:Nat),x.ok=ad/\At l x b/\begR l f i=b/\(b:Int)+x.size=i+1
 |0,i,h=>by simp[begR]at h|f+1,i,h=>by
  rw[begR]at h⊢;rcases W:Jg l i with _|n;rw[W]at h;simp at h;rw[W]at h;have⟨hi,hg,hlt⟩:=vK W;simp only at h⊢;cases J:Tm n with|false=>rw[J]at h;simp at h|true=>
  rw[J,MX]at h;rw[MX];have S:=Oa J;have u:l.take (i.toNat+1)=l.take i.toNat++[n]:=by rw[IZ,hg];rfl
  cases h2:Wl _ _ _ (i-1)with|none=>rw[h2]at h;simp at h|some l2=>
  rw[h2]at h;simp only at h⊢;cases p:Wl (begR l f) (aT 1 (Z7 n.op)) n.b l2 with|none=>rw[p]at h;simp at h|some l1=>
  rw[p]at h;simp only at h⊢;cases o:Wl (begR l f) (aT 0 (Z7 n.op)) n.a l1 with|none=>rw[o]at h;simp at h|some l0=>
  rw[o]at h;simp only at h⊢;have⟨k,R,I,a,b,c⟩:=n;simp only at h2 p o S;by_cases O:k<=4
  .have D:Z7 k=0:=by unfold Z7;rw[AF O]
   rw[D]at h2 p o;obtain⟨_,rfl,rfl⟩|⟨d,_⟩:=Vg h2
   rotate_left;exact absurd d zd
   obtain⟨_,rfl,rfl⟩|⟨d,_⟩:=Vg p
   rotate_left;exact absurd d zd
   obtain⟨_,rfl,rfl⟩|⟨d,_⟩:=Vg o
   rotate_left;exact absurd d zd;refine⟨.leaf k R I,i.toNat,by unfold X.ok;rw[J];simp;omega,Kb (by rw[X.size,u];rfl) (by rw[CZ];omega),by omega,by simp only[X.size];omega⟩
  have K:=jT J (show k≠1 by omega);simp only at K;obtain⟨rfl,V,_⟩:=K;obtain rfl:=V (by omega);by_cases Y:k<=6
  .have D:Z7 k=1:=by unfold Z7;rw[AA O,AF Y]
   rw[D]at h2 p o;obtain⟨_,rfl,rfl⟩|⟨d,_⟩:=Vg h2
   rotate_left;exact absurd d zd
   obtain⟨_,rfl,rfl⟩|⟨d,_⟩:=Vg p
   rotate_left;exact absurd d zd
   obtain⟨d,_⟩|⟨_,rfl,hr,rfl⟩:=Vg o;exact absurd d zd;have⟨x,m,q,t,P,s1⟩:=Rh l f _ hr;have⟨pre,g1,g2⟩:=t.glue;refine⟨.un k x,m,by unfold X.ok;rw[q];simp;omega,Kb ?_ g2,by omega,by simp only[X.size];omega⟩;rw[show m+(X.un k x).size=i.toNat+1 by simp only[X.size];omega,u,show i.toNat=m+x.size by omega,g1,X.row,DH];congr 4;omega
  by_cases L:k<=21
  .have D:Z7 k=2:=by unfold Z7;rw[AA O,AA Y,AF L]
   rw[D]at h2 p o;obtain⟨_,rfl,rfl⟩|⟨d,_⟩:=Vg h2
   rotate_left;exact absurd d zd
   obtain⟨d,_⟩|⟨_,rfl,B,rfl⟩:=Vg p;exact absurd d zd;obtain⟨d,_⟩|⟨_,rfl,v,rfl⟩:=Vg o;exact absurd d zd;have⟨y,e,q,t,P,s1⟩:=Rh l f _ B;rw[P]at v o h⊢;have⟨x,m,A,H,e0,s0⟩:=Rh l f _ v;have⟨g,r,E⟩:=t.glue;have⟨j,G,F⟩:=H.glue;have s:e=m+x.size:=zo;have C:g=j++x.row m:=by
    have:(l.take (e+y.size)).take e=g:=by rw[r,WI E]
    rw[<- this,OZ,MJ (by omega),s,G]
   refine⟨.DP k x y,m,by unfold X.ok;rw[q,A];simp;omega,Kb ?_ F,by omega,by simp only[X.size];omega⟩;rw[show m+(X.DP k x y).size=i.toNat+1 by simp only[X.size];omega,u,show i.toNat=e+y.size by omega,r,C,X.row,s];simp only[DH];congr 5<;>omega
  have D:Z7 k=3:=by unfold Z7;rw[AA O,AA Y,AA L]
  obtain rfl:k=22:=zo;rw[D]at h2 p o;obtain⟨d,_⟩|⟨_,rfl,T,rfl⟩:=Vg h2;exact absurd d zd;have⟨z,N,Q,at2,e2,s2⟩:=Rh l f _ T;rw[e2]at p;obtain⟨d,_⟩|⟨_,rfl,B,rfl⟩:=Vg p;exact absurd d zd;have⟨y,e,q,t,P,s1⟩:=Rh l f _ B;rw[P]at o;obtain⟨d,_⟩|⟨_,rfl,v,rfl⟩:=Vg o;exact absurd d zd;have⟨x,m,A,H,e0,s0⟩:=Rh l f _ v;have⟨w,M,gz2⟩:=at2.glue;have⟨g,r,E⟩:=t.glue;have⟨j,G,F⟩:=H.glue;have s:e=m+x.size:=zo;have ebz:N=m+x.size+y.size:=zo;have C:g=j++x.row m:=by
   have:(l.take (e+y.size)).take e=g:=by rw[r,WI E]
   rw[<- this,OZ,MJ (by omega),s,G]
  have U:w=g++y.row e:=by
   have:(l.take (N+z.size)).take N=w:=by rw[M,WI gz2]
   rw[<- this,OZ,MJ (by omega),show N=e+y.size by omega,r]
  refine⟨.ite x y z,m,by unfold X.ok;rw[Q,q,A];rfl,Kb ?_ F,by omega,by simp only[X.size];omega⟩;rw[show m+(X.ite x y z).size=i.toNat+1 by simp only[X.size];omega,u,show i.toNat=N+z.size by omega,M,U,C,X.row,ebz,s];simp only[DH];congr 6<;>omega
def QV(l:List XN):Bool:=begR l (aa l) ((aa l:Int)-1)==0
def E2(x):At (x.row 0) x 0:=⟨[],[],by simp,rfl⟩
def kc{l}:QV l=ad↔∃ x:X,x.ok=ad/\l=x.row 0:=by
 unfold QV;rw[CX];constructor;intro h;have⟨x,b,i,h2,g,e⟩:=Rh l (aa l) ((aa l:Int)-1) (by omega);obtain rfl:b=0:=zo;obtain⟨pre,a,rfl,d⟩:=h2;obtain rfl:=GL.1 d;have f:aa a=0:=by simp only[BQ,X.row_len]at e;omega
 grind;rintro⟨x,c,rfl⟩;have:=Lx x _ 0 (aa (x.row 0)) c (E2 x) (by rw[X.row_len];grind);rw[X.row_len]at this⊢;grind
def C4(l):QV l=decide (Wg l≠0):=by rw[FW,kc,OH];constructor;rintro⟨x,a,rfl⟩;rw[fq a];have:=x.depth_pos;omega;exact Gf
open Go.Proofs
set_option maxRecDepth 10000
def ye(G)(n:Yy G)(p o)(a b:Sl Int)(ha:a.l.length<1000000000):Spec () G 273 [Za p 1 () a,Za o 1 () b] Zm (λv _=>v=.bool (a.l==b.l)):=by
 refine Zo 0 26 _ func273 λX=>?_;refine Z1 ?_;refine Z1 ?_;refine Zi rfl (λh2=>?_) (λh2=>?_);refine Z ?_;simp at h2⊢;intro e;rw[e]at h2;exact h2 rfl;refine Z0 ?_;have m:aa a.l=aa b.l:=by simp at h2;omega
 refine Z1 ?_;refine BK ?_;refine Z8 [0,1,12] [] (aa a.l) (λk  _=>[(13,k)]) (λ_ _=>[]) (λk _=>a.l.take k=b.l.take k) 0 () qz zS (by simp -implicitDefEqProofs only[go_sem,seval];try simp) zp ?_;intro k _ q g r h;refine Z1 ?_;refine Zz ?_;refine Zi rfl (λi=>?_) (λi=>?_);refine Z0 ?_;have c:=zu i;have d:k<aa b.l:=zo;refine Z1 ?_;refine Zz<|Zv ⟨λ_=>.top,λ_=>.pure⟩ zk n zk zk ?_;simp -implicitDefEqProofs only[go_sem,seval,AY c,AY d];refine Zi rfl (λf=>?_) (λf=>?_);refine Z ?_;simp at f;simp;intro e;simp[e]at f;refine Z0 ?_;have j:=zu f;refine Z1 ?_;refine h _ ⟨c,(),?_,AO (by refine Zs ?_;simp;exact Xi zo zo) zp⟩;rw[DO c,DO d,g,j];refine Z0 ?_;have c:k=aa a.l:=by simp at i;omega
 refine Z ?_;subst c;rw[B_,m,B_]at g;simp[g]
def um(G)(t:CR G)(n)(w:n.name.length<100000):Spec () G 272 [Y9 n] Zm (Tm n):=by
 have x:=t.ok;refine Zo 0 43 [.tmp 2] func272 λX=>?_;have i:Tm n=if n.op<1\/n.op>22\/n.num<0 then ab else if n.op=2 then n.num==0&&Tc _==2 else n.name==[]&&(n.op==1||n.num==0):=rfl;obtain⟨g,e,f,a,b,c⟩:=n;simp only at w i;simp only[X7];refine Zk λK d=>CA zk ?_;refine Zs ?_;intro p;refine d _ ?_
 try clear d K
 refine Yt (fun(_:Unit)=>st [(1,.ptr 1 p 0)] [(1,qC p 0 [.int .u8 g,e,f,a,b,c])]) (λ_=>¬(g<1\/g>22\/e<0)/\g≠2) (λy q=>?_) ?_;refine BK ?_;by_cases k:g<1\/g>22\/e<0
 .rw[AF k]at i;have u:∀ K:AS->Prop,(K (st [(1,.ptr 1 p 0),(3,ad)] [(1,qC p 0 [.int .u8 g,e,f,a,b,c])]))->True:=λ_ _=>trivial;cases m:decide (g<1)<;>cases h2:decide (g>22)<;>cases l:decide (e<0);simp only[IL]at m h2 l;rcases k with h|h|h;exact absurd h m;exact absurd h h2;exact absurd h l
  all_goals
   (refine Zk λK d=>CA zk ?_;simp -implicitDefEqProofs only[go_sem,seval,m,h2,l];refine d _ ?_;clear d K)
   refine Zi zp (λ_=>?_) (λh=>by cases h)
   (refine Zk λK d=>CA zk ?_;refine Zs ?_;refine d _ ?_;clear d K)
   (refine FU ?_;refine Zs ?_;refine Yk ?_)
   rw[i]
 .have m:decide (g<1)=ab:=by rw[IL];exact λh=>k (.inl h)
  have h2:decide (g>22)=ab:=by rw[IL];exact λh=>k (.inr (.inl h))
  have l:decide (e<0)=ab:=by rw[IL];exact λh=>k (.inr (.inr h))
  rw[AA k]at i;refine Zk λK d=>CA zk ?_;refine Xc (j3 m h2 l) ?_;refine d _ ?_
  try clear d K
  refine Xh rfl ?_
  try clear h4
  refine Zk λK d=>CA zk ?_;refine Zs ?_;refine d _ ?_
  try clear d K
  refine Zi rfl (λj=>?_) (λj=>?_)
  .have j:=zu j;rw[AF j]at i;cases o:(e==0);refine Zk λK d=>CA zk ?_;refine Xc o ?_;refine d _ ?_
   try clear d K
   refine Z ?_;rw[i,o]<;>rfl;refine Zk λK d=>CA zk ?_;refine Xc o ?_;refine Zc x ?_ (s:=(Pb G t f zo));refine d _ ?_
   try clear d K
   refine Z ?_;rw[i,o,DJ];generalize Tc f=z;cases r:(z==2);have:((z:Int)==2)=ab:=by rw[FD]at r⊢;omega
   rw[this];have:((z:Int)==2)=ad:=by rw[CX]at r⊢;omega
   rw[this]
  have j:=zu j;refine Z0 ?_;exact q _ () ⟨k,j⟩ qs
 rintro _ ⟨k,j⟩;rw[AA k,AA j]at i;cases m:(f==[])<;>cases h2:(g==1)<;>cases l:(e==0)<;>((refine Zk λK d=>CA zk ?_;simp -implicitDefEqProofs only[go_sem,seval,m,h2,l];refine d _ ?_;clear d K);(refine FU ?_;refine Zs ?_;refine Yk ?_);rw[i,m,h2,l]<;>rfl)
def Sv(p:Int×Int):V:=.agg [qI p.1,qI p.2]
def Jt(p):(Sv p).cells.length=2:=rfl
def AAi{l:List XN}{k n}(h:l[k]?=ae n)(i a):Ug (l.drop k) i a=match U3 i n a with|some o=>Ug (l.drop (k+1)) (i+1) o|none=>ah:=by have⟨b,h2⟩:=DG.1 h;rw[FL b,h2]<;>rfl
def oU{op}(a:1<=op)(h2:op<=22):GP[op.toNat*3+2]?=ae (qI (Z7 op:Nat)):=by
 obtain⟨n,rfl⟩:∃ n:Nat,op=n:=⟨op.toNat,zo⟩;rw[GZ,fM n zo 2 zd];have:∀ n,n<23->1<=n->(tabL.getD n ⟨[],0,0⟩).CC=(Z7 n:Nat):=by decide +kernel
 rw[<- this n zo zo]<;>rfl
def dU:∀ (l:List (Int×Int)) i x,l[i]?=ae x->((flat (l.map Sv)).drop (i*2)).take 2=[qI x.1,qI x.2]
 |[],i,x,h=>by simp at h|y::r,0,x,h=>by have:=zu h;subst this;rfl
 |y::r,i+1,x,h=>by have a:=dU r i x (zu h);rw[<- a,BI];have:flat (Sv y::r.map Sv)=qI _::qI _::flat _:=rfl;rw[this,show(i+1)*2=i*2+1+1 by omega,TG,TG]
def L_(l:List (Int×Int)):List V:=(Vh l).map ()
def wZ:∀ (l:List (Int×Int)) j x,l[j]?=ae x->j<3->Hs.setAt (L_ (l.take j)) j [qI x.1]=L_ (l.take (j+1)):=by
 intro l j x h d
 match l,j,h,d with|a::r,0,h,_=>have:=zu h;subst this;rfl|a::b::r,1,h,_=>have:=zu h;subst this;rfl|a::b::c::r,2,h,_=>have:=zu h;subst this;rfl
def AAs(l:List (Int×Int))(j x)(h:l[j]?=ae x):Vo (l.take (j+1))=max (Vo (l.take j)) x.2:=by unfold Vo;rw[IZ,h,KI]<;>rfl
def xL(l):(L_ l).length=3:=rfl
def qG(op):Z7 op<=3:=by unfold Z7;split;omega;split;omega;split<;>omega
def ABK{l k}(e:0<=k)(h:∀ y∈l,(0:Int)<=y.2/\y.2<=k):0<=Vo l/\Vo l<=k:=by
 have:∀ (l:List (Int×Int)) (d),0<=d->d<=k->(∀ y∈l,(0:Int)<=y.2/\y.2<=k)->0<=l.foldl (λd p=>max d p.2) d/\l.foldl (λd p=>max d p.2) d<=k:=by
  intro l
  induction l with|nil=>intro d b h2 _;exact⟨b,h2⟩|cons y r ih=>intro d b h2 a;have:=a y zS;exact ih (max d y.2) zo zo λz c=>a z (by simp[c])
 exact this l 0 (TD _) e h
def x_(l:List (Int×Int))(n):(flat (l.map Sv)).take (n*2)=flat ((l.take n).map Sv):=by induction l generalizing n with|nil=>simp[flat]|cons y r ih=>rcases n with _|n;simp[flat];have e:flat ((y::r).map Sv)=qI _::qI _::flat _:=rfl;rw[e,HC,BI,show(n+1)*2=n*2+1+1 by omega,HC,HC,ih]<;>rfl
def Ct(G)(hE:CR G)(c s)(hs:s.l.length<1000000)(hnm:∀ n∈s.l,n.name.length<100000):Spec () G 251 [.agg [Za c 6 Y9 s]] Zm (Wg s.l):=by
 have Y:=hE.ok;refine Zo 0 81 [.tmp 2] func251 λX=>?_;have O:Wg s.l=match Ug s.l 0 []with|some [x]=>x.2|_=>0:=rfl
 have B:Ug s.l 0 []=ah->Wg s.l=0:=λh=>by rw[O,h]
 refine Z1 ?_;intro g1;refine Z1 ?_;refine Zn Y ?_ (s:=(Kp G Y));refine Xc (j3 @XY @XZ @BO) ?_;intro F;rw[Dc _ ?hl]
 case hl=>rfl
 refine Z1 ?_;refine Z1 ?_;refine BK ?_;refine Wy (aa s.l) (λk (x:Nat×List (Int×Int))=>st [(3,.ptr 3 F 0),(4,AZ 72 x.1 2 x.2),(14,Za c 6 Y9 s),(15,aa s.l),(16,k)] [(3,qC F 0 GP),(72,Z9 x.1 Sv x.2)])
  (λk x=>Ug s.l 0 []=Ug (s.l.drop k) k x.2/\aa x.2<=k/\∀ y∈x.2,(0:Int)<=y.2/\y.2<=k) 0 (0,[]) qz ⟨zS,BO _,zS⟩
  qs ?_
 rintro k ⟨z,d⟩ hk ⟨C,hol,N⟩ L2 hL2;replace C:Ug s.l 0 []=Ug (s.l.drop k) k d:=C;replace hol:aa d<=k:=hol;replace N:∀ y∈d,(0:Int)<=y.2/\y.2<=k:=N;refine Z1 ?_;refine Zz ?_;refine Zi rfl (λh4=>?_) (λh4=>?_)
 .have hk1:k<aa s.l:=zu h4;have hg:=AY hk1;have hnn:=hnm _ (BT hk1);generalize s.l[k]=n at hg hnn;rw[AAi hg]at C;refine Ym (zi hg @X7) ?_;intro L;refine Z1 ?_;rw[<- X7];refine Co @N0 Y ?_ (s:=(um G hE n hnn));have u:U3 k n d=if Tm n=ab then ah else if aa d<Z7 n.op then ah
   else if Vh (d.drop (aa d-Z7 n.op))≠[n.a,n.b,n.c]then ah
   else ae (d.take (aa d-Z7 n.op)++[((k:Int),Vo (d.drop (aa d-Z7 n.op))+1)]):=rfl
  cases hw:Tm n with|false=>rw[AF hw]at u;rw[u]at C;refine Zi rfl (λR=>?_) (λR=>?_);refine Z ?_;rw[B C];cases R|true=>
  rw[AA (by rw[hw];simp)]at u;refine Z0 ?_;have hrg:=Oa hw;have hpt:=oU hrg.1 hrg.2;have hp3:Z7 n.op<=3:=qG _;generalize hpd:Z7 n.op=p at u hpt hp3;have hop0:(0:Int)<=n.op:=zo;have S:n.op<23:=zo;have hsub:=wQ ((aa d:Int)-(p:Int));refine Ym (j5 hop0 S hpt hsub @EE) ?_;refine Zz ?_;by_cases hlt:aa d<p;have e1:=zU ((aa d:Int)-p<0);rw[AF hlt]at u;rw[u]at C;refine Ym e1 ?_;refine Zi rfl (λh9=>?_) (λh9=>?_);refine Z ?_;rw[B C];cases h9;have e1:=zV ((aa d:Int)-p<0);rw[AA hlt]at u;refine Ym e1 ?_;refine Z0 ?_;obtain⟨q,hkk⟩:∃ q:Nat,q=aa d-p:=⟨_,rfl⟩;rw[<- hkk]at u;have hkd:(aa d:Int)-p=(q:Int):=zo;rw[hkd];refine Z1 ?_;intro w;have T:q+p=aa d:=zo;refine Yt (fun(_:Unit)=>st [(3,.ptr 3 F 0),(4,AZ 72 z 2 d),(5,k),(6,.ptr 6 L 0),(7,q),(8,.A_ 34 w 0 3 1),(9,(Vo (d.drop q))),(14,Za c 6 Y9 s),(15,aa s.l),(16,k)]
    [(3,qC F 0 GP),(72,Z9 z Sv d),(6,qC L 0 [.int .u8 n.op,n.num,n.name,n.a,n.b,n.c]),(34,qC w 0 (L_ (d.drop q)))])
   (λ_=>True) (λK10 E=>?_) ?_
  by_cases hp0:p=0;have hdn:d.drop q=[]:=HT zo;rw[hdn]at E;subst hp0;have A:q<=aa d:=zo;have hnlt:¬q<aa d:=zo;by_cases t:d=[];subst t;have I:q=0:=zu T;subst I;refine Wo zk ?_;simp -implicitDefEqProofs only[go_sem,seval,Qo,U1];refine BK ?_;refine Wy 0 (λj (_:Unit)=>st [(3,.ptr 3 F 0),(5,k),(4,.AG),(6,.ptr 6 L 0),(7,qI (0:Nat)),(8,.A_ 34 w 0 3 1),(9,qI 0),(14,Za c 6 Y9 s),(15,aa s.l),(16,k),(38,qI 0),(39,j)]
    [(3,qC F 0 GP),(6,qC L 0 [.int .u8 n.op,n.num,n.name,n.a,n.b,n.c]),(34,qC w 0 (L_ []))])
   (λj _=>True) 0 () qz trivial qs ?_
  intro j _ hj _ L11 K;obtain rfl:j=0:=zo;refine Z1 ?_;refine Z0 ?_;refine Z0 ?_;exact E _ () trivial (AO (Vw @Qo) (Vw @U1));have I:¬q=0:=by intro h;have:aa d=0:=zo;exact t (GL.1 this)
  refine Wo zk ?_;simp -implicitDefEqProofs only[go_sem,seval,Xs 72 z 2 t,A,BO,I,hnlt];refine BK ?_;refine Wy 0 (λj (_:Unit)=>st [(3,.ptr 3 F 0),(4,AZ 72 z 2 d),(5,k),(6,.ptr 6 L 0),(7,q),(8,.A_ 34 w 0 3 1),(9,qI 0),(14,Za c 6 Y9 s),(15,aa s.l),(16,k),(38,qI 0),(39,j)]
    [(3,qC F 0 GP),(72,Z9 z Sv d),(6,qC L 0 [.int .u8 n.op,n.num,n.name,n.a,n.b,n.c]),(34,qC w 0 (L_ []))])
   (λj _=>True) 0 () qz trivial (AO (by refine Zs ?_;rw[Xs 72 z 2 t];try exact⟨rfl,rfl⟩) zp) ?_
  intro j _ hj _ L11 K;obtain rfl:j=0:=zo;refine Z1 ?_;refine Z0 ?_;refine Z0 ?_;exact E _ () trivial qs;have t:d≠[]:=by intro e;rw[e]at T;simp at T;omega
  have hsl:(if q=0 then V.A_ 72 z 0 (aa d) 2 else if q<aa d then V.A_ 72 z (q*2) (aa d-q) 2 else V.slice .any ab 2 [])=.A_ 72 z (q*2) p 2:=by by_cases h0:q=0;rw[AF h0];congr 1<;>omega;rw[AA h0,AF zo];congr 1;omega
  have A:q<=aa d:=zo;refine Wo zk ?_;simp -implicitDefEqProofs only[go_sem,seval,Xs 72 z 2 t,A,BO,hsl];refine BK ?_;refine Wy p (λj (_:Unit)=>st [(3,.ptr 3 F 0),(4,AZ 72 z 2 d),(5,k),(6,.ptr 6 L 0),(7,q),(8,.A_ 34 w 0 3 1),(9,(Vo ((d.drop q).take j))),(14,Za c 6 Y9 s),(15,aa s.l),(16,k),(37,.A_ 72 z (q*2) p 2),(38,p),(39,j)]
    [(3,qC F 0 GP),(72,Z9 z Sv d),(6,qC L 0 [.int .u8 n.op,n.num,n.name,n.a,n.b,n.c]),(34,qC w 0 (L_ ((d.drop q).take j)))])
   (λj _=>True) 0 () qz trivial
   (AO (by refine Zs ?_;rw[Xs 72 z 2 t];exact⟨rfl,rfl⟩) zp) ?_
  intro j _ hj _ L11 K;refine Z1 ?_;refine Zz ?_;refine Zi rfl (λW=>?_) (λW=>?_);have U:j<p:=zL W;refine Z0 ?_;refine Zz ?_;refine BK ?_;obtain⟨x,hx⟩:∃ x,d[q+j]?=ae x:=⟨_,AY zo⟩;have hxd:(d.drop q)[j]?=ae x:=by rw[QG];exact hx
  have hfp:=dU d (q+j) x hx;rw[show(q+j)*2=q*2+j*2 by omega]at hfp;have hfl:q*2+j*2+2<=aa (flat (d.map Sv)):=by rw[Ww (m:=2) Jt];omega
  have hps:=wZ (d.drop q) j x hxd zo;have hds:=AAs (d.drop q) j x hxd;have hpl:=xL ((d.drop q).take j);generalize L_ ((d.drop q).take j)=pc at hps hpl⊢;generalize Vo ((d.drop q).take j)=D at hds⊢;have hj3:(j:Int)<3:=zo;refine Wo zk ?_;simp -implicitDefEqProofs only[go_sem,seval,X2 z Sv t,hfp,hfl,U,GY];intro g11;refine BM (Z4 (λo=>o==11) (l:=[(3,.ptr 3 F 0),(4,AZ 72 z 2 d),(5,k),(6,.ptr 6 L 0),(7,q),(8,.A_ 34 w 0 3 1),(9,D),(10,j),(11,qW (.agg [qI x.1,qI x.2])),(14,Za c 6 Y9 s),(15,aa s.l),(16,k),(37,.A_ 72 z (q*2) p 2),(38,p),(39,j)])
   (m:=[(3,qC F 0 GP),(72,Z9 z Sv d),(6,qC L 0 [.int .u8 n.op,n.num,n.name,n.a,n.b,n.c]),(34,qC w 0 pc)]) ?_ ?_) ?_
  refine Zs ?_;refine⟨Zd,Zd,Zd,Zd,Zd,Zd,Zd,Zd,?_,Zd,Zd,Zd,Zd,Zd,Zd⟩;exact CS (v:=.agg [qI x.1,qI x.2]) (c:=.new) (fz:=0) rfl zp;simp only[Z2,Z5,CE];exact⟨CQ rfl zp,CQ rfl (by first|rfl|(rw[X2 z Sv t]<;>rfl)|(simp -implicitDefEqProofs only[go_sem,seval];try rfl)),CQ rfl zp,CQ rfl zp⟩;refine Zv ⟨λ_=>.top,λi=>if i=3 then .CO else if i=6 then .CO else .pure⟩ zk Y zk zk ?_;have hjl:j+1<=aa pc:=zo;have hset:pc.set j (qI x.1)=L_ ((d.drop q).take (j+1)):=hps;have hmx:(if x.2>D then x.2 else D)=max D x.2:=by rw[Int.max_def];split<;>split<;>omega
  simp -implicitDefEqProofs only[go_sem,seval,hj3,GV,CB,hjl,hset,hmx,<- hds];refine Z1 ?_;refine K _ ⟨U,(),AJ,AO zw zp⟩;have U:j=p:=by have:=zN W;omega
  have htk:(d.drop q).take j=d.drop q:=HY (by rw[EJ];omega);rw[htk];refine Z0 ?_;exact E _ () trivial qs;intro _ _;refine Zz ?_;have hpl:Vh (d.drop q)=[(Vh (d.drop q)).getD 0 0,(Vh (d.drop q)).getD 1 0,(Vh (d.drop q)).getD 2 0]:=rfl;refine Z1 ?_;intro g61;refine EZ Y [Za .old 1 (V.int .i64) (.mk ab (Vh (d.drop q))),Za .old 1 (V.int .i64) (.mk ab [n.a,n.b,n.c])] zk ⟨?_,?_,AJ⟩ ?_;exact LO (off:=0) (n:=3) (l:=Vh (d.drop q)) (f:=V.int .i64) (f':=V.int .i64) (g:=w) (fz:=0) (c:=.new) (by refine Zs ?_;exact BU (BL.cells AH.new w 0) (iU _ _).symm) (λ_=>rfl) (λx y M=>by simp[V.cells]at M;subst M;exact .int _ _) (λ_=>rfl) (by simp[Vh]);exact LO (off:=0) (n:=3) (l:=[n.a,n.b,n.c]) (f:=V.int .i64) (f':=V.int .i64) (g:=g61) (fz:=0) (c:=.new) zp (λ_=>rfl) (λx y M=>by simp[V.cells]at M;subst M;exact .int _ _) (λ_=>rfl) zS;refine(ye G Y _ _ (.mk ab (Vh (d.drop q))) (.mk ab [n.a,n.b,n.c]) (by simp[Vh,Sl.l])).mono ?_;rintro _ _ rfl;refine⟨.bool _,?_⟩;refine Zs ?_;cases heq:(Vh (d.drop q)==[n.a,n.b,n.c])with|false=>have J:Vh (d.drop q)≠[n.a,n.b,n.c]:=zu heq;rw[AF J]at u;rw[u]at C;refine Zi rfl (λh12=>?_) (λh12=>?_);refine Z ?_;rw[B C];cases h12|true=>
  have J:¬Vh (d.drop q)≠[n.a,n.b,n.c]:=zu heq;rw[AA J]at u;rw[u]at C;refine Z0 ?_;have hdb:=ABK (l:=d.drop q) (k:=k) zo λy M=>N y (OW M);generalize Vo (d.drop q)=D at C hdb⊢;have hwd:=wQ (D+1);have P:d.take q++[((k:Int),D+1)]≠[]:=zS;have H:aa (d.take q++[((k:Int),D+1)])=q+1:=by rw[BQ,CZ];simp;omega
  have Q:∀ y∈d.take q++[((k:Int),D+1)],(0:Int)<=y.2/\y.2<=(k+1:Nat):=by intro y M;rcases DX.1 M with h|h;have:=N y (OX h);omega;rw[CP.1 h];show 0<=D+1/\D+1<=_;omega
  by_cases t:d=[];subst t;have I:q=0:=zu hkk;subst I;refine CA zk ?_;simp -implicitDefEqProofs only[go_sem,seval,Qo,U1,hwd];intro g71;refine Yg (f:=Sv) (l:=([]:List (Int×Int))) (l2:=[((k:Int),D+1)]) (g:=z) Jt rfl rfl rfl rfl (Z3 zo zS) λg2=>?_;refine Zs ?_;refine Z1 ?_;refine hL2 _ ⟨hk1,(g2,[((k:Int),D+1)]),⟨C,?_,Q⟩,AO zw zp⟩;show 1<=k+1;omega;have A:q<=aa d:=zo;refine CA zk ?_;simp -implicitDefEqProofs only[go_sem,seval,Xs 72 z 2 t,CB,A,hwd,X2 z Sv t];intro g71;refine⟨Z3 zo zo,by rw[Ww (m:=2) Jt];omega,λg2=>?_⟩;refine Z1 ?_;refine hL2 _ ⟨hk1,(g2,d.take q++[((k:Int),D+1)]),⟨C,?_,Q⟩,AO (by refine Zs ?_;exact⟨by rw[Xs _ _ _ P,H],BU _ (Xi zo zo)⟩) (by refine Zs ?_;rw[X2 _ _ P,DL,T0,<- x_]<;>rfl)⟩;show aa (d.take q++[_])<=k+1;rw[H];omega
 .have hk1:k=aa s.l:=by simp at h4;omega
  refine Z0 ?_;rw[hk1,NN,Ug]at C;rw[C]at O;refine Zz ?_
  match d,O with|[],O=>refine Ym @Qo ?_;refine Zi rfl (λR=>?_) (λR=>?_);refine Z ?_;rw[O];cases R|[x],O=>have t:[x]≠([]:List (Int×Int)):=zS;refine Z1 ?_;refine Z0 ?_;have hfx:flat ([x].map Sv)=[qI x.1,qI x.2]:=rfl;refine Wo zk ?_;simp -implicitDefEqProofs only[go_sem,seval,Xs 72 z 2 t,X2 z Sv t,hfx];refine Z ?_;rw[O]|x::y::r,O=>have e1:((aa (x::y::r):Int) != 1)=ad:=zO;refine Ym e1 ?_;refine Zi rfl (λR=>?_) (λR=>?_);refine Z ?_;rw[O];cases R
def l5(G)(e:Yy G)(op):Spec () G 306 [.int .u8 op] Zm (Z7 op:Nat):=by refine Zo 0 12 _ func306 λX=>?_;have c:Z7 op=if op<=4 then 0 else if op<=6 then 1 else if op<=21 then 2 else 3:=rfl;refine Z1 ?_;refine Yt (fun(_:Unit)=>st [] []) (λ_=>¬op<=4/\¬op<=6/\¬op<=21) (λf d=>?_) ?_;refine Z1 ?_;refine Zi rfl (λa=>?_) (λa=>?_);refine Z ?_;rw[c,AF (zu a)]<;>rfl;refine Z1 ?_;refine Zi rfl (λh2=>?_) (λh2=>?_);refine Z ?_;rw[c,AA (zu a),AF (zu h2)]<;>rfl;refine Z1 ?_;refine Zi rfl (λb=>?_) (λb=>?_);refine Z ?_;rw[c,AA (zu a),AA (zu h2),AF (zu b)]<;>rfl;refine Z0 ?_;exact d _ () ⟨zu a,zu h2,zu b⟩ qs;rintro _ ⟨a,h2,b⟩;refine Z ?_;rw[c,AA a,AA h2,AA b]<;>rfl
def zy(G)(D:Yy G)(n)(F:n.name.length<100000):Spec () G 305 [Y9 n] Zm (Tm n):=by
 refine Zo 0 36 [.tmp 2] func305 λX=>?_;have B:Tm n=if n.op<1\/n.op>22\/n.num<0 then ab else if n.op=2 then n.num==0&&Tc _==2 else n.name==[]&&(n.op==1||n.num==0):=rfl;obtain⟨g,e,f,a,b,c⟩:=n;simp only at F B;simp only[X7];refine Zk λK d=>CA zk ?_;refine Zs ?_;intro E;refine d _ ?_
 try clear d K
 refine Yt (fun(_:Unit)=>st [(1,.ptr 1 E 0)] [(1,qC E 0 [.int .u8 g,e,f,a,b,c])]) (λ_=>Tm ⟨g,e,f,a,b,c⟩=if g=2 then Tc f==2 else f==[]) (λL u=>?_) ?_;have l:(g<1)=False->(g>22)=False->(e<0)=False->(g=1\/e=0)->Tm ⟨g,e,f,a,b,c⟩=if g=2 then Tc f==2 else f==[]:=by intro m h2 t o;rw[B,AA (by rintro(h|h|h);exact m ▸ h;exact h2 ▸ h;exact t ▸ h)];by_cases y:g=2;have:=o.resolve_left zo;rw[AF y,AF y,this]<;>rfl;rw[AA y,AA y];rcases o with h|h;rw[h];simp;rw[h];simp
 have k:(g<1\/g>22\/e<0\/(g≠1/\e≠0))->Tm ⟨g,e,f,a,b,c⟩=ab:=by
  intro h;rw[B];split;rfl;rename_i A;simp only[not_or]at A;obtain⟨r,q⟩:g≠1/\e≠0:=by rcases h with h|h|h|h;exact absurd h A.1;exact absurd h A.2.1;exact absurd h A.2.2;exact h
  have I:(g==1)=ab:=zu r;have H:(e==0)=ab:=zu q;rw[I,H];simp
 by_cases r:g<1;have m:decide (g<1)=ad:=zu r
 (refine Zk λK d=>CA zk ?_;refine Xc m ?_;refine d _ ?_;clear d K)
 refine Zi zp (λ_=>?_) (λh=>by cases h)
 (refine Zk λK d=>CA zk ?_;refine Zs ?_;refine d _ ?_;clear d K)
 (refine FU ?_;refine Zs ?_;refine Yk ?_)
 rw[k (.inl r)];have m:decide (g<1)=ab:=zu r;by_cases q:g>22;have h2:decide (g>22)=ad:=zu q
 (refine Zk λK d=>CA zk ?_;simp -implicitDefEqProofs only[go_sem,seval,m,h2];refine d _ ?_;clear d K)
 refine Zi zp (λ_=>?_) (λh=>by cases h)
 (refine Zk λK d=>CA zk ?_;refine Zs ?_;refine d _ ?_;clear d K)
 (refine FU ?_;refine Zs ?_;refine Yk ?_)
 rw[k (.inr (.inl q))];have h2:decide (g>22)=ab:=zu q;by_cases x:g=1;have o:(g != 1)=ab:=zu x;by_cases p:e<0;have t:decide (e<0)=ad:=zu p
 (refine Zk λK d=>CA zk ?_;simp -implicitDefEqProofs only[go_sem,seval,m,h2,t,o];refine d _ ?_;clear d K)
 refine Zi zp (λ_=>?_) (λh=>by cases h)
 (refine Zk λK d=>CA zk ?_;refine Zs ?_;refine d _ ?_;clear d K)
 (refine FU ?_;refine Zs ?_;refine Yk ?_)
 rw[k (.inr (.inr (.inl p)))];have t:decide (e<0)=ab:=zu p
 (refine Zk λK d=>CA zk ?_;simp -implicitDefEqProofs only[go_sem,seval,m,h2,t,o];refine d _ ?_;clear d K)
 refine Zi zp (λh=>by cases h) (λ_=>?_);refine Z0 ?_;exact u _ () (l (GD r) (GD q) (GD p) (.inl x)) qs;have o:(g != 1)=ad:=zu x;by_cases w:e=0;have i:(e != 0)=ab:=zu w;have p:¬e<0:=zo;have t:decide (e<0)=ab:=zu p
 (refine Zk λK d=>CA zk ?_;simp -implicitDefEqProofs only[go_sem,seval,m,h2,t,o,i];refine d _ ?_;clear d K)
 refine Zi zp (λh=>by cases h) (λ_=>?_);refine Z0 ?_;exact u _ () (l (GD r) (GD q) (GD p) (.inr w)) qs;have i:(e != 0)=ad:=zu w
 (refine Zk λK d=>CA zk ?_;simp -implicitDefEqProofs only[go_sem,seval,m,h2,o,i];refine d _ ?_;clear d K)
 refine Zi (b:=ad) zp (λ_=>?_) (λh=>by cases h)
 (refine Zk λK d=>CA zk ?_;refine Zs ?_;refine d _ ?_;clear d K)
 (refine FU ?_;refine Zs ?_;refine Yk ?_)
 rw[k (.inr (.inr (.inr ⟨x,w⟩)))];rintro _ j;refine Zk λJ l=>?_;refine Zk λK d=>CA zk ?_;refine Zs ?_;refine d _ ?_
 try clear d K
 refine Zi rfl (λi=>?_) (λi=>?_)
 .have i:g=2:=zu i;rw[AF i]at j;refine Zk λK d=>CA zk ?_;refine Zs ?_;refine Zc D ?_ (s:=(Of G D f zo));refine d _ ?_
  try clear d K
  refine Z ?_;rw[j];generalize Tc f=z;cases C:(z==2);have:((z:Int)==2)=ab:=by rw[FD]at C⊢;omega
  rw[this];have:((z:Int)==2)=ad:=by rw[CX]at C⊢;omega
  rw[this]
 .have i:¬g=2:=zu i;rw[AA i]at j;refine Z0 ?_;refine l _ ?_;refine Zk λK d=>CA zk ?_;refine Zs ?_;refine d _ ?_
  try clear d K
  refine Z ?_;rw[j]
def Ak(n:XN):Nat->Int
 |0=>n.a|1=>n.b|_=>n.c
def Iy(rec:Int->Int)(n:XN):Nat->Int->Option Int
 |0,last=>ae last|k+1,last=>match Wl rec (aT k (Z7 n.op)) (Ak n k) last with|none=>ah|some q=>Iy rec n k q
def uD(l f i):begR l (f+1) i=match Jg l i with|none => -1|some n=>bif Tm n then(match Iy (begR l f) n 3 (i-1)with|none => -1|some q=>q+1)else -1:=by rw[begR];rcases Jg l i with _|n;rfl;simp only;cases Tm n;rfl;simp only[MX,Iy,Ak];rcases Wl _ _ _ (i-1) with _|l2;rfl;simp only;rcases Wl _ _ _ l2 with _|l1;rfl;simp only;rcases Wl _ _ _ l1 with _|l0;rfl;rfl
def sj{a b last}(h:¬b=last):Wl a ad b last=ah:=by simp[Wl,h]
def z8{a b last}(h:b=last)(h2:a last<0):Wl a ad b last=ah:=by simp[Wl,h,h2]
def zY{a b last}(h:b=last)(h2:¬a last<0):Wl a ad b last=ae (a last-1):=by simp[Wl,h,h2]
def ABm{a b last}(h:¬b = -1):Wl a ab b last=ah:=by simp[Wl,h]
def ABn{a b last}(h:b = -1):Wl a ab b last=ae last:=by simp[Wl,h]
def qg(l f i)(h:0<=begR l f i):begR l f i<=i:=by have⟨x,b,_,_,c,a⟩:=Rh l f i h;have:=x.size_pos;omega
def tR(G)(M:Yy G)(s)(hs:s.l.length<1000000)(S:∀ n∈s.l,n.name.length<100000):∀ (f:Nat) c (i:Int),-1<=i->i<f->i<1000000 ->
  Spec () G 285 [Za c 6 Y9 s,i] Zm (begR s.l f i):=by
 intro f
 induction f with
 |zero=>intro c i h1 h2 _;obtain rfl:i = -1:=zo;refine Zo 0 68 [.tmp 4] func285 λX=>?_;refine Z1 ?_;refine Z1 ?_;refine Zi rfl (λh2=>?_) (λh2=>?_);exact Zr;cases h2
 |succ f ih=>
 intro c i h1 h2 h3;refine Zo 0 68 [.tmp 4] func285 λX=>?_;have d:=uD s.l f i;generalize begR s.l (f+1) i=D at d⊢;refine Z1 ?_;refine Zz ?_;by_cases K:i<0;have P:decide (i<0)=ad:=zu K;have p:Jg s.l i=ah:=by unfold Jg;rw[AF K]
 rw[p]at d;refine Ym P ?_;refine Zi rfl (λu=>?_) (λu=>?_);refine Z ?_;rw[d];cases u;have P:decide (i<0)=ab:=zu K;obtain⟨m,rfl⟩:∃ m:Nat,i=m:=⟨i.toNat,zo⟩;by_cases T:m>=aa s.l;have e2:=zU ((m:Int)>=aa s.l);have p:Jg s.l m=ah:=by unfold Jg;rw[AA K];exact OT (zu T)
 rw[p]at d;refine Ym (zi P e2) ?_;refine Zi rfl (λu=>?_) (λu=>?_);refine Z ?_;rw[d];cases u;have e2:=zV ((m:Int)>=aa s.l);have O:=AY (Nat.lt_of_not_le T);have H:=S _ (BT (Nat.lt_of_not_le T));generalize s.l[m]=n at O H;have p:Jg s.l m=ae n:=by unfold Jg;rw[AA K];exact O
 rw[p]at d;simp only at d;refine Ym (j4 P e2 O @X7) ?_;rw[<- X7];refine Co @N0 M ?_ (s:=(zy G M n H));cases hw:Tm n with|false=>rw[hw,cond_false]at d;refine Zi rfl (λu=>?_) (λu=>?_);refine Z ?_;rw[d];cases u|true=>
 rw[hw,MX]at d;refine Ym (zi O @X7) ?_;intro g5;refine Z1 ?_;intro g36;have R:=wQ ((m:Int)-1);refine Ym R ?_;refine Z1 ?_;refine BK ?_;refine Xw [0,5,6] [5,36] (fun(x:Nat×Int)=>[(7,qI x.2),(8,qI ((x.1:Int)-1))]) (λ_=>[]) (λx=>(D=match Iy (begR s.l f) n x.1 x.2 with|none => -1|some q=>q+1)/\x.1<=3 /\ -1<=x.2/\x.2<=(m:Int)-1) (λx=>x.1) (3,(m:Int)-1) ⟨d,BO _,by show -1<=(m:Int)-1;omega,TD _⟩ zp zp ?_
 try clear d
 rintro⟨k,last⟩ ⟨d,z,y,w⟩ L6 L;replace d:D=match Iy (begR s.l f) n k last with|none => -1|some q=>q+1:=d
 replace z:k<=3:=z;replace y : -1<=last:=y;replace w:last<=(m:Int)-1:=w;refine Z1 ?_;cases k with|zero=>refine Z ?_;rw[d,Xi zo zo]<;>rfl|succ k=>
 have e8:=zU (((k+1:Nat):Int)-1>=0);rw[Iy]at d;refine Zi rfl (λY=>?_) (λY=>?_);rotate_left;rw[e8]at Y;cases Y;refine Z0 ?_;have ek:((k+1:Nat):Int)-1=(k:Int):=zo;rw[ek];have F:=wQ ((k:Int)-1);have o:([n.a,n.b,n.c]:List V)[k]?=ae (qI (Ak n k)):=by match k,z with|0,_=>rfl|1,_=>rfl|2,_=>rfl
 have h:(k:Int)<3:=zo;generalize Ak n k=C at d o;refine Z1 ?_;refine Zc M ?_ (s:=(l5 G M n.op));generalize hpo:Z7 n.op=E at d⊢;by_cases J:k<E
 .have e5:=zV ((k:Int)>=(E:Int));have A:aT k E=ad:=zu J;rw[A]at d;refine Zi rfl (λg=>?_) (λg=>?_);rw[e5]at g;cases g;refine Z0 ?_;refine Zz ?_;by_cases e:C=last
  rotate_left;have B:(C != last)=ad:=zu e;rw[sj e]at d;refine Ym (j5 @GV o h @DS B) ?_;refine Zi rfl (λt=>?_) (λt=>?_);refine Z ?_;rw[d];cases t;have B:(C != last)=ab:=zu e;refine Ym (j5 @GV o h @DS B) ?_;refine Z1 ?_;refine Co @Yu M ?_ (s:=(ih c.ent last zo zo zo));have W:=rH s.l f last;have U:=qg s.l f last;refine Zz ?_
  by_cases j:begR s.l f last<0;have e7:decide (begR s.l f last<0)=ad:=zu j;rw[z8 e j]at d;refine Ym e7 ?_;refine Zi rfl (λN=>?_) (λN=>?_);refine Z ?_;rw[d];cases N;have e7:decide (begR s.l f last<0)=ab:=zu j;rw[zY e j]at d;refine Ym e7 ?_;refine Z0 ?_;have I:=U zo;generalize begR s.l f last=r at d W I j⊢;have Q:=wQ (r-1);refine Ym Q ?_;refine Ym F ?_;refine L _ ⟨(k,r-1),by show k<k+1;omega,⟨d,by show k<=3;omega,by show -1<=r-1;omega,by show r-1<=(m:Int)-1;omega⟩,AO zp zp⟩
 .have e5:=zU ((k:Int)>=(E:Int));have A:aT k E=ab:=by rw[FV];simpa using J
  rw[A]at d;refine Zi rfl (λg=>?_) (λg=>?_);rotate_left;rw[e5]at g;cases g;refine Zz ?_;by_cases e:C = -1
  rotate_left;have B:(C != -1)=ad:=zu e;rw[ABm e]at d;refine Ym (j5 @GV o h @DS B) ?_;refine Zi rfl (λt=>?_) (λt=>?_);refine Z ?_;rw[d];cases t;have B:(C != -1)=ab:=zu e;rw[ABn e]at d;refine Ym (j5 @GV o h @DS B) ?_;refine Ym F ?_;refine L _ ⟨(k,last),by show k<k+1;omega,⟨d,by show k<=3;omega,y,w⟩,AO zp zp⟩
def OF(s:Sl XN)(G:Nat->V)(i d:Int):Prop:=∀ c,Spec () G 284 [Za c 6 Y9 s,i] Zm d
def Qh(G)(a:Yy G)(s):OF s G (-1) 0:=by intro c;refine Zo 0 30 _ func284 λX=>?_;refine Z1 ?_;refine Z1 ?_;refine Zi rfl (λh2=>?_) (λh2=>?_);exact Zr;cases h2
def O2(G)(q:Yy G)(s)(m:Nat)(n)(p:s.l[m]?=ae n)(f e g)(t:OF s G n.a f)(r:OF s G n.b e)(h2:OF s G n.c g)(v:(0<=f/\f<1000000)/\(0<=e/\e<1000000)/\(0<=g/\g<1000000)):OF s G m (max (max f e) g+1):=by
 intro c;refine Zo 0 30 _ func284 λX=>?_;refine Z1 ?_;refine Zz ?_;have u:=zV ((m:Int)<0);refine Ym u ?_;refine Z0 ?_;have j:∀ i d,OF s G i d->J3 _ G 284 [Za c 6 Y9 s,i] d:=λi d h=>⟨zk,by simp only[BI,BV,Yu,Xr];refine(h c.ent).mono ?_;rintro _ _ rfl;rfl⟩
 have k:(if g>(if e>f then e else f)then g else(if e>f then e else f))=max (max f e) g:=by rw[Int.max_def,Int.max_def];split<;>split<;>split<;>omega
 have o:qN (1+max (max f e) g)=max (max f e) g+1:=by rw[Xi zo zo];omega
 refine Zz<|Zv ⟨λi=>if i=6 then qI f else if i=13 then qI e else if i=20 then qI g else .top,λ_=>.pure⟩ zk q zk zk ?_;refine Xc (j4 p @X7 k o) ?_;refine⟨j _ _ t,j _ _ r,j _ _ h2,?_⟩;exact Zr
def U9:∀ x:X,x.depth<=x.size
 |.leaf .. => BO _|.un _ a=>by have:=U9 a;simp only[X.depth,X.size];omega|.DP _ a b=>by have:=U9 a;have:=U9 b;simp only[X.depth,X.size];omega|.ite a b c=>by have:=U9 a;have:=U9 b;have:=U9 c;simp only[X.depth,X.size];omega
def Gv{l x b}(h:At l x b):b+x.size<=l.length:=by obtain⟨pre,a,rfl,c⟩:=h;rw[BQ,BQ,X.row_len];omega
def Qi(G)(c:Yy G)(s)(g:s.l.length<1000000):∀ x b,At s.l x b->OF s G ((b:Int)+x.size-1) x.depth
 |.leaf op num name,b,h=>by
  have:=O2 G c s b _ h.get 0 0 0 (Qh G c s) (Qh G c s) (Qh G c s) ⟨zd,zd,zd⟩;have e:(b:Int)+(X.leaf op num name).size-1=(b:Nat):=by simp only[X.size];omega
  rw[e];exact this
 |.un op a,b,h=>by
  have B:=h.un;have v:=Qi G c s g a b B;have j:=Gv h;have E:=U9 a;have D:=a.size_pos;have:=O2 G c s _ _ h.get _ 0 0 v (Qh G c s) (Qh G c s) ⟨⟨zo,by simp only[X.size]at j;omega⟩,zd,zd⟩;have e:(b:Int)+(X.un op a).size-1=((b+(X.un op a).size-1:Nat):Int):=by simp only[X.size];omega
  rw[e];have k:((X.un op a).depth:Int)=max (max (a.depth:Int) 0) 0+1:=by simp only[X.depth];omega
  rw[k];exact this
 |.DP op x y,b,h=>by
  have⟨o,n⟩:=h.DP;have f:=Qi G c s g x b o;have d:=Qi G c s g y (b+x.size) n;have j:=Gv h;have t:=U9 x;have r:=U9 y;have q:=x.size_pos;have p:=y.size_pos;have u:((b+x.size:Nat):Int)+y.size-1=(b:Int)+x.size+y.size-1:=zo;rw[u]at d;simp only[X.size]at j;have:=O2 G c s _ _ h.get _ _ 0 f d (Qh G c s) ⟨⟨zo,zo⟩,⟨zo,zo⟩,zd⟩;have e:(b:Int)+(X.DP op x y).size-1=((b+(X.DP op x y).size-1:Nat):Int):=by simp only[X.size];omega
  rw[e];have k:((X.DP op x y).depth:Int)=max (max (x.depth:Int) y.depth) 0+1:=by simp only[X.depth];omega
  rw[k];exact this
 |.ite x y z,b,h=>by
  have⟨o,n,m⟩:=h.ite;have f:=Qi G c s g x b o;have d:=Qi G c s g y (b+x.size) n;have i:=Qi G c s g z (b+x.size+y.size) m;have j:=Gv h;have t:=U9 x;have r:=U9 y;have A:=U9 z;have q:=x.size_pos;have p:=y.size_pos;have w:=z.size_pos;have u:((b+x.size:Nat):Int)+y.size-1=(b:Int)+x.size+y.size-1:=zo;rw[u]at d;have C:((b+x.size+y.size:Nat):Int)+z.size-1=(b:Int)+x.size+y.size+z.size-1:=zo;rw[C]at i;simp only[X.size]at j;have:=O2 G c s _ _ h.get _ _ _ f d i ⟨⟨zo,zo⟩,⟨zo,zo⟩,⟨zo,zo⟩⟩;have e:(b:Int)+(X.ite x y z).size-1=((b+(X.ite x y z).size-1:Nat):Int):=by simp only[X.size];omega
  rw[e];have k:((X.ite x y z).depth:Int)=max (max (x.depth:Int) y.depth) z.depth+1:=by simp only[X.depth];omega
  rw[k];exact this
def Ba(G)(b:Yy G)(c s)(e:s.l.length<1000000)(a:∀ n∈s.l,n.name.length<100000):Spec () G 263 [Za c 6 Y9 s] Zm (QV s.l):=by refine Zo 0 9 _ func263 λX=>?_;have d:=wQ ((aa s.l:Int)-1);refine Z1 ?_;refine Ym d ?_;refine Co @Yu b ?_ (s:=(tR G b s e a (aa s.l) _ _ zo zo zo));exact Zr
def Fs(G)(d:Yy G)(c s)(h:s.l.length<1000000)(e:∀ n∈s.l,n.name.length<100000):Spec () G 262 [Za c 6 Y9 s] Zm (Wg s.l):=by
 refine Zo 0 11 [.tmp 2] func262 λX=>?_;have o:=wQ ((aa s.l:Int)-1);refine Z1 ?_;refine Z1 ?_;refine Co @Yu d ?_ (s:=(Ba G d _ s h e));cases i:QV _ with
 |false=>
  have p:Wg s.l=0:=by have:=C4 s.l;rw[i]at this;have h2:=SJ this.symm;exact MC h2
  refine Zi rfl (λk=>?_) (λk=>?_);refine Z ?_;rw[p];cases k
 |true=>
 refine Z0 ?_;have⟨x,m,f⟩:=kc.1 i;have g:=f ▸ E2 x;have b:Wg s.l=x.depth:=by rw[f,fq m]
 have j:aa s.l=x.size:=by rw[f,Go.Hs.X.row_len]
 have a:=Qi G d s h x 0 g;rw[show((0:Nat):Int)+x.size-1=(aa s.l:Int)-1 by omega]at a;refine Ym o ?_;refine Co @Yu d ?_ (s:=(a c.ent));refine Z ?_;rw[b]
def Vp(l:List XN):Int:=if Wg l=0 then 2 else if Wg l>64 then 3 else 0
def Bb(G)(f:Yy G)(c s)(h:s.l.length<1000000)(d:∀ n∈s.l,n.name.length<100000):Spec () G 245 [Za c 6 Y9 s] Zm (Vp s.l):=by refine Zo 0 9 [.tmp 2] func245 λX=>?_;have a:Vp _=if Wg _=0 then 2 else if Wg s.l>64 then 3 else 0:=rfl;generalize Vp _=j at a⊢;refine Z1 ?_;refine Z1 ?_;refine Co @Yu f ?_ (s:=(Ba G f _ s h d));rw[C4];by_cases e:Wg s.l=0;rw[AF e]at a;have g:=zu e;rw[g];refine Zi rfl (λi=>?_) (λi=>?_);refine Z ?_;rw[a];cases i;have g:decide (Wg s.l≠0)=ad:=zu e;rw[AA e]at a;rw[g];refine Z1 ?_;refine Co @Yu f ?_ (s:=(Fs G f c.ent s h d));refine Zi rfl (λb=>?_) (λb=>?_);have b:=zu b;rw[AF b]at a;refine Z ?_;rw[a];have b:¬Wg s.l>64:=zu b;rw[AA b]at a;refine Z ?_;rw[a]
def Kq(G)(f:CR G)(c s)(h:s.l.length<1000000)(e:∀ n∈s.l,n.name.length<100000):Spec () G 252 [.agg [Za c 6 Y9 s]] Zm (Vp s.l):=by have i:=f.ok;refine Zo 0 12 [.tmp 2] func252 λX=>?_;have a:Vp _=if Wg _=0 then 2 else if Wg s.l>64 then 3 else 0:=rfl;generalize Vp _=g at a⊢;refine Z1 ?_;intro j;refine Z1 ?_;refine Co @Yu i ?_ (s:=(Ct G f _ s h e));refine Z1 ?_;refine Zi rfl (λd=>?_) (λd=>?_);have d:=zu d;rw[AF d]at a;refine Z ?_;rw[a];have d:=zu d;rw[AA d]at a;refine Z1 ?_;refine Zi rfl (λb=>?_) (λb=>?_);have b:=zu b;rw[AF b]at a;refine Z ?_;rw[a];have b:¬Wg s.l>64:=zu b;rw[AA b]at a;refine Z ?_;rw[a]
def NmQ(Q:bS->Prop)(r:RS):Prop:=∀ n∈r.BS,Q n.name
def TS(Q:bS->Prop)(inner:II):Prop:=∀ n r,NmQ Q r->NmQ Q (inner n r).2
def NmQ.put{Q r n}(h:NmQ Q r)(c:Q n.name):NmQ Q (r.put n):=by intro m b;rcases DX.1 b with a|a;exact h m a;grind
abbrev QQ:=@NmQ.put
def V7{Q x k}(h:NmQ Q x.2)(a:∀ r,NmQ Q r->NmQ Q (k r).2):NmQ Q (andThen x k).2:=by have⟨b,r⟩:=x;cases b;exact h;exact a r h
def Ek{Q}(l w){r}(h:NmQ Q r):NmQ Q (Sb l w r).2:=by unfold Sb;split<;>exact h
def wq{Q}(a:Q [])(t){r}(h:NmQ Q r):NmQ Q (T7 r t).2:=by unfold T7;split;exact h;exact QQ h a
def mr{Q l d}(m:Q [])(hi:TS Q d){r}(h:NmQ Q r):NmQ Q (Ub l d r).2:=by refine V7 (Ek _ _ h) λq k=>V7 (hi _ _ k) λa h2=>V7 (Ek _ _ h2) λp j=>V7 (hi _ _ j) λb i=>V7 (Ek _ _ i) λo g=>V7 (hi _ _ g) λc f=>V7 (Ek _ _ f) λn e=>?_;exact QQ e m
def xe{Q l b}(c:Q [])(e:∀ i,(Yj l i).AD=2->Q (Yj l i).BG)(hi:TS Q b){r}(h:NmQ Q r):NmQ Q (Ti l b r).2:=by unfold Ti;split;exact wq c _ h;split;rename_i f;exact QQ h (e _ f);split;exact h;split;exact V7 (hi _ _ h) λa d=>QQ d c;split;exact V7 (hi _ _ h) λa d=>Ek _ _ d;split;exact mr c hi h;split;exact QQ h c;exact h
def fV{Q l b}(c:Q [])(hi:TS Q b)(n):∀ m r,NmQ Q r->NmQ Q (Us l b n m r).2
 |0,r,h=>h|m+1,r,h=>by rw[Us];split;exact h;split;exact h;exact V7 (hi _ r.adv h) λa d=>fV c hi n m (a.put _) (QQ d c)
def Cj{Q}(l)(b:Q [])(c:∀ i,(Yj l i).AD=2->Q (Yj l i).BG):∀ f,TS Q (Yv l f)
 |0=>λ_ _ h=>h|f+1=>λn r h=>by exact V7 (xe b c (Cj l b c f) h) λa d=>fV b (Cj l b c f) n _ a d
open Go.Proofs
set_option maxRecDepth 10000
def j_{b tl G}(D:Yy G){f a args' j g r r' v}(h:RdS b tl G f args' j g r v r'){H K}(n:Yf ai f=ad)(m:∀ F,tl.map (V.recol F)=tl)(d:a.map (V.recol AH.ent)=args')(A:v.recol AH.bk=v)(q:r.BS=[])(cs)(u:H 8=qC g 0 cs)(o:Xd AH.ent cs=(Za .any 3 Xy j::qI r.i::.AG::qI r.e::tl))(s:H b=.AR)(B:∀ gx',K v (Yb H [(8,qC g 0 (Za .any 3 Xy j::qI r'.i::AZ b gx' 6 r'.BS::qI r'.e::tl)),(b,Z9 gx' Y9 r'.BS)])):CallA ai G f (.ptr 8 g 0::a) H K:=by
 refine pL D [(8,C9 b tl j g 0 r),(b,Dw 0 r.BS)] n ?_ ?_ ?_;intro p k;simp only[BY,CL,CF]at k;rcases k with rfl|rfl;simp only[u,BL.toAny,o,Y3,q];rfl;simp only[s,BL.toAny,q];rfl;intro p k c M N E l;simp only[BY,CL,CF]at k;rcases k with rfl|rfl;simp only[u,BL.cells.injEq]at l;exact l.1.symm;simp only[s]at l;cases l
 .have ha:(V.ptr 8 g 0::a).map (V.recol AH.ent)=.ptr 8 g 0::args':=by rw[BI,Ic,d]
  rw[ha];refine(h 0).mono ?_;rintro _ O ⟨rfl,gx',z,w⟩;have J:(C9 b tl j g gx' r').backNew=qC g 0 (Za .any 3 Xy j::qI r'.i::AZ b gx' 6 r'.BS::qI r'.e::tl):=by simp only[Y3,BL.backNew,Yl,BI,Xn,Xr,S9,m];rfl
  have I:(Dw gx' r'.BS).backNew=Z9 gx' Y9 r'.BS:=by
   unfold Dw;rcases L:r'.BS with _|⟨x,t⟩;rfl;rw[D6 _ _ _ zS,X2 _ _ zS];simp only[BL.backNew,Yl];rw[<- Qq,EL];have C:(x::t).map (V.recol AH.bk∘Y9)=(x::t).map Y9:=FQ λy _=>N0 _ y
   first|done|rw[C]
  simp only[BI,BV,z,w,J,I,A];exact B _
def encXs(c:AH)(l:List XN):V:=Za c 6 Y9 (Zb l)
def encFr(c:AH)(p:List XN×Int×Int):V:=.tuple [.agg [encXs c p.1],qI p.2.1,qI p.2.2]
def Nc{l}(b:FJ l):∀ n∈(Yv l (l.length+1) 1 ⟨0,[],0⟩).2.BS,n.name.length<100000:=
 Cj (Q:=λs=>aa s<100000) l (H3 _) (λi _=>Dv b i) _ _ _ (λn a=>by cases a)
def A1(G)(u:CR G)(c a)(t:FJ a.l):Spec () G 235 [Za c 3 Xy a] Zm (encFr .new (Xt a.l)):=by
 have p:=u.ok;have A:=t.len;refine Zo 0 44 [.cell 2 196,.tmp 3,.tmp 4] func235 λX=>?_;have h:Xt _=if(Yv _ _ 1 _).1=ab then(([]:List XN),((Yv _ (aa a.l+1) 1 ⟨0,[],0⟩).2.i:Int),(Yv a.l (aa a.l+1) 1 ⟨0,[],0⟩).2.e)
  else if Wg (Yv a.l (aa a.l+1) 1 ⟨0,[],0⟩).2.BS>64 then([],0,3)else((Yv a.l (aa a.l+1) 1 ⟨0,[],0⟩).2.BS,((Yv a.l (aa a.l+1) 1 ⟨0,[],0⟩).2.i:Int),(0:Int)):=rfl
 have n:R9 a.l ⟨0,[],0⟩:=⟨CB _,BO _⟩;have k:=λg=>wc G u a t g (aa a.l+1) 1 ⟨0,[],0⟩ zd zd (GH _) n;have f:=Nc t;have j:=(Vv a.l (aa a.l+1) 1 ⟨0,[],0⟩);generalize Xt a.l=z at h⊢;generalize Yv a.l (aa a.l+1) 1 ⟨0,[],0⟩=y at h k j f;have⟨b,r⟩:=y;simp only at h k j f;refine Z1 ?_;intro C;refine Z1 ?_;intro x;refine Zz ?_;refine BK ?_;refine Y2 (λ_=>ab) [5,2] [2] (l:=[]) (m:=[(8,qC x 0 [Za .any 3 Xy a,qI 0,.AG,qI 0,.func (.func 250) [] []])]) trivial ?_ ?_;simp only[Z2,Z5,CE];exact D_ (cs:=[Za c 3 Xy a,qI 0,.AG,qI 0,.func (.func 250) [] []]) rfl zp ⟨Fz.any (Xn _ _ _),Zd,Zd,Zd,Zd,AJ⟩;refine Z1 ?_;refine j_ p (k x) zk (λF=>rfl) rfl rfl rfl _ zp (by simp only[Yl,BI,BV,Xn];rfl) zp λw=>?_;refine Zu ?_;cases b with|false=>refine W7 rfl ?_;refine qF 8 [2] [2] 5 (.agg [Za .any 3 Xy a,r.i,AZ 1031 w 6 r.BS,r.e,.func (.func 250) [] []]) ?_;refine Zz ?_;refine Zv ⟨λ_=>.top,λi=>if i=4 then .CO else if i=8 then .CO else .pure⟩ zk p zk zk ?_;refine Zs ?_;refine Z ?_;rw[h]<;>rfl|true=>
 refine Xh rfl ?_;refine Y2 (λo=>o==1031) [5,2] [2] (l:=[]) (m:=[(8,qC x 0 [Za .any 3 Xy a,r.i,encXs .new r.BS,r.e,.func (.func 250) [] []])]) trivial ?_ ?_;simp only[Z2,Z5,CE];exact D_ (cs:=[Za .any 3 Xy a,r.i,AZ 1031 w 6 r.BS,r.e,.func (.func 250) [] []]) rfl zp ⟨Zd,Zd,Yp rfl zp Rc,Zd,Zd,AJ⟩;have q:aa r.BS<1000000:=by have:=(j.ok n);have B:=this.1;have h2:=this.2;omega
 rw[AA zS]at h;refine Ym @encXs.eq_1 ?_;refine Co @Yu p ?_ (s:=(Ct G u AH.new.ent (Zb r.BS) (by rw[Zl];exact q) (by rw[Zl];exact f)));refine Zi rfl (λd=>?_) (λd=>?_);have d:=zu d;rw[AF d]at h;refine Z ?_;rw[h]<;>rfl;have d:¬Wg r.BS>64:=zu d;rw[AA d]at h;refine Z0 ?_;refine qF 8 [2] [2] 5 (.agg [Za .any 3 Xy a,r.i,encXs .new r.BS,r.e,.func (.func 250) [] []]) ?_;refine Zz ?_;refine Zv ⟨λ_=>.top,λi=>if i=3 then .CO else if i=8 then .CO else .pure⟩ zk p zk zk ?_;refine Xc @encXs.eq_1 ?_;refine Z ?_;rw[h]<;>rfl
def fk:∀ f s i acc,(∀ t∈acc,aa t.BG<=aa s)->∀ t∈(Un f s i acc).1,aa t.BG<=aa s
 |0,s,i,acc,h=>by rw[Un];exact h|f+1,s,i,acc,h=>by rw[Un];split;split;intro t a;cases a;refine fk f s _ _ ?_;intro t a;rcases DX.1 a with b|b;exact h t b;rw[CP.1 b];show aa ((s.drop i).take _)<=aa s;rw[CZ,EJ];omega;exact h
def J9{s}(b:s.length<100000):FJ (Yr s).1:=by unfold Yr;split;exact⟨H3 _,λt a=>by cases a⟩;refine⟨?_,?_⟩;have:=dH (aa s+1) s (blk s) [];have c:aa ([]:List Tk)=0:=rfl;omega;intro t a;have:=fk _ s _ [] (λt a=>by cases a) t a;omega
def vW(G)(F:CR G)(s:bS)(I:s.length<100000):Spec () G 204 [s] Zm (encFr .new (V5 s)):=by
 have A:=F.ok;refine Zo 0 60 [.cell 2 196,.tmp 3,.tmp 4] func204 λX=>?_;have a:V5 s=if(Yr s).2.2≠0 then(([]:List XN),(Yr s).2.1,(Yr s).2.2)
  else if(Xt _).2.2=3 then([],0,3)
  else if(Xt _).2.2=0/\(Xt _).2.1=(aa (Yr s).1:Nat)then((Xt _).1,0,0)
  else([],if(Xt (Yr s).1).2.1=(aa (Yr s).1:Nat)then(aa s:Int)else((Yr s).1.getD (Xt (Yr s).1).2.1.toNat ⟨0,[],0⟩).pos,if(Xt (Yr s).1).2.2=0 then 80 else(Xt (Yr s).1).2.2):=rfl
 generalize V5 s=K at a⊢;have E:=J9 I;have J:=Rz G F s I;have g:=λc=>A1 G F c (Zb (Yr s).1) (by rw[Zl];exact E);simp only[Zl]at g;have D:=Qp (l:=(Yr s).1);generalize Yr s=t at a E J g D;generalize Xt t.1=p at a g D;have⟨l,L,H⟩:=t;have⟨M,i,e⟩:=p;simp only at a E g D;refine Z1 ?_;intro O;refine Z1 ?_;refine Zn A ?_ (s:=J);refine Xc (j3 @encTok.eq_1 @encTks.eq_1 @Xn) ?_;refine Z1 ?_;by_cases n:H=0
 rotate_left;have C:(H != 0)=ad:=zu n;rw[AF n]at a;refine Zi rfl (λd=>?_) (λd=>?_);refine Z ?_
 rw[a]<;>rfl;rw[C]at d;cases d;have C:=zu n;rw[AA (zu n)]at a;refine Zi rfl (λd=>?_) (λd=>?_);rw[C]at d;cases d;refine Z1 ?_;refine GW @Xn A ?_ (s:=(g _));refine Xc (j3 @encFr.eq_1 @encXs.eq_1 @Yu) ?_;intro N;refine Z1 ?_;by_cases j:e=3;have B:=zu j;rw[AF j]at a;refine Zi rfl (λb=>?_) (λb=>?_);refine Z ?_;rw[a,j]<;>rfl;rw[B]at b;cases b;have B:(e==3)=ab:=zu j;rw[AA j]at a;refine Zi rfl (λb=>?_) (λb=>?_);rw[B]at b;cases b;by_cases x:e=0;have w:(e==0)=ad:=zu x;by_cases k:i=(aa l:Nat);have o:(i==((aa l:Nat):Int))=ad:=zu k;rw[AF ⟨x,k⟩]at a;refine Ym (zi w o) ?_;refine Zi rfl (λz=>?_) (λz=>?_);refine Z ?_;rw[a]<;>rfl;cases z;have o:(i==((aa l:Nat):Int))=ab:=zu k;rw[AA (λh=>k h.2),AA k,AF x]at a;obtain⟨m,rfl⟩:∃ m:Nat,i=m:=⟨i.toNat,zo⟩;have r:m<aa l:=zo;obtain⟨q,f⟩:∃ q,l[m]?=ae q:=⟨_,AY r⟩;have u:(l.getD ((m:Nat):Int).toNat ⟨0,[],0⟩)=q:=by rw[GZ,DK,f]<;>rfl
 rw[u]at a;refine Ym (zi w o) ?_;refine Ym w ?_;refine Z1 ?_;refine Ym o ?_;refine Z0 ?_;refine Zz ?_;refine Zv ⟨λ_=>.top,λi=>if i=5 then .CO else .pure⟩ zk A zk zk ?_;refine Xc (zi f @Wd) ?_;refine Z ?_;rw[a]<;>rfl;have w:(e==0)=ab:=zu x;rw[AA (λh=>x h.1),AA x]at a;refine Ym w ?_;refine Ym w ?_;refine Z0 ?_;refine Zz ?_;by_cases k:i=(aa l:Nat);have o:(i==((aa l:Nat):Int))=ad:=zu k;rw[AF k]at a;refine Ym o ?_;refine Zi rfl (λy=>?_) (λy=>?_);refine Z ?_;rw[a]<;>rfl;cases y;have o:(i==((aa l:Nat):Int))=ab:=zu k;rw[AA k]at a;obtain⟨m,rfl⟩:∃ m:Nat,i=m:=⟨i.toNat,zo⟩;have r:m<aa l:=zo;obtain⟨q,f⟩:∃ q,l[m]?=ae q:=⟨_,AY r⟩;have u:(l.getD ((m:Nat):Int).toNat ⟨0,[],0⟩)=q:=by rw[GZ,DK,f]<;>rfl
 rw[u]at a;refine Ym o ?_;refine Z0 ?_;refine Zz ?_;refine Zv ⟨λ_=>.top,λi=>if i=5 then .CO else .pure⟩ zk A zk zk ?_;refine Xc (zi f @Wd) ?_;refine Z ?_;rw[a]<;>rfl
inductive EA:X->X->Nat->Prop where
 |refl (x:X):EA x x 0
 |un {op:Int} {a y:X} {b:Nat}:EA a y b->EA (.un op a) y b
 |MV {op:Int} {a c y:X} {b:Nat}:EA a y b->EA (.DP op a c) y b
 |MW {op:Int} {a c y:X} {b:Nat}:EA c y b->EA (.DP op a c) y (a.size+b)
 |NA {a c d y:X} {b:Nat}:EA a y b->EA (.ite a c d) y b
 |NB {a c d y:X} {b:Nat}:EA c y b->EA (.ite a c d) y (a.size+b)
 |NC {a c d y:X} {b:Nat}:EA d y b->EA (.ite a c d) y (a.size+c.size+b)
def Rk:X->List X
 |.leaf op num name=>[.leaf op num name]|.un op a=>Rk a++[.un op a]|.DP op a c=>Rk a++Rk c++[.DP op a c]|.ite a c d=>Rk a++Rk c++Rk d++[.ite a c d]
def W8:∀ x,aa (Rk x)=x.size
 |.leaf .. => rfl|.un _ a=>by simp[Rk,X.size,W8 a]|.DP _ a b=>by simp[Rk,X.size,W8 a,W8 b];omega|.ite a b c=>by simp[Rk,X.size,W8 a,W8 b,W8 c];omega
def EA.trans{x y z b c}(h:EA x y b)(h2:EA y z c):EA x z (b+c):=by induction h with|refl=>grind|un _ ih=>exact .un (ih h2)|MV _ ih=>exact .MV (ih h2)|MW _ ih=>rw[GM];exact .MW (ih h2)|NA _ ih=>exact .NA (ih h2)|NB _ ih=>rw[GM];exact .NB (ih h2)|NC _ ih=>rw[GM];exact .NC (ih h2)
def EA.ok{x y b}(h:EA x y b):x.ok=ad->y.ok=ad:=by induction h with|refl=>grind|un _ ih=>intro h;simp[X.ok]at h;exact ih h.2|MV _ ih=>intro h;simp[X.ok]at h;exact ih h.1.2|MW _ ih=>intro h;simp[X.ok]at h;exact ih h.2|NA _ ih=>intro h;simp[X.ok]at h;exact ih h.1.1|NB _ ih=>intro h;simp[X.ok]at h;exact ih h.1.2|NC _ ih=>intro h;simp[X.ok]at h;exact ih h.2
def EA.size{x y b}(h:EA x y b):b+y.size<=x.size:=by induction h with|refl=>simp|un _ ih=>simp only[X.size];omega|MV _ ih=>simp only[X.size];omega|MW _ ih=>simp only[X.size];omega|NA _ ih=>simp only[X.size];omega|NB _ ih=>simp only[X.size];omega|NC _ ih=>simp only[X.size];omega
def EA.at{x y b}(h:EA x y b):∀ {l} {k},At l x k->At l y (k+b):=by induction h with|refl=>grind|un _ ih=>intro l k h;exact ih h.un|MV _ ih=>intro l k h;exact ih h.DP.1|MW _ ih=>intro l k h;rw[<- GM];exact ih h.DP.2|NA _ ih=>intro l k h;exact ih h.ite.1|NB _ ih=>intro l k h;rw[<- GM];exact ih h.ite.2.1|NC _ ih=>intro l k h;rw[<- GM,<- GM];exact ih h.ite.2.2
def nI(x):(Rk x)[x.size-1]?=ae x:=by
 have:∃ l,Rk x=l++[x]:=by cases x;exact⟨[],rfl⟩;exact⟨_,rfl⟩;exact⟨_,rfl⟩;exact⟨_,rfl⟩
 have⟨l,h⟩:=this;have a:=W8 x;grind
def EA.get{x y b}(h:EA x y b):(Rk x)[b+y.size-1]?=ae y:=by
 have e:=y.size_pos
 induction h with|refl x=>rw[EE];exact nI x|@un op a y b h ih=>have:=h.size;have g:=W8 a;rw[Rk,KJ (by omega)];exact ih e|@MV op a c y b h ih=>have:=h.size;have g:=W8 a;rw[Rk,DH,KJ (by omega)];exact ih e|@MW op a c y b h ih=>have:=h.size;have g:=W8 a;have f:=W8 c;rw[Rk,DH,JS (by omega),KJ (by omega),<- ih e];congr 1;omega|@NA a c d y b h ih=>have:=h.size;have g:=W8 a;rw[Rk,DH,DH,KJ (by omega)];exact ih e|@NB a c d y b h ih=>have:=h.size;have g:=W8 a;have f:=W8 c;rw[Rk,DH,DH,JS (by omega),KJ (by omega),<- ih e];congr 1;omega|@NC a c d y b h ih=>have:=h.size;have g:=W8 a;have f:=W8 c;have i:=W8 d;rw[Rk,DH,DH,JS (by omega),JS (by omega),KJ (by omega),<- ih e];congr 1;omega
def M4:∀ x i,i<x.size->∃ y b,EA x y b/\b+y.size=i+1
 |.leaf op _ _,i,h=>⟨_,0,.refl _,by simp only[X.size]at h⊢;omega⟩|.un op a,i,h=>by by_cases j:i<a.size;have⟨y,b,h2,e⟩:=M4 a i j;exact⟨y,b,.un h2,e⟩;exact⟨_,0,.refl _,by simp only[X.size]at h⊢;omega⟩
 |.DP op a c,i,h=>by by_cases j:i<a.size;have⟨y,b,h2,e⟩:=M4 a i j;exact⟨y,b,.MV h2,e⟩;by_cases f:i-a.size<c.size;have⟨y,b,h2,e⟩:=M4 c _ f;exact⟨y,_,.MW h2,by omega⟩;exact⟨_,0,.refl _,by simp only[X.size]at h⊢;omega⟩
 |.ite a c d,i,h=>by by_cases j:i<a.size;have⟨y,b,h2,e⟩:=M4 a i j;exact⟨y,b,.NA h2,e⟩;by_cases f:i-a.size<c.size;have⟨y,b,h2,e⟩:=M4 c _ f;exact⟨y,_,.NB h2,by omega⟩;by_cases g:i-a.size-c.size<d.size;have⟨y,b,h2,e⟩:=M4 d _ g;exact⟨y,_,.NC h2,by omega⟩;exact⟨_,0,.refl _,by simp only[X.size]at h⊢;omega⟩
def EA.top{x y b}(h:EA x y b):(x.row 0)[b+y.size-1]?=ae (y.top b):=by have:=(h.at (E2 x)).get;grind
def ZI(x i)(h:i<x.size):∃ y b,EA x y b/\b+y.size=i+1/\(Rk x)[i]?=ae y/\(x.row 0)[i]?=ae (y.top b):=by have⟨y,b,a,h2⟩:=M4 x i h;have e:i=b+y.size-1:=zo;exact⟨y,b,a,h2,e ▸ a.get,e ▸ a.top⟩
def kd(op:Int)(named:Bool)(a b c:Int):Int:=
 if op=1\/op=2/\named=ad then 1
 else if op=3\/op=4 then 2
 else if op=5/\a=1\/7<=op/\op<=11/\a=1/\b=1 then 1
 else if 12<=op/\op<=15/\a=1/\b=1\/(op=16\/op=17)/\a=b/\a≠0 then 2
 else if op=6/\a=2\/18<=op/\op<=21/\a=2/\b=2 then 2
 else if op=22/\a=2/\b=c then b else 0
def Jn{op nm a b c}(d:0<=b/\b<=2):0<=kd op nm a b c/\kd op nm a b c<=2:=by unfold kd;grind
def Ux(names:List bS):X->Int
 |.leaf op _ name=>kd op (names.contains name) 0 0 0|.un op a=>kd op (names.contains []) (Ux names a) 0 0|.DP op a b=>kd op (names.contains []) (Ux names a) (Ux names b) 0|.ite a b c=>kd 22 (names.contains []) (Ux names a) (Ux names b) (Ux names c)
def Jm(names):∀ x,0<=Ux names x/\Ux names x<=2
 |.leaf .. => Jn zd|.un .. => Jn zd|.DP _ a b=>Jn (Jm names b)|.ite a b c=>Jn (Jm names b)
def M_(names:List bS):List X->Int->iS->iS×Int×Int
 |[],_,acc=>(acc,0,0)|y::r,i,acc=>if Ux names y=0 then([],i,90)else M_ names r (i+1) (acc++[Ux names y])
def Mu(ks:iS)(i:Int):Int:=if i<0 then 0 else ks.getD i.toNat 0
def Ss(names:List bS)(n:XN)(ks:iS):Int:=kd n.op (names.contains n.name) (Mu ks n.a) (Mu ks n.b) (Mu ks n.c)
def GO(names:List bS):List XN->Int->iS->iS×Int×Int
 |[],_,acc=>(acc,0,0)|n::r,i,acc=>if Ss names n acc=0 then([],i,90)else GO names r (i+1) (acc++[Ss names n acc])
def gA(ks):Mu ks (-1)=0:=rfl
def If{names x y b i}(h:EA x y b)(hi:b+y.size<=i):Mu (((Rk x).take i).map (Ux names)) ((b:Int)+y.size-1)=Ux names y:=by have a:=y.size_pos;unfold Mu;rw[AA (by omega),show((b:Int)+y.size-1).toNat=b+y.size-1 by omega];rw[DK,ED,OU,AF (by omega),h.get];rfl
def rT{names x y b i}(h:EA x y b)(hi:b+y.size=i+1):Ss names (y.top b) (((Rk x).take i).map (Ux names))=Ux names y:=by rcases y with⟨op,num,name⟩|⟨op,a⟩|⟨op,a,c⟩|⟨a,c,d⟩;rfl;have e:EA x a b:=h.trans (.un (.refl a));simp only[X.size]at hi;simp only[Ss,X.top,gA,Ux];rw[If e (by omega)];have e:EA x a b:=h.trans (.MV (.refl a));have h2:=h.trans (.MW (.refl c));rw[GN]at h2;simp only[X.size]at hi;simp only[Ss,X.top,gA,Ux];have:=If (names:=names) h2 (i:=i) (by omega);rw[show((b+a.size:Nat):Int)+c.size-1=(b:Int)+a.size+c.size-1 by omega]at this;rw[If e (by omega),this];have e:EA x a b:=h.trans (.NA (.refl a));have h2:=h.trans (.NB (.refl c));have j:=h.trans (.NC (.refl d));rw[GN]at h2 j;simp only[X.size]at hi;simp only[Ss,X.top,Ux];have g:=If (names:=names) h2 (i:=i) (by omega);rw[show((b+a.size:Nat):Int)+c.size-1=(b:Int)+a.size+c.size-1 by omega]at g;have f:=If (names:=names) j (i:=i) (by omega);rw[show((b+(a.size+c.size):Nat):Int)+d.size-1=(b:Int)+a.size+c.size+d.size-1 by omega]at f;rw[If e (by omega),g,f]
def dD{names}(x):∀ (m i:Nat),i+m=x.size->GO names ((x.row 0).drop i) i (((Rk x).take i).map (Ux names))=M_ names ((Rk x).drop i) i (((Rk x).take i).map (Ux names))
 |0,i,h=>by rw[QC (by rw[X.row_len];omega),QC (by rw[W8];omega)];rfl
 |m+1,i,h=>by
  have⟨y,b,f,h2,a,e⟩:=ZI x i (by omega);have⟨d,j⟩:=DG.1 a;have⟨c,g⟩:=DG.1 e;rw[FL c,FL d,j,g,GO,M_,rT f h2];have k:=dD (names:=names) x m (i+1) (by omega);have l:((Rk x).take (i+1)).map (Ux names)=((Rk x).take i).map (Ux names)++[Ux names y]:=by rw[IZ,a];simp
  grind
def TU(k:Nat)(n:XN):Prop:=Tm n=ad/\(0<Z7 n.op->0<=n.a/\n.a<k)/\(1<Z7 n.op->0<=n.b/\n.b<k)/\(2<Z7 n.op->0<=n.c/\n.c<k) /\
 (¬0<Z7 n.op->n.a = -1)/\(¬1<Z7 n.op->n.b = -1)/\(¬2<Z7 n.op->n.c = -1)
def sy{x y b i}(j:x.ok=ad)(h:EA x y b)(hi:b+y.size=i+1):TU i (y.top b):=by
 have f:=h.ok j;rcases y with⟨op,num,name⟩|⟨op,a⟩|⟨op,a,c⟩|⟨a,c,d⟩;simp only[X.ok,BP,CM]at f;have e:Z7 op=0:=by unfold Z7;rw[AF f.2]
 refine⟨f.1,?_⟩;simp only[X.top,e];exact⟨λh=>absurd h zd,λh=>absurd h zd,λh=>absurd h zd,λ_=>trivial,λ_=>trivial,λ_=>trivial⟩;simp only[X.ok,BP,CM]at f;have e:Z7 op=1:=by unfold Z7;rw[AA (by omega),AF (by omega)]
 have g:=a.size_pos;simp only[X.size]at hi;refine⟨Pv (by omega) _ _ _,?_⟩;simp only[X.top,e];exact⟨λ_=>by omega,λh=>absurd h zd,λh=>absurd h zd,λh=>absurd zd h,λ_=>trivial,λ_=>trivial⟩;simp only[X.ok,BP,CM]at f;have e:Z7 op=2:=by unfold Z7;rw[AA (by omega),AA (by omega),AF (by omega)]
 have g:=a.size_pos;simp only[X.size]at hi;refine⟨Pv (by omega) _ _ _,?_⟩;simp only[X.top,e];exact⟨λ_=>by omega,λ_=>by omega,λh=>absurd h zd,λh=>absurd zd h,λh=>absurd zd h,λ_=>trivial⟩;have e:Z7 22=3:=zd;have g:=a.size_pos;simp only[X.size]at hi;refine⟨Pv zd _ _ _,?_⟩;simp only[X.top,e];exact⟨λ_=>by omega,λ_=>by omega,λ_=>by omega,λh=>absurd zd h,λh=>absurd zd h,λh=>absurd zd h⟩
def tK{l}(h:Wg l≠0){i n}(a:l[i]?=ae n):TU i n:=by
 obtain⟨x,c,rfl⟩:=Gf h;have d:i<x.size:=by rw[<- X.row_len x 0];grind
 have⟨y,b,f,h2,g,e⟩:=ZI x i d;rw[e]at a;cases a;exact sy c f h2
open Go.Proofs
set_option maxRecDepth 10000
def ruleC:List V:=[0,0,0,0,0,0,0,1,0,0,0,1,0,0,0,2,0,0,0,2,1,0,0,1,2,0,0,2,1,1,0,1,1,1,0,1,1,1,0,1,1,1,0,1,1,1,0,1,1,1,0,2,1,1,0,2,1,1,0,2,1,1,0,2,3,3,0,2,3,3,0,2,2,2,0,2,2,2,0,2,2,2,0,2,2,2,0,2,2,3,3,3].map (V.int .u8)
def OC(op:Nat):Int:=if op<=4 then 0 else if op=5\/(7<=op/\op<=15)then 1 else if op=16\/op=17 then 3 else 2
def RJ(op:Nat):Int:=if op<=6 then 0 else if op<=15 then 1 else if op<=17\/op=22 then 3 else 2
def N'(op:Nat):Int:=if op=22 then 3 else 0
def UE(op:Nat):Int:=if op=0 then 0 else if op<=2 then 1 else if op=22 then 3 else if op=5\/(7<=op/\op<=11)then 1 else 2
def uv(op)(h:op<23):(ruleC.drop (op*4)).take 4=[.int .u8 (OC op),.int .u8 (RJ op),.int .u8 (N' op),.int .u8 (UE op)]:=by match op,h with|0,_=>rfl|1,_=>rfl|2,_=>rfl|3,_=>rfl|4,_=>rfl|5,_=>rfl|6,_=>rfl|7,_=>rfl|8,_=>rfl|9,_=>rfl|10,_=>rfl|11,_=>rfl|12,_=>rfl|13,_=>rfl|14,_=>rfl|15,_=>rfl|16,_=>rfl|17,_=>rfl|18,_=>rfl|19,_=>rfl|20,_=>rfl|21,_=>rfl|22,_=>rfl|n+23,h=>omega
def rJ(G)(a:Yy G):Spec () G 253 [] Zm (V.agg ruleC):=by refine Zo 0 39 [.cell 0 300] func253 λX=>?_;refine Z1 ?_;intro f;refine Z1 ?_;intro e d;refine Z1 ?_;intro c b;exact Zr
def ABU(G)(p:Yy G)(c)(t:bS)(s)(n:s.l.length<1000000):Spec () G 286 [t,Za c 1 V.AB s] Zm (s.l.contains t):=by
 refine Zo 0 18 [.tmp 4] func286 λX=>?_;refine Z1 ?_;refine Z1 ?_;refine BK ?_;refine Z8 [0,1] [] (aa s.l) (λk  _=>[(5,k)]) (λ_ _=>[]) (λk _=>(s.l.take k).contains t=ab) 0 () qz rfl zp zp ?_;intro k _ o f q g;refine Z1 ?_;refine Zi rfl (λi=>?_) (λi=>?_);have a:=zu i;have j:=AY a;have e:s.l.take (k+1)=s.l.take k++[s.l[k]]:=by rw[DO a]
 have b:=BT a;generalize s.l[k]=x at j e b;refine Ym j ?_;refine Zi rfl (λd=>?_) (λd=>?_);have d:=zu d;refine Z ?_;have:s.l.contains t=ad:=by rw[<- d];simpa using b
 rw[this];have d:=zu d;refine Z1 ?_;refine g _ ⟨a,(),?_,AO zw zp⟩;rw[e];simp only[NL,IL]at f⊢;intro m;rcases DX.1 m with h|h;exact f h;exact d ((CP.1 h).symm);have a:k=aa s.l:=by simp at i;omega
 refine Z ?_;rw[a,B_]at f;rw[f]
def xJ(G)(q:Yy G)(c)(t:bS)(s)(o:s.l.length<1000000):Spec () G 201 [Za c 1 V.AB s,t] Zm (λv _=>∃ i,v=qI i/\decide (i>=0)=s.l.contains t):=by
 refine Zo 0 19 _ func201 λX=>?_;refine Z1 ?_;refine Z1 ?_;refine BK ?_;refine Z8 [0,1,7] [] (aa s.l) (λk  _=>[(8,k)]) (λ_ _=>[]) (λk _=>(s.l.take k).contains t=ab) 0 () qz rfl zp zp ?_;intro k _ p f r g;refine Z1 ?_;refine Zz ?_;refine Zi rfl (λj=>?_) (λj=>?_);have a:=zu j;have m:=AY a;have e:s.l.take (k+1)=s.l.take k++[s.l[k]]:=by rw[DO a]
 have b:=BT a;generalize s.l[k]=x at m e b;refine Z1 ?_;refine Ym m ?_;refine Zi rfl (λd=>?_) (λd=>?_);have d:=zu d;refine Z ?_;have:s.l.contains t=ad:=by rw[d];simpa using b
 rw[this];exact⟨_,rfl,by rw[OH];omega⟩;have d:=zu d;refine Z1 ?_;refine g _ ⟨a,(),?_,AO zw zp⟩;rw[e];simp only[NL,IL]at f⊢;intro n;rcases DX.1 n with h|h;exact f h;exact d (CP.1 h);have a:k=aa s.l:=by simp at j;omega
 refine Z ?_;rw[a,B_]at f;rw[f];exact⟨_,rfl,rfl⟩
def Tx(G)(a:Yy G)(c)(t:bS)(s)(b:s.l.length<1000000):Spec () G 144 [Za c 1 V.AB s,t] Zm (s.l.contains t):=by refine Zo 0 9 [.tmp 4] func144 λX=>?_;refine Z1 ?_;refine Z1 ?_;refine GS a zk ?_;refine Zs ?_;refine(xJ G a _ t s b).mono ?_;rintro _ _ ⟨i,rfl,d⟩;refine Zs ?_;refine Z ?_;rw[d]
def mg(G)(h:Yy G)(c s)(g:s.l.length<1000000)(i:Int)(hi:i<0\/0<=i/\i<s.l.length):Spec () G 274 [i,.view .old (Za c 1 (V.int .u8) s)] Zm (V.int .u8 (Mu s.l i)):=by
 refine Zo 0 10 [.tmp 3] func274 λX=>?_;have a:Mu _ i=if i<0 then 0 else s.l.getD _ 0:=rfl;generalize Mu _ i=e at a⊢;refine Z1 ?_;refine Z1 ?_;refine Zi rfl (λh2=>?_) (λh2=>?_);have h2:=zu h2;rw[AF h2]at a;refine Z ?_;rw[a];have h2:¬i<0:=zu h2;rw[AA h2]at a;obtain⟨m,rfl⟩:∃ m:Nat,i=m:=⟨i.toNat,zo⟩;have f:m<aa s.l:=zo;have d:=AY f;have b:s.l.getD ((m:Nat):Int).toNat 0=s.l[m]:=by rw[GZ,DK,d]<;>rfl
 rw[b]at a;generalize s.l[m]=x at d a;refine Zf d ?_;rw[a]
