/- A part. No condition. -/
import Derived.Test.YtkennpiglkfalaaGreatDoorP19
set_option linter.all false
open Bool renaming false->ab,true->ad
open Option renaming some->ae,none->ah
open List renaming range->aE
namespace Go.Hs
section
variable{P:Program}{E:BX}{kp:FP}
def O4(o:Oper):Bool:=
 match o.op with|.alloc _|.box .. |.buildSlice .. |.makeSlice .. => ab|.makeMap _ ah=>ab|.load .. => ab|.call {callee:=.value _,.. }=>ab|_=>ad
def Q0(o:Oper):Bool:=
 match o.op with|.alloc _|.box .. |.buildSlice .. |.makeSlice .. => ad|.makeMap _ ah=>ad|_=>ab
def Kt(P:Program)(E:BX)(AX:Md)(v:V)(H:A')(f:V)(args:List V):Prop:=
 match f with
 |.func (.func fid) first cap=>(match AX with|.CO=>BorC P E.G fid (first++args++cap) H v|.own=>OwnC P E.G fid (first++args++cap) v|_=>J3 P E.G fid (first++args++cap) v)
 |_=>False
def LZ(m:Md)(A B:Prop):Prop:=match m with|.any=>B|.keep=>B|_=>A
@[congr] def AD7{m m' A B}(h:m=m'):LZ m A B=LZ m' A B:=by rw[h]
def nJ(A B):LZ .pure A B=A:=rfl
def nn(A B):LZ .CO A B=A:=rfl
def AAu(A B):LZ .own A B=A:=rfl
def XJ(A B):LZ .any A B=B:=rfl
def ZL(A B):LZ .keep A B=B:=rfl
attribute[go_sem]nJ nn AAu XJ ZL
def ZS(T:MK)(i:Nat):Md:=T.AX i
@[go_sem] def ADZ(f g i):ZS ⟨f,g⟩ i=g i:=rfl
def LY(m:Md)(A B C:Prop):Prop:=match m with|.CO=>A|.keep=>C|_=>B
@[congr] def ADv{m m' A B C}(h:m=m'):LY m A B C=LY m' A B C:=by rw[h]
def WY(A B C):LY .pure A B C=B:=rfl
def W1(A B C):LY .CO A B C=A:=rfl
def XO(A B C):LY .own A B C=B:=rfl
def XS(A B C):LY .any A B C=B:=rfl
def W2(A B C):LY .keep A B C=C:=rfl
attribute[go_sem]WY W1 XO XS W2
def OK(P:Program)(kp:FP)(H:A')(A:Prop):Prop:=match kp with|[]=>A|p::r=>(W0 P H p.1 p.2.1=ae p.2.2/\OK P r H A)
@[go_sem] def ADq(H A):OK P [] H A=A:=rfl
@[go_sem] def vy(p)(r:FP)(H A):OK P (p::r) H A=(W0 P H p.1 p.2.1=ae p.2.2/\OK P r H A):=rfl
def jt:∀ {kp} {H} {A},OK P kp H A↔KpH P kp H/\A
 |[],H,A=>⟨λh=>⟨λp d=>zG,h⟩,λh=>h.2⟩|p::r,H,A=>by rw[vy,jt];constructor;rintro⟨b,h2,c⟩;refine⟨λq a=>?_,c⟩;rcases BY.1 a with rfl|a;grind;exact h2 q a;rintro⟨b,h2⟩;exact⟨b p (GA ..),λq a=>b q (FR _ a),h2⟩
def JL(P:Program)(kp:FP)(Q:AS->Prop):AS->Prop:=λs=>OK P kp s.H (Q s)
@[go_sem] def ADs(Q):JL P [] Q=Q:=rfl
@[go_sem] def ADr(p)(r:FP)(Q τ H):JL P (p::r) Q ⟨τ,H⟩=(W0 P H p.1 p.2.1=ae p.2.2/\OK P r H (Q ⟨τ,H⟩)):=rfl
def Il{kp Q}{s:AS}{H d v}:JL P kp Q (AS.put {s with H:=H} d v)↔KpH P kp H/\Q (AS.put {s with H:=H} d v):=by unfold JL;rw[Ta];exact jt
def Z_(P:Program)(kp:FP)(b:Bool)(Q:AS->Prop):AS->Prop:=match b with|true=>Q|false=>JL P kp Q
@[go_sem] def ADu(Q):Z_ P kp ad Q=Q:=rfl
@[go_sem] def ADt(Q):Z_ P kp ab Q=JL P kp Q:=rfl
def UU(P:Program)(kp:FP)(t:TypeId)(a v:V)(H:A')(A:Prop):Prop:=((t,a,v)∈kp/\KpH P kp H)/\A
def I8(t a):W0 P Zm t a=Uc P t a:=by cases a<;>first|rfl|grind
def M3(o:Oper):Bool:=
 match o.op with|.move _|.assign _|.pick .. |.binOp .. |.unOp .. |.convert .. |.extract .. |.field .. |.build .. |.fieldAddr .. |.indexAddr .. |.index .. |.slice .. |.makeFunc .. |.makeInterface .. |.nilCheck _|.lookup .. |.typeAssert .. => ad|.alloc _|.box .. |.buildSlice .. |.makeSlice .. => ad|.makeMap _ ah=>ad|.call {callee:=.builtin .len,.. }=>ad|.call {callee:=.builtin .max,.. }=>ad|.call {callee:=.builtin .min,.. }=>ad|_=>ab
def LX(P:Program)(kp:FP)(b:Bool)(Q:AS->Prop)(s:AS):Prop:=match b with|true=>Q s|false=>JL P kp Q s
def Xx(P:Program)(E:BX)(kp:FP)(ops:Array Oper)(Q:AS->Prop)(T:MK):Nat->List Oper->AS->Prop
 |_,[],s=>Q s
 |i,o::rest,s=>Nn (Yc ops s.τ o) (Xx P E kp ops Q T (i+1) rest (s.put o.dst (.tuple [])))
   (match o.op with
    |.call {callee:=.value f,args,.. }=>LZ (T.AX i) (Kt P E (T.AX i) (T.vs i) s.H (s.ev E f) (args.toList.map (s.ev E))/\Xx P E kp ops Q T (i+1) rest (s.put o.dst (T.vs i)))
      (Y1 P E s o λv a=>JL P kp (Xx P E kp ops Q T (i+1) rest) (AS.put {s with H:=a} o.dst v))
    |.load t x=>LY (T.AX i) (N7 (W0 P Zm t (s.ev E x)) λv=>Xx P E kp ops Q T (i+1) rest (s.put o.dst v)) (Y1 P E s o λv a=>Xx P E kp ops Q T (i+1) rest (AS.put {s with H:=a} o.dst v))
      (UU P kp t (s.ev E x) (T.vs i) s.H (Xx P E kp ops Q T (i+1) rest (s.put o.dst (T.vs i))))
    |_=>(Q0 o=ad->∃ d,o.dst=ae d/\s.H (E.q+d)=.AR)/\Y1 P E s o λv a=>LX P kp (M3 o) (Xx P E kp ops Q T (i+1) rest) (AS.put {s with H:=a} o.dst v))
def Do{ops Q T}:∀ l k s,(∀ j,l[j]?=ops[k+j]?)->Xx P E kp ops Q T k l s ->
  Nl P E kp ops T Q ((aE l.length).map (k + ·)) s
 |[],k,s,_,h=>h|o::rest,k,s,hl,h=>by
  have V:ops[k]?=ae o:=by have:=hl 0;simpa using this.symm
  have R:∀ j,rest[j]?=ops[k+1+j]? := λj=>by have:=hl (j+1);rw[show k+1+j=k+(j+1) by omega];simpa using this
  have B:(aE (o::rest).length).map (k + ·)=k::(aE rest.length).map (k+1 + ·):=by simp only[CW,OY,BI,GN,EL];congr 1;apply FQ;intro j _;simp;omega
  have w:∀ M,Xx P E kp _ Q T _ _ M->Nl P E kp _ T Q _ M:=λM=>Do _ _ M R;rw[B];simp only[Nl,V];unfold Ow;simp only[Xx]at h;cases S:Yc _ s.τ o with
  |none=>rw[S]at h;exact h.elim|some b=>
   rw[S]at h;cases b with
   |false=>exact w _ h|true=>
    simp only[Nn]at h⊢;split at h
    .rename_i f F L hop;have⟨J,N,D,pos,after,z⟩:=o;simp only at hop;subst hop;cases y:T.AX k with
     |any=>rw[y,XJ]at h;have n:=Wa (λv A e=>(Il.1 e).imp id (w _)) h;unfold Wm;exact n|keep=>rw[y,ZL]at h;have n:=Wa (λv A e=>(Il.1 e).imp id (w _)) h;unfold Wm;exact n|CO=>rw[y]at h;have⟨i,h2⟩:=h;unfold Kt at i;unfold Wm;split at i;rename_i I first K G;simp only[Yo,G];exact⟨i,w _ h2⟩;exact i.elim
     |pure=>rw[y]at h;have⟨i,h2⟩:=h;unfold Kt at i;unfold Wm;split at i;rename_i I first K G;simp only[Yo,G];exact⟨i,w _ h2⟩;exact i.elim
     |own=>rw[y]at h;have⟨i,h2⟩:=h;unfold Kt at i;unfold Wm;split at i;rename_i I first K G;simp only[Yo,G];exact⟨i,w _ h2⟩;exact i.elim
    .rename_i t x hop;have⟨J,N,D,pos,after,z⟩:=o;simp only at hop;subst hop;cases y:T.AX k with
     |CO=>rw[y,W1,I8]at h;unfold Wm;simp only[Yo,Ha];cases U:Uc P t (s.ev E x)with|none=>rw[U]at h;exact h.elim|some u=>rw[U]at h;exact w _ h
     |keep=>rw[y,W2]at h;unfold Wm;simp only[Yo,Ha];exact⟨h.1,w _ h.2⟩|pure=>rw[y,WY]at h;have n:=Wa (λv A e=>w _ e) h;unfold Wm;exact n|own=>rw[y,XO]at h;have n:=Wa (λv A e=>w _ e) h;unfold Wm;exact n|any=>rw[y,XS]at h;have n:=Wa (λv A e=>w _ e) h;unfold Wm;exact n
    .rename_i hne hnl;have⟨i,h2⟩:=h;have g:M3 o=ad->Y1 P E s o λv A=>Nl P E kp ops T Q ((aE rest.length).map (k+1 + ·)) (AS.put {s with H:=A} o.dst v):=λO=>
      Wa (λv A e=>w _ (by rw[O]at e;exact e)) h2
     have p:M3 o=ab->Y1 P E s o λv A=>KpH P kp A/\Nl P E kp ops T Q ((aE rest.length).map (k+1 + ·)) (AS.put {s with H:=A} o.dst v):=λO=>
      Wa (λv A e=>(by rw[O]at e;exact(Il.1 e).imp id (w _))) h2
     have⟨J,N,D,pos,after,z⟩:=o;unfold Wm;cases N<;>try(first|exact g rfl|exact p rfl|exact absurd rfl (hnl _ _))
     case makeMap t r=>
      cases r with|some r=>exact p rfl|none=>have⟨d,q,a⟩:=i rfl;simp only at q;subst q;exact⟨a,g rfl⟩
     have⟨d,q,a⟩:=i rfl;simp only at q;subst q;exact⟨a,g rfl⟩;have⟨d,q,a⟩:=i rfl;simp only at q;subst q;exact⟨a,g rfl⟩;have⟨d,q,a⟩:=i rfl;simp only at q;subst q;exact⟨a,g rfl⟩;have⟨d,q,a⟩:=i rfl;simp only at q;subst q;exact⟨a,g rfl⟩
     .rename_i c;have⟨C,F,L⟩:=c;cases C with|value f=>exact absurd rfl (hne f F L)|invoke r m=>exact p rfl|builtin b=>cases b<;>first|exact g rfl|exact p rfl
def U6{id ops Q s}(kp T)(b:P.follows .mixedOrders=ad)(d:Yy E.G)(c:(ops.all (W4 E.n))=ad)(a:Hq ops T.AX 0 ops.toList=ad)(h:Xx P E kp ops (Q .normal) T 0 ops.toList s):AW P E (.region id ops ad) Q s:=by refine xz b d kp T c a ?_;have:=Do _ 0 s (λj=>zS) h;simp_all
def Zv{id ops Q s}(T)(b:P.follows .mixedOrders=ad)(d:Yy E.G)(c:(ops.all (W4 E.n))=ad)(a:Hq ops T.AX 0 ops.toList=ad)(h:Xx P E [] ops (Q .normal) T 0 ops.toList s):AW P E (.region id ops ad) Q s:=U6 [] T b d c a h
section
variable{ops:Array Oper}{Q:AS->Prop}{T:MK}{rest:List Oper}{τ:Nat->V}{H:A'}{d:Option Nat}{ty:TypeId}{pos:String}{af:Array Edge}{i:Nat}
def u5(s):Xx P E kp ops Q T i [] s=Q s:=rfl
def ru(l op j want):Xx P E kp ⟨l⟩ Q T i (⟨d,op,ty,pos,af,ae (j,want)⟩::rest) ⟨τ,H⟩ =
   Nn (Eb ((M6 l j).map τ) want) (Xx P E kp ⟨l⟩ Q T (i+1) rest (AS.put ⟨τ,H⟩ d (.tuple []))) (Xx P E kp ⟨l⟩ Q T i (⟨d,op,ty,pos,af,ah⟩::rest) ⟨τ,H⟩):=by
 have a:Yc ⟨l⟩ τ ⟨d,op,ty,pos,af,ae (j,want)⟩=Eb ((M6 l j).map τ) want:=by unfold Yc M6;simp only[LH];cases(l[j]?).bind _ with|none=>rfl|some e=>rfl
 simp only[Xx];rw[a];rfl
def r7(f l ats):Xx P E kp ops Q T i (⟨d,.call ⟨.value f,⟨l⟩,ats⟩,ty,pos,af,ah⟩::rest) ⟨τ,H⟩ =
  LZ (ZS T i) (Kt P E (T.AX i) (T.vs i) H (AS.ev E ⟨τ,H⟩ f) (l.map (AS.ev E ⟨τ,H⟩))/\Xx P E kp ops Q T (i+1) rest (AS.put ⟨τ,H⟩ d (T.vs i)))
   (Yx P E ops (JL P kp (Xx P E kp ops Q T (i+1) rest)) [⟨d,.call ⟨.value f,⟨l⟩,ats⟩,ty,pos,af,ah⟩] ⟨τ,H⟩):=by
 rfl
def yL(v fid first cap args):Kt P E .pure v H (.func (.func fid) first cap) args=J3 P E.G fid (first++args++cap) v:=rfl
def nC(v fid first cap args):Kt P E .own v H (.func (.func fid) first cap) args=OwnC P E.G fid (first++args++cap) v:=rfl
def yi(v fid first cap args):Kt P E .CO v H (.func (.func fid) first cap) args=BorC P E.G fid (first++args++cap) H v:=rfl
attribute[go_sem]u5 ru r7 yL nC yi
def U_(o:Option V)(K:V->Prop):Prop:=N7 o K
@[go_sem] def ADH(v K):U_ (ae v) K=K v:=rfl
@[congr] def ADA{o o' K}(h:o=o'):U_ o K=U_ o' K:=by rw[h]
def Wp(o)(h:o.guard=ah)(d:O4 o=ad)(l:M3 o=ad):Xx P E kp ops Q T i (o::rest) ⟨τ,H⟩=Yx P E ops (Xx P E kp ops Q T (i+1) rest) [o] ⟨τ,H⟩:=by
 have⟨f,g,b,pos,after,e⟩:=o;simp only at h;subst h;rw[T6];simp only[Xx,YO];have k:Yc ops τ ⟨f,g,b,pos,after,ah⟩=ae _:=rfl;rw[k,Jo];rw[l];cases g<;>first
  |(simp only[Q0,LX,IP,PO,KE];done)|(simp[O4]at d;done)|skip
 case makeMap t r=>cases r<;>first|(simp only[Q0,LX,IP,PO,KE];done)|(simp[O4]at d;done)
 all_goals first|(cases d;done)|skip
 rename_i c;have⟨a,j,m⟩:=c;cases a<;>simp[Q0,LX,O4]at d⊢
def Dn(o)(h:o.guard=ah)(d:O4 o=ad)(l:M3 o=ab):Xx P E kp ops Q T i (o::rest) ⟨τ,H⟩=Yx P E ops (JL P kp (Xx P E kp ops Q T (i+1) rest)) [o] ⟨τ,H⟩:=by
 have⟨f,g,b,pos,after,e⟩:=o;simp only at h;subst h;rw[T6];simp only[Xx,YO];have k:Yc ops τ ⟨f,g,b,pos,after,ah⟩=ae _:=rfl;rw[k,Jo,l];cases g<;>first
  |(simp only[Q0,LX,IP,PO,KE];done)|(simp[O4]at d;done)|skip
 case makeMap t r=>cases r<;>first|(simp only[Q0,LX,IP,PO,KE];done)|(simp[O4]at d;done)
 all_goals first|(cases d;done)|skip
 rename_i c;have⟨a,j,m⟩:=c;cases a<;>simp[Q0,LX,O4]at d⊢
def Og(e:Nat)(op)(a:Q0 ⟨ae e,op,ty,pos,af,ah⟩=ad):Xx P E kp ops Q T i (⟨ae e,op,ty,pos,af,ah⟩::rest) ⟨τ,H⟩ =
  (H (E.q+e)=.AR/\Yx P E ops (Xx P E kp ops Q T (i+1) rest) [⟨ae e,op,ty,pos,af,ah⟩] ⟨τ,H⟩):=by
 rw[T6];simp only[Xx,YO];have b:Yc ops τ ⟨ae e,op,ty,pos,af,ah⟩=ae _:=rfl;rw[b,Jo];cases op
 case makeMap t r=>cases r<;>simp[Q0,LX,M3]at a⊢
 all_goals simp[Q0,LX,M3]at a⊢
section
def qw(x):Xx P E kp ops Q T i (⟨d,.move x,ty,pos,af,ah⟩::rest) ⟨τ,H⟩=Yx P E ops (Xx P E kp ops Q T (i+1) rest) [⟨d,.move x,ty,pos,af,ah⟩] ⟨τ,H⟩:=Wp _ rfl rfl rfl
def AAe(x):Xx P E kp ops Q T i (⟨d,.assign x,ty,pos,af,ah⟩::rest) ⟨τ,H⟩=Yx P E ops (Xx P E kp ops Q T (i+1) rest) [⟨d,.assign x,ty,pos,af,ah⟩] ⟨τ,H⟩:=Wp _ rfl rfl rfl
def qO(x y z):Xx P E kp ops Q T i (⟨d,.pick x y z,ty,pos,af,ah⟩::rest) ⟨τ,H⟩=Yx P E ops (Xx P E kp ops Q T (i+1) rest) [⟨d,.pick x y z,ty,pos,af,ah⟩] ⟨τ,H⟩:=Wp _ rfl rfl rfl
def sh(o t x y u):Xx P E kp ops Q T i (⟨d,.binOp o t x y u,ty,pos,af,ah⟩::rest) ⟨τ,H⟩=Yx P E ops (Xx P E kp ops Q T (i+1) rest) [⟨d,.binOp o t x y u,ty,pos,af,ah⟩] ⟨τ,H⟩:=Wp _ rfl rfl rfl
def po(o t x):Xx P E kp ops Q T i (⟨d,.unOp o t x,ty,pos,af,ah⟩::rest) ⟨τ,H⟩=Yx P E ops (Xx P E kp ops Q T (i+1) rest) [⟨d,.unOp o t x,ty,pos,af,ah⟩] ⟨τ,H⟩:=Wp _ rfl rfl rfl
def mn(x n):Xx P E kp ops Q T i (⟨d,.extract x n,ty,pos,af,ah⟩::rest) ⟨τ,H⟩=Yx P E ops (Xx P E kp ops Q T (i+1) rest) [⟨d,.extract x n,ty,pos,af,ah⟩] ⟨τ,H⟩:=Wp _ rfl rfl rfl
def xA(t x n):Xx P E kp ops Q T i (⟨d,.fieldAddr t x n,ty,pos,af,ah⟩::rest) ⟨τ,H⟩=Yx P E ops (Xx P E kp ops Q T (i+1) rest) [⟨d,.fieldAddr t x n,ty,pos,af,ah⟩] ⟨τ,H⟩:=Wp _ rfl rfl rfl
def wS(t x y):Xx P E kp ops Q T i (⟨d,.indexAddr t x y,ty,pos,af,ah⟩::rest) ⟨τ,H⟩=Yx P E ops (Xx P E kp ops Q T (i+1) rest) [⟨d,.indexAddr t x y,ty,pos,af,ah⟩] ⟨τ,H⟩:=Wp _ rfl rfl rfl
def rO(t x a b c):Xx P E kp ops Q T i (⟨d,.slice t x a b c,ty,pos,af,ah⟩::rest) ⟨τ,H⟩=Yx P E ops (Xx P E kp ops Q T (i+1) rest) [⟨d,.slice t x a b c,ty,pos,af,ah⟩] ⟨τ,H⟩:=Wp _ rfl rfl rfl
def sM(t x):Xx P E kp ops Q T i (⟨d,.build t x,ty,pos,af,ah⟩::rest) ⟨τ,H⟩=Yx P E ops (Xx P E kp ops Q T (i+1) rest) [⟨d,.build t x,ty,pos,af,ah⟩] ⟨τ,H⟩:=Wp _ rfl rfl rfl
def ni(f x y):Xx P E kp ops Q T i (⟨d,.makeFunc f x y,ty,pos,af,ah⟩::rest) ⟨τ,H⟩=Yx P E ops (Xx P E kp ops Q T (i+1) rest) [⟨d,.makeFunc f x y,ty,pos,af,ah⟩] ⟨τ,H⟩:=Wp _ rfl rfl rfl
def nH(x):Xx P E kp ops Q T i (⟨d,.nilCheck x,ty,pos,af,ah⟩::rest) ⟨τ,H⟩=Yx P E ops (Xx P E kp ops Q T (i+1) rest) [⟨d,.nilCheck x,ty,pos,af,ah⟩] ⟨τ,H⟩:=Wp _ rfl rfl rfl
def rS(t x):Xx P E kp ops Q T i (⟨d,.load t x,ty,pos,af,ah⟩::rest) ⟨τ,H⟩ =
  LY (ZS T i) (U_ (W0 P Zm t (AS.ev E ⟨τ,H⟩ x)) λv=>Xx P E kp ops Q T (i+1) rest (AS.put ⟨τ,H⟩ d v)) (Yx P E ops (Xx P E kp ops Q T (i+1) rest) [⟨d,.load t x,ty,pos,af,ah⟩] ⟨τ,H⟩)
   (UU P kp t (AS.ev E ⟨τ,H⟩ x) (T.vs i) H (Xx P E kp ops Q T (i+1) rest (AS.put ⟨τ,H⟩ d (T.vs i)))):=by
 rfl
def qp(t x y):Xx P E kp ops Q T i (⟨d,.store t x y,ty,pos,af,ah⟩::rest) ⟨τ,H⟩=Yx P E ops (JL P kp (Xx P E kp ops Q T (i+1) rest)) [⟨d,.store t x y,ty,pos,af,ah⟩] ⟨τ,H⟩:=Dn _ rfl rfl rfl
def nM(b l ats):Xx P E kp ops Q T i (⟨d,.call ⟨.builtin b,l,ats⟩,ty,pos,af,ah⟩::rest) ⟨τ,H⟩=Yx P E ops (Z_ P kp (match b with|.len|.max|.min=>ad|_=>ab) (Xx P E kp ops Q T (i+1) rest)) [⟨d,.call ⟨.builtin b,l,ats⟩,ty,pos,af,ah⟩] ⟨τ,H⟩:=by
 cases b
 case len=>exact Wp _ rfl rfl rfl
 case max=>exact Wp _ rfl rfl rfl
 case min=>exact Wp _ rfl rfl rfl
 all_goals exact Dn _ rfl rfl rfl
def s_(e:Nat)(t):Xx P E kp ops Q T i (⟨ae e,.alloc t,ty,pos,af,ah⟩::rest) ⟨τ,H⟩=(H (E.q+e)=.AR/\Yx P E ops (Xx P E kp ops Q T (i+1) rest) [⟨ae e,.alloc t,ty,pos,af,ah⟩] ⟨τ,H⟩):=Og e _ rfl
def vR(e:Nat)(t x):Xx P E kp ops Q T i (⟨ae e,.box t x,ty,pos,af,ah⟩::rest) ⟨τ,H⟩=(H (E.q+e)=.AR/\Yx P E ops (Xx P E kp ops Q T (i+1) rest) [⟨ae e,.box t x,ty,pos,af,ah⟩] ⟨τ,H⟩):=Og e _ rfl
def B4(e:Nat)(t n x):Xx P E kp ops Q T i (⟨ae e,.buildSlice t n x,ty,pos,af,ah⟩::rest) ⟨τ,H⟩=(H (E.q+e)=.AR/\Yx P E ops (Xx P E kp ops Q T (i+1) rest) [⟨ae e,.buildSlice t n x,ty,pos,af,ah⟩] ⟨τ,H⟩):=Og e _ rfl
def vm(e:Nat)(t x y):Xx P E kp ops Q T i (⟨ae e,.makeSlice t x y,ty,pos,af,ah⟩::rest) ⟨τ,H⟩=(H (E.q+e)=.AR/\Yx P E ops (Xx P E kp ops Q T (i+1) rest) [⟨ae e,.makeSlice t x y,ty,pos,af,ah⟩] ⟨τ,H⟩):=Og e _ rfl
def mS(e:Nat)(t):Xx P E kp ops Q T i (⟨ae e,.makeMap t ah,ty,pos,af,ah⟩::rest) ⟨τ,H⟩=(H (E.q+e)=.AR/\Yx P E ops (Xx P E kp ops Q T (i+1) rest) [⟨ae e,.makeMap t ah,ty,pos,af,ah⟩] ⟨τ,H⟩):=Og e _ rfl
attribute[go_sem]qw AAe qO sh po mn xA wS rO sM ni nH rS qp nM s_ vR B4 vm mS
