/- A part. No condition. -/
import Derived.Test.YtkennpiglkfalaaGreatDoorP15
import Derived.Attr
set_option linter.all false
open List renaming length->aa
open Bool renaming false->ab,true->ad
open Option renaming some->ae,none->ah
namespace Go.Hs
section
variable{P:Program}{E:BX}
def N7{α:Type}(o:Option α)(K:α->Prop):Prop:=match o with|some v=>K v|none=>False
def Pj(P:Program)(E:BX)(ops:Array Oper)(Q:AS->Prop)(rest:List Oper)(d:Option Nat)(τ:Nat->V)(H:A')(o:Option V):Prop:=N7 o λv=>Yx P E ops Q rest (AS.put ⟨τ,H⟩ d v)
def gh(P:Program)(E:BX)(ops:Array Oper)(Q:AS->Prop)(rest:List Oper)(d:Option Nat)(τ:Nat->V)(o:Option A'):Prop:=N7 o λH=>Yx P E ops Q rest (AS.put ⟨τ,H⟩ d (.tuple []))
def RH(P:Program)(E:BX)(ops:Array Oper)(Q:AS->Prop)(rest:List Oper)(e:Nat)(τ:Nat->V)(H:A')(o:Option (List V)):Prop:=
 N7 o λa=>∀ g,Yx P E ops Q rest ⟨Ye τ e (.ptr (E.q+e) g 0),Ye H (E.q+e) (.cells .new g 0 a)⟩
def PD(P:Program)(E:BX)(ops:Array Oper)(Q:AS->Prop)(rest:List Oper)(e:Nat)(τ:Nat->V)(H:A')(o:Option (Nat×Nat×List V)):Prop:=
 N7 o λc=>∀ g,Yx P E ops Q rest ⟨Ye τ e (.A_ (E.q+e) g 0 c.2.1 c.1),Ye H (E.q+e) (.cells .new g 0 c.2.2)⟩
def AA3{α}(f k)(x:α)(n):Ye f k x n=if n=k then x else f n:=rfl
def AB1(τ H)(t:Nat):AS.ev E ⟨τ,H⟩ (.tmp t) = τ t:=rfl
def ABz(τ H k n):AS.ev E ⟨τ,H⟩ (.const (.int k n))=.int k n:=rfl
def y5(τ H b):AS.ev E ⟨τ,H⟩ (.const (.bool b))=.bool b:=rfl
def AB0(τ H s):AS.ev E ⟨τ,H⟩ (.const (.string s))=.AB s.data.toList:=rfl
def xM(τ H):AS.ev E ⟨τ,H⟩ (.const (.slice ah 0 0))=.AG:=rfl
def xm(τ H):AS.ev E ⟨τ,H⟩ (.const (.pointer ah))=.ET:=rfl
def yI(τ H):AS.ev E ⟨τ,H⟩ (.const .nilFunc)=.CN:=rfl
def yd(τ H f):AS.ev E ⟨τ,H⟩ (.func f)=.func (.func f) [] []:=rfl
def AA6(τ H g):AS.ev E ⟨τ,H⟩ (.global g)=E.G g:=rfl
def rC(τ H d v):AS.put ⟨τ,H⟩ (ae d) v=⟨Ye τ d v,H⟩:=rfl
def sD(τ H v):AS.put ⟨τ,H⟩ ah v=⟨τ,H⟩:=rfl
def uY(k t):Tq k [] t=.top:=rfl
def tB(k v r):Tq k (v::r)=Ye (Tq (k+1) r) k v:=rfl
attribute[go_sem]AA3 AB1 ABz y5 AB0 xM xm yI yd AA6 rC sD uY tB
attribute [go_sem] List.map_cons List.map_nil List.length_cons List.length_nil List.getElem?_cons_zero List.getElem?_cons_succ List.drop_succ_cons List.drop_zero List.take_succ_cons List.take_zero
 List.set_cons_zero List.set_cons_succ List.append_nil List.nil_append List.cons_append Option.map_some Option.map_none Nat.zero_add Nat.add_zero Int.toNat_natCast and_true true_and Bool.not_true Bool.not_false
 and_self Int.natCast_nonneg Bool.false_eq_true Bool.true_eq_false eq_self if_true if_false ne_eq not_true_eq_false not_false_eq_true false_implies true_implies Option.bind_some forall_const
section
variable{ops:Array Oper}{Q:AS->Prop}{rest:List Oper}{τ:Nat->V}{H:A'}{d:Option Nat}{ty:TypeId}{pos:String}{af:Array Edge}
@[go_sem] def YO(s):Yx P E ops Q [] s=Q s:=rfl
def Nn(b:Option Bool)(K0 K1:Prop):Prop:=match b with|some ad=>K1|some ab=>K0|none=>False
@[congr] def ADF{b b' K0 K1}(h:b=b'):Nn b K0 K1=Nn b' K0 K1:=by rw[h]
@[go_sem] def Jo(K0 K1):Nn (ae ad) K0 K1=K1:=rfl
@[go_sem] def ADE(K0 K1):Nn (ae ab) K0 K1=K0:=rfl
def RF(v:V)(want:Bool):Option Bool:=
 match v with|.bool b=>ae (b==want)|.tuple []=>ae ab|_=>ah
def xQ(b):RF (.bool b) ad=ae b:=by cases b<;>rfl
def u9(b):RF (.bool b) ab=ae (!b):=by cases b<;>rfl
def uf(want):RF (.tuple []) want=ae ab:=rfl
attribute[go_sem]xQ u9 uf
def M6(l:List Oper)(j:Nat):Option Nat:=(l[j]?).bind (·.dst)
@[go_sem] def ADM(o l):M6 (o::l) 0=o.dst:=rfl
@[go_sem] def ADN(o l j):M6 (o::l) (j+1)=M6 l j:=rfl
def Eb(v:Option V)(want:Bool):Option Bool:=match v with|some v=>RF v want|none=>ae ab
@[go_sem] def ADG(v want):Eb (ae v) want=RF v want:=rfl
def Dq(s o):Yx P E ops Q (o::rest) s=Nn (Yc ops s.τ o) (Yx P E ops Q rest (s.put o.dst (.tuple []))) (Y1 P E s o λv H'=>Yx P E ops Q rest (AS.put {s with H:=H'} o.dst v)):=by rfl
@[go_sem] def AED(l op j want):Yx P E ⟨l⟩ Q (⟨d,op,ty,pos,af,ae (j,want)⟩::rest) ⟨τ,H⟩ =
   Nn (Eb ((M6 l j).map τ) want) (Yx P E ⟨l⟩ Q rest (AS.put ⟨τ,H⟩ d (.tuple []))) (Yx P E ⟨l⟩ Q (⟨d,op,ty,pos,af,ah⟩::rest) ⟨τ,H⟩):=by
 rw[Dq,Dq];have b:Yc ⟨l⟩ τ ⟨d,op,ty,pos,af,ah⟩=ae _:=rfl;have a:Yc ⟨l⟩ τ ⟨d,op,ty,pos,af,ae (j,want)⟩=Eb ((M6 l j).map τ) want:=by unfold Yc M6;simp only[LH];cases(l[j]?).bind _ with|none=>rfl|some e=>rfl
 rw[a];rfl
variable(ops)
def Vx(op)(a:∀ K,Y1 P E ⟨τ,H⟩ ⟨d,op,ty,pos,af,ah⟩ K=(match E3 P (AS.ev E ⟨τ,H⟩) ⟨d,op,ty,pos,af,ah⟩with|some v=>K v H|none=>False)):Yx P E ops Q (⟨d,op,ty,pos,af,ah⟩::rest) ⟨τ,H⟩=Pj P E ops Q rest d τ H (E3 P (AS.ev E ⟨τ,H⟩) ⟨d,op,ty,pos,af,ah⟩):=by rw[Dq];have b:Yc ops (⟨τ,H⟩:AS).τ ⟨d,op,ty,pos,af,ah⟩=ae _:=rfl;rw[b,a];cases E3 P _ _<;>rfl
@[go_sem] def AEF(x):Yx P E ops Q (⟨d,.move x,ty,pos,af,ah⟩::rest) ⟨τ,H⟩=Yx P E ops Q rest (AS.put ⟨τ,H⟩ d (AS.ev E ⟨τ,H⟩ x)):=Vx _ _ λ_=>rfl
@[go_sem] def ADB(x):Yx P E ops Q (⟨d,.assign x,ty,pos,af,ah⟩::rest) ⟨τ,H⟩=Yx P E ops Q rest (AS.put ⟨τ,H⟩ d (AS.ev E ⟨τ,H⟩ x)):=Vx _ _ λ_=>rfl
def UK(c a b:V):Option V:=match c with|.bool ad=>ae a|.bool ab=>ae b|_=>ah
def pN(a b):UK (.bool ad) a b=ae a:=rfl
def wD(a b):UK (.bool ab) a b=ae b:=rfl
def we(c a b):UK (.bool c) (.bool a) (.bool b)=ae (.bool (if c then a else b)):=by cases c<;>rfl
def sq(c a b):Yx P E ops Q (⟨d,.pick c a b,ty,pos,af,ah⟩::rest) ⟨τ,H⟩ =
  Pj P E ops Q rest d τ H (UK (AS.ev E ⟨τ,H⟩ c) (AS.ev E ⟨τ,H⟩ a) (AS.ev E ⟨τ,H⟩ b)):=Vx _ _ λ_=>rfl
def uq(op t x y u):Yx P E ops Q (⟨d,.binOp op t x y u,ty,pos,af,ah⟩::rest) ⟨τ,H⟩ =
  Pj P E ops Q rest d τ H (Pl P op t (AS.ev E ⟨τ,H⟩ x) (AS.ev E ⟨τ,H⟩ y)):=Vx _ _ λ_=>rfl
def sR(op t x):Yx P E ops Q (⟨d,.unOp op t x,ty,pos,af,ah⟩::rest) ⟨τ,H⟩ =
  Pj P E ops Q rest d τ H (PS op (AS.ev E ⟨τ,H⟩ x)):=Vx _ _ λ_=>rfl
def og(t u x):Yx P E ops Q (⟨d,.convert t u x,ty,pos,af,ah⟩::rest) ⟨τ,H⟩ =
  Pj P E ops Q rest d τ H (Bl P t u (AS.ev E ⟨τ,H⟩ x)):=Vx _ _ λ_=>rfl
attribute[go_sem]pN wD we sq uq sR og
def ed(t:V)(i:Nat):Option V:=match t with|.tuple vs=>vs[i]? |_=>ah
def yT(vs i):ed (.tuple vs) i=vs[i]? := rfl
def oJ(x i):Yx P E ops Q (⟨d,.extract x i,ty,pos,af,ah⟩::rest) ⟨τ,H⟩ =
  Pj P E ops Q rest d τ H (ed (AS.ev E ⟨τ,H⟩ x) i):=Vx _ _ λ_=>rfl
def yr(t x f):Yx P E ops Q (⟨d,.fieldAddr t x f,ty,pos,af,ah⟩::rest) ⟨τ,H⟩ =
  Pj P E ops Q rest d τ H (S2 P t (AS.ev E ⟨τ,H⟩ x) f):=Vx _ _ λ_=>rfl
def yS(t x i):Yx P E ops Q (⟨d,.indexAddr t x i,ty,pos,af,ah⟩::rest) ⟨τ,H⟩ =
  Pj P E ops Q rest d τ H (Vu P t (AS.ev E ⟨τ,H⟩ x) (AS.ev E ⟨τ,H⟩ i)):=Vx _ _ λ_=>rfl
def tu(t x i):Yx P E ops Q (⟨d,.index t x i,ty,pos,af,ah⟩::rest) ⟨τ,H⟩ =
  Pj P E ops Q rest d τ H (Ok P t (AS.ev E ⟨τ,H⟩ x) (AS.ev E ⟨τ,H⟩ i)):=Vx _ _ λ_=>rfl
def tV(t x lo hi mx):Yx P E ops Q (⟨d,.slice t x lo hi mx,ty,pos,af,ah⟩::rest) ⟨τ,H⟩ =
  Pj P E ops Q rest d τ H (Uz P t (AS.ev E ⟨τ,H⟩ x) (lo.map (AS.ev E ⟨τ,H⟩)) (hi.map (AS.ev E ⟨τ,H⟩)) (mx.map (AS.ev E ⟨τ,H⟩))):=Vx _ _ λ_=>rfl
def uR(t l):Yx P E ops Q (⟨d,.build t ⟨l⟩,ty,pos,af,ah⟩::rest) ⟨τ,H⟩ =
  Pj P E ops Q rest d τ H (S3 P t (l.map λp=>(p.1,AS.ev E ⟨τ,H⟩ p.2))):=Vx _ _ λ_=>rfl
def o_(fn l m):Yx P E ops Q (⟨d,.makeFunc fn ⟨l⟩ ⟨m⟩,ty,pos,af,ah⟩::rest) ⟨τ,H⟩ =
  Yx P E ops Q rest (AS.put ⟨τ,H⟩ d (.func fn (l.map (AS.ev E ⟨τ,H⟩)) (m.map (AS.ev E ⟨τ,H⟩)))):=Vx _ _ λ_=>rfl
def oG(k k' x y):KR [.int k x,.int k' y]=ae (.int k (if y>x then y else x)):=rfl
def yk(k k' k'' x y z):KR [.int k x,.int k' y,.int k'' z]=ae (.int k (if z>(if y>x then y else x)then z else(if y>x then y else x))):=rfl
def vw(l ats):Yx P E ops Q (⟨d,.call ⟨.builtin .max,⟨l⟩,⟨ats⟩⟩,ty,pos,af,ah⟩::rest) ⟨τ,H⟩ =
  Pj P E ops Q rest d τ H (KR (l.map (AS.ev E ⟨τ,H⟩))):=Vx _ _ λ_=>rfl
def xH(x t):Yx P E ops Q (⟨d,.call ⟨.builtin .len,⟨[x]⟩,⟨[t]⟩⟩,ty,pos,af,ah⟩::rest) ⟨τ,H⟩ =
  Pj P E ops Q rest d τ H (B5 P t (AS.ev E ⟨τ,H⟩ x)):=Vx _ _ λ_=>rfl
def oY(x):Yx P E ops Q (⟨d,.nilCheck x,ty,pos,af,ah⟩::rest) ⟨τ,H⟩ =
  Pj P E ops Q rest d τ H (E3 P (AS.ev E ⟨τ,H⟩) ⟨d,.nilCheck x,ty,pos,af,ah⟩):=Vx _ _ λ_=>rfl
attribute[go_sem]yT oJ yr yS tu tV uR o_ oG yk vw xH oY
def T6(op):Yx P E ops Q (⟨d,op,ty,pos,af,ah⟩::rest) ⟨τ,H⟩=Y1 P E ⟨τ,H⟩ ⟨d,op,ty,pos,af,ah⟩ λv H'=>Yx P E ops Q rest (AS.put ⟨τ,H'⟩ d v):=by rfl
@[go_sem] def AEE(t x):Yx P E ops Q (⟨d,.load t x,ty,pos,af,ah⟩::rest) ⟨τ,H⟩ =
  Pj P E ops Q rest d τ H (W0 P H t (AS.ev E ⟨τ,H⟩ x)):=by
 rw[T6];simp only[Y1];cases W0 P H t _<;>rfl
@[go_sem] def AEG(t p x):Yx P E ops Q (⟨d,.store t p x,ty,pos,af,ah⟩::rest) ⟨τ,H⟩ =
  gh P E ops Q rest d τ (Kv P H t (AS.ev E ⟨τ,H⟩ p) (AS.ev E ⟨τ,H⟩ x)):=by
 rw[T6];simp only[Y1];cases Kv P H t _ _<;>rfl
def Wb(P:Program)(t:TypeId):Option (List V):=(Tj P t).bind λz=>if z.solid then ae z.cells else ah
@[go_sem] def AEA(t)(e:Nat):Yx P E ops Q (⟨ae e,.alloc t,ty,pos,af,ah⟩::rest) ⟨τ,H⟩ =
  RH P E ops Q rest e τ H (Wb P t):=by
 rw[T6];simp only[Y1,Wb,RH];rcases Tj P t with _|z;rfl;simp only[IK];cases a:z.solid;simp[N7];simp[N7,AS.put]
def XE(v:V):Option (List V):=if v.solid then ae v.cells else ah
@[go_sem] def AEB(t x)(e:Nat):Yx P E ops Q (⟨ae e,.box t x,ty,pos,af,ah⟩::rest) ⟨τ,H⟩ =
  RH P E ops Q rest e τ H (XE (AS.ev E ⟨τ,H⟩ x)):=by
 rw[T6];simp only[Y1,XE,RH];cases a:(AS.ev E _ x).solid;simp[N7];simp[N7,AS.put]
def Es(P:Program)(t:TypeId)(len:Nat)(CC:List (Nat×V)):Option (Nat×Nat×List V):=
 match P.underlying t with
 |some (.slice e)=>match Y0 P e,Wb P e with|some E,ae z=>if aa z=E/\len*E<=16777216 then(Uo (λi=>ae (i*E,E)) (Tr len z) CC).map λa=>(E,len,a)else ah|_,_=>ah
 |_=>ah
@[go_sem] def ADI(t)(len e:Nat)(l):Yx P E ops Q (⟨ae e,.buildSlice t len ⟨l⟩,ty,pos,af,ah⟩::rest) ⟨τ,H⟩ =
  PD P E ops Q rest e τ H (Es P t len (l.map λp=>(p.1,AS.ev E ⟨τ,H⟩ p.2))):=by
 rw[T6];simp only[Y1,T2,Es,Wb,PD];rcases P.underlying t with _|k;rfl;cases k<;>try rfl
 rename_i b;simp only;rcases Y0 P b with _|n;rfl;rcases Tj P b with _|z;rfl;simp only[IK];cases c:z.solid;simp[N7];simp only[EN,KE];by_cases a:aa z.cells=n/\len*n<=16777216
 .simp only[a.1,a.2];rcases Uo _ _ _ with _|cs;simp[N7];simp[N7,AS.put]
 simp only[N7];rw[<- and_assoc];simp[a]
def Ll(P:Program)(t:TypeId)(len cap:V):Option (Nat×Nat×List V):=
 match P.underlying t,len,cap with
 |some (.slice e),.int _ n,.int _ m=>match Y0 P e,Nq P e,Wb P e with|some E,ae bytes,ae z=>if aa z=E/\0<=n/\n<=m/\m<=4611686018427387904/\bytes*m<=281474976710656 then ae (E,n.toNat,Tr m.toNat z)else ah|_,_,_=>ah
 |_,_,_=>ah
@[go_sem] def ADL(t x y)(e:Nat):Yx P E ops Q (⟨ae e,.makeSlice t x y,ty,pos,af,ah⟩::rest) ⟨τ,H⟩ =
  PD P E ops Q rest e τ H (Ll P t (AS.ev E ⟨τ,H⟩ x) (AS.ev E ⟨τ,H⟩ y)):=by
 rw[T6];simp only[Y1,Ty,Ll,Wb,PD];generalize AS.ev E _ x=v;generalize AS.ev E _ y=u;rcases P.underlying t with _|k;rfl;cases k<;>try rfl
 rename_i b;cases v<;>try rfl
 cases u<;>try rfl
 rename_i k1 n k2 m;simp only;rcases Y0 P b with _|N;rfl;rcases Nq P b with _|B;rfl;rcases Tj P b with _|z;rfl;simp only[IK];cases c:z.solid;simp[N7];simp only[EN];by_cases a:aa z.cells=N/\0<=n/\n<=m/\m<=4611686018427387904/\B*m<=281474976710656;rw[AF a];simp only[a.1,a.2.1,a.2.2.1,a.2.2.2.1,a.2.2.2.2,KE,N7,AS.put];simp only[N7];simp only[<- and_assoc]at a⊢;simp[a]
def YM(P:Program)(E:BX)(ops:Array Oper)(Q:AS->Prop)(rest:List Oper)(d:Option Nat)(τ:Nat->V)(H:A')(f:V)(args:List V):Prop:=
 match f with
 |.func (.func fid) first cap=>CallP P E.G E.kp fid (first++args++cap) H λv a=>Yx P E ops Q rest (AS.put ⟨τ,a⟩ d v)
 |_=>False
def jF(P:Program)(E:BX)(ops:Array Oper)(Q:AS->Prop)(rest:List Oper)(d:Option Nat)(τ:Nat->V)(H:A')(fid:FuncId)(args:List V):Prop:=
 match E.kp with|none=>CallA P E.G fid args H λv a=>Yx P E ops Q rest (AS.put ⟨τ,a⟩ d v)|some k=>CallP P E.G (ae k) fid args H λv a=>Yx P E ops Q rest (AS.put ⟨τ,a⟩ d v)
@[go_sem] def ADb(fid first cap args):YM P E ops Q rest d τ H (.func (.func fid) first cap) args=jF P E ops Q rest d τ H fid (first++args++cap):=by simp only[YM,jF];rcases E.kp with _|k;exact zJ;rfl
@[go_sem] def AEC(f l ats):Yx P E ops Q (⟨d,.call ⟨.value f,⟨l⟩,ats⟩,ty,pos,af,ah⟩::rest) ⟨τ,H⟩ =
  YM P E ops Q rest d τ H (AS.ev E ⟨τ,H⟩ f) (l.map (AS.ev E ⟨τ,H⟩)):=by
 rfl
def VA(P:Program)(E:BX)(ops:Array Oper)(Q:AS->Prop)(rest:List Oper)(e:Nat)(τ:Nat->V)(H:A')(ats:List TypeId)(a b:V):Prop:=
 Iz P H (E.q+e) ⟨ats⟩ a b λv c=>Yx P E ops Q rest (AS.put ⟨τ,c⟩ (ae e) v)
@[go_sem] def ADC(x y ats)(e:Nat):Yx P E ops Q (⟨ae e,.call ⟨.builtin .append,⟨[x,y]⟩,⟨ats⟩⟩,ty,pos,af,ah⟩::rest) ⟨τ,H⟩ =
  VA P E ops Q rest e τ H ats (AS.ev E ⟨τ,H⟩ x) (AS.ev E ⟨τ,H⟩ y):=by
 rfl
def WZ(P:Program)(ats:List TypeId):Option (Nat×Nat):=
 match ats with
 |[t0,t1]=>match P.underlying t0,P.underlying t1 with
  |some (.slice _),ae (.int _)=>ah|some (.slice e),ae _=>match Y0 P e,Nq P e,Wb P e with|some E,ae bytes,ae z=>if aa z=E then ae (E,bytes)else ah|_,_,_=>ah
  |_,_=>ah
 |_=>ah
def B7(P:Program)(E:BX)(ops:Array Oper)(Q:AS->Prop)(rest:List Oper)(e:Nat)(τ:Nat->V)(H:A')(m bytes:Nat)(a:V)(IF:Option (Nat×List V))(ob:BL):Prop:=
 match IF with
 |none=>False|some (n,xc)=>
  match a with
  |.AG=>Tg bytes n/\(n=0->Yx P E ops Q rest ⟨Ye τ e .AG,H⟩)/\(n≠0->∀ g,Yx P E ops Q rest ⟨Ye τ e (.A_ (E.q+e) g 0 n m),Ye H (E.q+e) (.cells .new g 0 xc)⟩)
  |.slice c clip m' l=>m'=m/\Tg bytes (aa l+n)/\(n=0->Yx P E ops Q rest ⟨Ye τ e (.slice c clip m l),H⟩) /\
    (n≠0->clip=ad/\∀ g,Yx P E ops Q rest ⟨Ye τ e (.A_ (E.q+e) g 0 (aa l+n) m),Ye H (E.q+e) (.cells .new g 0 (flat l++xc))⟩)
  |.A_ o g off len m'=>m'=m/\Tg bytes (len+n) /\
   match ob with
   |.cells c g' fz cs=>g=g'/\off+len*m<=aa cs/\fz<=off+len*m /\
     ∀ g2,Yx P E ops Q rest ⟨Ye τ e (.A_ o g2 0 (len+n) m),Ye H o (.cells c.moved g2 (fz-off) ((cs.drop off).take (len*m)++xc))⟩
   |_=>False
  |_=>False
def KC(H:A')(a:V):BL:=match a with|.A_ o _ _ _ _=>H o|_=>.AR
def Fy(H o g off len m):KC H (.A_ o g off len m)=H o:=rfl
def zK(H):KC H .AG=.AR:=rfl
def tE(H c b m l):KC H (.slice c b m l)=.AR:=rfl
attribute[go_sem]Fy zK tE
def ABg{ats m bytes}(h:WZ P ats=ae (m,bytes))(e a b):VA P E ops Q rest e τ H ats a b=B7 P E ops Q rest e τ H m bytes a (Tw H m b) (KC H a):=by
 unfold WZ at h;split at h
 case h_2=>grind
 split at h;grind;rename_i f bt j l k;split at h;rename_i N B z o r i;split at h
 .rename_i hzl;simp at h;obtain⟨rfl,rfl⟩:=h;have d:∃ c,Tj P f=ae c/\c.solid=ad/\c.cells=z:=by unfold Wb at i;rcases g:Tj P f with _|c;grind;grind
  obtain⟨c,h2,t,s⟩:=d;unfold VA Iz;simp only[l,k];have CK:Ly H (E.q+e) N B a b (λv n=>Yx P E ops Q rest (AS.put ⟨τ,n⟩ (ae e) v))=B7 P E ops Q rest e τ H N B a (Tw H N b) (KC H a):=by unfold Ly B7;rcases Tw H N b with _|p;rfl;cases a<;>try rfl
  grind
 grind;grind;simp at h
def SS(m:Nat)(ob:BL)(x:V):Option (Nat×List V):=
 match x with
 |.AG=>ae (0,[])|.slice _ _ E' l=>if E'=m then ae (aa l,flat l)else ah|.A_ _ g off len E'=>match ob with|.cells _ g' _ cs=>if E'=m/\g=g'/\off+len*m<=aa cs then ae (len,(cs.drop off).take (len*m))else ah|_=>ah
 |.AB s=>if m=1 then ae (aa s,s.map λb=>.int .u8 b.toNat)else ah|_=>ah
def nS(H m x):Tw H m x=SS m (KC H x) x:=by cases x<;>rfl
def my(m ob c b E' l):SS m ob (.slice c b E' l)=if E'=m then ae (l.length,flat l)else ah:=rfl
def rW(m o g off len E' c g' fz cs):SS m (.cells c g' fz cs) (.A_ o g off len E') =
  if E'=m/\g=g'/\off+len*m<=cs.length then ae (len,(cs.drop off).take (len*m))else ah:=rfl
attribute[go_sem]nS my rW
def uy(e m bytes n xc ob):B7 P E ops Q rest e τ H m bytes .AG (ae (n,xc)) ob =
  (Tg bytes n/\(n=0->Yx P E ops Q rest ⟨Ye τ e .AG,H⟩)/\(n≠0->∀ g,Yx P E ops Q rest ⟨Ye τ e (.A_ (E.q+e) g 0 n m),Ye H (E.q+e) (.cells .new g 0 xc)⟩)):=rfl
def fR(e m bytes n xc ob c clip m' l):B7 P E ops Q rest e τ H m bytes (.slice c clip m' l) (ae (n,xc)) ob =
  (m'=m/\Tg bytes (l.length+n)/\(n=0->Yx P E ops Q rest ⟨Ye τ e (.slice c clip m l),H⟩) /\
    (n≠0->clip=ad/\∀ g,Yx P E ops Q rest ⟨Ye τ e (.A_ (E.q+e) g 0 (l.length+n) m),Ye H (E.q+e) (.cells .new g 0 (flat l++xc))⟩)):=rfl
def dB(e m bytes n xc o g off len m' c g' fz cs):B7 P E ops Q rest e τ H m bytes (.A_ o g off len m') (ae (n,xc)) (.cells c g' fz cs) =
  (m'=m/\Tg bytes (len+n)/\g=g'/\off+len*m<=cs.length/\fz<=off+len*m /\
     ∀ g2,Yx P E ops Q rest ⟨Ye τ e (.A_ o g2 0 (len+n) m),Ye H o (.cells c.moved g2 (fz-off) ((cs.drop off).take (len*m)++xc))⟩):=rfl
def lq(v):Pj P E ops Q rest d τ H (ae v)=Yx P E ops Q rest (AS.put ⟨τ,H⟩ d v):=rfl
def nV(H):gh P E ops Q rest d τ (ae H)=Yx P E ops Q rest (AS.put ⟨τ,H⟩ d (.tuple [])):=rfl
def ma(e cs):RH P E ops Q rest e τ H (ae cs)=∀ g,Yx P E ops Q rest ⟨Ye τ e (.ptr (E.q+e) g 0),Ye H (E.q+e) (.cells .new g 0 cs)⟩:=rfl
def mG(e m len cs):PD P E ops Q rest e τ H (ae (m,len,cs))=∀ g,Yx P E ops Q rest ⟨Ye τ e (.A_ (E.q+e) g 0 len m),Ye H (E.q+e) (.cells .new g 0 cs)⟩:=rfl
attribute[go_sem]fR dB lq nV ma mG
end
section
variable(P)(t:TypeId)(k:IntKind)(a b:Int)
def T3(op)(c:op ≠ .shl)(h2:op ≠ .shr):Pl P op t (.int k a) (.int k b)=VF op k a b:=by simp only[Pl];grind
def mT:Pl P .add t (.int k a) (.int k b)=ae (.int k (k.wrap (a+b)))/\Pl P .sub t (.int k a) (.int k b)=ae (.int k (k.wrap (a-b)))/\Pl P .mul t (.int k a) (.int k b)=ae (.int k (k.wrap (a*b)))/\(Pl P .quo t (.int k a) (.int k b)=if b=0 then ah else ae (.int k (k.wrap (a.tdiv b))))/\Pl P .eql t (.int k a) (.int k b)=ae (.bool (a==b))/\Pl P .neq t (.int k a) (.int k b)=ae (.bool (a != b))/\Pl P .lss t (.int k a) (.int k b)=ae (.bool (decide (a<b)))/\Pl P .leq t (.int k a) (.int k b)=ae (.bool (decide (a<=b)))/\Pl P .gtr t (.int k a) (.int k b)=ae (.bool (decide (a>b)))/\Pl P .geq t (.int k a) (.int k b)=ae (.bool (decide (a>=b))):=⟨T3 P t k a b _ zS zS,T3 P t k a b _ zS zS,T3 P t k a b _ zS zS,T3 P t k a b _ zS zS,T3 P t k a b _ zS zS,T3 P t k a b _ zS zS,T3 P t k a b _ zS zS,T3 P t k a b _ zS zS,T3 P t k a b _ zS zS,T3 P t k a b _ zS zS⟩
attribute[go_sem]mT
end
def ya(op t a b):Pl P op t (.AB a) (.AB b)=OE op a b:=rfl
def oE(a b):OE .eql a b=ae (.bool (a==b)):=rfl
def nj(a b):OE .neq a b=ae (.bool (!(a==b))):=rfl
def yG(b):PS .not (.bool b)=ae (.bool !b):=rfl
def yb(k n):PS .neg (.int k n)=ae (.int k (k.wrap (0-n))):=rfl
attribute[go_sem]ya oE nj yG yb
def ZP(P:Program)(t:TypeId)(f:Nat):Option (Nat×Bool×Nat):=
 match P.underlying t with
 |some (.struct fs)=>match fs[f]? with
  |some fd=>match R1 P fd.type,Y0 P fd.type with|some b,ae (n+1)=>if b=ad\/n=0 then ae (fd.offset,b,n+1)else ah|_,_=>ah
  |none=>ah
 |_=>ah
def N5(b:Bool)(n:Nat)(l:List V)(off:Nat):Option V:=
 if b then(if off+n<=aa l then ae (.agg ((l.drop off).take n))else ah)else l[off]?
@[go_sem] def AEK(n l off):N5 ad n l off=if off+n<=l.length then ae (.agg ((l.drop off).take n))else ah:=rfl
@[go_sem] def ADR(n l off):N5 ab n l off=l[off]? := rfl
def O5{t b n}(c:R1 P t=ae b)(h2:Y0 P t=ae n)(a:b=ad\/n=1)(l off):O6 P t l off=N5 b n l off:=by unfold O6 N5;grind
def RZ(x:Option (Nat×Bool×Nat))(a:V):Option V:=
 match x,a with|some (k,_,_),.ptr o g off=>ae (.ptr o g (off+k))|some (k,b,n),.view c (.agg l)=>(N5 b n l k).map (.view c)|_,_=>ah
@[go_sem] def ADi(k n b o g off):RZ (ae (k,b,n)) (.ptr o g off)=ae (.ptr o g (off+k)):=rfl
@[go_sem] def ADj(k n b c l):RZ (ae (k,b,n)) (.view c (.agg l))=(N5 b n l k).map (.view c):=rfl
def wY{t f x}(h:ZP P t f=ae x)(a):S2 P t a f=RZ (ae x) a:=by
 unfold ZP at h;unfold S2;split at h;rename_i i d;rw[d];simp only;split at h;rename_i j e;rw[e];simp only;split at h;rename_i b n g h2;split at h
 .rename_i hc;simp at h;subst h;rw[h2];unfold RZ;cases a<;>try rfl
  rename_i c v;cases v<;>try rfl
  simp only;rw[O5 g h2 (hc.imp id zo)]
 grind;grind;grind;grind
def Sm(P:Program)(t:TypeId):Option Nat:=match P.underlying t with|some (.slice e)=>Y0 P e|_=>ah
def NU(P:Program)(t:TypeId):Bool:=match P.underlying t with|some .string=>ad|_=>ab
def YD(P:Program)(t:TypeId):Option (Bool×Nat):=
 match R1 P t,Y0 P t with|some ad,ae n=>ae (ad,n)|some ab,ae 1=>ae (ab,1)|_,_=>ah
def MR(e:Option Nat)(a i:V):Option V:=
 match e,a,i with|some m,.slice c _ E l,.int _ n=>if m=E/\0<=n then(l[n.toNat]?).map (.view c)else ah|some m,.A_ o g off len E,.int _ n=>if m=E/\0<=n/\n<len then ae (.ptr o g (off+n.toNat*E))else ah|_,_,_=>ah
def te{t m}(h:Sm P t=ae m)(a i):Vu P t a i=MR (ae m) a i:=by unfold Sm at h;unfold Vu MR;split at h;grind;grind
@[go_sem] def ADn(m c clip E l k n):MR (ae m) (.slice c clip E l) (.int k n)=if m=E/\0<=n then(l[n.toNat]?).map (.view c)else ah:=rfl
@[go_sem] def ADm(m o g off len E k n):MR (ae m) (.A_ o g off len E) (.int k n)=if m=E/\0<=n/\n<len then ae (.ptr o g (off+n.toNat*E))else ah:=rfl
def D2(sl:Bool)(a:V):Option V:=
 match a with|.AG=>if sl then ae (.int .i64 0)else ah|.slice _ _ _ l=>if sl then ae (.int .i64 (aa l))else ah|.A_ _ _ _ len _=>if sl then ae (.int .i64 len)else ah|.AB s=>if sl then ah else ae (.int .i64 (aa s))|_=>ah
def pP{t m}(h:Sm P t=ae m)(a):B5 P t a=D2 ad a:=by unfold Sm at h;unfold B5 D2;grind
def rY{t}(h:NU P t=ad)(a):B5 P t a=D2 ab a:=by unfold NU at h;unfold B5 D2;grind
def pT:D2 ad .AG=ae (.int .i64 0):=rfl
def ph(c clip E l):D2 ad (.slice c clip E l)=ae (.int .i64 l.length):=rfl
def s4(o g off len E):D2 ad (.A_ o g off len E)=ae (.int .i64 len):=rfl
def sV(s):D2 ab (.AB s)=ae (.int .i64 s.length):=rfl
attribute[go_sem]pT ph s4 sV
def Rx(x:Option (Bool×Nat))(ob:BL)(a:V):Option V:=
 match x,a with
 |some (b,n),.ptr _ g off=>match ob with|.cells _ g' _ cs=>if g=g' then N5 b n cs off else ah|_=>ah
 |some (b,n),.view _ v=>match v,b with|.agg l,ad=>if n=aa l then ae (.agg l)else ah|.agg _,ab=>ah|.top,_=>ah|.tuple _,_=>ah|_,ad=>ah|v,ab=>ae v
 |_,_=>ah
def PE(H:A')(a:V):BL:=match a with|.ptr o _ _=>H o|_=>.AR
def qd{t b n}(h:YD P t=ae (b,n))(H a):W0 P H t a=Rx (ae (b,n)) (PE H a) a:=by
 unfold YD at h;have e:R1 P t=ae b/\Y0 P t=ae n/\(b=ad\/n=1):=by split at h<;>simp at h<;>obtain⟨rfl,rfl⟩:=h<;>rename_i d h2;exact⟨d,h2,.inl rfl⟩;exact⟨d,h2,.inr rfl⟩
 obtain⟨d,h2,f⟩:=e;unfold W0;cases a<;>try(simp[Uc,Rx];done)
 rename_i c v;simp only[Uc,Rx,d,h2];cases b<;>cases v<;>simp
 .rename_i o g off;simp only[Rx,PE];cases H o with|AR=>rfl|mp=>rfl|lp=>rfl|cells c g' fz cs=>simp only;rw[O5 d h2 f]
def AAH(H o g off):PE H (.ptr o g off)=H o:=rfl
def nY(b n o g off c g' fz cs):Rx (ae (b,n)) (.cells c g' fz cs) (.ptr o g off)=if g=g' then N5 b n cs off else ah:=rfl
def o8(n ob c l):Rx (ae (ad,n)) ob (.view c (.agg l))=if n=l.length then ae (.agg l)else ah:=rfl
def oC(n ob c k i):Rx (ae (ab,n)) ob (.view c (.int k i))=ae (.int k i):=rfl
def oR(n ob c b):Rx (ae (ab,n)) ob (.view c (.bool b))=ae (.bool b):=rfl
def nF(n ob c s):Rx (ae (ab,n)) ob (.view c (.AB s))=ae (.AB s):=rfl
def tn(n ob c c' clip E l):Rx (ae (ab,n)) ob (.view c (.slice c' clip E l))=ae (.slice c' clip E l):=rfl
def nU(n ob c):Rx (ae (ab,n)) ob (.view c .AG)=ae .AG:=rfl
def n_(n ob c fn a b):Rx (ae (ab,n)) ob (.view c (.func fn a b))=ae (.func fn a b):=rfl
attribute[go_sem]AAH nY o8 oC oR nF tn nU n_
def ZQ(sz:Option Nat)(H:A')(ob:BL)(a v:V):Option A':=
 match a,ob with|.ptr o g off,.cells c g' fz cs=>if g=g'/\v.solid=ad/\sz=ae (aa v.cells)/\fz<=off/\off+aa v.cells<=aa cs then ae (Ye H o (.cells c g fz (setAt cs off v.cells)))else ah|_,_=>ah
def pA(H t a v):Kv P H t a v=ZQ (Y0 P t) H (PE H a) a v:=by
 unfold Kv ZQ;cases a<;>try rfl
 rename_i o g b;simp only[PE];grind
def ABH(sz H o g off c g' fz cs v):ZQ sz H (.cells c g' fz cs) (.ptr o g off) v =
  if g=g'/\v.solid=ad/\sz=ae v.cells.length/\fz<=off/\off+v.cells.length<=cs.length then ae (Ye H o (.cells c g fz (setAt cs off v.cells)))else ah:=rfl
def t_(cs off):setAt cs off []=cs:=rfl
def tU(cs off v r):setAt cs off (v::r)=setAt (cs.set off v) (off+1) r:=rfl
attribute[go_sem]pA ABH t_ tU
section
def iL(l):(V.agg l).cells=l:=rfl
def qR(k n):(V.int k n).cells=[.int k n]:=rfl
def qK(b):(V.bool b).cells=[.bool b]:=rfl
def o9(s):(V.AB s).cells=[.AB s]:=rfl
def pq(o g off len E):(V.A_ o g off len E).cells=[.A_ o g off len E]:=rfl
def pU(o g off):(V.ptr o g off).cells=[.ptr o g off]:=rfl
def pj(fn a b):(V.func fn a b).cells=[.func fn a b]:=rfl
def qu(l):(V.agg l).solid=ad:=rfl
def pn(k n):(V.int k n).solid=ad:=rfl
def pM(b):(V.bool b).solid=ad:=rfl
def oT(s):(V.AB s).solid=ad:=rfl
def pR(o g off len E):(V.A_ o g off len E).solid=ad:=rfl
def o6(o g off):(V.ptr o g off).solid=ad:=rfl
def ov(fn a b):(V.func fn a b).solid=ad:=rfl
def tb(v):XE v=if v.solid then ae v.cells else ah:=rfl
def vJ(z):Tr 0 z=[]:=rfl
def vh(n z):Tr (n+1) z=z++Tr n z:=rfl
def pQ:V.AG.cells=[.AG]/\V.AG.solid=ad:=⟨rfl,rfl⟩
attribute[go_sem]pQ iL qR qK o9 pq pU pj qu pn pM oT pR o6 ov tb vJ vh
variable(P)(t:TypeId)
def Pz(P:Program)(t:TypeId):Nat:=
 match P.underlying t with|some (.pointer _)=>1|some (.slice _)=>2|some (.func _ _ _)=>3|some (.interface _)=>4|some (.map _ _)=>5|_=>0
def Du(k:Nat)(a:V):Option Bool:=
 match a with|.ET=>if k=1 then ae ad else ah|.view _ _=>if k=1 then ae ab else ah|.ptr _ _ _=>if k=1 then ae ab else ah|.AG=>if k=2 then ae ad else ah|.slice _ _ _ _=>if k=2 then ae ab else ah|.A_ _ _ _ _ _=>if k=2 then ae ab else ah|.CN=>if k=3 then ae ad else ah|.func _ _ _=>if k=3 then ae ab else ah|.iface _ _=>if k=4 then ae ab else ah|.FE=>if k=5 then ae ad else ah|_=>ah
def ACW(a):KQ P t a=Du (Pz P t) a:=by unfold KQ Pz;rcases h:P.underlying t with _|u;cases a<;>rfl;cases u<;>cases a<;>rfl
def Ru(k:Nat):V:=if k=1 then .ET else if k=2 then .AG else if k=3 then .CN else if k=4 then .GE else .FE
def zR{k}(h:Pz P t=k)(c:k≠0)(a):OI P t a (Ru k)=Du k a:=by
 have d:Nm P t (Ru k)=ad:=by subst h;unfold Nm Ru Pz at *;rcases b:P.underlying t with _|u;grind;grind
 have e:∀ x,Ru k ≠ .bool x:=by intro x;unfold Ru;grind
 rw[<- h,<- ACW];unfold OI;grind
def Jx{k}(h:Pz P t=k)(c:k≠0)(a):Pl P .eql t a (Ru k)=(Du k a).map .bool/\Pl P .neq t a (Ru k)=(Du k a).map λr=>.bool (!r):=by
 rw[<- zR P t h c];have e:∀ k' n,Ru k ≠ .int k' n:=by intro k' n;unfold Ru;grind
 have h2:∀ l,Ru k ≠ .AB l:=by intro l;unfold Ru;grind
 have d:∀ l,Ru k ≠ .agg l:=by intro l;unfold Ru;grind
 generalize Ru k=b at *;unfold Pl;grind
def w8:Du 2 .AG=ae ad:=rfl
def xV(c b m l):Du 2 (.slice c b m l)=ae ab:=rfl
def wP(c v):Du 1 (.view c v)=ae ab:=rfl
attribute[go_sem]w8 xV wP
end
def VB(m:Nat)(z:List V)(len:Nat)(CC:List (Nat×V)):Option (Nat×Nat×List V):=
 if len*m<=16777216 then(Uo (λi=>ae (i*m,m)) (Tr len z) CC).map λa=>(m,len,a)else ah
def sT{P t e m z}(c:P.underlying t=ae (.slice e))(h2:Y0 P e=ae m)(b:Wb P e=ae z)(a:z.length=m)(len CC):Es P t len CC=VB m z len CC:=by unfold Es VB;grind
def MN(m:Nat):Nat->Option (Nat×Nat):=λi=>ae (i*m,m)
def LV(tbl:List (Nat×Nat)):Nat->Option (Nat×Nat):=λi=>tbl[i]?
def pI(m z len CC):VB m z len CC=if len*m<=16777216 then(Uo (MN m) (Tr len z) CC).map λcs=>(m,len,cs)else ah:=rfl
def yR(p cells):Uo p cells []=ae cells:=rfl
def yq(m cells i v rest):Uo (MN m) cells ((i,v)::rest) =
  if v.solid=ad/\v.cells.length=m/\i*m+m<=cells.length then Uo (MN m) (setAt cells (i*m) v.cells) rest else ah:=rfl
attribute[go_sem]pI yR yq
def fL(tbl:List (Nat×Nat))(p:Option (Nat×Nat))(cells:List V)(v:V)(rest:List (Nat×V)):Option (List V):=
 match p with|none=>ah|some (off,size)=>if v.solid=ad/\aa v.cells=size/\off+size<=aa cells then Uo (LV tbl) (setAt cells off v.cells) rest else ah
@[go_sem] def ADh(tbl cells i v rest):Uo (LV tbl) cells ((i,v)::rest)=fL tbl (tbl[i]?) cells v rest:=rfl
@[go_sem] def ADg(tbl off size cells v rest):fL tbl (ae (off,size)) cells v rest =
  if v.solid=ad/\v.cells.length=size/\off+size<=cells.length then Uo (LV tbl) (setAt cells off v.cells) rest else ah:=rfl
def WW(P:Program)(t:TypeId):Option (List (Nat×Nat)):=
 match P.underlying t with|some (.struct fs)=>fs.toList.mapM λf=>(Y0 P f.type).map λn=>(f.offset,n)|_=>ah
def ec{α β:Type}{f}:∀ {l:List α} {r:List β},l.mapM f=ae r->(l.all λx=>(f x).isSome)=ad/\∀ i:Nat,r[i]?=(l[i]?).bind f
 |[],r,h=>by grind
 |x::l,r,h=>by simp only[cM,Option.bind_eq_bind,cX,Option.pure_def,GI]at h;obtain⟨y,c,b,a,rfl⟩:=h;obtain⟨d,h2⟩:=ec a;grind
def jG{P t tbl z}(a:WW P t=ae tbl)(h2:Tj P t=ae (.agg z))(CC):S3 P t CC=(Uo (LV tbl) z CC).map .agg:=by
 unfold WW at a;rcases b:P.underlying t with _|k;grind;rw[b]at a;cases k<;>simp only[reduceCtorEq]at a;rename_i c;obtain⟨h,g⟩:=ec a;unfold S3;rw[b,h2];have d:(c.toList.all λf=>(Y0 P f.type).isSome)=ad:=zG;simp only[d];have e:(λi=>(c[i]?).bind λf=>(Y0 P f.type).map λn=>(f.offset,n))=LV tbl:=by funext i;have:=g i;unfold LV;grind
 rw[e];rfl
def JP(i j:Option Nat)(f:Nat->Nat->Option V):Option V:=match i,j with|some i,ae j=>f i j|_,_=>ah
def ub(i j f):JP (ae i) (ae j) f=f i j:=rfl
def Bp(d):Y5 d ah=ae d:=rfl
def r4(d k n):Y5 d (ae (.int k n))=if 0<=n then ae n.toNat else ah:=rfl
attribute[go_sem]ub Bp r4
def IV(m:Nat)(a:V)(lo hi:Option V):Option V:=
 match a with|.slice c clip E l=>JP (Y5 0 lo) (Y5 (aa l) hi) λi j=>if m=E/\i<=j/\j<=aa l then ae (.slice c (clip&&j==aa l) E ((l.drop i).take (j-i)))else ah|.A_ o g off len E=>JP (Y5 0 lo) (Y5 len hi) λi j=>if m=E/\i<=j/\j<=len then ae (if i=0 then .A_ o g off j E else if i<j then .A_ o g (off+i*E) (j-i) E else .slice .any ab E [])else ah|.AG=>JP (Y5 0 lo) (Y5 0 hi) λi j=>if i=0/\j=0 then ae .AG else ah|_=>ah
def Q7{t m}(h:Sm P t=ae m)(a lo hi):Uz P t a lo hi ah=IV m a lo hi:=by
 unfold Sm at h;unfold Uz IV;split at h
 .rename_i e hu;rw[hu];cases a<;>try rfl
  .simp only[h];rcases b:Y5 0 lo with _|i;rfl;rcases h2:Y5 0 hi with _|j;cases i<;>rfl;simp only[Bp];rcases i with _|i;cases j<;>rfl;rfl
  .rename_i c clip E l;simp only[h,GI];rcases Y5 0 lo with _|i;rfl;rcases Y5 _ hi with _|j;rfl;rfl
  .rename_i o g off len E;simp only[h,GI];rcases Y5 0 lo with _|i;rfl;rcases Y5 _ hi with _|j;rfl;rfl
 simp at h
@[go_sem] def AET(m o g off len E lo hi):IV m (.A_ o g off len E) lo hi =
  JP (Y5 0 lo) (Y5 len hi) λi j=>if m=E/\i<=j/\j<=len then ae (if i=0 then .A_ o g off j E else if i<j then .A_ o g (off+i*E) (j-i) E else .slice .any ab E [])else ah:=rfl
@[go_sem] def AEU(m lo hi):IV m .AG lo hi=JP (Y5 0 lo) (Y5 0 hi) λi j=>if i=0/\j=0 then ae .AG else ah:=rfl
def OL(E bytes:Nat)(z:List V)(a b:V):Option (Nat×Nat×List V):=
 match a,b with|.int _ n,.int _ m=>if 0<=n/\n<=m/\m<=4611686018427387904/\bytes*m<=281474976710656 then ae (E,n.toNat,Tr m.toNat z)else ah|_,_=>ah
def Dx{t e E bytes z}(c:P.underlying t=ae (.slice e))(g:Y0 P e=ae E)(h2:Nq P e=ae bytes)(f:Wb P e=ae z)(d:z.length=E)(a b):Ll P t a b=OL E bytes z a b:=by unfold Ll OL;grind
@[go_sem] def ADe{E ops Q rest τ H}(e m bytes z k1 k2 n c):PD P E ops Q rest e τ H (OL m bytes z (.int k1 n) (.int k2 c)) =
   ((0<=n/\n<=c/\c<=4611686018427387904/\bytes*c<=281474976710656)/\∀ g,Yx P E ops Q rest ⟨Ye τ e (.A_ (E.q+e) g 0 n.toNat m),Ye H (E.q+e) (.cells .new g 0 (Tr c.toNat z))⟩):=by
 have b:OL m _ z (.int k1 n) (.int k2 c)=if 0<=n/\n<=c/\c<=4611686018427387904/\bytes*c<=281474976710656 then ae _ else ah:=rfl;rw[b];by_cases h:0<=n/\n<=c/\c<=4611686018427387904/\bytes*c<=281474976710656;rw[AF h];exact(propext (and_iff_right h)).symm;rw[AA h];exact propext ⟨False.elim,λa=>h a.1⟩
def h_{s d kd}(a:(P.underlying s).isSome=ad)(h2:P.underlying d=ae (.int kd))(k n):Bl P s d (.int k n)=ae (.int kd (kd.wrap n)):=by unfold Bl;rw[h2];rcases h:P.underlying s with _|t;grind;rfl
