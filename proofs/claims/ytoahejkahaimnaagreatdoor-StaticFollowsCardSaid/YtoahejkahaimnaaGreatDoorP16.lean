/- A part. No condition. -/
import Derived.Test.YtoahejkahaimnaaGreatDoorP15
import Derived.Attr
set_option linter.all false
namespace Go.Hs
section
variable{P:Program}{E:Ent}
def Pa{α : Type}(o:Option α)(K : α -> Prop):Prop:=match o with|some v=>K v|none=>False
def S6(P:Program)(E:Ent)(ops:Array Oper)(Q:AS->Prop)(rest:List Oper)(d:Option Nat)(τ : Nat->V)(H:Heap)(o:Option V):Prop:=Pa o λv=>Yi P E ops Q rest (AS.put ⟨τ,H⟩ d v)
def Z26(P:Program)(E:Ent)(ops:Array Oper)(Q:AS->Prop)(rest:List Oper)(d:Option Nat)(τ : Nat->V)(o:Option Heap):Prop:=Pa o λH=>Yi P E ops Q rest (AS.put ⟨τ,H⟩ d (.tuple []))
def Zrh(P:Program)(E:Ent)(ops:Array Oper)(Q:AS->Prop)(rest:List Oper)(e:Nat)(τ : Nat->V)(H:Heap)(o:Option (List V)):Prop:=
 Pa o λa=>∀ g,Yi P E ops Q rest ⟨Z3 τ e (.ptr (E.q+e) g 0),Z3 H (E.q+e) (.cells .new g 0 a)⟩
def Ah(P:Program)(E:Ent)(ops:Array Oper)(Q:AS->Prop)(rest:List Oper)(e:Nat)(τ : Nat->V)(H:Heap)(o:Option (Nat×Nat×List V)):Prop:=
 Pa o λc=>∀ g,Yi P E ops Q rest ⟨Z3 τ e (.msl (E.q+e) g 0 c.2.1 c.1),Z3 H (E.q+e) (.cells .new g 0 c.2.2)⟩
theorem Zeu{α : Type}(f:Nat -> α)(k:Nat)(x : α)(n:Nat):Z3 f k x n=if n=k then x else f n:=rfl
theorem ev_tmp(τ : Nat->V)(H:Heap)(t:Nat):AS.ev E ⟨τ,H⟩ (.tmp t) = τ t:=rfl
theorem ev_int(τ : Nat->V)(H:Heap)(k:IntKind)(n:Int):AS.ev E ⟨τ,H⟩ (.const (.int k n))=.int k n:=rfl
theorem Zx5(τ : Nat->V)(H:Heap)(b:Bool):AS.ev E ⟨τ,H⟩ (.const (.bool b))=.bool b:=rfl
theorem ev_str(τ : Nat->V)(H:Heap)(s:ByteArray):AS.ev E ⟨τ,H⟩ (.const (.string s))=.str s.data.toList:=rfl
theorem Zt5(τ : Nat->V)(H:Heap):AS.ev E ⟨τ,H⟩ (.const (.slice none 0 0))=.nils:=rfl
theorem Zu5(τ : Nat->V)(H:Heap):AS.ev E ⟨τ,H⟩ (.const (.pointer none))=.nilp:=rfl
theorem Zv5(τ : Nat->V)(H:Heap):AS.ev E ⟨τ,H⟩ (.const .nilFunc)=.nilf:=rfl
theorem Zw5(τ : Nat->V)(H:Heap)(f:FuncId):AS.ev E ⟨τ,H⟩ (.func f)=.func (.func f) [] []:=rfl
theorem Z2w(τ : Nat->V)(H:Heap)(g:Nat):AS.ev E ⟨τ,H⟩ (.global g)=E.G g:=rfl
theorem Zq0(τ : Nat->V)(H:Heap)(d:Nat)(v:V):AS.put ⟨τ,H⟩ (some d) v=⟨Z3 τ d v,H⟩:=rfl
theorem Zs0(τ : Nat->V)(H:Heap)(v:V):AS.put ⟨τ,H⟩ none v=⟨τ,H⟩:=rfl
theorem Z1p(k:Nat)(v:V)(r:List V):Ud k (v::r)=Z3 (Ud (k+1) r) k v:=rfl
attribute[go_sem]Zeu ev_tmp ev_int Zx5 ev_str Zt5 Zu5 Zv5 Zw5 Z2w Zq0 Zs0 Z1p
attribute [go_sem] List.map_cons List.map_nil List.length_cons List.length_nil List.getElem?_cons_zero List.getElem?_cons_succ List.drop_succ_cons List.drop_zero List.take_succ_cons List.take_zero
 List.set_cons_zero List.set_cons_succ List.append_nil List.nil_append List.cons_append Option.map_some Option.map_none Nat.zero_add Nat.add_zero Int.toNat_natCast and_true true_and Bool.not_true Bool.not_false
 and_self Int.natCast_nonneg Bool.false_eq_true Bool.true_eq_false eq_self if_true if_false ne_eq not_true_eq_false not_false_eq_true false_implies true_implies Option.bind_some forall_const
section
variable{ops:Array Oper}{Q:AS->Prop}{rest:List Oper}{τ : Nat->V}{H:Heap}{d:Option Nat}{ty:TypeId}{pos:String}{af:Array Edge}
@[go_sem] theorem Ep(s:AS):Yi P E ops Q [] s=Q s:=rfl
def Qt(b:Option Bool)(K0 K1:Prop):Prop:=match b with|some true=>K1|some false=>K0|none=>False
@[congr] theorem Zm5{b a:Option Bool}{d c:Prop}(h:b=a):Qt b d c=Qt a d c:=by rw[h]
@[go_sem] theorem Nk(b a:Prop):Qt (some true) b a=a:=rfl
@[go_sem] theorem Zl5(a b:Prop):Qt (some false) a b=a:=rfl
def De(v:V)(want:Bool):Option Bool:=
 match v with
 |.bool b=>some (b==want)
 |.tuple []=>some false
 |_=>none
theorem Z4g(b:Bool):De (.bool b) true=some b:=by cases b<;>rfl
theorem Z6a(b:Bool):De (.bool b) false=some (!b):=by cases b<;>rfl
theorem Z5a(a:Bool):De (.tuple []) a=some false:=rfl
attribute[go_sem]Z4g Z6a Z5a
def P1(l:List Oper)(j:Nat):Option Nat:=(l[j]?).bind (·.dst)
@[go_sem] theorem Zj6(o:Oper)(l:List Oper):P1 (o::l) 0=o.dst:=rfl
@[go_sem] theorem Zk6(o:Oper)(l:List Oper)(j:Nat):P1 (o::l) (j+1)=P1 l j:=rfl
def Jc(v:Option V)(want:Bool):Option Bool:=match v with|some v=>De v want|none=>some false
@[go_sem] theorem Zn5(v:V)(a:Bool):Jc (some v) a=De v a:=rfl
theorem Io(s:AS)(o:Oper):Yi P E ops Q (o::rest) s=Qt (Zz ops s.τ o) (Yi P E ops Q rest (s.put o.dst (.tuple []))) (Yk P E s o λv H'=>Yi P E ops Q rest (AS.put { s with H:=H' } o.dst v)):=by
 rfl
@[go_sem] theorem opsA_guard(l:List Oper)(op:Op)(j:Nat)(a:Bool):
  Yi P E ⟨l⟩ Q (⟨d,op,ty,pos,af,some (j,a)⟩::rest) ⟨τ,H⟩ =
   Qt (Jc ((P1 l j).map τ) a) (Yi P E ⟨l⟩ Q rest (AS.put ⟨τ,H⟩ d (.tuple []))) (Yi P E ⟨l⟩ Q (⟨d,op,ty,pos,af,none⟩::rest) ⟨τ,H⟩):=by
 rw[Io,Io];have c:Zz ⟨l⟩ τ ⟨d,op,ty,pos,af,none⟩=some true:=rfl
 have b:Zz ⟨l⟩ τ ⟨d,op,ty,pos,af,some (j,a)⟩=Jc ((P1 l j).map τ) a:=by
  unfold Zz P1;simp only[List.getElem?_toArray]
  cases(l[j]?).bind (·.dst)with
  |none=>rfl
  |some e=>
   rfl
 rw[b];rfl
variable(ops)
theorem Wu(op:Op)(a:∀ K,Yk P E ⟨τ,H⟩ ⟨d,op,ty,pos,af,none⟩ K=(match Jx P (AS.ev E ⟨τ,H⟩) ⟨d,op,ty,pos,af,none⟩with|some v=>K v H|none=>False)):
  Yi P E ops Q (⟨d,op,ty,pos,af,none⟩::rest) ⟨τ,H⟩=S6 P E ops Q rest d τ H (Jx P (AS.ev E ⟨τ,H⟩) ⟨d,op,ty,pos,af,none⟩):=by
 rw[Io];have b:Zz ops (⟨τ,H⟩:AS).τ ⟨d,op,ty,pos,af,none⟩=some true:=rfl;rw[b,a]
 cases Jx P (AS.ev E ⟨τ,H⟩) ⟨d,op,ty,pos,af,none⟩<;>rfl
@[go_sem] theorem opsA_move(x:Operand):Yi P E ops Q (⟨d,.move x,ty,pos,af,none⟩::rest) ⟨τ,H⟩=Yi P E ops Q rest (AS.put ⟨τ,H⟩ d (AS.ev E ⟨τ,H⟩ x)):=Wu ops _ λ_=>rfl
@[go_sem] theorem Zr6(x:Operand):Yi P E ops Q (⟨d,.assign x,ty,pos,af,none⟩::rest) ⟨τ,H⟩=Yi P E ops Q rest (AS.put ⟨τ,H⟩ d (AS.ev E ⟨τ,H⟩ x)):=Wu ops _ λ_=>rfl
def Z7s(c a b:V):Option V:=match c with|.bool true=>some a|.bool false=>some b|_=>none
theorem Ztn(a b:V):Z7s (.bool true) a b=some a:=rfl
theorem Z8f(a b:V):Z7s (.bool false) a b=some b:=rfl
theorem Z9f(c a b:Bool):Z7s (.bool c) (.bool a) (.bool b)=some (.bool (if c then a else b)):=by cases c<;>rfl
theorem Zkv(c a b:Operand):Yi P E ops Q (⟨d,.pick c a b,ty,pos,af,none⟩::rest) ⟨τ,H⟩ =
  S6 P E ops Q rest d τ H (Z7s (AS.ev E ⟨τ,H⟩ c) (AS.ev E ⟨τ,H⟩ a) (AS.ev E ⟨τ,H⟩ b)):=Wu ops _ λ_=>rfl
theorem Z6n(op:BinOp)(t:TypeId)(x y:Operand)(u:TypeId):Yi P E ops Q (⟨d,.binOp op t x y u,ty,pos,af,none⟩::rest) ⟨τ,H⟩ =
  S6 P E ops Q rest d τ H (Rp P op t (AS.ev E ⟨τ,H⟩ x) (AS.ev E ⟨τ,H⟩ y)):=Wu ops _ λ_=>rfl
theorem Zjv(op:UnOp)(t:TypeId)(x:Operand):Yi P E ops Q (⟨d,.unOp op t x,ty,pos,af,none⟩::rest) ⟨τ,H⟩ =
  S6 P E ops Q rest d τ H (unV op (AS.ev E ⟨τ,H⟩ x)):=Wu ops _ λ_=>rfl
theorem Zsa(t u:TypeId)(x:Operand):Yi P E ops Q (⟨d,.convert t u x,ty,pos,af,none⟩::rest) ⟨τ,H⟩ =
  S6 P E ops Q rest d τ H (Dw P t u (AS.ev E ⟨τ,H⟩ x)):=Wu ops _ λ_=>rfl
attribute[go_sem]Ztn Z8f Z9f Zkv Z6n Zjv Zsa
def Zlh(t:V)(i:Nat):Option V:=match t with|.tuple vs=>vs[i]? |_=>none
theorem Do(vs:List V)(i:Nat):Zlh (.tuple vs) i=vs[i]? := rfl
theorem Zra(x:Operand)(i:Nat):Yi P E ops Q (⟨d,.extract x i,ty,pos,af,none⟩::rest) ⟨τ,H⟩ =
  S6 P E ops Q rest d τ H (Zlh (AS.ev E ⟨τ,H⟩ x) i):=Wu ops _ λ_=>rfl
theorem Et(t:TypeId)(x:Operand)(f:Nat):Yi P E ops Q (⟨d,.fieldAddr t x f,ty,pos,af,none⟩::rest) ⟨τ,H⟩ =
  S6 P E ops Q rest d τ H (Td P t (AS.ev E ⟨τ,H⟩ x) f):=Wu ops _ λ_=>rfl
theorem Es(t:TypeId)(x i:Operand):Yi P E ops Q (⟨d,.indexAddr t x i,ty,pos,af,none⟩::rest) ⟨τ,H⟩ =
  S6 P E ops Q rest d τ H (Wt P t (AS.ev E ⟨τ,H⟩ x) (AS.ev E ⟨τ,H⟩ i)):=Wu ops _ λ_=>rfl
theorem Z4n(t:TypeId)(x i:Operand):Yi P E ops Q (⟨d,.index t x i,ty,pos,af,none⟩::rest) ⟨τ,H⟩ =
  S6 P E ops Q rest d τ H (R2 P t (AS.ev E ⟨τ,H⟩ x) (AS.ev E ⟨τ,H⟩ i)):=Wu ops _ λ_=>rfl
theorem Z3n(t:TypeId)(x:Operand)(lo hi mx:Option Operand):Yi P E ops Q (⟨d,.slice t x lo hi mx,ty,pos,af,none⟩::rest) ⟨τ,H⟩ =
  S6 P E ops Q rest d τ H (Uh P t (AS.ev E ⟨τ,H⟩ x) (lo.map (AS.ev E ⟨τ,H⟩)) (hi.map (AS.ev E ⟨τ,H⟩)) (mx.map (AS.ev E ⟨τ,H⟩))):=Wu ops _ λ_=>rfl
theorem Z5n(t:TypeId)(l:List (Nat×Operand)):Yi P E ops Q (⟨d,.build t ⟨l⟩,ty,pos,af,none⟩::rest) ⟨τ,H⟩ =
  S6 P E ops Q rest d τ H (Tf P t (l.map λp=>(p.1,AS.ev E ⟨τ,H⟩ p.2))):=Wu ops _ λ_=>rfl
theorem Cy(a:Fn)(l m:List Operand):Yi P E ops Q (⟨d,.makeFunc a ⟨l⟩ ⟨m⟩,ty,pos,af,none⟩::rest) ⟨τ,H⟩ =
  Yi P E ops Q rest (AS.put ⟨τ,H⟩ d (.func a (l.map (AS.ev E ⟨τ,H⟩)) (m.map (AS.ev E ⟨τ,H⟩)))):=Wu ops _ λ_=>rfl
theorem Zk1(k k':IntKind)(x y:Int):Zxa [.int k x,.int k' y]=some (.int k (if y>x then y else x)):=rfl
theorem Z10(l:List Operand)(a:List TypeId):Yi P E ops Q (⟨d,.call ⟨.builtin .max,⟨l⟩,⟨a⟩⟩,ty,pos,af,none⟩::rest) ⟨τ,H⟩ =
  S6 P E ops Q rest d τ H (Zxa (l.map (AS.ev E ⟨τ,H⟩))):=Wu ops _ λ_=>rfl
theorem Z30(x:Operand)(t:TypeId):Yi P E ops Q (⟨d,.call ⟨.builtin .len,⟨[x]⟩,⟨[t]⟩⟩,ty,pos,af,none⟩::rest) ⟨τ,H⟩ =
  S6 P E ops Q rest d τ H (Gl P t (AS.ev E ⟨τ,H⟩ x)):=Wu ops _ λ_=>rfl
theorem Cw(x:Operand):Yi P E ops Q (⟨d,.nilCheck x,ty,pos,af,none⟩::rest) ⟨τ,H⟩ =
  S6 P E ops Q rest d τ H (Jx P (AS.ev E ⟨τ,H⟩) ⟨d,.nilCheck x,ty,pos,af,none⟩):=Wu ops _ λ_=>rfl
attribute[go_sem]Do Zra Et Es Z4n Z3n Z5n Cy Zk1 Z10 Z30 Cw
theorem Us(op:Op):Yi P E ops Q (⟨d,op,ty,pos,af,none⟩::rest) ⟨τ,H⟩=Yk P E ⟨τ,H⟩ ⟨d,op,ty,pos,af,none⟩ λv H'=>Yi P E ops Q rest (AS.put ⟨τ,H'⟩ d v):=by
 rfl
@[go_sem] theorem opsA_load(t:TypeId)(x:Operand):Yi P E ops Q (⟨d,.load t x,ty,pos,af,none⟩::rest) ⟨τ,H⟩ =
  S6 P E ops Q rest d τ H (Xt P H t (AS.ev E ⟨τ,H⟩ x)):=by
 rw[Us];simp only[Yk]
 cases Xt P H t (AS.ev E ⟨τ,H⟩ x)<;>rfl
@[go_sem] theorem opsA_store(t:TypeId)(p x:Operand):Yi P E ops Q (⟨d,.store t p x,ty,pos,af,none⟩::rest) ⟨τ,H⟩ =
  Z26 P E ops Q rest d τ (O3 P H t (AS.ev E ⟨τ,H⟩ p) (AS.ev E ⟨τ,H⟩ x)):=by
 rw[Us];simp only[Yk]
 cases O3 P H t (AS.ev E ⟨τ,H⟩ p) (AS.ev E ⟨τ,H⟩ x)<;>rfl
def X7(P:Program)(t:TypeId):Option (List V):=(Ua P t).bind λz=>if z.solid then some z.cells else none
@[go_sem] theorem opsA_alloc(t:TypeId)(e:Nat):Yi P E ops Q (⟨some e,.alloc t,ty,pos,af,none⟩::rest) ⟨τ,H⟩ =
  Zrh P E ops Q rest e τ H (X7 P t):=by
 rw[Us];simp only[Yk,X7,Zrh]
 cases Ua P t with
 |none=>rfl
 |some z=>
  simp only[Option.bind_some]
  cases a:z.solid with
  |false=>simp[Pa]
  |true=>simp[Pa,AS.put]
def Z4m(v:V):Option (List V):=if v.solid then some v.cells else none
@[go_sem] theorem opsA_box(t:TypeId)(x:Operand)(e:Nat):Yi P E ops Q (⟨some e,.box t x,ty,pos,af,none⟩::rest) ⟨τ,H⟩ =
  Zrh P E ops Q rest e τ H (Z4m (AS.ev E ⟨τ,H⟩ x)):=by
 rw[Us];simp only[Yk,Z4m,Zrh]
 cases a:(AS.ev E ⟨τ,H⟩ x).solid with
 |false=>simp[Pa]
 |true=>simp[Pa,AS.put]
def Jn(P:Program)(t:TypeId)(len:Nat)(parts:List (Nat×V)):Option (Nat×Nat×List V):=
 match P.underlying t with
 |some (.slice e)=>match Yp P e,X7 P e with
  |some E,some z=>if z.length=E/\len*E<=16777216 then(Vh (λi=>some (i*E,E)) (Vj len z) parts).map λa=>(E,len,a)else none
  |_,_=>none
 |_=>none
@[go_sem] theorem Z6y(t:TypeId)(len e:Nat)(l:List (Nat×Operand)):Yi P E ops Q (⟨some e,.buildSlice t len ⟨l⟩,ty,pos,af,none⟩::rest) ⟨τ,H⟩ =
  Ah P E ops Q rest e τ H (Jn P t len (l.map λp=>(p.1,AS.ev E ⟨τ,H⟩ p.2))):=by
 rw[Us];simp only[Yk,Uq,Jn,X7,Ah]
 cases P.underlying t with
 |none=>rfl
 |some k=>
  cases k<;>try rfl
  rename_i b;simp only
  cases Yp P b with
  |none=>rfl
  |some n=>
   cases Ua P b with
   |none=>rfl
   |some z=>
    simp only[Option.bind_some]
    cases c:z.solid with
    |false=>simp[Pa]
    |true=>
     simp only[if_true,true_and]
     by_cases a:z.cells.length=n/\len*n<=16777216
     .simp only[a.1,a.2]
      cases Vh (λi=>some (i*n,n)) (Vj len z.cells) (l.map λp=>(p.1,AS.ev E ⟨τ,H⟩ p.2))with
      |none=>simp[Pa]
      |some cs=>simp[Pa,AS.put]
     simp only[Pa];rw[<- and_assoc];simp[a]
def Oa(P:Program)(t:TypeId)(len cap:V):Option (Nat×Nat×List V):=
 match P.underlying t,len,cap with
 |some (.slice e),.int _ n,.int _ m=>match Yp P e,Qv P e,X7 P e with
  |some E,some bytes,some z=>if z.length=E/\0<=n/\n<=m/\m<=4611686018427387904/\bytes*m<=281474976710656 then some (E,n.toNat,Vj m.toNat z)else none
  |_,_,_=>none
 |_,_,_=>none
@[go_sem] theorem Z20(t:TypeId)(x y:Operand)(e:Nat):Yi P E ops Q (⟨some e,.makeSlice t x y,ty,pos,af,none⟩::rest) ⟨τ,H⟩ =
  Ah P E ops Q rest e τ H (Oa P t (AS.ev E ⟨τ,H⟩ x) (AS.ev E ⟨τ,H⟩ y)):=by
 rw[Us];simp only[Yk,Uk,Oa,X7,Ah];generalize AS.ev E ⟨τ,H⟩ x=v;generalize AS.ev E ⟨τ,H⟩ y=u
 cases P.underlying t with
 |none=>rfl
 |some k=>
  cases k<;>try rfl
  rename_i b
  cases v<;>try rfl
  cases u<;>try rfl
  rename_i k1 n k2 m;simp only
  cases Yp P b with
  |none=>rfl
  |some N=>
   cases Qv P b with
   |none=>rfl
   |some B=>
    cases Ua P b with
    |none=>rfl
    |some z=>
     simp only[Option.bind_some]
     cases c:z.solid with
     |false=>simp[Pa]
     |true=>
      simp only[if_true]
      by_cases a:z.cells.length=N/\0<=n/\n<=m/\m<=4611686018427387904/\B*m<=281474976710656
      rw[if_pos a];simp only[a.1,a.2.1,a.2.2.1,a.2.2.2.1,a.2.2.2.2,true_and,Pa,AS.put];simp only[Pa];simp only[<- and_assoc]at a⊢;simp[a]
def Zw2(P:Program)(E:Ent)(ops:Array Oper)(Q:AS->Prop)(rest:List Oper)(d:Option Nat)(τ : Nat->V)(H:Heap)(f:V)(args:List V):Prop:=
 match f with
 |.func (.func fid) first cap=>CallP P E.G E.kp fid (first++args++cap) H λv a=>Yi P E ops Q rest (AS.put ⟨τ,a⟩ d v)
 |_=>False
def Z76(P:Program)(E:Ent)(ops:Array Oper)(Q:AS->Prop)(rest:List Oper)(d:Option Nat)(τ : Nat->V)(H:Heap)(fid:FuncId)(args:List V):Prop:=
 match E.kp with
 |none=>CallA P E.G fid args H λv a=>Yi P E ops Q rest (AS.put ⟨τ,a⟩ d v)
 |some k=>CallP P E.G (some k) fid args H λv a=>Yi P E ops Q rest (AS.put ⟨τ,a⟩ d v)
@[go_sem] theorem callC_func(a:FuncId)(first cap args:List V):Zw2 P E ops Q rest d τ H (.func (.func a) first cap) args=Z76 P E ops Q rest d τ H a (first++args++cap):=by
 simp only[Zw2,Z76]
 cases E.kp with
 |none=>exact Be
 |some k=>rfl
@[go_sem] theorem opsA_call(f:Operand)(l:List Operand)(a:Array TypeId):Yi P E ops Q (⟨d,.call ⟨.value f,⟨l⟩,a⟩,ty,pos,af,none⟩::rest) ⟨τ,H⟩ =
  Zw2 P E ops Q rest d τ H (AS.ev E ⟨τ,H⟩ f) (l.map (AS.ev E ⟨τ,H⟩)):=by
 rfl
def Zb6(P:Program)(E:Ent)(ops:Array Oper)(Q:AS->Prop)(rest:List Oper)(e:Nat)(τ : Nat->V)(H:Heap)(ats:List TypeId)(a b:V):Prop:=
 Mu P H (E.q+e) ⟨ats⟩ a b λv c=>Yi P E ops Q rest (AS.put ⟨τ,c⟩ (some e) v)
@[go_sem] theorem Zs6(x y:Operand)(a:List TypeId)(e:Nat):Yi P E ops Q (⟨some e,.call ⟨.builtin .append,⟨[x,y]⟩,⟨a⟩⟩,ty,pos,af,none⟩::rest) ⟨τ,H⟩ =
  Zb6 P E ops Q rest e τ H a (AS.ev E ⟨τ,H⟩ x) (AS.ev E ⟨τ,H⟩ y):=by
 rfl
def Zc3(P:Program)(ats:List TypeId):Option (Nat×Nat):=
 match ats with
 |[t0,t1]=>match P.underlying t0,P.underlying t1 with
  |some (.slice _),some (.int _)=>none
  |some (.slice e),some _=>match Yp P e,Qv P e,X7 P e with
   |some E,some bytes,some z=>if z.length=E then some (E,bytes)else none
   |_,_,_=>none
  |_,_=>none
 |_=>none
def Gn(P:Program)(E:Ent)(ops:Array Oper)(Q:AS->Prop)(rest:List Oper)(e:Nat)(τ : Nat->V)(H:Heap)(m bytes:Nat)(a:V)(src:Option (Nat×List V))(ob:AObj):Prop:=
 match src with
 |none=>False
 |some (n,xc)=>
  match a with
  |.nils=>V7 bytes n/\(n=0->Yi P E ops Q rest ⟨Z3 τ e .nils,H⟩)/\(n≠0->∀ g,Yi P E ops Q rest ⟨Z3 τ e (.msl (E.q+e) g 0 n m),Z3 H (E.q+e) (.cells .new g 0 xc)⟩)
  |.slice c clip m' l=>m'=m/\V7 bytes (l.length+n)/\(n=0->Yi P E ops Q rest ⟨Z3 τ e (.slice c clip m l),H⟩) /\
    (n≠0->clip=true/\∀ g,Yi P E ops Q rest ⟨Z3 τ e (.msl (E.q+e) g 0 (l.length+n) m),Z3 H (E.q+e) (.cells .new g 0 (flat l++xc))⟩)
  |.msl o g off len m'=>m'=m/\V7 bytes (len+n) /\
   match ob with
   |.cells c g' fz cs=>g=g'/\off+len*m<=cs.length/\fz<=off+len*m /\
     ∀ g2,Yi P E ops Q rest ⟨Z3 τ e (.msl o g2 0 (len+n) m),Z3 H o (.cells c.moved g2 (fz-off) ((cs.drop off).take (len*m)++xc))⟩
   |_=>False
  |_=>False
def obS(H:Heap)(a:V):AObj:=match a with|.msl o _ _ _ _=>H o|_=>.dead
theorem Kz(H:Heap)(o g off len m:Nat):obS H (.msl o g off len m)=H o:=rfl
theorem Z90(H:Heap):obS H .nils=.dead:=rfl
theorem Zmv(H:Heap)(c:Col)(b:Bool)(m:Nat)(l:List V):obS H (.slice c b m l)=.dead:=rfl
attribute[go_sem]Kz Z90 Zmv
theorem appC_E{d:List TypeId}{m bytes:Nat}(h:Zc3 P d=some (m,bytes))(e:Nat)(a b:V):Zb6 P E ops Q rest e τ H d a b=Gn P E ops Q rest e τ H m bytes a (Ug H m b) (obS H a):=by
 unfold Zc3 at h
 split at h
 case h_2=>grind
 split at h
 grind
 rename_i g bt k n l
 split at h
 rename_i N B z r s j
 split at h
 .rename_i hzl
  simp at h;obtain⟨rfl,rfl⟩:=h
  have f:∃ c,Ua P g=some c/\c.solid=true/\c.cells=z:=by
   unfold X7 at j
   cases i:Ua P g with
   |none=>grind
   |some c=>
    grind
  obtain⟨c,w,u,t⟩:=f;unfold Zb6 Mu;simp only[n,l]
  have fin:Ol H (E.q+e) N B a b (λv o=>Yi P E ops Q rest (AS.put ⟨τ,o⟩ (some e) v))=Gn P E ops Q rest e τ H N B a (Ug H N b) (obS H a):=by
   unfold Ol Gn
   cases Ug H N b with
   |none=>rfl
   |some p=>
    cases a<;>try rfl
  grind
 grind
 grind
 simp at h
def Z0z(m:Nat)(ob:AObj)(x:V):Option (Nat×List V):=
 match x with
 |.nils=>some (0,[])
 |.slice _ _ E' l=>if E'=m then some (l.length,flat l)else none
 |.msl _ g off len E'=>match ob with
  |.cells _ g' _ cs=>if E'=m/\g=g'/\off+len*m<=cs.length then some (len,(cs.drop off).take (len*m))else none
  |_=>none
 |.str s=>if m=1 then some (s.length,s.map λb=>.int .u8 b.toNat)else none
 |_=>none
theorem Zzm(H:Heap)(m:Nat)(x:V):Ug H m x=Z0z m (obS H x) x:=by
 cases x<;>rfl
theorem Zym(m:Nat)(ob:AObj)(c:Col)(b:Bool)(a:Nat)(l:List V):Z0z m ob (.slice c b a l)=if a=m then some (l.length,flat l)else none:=rfl
theorem Zyz(m:Nat)(o g off len b:Nat)(c:Col)(a fz:Nat)(cs:List V):Z0z m (.cells c a fz cs) (.msl o g off len b) =
  if b=m/\g=a/\off+len*m<=cs.length then some (len,(cs.drop off).take (len*m))else none:=rfl
attribute[go_sem]Zzm Zym Zyz
theorem Zpx(e m bytes n:Nat)(xc:List V)(ob:AObj):Gn P E ops Q rest e τ H m bytes .nils (some (n,xc)) ob =
  (V7 bytes n/\(n=0->Yi P E ops Q rest ⟨Z3 τ e .nils,H⟩)/\(n≠0->∀ g,Yi P E ops Q rest ⟨Z3 τ e (.msl (E.q+e) g 0 n m),Z3 H (E.q+e) (.cells .new g 0 xc)⟩)):=rfl
theorem D5(e m bytes n:Nat)(xc:List V)(ob:AObj)(c:Col)(a:Bool)(b:Nat)(l:List V):Gn P E ops Q rest e τ H m bytes (.slice c a b l) (some (n,xc)) ob =
  (b=m/\V7 bytes (l.length+n)/\(n=0->Yi P E ops Q rest ⟨Z3 τ e (.slice c a m l),H⟩) /\
    (n≠0->a=true/\∀ g,Yi P E ops Q rest ⟨Z3 τ e (.msl (E.q+e) g 0 (l.length+n) m),Z3 H (E.q+e) (.cells .new g 0 (flat l++xc))⟩)):=rfl
theorem Z9h(e m bytes n:Nat)(xc:List V)(o g off len a:Nat)(c:Col)(b fz:Nat)(cs:List V):Gn P E ops Q rest e τ H m bytes (.msl o g off len a) (some (n,xc)) (.cells c b fz cs) =
  (a=m/\V7 bytes (len+n)/\g=b/\off+len*m<=cs.length/\fz<=off+len*m /\
     ∀ g2,Yi P E ops Q rest ⟨Z3 τ e (.msl o g2 0 (len+n) m),Z3 H o (.cells c.moved g2 (fz-off) ((cs.drop off).take (len*m)++xc))⟩):=rfl
theorem Zmp(v:V):S6 P E ops Q rest d τ H (some v)=Yi P E ops Q rest (AS.put ⟨τ,H⟩ d v):=rfl
theorem Zpp(H:Heap):Z26 P E ops Q rest d τ (some H)=Yi P E ops Q rest (AS.put ⟨τ,H⟩ d (.tuple [])):=rfl
theorem Zop(e:Nat)(cs:List V):Zrh P E ops Q rest e τ H (some cs)=∀ g,Yi P E ops Q rest ⟨Z3 τ e (.ptr (E.q+e) g 0),Z3 H (E.q+e) (.cells .new g 0 cs)⟩:=rfl
theorem Znp(e m len:Nat)(cs:List V):Ah P E ops Q rest e τ H (some (m,len,cs))=∀ g,Yi P E ops Q rest ⟨Z3 τ e (.msl (E.q+e) g 0 len m),Z3 H (E.q+e) (.cells .new g 0 cs)⟩:=rfl
attribute[go_sem]D5 Z9h Zmp Zpp Zop Znp
end
section
variable(P)(t:TypeId)(k:IntKind)(a b:Int)
theorem T7(op:BinOp)(d:op ≠ .shl)(c:op ≠ .shr):Rp P op t (.int k a) (.int k b)=Zh5 op k a b:=by
 simp only[Rp]
 grind
theorem Z92:Rp P .add t (.int k a) (.int k b)=some (.int k (k.wrap (a+b))):=T7 P t k a b .add zS zS
theorem Z02:Rp P .sub t (.int k a) (.int k b)=some (.int k (k.wrap (a-b))):=T7 P t k a b .sub zS zS
theorem Z82:Rp P .eql t (.int k a) (.int k b)=some (.bool (a==b)):=T7 P t k a b .eql zS zS
theorem Z32:Rp P .neq t (.int k a) (.int k b)=some (.bool (a != b)):=T7 P t k a b .neq zS zS
theorem Z42:Rp P .lss t (.int k a) (.int k b)=some (.bool (decide (a<b))):=T7 P t k a b .lss zS zS
theorem Z52:Rp P .leq t (.int k a) (.int k b)=some (.bool (decide (a<=b))):=T7 P t k a b .leq zS zS
theorem Z62:Rp P .gtr t (.int k a) (.int k b)=some (.bool (decide (a>b))):=T7 P t k a b .gtr zS zS
theorem Z72:Rp P .geq t (.int k a) (.int k b)=some (.bool (decide (a>=b))):=T7 P t k a b .geq zS zS
attribute[go_sem]Z92 Z02 Z82 Z32 Z42 Z52 Z62 Z72
end
theorem Z12(op:BinOp)(t:TypeId)(a b:List UInt8):Rp P op t (.str a) (.str b)=Zsm op a b:=rfl
theorem Zsz(a b:List UInt8):Zsm .eql a b=some (.bool (a==b)):=rfl
theorem Zrz(a b:List UInt8):Zsm .neq a b=some (.bool (!(a==b))):=rfl
theorem Z53(b:Bool):unV .not (.bool b)=some (.bool !b):=rfl
attribute[go_sem]Z12 Zsz Zrz Z53
def Zc2(P:Program)(t:TypeId)(f:Nat):Option (Nat×Bool×Nat):=
 match P.underlying t with
 |some (.struct fs)=>match fs[f]? with
  |some fd=>match T1 P fd.type,Yp P fd.type with
   |some b,some (n+1)=>if b=true\/n=0 then some (fd.offset,b,n+1)else none
   |_,_=>none
  |none=>none
 |_=>none
def Q8(b:Bool)(n:Nat)(l:List V)(off:Nat):Option V:=
 if b then(if off+n<=l.length then some (.agg ((l.drop off).take n))else none)else l[off]?
@[go_sem] theorem partC_true(n:Nat)(l:List V)(off:Nat):Q8 true n l off=if off+n<=l.length then some (.agg ((l.drop off).take n))else none:=rfl
@[go_sem] theorem Zo6(n:Nat)(l:List V)(off:Nat):Q8 false n l off=l[off]? := rfl
theorem Qi{t:TypeId}{b:Bool}{n:Nat}(d:T1 P t=some b)(c:Yp P t=some n)(a:b=true\/n=1)(l:List V)(off:Nat):Qj P t l off=Q8 b n l off:=by
 unfold Qj Q8
 grind
def Zd2(x:Option (Nat×Bool×Nat))(a:V):Option V:=
 match x,a with
 |some (k,_,_),.ptr o g off=>some (.ptr o g (off+k))
 |some (k,b,n),.view c (.agg l)=>(Q8 b n l k).map (.view c)
 |_,_=>none
@[go_sem] theorem fldK_ptr(k n:Nat)(b:Bool)(o g off:Nat):Zd2 (some (k,b,n)) (.ptr o g off)=some (.ptr o g (off+k)):=rfl
@[go_sem] theorem fldK_view(k n:Nat)(b:Bool)(c:Col)(l:List V):Zd2 (some (k,b,n)) (.view c (.agg l))=(Q8 b n l k).map (.view c):=rfl
theorem Z9a{t:TypeId}{f:Nat}{x:Nat×Bool×Nat}(h:Zc2 P t f=some x)(a:V):Td P t a f=Zd2 (some x) a:=by
 unfold Zc2 at h;unfold Td
 split at h
 rename_i j e;rw[e];simp only
 split at h
 rename_i k g;rw[g];simp only
 split at h
 rename_i b n i d
 split at h
 .rename_i hc
  simp at h;subst h;rw[d];unfold Zd2
  cases a<;>try rfl
  rename_i c v
  cases v<;>try rfl
  simp only;rw[Qi i d (hc.imp id zo)]
 grind
 grind
 grind
 grind
def T5(P:Program)(t:TypeId):Option Nat:=match P.underlying t with|some (.slice e)=>Yp P e|_=>none
def E9(P:Program)(t:TypeId):Bool:=match P.underlying t with|some .string=>true|_=>false
def Zfa(P:Program)(t:TypeId):Option (Bool×Nat):=
 match T1 P t,Yp P t with
 |some true,some n=>some (true,n)
 |some false,some 1=>some (false,1)
 |_,_=>none
def Z1g(e:Option Nat)(a i:V):Option V:=
 match e,a,i with
 |some m,.slice c _ E l,.int _ n=>if m=E/\0<=n then(l[n.toNat]?).map (.view c)else none
 |some m,.msl o g off len E,.int _ n=>if m=E/\0<=n/\n<len then some (.ptr o g (off+n.toNat*E))else none
 |_,_,_=>none
theorem Z3a{t:TypeId}{m:Nat}(h:T5 P t=some m)(a i:V):Wt P t a i=Z1g (some m) a i:=by
 unfold T5 at h;unfold Wt Z1g
 split at h
 grind
 grind
@[go_sem] theorem idxK_slice(m:Nat)(c:Col)(a:Bool)(E:Nat)(l:List V)(k:IntKind)(n:Int):Z1g (some m) (.slice c a E l) (.int k n)=if m=E/\0<=n then(l[n.toNat]?).map (.view c)else none:=rfl
@[go_sem] theorem idxK_msl(m o g off len E:Nat)(k:IntKind)(n:Int):Z1g (some m) (.msl o g off len E) (.int k n)=if m=E/\0<=n/\n<len then some (.ptr o g (off+n.toNat*E))else none:=rfl
def Iw(sl:Bool)(a:V):Option V:=
 match a with
 |.nils=>if sl then some (.int .i64 0)else none
 |.slice _ _ _ l=>if sl then some (.int .i64 l.length)else none
 |.msl _ _ _ len _=>if sl then some (.int .i64 len)else none
 |.str s=>if sl then none else some (.int .i64 s.length)
 |_=>none
theorem Zso{t:TypeId}{m:Nat}(h:T5 P t=some m)(a:V):Gl P t a=Iw true a:=by
 unfold T5 at h;unfold Gl Iw
 grind
theorem Zp1{t:TypeId}(h:E9 P t=true)(a:V):Gl P t a=Iw false a:=by
 unfold E9 at h;unfold Gl Iw
 grind
theorem Zaw:Iw true .nils=some (.int .i64 0):=rfl
theorem Zto(c:Col)(a:Bool)(E:Nat)(l:List V):Iw true (.slice c a E l)=some (.int .i64 l.length):=rfl
theorem Zs1(o g off len E:Nat):Iw true (.msl o g off len E)=some (.int .i64 len):=rfl
theorem Zr1(s:List UInt8):Iw false (.str s)=some (.int .i64 s.length):=rfl
attribute[go_sem]Zaw Zto Zs1 Zr1
def Tz(x:Option (Bool×Nat))(ob:AObj)(a:V):Option V:=
 match x,a with
 |some (b,n),.ptr _ g off=>match ob with
  |.cells _ g' _ cs=>if g=g' then Q8 b n cs off else none
  |_=>none
 |some (b,n),.view _ v=>match v,b with
  |.agg l,true=>if n=l.length then some (.agg l)else none
  |.agg _,false=>none
  |.top,_=>none
  |.tuple _,_=>none
  |_,true=>none
  |v,false=>some v
 |_,_=>none
def Znv(H:Heap)(a:V):AObj:=match a with|.ptr o _ _=>H o|_=>.dead
theorem Zq4{t:TypeId}{b:Bool}{n:Nat}(h:Zfa P t=some (b,n))(H:Heap)(a:V):Xt P H t a=Tz (some (b,n)) (Znv H a) a:=by
 unfold Zfa at h
 have f:T1 P t=some b/\Yp P t=some n/\(b=true\/n=1):=by
  split at h<;>simp at h<;>obtain⟨rfl,rfl⟩:=h<;>rename_i e d
  exact⟨e,d,.inl rfl⟩;exact⟨e,d,.inr rfl⟩
 obtain⟨e,d,i⟩:=f;unfold Xt
 cases a<;>try(simp[Vb,Tz];done)
 rename_i c v;simp only[Vb,Tz,e,d]
 cases b<;>cases v<;>simp
 .rename_i o g off
  simp only[Tz,Znv]
  cases H o with
  |dead=>rfl
  |mp=>rfl
  |lp=>rfl
  |cells c g' fz cs=>
   simp only;rw[Qi e d i]
theorem Zb1(H:Heap)(o g off:Nat):Znv H (.ptr o g off)=H o:=rfl
theorem Z6v(b:Bool)(n o g off:Nat)(c:Col)(a fz:Nat)(cs:List V):Tz (some (b,n)) (.cells c a fz cs) (.ptr o g off)=if g=a then Q8 b n cs off else none:=rfl
theorem Z9v(n:Nat)(ob:AObj)(c:Col)(l:List V):Tz (some (true,n)) ob (.view c (.agg l))=if n=l.length then some (.agg l)else none:=rfl
theorem Z7v(n:Nat)(ob:AObj)(c:Col)(k:IntKind)(i:Int):Tz (some (false,n)) ob (.view c (.int k i))=some (.int k i):=rfl
theorem Zqo(n:Nat)(ob:AObj)(c:Col)(b:Bool):Tz (some (false,n)) ob (.view c (.bool b))=some (.bool b):=rfl
theorem Z5v(n:Nat)(ob:AObj)(c:Col)(s:List UInt8):Tz (some (false,n)) ob (.view c (.str s))=some (.str s):=rfl
theorem Zyg(n:Nat)(ob:AObj)(c b:Col)(a:Bool)(E:Nat)(l:List V):Tz (some (false,n)) ob (.view c (.slice b a E l))=some (.slice b a E l):=rfl
theorem Zoo(n:Nat)(ob:AObj)(c:Col):Tz (some (false,n)) ob (.view c .nils)=some .nils:=rfl
theorem Zpo(n:Nat)(ob:AObj)(c:Col)(d:Fn)(a b:List V):Tz (some (false,n)) ob (.view c (.func d a b))=some (.func d a b):=rfl
attribute[go_sem]Zb1 Z6v Z9v Z7v Zqo Z5v Zyg Zoo Zpo
def Zvm(sz:Option Nat)(H:Heap)(ob:AObj)(a v:V):Option Heap:=
 match a,ob with
 |.ptr o g off,.cells c g' fz cs=>if g=g'/\v.solid=true/\sz=some v.cells.length/\fz<=off/\off+v.cells.length<=cs.length then some (Z3 H o (.cells c g fz (setAt cs off v.cells)))else none
 |_,_=>none
theorem Zuz(H:Heap)(t:TypeId)(a v:V):O3 P H t a v=Zvm (Yp P t) H (Znv H a) a v:=by
 unfold O3 Zvm
 cases a<;>try rfl
 rename_i o g b;simp only[Znv]
 grind
theorem Zum(a:Option Nat)(H:Heap)(o g off:Nat)(c:Col)(b fz:Nat)(cs:List V)(v:V):Zvm a H (.cells c b fz cs) (.ptr o g off) v =
  if g=b/\v.solid=true/\a=some v.cells.length/\fz<=off/\off+v.cells.length<=cs.length then some (Z3 H o (.cells c g fz (setAt cs off v.cells)))else none:=rfl
theorem Zzu(cs:List V)(off:Nat):setAt cs off []=cs:=rfl
theorem Zcn(cs:List V)(off:Nat)(v:V)(r:List V):setAt cs off (v::r)=setAt (cs.set off v) (off+1) r:=rfl
attribute[go_sem]Zuz Zum Zzu Zcn
section
theorem Aj(l:List V):(V.agg l).cells=l:=rfl
theorem Zgx(k:IntKind)(n:Int):(V.int k n).cells=[.int k n]:=rfl
theorem Zvp(b:Bool):(V.bool b).cells=[.bool b]:=rfl
theorem Zdx(s:List UInt8):(V.str s).cells=[.str s]:=rfl
theorem Ztp:V.nils.cells=[.nils]:=rfl
theorem Zfx(o g off len E:Nat):(V.msl o g off len E).cells=[.msl o g off len E]:=rfl
theorem Zex(o g off:Nat):(V.ptr o g off).cells=[.ptr o g off]:=rfl
theorem Zup(c:Fn)(a b:List V):(V.func c a b).cells=[.func c a b]:=rfl
theorem Zwu(l:List V):(V.agg l).solid=true:=rfl
theorem Zuu(k:IntKind)(n:Int):(V.int k n).solid=true:=rfl
theorem Z3m(b:Bool):(V.bool b).solid=true:=rfl
theorem Zru(s:List UInt8):(V.str s).solid=true:=rfl
theorem Z1m:V.nils.solid=true:=rfl
theorem Ztu(o g off len E:Nat):(V.msl o g off len E).solid=true:=rfl
theorem Zsu(o g off:Nat):(V.ptr o g off).solid=true:=rfl
theorem Z2m(c:Fn)(a b:List V):(V.func c a b).solid=true:=rfl
theorem Z3z(v:V):Z4m v=if v.solid then some v.cells else none:=rfl
theorem Z2u(z:List V):Vj 0 z=[]:=rfl
theorem Z3u(n:Nat)(z:List V):Vj (n+1) z=z++Vj n z:=rfl
attribute[go_sem]Aj Zgx Zvp Zdx Ztp Zfx Zex Zup Zwu Zuu Z3m Zru Z1m Ztu Zsu Z2m Z3z Z2u Z3u
end
section
variable(P)(t:TypeId)
def Ro(P:Program)(t:TypeId):Nat:=
 match P.underlying t with
 |some (.pointer _)=>1
 |some (.slice _)=>2
 |some (.func _ _ _)=>3
 |some (.interface _)=>4
 |some (.map _ _)=>5
 |_=>0
def Is(k:Nat)(a:V):Option Bool:=
 match a with
 |.nilp=>if k=1 then some true else none
 |.view _ _=>if k=1 then some false else none
 |.ptr _ _ _=>if k=1 then some false else none
 |.nils=>if k=2 then some true else none
 |.slice _ _ _ _=>if k=2 then some false else none
 |.msl _ _ _ _ _=>if k=2 then some false else none
 |.nilf=>if k=3 then some true else none
 |.func _ _ _=>if k=3 then some false else none
 |.iface _ _=>if k=4 then some false else none
 |.nilm=>if k=5 then some true else none
 |_=>none
theorem nilB_K(a:V):Cz P t a=Is (Ro P t) a:=by
 unfold Cz Ro
 cases h:P.underlying t with
 |none=>cases a<;>rfl
 |some u=>cases u<;>cases a<;>rfl
def Tw(k:Nat):V:=if k=1 then .nilp else if k=2 then .nils else if k=3 then .nilf else if k=4 then .nili else .nilm
theorem Zy5{k:Nat}(h:Ro P t=k)(c:k≠0)(a:V):eqV P t a (Tw k)=Is k a:=by
 have d:Qs P t (Tw k)=true:=by
  subst h;unfold Qs Tw Ro at *
  cases b:P.underlying t with
  |none=>grind
  |some u=>grind
 have e:∀ x,Tw k ≠ .bool x:=by
  intro x;unfold Tw
  grind
 rw[<- h,<- nilB_K];unfold eqV
 grind
theorem Nz{k:Nat}(h:Ro P t=k)(c:k≠0)(a:V):Rp P .eql t a (Tw k)=(Is k a).map .bool/\Rp P .neq t a (Tw k)=(Is k a).map λr=>.bool (!r):=by
 rw[<- Zy5 P t h c]
 have f:∀ k' n,Tw k ≠ .int k' n:=by
  intro k' n;unfold Tw
  grind
 have e:∀ l,Tw k ≠ .str l:=by
  intro l;unfold Tw
  grind
 have d:∀ l,Tw k ≠ .agg l:=by
  intro l;unfold Tw
  grind
 generalize Tw k=b at *;unfold Rp
 grind
theorem Zrv:Is 2 .nils=some true:=rfl
theorem Z8n(c:Col)(b:Bool)(m:Nat)(l:List V):Is 2 (.slice c b m l)=some false:=rfl
theorem Zqv(c:Col)(v:V):Is 1 (.view c v)=some false:=rfl
attribute[go_sem]Zrv Z8n Zqv
end
def bsK(m:Nat)(z:List V)(len:Nat)(parts:List (Nat×V)):Option (Nat×Nat×List V):=
 if len*m<=16777216 then(Vh (λi=>some (i*m,m)) (Vj len z) parts).map λa=>(m,len,a)else none
theorem Zkx{P:Program}{t e:TypeId}{m:Nat}{z:List V}(f:P.underlying t=some (.slice e))(d:Yp P e=some m)(c:X7 P e=some z)(b:z.length=m)(len:Nat)(a:List (Nat×V)):
  Jn P t len a=bsK m z len a:=by
 unfold Jn bsK
 grind
def Zrg(m:Nat):Nat->Option (Nat×Nat):=λi=>some (i*m,m)
def A9(tbl:List (Nat×Nat)):Nat->Option (Nat×Nat):=λi=>tbl[i]?
theorem Z85(m:Nat)(z:List V)(len:Nat)(a:List (Nat×V)):bsK m z len a=if len*m<=16777216 then(Vh (Zrg m) (Vj len z) a).map λcs=>(m,len,cs)else none:=rfl
theorem Zuw(p:Nat->Option (Nat×Nat))(cells:List V):Vh p cells []=some cells:=rfl
theorem Zvw(m:Nat)(cells:List V)(i:Nat)(v:V)(rest:List (Nat×V)):Vh (Zrg m) cells ((i,v)::rest) =
  if v.solid=true/\v.cells.length=m/\i*m+m<=cells.length then Vh (Zrg m) (setAt cells (i*m) v.cells) rest else none:=rfl
attribute[go_sem]Z85 Zuw Zvw
def Zy6(tbl:List (Nat×Nat))(p:Option (Nat×Nat))(cells:List V)(v:V)(rest:List (Nat×V)):Option (List V):=
 match p with
 |none=>none
 |some (off,size)=>if v.solid=true/\v.cells.length=size/\off+size<=cells.length then Vh (A9 tbl) (setAt cells off v.cells) rest else none
@[go_sem] theorem fillV_tbl(tbl:List (Nat×Nat))(cells:List V)(i:Nat)(v:V)(rest:List (Nat×V)):Vh (A9 tbl) cells ((i,v)::rest)=Zy6 tbl (tbl[i]?) cells v rest:=rfl
@[go_sem] theorem fillT_some(tbl:List (Nat×Nat))(off size:Nat)(cells:List V)(v:V)(rest:List (Nat×V)):Zy6 tbl (some (off,size)) cells v rest =
  if v.solid=true/\v.cells.length=size/\off+size<=cells.length then Vh (A9 tbl) (setAt cells off v.cells) rest else none:=rfl
def Znz(P:Program)(t:TypeId):Option (List (Nat×Nat)):=
 match P.underlying t with
 |some (.struct fs)=>fs.toList.mapM λf=>(Yp P f.type).map λn=>(f.offset,n)
 |_=>none
theorem Zsg{α β : Type}{f : α -> Option β}:∀ {l:List α} {r:List β},l.mapM f=some r->(l.all λx=>(f x).isSome)=true/\∀ i:Nat,r[i]?=(l[i]?).bind f
 |[],r,h=>by
  grind
 |x::l,r,h=>by
  simp only[List.mapM_cons,Option.bind_eq_bind,Option.bind_eq_some_iff,Option.pure_def,Option.some.injEq]at h;obtain⟨y,c,b,a,rfl⟩:=h;obtain⟨e,d⟩:=Zsg a
  grind
theorem Zwh{P:Program}{t:TypeId}{tbl:List (Nat×Nat)}{z:List V}(b:Znz P t=some tbl)(j:Ua P t=some (.agg z))(a:List (Nat×V)):
  Tf P t a=(Vh (A9 tbl) z a).map .agg:=by
 unfold Znz at b
 cases c:P.underlying t with
 |none=>grind
 |some k=>
  rw[c]at b
  cases k<;>simp only[reduceCtorEq]at b
  rename_i d;obtain⟨l,h⟩:=Zsg b;unfold Tf;rw[c,j]
  have g:(d.toList.all λf=>(Yp P f.type).isSome)=true:=by grind
  simp only[g]
  have e:(λi=>(d[i]?).bind λf=>(Yp P f.type).map λn=>(f.offset,n))=A9 tbl:=by
   funext i
   have:=h i;unfold A9
   grind
  rw[e];rfl
def slJ(i j:Option Nat)(f:Nat->Nat->Option V):Option V:=match i,j with|some i,some j=>f i j|_,_=>none
theorem Z5z(i j:Nat)(f:Nat->Nat->Option V):slJ (some i) (some j) f=f i j:=rfl
theorem H6(d:Nat):Yj d none=some d:=rfl
theorem Zyp(d:Nat)(k:IntKind)(n:Int):Yj d (some (.int k n))=if 0<=n then some n.toNat else none:=rfl
attribute[go_sem]Z5z H6 Zyp
def slK(m:Nat)(a:V)(lo hi:Option V):Option V:=
 match a with
 |.slice c clip E l=>slJ (Yj 0 lo) (Yj l.length hi) λi j=>if m=E/\i<=j/\j<=l.length then some (.slice c (clip&&j==l.length) E ((l.drop i).take (j-i)))else none
 |.msl o g off len E=>slJ (Yj 0 lo) (Yj len hi) λi j=>
   if m=E/\i<=j/\j<=len then some (if i=0 then .msl o g off j E else if i<j then .msl o g (off+i*E) (j-i) E else .slice .any false E [])else none
 |.nils=>slJ (Yj 0 lo) (Yj 0 hi) λi j=>if i=0/\j=0 then some .nils else none
 |_=>none
theorem Q5{t:TypeId}{m:Nat}(h:T5 P t=some m)(a:V)(lo hi:Option V):Uh P t a lo hi none=slK m a lo hi:=by
 unfold T5 at h;unfold Uh slK
 split at h
 .rename_i e hu
  rw[hu]
  cases a<;>try rfl
  .simp only[h]
   cases d:Yj 0 lo with
   |none=>rfl
   |some i=>
    cases b:Yj 0 hi with
    |none=>cases i<;>rfl
    |some j=>
     simp only[H6]
     cases i with
     |zero=>cases j<;>rfl
     |succ i=>rfl
  .rename_i c clip E l
   simp only[h,Option.some.injEq]
   cases Yj 0 lo with
   |none=>rfl
   |some i=>
    cases Yj l.length hi with
    |none=>rfl
    |some j=>rfl
  .rename_i o g off len E
   simp only[h,Option.some.injEq]
   cases Yj 0 lo with
   |none=>rfl
   |some i=>
    cases Yj len hi with
    |none=>rfl
    |some j=>rfl
 simp at h
@[go_sem] theorem slK_msl(m o g off len E:Nat)(lo hi:Option V):slK m (.msl o g off len E) lo hi =
  slJ (Yj 0 lo) (Yj len hi) λi j=>if m=E/\i<=j/\j<=len then some (if i=0 then .msl o g off j E else if i<j then .msl o g (off+i*E) (j-i) E else .slice .any false E [])else none:=rfl
@[go_sem] theorem slK_nils(m:Nat)(lo hi:Option V):slK m .nils lo hi=slJ (Yj 0 lo) (Yj 0 hi) λi j=>if i=0/\j=0 then some .nils else none:=rfl
def msK(E bytes:Nat)(z:List V)(a b:V):Option (Nat×Nat×List V):=
 match a,b with
 |.int _ n,.int _ m=>if 0<=n/\n<=m/\m<=4611686018427387904/\bytes*m<=281474976710656 then some (E,n.toNat,Vj m.toNat z)else none
 |_,_=>none
theorem Iu{t e:TypeId}{E bytes:Nat}{z:List V}(c:P.underlying t=some (.slice e))(h:Yp P e=some E)(g:Qv P e=some bytes)(f:X7 P e=some z)(d:z.length=E)(a b:V):
  Oa P t a b=msK E bytes z a b:=by
 unfold Oa msK
 grind
@[go_sem] theorem contS_ms{E:Ent}{ops:Array Oper}{Q:AS->Prop}{rest:List Oper}{τ : Nat->V}{H:Heap}(e m bytes:Nat)(z:List V)(k1 k2:IntKind)(n c:Int):
  Ah P E ops Q rest e τ H (msK m bytes z (.int k1 n) (.int k2 c)) =
   ((0<=n/\n<=c/\c<=4611686018427387904/\bytes*c<=281474976710656)/\∀ g,Yi P E ops Q rest ⟨Z3 τ e (.msl (E.q+e) g 0 n.toNat m),Z3 H (E.q+e) (.cells .new g 0 (Vj c.toNat z))⟩):=by
 have b:msK m bytes z (.int k1 n) (.int k2 c)=if 0<=n/\n<=c/\c<=4611686018427387904/\bytes*c<=281474976710656 then some (m,n.toNat,Vj c.toNat z)else none:=rfl
 rw[b]
 by_cases h:0<=n/\n<=c/\c<=4611686018427387904/\bytes*c<=281474976710656
 rw[if_pos h];exact(propext (and_iff_right h)).symm;rw[if_neg h];exact propext ⟨False.elim,λa=>h a.1⟩
theorem Zn2{s d:TypeId}{kd:IntKind}(b:(P.underlying s).isSome=true)(a:P.underlying d=some (.int kd))(k:IntKind)(n:Int):Dw P s d (.int k n)=some (.int kd (kd.wrap n)):=by
 unfold Dw;rw[a]
 cases h:P.underlying s with
 |none=>grind
 |some t=>rfl
end
end Go.Hs
