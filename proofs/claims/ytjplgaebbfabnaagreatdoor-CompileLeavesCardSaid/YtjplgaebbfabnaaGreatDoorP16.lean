/- A part. No condition. -/
import Derived.Test.YtjplgaebbfabnaaGreatDoorP15
import Derived.Attr
set_option linter.all false
namespace Go.Hs
section
variable{P:Program}{E:Ent}
def Oi{α : Type}(o:Option α)(K : α -> Prop):Prop:=match o with|some v=>K v|none=>False
def R8(P:Program)(E:Ent)(ops:Array Oper)(Q:AS->Prop)(rest:List Oper)(d:Option Nat)(τ : Nat->V)(H:Heap)(o:Option V):Prop:=Oi o λv=>Yt P E ops Q rest (AS.put ⟨τ,H⟩ d v)
def Zpca(P:Program)(E:Ent)(ops:Array Oper)(Q:AS->Prop)(rest:List Oper)(d:Option Nat)(τ : Nat->V)(o:Option Heap):Prop:=Oi o λH=>Yt P E ops Q rest (AS.put ⟨τ,H⟩ d (.tuple []))
def Zok(P:Program)(E:Ent)(ops:Array Oper)(Q:AS->Prop)(rest:List Oper)(e:Nat)(τ : Nat->V)(H:Heap)(o:Option (List V)):Prop:=
 Oi o λa=>∀ g,Yt P E ops Q rest ⟨Ya τ e (.ptr (E.q+e) g 0),Ya H (E.q+e) (.cells .new g 0 a)⟩
def Zbb(P:Program)(E:Ent)(ops:Array Oper)(Q:AS->Prop)(rest:List Oper)(e:Nat)(τ : Nat->V)(H:Heap)(o:Option (Nat×Nat×List V)):Prop:=
 Oi o λc=>∀ g,Yt P E ops Q rest ⟨Ya τ e (.msl (E.q+e) g 0 c.2.1 c.1),Ya H (E.q+e) (.cells .new g 0 c.2.2)⟩
theorem Zvy{α : Type}(f:Nat -> α)(k:Nat)(x : α)(n:Nat):Ya f k x n=if n=k then x else f n:=rfl
theorem ev_tmp(τ : Nat->V)(H:Heap)(t:Nat):AS.ev E ⟨τ,H⟩ (.tmp t) = τ t:=rfl
theorem ev_int(τ : Nat->V)(H:Heap)(k:IntKind)(n:Int):AS.ev E ⟨τ,H⟩ (.const (.int k n))=.int k n:=rfl
theorem Znba(τ : Nat->V)(H:Heap)(b:Bool):AS.ev E ⟨τ,H⟩ (.const (.bool b))=.bool b:=rfl
theorem ev_str(τ : Nat->V)(H:Heap)(s:ByteArray):AS.ev E ⟨τ,H⟩ (.const (.string s))=.str s.data.toList:=rfl
theorem Zjba(τ : Nat->V)(H:Heap):AS.ev E ⟨τ,H⟩ (.const (.slice none 0 0))=.nils:=rfl
theorem Zkba(τ : Nat->V)(H:Heap):AS.ev E ⟨τ,H⟩ (.const (.pointer none))=.nilp:=rfl
theorem Zlba(τ : Nat->V)(H:Heap):AS.ev E ⟨τ,H⟩ (.const .nilFunc)=.nilf:=rfl
theorem Zmba(τ : Nat->V)(H:Heap)(f:FuncId):AS.ev E ⟨τ,H⟩ (.func f)=.func (.func f) [] []:=rfl
theorem Zu1(τ : Nat->V)(H:Heap)(g:Nat):AS.ev E ⟨τ,H⟩ (.global g)=E.G g:=rfl
theorem Zc6(τ : Nat->V)(H:Heap)(d:Nat)(v:V):AS.put ⟨τ,H⟩ (some d) v=⟨Ya τ d v,H⟩:=rfl
theorem Ze6(τ : Nat->V)(H:Heap)(v:V):AS.put ⟨τ,H⟩ none v=⟨τ,H⟩:=rfl
theorem Z9t(k:Nat)(v:V)(r:List V):Uy k (v::r)=Ya (Uy (k+1) r) k v:=rfl
attribute[go_sem]Zvy ev_tmp ev_int Znba ev_str Zjba Zkba Zlba Zmba Zu1 Zc6 Ze6 Z9t
attribute [go_sem] List.map_cons List.map_nil List.length_cons List.length_nil List.getElem?_cons_zero List.getElem?_cons_succ List.drop_succ_cons List.drop_zero List.take_succ_cons List.take_zero
 List.set_cons_zero List.set_cons_succ List.append_nil List.nil_append List.cons_append Option.map_some Option.map_none Nat.zero_add Nat.add_zero Int.toNat_natCast and_true true_and Bool.not_true Bool.not_false
 and_self Int.natCast_nonneg Bool.false_eq_true Bool.true_eq_false eq_self if_true if_false ne_eq not_true_eq_false not_false_eq_true false_implies true_implies Option.bind_some forall_const
section
variable{ops:Array Oper}{Q:AS->Prop}{rest:List Oper}{τ : Nat->V}{H:Heap}{d:Option Nat}{ty:TypeId}{pos:String}{af:Array Edge}
@[go_sem] theorem Cb(s:AS):Yt P E ops Q [] s=Q s:=rfl
def P2(b:Option Bool)(K0 K1:Prop):Prop:=match b with|some true=>K1|some false=>K0|none=>False
@[congr] theorem Zcba{b a:Option Bool}{d c:Prop}(h:b=a):P2 b d c=P2 a d c:=by rw[h]
@[go_sem] theorem Mz(b a:Prop):P2 (some true) b a=a:=rfl
@[go_sem] theorem Zbba(a b:Prop):P2 (some false) a b=a:=rfl
def C4(v:V)(want:Bool):Option Bool:=
 match v with
 |.bool b=>some (b==want)
 |.tuple []=>some false
 |_=>none
theorem Z2j(b:Bool):C4 (.bool b) true=some b:=by cases b<;>rfl
theorem Z7c(b:Bool):C4 (.bool b) false=some (!b):=by cases b<;>rfl
theorem Z6c(a:Bool):C4 (.tuple []) a=some false:=rfl
attribute[go_sem]Z2j Z7c Z6c
def Nh(l:List Oper)(j:Nat):Option Nat:=(l[j]?).bind (·.dst)
@[go_sem] theorem Z9ba(o:Oper)(l:List Oper):Nh (o::l) 0=o.dst:=rfl
@[go_sem] theorem Zaca(o:Oper)(l:List Oper)(j:Nat):Nh (o::l) (j+1)=Nh l j:=rfl
def Ig(v:Option V)(want:Bool):Option Bool:=match v with|some v=>C4 v want|none=>some false
@[go_sem] theorem Zdba(v:V)(a:Bool):Ig (some v) a=C4 v a:=rfl
theorem Hy(s:AS)(o:Oper):Yt P E ops Q (o::rest) s=P2 (Z8 ops s.τ o) (Yt P E ops Q rest (s.put o.dst (.tuple []))) (Yy P E s o λv H'=>Yt P E ops Q rest (AS.put { s with H:=H' } o.dst v)):=by
 rfl
@[go_sem] theorem opsA_guard(l:List Oper)(op:Op)(j:Nat)(a:Bool):
  Yt P E ⟨l⟩ Q (⟨d,op,ty,pos,af,some (j,a)⟩::rest) ⟨τ,H⟩ =
   P2 (Ig ((Nh l j).map τ) a) (Yt P E ⟨l⟩ Q rest (AS.put ⟨τ,H⟩ d (.tuple []))) (Yt P E ⟨l⟩ Q (⟨d,op,ty,pos,af,none⟩::rest) ⟨τ,H⟩):=by
 rw[Hy,Hy];have c:Z8 ⟨l⟩ τ ⟨d,op,ty,pos,af,none⟩=some true:=rfl
 have b:Z8 ⟨l⟩ τ ⟨d,op,ty,pos,af,some (j,a)⟩=Ig ((Nh l j).map τ) a:=by
  unfold Z8 Nh;simp only[List.getElem?_toArray]
  cases(l[j]?).bind (·.dst)with
  |none=>rfl
  |some e=>
   rfl
 rw[b];rfl
variable(ops)
theorem Vb(op:Op)(a:∀ K,Yy P E ⟨τ,H⟩ ⟨d,op,ty,pos,af,none⟩ K=(match I6 P (AS.ev E ⟨τ,H⟩) ⟨d,op,ty,pos,af,none⟩with|some v=>K v H|none=>False)):
  Yt P E ops Q (⟨d,op,ty,pos,af,none⟩::rest) ⟨τ,H⟩=R8 P E ops Q rest d τ H (I6 P (AS.ev E ⟨τ,H⟩) ⟨d,op,ty,pos,af,none⟩):=by
 rw[Hy];have b:Z8 ops (⟨τ,H⟩:AS).τ ⟨d,op,ty,pos,af,none⟩=some true:=rfl;rw[b,a]
 cases I6 P (AS.ev E ⟨τ,H⟩) ⟨d,op,ty,pos,af,none⟩<;>rfl
@[go_sem] theorem opsA_move(x:Operand):Yt P E ops Q (⟨d,.move x,ty,pos,af,none⟩::rest) ⟨τ,H⟩=Yt P E ops Q rest (AS.put ⟨τ,H⟩ d (AS.ev E ⟨τ,H⟩ x)):=Vb ops _ λ_=>rfl
@[go_sem] theorem Zhca(x:Operand):Yt P E ops Q (⟨d,.assign x,ty,pos,af,none⟩::rest) ⟨τ,H⟩=Yt P E ops Q rest (AS.put ⟨τ,H⟩ d (AS.ev E ⟨τ,H⟩ x)):=Vb ops _ λ_=>rfl
def Zsx(c a b:V):Option V:=match c with|.bool true=>some a|.bool false=>some b|_=>none
theorem Zsr(a b:V):Zsx (.bool true) a b=some a:=rfl
theorem Z4i(a b:V):Zsx (.bool false) a b=some b:=rfl
theorem Z5i(c a b:Bool):Zsx (.bool c) (.bool a) (.bool b)=some (.bool (if c then a else b)):=by cases c<;>rfl
theorem Z9z(c a b:Operand):Yt P E ops Q (⟨d,.pick c a b,ty,pos,af,none⟩::rest) ⟨τ,H⟩ =
  R8 P E ops Q rest d τ H (Zsx (AS.ev E ⟨τ,H⟩ c) (AS.ev E ⟨τ,H⟩ a) (AS.ev E ⟨τ,H⟩ b)):=Vb ops _ λ_=>rfl
theorem Z6r(op:BinOp)(t:TypeId)(x y:Operand)(u:TypeId):Yt P E ops Q (⟨d,.binOp op t x y u,ty,pos,af,none⟩::rest) ⟨τ,H⟩ =
  R8 P E ops Q rest d τ H (Un P op t (AS.ev E ⟨τ,H⟩ x) (AS.ev E ⟨τ,H⟩ y)):=Vb ops _ λ_=>rfl
theorem Z8z(op:UnOp)(t:TypeId)(x:Operand):Yt P E ops Q (⟨d,.unOp op t x,ty,pos,af,none⟩::rest) ⟨τ,H⟩ =
  R8 P E ops Q rest d τ H (unV op (AS.ev E ⟨τ,H⟩ x)):=Vb ops _ λ_=>rfl
theorem Zoc(t u:TypeId)(x:Operand):Yt P E ops Q (⟨d,.convert t u x,ty,pos,af,none⟩::rest) ⟨τ,H⟩ =
  R8 P E ops Q rest d τ H (Bk P t u (AS.ev E ⟨τ,H⟩ x)):=Vb ops _ λ_=>rfl
attribute[go_sem]Zsr Z4i Z5i Z9z Z6r Z8z Zoc
def Zhk(t:V)(i:Nat):Option V:=match t with|.tuple vs=>vs[i]? |_=>none
theorem Bc(vs:List V)(i:Nat):Zhk (.tuple vs) i=vs[i]? := rfl
theorem Znc(x:Operand)(i:Nat):Yt P E ops Q (⟨d,.extract x i,ty,pos,af,none⟩::rest) ⟨τ,H⟩ =
  R8 P E ops Q rest d τ H (Zhk (AS.ev E ⟨τ,H⟩ x) i):=Vb ops _ λ_=>rfl
theorem Ce(t:TypeId)(x:Operand)(f:Nat):Yt P E ops Q (⟨d,.fieldAddr t x f,ty,pos,af,none⟩::rest) ⟨τ,H⟩ =
  R8 P E ops Q rest d τ H (Sd P t (AS.ev E ⟨τ,H⟩ x) f):=Vb ops _ λ_=>rfl
theorem Cd(t:TypeId)(x i:Operand):Yt P E ops Q (⟨d,.indexAddr t x i,ty,pos,af,none⟩::rest) ⟨τ,H⟩ =
  R8 P E ops Q rest d τ H (Wx P t (AS.ev E ⟨τ,H⟩ x) (AS.ev E ⟨τ,H⟩ i)):=Vb ops _ λ_=>rfl
theorem Z4r(t:TypeId)(x i:Operand):Yt P E ops Q (⟨d,.index t x i,ty,pos,af,none⟩::rest) ⟨τ,H⟩ =
  R8 P E ops Q rest d τ H (Qf P t (AS.ev E ⟨τ,H⟩ x) (AS.ev E ⟨τ,H⟩ i)):=Vb ops _ λ_=>rfl
theorem Z3r(t:TypeId)(x:Operand)(lo hi mx:Option Operand):Yt P E ops Q (⟨d,.slice t x lo hi mx,ty,pos,af,none⟩::rest) ⟨τ,H⟩ =
  R8 P E ops Q rest d τ H (Ub P t (AS.ev E ⟨τ,H⟩ x) (lo.map (AS.ev E ⟨τ,H⟩)) (hi.map (AS.ev E ⟨τ,H⟩)) (mx.map (AS.ev E ⟨τ,H⟩))):=Vb ops _ λ_=>rfl
theorem Z5r(t:TypeId)(l:List (Nat×Operand)):Yt P E ops Q (⟨d,.build t ⟨l⟩,ty,pos,af,none⟩::rest) ⟨τ,H⟩ =
  R8 P E ops Q rest d τ H (Ta P t (l.map λp=>(p.1,AS.ev E ⟨τ,H⟩ p.2))):=Vb ops _ λ_=>rfl
theorem Ao(a:Fn)(l m:List Operand):Yt P E ops Q (⟨d,.makeFunc a ⟨l⟩ ⟨m⟩,ty,pos,af,none⟩::rest) ⟨τ,H⟩ =
  Yt P E ops Q rest (AS.put ⟨τ,H⟩ d (.func a (l.map (AS.ev E ⟨τ,H⟩)) (m.map (AS.ev E ⟨τ,H⟩)))):=Vb ops _ λ_=>rfl
theorem Z46(k k':IntKind)(x y:Int):Zwc [.int k x,.int k' y]=some (.int k (if y>x then y else x)):=rfl
theorem Zp6(l:List Operand)(a:List TypeId):Yt P E ops Q (⟨d,.call ⟨.builtin .max,⟨l⟩,⟨a⟩⟩,ty,pos,af,none⟩::rest) ⟨τ,H⟩ =
  R8 P E ops Q rest d τ H (Zwc (l.map (AS.ev E ⟨τ,H⟩))):=Vb ops _ λ_=>rfl
theorem Zr6(x:Operand)(t:TypeId):Yt P E ops Q (⟨d,.call ⟨.builtin .len,⟨[x]⟩,⟨[t]⟩⟩,ty,pos,af,none⟩::rest) ⟨τ,H⟩ =
  R8 P E ops Q rest d τ H (F5 P t (AS.ev E ⟨τ,H⟩ x)):=Vb ops _ λ_=>rfl
theorem An(x:Operand):Yt P E ops Q (⟨d,.nilCheck x,ty,pos,af,none⟩::rest) ⟨τ,H⟩ =
  R8 P E ops Q rest d τ H (I6 P (AS.ev E ⟨τ,H⟩) ⟨d,.nilCheck x,ty,pos,af,none⟩):=Vb ops _ λ_=>rfl
attribute[go_sem]Bc Znc Ce Cd Z4r Z3r Z5r Ao Z46 Zp6 Zr6 An
theorem Tg(op:Op):Yt P E ops Q (⟨d,op,ty,pos,af,none⟩::rest) ⟨τ,H⟩=Yy P E ⟨τ,H⟩ ⟨d,op,ty,pos,af,none⟩ λv H'=>Yt P E ops Q rest (AS.put ⟨τ,H'⟩ d v):=by
 rfl
@[go_sem] theorem opsA_load(t:TypeId)(x:Operand):Yt P E ops Q (⟨d,.load t x,ty,pos,af,none⟩::rest) ⟨τ,H⟩ =
  R8 P E ops Q rest d τ H (Wc P H t (AS.ev E ⟨τ,H⟩ x)):=by
 rw[Tg];simp only[Yy]
 cases Wc P H t (AS.ev E ⟨τ,H⟩ x)<;>rfl
@[go_sem] theorem opsA_store(t:TypeId)(p x:Operand):Yt P E ops Q (⟨d,.store t p x,ty,pos,af,none⟩::rest) ⟨τ,H⟩ =
  Zpca P E ops Q rest d τ (Mm P H t (AS.ev E ⟨τ,H⟩ p) (AS.ev E ⟨τ,H⟩ x)):=by
 rw[Tg];simp only[Yy]
 cases Mm P H t (AS.ev E ⟨τ,H⟩ p) (AS.ev E ⟨τ,H⟩ x)<;>rfl
def Xo(P:Program)(t:TypeId):Option (List V):=(Uv P t).bind λz=>if z.solid then some z.cells else none
@[go_sem] theorem opsA_alloc(t:TypeId)(e:Nat):Yt P E ops Q (⟨some e,.alloc t,ty,pos,af,none⟩::rest) ⟨τ,H⟩ =
  Zok P E ops Q rest e τ H (Xo P t):=by
 rw[Tg];simp only[Yy,Xo,Zok]
 cases Uv P t with
 |none=>rfl
 |some z=>
  simp only[Option.bind_some]
  cases a:z.solid with
  |false=>simp[Oi]
  |true=>simp[Oi,AS.put]
def Z1q(v:V):Option (List V):=if v.solid then some v.cells else none
@[go_sem] theorem opsA_box(t:TypeId)(x:Operand)(e:Nat):Yt P E ops Q (⟨some e,.box t x,ty,pos,af,none⟩::rest) ⟨τ,H⟩ =
  Zok P E ops Q rest e τ H (Z1q (AS.ev E ⟨τ,H⟩ x)):=by
 rw[Tg];simp only[Yy,Z1q,Zok]
 cases a:(AS.ev E ⟨τ,H⟩ x).solid with
 |false=>simp[Oi]
 |true=>simp[Oi,AS.put]
def Iw(P:Program)(t:TypeId)(len:Nat)(parts:List (Nat×V)):Option (Nat×Nat×List V):=
 match P.underlying t with
 |some (.slice e)=>match Yw P e,Xo P e with
  |some E,some z=>if z.length=E/\len*E<=16777216 then(Vk (λi=>some (i*E,E)) (V5 len z) parts).map λa=>(E,len,a)else none
  |_,_=>none
 |_=>none
@[go_sem] theorem Zq4(t:TypeId)(len e:Nat)(l:List (Nat×Operand)):Yt P E ops Q (⟨some e,.buildSlice t len ⟨l⟩,ty,pos,af,none⟩::rest) ⟨τ,H⟩ =
  Zbb P E ops Q rest e τ H (Iw P t len (l.map λp=>(p.1,AS.ev E ⟨τ,H⟩ p.2))):=by
 rw[Tg];simp only[Yy,Tb,Iw,Xo,Zbb]
 cases P.underlying t with
 |none=>rfl
 |some k=>
  cases k<;>try rfl
  rename_i b;simp only
  cases Yw P b with
  |none=>rfl
  |some n=>
   cases Uv P b with
   |none=>rfl
   |some z=>
    simp only[Option.bind_some]
    cases c:z.solid with
    |false=>simp[Oi]
    |true=>
     simp only[if_true,true_and]
     by_cases a:z.cells.length=n/\len*n<=16777216
     .simp only[a.1,a.2]
      cases Vk (λi=>some (i*n,n)) (V5 len z.cells) (l.map λp=>(p.1,AS.ev E ⟨τ,H⟩ p.2))with
      |none=>simp[Oi]
      |some cs=>simp[Oi,AS.put]
     simp only[Oi];rw[<- and_assoc];simp[a]
def Nq(P:Program)(t:TypeId)(len cap:V):Option (Nat×Nat×List V):=
 match P.underlying t,len,cap with
 |some (.slice e),.int _ n,.int _ m=>match Yw P e,P4 P e,Xo P e with
  |some E,some bytes,some z=>if z.length=E/\0<=n/\n<=m/\m<=4611686018427387904/\bytes*m<=281474976710656 then some (E,n.toNat,V5 m.toNat z)else none
  |_,_,_=>none
 |_,_,_=>none
@[go_sem] theorem Zq6(t:TypeId)(x y:Operand)(e:Nat):Yt P E ops Q (⟨some e,.makeSlice t x y,ty,pos,af,none⟩::rest) ⟨τ,H⟩ =
  Zbb P E ops Q rest e τ H (Nq P t (AS.ev E ⟨τ,H⟩ x) (AS.ev E ⟨τ,H⟩ y)):=by
 rw[Tg];simp only[Yy,U4,Nq,Xo,Zbb];generalize AS.ev E ⟨τ,H⟩ x=v;generalize AS.ev E ⟨τ,H⟩ y=u
 cases P.underlying t with
 |none=>rfl
 |some k=>
  cases k<;>try rfl
  rename_i b
  cases v<;>try rfl
  cases u<;>try rfl
  rename_i k1 n k2 m;simp only
  cases Yw P b with
  |none=>rfl
  |some N=>
   cases P4 P b with
   |none=>rfl
   |some B=>
    cases Uv P b with
    |none=>rfl
    |some z=>
     simp only[Option.bind_some]
     cases c:z.solid with
     |false=>simp[Oi]
     |true=>
      simp only[if_true]
      by_cases a:z.cells.length=N/\0<=n/\n<=m/\m<=4611686018427387904/\B*m<=281474976710656
      rw[if_pos a];simp only[a.1,a.2.1,a.2.2.1,a.2.2.2.1,a.2.2.2.2,true_and,Oi,AS.put];simp only[Oi];simp only[<- and_assoc]at a⊢;simp[a]
def Zp8(P:Program)(E:Ent)(ops:Array Oper)(Q:AS->Prop)(rest:List Oper)(d:Option Nat)(τ : Nat->V)(H:Heap)(f:V)(args:List V):Prop:=
 match f with
 |.func (.func fid) first cap=>CallP P E.G E.kp fid (first++args++cap) H λv a=>Yt P E ops Q rest (AS.put ⟨τ,a⟩ d v)
 |_=>False
def Zvca(P:Program)(E:Ent)(ops:Array Oper)(Q:AS->Prop)(rest:List Oper)(d:Option Nat)(τ : Nat->V)(H:Heap)(fid:FuncId)(args:List V):Prop:=
 match E.kp with
 |none=>CallA P E.G fid args H λv a=>Yt P E ops Q rest (AS.put ⟨τ,a⟩ d v)
 |some k=>CallP P E.G (some k) fid args H λv a=>Yt P E ops Q rest (AS.put ⟨τ,a⟩ d v)
@[go_sem] theorem callC_func(a:FuncId)(first cap args:List V):Zp8 P E ops Q rest d τ H (.func (.func a) first cap) args=Zvca P E ops Q rest d τ H a (first++args++cap):=by
 simp only[Zp8,Zvca]
 cases E.kp with
 |none=>exact A9
 |some k=>rfl
@[go_sem] theorem opsA_call(f:Operand)(l:List Operand)(a:Array TypeId):Yt P E ops Q (⟨d,.call ⟨.value f,⟨l⟩,a⟩,ty,pos,af,none⟩::rest) ⟨τ,H⟩ =
  Zp8 P E ops Q rest d τ H (AS.ev E ⟨τ,H⟩ f) (l.map (AS.ev E ⟨τ,H⟩)):=by
 rfl
def appC(P:Program)(E:Ent)(ops:Array Oper)(Q:AS->Prop)(rest:List Oper)(e:Nat)(τ : Nat->V)(H:Heap)(ats:List TypeId)(a b:V):Prop:=
 Kb P H (E.q+e) ⟨ats⟩ a b λv c=>Yt P E ops Q rest (AS.put ⟨τ,c⟩ (some e) v)
@[go_sem] theorem Zica(x y:Operand)(a:List TypeId)(e:Nat):Yt P E ops Q (⟨some e,.call ⟨.builtin .append,⟨[x,y]⟩,⟨a⟩⟩,ty,pos,af,none⟩::rest) ⟨τ,H⟩ =
  appC P E ops Q rest e τ H a (AS.ev E ⟨τ,H⟩ x) (AS.ev E ⟨τ,H⟩ y):=by
 rfl
def Z58(P:Program)(ats:List TypeId):Option (Nat×Nat):=
 match ats with
 |[t0,t1]=>match P.underlying t0,P.underlying t1 with
  |some (.slice _),some (.int _)=>none
  |some (.slice e),some _=>match Yw P e,P4 P e,Xo P e with
   |some E,some bytes,some z=>if z.length=E then some (E,bytes)else none
   |_,_,_=>none
  |_,_=>none
 |_=>none
def Bu(P:Program)(E:Ent)(ops:Array Oper)(Q:AS->Prop)(rest:List Oper)(e:Nat)(τ : Nat->V)(H:Heap)(m bytes:Nat)(a:V)(src:Option (Nat×List V))(ob:AObj):Prop:=
 match src with
 |none=>False
 |some (n,xc)=>
  match a with
  |.nils=>U3 bytes n/\(n=0->Yt P E ops Q rest ⟨Ya τ e .nils,H⟩)/\(n≠0->∀ g,Yt P E ops Q rest ⟨Ya τ e (.msl (E.q+e) g 0 n m),Ya H (E.q+e) (.cells .new g 0 xc)⟩)
  |.slice c clip m' l=>m'=m/\U3 bytes (l.length+n)/\(n=0->Yt P E ops Q rest ⟨Ya τ e (.slice c clip m l),H⟩) /\
    (n≠0->clip=true/\∀ g,Yt P E ops Q rest ⟨Ya τ e (.msl (E.q+e) g 0 (l.length+n) m),Ya H (E.q+e) (.cells .new g 0 (flat l++xc))⟩)
  |.msl o g off len m'=>m'=m/\U3 bytes (len+n) /\
   match ob with
   |.cells c g' fz cs=>g=g'/\off+len*m<=cs.length/\fz<=off+len*m /\
     ∀ g2,Yt P E ops Q rest ⟨Ya τ e (.msl o g2 0 (len+n) m),Ya H o (.cells c.moved g2 (fz-off) ((cs.drop off).take (len*m)++xc))⟩
   |_=>False
  |_=>False
def obS(H:Heap)(a:V):AObj:=match a with|.msl o _ _ _ _=>H o|_=>.dead
theorem Et(H:Heap)(o g off len m:Nat):obS H (.msl o g off len m)=H o:=rfl
theorem Zx6(H:Heap):obS H .nils=.dead:=rfl
theorem Zb0(H:Heap)(c:Col)(b:Bool)(m:Nat)(l:List V):obS H (.slice c b m l)=.dead:=rfl
attribute[go_sem]Et Zx6 Zb0
theorem appC_E{d:List TypeId}{m bytes:Nat}(h:Z58 P d=some (m,bytes))(e:Nat)(a b:V):appC P E ops Q rest e τ H d a b=Bu P E ops Q rest e τ H m bytes a (U0 H m b) (obS H a):=by
 unfold Z58 at h
 split at h
 case h_2=>grind
 split at h
 grind
 rename_i g bt k n l
 split at h
 rename_i N B z r s j
 split at h
 .rename_i hzl
  simp at h;obtain⟨rfl,rfl⟩:=h
  have f:∃ c,Uv P g=some c/\c.solid=true/\c.cells=z:=by
   unfold Xo at j
   cases i:Uv P g with
   |none=>grind
   |some c=>
    grind
  obtain⟨c,w,u,t⟩:=f;unfold appC Kb;simp only[n,l]
  have fin:N2 H (E.q+e) N B a b (λv o=>Yt P E ops Q rest (AS.put ⟨τ,o⟩ (some e) v))=Bu P E ops Q rest e τ H N B a (U0 H N b) (obS H a):=by
   unfold N2 Bu
   cases U0 H N b with
   |none=>rfl
   |some p=>
    cases a<;>try rfl
  grind
 grind
 grind
 simp at h
def Zi5(m:Nat)(ob:AObj)(x:V):Option (Nat×List V):=
 match x with
 |.nils=>some (0,[])
 |.slice _ _ E' l=>if E'=m then some (l.length,flat l)else none
 |.msl _ g off len E'=>match ob with
  |.cells _ g' _ cs=>if E'=m/\g=g'/\off+len*m<=cs.length then some (len,(cs.drop off).take (len*m))else none
  |_=>none
 |.str s=>if m=1 then some (s.length,s.map λb=>.int .u8 b.toNat)else none
 |_=>none
theorem Zuq(H:Heap)(m:Nat)(x:V):U0 H m x=Zi5 m (obS H x) x:=by
 cases x<;>rfl
theorem Ztq(m:Nat)(ob:AObj)(c:Col)(b:Bool)(a:Nat)(l:List V):Zi5 m ob (.slice c b a l)=if a=m then some (l.length,flat l)else none:=rfl
theorem Zg5(m:Nat)(o g off len b:Nat)(c:Col)(a fz:Nat)(cs:List V):Zi5 m (.cells c a fz cs) (.msl o g off len b) =
  if b=m/\g=a/\off+len*m<=cs.length then some (len,(cs.drop off).take (len*m))else none:=rfl
attribute[go_sem]Zuq Ztq Zg5
theorem Zk2(e m bytes n:Nat)(xc:List V)(ob:AObj):Bu P E ops Q rest e τ H m bytes .nils (some (n,xc)) ob =
  (U3 bytes n/\(n=0->Yt P E ops Q rest ⟨Ya τ e .nils,H⟩)/\(n≠0->∀ g,Yt P E ops Q rest ⟨Ya τ e (.msl (E.q+e) g 0 n m),Ya H (E.q+e) (.cells .new g 0 xc)⟩)):=rfl
theorem Bt(e m bytes n:Nat)(xc:List V)(ob:AObj)(c:Col)(a:Bool)(b:Nat)(l:List V):Bu P E ops Q rest e τ H m bytes (.slice c a b l) (some (n,xc)) ob =
  (b=m/\U3 bytes (l.length+n)/\(n=0->Yt P E ops Q rest ⟨Ya τ e (.slice c a m l),H⟩) /\
    (n≠0->a=true/\∀ g,Yt P E ops Q rest ⟨Ya τ e (.msl (E.q+e) g 0 (l.length+n) m),Ya H (E.q+e) (.cells .new g 0 (flat l++xc))⟩)):=rfl
theorem Z68(e m bytes n:Nat)(xc:List V)(o g off len a:Nat)(c:Col)(b fz:Nat)(cs:List V):Bu P E ops Q rest e τ H m bytes (.msl o g off len a) (some (n,xc)) (.cells c b fz cs) =
  (a=m/\U3 bytes (len+n)/\g=b/\off+len*m<=cs.length/\fz<=off+len*m /\
     ∀ g2,Yt P E ops Q rest ⟨Ya τ e (.msl o g2 0 (len+n) m),Ya H o (.cells c.moved g2 (fz-off) ((cs.drop off).take (len*m)++xc))⟩):=rfl
theorem Zqt(v:V):R8 P E ops Q rest d τ H (some v)=Yt P E ops Q rest (AS.put ⟨τ,H⟩ d v):=rfl
theorem Ztt(H:Heap):Zpca P E ops Q rest d τ (some H)=Yt P E ops Q rest (AS.put ⟨τ,H⟩ d (.tuple [])):=rfl
theorem Zst(e:Nat)(cs:List V):Zok P E ops Q rest e τ H (some cs)=∀ g,Yt P E ops Q rest ⟨Ya τ e (.ptr (E.q+e) g 0),Ya H (E.q+e) (.cells .new g 0 cs)⟩:=rfl
theorem Zrt(e m len:Nat)(cs:List V):Zbb P E ops Q rest e τ H (some (m,len,cs))=∀ g,Yt P E ops Q rest ⟨Ya τ e (.msl (E.q+e) g 0 len m),Ya H (E.q+e) (.cells .new g 0 cs)⟩:=rfl
attribute[go_sem]Bt Z68 Zqt Ztt Zst Zrt
end
section
variable(P)(t:TypeId)(k:IntKind)(a b:Int)
theorem T4(op:BinOp)(d:op ≠ .shl)(c:op ≠ .shr):Un P op t (.int k a) (.int k b)=intV op k a b:=by
 simp only[Un]
 grind
theorem Z38:Un P .add t (.int k a) (.int k b)=some (.int k (k.wrap (a+b))):=T4 P t k a b .add zS zS
theorem Zt8:Un P .sub t (.int k a) (.int k b)=some (.int k (k.wrap (a-b))):=T4 P t k a b .sub zS zS
theorem Zw8:Un P .rem t (.int k a) (.int k b)=if b=0 then none else some (.int k (a.tmod b)):=T4 P t k a b .rem zS zS
theorem Z28:Un P .eql t (.int k a) (.int k b)=some (.bool (a==b)):=T4 P t k a b .eql zS zS
theorem Zx8:Un P .neq t (.int k a) (.int k b)=some (.bool (a != b)):=T4 P t k a b .neq zS zS
theorem Zy8:Un P .lss t (.int k a) (.int k b)=some (.bool (decide (a<b))):=T4 P t k a b .lss zS zS
theorem Zz8:Un P .leq t (.int k a) (.int k b)=some (.bool (decide (a<=b))):=T4 P t k a b .leq zS zS
theorem Z08:Un P .gtr t (.int k a) (.int k b)=some (.bool (decide (a>b))):=T4 P t k a b .gtr zS zS
theorem Z18:Un P .geq t (.int k a) (.int k b)=some (.bool (decide (a>=b))):=T4 P t k a b .geq zS zS
attribute[go_sem]Z38 Zt8 Zw8 Z28 Zx8 Zy8 Zz8 Z08 Z18
end
theorem Zu8(op:BinOp)(t:TypeId)(a b:List UInt8):Un P op t (.str a) (.str b)=Zoq op a b:=rfl
theorem Za5(a b:List UInt8):Zoq .eql a b=some (.bool (a==b)):=rfl
theorem Z94(a b:List UInt8):Zoq .neq a b=some (.bool (!(a==b))):=rfl
theorem Zy9(b:Bool):unV .not (.bool b)=some (.bool !b):=rfl
attribute[go_sem]Zu8 Za5 Z94 Zy9
def Z47(P:Program)(t:TypeId)(f:Nat):Option (Nat×Bool×Nat):=
 match P.underlying t with
 |some (.struct fs)=>match fs[f]? with
  |some fd=>match S0 P fd.type,Yw P fd.type with
   |some b,some (n+1)=>if b=true\/n=0 then some (fd.offset,b,n+1)else none
   |_,_=>none
  |none=>none
 |_=>none
def Ps(b:Bool)(n:Nat)(l:List V)(off:Nat):Option V:=
 if b then(if off+n<=l.length then some (.agg ((l.drop off).take n))else none)else l[off]?
@[go_sem] theorem partC_true(n:Nat)(l:List V)(off:Nat):Ps true n l off=if off+n<=l.length then some (.agg ((l.drop off).take n))else none:=rfl
@[go_sem] theorem Zeca(n:Nat)(l:List V)(off:Nat):Ps false n l off=l[off]? := rfl
theorem Pq{t:TypeId}{b:Bool}{n:Nat}(d:S0 P t=some b)(c:Yw P t=some n)(a:b=true\/n=1)(l:List V)(off:Nat):Pr P t l off=Ps b n l off:=by
 unfold Pr Ps
 grind
def Z57(x:Option (Nat×Bool×Nat))(a:V):Option V:=
 match x,a with
 |some (k,_,_),.ptr o g off=>some (.ptr o g (off+k))
 |some (k,b,n),.view c (.agg l)=>(Ps b n l k).map (.view c)
 |_,_=>none
@[go_sem] theorem fldK_ptr(k n:Nat)(b:Bool)(o g off:Nat):Z57 (some (k,b,n)) (.ptr o g off)=some (.ptr o g (off+k)):=rfl
@[go_sem] theorem fldK_view(k n:Nat)(b:Bool)(c:Col)(l:List V):Z57 (some (k,b,n)) (.view c (.agg l))=(Ps b n l k).map (.view c):=rfl
theorem Zbd{t:TypeId}{f:Nat}{x:Nat×Bool×Nat}(h:Z47 P t f=some x)(a:V):Sd P t a f=Z57 (some x) a:=by
 unfold Z47 at h;unfold Sd
 split at h
 rename_i j e;rw[e];simp only
 split at h
 rename_i k g;rw[g];simp only
 split at h
 rename_i b n i d
 split at h
 .rename_i hc
  simp at h;subst h;rw[d];unfold Z57
  cases a<;>try rfl
  rename_i c v
  cases v<;>try rfl
  simp only;rw[Pq i d (hc.imp id zo)]
 grind
 grind
 grind
 grind
def S6(P:Program)(t:TypeId):Option Nat:=match P.underlying t with|some (.slice e)=>Yw P e|_=>none
def Cy(P:Program)(t:TypeId):Bool:=match P.underlying t with|some .string=>true|_=>false
def Zac(P:Program)(t:TypeId):Option (Bool×Nat):=
 match S0 P t,Yw P t with
 |some true,some n=>some (true,n)
 |some false,some 1=>some (false,1)
 |_,_=>none
def Zxj(e:Option Nat)(a i:V):Option V:=
 match e,a,i with
 |some m,.slice c _ E l,.int _ n=>if m=E/\0<=n then(l[n.toNat]?).map (.view c)else none
 |some m,.msl o g off len E,.int _ n=>if m=E/\0<=n/\n<len then some (.ptr o g (off+n.toNat*E))else none
 |_,_,_=>none
theorem Z4c{t:TypeId}{m:Nat}(h:S6 P t=some m)(a i:V):Wx P t a i=Zxj (some m) a i:=by
 unfold S6 at h;unfold Wx Zxj
 split at h
 grind
 grind
@[go_sem] theorem idxK_slice(m:Nat)(c:Col)(a:Bool)(E:Nat)(l:List V)(k:IntKind)(n:Int):Zxj (some m) (.slice c a E l) (.int k n)=if m=E/\0<=n then(l[n.toNat]?).map (.view c)else none:=rfl
@[go_sem] theorem idxK_msl(m o g off len E:Nat)(k:IntKind)(n:Int):Zxj (some m) (.msl o g off len E) (.int k n)=if m=E/\0<=n/\n<len then some (.ptr o g (off+n.toNat*E))else none:=rfl
def J6(sl:Bool)(a:V):Option V:=
 match a with
 |.nils=>if sl then some (.int .i64 0)else none
 |.slice _ _ _ l=>if sl then some (.int .i64 l.length)else none
 |.msl _ _ _ len _=>if sl then some (.int .i64 len)else none
 |.str s=>if sl then none else some (.int .i64 s.length)
 |_=>none
theorem Zys{t:TypeId}{m:Nat}(h:S6 P t=some m)(a:V):F5 P t a=J6 true a:=by
 unfold S6 at h;unfold F5 J6
 grind
theorem Za7{t:TypeId}(h:Cy P t=true)(a:V):F5 P t a=J6 false a:=by
 unfold Cy at h;unfold F5 J6
 grind
theorem Z10:J6 true .nils=some (.int .i64 0):=rfl
theorem Zzs(c:Col)(a:Bool)(E:Nat)(l:List V):J6 true (.slice c a E l)=some (.int .i64 l.length):=rfl
theorem Zd7(o g off len E:Nat):J6 true (.msl o g off len E)=some (.int .i64 len):=rfl
theorem Zc7(s:List UInt8):J6 false (.str s)=some (.int .i64 s.length):=rfl
attribute[go_sem]Z10 Zzs Zd7 Zc7
def Ty(x:Option (Bool×Nat))(ob:AObj)(a:V):Option V:=
 match x,a with
 |some (b,n),.ptr _ g off=>match ob with
  |.cells _ g' _ cs=>if g=g' then Ps b n cs off else none
  |_=>none
 |some (b,n),.view _ v=>match v,b with
  |.agg l,true=>if n=l.length then some (.agg l)else none
  |.agg _,false=>none
  |.top,_=>none
  |.tuple _,_=>none
  |_,true=>none
  |v,false=>some v
 |_,_=>none
def Zc0(H:Heap)(a:V):AObj:=match a with|.ptr o _ _=>H o|_=>.dead
theorem Zgaa{t:TypeId}{b:Bool}{n:Nat}(h:Zac P t=some (b,n))(H:Heap)(a:V):Wc P H t a=Ty (some (b,n)) (Zc0 H a) a:=by
 unfold Zac at h
 have f:S0 P t=some b/\Yw P t=some n/\(b=true\/n=1):=by
  split at h<;>simp at h<;>obtain⟨rfl,rfl⟩:=h<;>rename_i e d
  exact⟨e,d,.inl rfl⟩;exact⟨e,d,.inr rfl⟩
 obtain⟨e,d,i⟩:=f;unfold Wc
 cases a<;>try(simp[Vo,Ty];done)
 rename_i c v;simp only[Vo,Ty,e,d]
 cases b<;>cases v<;>simp
 .rename_i o g off
  simp only[Ty,Zc0]
  cases H o with
  |dead=>rfl
  |mp=>rfl
  |lp=>rfl
  |cells c g' fz cs=>
   simp only;rw[Pq e d i]
theorem Zy6(H:Heap)(o g off:Nat):Zc0 H (.ptr o g off)=H o:=rfl
theorem Zw0(b:Bool)(n o g off:Nat)(c:Col)(a fz:Nat)(cs:List V):Ty (some (b,n)) (.cells c a fz cs) (.ptr o g off)=if g=a then Ps b n cs off else none:=rfl
theorem Zz0(n:Nat)(ob:AObj)(c:Col)(l:List V):Ty (some (true,n)) ob (.view c (.agg l))=if n=l.length then some (.agg l)else none:=rfl
theorem Zx0(n:Nat)(ob:AObj)(c:Col)(k:IntKind)(i:Int):Ty (some (false,n)) ob (.view c (.int k i))=some (.int k i):=rfl
theorem Zws(n:Nat)(ob:AObj)(c:Col)(b:Bool):Ty (some (false,n)) ob (.view c (.bool b))=some (.bool b):=rfl
theorem Zv0(n:Nat)(ob:AObj)(c:Col)(s:List UInt8):Ty (some (false,n)) ob (.view c (.str s))=some (.str s):=rfl
theorem Zvj(n:Nat)(ob:AObj)(c b:Col)(a:Bool)(E:Nat)(l:List V):Ty (some (false,n)) ob (.view c (.slice b a E l))=some (.slice b a E l):=rfl
theorem Zts(n:Nat)(ob:AObj)(c:Col):Ty (some (false,n)) ob (.view c .nils)=some .nils:=rfl
theorem Zvs(n:Nat)(ob:AObj)(c:Col)(d:Fn)(a b:List V):Ty (some (false,n)) ob (.view c (.func d a b))=some (.func d a b):=rfl
attribute[go_sem]Zy6 Zw0 Zz0 Zx0 Zws Zv0 Zvj Zts Zvs
def Zqq(sz:Option Nat)(H:Heap)(ob:AObj)(a v:V):Option Heap:=
 match a,ob with
 |.ptr o g off,.cells c g' fz cs=>if g=g'/\v.solid=true/\sz=some v.cells.length/\fz<=off/\off+v.cells.length<=cs.length then some (Ya H o (.cells c g fz (setAt cs off v.cells)))else none
 |_,_=>none
theorem Zc5(H:Heap)(t:TypeId)(a v:V):Mm P H t a v=Zqq (Yw P t) H (Zc0 H a) a v:=by
 unfold Mm Zqq
 cases a<;>try rfl
 rename_i o g b;simp only[Zc0]
 grind
theorem Zpq(a:Option Nat)(H:Heap)(o g off:Nat)(c:Col)(b fz:Nat)(cs:List V)(v:V):Zqq a H (.cells c b fz cs) (.ptr o g off) v =
  if g=b/\v.solid=true/\a=some v.cells.length/\fz<=off/\off+v.cells.length<=cs.length then some (Ya H o (.cells c g fz (setAt cs off v.cells)))else none:=rfl
theorem Zhz(cs:List V)(off:Nat):setAt cs off []=cs:=rfl
theorem Z7q(cs:List V)(off:Nat)(v:V)(r:List V):setAt cs off (v::r)=setAt (cs.set off v) (off+1) r:=rfl
attribute[go_sem]Zc5 Zpq Zhz Z7q
section
theorem Zcb(l:List V):(V.agg l).cells=l:=rfl
theorem Z91(k:IntKind)(n:Int):(V.int k n).cells=[.int k n]:=rfl
theorem Z3t(b:Bool):(V.bool b).cells=[.bool b]:=rfl
theorem Z61(s:List UInt8):(V.str s).cells=[.str s]:=rfl
theorem Z0t:V.nils.cells=[.nils]:=rfl
theorem Ztk(c:Col)(a:Bool)(E:Nat)(l:List V):(V.slice c a E l).cells=[.slice c a E l]:=rfl
theorem Z81(o g off len E:Nat):(V.msl o g off len E).cells=[.msl o g off len E]:=rfl
theorem Z71(o g off:Nat):(V.ptr o g off).cells=[.ptr o g off]:=rfl
theorem Z2t(c:Fn)(a b:List V):(V.func c a b).cells=[.func c a b]:=rfl
theorem Zbz(l:List V):(V.agg l).solid=true:=rfl
theorem Z9y(k:IntKind)(n:Int):(V.int k n).solid=true:=rfl
theorem Z0q(b:Bool):(V.bool b).solid=true:=rfl
theorem Z6y(s:List UInt8):(V.str s).solid=true:=rfl
theorem Zxq:V.nils.solid=true:=rfl
theorem Zbi(c:Col)(a:Bool)(E:Nat)(l:List V):(V.slice c a E l).solid=true:=rfl
theorem Z8y(o g off len E:Nat):(V.msl o g off len E).solid=true:=rfl
theorem Z7y(o g off:Nat):(V.ptr o g off).solid=true:=rfl
theorem Zzq(c:Fn)(a b:List V):(V.func c a b).solid=true:=rfl
theorem Zn5(v:V):Z1q v=if v.solid then some v.cells else none:=rfl
theorem Zmz(z:List V):V5 0 z=[]:=rfl
theorem Znz(n:Nat)(z:List V):V5 (n+1) z=z++V5 n z:=rfl
attribute[go_sem]Zcb Z91 Z3t Z61 Z0t Ztk Z81 Z71 Z2t Zbz Z9y Z0q Z6y Zxq Zbi Z8y Z7y Zzq Zn5 Zmz Znz
end
section
variable(P)(t:TypeId)
def Ud(P:Program)(t:TypeId):Nat:=
 match P.underlying t with
 |some (.pointer _)=>1
 |some (.slice _)=>2
 |some (.func _ _ _)=>3
 |some (.interface _)=>4
 |some (.map _ _)=>5
 |_=>0
def Pi(k:Nat)(a:V):Option Bool:=
 match a with
 |.nilp=>if k=1 then some true else none
 |.view _ _=>if k=1 then some false else none
 |.ptr _ _ _=>if k=1 then some false else none
 |.nils=>if k=2 then some true else none
 |.slice _ _ _ _=>if k=2 then some false else none
 |.msl _ _ _ _ _=>if k=2 then some false else none
 |.nilf=>if k=3 then some true else none
 |.func _ _ _=>if k=3 then some false else none
 |.iface _ _=>if k=4 then some false else none
 |.nilm=>if k=5 then some true else none
 |_=>none
theorem nilB_K(a:V):Ap P t a=Pi (Ud P t) a:=by
 unfold Ap Ud
 cases h:P.underlying t with
 |none=>cases a<;>rfl
 |some u=>cases u<;>cases a<;>rfl
def Sy(k:Nat):V:=if k=1 then .nilp else if k=2 then .nils else if k=3 then .nilf else if k=4 then .nili else .nilm
theorem Zoba{k:Nat}(h:Ud P t=k)(c:k≠0)(a:V):eqV P t a (Sy k)=Pi k a:=by
 have d:P0 P t (Sy k)=true:=by
  subst h;unfold P0 Sy Ud at *
  cases b:P.underlying t with
  |none=>grind
  |some u=>grind
 have e:∀ x,Sy k ≠ .bool x:=by
  intro x;unfold Sy
  grind
 rw[<- h,<- nilB_K];unfold eqV
 grind
theorem V4{k:Nat}(h:Ud P t=k)(c:k≠0)(a:V):Un P .eql t a (Sy k)=(Pi k a).map .bool/\Un P .neq t a (Sy k)=(Pi k a).map λr=>.bool (!r):=by
 rw[<- Zoba P t h c]
 have f:∀ k' n,Sy k ≠ .int k' n:=by
  intro k' n;unfold Sy
  grind
 have e:∀ l,Sy k ≠ .str l:=by
  intro l;unfold Sy
  grind
 have d:∀ l,Sy k ≠ .agg l:=by
  intro l;unfold Sy
  grind
 generalize Sy k=b at *;unfold Un
 grind
theorem Zh0:Pi 2 .nils=some true:=rfl
theorem Z9r(c:Col)(b:Bool)(m:Nat)(l:List V):Pi 2 (.slice c b m l)=some false:=rfl
theorem Zi0:Pi 1 .nilp=some true:=rfl
theorem Zg0(c:Col)(v:V):Pi 1 (.view c v)=some false:=rfl
attribute[go_sem]Zh0 Z9r Zi0 Zg0
end
def bsK(m:Nat)(z:List V)(len:Nat)(parts:List (Nat×V)):Option (Nat×Nat×List V):=
 if len*m<=16777216 then(Vk (λi=>some (i*m,m)) (V5 len z) parts).map λa=>(m,len,a)else none
theorem Zd2{P:Program}{t e:TypeId}{m:Nat}{z:List V}(f:P.underlying t=some (.slice e))(d:Yw P e=some m)(c:Xo P e=some z)(b:z.length=m)(len:Nat)(a:List (Nat×V)):
  Iw P t len a=bsK m z len a:=by
 unfold Iw bsK
 grind
def Aq(m:Nat):Nat->Option (Nat×Nat):=λi=>some (i*m,m)
def Z5b(tbl:List (Nat×Nat)):Nat->Option (Nat×Nat):=λi=>tbl[i]?
theorem Z0ba(m:Nat)(z:List V)(len:Nat)(a:List (Nat×V)):bsK m z len a=if len*m<=16777216 then(Vk (Aq m) (V5 len z) a).map λcs=>(m,len,cs)else none:=rfl
theorem Zm1(p:Nat->Option (Nat×Nat))(cells:List V):Vk p cells []=some cells:=rfl
theorem Zn1(m:Nat)(cells:List V)(i:Nat)(v:V)(rest:List (Nat×V)):Vk (Aq m) cells ((i,v)::rest) =
  if v.solid=true/\v.cells.length=m/\i*m+m<=cells.length then Vk (Aq m) (setAt cells (i*m) v.cells) rest else none:=rfl
attribute[go_sem]Z0ba Zm1 Zn1
def Zmca(tbl:List (Nat×Nat))(p:Option (Nat×Nat))(cells:List V)(v:V)(rest:List (Nat×V)):Option (List V):=
 match p with
 |none=>none
 |some (off,size)=>if v.solid=true/\v.cells.length=size/\off+size<=cells.length then Vk (Z5b tbl) (setAt cells off v.cells) rest else none
@[go_sem] theorem fillV_tbl(tbl:List (Nat×Nat))(cells:List V)(i:Nat)(v:V)(rest:List (Nat×V)):Vk (Z5b tbl) cells ((i,v)::rest)=Zmca tbl (tbl[i]?) cells v rest:=rfl
@[go_sem] theorem fillT_some(tbl:List (Nat×Nat))(off size:Nat)(cells:List V)(v:V)(rest:List (Nat×V)):Zmca tbl (some (off,size)) cells v rest =
  if v.solid=true/\v.cells.length=size/\off+size<=cells.length then Vk (Z5b tbl) (setAt cells off v.cells) rest else none:=rfl
def Z54(P:Program)(t:TypeId):Option (List (Nat×Nat)):=
 match P.underlying t with
 |some (.struct fs)=>fs.toList.mapM λf=>(Yw P f.type).map λn=>(f.offset,n)
 |_=>none
theorem Zoj{α β : Type}{f : α -> Option β}:∀ {l:List α} {r:List β},l.mapM f=some r->(l.all λx=>(f x).isSome)=true/\∀ i:Nat,r[i]?=(l[i]?).bind f
 |[],r,h=>by
  grind
 |x::l,r,h=>by
  simp only[List.mapM_cons,Option.bind_eq_bind,Option.bind_eq_some_iff,Option.pure_def,Option.some.injEq]at h;obtain⟨y,c,b,a,rfl⟩:=h;obtain⟨e,d⟩:=Zoj a
  grind
theorem Zwk{P:Program}{t:TypeId}{tbl:List (Nat×Nat)}{z:List V}(b:Z54 P t=some tbl)(j:Uv P t=some (.agg z))(a:List (Nat×V)):
  Ta P t a=(Vk (Z5b tbl) z a).map .agg:=by
 unfold Z54 at b
 cases c:P.underlying t with
 |none=>grind
 |some k=>
  rw[c]at b
  cases k<;>simp only[reduceCtorEq]at b
  rename_i d;obtain⟨l,h⟩:=Zoj b;unfold Ta;rw[c,j]
  have g:(d.toList.all λf=>(Yw P f.type).isSome)=true:=by grind
  simp only[g]
  have e:(λi=>(d[i]?).bind λf=>(Yw P f.type).map λn=>(f.offset,n))=Z5b tbl:=by
   funext i
   have:=h i;unfold Z5b
   grind
  rw[e];rfl
def slJ(i j:Option Nat)(f:Nat->Nat->Option V):Option V:=match i,j with|some i,some j=>f i j|_,_=>none
theorem Zp5(i j:Nat)(f:Nat->Nat->Option V):slJ (some i) (some j) f=f i j:=rfl
theorem Fk(d:Nat):Yu d none=some d:=rfl
theorem Z6t(d:Nat)(k:IntKind)(n:Int):Yu d (some (.int k n))=if 0<=n then some n.toNat else none:=rfl
attribute[go_sem]Zp5 Fk Z6t
def slK(m:Nat)(a:V)(lo hi:Option V):Option V:=
 match a with
 |.slice c clip E l=>slJ (Yu 0 lo) (Yu l.length hi) λi j=>if m=E/\i<=j/\j<=l.length then some (.slice c (clip&&j==l.length) E ((l.drop i).take (j-i)))else none
 |.msl o g off len E=>slJ (Yu 0 lo) (Yu len hi) λi j=>
   if m=E/\i<=j/\j<=len then some (if i=0 then .msl o g off j E else if i<j then .msl o g (off+i*E) (j-i) E else .slice .any false E [])else none
 |.nils=>slJ (Yu 0 lo) (Yu 0 hi) λi j=>if i=0/\j=0 then some .nils else none
 |_=>none
theorem Ob{t:TypeId}{m:Nat}(h:S6 P t=some m)(a:V)(lo hi:Option V):Ub P t a lo hi none=slK m a lo hi:=by
 unfold S6 at h;unfold Ub slK
 split at h
 .rename_i e hu
  rw[hu]
  cases a<;>try rfl
  .simp only[h]
   cases d:Yu 0 lo with
   |none=>rfl
   |some i=>
    cases b:Yu 0 hi with
    |none=>cases i<;>rfl
    |some j=>
     simp only[Fk]
     cases i with
     |zero=>cases j<;>rfl
     |succ i=>rfl
  .rename_i c clip E l
   simp only[h,Option.some.injEq]
   cases Yu 0 lo with
   |none=>rfl
   |some i=>
    cases Yu l.length hi with
    |none=>rfl
    |some j=>rfl
  .rename_i o g off len E
   simp only[h,Option.some.injEq]
   cases Yu 0 lo with
   |none=>rfl
   |some i=>
    cases Yu len hi with
    |none=>rfl
    |some j=>rfl
 simp at h
theorem Zcz(m:Nat)(c:Col)(a:Bool)(E:Nat)(l:List V)(lo hi:Option V):slK m (.slice c a E l) lo hi =
  slJ (Yu 0 lo) (Yu l.length hi) λi j=>if m=E/\i<=j/\j<=l.length then some (.slice c (a&&j==l.length) E ((l.drop i).take (j-i)))else none:=rfl
theorem Z69(m o g off len E:Nat)(lo hi:Option V):slK m (.msl o g off len E) lo hi =
  slJ (Yu 0 lo) (Yu len hi) λi j=>if m=E/\i<=j/\j<=len then some (if i=0 then .msl o g off j E else if i<j then .msl o g (off+i*E) (j-i) E else .slice .any false E [])else none:=rfl
theorem Zo5(m:Nat)(lo hi:Option V):slK m .nils lo hi=slJ (Yu 0 lo) (Yu 0 hi) λi j=>if i=0/\j=0 then some .nils else none:=rfl
attribute[go_sem]Zcz Z69 Zo5
def msK(E bytes:Nat)(z:List V)(a b:V):Option (Nat×Nat×List V):=
 match a,b with
 |.int _ n,.int _ m=>if 0<=n/\n<=m/\m<=4611686018427387904/\bytes*m<=281474976710656 then some (E,n.toNat,V5 m.toNat z)else none
 |_,_=>none
theorem H9{t e:TypeId}{E bytes:Nat}{z:List V}(c:P.underlying t=some (.slice e))(h:Yw P e=some E)(g:P4 P e=some bytes)(f:Xo P e=some z)(d:z.length=E)(a b:V):
  Nq P t a b=msK E bytes z a b:=by
 unfold Nq msK
 grind
@[go_sem] theorem contS_ms{E:Ent}{ops:Array Oper}{Q:AS->Prop}{rest:List Oper}{τ : Nat->V}{H:Heap}(e m bytes:Nat)(z:List V)(k1 k2:IntKind)(n c:Int):
  Zbb P E ops Q rest e τ H (msK m bytes z (.int k1 n) (.int k2 c)) =
   ((0<=n/\n<=c/\c<=4611686018427387904/\bytes*c<=281474976710656)/\∀ g,Yt P E ops Q rest ⟨Ya τ e (.msl (E.q+e) g 0 n.toNat m),Ya H (E.q+e) (.cells .new g 0 (V5 c.toNat z))⟩):=by
 have b:msK m bytes z (.int k1 n) (.int k2 c)=if 0<=n/\n<=c/\c<=4611686018427387904/\bytes*c<=281474976710656 then some (m,n.toNat,V5 c.toNat z)else none:=rfl
 rw[b]
 by_cases h:0<=n/\n<=c/\c<=4611686018427387904/\bytes*c<=281474976710656
 rw[if_pos h];exact(propext (and_iff_right h)).symm;rw[if_neg h];exact propext ⟨False.elim,λa=>h a.1⟩
theorem Zf8{s d:TypeId}{kd:IntKind}(b:(P.underlying s).isSome=true)(a:P.underlying d=some (.int kd))(k:IntKind)(n:Int):Bk P s d (.int k n)=some (.int kd (kd.wrap n)):=by
 unfold Bk;rw[a]
 cases h:P.underlying s with
 |none=>grind
 |some t=>rfl
end
end Go.Hs
