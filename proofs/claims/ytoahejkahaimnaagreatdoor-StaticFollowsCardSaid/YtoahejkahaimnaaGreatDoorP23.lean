/- A part. No condition. -/
import Derived.Test.YtoahejkahaimnaaGreatDoorP21
set_option linter.all false
namespace Go.Hs
section
variable{P:Program}{E:Ent}{kp:Kps}
def Qh(o:Oper):Bool:=
 match o.op with
 |.alloc _|.box .. |.buildSlice .. |.makeSlice .. => false
 |.makeMap _ none=>false
 |.load .. => false
 |.call { callee:=.value _,.. }=>false
 |_=>true
def St(o:Oper):Bool:=
 match o.op with
 |.alloc _|.box .. |.buildSlice .. |.makeSlice .. => true
 |.makeMap _ none=>true
 |_=>false
def O1(P:Program)(E:Ent)(bor:Md)(v:V)(H:Heap)(f:V)(args:List V):Prop:=
 match f with
 |.func (.func fid) first cap=>(match bor with|.lend=>BorC P E.G fid (first++args++cap) H v|.own=>OwnC P E.G fid (first++args++cap) v|_=>Gc P E.G fid (first++args++cap) v)
 |_=>False
def mdK(m:Md)(A B:Prop):Prop:=match m with|.any=>B|.keep=>B|_=>A
@[congr] theorem mdK_congr{m a:Md}{A B:Prop}(h:m=a):mdK m A B=mdK a A B:=by rw[h]
theorem Zi1(A B:Prop):mdK .pure A B=A:=rfl
theorem Zj1(A B:Prop):mdK .lend A B=A:=rfl
theorem Z94(A B:Prop):mdK .own A B=A:=rfl
theorem Zwa(A B:Prop):mdK .any A B=B:=rfl
theorem E0(A B:Prop):mdK .keep A B=B:=rfl
attribute[go_sem]Zi1 Zj1 Z94 Zwa E0
def borA(T:Told)(i:Nat):Md:=T.bor i
@[go_sem] theorem borA_mk(f:Nat->V)(g:Nat->Md)(i:Nat):borA ⟨f,g⟩ i=g i:=rfl
def ldK(m:Md)(A B C:Prop):Prop:=match m with|.lend=>A|.keep=>C|_=>B
@[congr] theorem ldK_congr{m a:Md}{A B C:Prop}(h:m=a):ldK m A B C=ldK a A B C:=by rw[h]
theorem E4(A B C:Prop):ldK .pure A B C=B:=rfl
theorem E5(A B C:Prop):ldK .lend A B C=A:=rfl
theorem Z0a(A B C:Prop):ldK .own A B C=B:=rfl
theorem Z1a(A B C:Prop):ldK .any A B C=B:=rfl
theorem E6(A B C:Prop):ldK .keep A B C=C:=rfl
attribute[go_sem]E4 E5 Z0a Z1a E6
def kpA(P:Program)(kp:Kps)(H:Heap)(A:Prop):Prop:=match kp with|[]=>A|p::r=>(Xt P H p.1 p.2.1=some p.2.2/\kpA P r H A)
@[go_sem] theorem kpA_nil(H:Heap)(A:Prop):kpA P [] H A=A:=rfl
@[go_sem] theorem Zz1(p:TypeId×V×V)(r:Kps)(H:Heap)(A:Prop):kpA P (p::r) H A=(Xt P H p.1 p.2.1=some p.2.2/\kpA P r H A):=rfl
theorem Zmt:∀ {kp:Kps} {H:Heap} {A:Prop},kpA P kp H A↔KpH P kp H/\A
 |[],H,A=>⟨λh=>⟨λp e=>(by grind),h⟩,λh=>h.2⟩
 |p::r,H,A=>by
  rw[Zz1,Zmt]
  constructor
  rintro⟨c,b,d⟩;refine⟨λq a=>?_,d⟩
  rcases List.mem_cons.1 a with rfl|a
  grind
  exact b q a;rintro⟨c,b⟩;exact⟨c p (List.mem_cons_self ..),λq a=>c q (List.mem_cons_of_mem _ a),b⟩
def kpQ(P:Program)(kp:Kps)(Q:AS->Prop):AS->Prop:=λs=>kpA P kp s.H (Q s)
@[go_sem] theorem kpQ_nil(Q:AS->Prop):kpQ P [] Q=Q:=rfl
@[go_sem] theorem kpQ_cons(p:TypeId×V×V)(r:Kps)(Q:AS->Prop)(τ : Nat->V)(H:Heap):kpQ P (p::r) Q ⟨τ,H⟩=(Xt P H p.1 p.2.1=some p.2.2/\kpA P r H (Q ⟨τ,H⟩)):=rfl
theorem Mi{kp:Kps}{Q:AS->Prop}{s:AS}{H:Heap}{d:Option Nat}{v:V}:kpQ P kp Q (AS.put { s with H:=H } d v)↔KpH P kp H/\Q (AS.put { s with H:=H } d v):=by
 unfold kpQ;rw[V0];exact Zmt
def kpT(P:Program)(kp:Kps)(b:Bool)(Q:AS->Prop):AS->Prop:=match b with|true=>Q|false=>kpQ P kp Q
@[go_sem] theorem kpT_true(Q:AS->Prop):kpT P kp true Q=Q:=rfl
@[go_sem] theorem kpT_false(Q:AS->Prop):kpT P kp false Q=kpQ P kp Q:=rfl
def Znt(P:Program)(kp:Kps)(t:TypeId)(a v:V)(H:Heap)(A:Prop):Prop:=((t,a,v)∈kp/\KpH P kp H)/\A
theorem M3(t:TypeId)(a:V):Xt P Zi t a=Vb P t a:=by
 cases a<;>first|rfl|grind
def Py(o:Oper):Bool:=
 match o.op with
 |.move _|.assign _|.pick .. |.binOp .. |.unOp .. |.convert .. |.extract .. |.field .. |.build .. |.fieldAddr .. |.indexAddr .. |.index .. |.slice .. |.makeFunc .. |.makeInterface .. |.nilCheck _|.lookup .. |.typeAssert .. => true
 |.alloc _|.box .. |.buildSlice .. |.makeSlice .. => true
 |.makeMap _ none=>true
 |.call { callee:=.builtin .len,.. }=>true
 |.call { callee:=.builtin .max,.. }=>true
 |.call { callee:=.builtin .min,.. }=>true
 |_=>false
def kpB(P:Program)(kp:Kps)(b:Bool)(Q:AS->Prop)(s:AS):Prop:=match b with|true=>Q s|false=>kpQ P kp Q s
def Yy(P:Program)(E:Ent)(kp:Kps)(ops:Array Oper)(Q:AS->Prop)(T:Told):Nat->List Oper->AS->Prop
 |_,[],s=>Q s
 |i,o::rest,s=>Qt (Zz ops s.τ o) (Yy P E kp ops Q T (i+1) rest (s.put o.dst (.tuple [])))
   (match o.op with
    |.call { callee:=.value f,args,.. }=>mdK (T.bor i) (O1 P E (T.bor i) (T.vs i) s.H (s.ev E f) (args.toList.map (s.ev E))/\Yy P E kp ops Q T (i+1) rest (s.put o.dst (T.vs i)))
      (Yk P E s o λv a=>kpQ P kp (Yy P E kp ops Q T (i+1) rest) (AS.put { s with H:=a } o.dst v))
    |.load t x=>ldK (T.bor i) (Pa (Xt P Zi t (s.ev E x)) λv=>Yy P E kp ops Q T (i+1) rest (s.put o.dst v)) (Yk P E s o λv a=>Yy P E kp ops Q T (i+1) rest (AS.put { s with H:=a } o.dst v))
      (Znt P kp t (s.ev E x) (T.vs i) s.H (Yy P E kp ops Q T (i+1) rest (s.put o.dst (T.vs i))))
    |_=>(St o=true->∃ d,o.dst=some d/\s.H (E.q+d)=.dead)/\Yk P E s o λv a=>kpB P kp (Py o) (Yy P E kp ops Q T (i+1) rest) (AS.put { s with H:=a } o.dst v))
theorem Ik{ops:Array Oper}{Q:AS->Prop}{T:Told}:∀ (l:List Oper) (k:Nat) (s:AS),(∀ j,l[j]?=ops[k+j]?)->Yy P E kp ops Q T k l s ->
  R1 P E kp ops T Q ((List.range l.length).map (k + ·)) s
 |[],k,s,_,h=>h
 |o::rest,k,s,hl,h=>by
  have W:ops[k]?=some o:=by have:=hl 0;simpa using this.symm
  have S:∀ j,rest[j]?=ops[k+1+j]? := λj=>by have:=hl (j+1);rw[show k+1+j=k+(j+1) by omega];simpa using this
  have B:(List.range (o::rest).length).map (k + ·)=k::(List.range rest.length).map (k+1 + ·):=by
   simp only[List.length_cons,List.range_succ_eq_map,List.map_cons,Nat.add_zero,List.map_map]
   congr 1
   apply List.map_congr_left;intro j _;simp;omega
  have y:∀ N,Yy P E kp ops Q T (k+1) rest N->R1 P E kp ops T Q ((List.range rest.length).map (k+1 + ·)) N:=λN=>Ik rest (k+1) N S;rw[B];simp only[R1,W];unfold Rb;simp only[Yy]at h
  cases U:Zz ops s.τ o with
  |none=>rw[U]at h;exact h.elim
  |some b=>
   rw[U]at h
   cases b with
   |false=>exact y _ h
   |true=>
    simp only[Qt]at h⊢
    split at h
    .rename_i f I M hop
     obtain⟨C,O,F,pos,after,A⟩:=o;simp only at hop;subst hop
     cases z:T.bor k with
     |any=>
      rw[z,Zwa]at h;have n:=Y3 (K':=λu p=>KpH P kp p/\R1 P E kp ops T Q ((List.range rest.length).map (k+1 + ·)) (AS.put { s with H:=p } C u)) (λv p e=>(Mi.1 e).imp id (y _)) h;unfold Xg;exact n
     |keep=>
      rw[z,E0]at h;have n:=Y3 (K':=λu p=>KpH P kp p/\R1 P E kp ops T Q ((List.range rest.length).map (k+1 + ·)) (AS.put { s with H:=p } C u)) (λv p e=>(Mi.1 e).imp id (y _)) h;unfold Xg;exact n
     |lend=>
      rw[z]at h;obtain⟨i,G⟩:=h;unfold O1 at i;unfold Xg
      split at i
      rename_i K first L J;simp only[Z9,J];exact⟨i,y _ G⟩;exact i.elim
     |pure=>
      rw[z]at h;obtain⟨i,G⟩:=h;unfold O1 at i;unfold Xg
      split at i
      rename_i K first L J;simp only[Z9,J];exact⟨i,y _ G⟩;exact i.elim
     |own=>
      rw[z]at h;obtain⟨i,G⟩:=h;unfold O1 at i;unfold Xg
      split at i
      rename_i K first L J;simp only[Z9,J];exact⟨i,y _ G⟩;exact i.elim
    .rename_i t x hop
     obtain⟨C,O,F,pos,after,A⟩:=o;simp only at hop;subst hop
     cases z:T.bor k with
     |lend=>
      rw[z,E5,M3]at h;unfold Xg;simp only[Z9,M6]
      cases V:Vb P t (s.ev E x)with
      |none=>rw[V]at h;exact h.elim
      |some u=>rw[V]at h;exact y _ h
     |keep=>
      rw[z,E6]at h;unfold Xg;simp only[Z9,M6];exact⟨h.1,y _ h.2⟩
     |pure=>
      rw[z,E4]at h;have n:=Y3 (λv p e=>y _ e) h;unfold Xg;exact n
     |own=>
      rw[z,Z0a]at h;have n:=Y3 (λv p e=>y _ e) h;unfold Xg;exact n
     |any=>
      rw[z,Z1a]at h;have n:=Y3 (λv p e=>y _ e) h;unfold Xg;exact n
    .rename_i hne hnl
     obtain⟨i,G⟩:=h
     have g:Py o=true->Yk P E s o λv p=>R1 P E kp ops T Q ((List.range rest.length).map (k+1 + ·)) (AS.put { s with H:=p } o.dst v):=λR=>
      Y3 (λv p e=>y _ (by rw[R]at e;exact e)) G
     have q:Py o=false->Yk P E s o λv p=>KpH P kp p/\R1 P E kp ops T Q ((List.range rest.length).map (k+1 + ·)) (AS.put { s with H:=p } o.dst v):=λR=>
      Y3 (λv p e=>(by rw[R]at e;exact(Mi.1 e).imp id (y _))) G
     obtain⟨C,O,F,pos,after,A⟩:=o;unfold Xg
     cases O<;>try(first|exact g rfl|exact q rfl|exact absurd rfl (hnl _ _))
     case makeMap t r=>
      cases r with
      |some r=>exact q rfl
      |none=>
       obtain⟨d,w,a⟩:=i rfl;simp only at w;subst w;exact⟨a,g rfl⟩
     obtain⟨d,w,a⟩:=i rfl;simp only at w;subst w;exact⟨a,g rfl⟩;obtain⟨d,w,a⟩:=i rfl;simp only at w;subst w;exact⟨a,g rfl⟩;obtain⟨d,w,a⟩:=i rfl;simp only at w;subst w;exact⟨a,g rfl⟩;obtain⟨d,w,a⟩:=i rfl;simp only at w;subst w;exact⟨a,g rfl⟩
     .rename_i c
      obtain⟨D,I,M⟩:=c
      cases D with
      |value f=>exact absurd rfl (hne f I M)
      |invoke r m=>exact q rfl
      |builtin b=>cases b<;>first|exact g rfl|exact q rfl
theorem Vw{id:Nat}{ops:Array Oper}{Q:Exit->AS->Prop}{s:AS}(kp:Kps)(T:Told)(b:P.follows .mixedOrders=true)(c:Y6 E.G)(hd:(ops.all (Xz E.n))=true)
  (a:Lh ops T.bor 0 ops.toList=true) (h:Yy P E kp ops (Q .normal) T 0 ops.toList s):AW P E (.region id ops true) Q s:=by
 refine Zis b c kp T hd a ?_;have:=Ik (P:=P) (E:=E) ops.toList 0 s (λj=>zS) h;simp_all
theorem Zp{id:Nat}{ops:Array Oper}{Q:Exit->AS->Prop}{s:AS}(T:Told)(b:P.follows .mixedOrders=true)(c:Y6 E.G)(hd:(ops.all (Xz E.n))=true)
  (a:Lh ops T.bor 0 ops.toList=true) (h:Yy P E [] ops (Q .normal) T 0 ops.toList s):AW P E (.region id ops true) Q s:=Vw [] T b c hd a h
section
variable{ops:Array Oper}{Q:AS->Prop}{T:Told}{rest:List Oper}{τ : Nat->V}{H:Heap}{d:Option Nat}{ty:TypeId}{pos:String}{af:Array Edge}{i:Nat}
theorem Zz0(s:AS):Yy P E kp ops Q T i [] s=Q s:=rfl
theorem Zzn(l:List Oper)(op:Op)(j:Nat)(a:Bool):
  Yy P E kp ⟨l⟩ Q T i (⟨d,op,ty,pos,af,some (j,a)⟩::rest) ⟨τ,H⟩ =
   Qt (Jc ((P1 l j).map τ) a) (Yy P E kp ⟨l⟩ Q T (i+1) rest (AS.put ⟨τ,H⟩ d (.tuple []))) (Yy P E kp ⟨l⟩ Q T i (⟨d,op,ty,pos,af,none⟩::rest) ⟨τ,H⟩):=by
 have b:Zz ⟨l⟩ τ ⟨d,op,ty,pos,af,some (j,a)⟩=Jc ((P1 l j).map τ) a:=by
  unfold Zz P1;simp only[List.getElem?_toArray]
  cases(l[j]?).bind (·.dst)with
  |none=>rfl
  |some e=>
   rfl
 simp only[Yy];rw[b];rfl
theorem Ziv(f:Operand)(l:List Operand)(a:Array TypeId):Yy P E kp ops Q T i (⟨d,.call ⟨.value f,⟨l⟩,a⟩,ty,pos,af,none⟩::rest) ⟨τ,H⟩ =
  mdK (borA T i) (O1 P E (T.bor i) (T.vs i) H (AS.ev E ⟨τ,H⟩ f) (l.map (AS.ev E ⟨τ,H⟩))/\Yy P E kp ops Q T (i+1) rest (AS.put ⟨τ,H⟩ d (T.vs i)))
   (Yi P E ops (kpQ P kp (Yy P E kp ops Q T (i+1) rest)) [⟨d,.call ⟨.value f,⟨l⟩,a⟩,ty,pos,af,none⟩] ⟨τ,H⟩):=by
 rfl
theorem Znm(v:V)(a:FuncId)(first cap args:List V):O1 P E .pure v H (.func (.func a) first cap) args=Gc P E.G a (first++args++cap) v:=rfl
theorem Ziu(v:V)(a:FuncId)(first cap args:List V):O1 P E .own v H (.func (.func a) first cap) args=OwnC P E.G a (first++args++cap) v:=rfl
theorem Zom(v:V)(a:FuncId)(first cap args:List V):O1 P E .lend v H (.func (.func a) first cap) args=BorC P E.G a (first++args++cap) H v:=rfl
attribute[go_sem]Zz0 Zzn Ziv Znm Ziu Zom
def Zeb(o:Option V)(K:V->Prop):Prop:=Pa o K
@[go_sem] theorem Z16(v:V)(K:V->Prop):Zeb (some v) K=K v:=rfl
@[congr] theorem Z45{o o':Option V}{K:V->Prop}(h:o=o'):Zeb o K=Zeb o' K:=by rw[h]
theorem Xi(o:Oper)(h:o.guard=none)(d:Qh o=true)(l:Py o=true):Yy P E kp ops Q T i (o::rest) ⟨τ,H⟩=Yi P E ops (Yy P E kp ops Q T (i+1) rest) [o] ⟨τ,H⟩:=by
 obtain⟨f,g,b,pos,after,e⟩:=o;simp only at h;subst h;rw[Us];simp only[Yy,Ep];have k:Zz ops τ ⟨f,g,b,pos,after,none⟩=some true:=rfl;rw[k,Nk];rw[l]
 cases g<;>first
  |(simp only[St,kpB,Bool.false_eq_true,false_implies,true_and];done)
  |(simp[Qh]at d;done)
  |skip
 case makeMap t r=>cases r<;>first|(simp only[St,kpB,Bool.false_eq_true,false_implies,true_and];done)|(simp[Qh]at d;done)
 all_goals first|(cases d;done)|skip
 rename_i c;obtain⟨a,j,m⟩:=c
 cases a<;>simp[St,kpB,Qh]at d⊢
theorem Ij(o:Oper)(h:o.guard=none)(d:Qh o=true)(l:Py o=false):Yy P E kp ops Q T i (o::rest) ⟨τ,H⟩=Yi P E ops (kpQ P kp (Yy P E kp ops Q T (i+1) rest)) [o] ⟨τ,H⟩:=by
 obtain⟨f,g,b,pos,after,e⟩:=o;simp only at h;subst h;rw[Us];simp only[Yy,Ep];have k:Zz ops τ ⟨f,g,b,pos,after,none⟩=some true:=rfl;rw[k,Nk,l]
 cases g<;>first
  |(simp only[St,kpB,Bool.false_eq_true,false_implies,true_and];done)
  |(simp[Qh]at d;done)
  |skip
 case makeMap t r=>cases r<;>first|(simp only[St,kpB,Bool.false_eq_true,false_implies,true_and];done)|(simp[Qh]at d;done)
 all_goals first|(cases d;done)|skip
 rename_i c;obtain⟨a,j,m⟩:=c
 cases a<;>simp[St,kpB,Qh]at d⊢
theorem Rz(e:Nat)(op:Op)(a:St ⟨some e,op,ty,pos,af,none⟩=true):Yy P E kp ops Q T i (⟨some e,op,ty,pos,af,none⟩::rest) ⟨τ,H⟩ =
  (H (E.q+e)=.dead/\Yi P E ops (Yy P E kp ops Q T (i+1) rest) [⟨some e,op,ty,pos,af,none⟩] ⟨τ,H⟩):=by
 rw[Us];simp only[Yy,Ep];have b:Zz ops τ ⟨some e,op,ty,pos,af,none⟩=some true:=rfl;rw[b,Nk];cases op
 case makeMap t r=>cases r<;>simp[St,kpB,Py]at a⊢
 all_goals simp[St,kpB,Py]at a⊢
section
theorem Zgv(x:Operand):Yy P E kp ops Q T i (⟨d,.move x,ty,pos,af,none⟩::rest) ⟨τ,H⟩=Yi P E ops (Yy P E kp ops Q T (i+1) rest) [⟨d,.move x,ty,pos,af,none⟩] ⟨τ,H⟩:=Xi _ rfl rfl rfl
theorem Zhg(x:Operand):Yy P E kp ops Q T i (⟨d,.assign x,ty,pos,af,none⟩::rest) ⟨τ,H⟩=Yi P E ops (Yy P E kp ops Q T (i+1) rest) [⟨d,.assign x,ty,pos,af,none⟩] ⟨τ,H⟩:=Xi _ rfl rfl rfl
theorem Zfv(x y z:Operand):Yy P E kp ops Q T i (⟨d,.pick x y z,ty,pos,af,none⟩::rest) ⟨τ,H⟩=Yi P E ops (Yy P E kp ops Q T (i+1) rest) [⟨d,.pick x y z,ty,pos,af,none⟩] ⟨τ,H⟩:=Xi _ rfl rfl rfl
theorem Z1n(o:BinOp)(t:TypeId)(x y:Operand)(u:TypeId):Yy P E kp ops Q T i (⟨d,.binOp o t x y u,ty,pos,af,none⟩::rest) ⟨τ,H⟩=Yi P E ops (Yy P E kp ops Q T (i+1) rest) [⟨d,.binOp o t x y u,ty,pos,af,none⟩] ⟨τ,H⟩:=Xi _ rfl rfl rfl
theorem Zev(o:UnOp)(t:TypeId)(x:Operand):Yy P E kp ops Q T i (⟨d,.unOp o t x,ty,pos,af,none⟩::rest) ⟨τ,H⟩=Yi P E ops (Yy P E kp ops Q T (i+1) rest) [⟨d,.unOp o t x,ty,pos,af,none⟩] ⟨τ,H⟩:=Xi _ rfl rfl rfl
theorem Zoa(x:Operand)(n:Nat):Yy P E kp ops Q T i (⟨d,.extract x n,ty,pos,af,none⟩::rest) ⟨τ,H⟩=Yi P E ops (Yy P E kp ops Q T (i+1) rest) [⟨d,.extract x n,ty,pos,af,none⟩] ⟨τ,H⟩:=Xi _ rfl rfl rfl
theorem Eo(t:TypeId)(x:Operand)(n:Nat):Yy P E kp ops Q T i (⟨d,.fieldAddr t x n,ty,pos,af,none⟩::rest) ⟨τ,H⟩=Yi P E ops (Yy P E kp ops Q T (i+1) rest) [⟨d,.fieldAddr t x n,ty,pos,af,none⟩] ⟨τ,H⟩:=Xi _ rfl rfl rfl
theorem En(t:TypeId)(x y:Operand):Yy P E kp ops Q T i (⟨d,.indexAddr t x y,ty,pos,af,none⟩::rest) ⟨τ,H⟩=Yi P E ops (Yy P E kp ops Q T (i+1) rest) [⟨d,.indexAddr t x y,ty,pos,af,none⟩] ⟨τ,H⟩:=Xi _ rfl rfl rfl
theorem Zyn(t:TypeId)(x:Operand)(a b c:Option Operand):Yy P E kp ops Q T i (⟨d,.slice t x a b c,ty,pos,af,none⟩::rest) ⟨τ,H⟩=Yi P E ops (Yy P E kp ops Q T (i+1) rest) [⟨d,.slice t x a b c,ty,pos,af,none⟩] ⟨τ,H⟩:=Xi _ rfl rfl rfl
theorem Z0n(t:TypeId)(x:Array (Nat×Operand)):Yy P E kp ops Q T i (⟨d,.build t x,ty,pos,af,none⟩::rest) ⟨τ,H⟩=Yi P E ops (Yy P E kp ops Q T (i+1) rest) [⟨d,.build t x,ty,pos,af,none⟩] ⟨τ,H⟩:=Xi _ rfl rfl rfl
theorem Ct(f:Fn)(x y:Array Operand):Yy P E kp ops Q T i (⟨d,.makeFunc f x y,ty,pos,af,none⟩::rest) ⟨τ,H⟩=Yi P E ops (Yy P E kp ops Q T (i+1) rest) [⟨d,.makeFunc f x y,ty,pos,af,none⟩] ⟨τ,H⟩:=Xi _ rfl rfl rfl
theorem Cs(x:Operand):Yy P E kp ops Q T i (⟨d,.nilCheck x,ty,pos,af,none⟩::rest) ⟨τ,H⟩=Yi P E ops (Yy P E kp ops Q T (i+1) rest) [⟨d,.nilCheck x,ty,pos,af,none⟩] ⟨τ,H⟩:=Xi _ rfl rfl rfl
theorem Zhv(t:TypeId)(x:Operand):Yy P E kp ops Q T i (⟨d,.load t x,ty,pos,af,none⟩::rest) ⟨τ,H⟩ =
  ldK (borA T i) (Zeb (Xt P Zi t (AS.ev E ⟨τ,H⟩ x)) λv=>Yy P E kp ops Q T (i+1) rest (AS.put ⟨τ,H⟩ d v)) (Yi P E ops (Yy P E kp ops Q T (i+1) rest) [⟨d,.load t x,ty,pos,af,none⟩] ⟨τ,H⟩)
   (Znt P kp t (AS.ev E ⟨τ,H⟩ x) (T.vs i) H (Yy P E kp ops Q T (i+1) rest (AS.put ⟨τ,H⟩ d (T.vs i)))):=by
 rfl
theorem Zxn(t:TypeId)(x y:Operand):Yy P E kp ops Q T i (⟨d,.store t x y,ty,pos,af,none⟩::rest) ⟨τ,H⟩=Yi P E ops (kpQ P kp (Yy P E kp ops Q T (i+1) rest)) [⟨d,.store t x y,ty,pos,af,none⟩] ⟨τ,H⟩:=Ij _ rfl rfl rfl
theorem Zpa(b:Builtin)(l:Array Operand)(a:Array TypeId):Yy P E kp ops Q T i (⟨d,.call ⟨.builtin b,l,a⟩,ty,pos,af,none⟩::rest) ⟨τ,H⟩=Yi P E ops (kpT P kp (match b with|.len|.max|.min=>true|_=>false) (Yy P E kp ops Q T (i+1) rest)) [⟨d,.call ⟨.builtin b,l,a⟩,ty,pos,af,none⟩] ⟨τ,H⟩:=by
 cases b
 case len=>exact Xi _ rfl rfl rfl
 case max=>exact Xi _ rfl rfl rfl
 case min=>exact Xi _ rfl rfl rfl
 all_goals exact Ij _ rfl rfl rfl
theorem Z2n(e:Nat)(t:TypeId):Yy P E kp ops Q T i (⟨some e,.alloc t,ty,pos,af,none⟩::rest) ⟨τ,H⟩=(H (E.q+e)=.dead/\Yi P E ops (Yy P E kp ops Q T (i+1) rest) [⟨some e,.alloc t,ty,pos,af,none⟩] ⟨τ,H⟩):=Rz e _ rfl
theorem Z00(e:Nat)(t:TypeId)(x:Operand):Yy P E kp ops Q T i (⟨some e,.box t x,ty,pos,af,none⟩::rest) ⟨τ,H⟩=(H (E.q+e)=.dead/\Yi P E ops (Yy P E kp ops Q T (i+1) rest) [⟨some e,.box t x,ty,pos,af,none⟩] ⟨τ,H⟩):=Rz e _ rfl
theorem Gk(e:Nat)(t:TypeId)(n:Nat)(x:Array (Nat×Operand)):Yy P E kp ops Q T i (⟨some e,.buildSlice t n x,ty,pos,af,none⟩::rest) ⟨τ,H⟩=(H (E.q+e)=.dead/\Yi P E ops (Yy P E kp ops Q T (i+1) rest) [⟨some e,.buildSlice t n x,ty,pos,af,none⟩] ⟨τ,H⟩):=Rz e _ rfl
theorem Em(e:Nat)(t:TypeId)(x y:Operand):Yy P E kp ops Q T i (⟨some e,.makeSlice t x y,ty,pos,af,none⟩::rest) ⟨τ,H⟩=(H (E.q+e)=.dead/\Yi P E ops (Yy P E kp ops Q T (i+1) rest) [⟨some e,.makeSlice t x y,ty,pos,af,none⟩] ⟨τ,H⟩):=Rz e _ rfl
theorem Zna(e:Nat)(t:TypeId):Yy P E kp ops Q T i (⟨some e,.makeMap t none,ty,pos,af,none⟩::rest) ⟨τ,H⟩=(H (E.q+e)=.dead/\Yi P E ops (Yy P E kp ops Q T (i+1) rest) [⟨some e,.makeMap t none,ty,pos,af,none⟩] ⟨τ,H⟩):=Rz e _ rfl
attribute[go_sem]Zgv Zhg Zfv Z1n Zev Zoa Eo En Zyn Z0n Ct Cs Zhv Zxn Zpa Z2n Z00 Gk Em Zna
end
end
end
end Go.Hs
