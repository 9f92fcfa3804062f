/- A part. No condition. -/
import Derived.Test.YtjplgaebbfabnaaGreatDoorP21
set_option linter.all false
namespace Go.Hs
section
variable{P:Program}{E:Ent}{kp:Kps}
def Po(o:Oper):Bool:=
 match o.op with
 |.alloc _|.box .. |.buildSlice .. |.makeSlice .. => false
 |.makeMap _ none=>false
 |.load .. => false
 |.call { callee:=.value _,.. }=>false
 |_=>true
def Rq(o:Oper):Bool:=
 match o.op with
 |.alloc _|.box .. |.buildSlice .. |.makeSlice .. => true
 |.makeMap _ none=>true
 |_=>false
def Mk(P:Program)(E:Ent)(bor:Md)(v:V)(H:Heap)(f:V)(args:List V):Prop:=
 match f with
 |.func (.func fid) first cap=>(match bor with|.lend=>BorC P E.G fid (first++args++cap) H v|.own=>OwnC P E.G fid (first++args++cap) v|_=>Zkb P E.G fid (first++args++cap) v)
 |_=>False
def mdK(m:Md)(A B:Prop):Prop:=match m with|.any=>B|.keep=>B|_=>A
@[congr] theorem mdK_congr{m a:Md}{A B:Prop}(h:m=a):mdK m A B=mdK a A B:=by rw[h]
theorem Z26(A B:Prop):mdK .pure A B=A:=rfl
theorem Z36(A B:Prop):mdK .lend A B=A:=rfl
theorem Z0aa(A B:Prop):mdK .own A B=A:=rfl
theorem Zvc(A B:Prop):mdK .any A B=B:=rfl
theorem Co(A B:Prop):mdK .keep A B=B:=rfl
attribute[go_sem]Z26 Z36 Z0aa Zvc Co
def borA(T:Told)(i:Nat):Md:=T.bor i
@[go_sem] theorem borA_mk(f:Nat->V)(g:Nat->Md)(i:Nat):borA ⟨f,g⟩ i=g i:=rfl
def ldK(m:Md)(A B C:Prop):Prop:=match m with|.lend=>A|.keep=>C|_=>B
@[congr] theorem ldK_congr{m a:Md}{A B C:Prop}(h:m=a):ldK m A B C=ldK a A B C:=by rw[h]
theorem Cs(A B C:Prop):ldK .pure A B C=B:=rfl
theorem Ct(A B C:Prop):ldK .lend A B C=A:=rfl
theorem Z1c(A B C:Prop):ldK .own A B C=B:=rfl
theorem Z2c(A B C:Prop):ldK .any A B C=B:=rfl
theorem Cu(A B C:Prop):ldK .keep A B C=C:=rfl
attribute[go_sem]Cs Ct Z1c Z2c Cu
def kpA(P:Program)(kp:Kps)(H:Heap)(A:Prop):Prop:=match kp with|[]=>A|p::r=>(Wc P H p.1 p.2.1=some p.2.2/\kpA P r H A)
@[go_sem] theorem kpA_nil(H:Heap)(A:Prop):kpA P [] H A=A:=rfl
@[go_sem] theorem Zl7(p:TypeId×V×V)(r:Kps)(H:Heap)(A:Prop):kpA P (p::r) H A=(Wc P H p.1 p.2.1=some p.2.2/\kpA P r H A):=rfl
theorem Z3x:∀ {kp:Kps} {H:Heap} {A:Prop},kpA P kp H A↔KpH P kp H/\A
 |[],H,A=>⟨λh=>⟨λp e=>(by grind),h⟩,λh=>h.2⟩
 |p::r,H,A=>by
  rw[Zl7,Z3x]
  constructor
  rintro⟨c,b,d⟩;refine⟨λq a=>?_,d⟩
  rcases List.mem_cons.1 a with rfl|a
  grind
  exact b q a;rintro⟨c,b⟩;exact⟨c p (List.mem_cons_self ..),λq a=>c q (List.mem_cons_of_mem _ a),b⟩
def kpQ(P:Program)(kp:Kps)(Q:AS->Prop):AS->Prop:=λs=>kpA P kp s.H (Q s)
@[go_sem] theorem kpQ_nil(Q:AS->Prop):kpQ P [] Q=Q:=rfl
@[go_sem] theorem kpQ_cons(p:TypeId×V×V)(r:Kps)(Q:AS->Prop)(τ : Nat->V)(H:Heap):kpQ P (p::r) Q ⟨τ,H⟩=(Wc P H p.1 p.2.1=some p.2.2/\kpA P r H (Q ⟨τ,H⟩)):=rfl
theorem Lt{kp:Kps}{Q:AS->Prop}{s:AS}{H:Heap}{d:Option Nat}{v:V}:kpQ P kp Q (AS.put { s with H:=H } d v)↔KpH P kp H/\Q (AS.put { s with H:=H } d v):=by
 unfold kpQ;rw[Uo];exact Z3x
def kpT(P:Program)(kp:Kps)(b:Bool)(Q:AS->Prop):AS->Prop:=match b with|true=>Q|false=>kpQ P kp Q
@[go_sem] theorem kpT_true(Q:AS->Prop):kpT P kp true Q=Q:=rfl
@[go_sem] theorem kpT_false(Q:AS->Prop):kpT P kp false Q=kpQ P kp Q:=rfl
def Z4x(P:Program)(kp:Kps)(t:TypeId)(a v:V)(H:Heap)(A:Prop):Prop:=((t,a,v)∈kp/\KpH P kp H)/\A
theorem Kf(t:TypeId)(a:V):Wc P Zj t a=Vo P t a:=by
 cases a<;>first|rfl|grind
def Nd(o:Oper):Bool:=
 match o.op with
 |.move _|.assign _|.pick .. |.binOp .. |.unOp .. |.convert .. |.extract .. |.field .. |.build .. |.fieldAddr .. |.indexAddr .. |.index .. |.slice .. |.makeFunc .. |.makeInterface .. |.nilCheck _|.lookup .. |.typeAssert .. => true
 |.alloc _|.box .. |.buildSlice .. |.makeSlice .. => true
 |.makeMap _ none=>true
 |.call { callee:=.builtin .len,.. }=>true
 |.call { callee:=.builtin .max,.. }=>true
 |.call { callee:=.builtin .min,.. }=>true
 |_=>false
def kpB(P:Program)(kp:Kps)(b:Bool)(Q:AS->Prop)(s:AS):Prop:=match b with|true=>Q s|false=>kpQ P kp Q s
def Xg(P:Program)(E:Ent)(kp:Kps)(ops:Array Oper)(Q:AS->Prop)(T:Told):Nat->List Oper->AS->Prop
 |_,[],s=>Q s
 |i,o::rest,s=>P2 (Z8 ops s.τ o) (Xg P E kp ops Q T (i+1) rest (s.put o.dst (.tuple [])))
   (match o.op with
    |.call { callee:=.value f,args,.. }=>mdK (T.bor i) (Mk P E (T.bor i) (T.vs i) s.H (s.ev E f) (args.toList.map (s.ev E))/\Xg P E kp ops Q T (i+1) rest (s.put o.dst (T.vs i)))
      (Yy P E s o λv a=>kpQ P kp (Xg P E kp ops Q T (i+1) rest) (AS.put { s with H:=a } o.dst v))
    |.load t x=>ldK (T.bor i) (Oi (Wc P Zj t (s.ev E x)) λv=>Xg P E kp ops Q T (i+1) rest (s.put o.dst v)) (Yy P E s o λv a=>Xg P E kp ops Q T (i+1) rest (AS.put { s with H:=a } o.dst v))
      (Z4x P kp t (s.ev E x) (T.vs i) s.H (Xg P E kp ops Q T (i+1) rest (s.put o.dst (T.vs i))))
    |_=>(Rq o=true->∃ d,o.dst=some d/\s.H (E.q+d)=.dead)/\Yy P E s o λv a=>kpB P kp (Nd o) (Xg P E kp ops Q T (i+1) rest) (AS.put { s with H:=a } o.dst v))
theorem Hw{ops:Array Oper}{Q:AS->Prop}{T:Told}:∀ (l:List Oper) (k:Nat) (s:AS),(∀ j,l[j]?=ops[k+j]?)->Xg P E kp ops Q T k l s ->
  Q6 P E kp ops T Q ((List.range l.length).map (k + ·)) s
 |[],k,s,_,h=>h
 |o::rest,k,s,hl,h=>by
  have W:ops[k]?=some o:=by have:=hl 0;simpa using this.symm
  have S:∀ j,rest[j]?=ops[k+1+j]? := λj=>by have:=hl (j+1);rw[show k+1+j=k+(j+1) by omega];simpa using this
  have B:(List.range (o::rest).length).map (k + ·)=k::(List.range rest.length).map (k+1 + ·):=by
   simp only[List.length_cons,List.range_succ_eq_map,List.map_cons,Nat.add_zero,List.map_map]
   congr 1
   apply List.map_congr_left;intro j _;simp;omega
  have y:∀ N,Xg P E kp ops Q T (k+1) rest N->Q6 P E kp ops T Q ((List.range rest.length).map (k+1 + ·)) N:=λN=>Hw rest (k+1) N S;rw[B];simp only[Q6,W];unfold Qe;simp only[Xg]at h
  cases U:Z8 ops s.τ o with
  |none=>rw[U]at h;exact h.elim
  |some b=>
   rw[U]at h
   cases b with
   |false=>exact y _ h
   |true=>
    simp only[P2]at h⊢
    split at h
    .rename_i f I M hop
     obtain⟨C,O,F,pos,after,A⟩:=o;simp only at hop;subst hop
     cases z:T.bor k with
     |any=>
      rw[z,Zvc]at h;have n:=Xn (K':=λu p=>KpH P kp p/\Q6 P E kp ops T Q ((List.range rest.length).map (k+1 + ·)) (AS.put { s with H:=p } C u)) (λv p e=>(Lt.1 e).imp id (y _)) h;unfold Xt;exact n
     |keep=>
      rw[z,Co]at h;have n:=Xn (K':=λu p=>KpH P kp p/\Q6 P E kp ops T Q ((List.range rest.length).map (k+1 + ·)) (AS.put { s with H:=p } C u)) (λv p e=>(Lt.1 e).imp id (y _)) h;unfold Xt;exact n
     |lend=>
      rw[z]at h;obtain⟨i,G⟩:=h;unfold Mk at i;unfold Xt
      split at i
      rename_i K first L J;simp only[Yk,J];exact⟨i,y _ G⟩;exact i.elim
     |pure=>
      rw[z]at h;obtain⟨i,G⟩:=h;unfold Mk at i;unfold Xt
      split at i
      rename_i K first L J;simp only[Yk,J];exact⟨i,y _ G⟩;exact i.elim
     |own=>
      rw[z]at h;obtain⟨i,G⟩:=h;unfold Mk at i;unfold Xt
      split at i
      rename_i K first L J;simp only[Yk,J];exact⟨i,y _ G⟩;exact i.elim
    .rename_i t x hop
     obtain⟨C,O,F,pos,after,A⟩:=o;simp only at hop;subst hop
     cases z:T.bor k with
     |lend=>
      rw[z,Ct,Kf]at h;unfold Xt;simp only[Yk,Ki]
      cases V:Vo P t (s.ev E x)with
      |none=>rw[V]at h;exact h.elim
      |some u=>rw[V]at h;exact y _ h
     |keep=>
      rw[z,Cu]at h;unfold Xt;simp only[Yk,Ki];exact⟨h.1,y _ h.2⟩
     |pure=>
      rw[z,Cs]at h;have n:=Xn (λv p e=>y _ e) h;unfold Xt;exact n
     |own=>
      rw[z,Z1c]at h;have n:=Xn (λv p e=>y _ e) h;unfold Xt;exact n
     |any=>
      rw[z,Z2c]at h;have n:=Xn (λv p e=>y _ e) h;unfold Xt;exact n
    .rename_i hne hnl
     obtain⟨i,G⟩:=h
     have g:Nd o=true->Yy P E s o λv p=>Q6 P E kp ops T Q ((List.range rest.length).map (k+1 + ·)) (AS.put { s with H:=p } o.dst v):=λR=>
      Xn (λv p e=>y _ (by rw[R]at e;exact e)) G
     have q:Nd o=false->Yy P E s o λv p=>KpH P kp p/\Q6 P E kp ops T Q ((List.range rest.length).map (k+1 + ·)) (AS.put { s with H:=p } o.dst v):=λR=>
      Xn (λv p e=>(by rw[R]at e;exact(Lt.1 e).imp id (y _))) G
     obtain⟨C,O,F,pos,after,A⟩:=o;unfold Xt
     cases O<;>try(first|exact g rfl|exact q rfl|exact absurd rfl (hnl _ _))
     case makeMap t r=>
      cases r with
      |some r=>exact q rfl
      |none=>
       obtain⟨d,w,a⟩:=i rfl;simp only at w;subst w;exact⟨a,g rfl⟩
     obtain⟨d,w,a⟩:=i rfl;simp only at w;subst w;exact⟨a,g rfl⟩;obtain⟨d,w,a⟩:=i rfl;simp only at w;subst w;exact⟨a,g rfl⟩;obtain⟨d,w,a⟩:=i rfl;simp only at w;subst w;exact⟨a,g rfl⟩;obtain⟨d,w,a⟩:=i rfl;simp only at w;subst w;exact⟨a,g rfl⟩
     .rename_i c
      obtain⟨D,I,M⟩:=c
      cases D with
      |value f=>exact absurd rfl (hne f I M)
      |invoke r m=>exact q rfl
      |builtin b=>cases b<;>first|exact g rfl|exact q rfl
theorem Ui{id:Nat}{ops:Array Oper}{Q:Exit->AS->Prop}{s:AS}(kp:Kps)(T:Told)(b:P.follows .mixedOrders=true)(d:Y6 E.G)(c:(ops.all (Wo E.n))=true)
  (a:Kt ops T.bor 0 ops.toList=true) (h:Xg P E kp ops (Q .normal) T 0 ops.toList s):AW P E (.region id ops true) Q s:=by
 refine Z9w b d kp T c a ?_;have:=Hw (P:=P) (E:=E) ops.toList 0 s (λj=>zS) h;simp_all
theorem Zy{id:Nat}{ops:Array Oper}{Q:Exit->AS->Prop}{s:AS}(T:Told)(b:P.follows .mixedOrders=true)(d:Y6 E.G)(c:(ops.all (Wo E.n))=true)
  (a:Kt ops T.bor 0 ops.toList=true) (h:Xg P E [] ops (Q .normal) T 0 ops.toList s):AW P E (.region id ops true) Q s:=Ui [] T b d c a h
section
variable{ops:Array Oper}{Q:AS->Prop}{T:Told}{rest:List Oper}{τ : Nat->V}{H:Heap}{d:Option Nat}{ty:TypeId}{pos:String}{af:Array Edge}{i:Nat}
theorem Zn6(s:AS):Xg P E kp ops Q T i [] s=Q s:=rfl
theorem Zzr(l:List Oper)(op:Op)(j:Nat)(a:Bool):
  Xg P E kp ⟨l⟩ Q T i (⟨d,op,ty,pos,af,some (j,a)⟩::rest) ⟨τ,H⟩ =
   P2 (Ig ((Nh l j).map τ) a) (Xg P E kp ⟨l⟩ Q T (i+1) rest (AS.put ⟨τ,H⟩ d (.tuple []))) (Xg P E kp ⟨l⟩ Q T i (⟨d,op,ty,pos,af,none⟩::rest) ⟨τ,H⟩):=by
 have b:Z8 ⟨l⟩ τ ⟨d,op,ty,pos,af,some (j,a)⟩=Ig ((Nh l j).map τ) a:=by
  unfold Z8 Nh;simp only[List.getElem?_toArray]
  cases(l[j]?).bind (·.dst)with
  |none=>rfl
  |some e=>
   rfl
 simp only[Xg];rw[b];rfl
theorem Z7z(f:Operand)(l:List Operand)(a:Array TypeId):Xg P E kp ops Q T i (⟨d,.call ⟨.value f,⟨l⟩,a⟩,ty,pos,af,none⟩::rest) ⟨τ,H⟩ =
  mdK (borA T i) (Mk P E (T.bor i) (T.vs i) H (AS.ev E ⟨τ,H⟩ f) (l.map (AS.ev E ⟨τ,H⟩))/\Xg P E kp ops Q T (i+1) rest (AS.put ⟨τ,H⟩ d (T.vs i)))
   (Yt P E ops (kpQ P kp (Xg P E kp ops Q T (i+1) rest)) [⟨d,.call ⟨.value f,⟨l⟩,a⟩,ty,pos,af,none⟩] ⟨τ,H⟩):=by
 rfl
theorem Zjq(v:V)(a:FuncId)(first cap args:List V):Mk P E .pure v H (.func (.func a) first cap) args=Zkb P E.G a (first++args++cap) v:=rfl
theorem Zzy(v:V)(a:FuncId)(first cap args:List V):Mk P E .own v H (.func (.func a) first cap) args=OwnC P E.G a (first++args++cap) v:=rfl
theorem Zkq(v:V)(a:FuncId)(first cap args:List V):Mk P E .lend v H (.func (.func a) first cap) args=BorC P E.G a (first++args++cap) H v:=rfl
attribute[go_sem]Zn6 Zzr Z7z Zjq Zzy Zkq
def Zgd(o:Option V)(K:V->Prop):Prop:=Oi o K
@[go_sem] theorem Zoca(v:V)(K:V->Prop):Zgd (some v) K=K v:=rfl
@[congr] theorem Zwba{o o':Option V}{K:V->Prop}(h:o=o'):Zgd o K=Zgd o' K:=by rw[h]
theorem Xz(o:Oper)(h:o.guard=none)(d:Po o=true)(l:Nd o=true):Xg P E kp ops Q T i (o::rest) ⟨τ,H⟩=Yt P E ops (Xg P E kp ops Q T (i+1) rest) [o] ⟨τ,H⟩:=by
 obtain⟨f,g,b,pos,after,e⟩:=o;simp only at h;subst h;rw[Tg];simp only[Xg,Cb];have k:Z8 ops τ ⟨f,g,b,pos,after,none⟩=some true:=rfl;rw[k,Mz];rw[l]
 cases g<;>first
  |(simp only[Rq,kpB,Bool.false_eq_true,false_implies,true_and];done)
  |(simp[Po]at d;done)
  |skip
 case makeMap t r=>cases r<;>first|(simp only[Rq,kpB,Bool.false_eq_true,false_implies,true_and];done)|(simp[Po]at d;done)
 all_goals first|(cases d;done)|skip
 rename_i c;obtain⟨a,j,m⟩:=c
 cases a<;>simp[Rq,kpB,Po]at d⊢
theorem Hv(o:Oper)(h:o.guard=none)(d:Po o=true)(l:Nd o=false):Xg P E kp ops Q T i (o::rest) ⟨τ,H⟩=Yt P E ops (kpQ P kp (Xg P E kp ops Q T (i+1) rest)) [o] ⟨τ,H⟩:=by
 obtain⟨f,g,b,pos,after,e⟩:=o;simp only at h;subst h;rw[Tg];simp only[Xg,Cb];have k:Z8 ops τ ⟨f,g,b,pos,after,none⟩=some true:=rfl;rw[k,Mz,l]
 cases g<;>first
  |(simp only[Rq,kpB,Bool.false_eq_true,false_implies,true_and];done)
  |(simp[Po]at d;done)
  |skip
 case makeMap t r=>cases r<;>first|(simp only[Rq,kpB,Bool.false_eq_true,false_implies,true_and];done)|(simp[Po]at d;done)
 all_goals first|(cases d;done)|skip
 rename_i c;obtain⟨a,j,m⟩:=c
 cases a<;>simp[Rq,kpB,Po]at d⊢
theorem Q5(e:Nat)(op:Op)(a:Rq ⟨some e,op,ty,pos,af,none⟩=true):Xg P E kp ops Q T i (⟨some e,op,ty,pos,af,none⟩::rest) ⟨τ,H⟩ =
  (H (E.q+e)=.dead/\Yt P E ops (Xg P E kp ops Q T (i+1) rest) [⟨some e,op,ty,pos,af,none⟩] ⟨τ,H⟩):=by
 rw[Tg];simp only[Xg,Cb];have b:Z8 ops τ ⟨some e,op,ty,pos,af,none⟩=some true:=rfl;rw[b,Mz];cases op
 case makeMap t r=>cases r<;>simp[Rq,kpB,Nd]at a⊢
 all_goals simp[Rq,kpB,Nd]at a⊢
section
theorem Z5z(x:Operand):Xg P E kp ops Q T i (⟨d,.move x,ty,pos,af,none⟩::rest) ⟨τ,H⟩=Yt P E ops (Xg P E kp ops Q T (i+1) rest) [⟨d,.move x,ty,pos,af,none⟩] ⟨τ,H⟩:=Xz _ rfl rfl rfl
theorem Zej(x:Operand):Xg P E kp ops Q T i (⟨d,.assign x,ty,pos,af,none⟩::rest) ⟨τ,H⟩=Yt P E ops (Xg P E kp ops Q T (i+1) rest) [⟨d,.assign x,ty,pos,af,none⟩] ⟨τ,H⟩:=Xz _ rfl rfl rfl
theorem Z4z(x y z:Operand):Xg P E kp ops Q T i (⟨d,.pick x y z,ty,pos,af,none⟩::rest) ⟨τ,H⟩=Yt P E ops (Xg P E kp ops Q T (i+1) rest) [⟨d,.pick x y z,ty,pos,af,none⟩] ⟨τ,H⟩:=Xz _ rfl rfl rfl
theorem Z1r(o:BinOp)(t:TypeId)(x y:Operand)(u:TypeId):Xg P E kp ops Q T i (⟨d,.binOp o t x y u,ty,pos,af,none⟩::rest) ⟨τ,H⟩=Yt P E ops (Xg P E kp ops Q T (i+1) rest) [⟨d,.binOp o t x y u,ty,pos,af,none⟩] ⟨τ,H⟩:=Xz _ rfl rfl rfl
theorem Z3z(o:UnOp)(t:TypeId)(x:Operand):Xg P E kp ops Q T i (⟨d,.unOp o t x,ty,pos,af,none⟩::rest) ⟨τ,H⟩=Yt P E ops (Xg P E kp ops Q T (i+1) rest) [⟨d,.unOp o t x,ty,pos,af,none⟩] ⟨τ,H⟩:=Xz _ rfl rfl rfl
theorem Zkc(x:Operand)(n:Nat):Xg P E kp ops Q T i (⟨d,.extract x n,ty,pos,af,none⟩::rest) ⟨τ,H⟩=Yt P E ops (Xg P E kp ops Q T (i+1) rest) [⟨d,.extract x n,ty,pos,af,none⟩] ⟨τ,H⟩:=Xz _ rfl rfl rfl
theorem Ca(t:TypeId)(x:Operand)(n:Nat):Xg P E kp ops Q T i (⟨d,.fieldAddr t x n,ty,pos,af,none⟩::rest) ⟨τ,H⟩=Yt P E ops (Xg P E kp ops Q T (i+1) rest) [⟨d,.fieldAddr t x n,ty,pos,af,none⟩] ⟨τ,H⟩:=Xz _ rfl rfl rfl
theorem D9(t:TypeId)(x y:Operand):Xg P E kp ops Q T i (⟨d,.indexAddr t x y,ty,pos,af,none⟩::rest) ⟨τ,H⟩=Yt P E ops (Xg P E kp ops Q T (i+1) rest) [⟨d,.indexAddr t x y,ty,pos,af,none⟩] ⟨τ,H⟩:=Xz _ rfl rfl rfl
theorem Zyr(t:TypeId)(x:Operand)(a b c:Option Operand):Xg P E kp ops Q T i (⟨d,.slice t x a b c,ty,pos,af,none⟩::rest) ⟨τ,H⟩=Yt P E ops (Xg P E kp ops Q T (i+1) rest) [⟨d,.slice t x a b c,ty,pos,af,none⟩] ⟨τ,H⟩:=Xz _ rfl rfl rfl
theorem Z0r(t:TypeId)(x:Array (Nat×Operand)):Xg P E kp ops Q T i (⟨d,.build t x,ty,pos,af,none⟩::rest) ⟨τ,H⟩=Yt P E ops (Xg P E kp ops Q T (i+1) rest) [⟨d,.build t x,ty,pos,af,none⟩] ⟨τ,H⟩:=Xz _ rfl rfl rfl
theorem Am(f:Fn)(x y:Array Operand):Xg P E kp ops Q T i (⟨d,.makeFunc f x y,ty,pos,af,none⟩::rest) ⟨τ,H⟩=Yt P E ops (Xg P E kp ops Q T (i+1) rest) [⟨d,.makeFunc f x y,ty,pos,af,none⟩] ⟨τ,H⟩:=Xz _ rfl rfl rfl
theorem Al(x:Operand):Xg P E kp ops Q T i (⟨d,.nilCheck x,ty,pos,af,none⟩::rest) ⟨τ,H⟩=Yt P E ops (Xg P E kp ops Q T (i+1) rest) [⟨d,.nilCheck x,ty,pos,af,none⟩] ⟨τ,H⟩:=Xz _ rfl rfl rfl
theorem Z6z(t:TypeId)(x:Operand):Xg P E kp ops Q T i (⟨d,.load t x,ty,pos,af,none⟩::rest) ⟨τ,H⟩ =
  ldK (borA T i) (Zgd (Wc P Zj t (AS.ev E ⟨τ,H⟩ x)) λv=>Xg P E kp ops Q T (i+1) rest (AS.put ⟨τ,H⟩ d v)) (Yt P E ops (Xg P E kp ops Q T (i+1) rest) [⟨d,.load t x,ty,pos,af,none⟩] ⟨τ,H⟩)
   (Z4x P kp t (AS.ev E ⟨τ,H⟩ x) (T.vs i) H (Xg P E kp ops Q T (i+1) rest (AS.put ⟨τ,H⟩ d (T.vs i)))):=by
 rfl
theorem Zxr(t:TypeId)(x y:Operand):Xg P E kp ops Q T i (⟨d,.store t x y,ty,pos,af,none⟩::rest) ⟨τ,H⟩=Yt P E ops (kpQ P kp (Xg P E kp ops Q T (i+1) rest)) [⟨d,.store t x y,ty,pos,af,none⟩] ⟨τ,H⟩:=Hv _ rfl rfl rfl
theorem Zlc(b:Builtin)(l:Array Operand)(a:Array TypeId):Xg P E kp ops Q T i (⟨d,.call ⟨.builtin b,l,a⟩,ty,pos,af,none⟩::rest) ⟨τ,H⟩=Yt P E ops (kpT P kp (match b with|.len|.max|.min=>true|_=>false) (Xg P E kp ops Q T (i+1) rest)) [⟨d,.call ⟨.builtin b,l,a⟩,ty,pos,af,none⟩] ⟨τ,H⟩:=by
 cases b
 case len=>exact Xz _ rfl rfl rfl
 case max=>exact Xz _ rfl rfl rfl
 case min=>exact Xz _ rfl rfl rfl
 all_goals exact Hv _ rfl rfl rfl
theorem Z2r(e:Nat)(t:TypeId):Xg P E kp ops Q T i (⟨some e,.alloc t,ty,pos,af,none⟩::rest) ⟨τ,H⟩=(H (E.q+e)=.dead/\Yt P E ops (Xg P E kp ops Q T (i+1) rest) [⟨some e,.alloc t,ty,pos,af,none⟩] ⟨τ,H⟩):=Q5 e _ rfl
theorem Zo6(e:Nat)(t:TypeId)(x:Operand):Xg P E kp ops Q T i (⟨some e,.box t x,ty,pos,af,none⟩::rest) ⟨τ,H⟩=(H (E.q+e)=.dead/\Yt P E ops (Xg P E kp ops Q T (i+1) rest) [⟨some e,.box t x,ty,pos,af,none⟩] ⟨τ,H⟩):=Q5 e _ rfl
theorem F4(e:Nat)(t:TypeId)(n:Nat)(x:Array (Nat×Operand)):Xg P E kp ops Q T i (⟨some e,.buildSlice t n x,ty,pos,af,none⟩::rest) ⟨τ,H⟩=(H (E.q+e)=.dead/\Yt P E ops (Xg P E kp ops Q T (i+1) rest) [⟨some e,.buildSlice t n x,ty,pos,af,none⟩] ⟨τ,H⟩):=Q5 e _ rfl
theorem D8(e:Nat)(t:TypeId)(x y:Operand):Xg P E kp ops Q T i (⟨some e,.makeSlice t x y,ty,pos,af,none⟩::rest) ⟨τ,H⟩=(H (E.q+e)=.dead/\Yt P E ops (Xg P E kp ops Q T (i+1) rest) [⟨some e,.makeSlice t x y,ty,pos,af,none⟩] ⟨τ,H⟩):=Q5 e _ rfl
theorem Zjc(e:Nat)(t:TypeId):Xg P E kp ops Q T i (⟨some e,.makeMap t none,ty,pos,af,none⟩::rest) ⟨τ,H⟩=(H (E.q+e)=.dead/\Yt P E ops (Xg P E kp ops Q T (i+1) rest) [⟨some e,.makeMap t none,ty,pos,af,none⟩] ⟨τ,H⟩):=Q5 e _ rfl
attribute[go_sem]Z5z Zej Z4z Z1r Z3z Zkc Ca D9 Zyr Z0r Am Al Z6z Zxr Zlc Z2r Zo6 F4 D8 Zjc
end
end
end
end Go.Hs
