/- A part. No condition. -/
import Derived.Test.YtegjlbpnpiigkaaGreatDoorP21
set_option linter.all false
namespace Go.Hs
section
variable{P:Program}{E:Ent}{kp:Kps}
def Zni(o:Oper):Bool:=
 match o.op with
 |.alloc _|.box .. |.buildSlice .. |.makeSlice .. => false
 |.load .. => false
 |.call { callee:=.value _,.. }=>false
 |_=>true
def Z2g(o:Oper):Bool:=
 match o.op with
 |.alloc _|.box .. |.buildSlice .. |.makeSlice .. => true
 |_=>false
def Z7p(P:Program)(E:Ent)(bor:Md)(v:V)(H:Heap)(f:V)(args:List V):Prop:=
 match f with
 |.func (.func fid) first cap=>(match bor with|.lend=>BorC P E.G fid (first++args++cap) H v|_=>Zw4 P E.G fid (first++args++cap) v)
 |_=>False
def mdK(m:Md)(A B:Prop):Prop:=match m with|.any=>B|.keep=>B|_=>A
@[congr] theorem mdK_congr{m m':Md}{A B:Prop}(h:m=m'):mdK m A B=mdK m' A B:=by rw[h]
theorem Zyba(A B:Prop):mdK .pure A B=A:=rfl
theorem Zzba(A B:Prop):mdK .lend A B=A:=rfl
theorem Zav(A B:Prop):mdK .any A B=B:=rfl
theorem Zwo(A B:Prop):mdK .keep A B=B:=rfl
attribute[go_sem]Zyba Zzba Zav Zwo
def borA(T:Told)(i:Nat):Md:=T.bor i
@[go_sem] theorem borA_mk(f:Nat->V)(g:Nat->Md)(i:Nat):borA ⟨f,g⟩ i=g i:=rfl
def ldK(m:Md)(A B C:Prop):Prop:=match m with|.lend=>A|.keep=>C|_=>B
@[congr] theorem ldK_congr{m m':Md}{A B C:Prop}(h:m=m'):ldK m A B C=ldK m' A B C:=by rw[h]
theorem Zyo(A B C:Prop):ldK .pure A B C=B:=rfl
theorem Zzo(A B C:Prop):ldK .lend A B C=A:=rfl
theorem Zdv(A B C:Prop):ldK .any A B C=B:=rfl
theorem Z0o(A B C:Prop):ldK .keep A B C=C:=rfl
attribute[go_sem]Zyo Zzo Zdv Z0o
def kpA(P:Program)(kp:Kps)(H:Heap)(A:Prop):Prop:=match kp with|[]=>A|p::r=>(Zfb P H p.1 p.2.1=some p.2.2/\kpA P r H A)
@[go_sem] theorem kpA_nil(H:Heap)(A:Prop):kpA P [] H A=A:=rfl
@[go_sem] theorem Zdca(p:TypeId×V×V)(r:Kps)(H:Heap)(A:Prop):kpA P (p::r) H A=(Zfb P H p.1 p.2.1=some p.2.2/\kpA P r H A):=rfl
theorem Zd7:∀ {kp:Kps} {H:Heap} {A:Prop},kpA P kp H A↔KpH P kp H/\A
 |[],H,A=>⟨λh=>⟨λp hp=>(by cases hp),h⟩,λh=>h.2⟩
 |p::r,H,A=>by
  rw[Zdca,Zd7]
  constructor
  rintro⟨h1,h2,h3⟩;refine⟨λq hq=>?_,h3⟩
  rcases List.mem_cons.1 hq with rfl|hq
  exact h1;exact h2 q hq;rintro⟨h1,h2⟩;exact⟨h1 p (List.mem_cons_self ..),λq hq=>h1 q (List.mem_cons_of_mem _ hq),h2⟩
def kpQ(P:Program)(kp:Kps)(Q:AS->Prop):AS->Prop:=λs=>kpA P kp s.H (Q s)
@[go_sem] theorem kpQ_nil(Q:AS->Prop):kpQ P [] Q=Q:=rfl
@[go_sem] theorem kpQ_cons(p:TypeId×V×V)(r:Kps)(Q:AS->Prop)(τ : Nat->V)(H:Heap):kpQ P (p::r) Q ⟨τ,H⟩=(Zfb P H p.1 p.2.1=some p.2.2/\kpA P r H (Q ⟨τ,H⟩)):=rfl
theorem Zsi{kp:Kps}{Q:AS->Prop}{s:AS}{H:Heap}{d:Option Nat}{v:V}:kpQ P kp Q (AS.put { s with H:=H } d v)↔KpH P kp H/\Q (AS.put { s with H:=H } d v):=by
 unfold kpQ;rw[Zgc];exact Zd7
def kpT(P:Program)(kp:Kps)(b:Bool)(Q:AS->Prop):AS->Prop:=match b with|true=>Q|false=>kpQ P kp Q
@[go_sem] theorem kpT_true(Q:AS->Prop):kpT P kp true Q=Q:=rfl
@[go_sem] theorem kpT_false(Q:AS->Prop):kpT P kp false Q=kpQ P kp Q:=rfl
def Zfca(P:Program)(kp:Kps)(t:TypeId)(a v:V)(H:Heap)(A:Prop):Prop:=((t,a,v)∈kp/\KpH P kp H)/\A
theorem Zjh(t:TypeId)(a:V):Zfb P Zk t a=Zkb P t a:=by
 unfold Zfb
 cases a<;>first|rfl|(simp[Zkb,Zk])
def Zcj(o:Oper):Bool:=
 match o.op with
 |.move _|.assign _|.pick .. |.binOp .. |.unOp .. |.convert .. |.extract .. |.field .. |.build .. |.fieldAddr .. |.indexAddr .. |.index .. |.slice .. |.makeFunc .. |.makeInterface .. |.nilCheck _|.lookup .. |.typeAssert .. => true
 |.alloc _|.box .. |.buildSlice .. |.makeSlice .. => true
 |.call { callee:=.builtin .len,.. }=>true
 |.call { callee:=.builtin .max,.. }=>true
 |.call { callee:=.builtin .min,.. }=>true
 |_=>false
def kpB(P:Program)(kp:Kps)(b:Bool)(Q:AS->Prop)(s:AS):Prop:=match b with|true=>Q s|false=>kpQ P kp Q s
def Zac(P:Program)(E:Ent)(kp:Kps)(ops:Array Oper)(Q:AS->Prop)(T:Told):Nat->List Oper->AS->Prop
 |_,[],s=>Q s
 |i,o::rest,s=>Zyf (Zw ops s.τ o) (Zac P E kp ops Q T (i+1) rest (s.put o.dst (.tuple [])))
   (match o.op with
    |.call { callee:=.value f,args,.. }=>mdK (T.bor i) (Z7p P E (T.bor i) (T.vs i) s.H (s.ev E f) (args.toList.map (s.ev E))/\Zac P E kp ops Q T (i+1) rest (s.put o.dst (T.vs i)))
      (Zda P E s o λv H'=>kpQ P kp (Zac P E kp ops Q T (i+1) rest) (AS.put { s with H:=H' } o.dst v))
    |.load t x=>ldK (T.bor i) (Zmq (Zfb P Zk t (s.ev E x)) λv=>Zac P E kp ops Q T (i+1) rest (s.put o.dst v)) (Zda P E s o λv H'=>Zac P E kp ops Q T (i+1) rest (AS.put { s with H:=H' } o.dst v))
      (Zfca P kp t (s.ev E x) (T.vs i) s.H (Zac P E kp ops Q T (i+1) rest (s.put o.dst (T.vs i))))
    |_=>(Z2g o=true->∃ d,o.dst=some d/\s.H (E.q+d)=.dead)/\Zda P E s o λv H'=>kpB P kp (Zcj o) (Zac P E kp ops Q T (i+1) rest) (AS.put { s with H:=H' } o.dst v))
theorem Zqq{ops:Array Oper}{Q:AS->Prop}{T:Told}:∀ (l:List Oper) (k:Nat) (s:AS),(∀ j,l[j]?=ops[k+j]?)->Zac P E kp ops Q T k l s ->
  Zum P E kp ops T Q ((List.range l.length).map (k + ·)) s
 |[],k,s,_,h=>h
 |o::rest,k,s,hl,h=>by
  have hk:ops[k]?=some o:=by have:=hl 0;simpa using this.symm
  have hl':∀ j,rest[j]?=ops[k+1+j]? := λj=>by have:=hl (j+1);rw[show k+1+j=k+(j+1) by omega];simpa using this
  have hrange:(List.range (o::rest).length).map (k + ·)=k::(List.range rest.length).map (k+1 + ·):=by
   simp only[List.length_cons,List.range_succ_eq_map,List.map_cons,Nat.add_zero,List.map_map]
   congr 1
   apply List.map_congr_left;intro j _;simp;omega
  have ih:∀ s',Zac P E kp ops Q T (k+1) rest s'->Zum P E kp ops T Q ((List.range rest.length).map (k+1 + ·)) s':=λs'=>Zqq rest (k+1) s' hl';rw[hrange];simp only[Zum,hk];unfold stD;simp only[Zac]at h
  cases hw:Zw ops s.τ o with
  |none=>rw[hw]at h;exact h.elim
  |some b=>
   rw[hw]at h
   cases b with
   |false=>exact ih _ h
   |true=>
    simp only[Zyf]at h⊢
    split at h
    .rename_i f args ats hop
     obtain⟨dst,op,type,pos,after,guard⟩:=o;simp only at hop;subst hop
     cases hb:T.bor k with
     |any=>
      rw[hb,Zav]at h;have h2':=Zla (K':=λu H'=>KpH P kp H'/\Zum P E kp ops T Q ((List.range rest.length).map (k+1 + ·)) (AS.put { s with H:=H' } dst u)) (λv H' hk'=>(Zsi.1 hk').imp id (ih _)) h;unfold Zhb;exact h2'
     |keep=>
      rw[hb,Zwo]at h;have h2':=Zla (K':=λu H'=>KpH P kp H'/\Zum P E kp ops T Q ((List.range rest.length).map (k+1 + ·)) (AS.put { s with H:=H' } dst u)) (λv H' hk'=>(Zsi.1 hk').imp id (ih _)) h;unfold Zhb;exact h2'
     |lend=>
      rw[hb]at h;obtain⟨h1,h2⟩:=h;unfold Z7p at h1;unfold Zhb
      split at h1
      rename_i fid first cap hf;simp only[Z5,hf];exact⟨h1,ih _ h2⟩;exact h1.elim
     |pure=>
      rw[hb]at h;obtain⟨h1,h2⟩:=h;unfold Z7p at h1;unfold Zhb
      split at h1
      rename_i fid first cap hf;simp only[Z5,hf];exact⟨h1,ih _ h2⟩;exact h1.elim
    .rename_i t x hop
     obtain⟨dst,op,type,pos,after,guard⟩:=o;simp only at hop;subst hop
     cases hb:T.bor k with
     |lend=>
      rw[hb,Zzo,Zjh]at h;unfold Zhb;simp only[Z5,Z1o]
      cases hv:Zkb P t (s.ev E x)with
      |none=>rw[hv]at h;exact h.elim
      |some u=>rw[hv]at h;exact ih _ h
     |keep=>
      rw[hb,Z0o]at h;unfold Zhb;simp only[Z5,Z1o];exact⟨h.1,ih _ h.2⟩
     |pure=>
      rw[hb,Zyo]at h;have h2':=Zla (λv H' hk'=>ih _ hk') h;unfold Zhb;exact h2'
     |any=>
      rw[hb,Zdv]at h;have h2':=Zla (λv H' hk'=>ih _ hk') h;unfold Zhb;exact h2'
    .rename_i hne hnl
     obtain⟨h1,h2⟩:=h
     have tame:Zcj o=true->Zda P E s o λv H'=>Zum P E kp ops T Q ((List.range rest.length).map (k+1 + ·)) (AS.put { s with H:=H' } o.dst v):=λht=>
      Zla (λv H' hk'=>ih _ (by rw[ht]at hk';exact hk')) h2
     have wild:Zcj o=false->Zda P E s o λv H'=>KpH P kp H'/\Zum P E kp ops T Q ((List.range rest.length).map (k+1 + ·)) (AS.put { s with H:=H' } o.dst v):=λht=>
      Zla (λv H' hk'=>(by rw[ht]at hk';exact(Zsi.1 hk').imp id (ih _))) h2
     obtain⟨dst,op,type,pos,after,guard⟩:=o;unfold Zhb
     cases op<;>try(first|exact tame rfl|exact wild rfl|exact absurd rfl (hnl _ _))
     obtain⟨d,hd,hdead⟩:=h1 rfl;simp only at hd;subst hd;exact⟨hdead,tame rfl⟩;obtain⟨d,hd,hdead⟩:=h1 rfl;simp only at hd;subst hd;exact⟨hdead,tame rfl⟩;obtain⟨d,hd,hdead⟩:=h1 rfl;simp only at hd;subst hd;exact⟨hdead,tame rfl⟩;obtain⟨d,hd,hdead⟩:=h1 rfl;simp only at hd;subst hd;exact⟨hdead,tame rfl⟩
     .rename_i c
      obtain⟨callee,args,ats⟩:=c
      cases callee with
      |value f=>exact absurd rfl (hne f args ats)
      |invoke r m=>exact wild rfl
      |builtin b=>cases b<;>first|exact tame rfl|exact wild rfl
theorem Z0e{id:Nat}{ops:Array Oper}{Q:Exit->AS->Prop}{s:AS}(kp:Kps)(T:Told)(hm:P.follows .mixedOrders=true)(hG:GOk E.G)(hd:(ops.all (Zkd E.n))=true)
  (hok:Zbn ops T.bor 0 ops.toList=true) (h:Zac P E kp ops (Q .normal) T 0 ops.toList s):AW P E (.region id ops true) Q s:=by
 refine Z14 hm hG kp T hd hok ?_;have:=Zqq (P:=P) (E:=E) ops.toList 0 s (λj=>zS) h;simpa using this
theorem Zv{id:Nat}{ops:Array Oper}{Q:Exit->AS->Prop}{s:AS}(T:Told)(hm:P.follows .mixedOrders=true)(hG:GOk E.G)(hd:(ops.all (Zkd E.n))=true)
  (hok:Zbn ops T.bor 0 ops.toList=true) (h:Zac P E [] ops (Q .normal) T 0 ops.toList s):AW P E (.region id ops true) Q s:=Z0e [] T hm hG hd hok h
section
variable{ops:Array Oper}{Q:AS->Prop}{T:Told}{rest:List Oper}{τ : Nat->V}{H:Heap}{d:Option Nat}{ty:TypeId}{pos:String}{af:Array Edge}{i:Nat}
theorem Zoba(s:AS):Zac P E kp ops Q T i [] s=Q s:=rfl
theorem Zj1(l:List Oper)(op:Op)(j:Nat)(want:Bool):
  Zac P E kp ⟨l⟩ Q T i (⟨d,op,ty,pos,af,some (j,want)⟩::rest) ⟨τ,H⟩ =
   Zyf (Z5g ((Zlh l j).map τ) want) (Zac P E kp ⟨l⟩ Q T (i+1) rest (AS.put ⟨τ,H⟩ d (.tuple []))) (Zac P E kp ⟨l⟩ Q T i (⟨d,op,ty,pos,af,none⟩::rest) ⟨τ,H⟩):=by
 have e2:Zw ⟨l⟩ τ ⟨d,op,ty,pos,af,some (j,want)⟩=Z5g ((Zlh l j).map τ) want:=by
  unfold Zw Zlh;simp only[List.getElem?_toArray]
  cases(l[j]?).bind (·.dst)with
  |none=>rfl
  |some e=>
   simp only[Option.map_some,Z5g,Znl];generalize τ e=v
   cases v<;>rfl
 simp only[Zac];rw[e2];rfl
theorem Zl6(f:Operand)(l:List Operand)(ats:Array TypeId):Zac P E kp ops Q T i (⟨d,.call ⟨.value f,⟨l⟩,ats⟩,ty,pos,af,none⟩::rest) ⟨τ,H⟩ =
  mdK (borA T i) (Z7p P E (T.bor i) (T.vs i) H (AS.ev E ⟨τ,H⟩ f) (l.map (AS.ev E ⟨τ,H⟩))/\Zac P E kp ops Q T (i+1) rest (AS.put ⟨τ,H⟩ d (T.vs i)))
   (Zqa P E ops (kpQ P kp (Zac P E kp ops Q T (i+1) rest)) [⟨d,.call ⟨.value f,⟨l⟩,ats⟩,ty,pos,af,none⟩] ⟨τ,H⟩):=by
 rw[Zsb];rfl
theorem Zi0(v:V)(fid:FuncId)(first cap args:List V):Z7p P E .pure v H (.func (.func fid) first cap) args=Zw4 P E.G fid (first++args++cap) v:=rfl
theorem Zj0(v:V)(fid:FuncId)(first cap args:List V):Z7p P E .lend v H (.func (.func fid) first cap) args=BorC P E.G fid (first++args++cap) H v:=rfl
attribute[go_sem]Zoba Zj1 Zl6 Zi0 Zj0
def Z0z(o:Option V)(K:V->Prop):Prop:=Zmq o K
@[go_sem] theorem contV2_some(v:V)(K:V->Prop):Z0z (some v) K=K v:=rfl
@[congr] theorem Zsda{o o':Option V}{K:V->Prop}(h:o=o'):Z0z o K=Z0z o' K:=by rw[h]
theorem Zsa(o:Oper)(hg:o.guard=none)(hp:Zni o=true)(ht:Zcj o=true):Zac P E kp ops Q T i (o::rest) ⟨τ,H⟩=Zqa P E ops (Zac P E kp ops Q T (i+1) rest) [o] ⟨τ,H⟩:=by
 obtain⟨dst,op,type,pos,after,guard⟩:=o;simp only at hg;subst hg;rw[Zsb];simp only[Zac,Zso];have hw:Zw ops τ ⟨dst,op,type,pos,after,none⟩=some true:=rfl;rw[hw,Z3d];rw[ht]
 cases op<;>first
  |(simp only[Z2g,kpB,Bool.false_eq_true,false_implies,true_and];done)
  |(simp[Zni]at hp;done)
  |skip
 all_goals first|(cases hp;done)|skip
 rename_i c;obtain⟨callee,args,ats⟩:=c
 cases callee<;>simp[Z2g,kpB,Zni]at hp⊢
theorem Znq(o:Oper)(hg:o.guard=none)(hp:Zni o=true)(ht:Zcj o=false):Zac P E kp ops Q T i (o::rest) ⟨τ,H⟩=Zqa P E ops (kpQ P kp (Zac P E kp ops Q T (i+1) rest)) [o] ⟨τ,H⟩:=by
 obtain⟨dst,op,type,pos,after,guard⟩:=o;simp only at hg;subst hg;rw[Zsb];simp only[Zac,Zso];have hw:Zw ops τ ⟨dst,op,type,pos,after,none⟩=some true:=rfl;rw[hw,Z3d,ht]
 cases op<;>first
  |(simp only[Z2g,kpB,Bool.false_eq_true,false_implies,true_and];done)
  |(simp[Zni]at hp;done)
  |skip
 all_goals first|(cases hp;done)|skip
 rename_i c;obtain⟨callee,args,ats⟩:=c
 cases callee<;>simp[Z2g,kpB,Zni]at hp⊢
theorem Zpn(e:Nat)(op:Op)(hp:Z2g ⟨some e,op,ty,pos,af,none⟩=true):Zac P E kp ops Q T i (⟨some e,op,ty,pos,af,none⟩::rest) ⟨τ,H⟩ =
  (H (E.q+e)=.dead/\Zqa P E ops (Zac P E kp ops Q T (i+1) rest) [⟨some e,op,ty,pos,af,none⟩] ⟨τ,H⟩):=by
 rw[Zsb];simp only[Zac,Zso];have hw:Zw ops τ ⟨some e,op,ty,pos,af,none⟩=some true:=rfl;rw[hw,Z3d]
 cases op<;>simp[Z2g,kpB,Zcj]at hp⊢
section
theorem Zj6(x:Operand):Zac P E kp ops Q T i (⟨d,.move x,ty,pos,af,none⟩::rest) ⟨τ,H⟩=Zqa P E ops (Zac P E kp ops Q T (i+1) rest) [⟨d,.move x,ty,pos,af,none⟩] ⟨τ,H⟩:=Zsa _ rfl rfl rfl
theorem Z4u(x:Operand):Zac P E kp ops Q T i (⟨d,.assign x,ty,pos,af,none⟩::rest) ⟨τ,H⟩=Zqa P E ops (Zac P E kp ops Q T (i+1) rest) [⟨d,.assign x,ty,pos,af,none⟩] ⟨τ,H⟩:=Zsa _ rfl rfl rfl
theorem Zi6(x y z:Operand):Zac P E kp ops Q T i (⟨d,.pick x y z,ty,pos,af,none⟩::rest) ⟨τ,H⟩=Zqa P E ops (Zac P E kp ops Q T (i+1) rest) [⟨d,.pick x y z,ty,pos,af,none⟩] ⟨τ,H⟩:=Zsa _ rfl rfl rfl
theorem Zl1(o:BinOp)(t:TypeId)(x y:Operand)(u:TypeId):Zac P E kp ops Q T i (⟨d,.binOp o t x y u,ty,pos,af,none⟩::rest) ⟨τ,H⟩=Zqa P E ops (Zac P E kp ops Q T (i+1) rest) [⟨d,.binOp o t x y u,ty,pos,af,none⟩] ⟨τ,H⟩:=Zsa _ rfl rfl rfl
theorem Zh6(o:UnOp)(t:TypeId)(x:Operand):Zac P E kp ops Q T i (⟨d,.unOp o t x,ty,pos,af,none⟩::rest) ⟨τ,H⟩=Zqa P E ops (Zac P E kp ops Q T (i+1) rest) [⟨d,.unOp o t x,ty,pos,af,none⟩] ⟨τ,H⟩:=Zsa _ rfl rfl rfl
theorem Zoq(x:Operand)(n:Nat):Zac P E kp ops Q T i (⟨d,.extract x n,ty,pos,af,none⟩::rest) ⟨τ,H⟩=Zqa P E ops (Zac P E kp ops Q T (i+1) rest) [⟨d,.extract x n,ty,pos,af,none⟩] ⟨τ,H⟩:=Zsa _ rfl rfl rfl
theorem Ztm(t:TypeId)(x:Operand)(n:Nat):Zac P E kp ops Q T i (⟨d,.fieldAddr t x n,ty,pos,af,none⟩::rest) ⟨τ,H⟩=Zqa P E ops (Zac P E kp ops Q T (i+1) rest) [⟨d,.fieldAddr t x n,ty,pos,af,none⟩] ⟨τ,H⟩:=Zsa _ rfl rfl rfl
theorem Zsm(t:TypeId)(x y:Operand):Zac P E kp ops Q T i (⟨d,.indexAddr t x y,ty,pos,af,none⟩::rest) ⟨τ,H⟩=Zqa P E ops (Zac P E kp ops Q T (i+1) rest) [⟨d,.indexAddr t x y,ty,pos,af,none⟩] ⟨τ,H⟩:=Zsa _ rfl rfl rfl
theorem Zi1(t:TypeId)(x:Operand)(a b c:Option Operand):Zac P E kp ops Q T i (⟨d,.slice t x a b c,ty,pos,af,none⟩::rest) ⟨τ,H⟩=Zqa P E ops (Zac P E kp ops Q T (i+1) rest) [⟨d,.slice t x a b c,ty,pos,af,none⟩] ⟨τ,H⟩:=Zsa _ rfl rfl rfl
theorem Zk1(t:TypeId)(x:Array (Nat×Operand)):Zac P E kp ops Q T i (⟨d,.build t x,ty,pos,af,none⟩::rest) ⟨τ,H⟩=Zqa P E ops (Zac P E kp ops Q T (i+1) rest) [⟨d,.build t x,ty,pos,af,none⟩] ⟨τ,H⟩:=Zsa _ rfl rfl rfl
theorem Zqo(x:Operand):Zac P E kp ops Q T i (⟨d,.nilCheck x,ty,pos,af,none⟩::rest) ⟨τ,H⟩=Zqa P E ops (Zac P E kp ops Q T (i+1) rest) [⟨d,.nilCheck x,ty,pos,af,none⟩] ⟨τ,H⟩:=Zsa _ rfl rfl rfl
theorem Zk6(t:TypeId)(x:Operand):Zac P E kp ops Q T i (⟨d,.load t x,ty,pos,af,none⟩::rest) ⟨τ,H⟩ =
  ldK (borA T i) (Z0z (Zfb P Zk t (AS.ev E ⟨τ,H⟩ x)) λv=>Zac P E kp ops Q T (i+1) rest (AS.put ⟨τ,H⟩ d v)) (Zqa P E ops (Zac P E kp ops Q T (i+1) rest) [⟨d,.load t x,ty,pos,af,none⟩] ⟨τ,H⟩)
   (Zfca P kp t (AS.ev E ⟨τ,H⟩ x) (T.vs i) H (Zac P E kp ops Q T (i+1) rest (AS.put ⟨τ,H⟩ d (T.vs i)))):=by
 rw[Zsb];rfl
theorem Zh1(t:TypeId)(x y:Operand):Zac P E kp ops Q T i (⟨d,.store t x y,ty,pos,af,none⟩::rest) ⟨τ,H⟩=Zqa P E ops (kpQ P kp (Zac P E kp ops Q T (i+1) rest)) [⟨d,.store t x y,ty,pos,af,none⟩] ⟨τ,H⟩:=Znq _ rfl rfl rfl
theorem Zpq(b:Builtin)(l:Array Operand)(ats:Array TypeId):Zac P E kp ops Q T i (⟨d,.call ⟨.builtin b,l,ats⟩,ty,pos,af,none⟩::rest) ⟨τ,H⟩=Zqa P E ops (kpT P kp (match b with|.len|.max|.min=>true|_=>false) (Zac P E kp ops Q T (i+1) rest)) [⟨d,.call ⟨.builtin b,l,ats⟩,ty,pos,af,none⟩] ⟨τ,H⟩:=by
 cases b
 case len=>exact Zsa _ rfl rfl rfl
 case max=>exact Zsa _ rfl rfl rfl
 case min=>exact Zsa _ rfl rfl rfl
 all_goals exact Znq _ rfl rfl rfl
theorem Zm1(e:Nat)(t:TypeId):Zac P E kp ops Q T i (⟨some e,.alloc t,ty,pos,af,none⟩::rest) ⟨τ,H⟩=(H (E.q+e)=.dead/\Zqa P E ops (Zac P E kp ops Q T (i+1) rest) [⟨some e,.alloc t,ty,pos,af,none⟩] ⟨τ,H⟩):=Zpn e _ rfl
theorem Zal(e:Nat)(t:TypeId)(n:Nat)(x:Array (Nat×Operand)):Zac P E kp ops Q T i (⟨some e,.buildSlice t n x,ty,pos,af,none⟩::rest) ⟨τ,H⟩=(H (E.q+e)=.dead/\Zqa P E ops (Zac P E kp ops Q T (i+1) rest) [⟨some e,.buildSlice t n x,ty,pos,af,none⟩] ⟨τ,H⟩):=Zpn e _ rfl
attribute[go_sem]Zj6 Z4u Zi6 Zl1 Zh6 Zoq Ztm Zsm Zi1 Zk1 Zqo Zk6 Zh1 Zpq Zm1 Zal
end
end
end
end Go.Hs
