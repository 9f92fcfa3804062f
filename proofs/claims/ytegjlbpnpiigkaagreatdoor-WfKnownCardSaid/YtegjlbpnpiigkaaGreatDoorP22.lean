/- A part. No condition. -/
import Derived.Test.YtegjlbpnpiigkaaGreatDoorP21
set_option linter.all false
namespace Go.Hs
section
variable{P:Program}{E:Ent}{kp:Kps}
def Zul(o:Oper):Bool:=
 match o.op with
 |.alloc _|.box .. |.buildSlice .. |.makeSlice .. => false
 |.load .. => false
 |.call { callee:=.value _,.. }=>false
 |_=>true
def Zsj(o:Oper):Bool:=
 match o.op with
 |.alloc _|.box .. |.buildSlice .. |.makeSlice .. => true
 |_=>false
def Zev(P:Program)(E:Ent)(bor:Md)(v:V)(H:Heap)(f:V)(args:List V):Prop:=
 match f with
 |.func (.func fid) first cap=>(match bor with|.lend=>BorC P E.G fid (first++args++cap) H v|_=>Z7i P E.G fid (first++args++cap) v)
 |_=>False
def mdK(m:Md)(A B:Prop):Prop:=match m with|.any=>B|.keep=>B|_=>A
@[congr] theorem mdK_congr{m m':Md}{A B:Prop}(h:m=m'):mdK m A B=mdK m' A B:=by rw[h]
theorem Zjna(A B:Prop):mdK .pure A B=A:=rfl
theorem Zkna(A B:Prop):mdK .lend A B=A:=rfl
theorem Zm2(A B:Prop):mdK .any A B=B:=rfl
theorem Zrt(A B:Prop):mdK .keep A B=B:=rfl
attribute[go_sem]Zjna Zkna Zm2 Zrt
def borA(T:Told)(i:Nat):Md:=T.bor i
@[go_sem] theorem borA_mk(f:Nat->V)(g:Nat->Md)(i:Nat):borA ⟨f,g⟩ i=g i:=rfl
def ldK(m:Md)(A B C:Prop):Prop:=match m with|.lend=>A|.keep=>C|_=>B
@[congr] theorem ldK_congr{m m':Md}{A B C:Prop}(h:m=m'):ldK m A B C=ldK m' A B C:=by rw[h]
theorem Zst(A B C:Prop):ldK .pure A B C=B:=rfl
theorem Ztt(A B C:Prop):ldK .lend A B C=A:=rfl
theorem Zr2(A B C:Prop):ldK .any A B C=B:=rfl
theorem Zut(A B C:Prop):ldK .keep A B C=C:=rfl
attribute[go_sem]Zst Ztt Zr2 Zut
def kpA(P:Program)(kp:Kps)(H:Heap)(A:Prop):Prop:=match kp with|[]=>A|p::r=>(Z9b P H p.1 p.2.1=some p.2.2/\kpA P r H A)
@[go_sem] theorem kpA_nil(H:Heap)(A:Prop):kpA P [] H A=A:=rfl
@[go_sem] theorem Zzna(p:TypeId×V×V)(r:Kps)(H:Heap)(A:Prop):kpA P (p::r) H A=(Z9b P H p.1 p.2.1=some p.2.2/\kpA P r H A):=rfl
theorem Zeia:∀ {kp:Kps} {H:Heap} {A:Prop},kpA P kp H A↔KpH P kp H/\A
 |[],H,A=>⟨λh=>⟨λp hp=>(by cases hp),h⟩,λh=>h.2⟩
 |p::r,H,A=>by
  rw[Zzna,Zeia]
  constructor
  rintro⟨h1,h2,h3⟩;refine⟨λq hq=>?_,h3⟩
  rcases List.mem_cons.1 hq with rfl|hq
  exact h1;exact h2 q hq;rintro⟨h1,h2⟩;exact⟨h1 p (List.mem_cons_self ..),λq hq=>h1 q (List.mem_cons_of_mem _ hq),h2⟩
def kpQ(P:Program)(kp:Kps)(Q:AS->Prop):AS->Prop:=λs=>kpA P kp s.H (Q s)
@[go_sem] theorem kpQ_nil(Q:AS->Prop):kpQ P [] Q=Q:=rfl
@[go_sem] theorem kpQ_cons(p:TypeId×V×V)(r:Kps)(Q:AS->Prop)(τ : Nat->V)(H:Heap):kpQ P (p::r) Q ⟨τ,H⟩=(Z9b P H p.1 p.2.1=some p.2.2/\kpA P r H (Q ⟨τ,H⟩)):=rfl
theorem Z5l{kp:Kps}{Q:AS->Prop}{s:AS}{H:Heap}{d:Option Nat}{v:V}:kpQ P kp Q (AS.put { s with H:=H } d v)↔KpH P kp H/\Q (AS.put { s with H:=H } d v):=by
 unfold kpQ;rw[Zid];exact Zeia
def kpT(P:Program)(kp:Kps)(b:Bool)(Q:AS->Prop):AS->Prop:=match b with|true=>Q|false=>kpQ P kp Q
@[go_sem] theorem kpT_true(Q:AS->Prop):kpT P kp true Q=Q:=rfl
@[go_sem] theorem kpT_false(Q:AS->Prop):kpT P kp false Q=kpQ P kp Q:=rfl
def Z1na(P:Program)(kp:Kps)(t:TypeId)(a v:V)(H:Heap)(A:Prop):Prop:=((t,a,v)∈kp/\KpH P kp H)/\A
theorem Z9j(t:TypeId)(a:V):Z9b P Zk t a=Zjc P t a:=by
 unfold Z9b
 cases a<;>first|rfl|(simp[Zjc,Zk])
def Zrm(o:Oper):Bool:=
 match o.op with
 |.move _|.assign _|.pick .. |.binOp .. |.unOp .. |.convert .. |.extract .. |.field .. |.build .. |.fieldAddr .. |.indexAddr .. |.index .. |.slice .. |.makeFunc .. |.makeInterface .. |.nilCheck _|.lookup .. |.typeAssert .. => true
 |.alloc _|.box .. |.buildSlice .. |.makeSlice .. => true
 |.call { callee:=.builtin .len,.. }=>true
 |.call { callee:=.builtin .max,.. }=>true
 |.call { callee:=.builtin .min,.. }=>true
 |_=>false
def kpB(P:Program)(kp:Kps)(b:Bool)(Q:AS->Prop)(s:AS):Prop:=match b with|true=>Q s|false=>kpQ P kp Q s
def Zbd(P:Program)(E:Ent)(kp:Kps)(ops:Array Oper)(Q:AS->Prop)(T:Told):Nat->List Oper->AS->Prop
 |_,[],s=>Q s
 |i,o::rest,s=>Z0h (Zaa ops s.τ o) (Zbd P E kp ops Q T (i+1) rest (s.put o.dst (.tuple [])))
   (match o.op with
    |.call { callee:=.value f,args,.. }=>mdK (T.bor i) (Zev P E (T.bor i) (T.vs i) s.H (s.ev E f) (args.toList.map (s.ev E))/\Zbd P E kp ops Q T (i+1) rest (s.put o.dst (T.vs i)))
      (Zwa P E s o λv H'=>kpQ P kp (Zbd P E kp ops Q T (i+1) rest) (AS.put { s with H:=H' } o.dst v))
    |.load t x=>ldK (T.bor i) (Z6r (Z9b P Zk t (s.ev E x)) λv=>Zbd P E kp ops Q T (i+1) rest (s.put o.dst v)) (Zwa P E s o λv H'=>Zbd P E kp ops Q T (i+1) rest (AS.put { s with H:=H' } o.dst v))
      (Z1na P kp t (s.ev E x) (T.vs i) s.H (Zbd P E kp ops Q T (i+1) rest (s.put o.dst (T.vs i))))
    |_=>(Zsj o=true->∃ d,o.dst=some d/\s.H (E.q+d)=.dead)/\Zwa P E s o λv H'=>kpB P kp (Zrm o) (Zbd P E kp ops Q T (i+1) rest) (AS.put { s with H:=H' } o.dst v))
theorem Zcw{ops:Array Oper}{Q:AS->Prop}{T:Told}:∀ (l:List Oper) (k:Nat) (s:AS),(∀ j,l[j]?=ops[k+j]?)->Zbd P E kp ops Q T k l s ->
  Z9q P E kp ops T Q ((List.range l.length).map (k + ·)) s
 |[],k,s,_,h=>h
 |o::rest,k,s,hl,h=>by
  have hk:ops[k]?=some o:=by have:=hl 0;simpa using this.symm
  have hl':∀ j,rest[j]?=ops[k+1+j]? := λj=>by have:=hl (j+1);rw[show k+1+j=k+(j+1) by omega];simpa using this
  have hrange:(List.range (o::rest).length).map (k + ·)=k::(List.range rest.length).map (k+1 + ·):=by
   simp only[List.length_cons,List.range_succ_eq_map,List.map_cons,Nat.add_zero,List.map_map]
   congr 1
   apply List.map_congr_left;intro j _;simp;omega
  have ih:∀ s',Zbd P E kp ops Q T (k+1) rest s'->Z9q P E kp ops T Q ((List.range rest.length).map (k+1 + ·)) s':=λs'=>Zcw rest (k+1) s' hl';rw[hrange];simp only[Z9q,hk];unfold stD;simp only[Zbd]at h
  cases hw:Zaa ops s.τ o with
  |none=>rw[hw]at h;exact h.elim
  |some b=>
   rw[hw]at h
   cases b with
   |false=>exact ih _ h
   |true=>
    simp only[Z0h]at h⊢
    split at h
    .rename_i f args ats hop
     obtain⟨dst,op,type,pos,after,guard⟩:=o;simp only at hop;subst hop
     cases hb:T.bor k with
     |any=>
      rw[hb,Zm2]at h;have h2':=Z6a (K':=λu H'=>KpH P kp H'/\Z9q P E kp ops T Q ((List.range rest.length).map (k+1 + ·)) (AS.put { s with H:=H' } dst u)) (λv H' hk'=>(Z5l.1 hk').imp id (ih _)) h;unfold Zbc;exact h2'
     |keep=>
      rw[hb,Zrt]at h;have h2':=Z6a (K':=λu H'=>KpH P kp H'/\Z9q P E kp ops T Q ((List.range rest.length).map (k+1 + ·)) (AS.put { s with H:=H' } dst u)) (λv H' hk'=>(Z5l.1 hk').imp id (ih _)) h;unfold Zbc;exact h2'
     |lend=>
      rw[hb]at h;obtain⟨h1,h2⟩:=h;unfold Zev at h1;unfold Zbc
      split at h1
      rename_i fid first cap hf;simp only[Zka,hf];exact⟨h1,ih _ h2⟩;exact h1.elim
     |pure=>
      rw[hb]at h;obtain⟨h1,h2⟩:=h;unfold Zev at h1;unfold Zbc
      split at h1
      rename_i fid first cap hf;simp only[Zka,hf];exact⟨h1,ih _ h2⟩;exact h1.elim
    .rename_i t x hop
     obtain⟨dst,op,type,pos,after,guard⟩:=o;simp only at hop;subst hop
     cases hb:T.bor k with
     |lend=>
      rw[hb,Ztt,Z9j]at h;unfold Zbc;simp only[Zka,Zvt]
      cases hv:Zjc P t (s.ev E x)with
      |none=>rw[hv]at h;exact h.elim
      |some u=>rw[hv]at h;exact ih _ h
     |keep=>
      rw[hb,Zut]at h;unfold Zbc;simp only[Zka,Zvt];exact⟨h.1,ih _ h.2⟩
     |pure=>
      rw[hb,Zst]at h;have h2':=Z6a (λv H' hk'=>ih _ hk') h;unfold Zbc;exact h2'
     |any=>
      rw[hb,Zr2]at h;have h2':=Z6a (λv H' hk'=>ih _ hk') h;unfold Zbc;exact h2'
    .rename_i hne hnl
     obtain⟨h1,h2⟩:=h
     have tame:Zrm o=true->Zwa P E s o λv H'=>Z9q P E kp ops T Q ((List.range rest.length).map (k+1 + ·)) (AS.put { s with H:=H' } o.dst v):=λht=>
      Z6a (λv H' hk'=>ih _ (by rw[ht]at hk';exact hk')) h2
     have wild:Zrm o=false->Zwa P E s o λv H'=>KpH P kp H'/\Z9q P E kp ops T Q ((List.range rest.length).map (k+1 + ·)) (AS.put { s with H:=H' } o.dst v):=λht=>
      Z6a (λv H' hk'=>(by rw[ht]at hk';exact(Z5l.1 hk').imp id (ih _))) h2
     obtain⟨dst,op,type,pos,after,guard⟩:=o;unfold Zbc
     cases op<;>try(first|exact tame rfl|exact wild rfl|exact absurd rfl (hnl _ _))
     obtain⟨d,hd,hdead⟩:=h1 rfl;simp only at hd;subst hd;exact⟨hdead,tame rfl⟩;obtain⟨d,hd,hdead⟩:=h1 rfl;simp only at hd;subst hd;exact⟨hdead,tame rfl⟩;obtain⟨d,hd,hdead⟩:=h1 rfl;simp only at hd;subst hd;exact⟨hdead,tame rfl⟩;obtain⟨d,hd,hdead⟩:=h1 rfl;simp only at hd;subst hd;exact⟨hdead,tame rfl⟩
     .rename_i c
      obtain⟨callee,args,ats⟩:=c
      cases callee with
      |value f=>exact absurd rfl (hne f args ats)
      |invoke r m=>exact wild rfl
      |builtin b=>cases b<;>first|exact tame rfl|exact wild rfl
theorem Ztg{id:Nat}{ops:Array Oper}{Q:Exit->AS->Prop}{s:AS}(kp:Kps)(T:Told)(hm:P.follows .mixedOrders=true)(hG:GOk E.G)(hd:(ops.all (Zpe E.n))=true)
  (hok:Zsr ops T.bor 0 ops.toList=true) (h:Zbd P E kp ops (Q .normal) T 0 ops.toList s):AW P E (.region id ops true) Q s:=by
 refine Zkfa hm hG kp T hd hok ?_;have:=Zcw (P:=P) (E:=E) ops.toList 0 s (λj=>zS) h;simpa using this
theorem Zw{id:Nat}{ops:Array Oper}{Q:Exit->AS->Prop}{s:AS}(T:Told)(hm:P.follows .mixedOrders=true)(hG:GOk E.G)(hd:(ops.all (Zpe E.n))=true)
  (hok:Zsr ops T.bor 0 ops.toList=true) (h:Zbd P E [] ops (Q .normal) T 0 ops.toList s):AW P E (.region id ops true) Q s:=Ztg [] T hm hG hd hok h
section
variable{ops:Array Oper}{Q:AS->Prop}{T:Told}{rest:List Oper}{τ : Nat->V}{H:Heap}{d:Option Nat}{ty:TypeId}{pos:String}{af:Array Edge}{i:Nat}
theorem Z8ma(s:AS):Zbd P E kp ops Q T i [] s=Q s:=rfl
theorem Zbba(l:List Oper)(op:Op)(j:Nat)(want:Bool):
  Zbd P E kp ⟨l⟩ Q T i (⟨d,op,ty,pos,af,some (j,want)⟩::rest) ⟨τ,H⟩ =
   Z0h (Zwj ((Zek l j).map τ) want) (Zbd P E kp ⟨l⟩ Q T (i+1) rest (AS.put ⟨τ,H⟩ d (.tuple []))) (Zbd P E kp ⟨l⟩ Q T i (⟨d,op,ty,pos,af,none⟩::rest) ⟨τ,H⟩):=by
 have e2:Zaa ⟨l⟩ τ ⟨d,op,ty,pos,af,some (j,want)⟩=Zwj ((Zek l j).map τ) want:=by
  unfold Zaa Zek;simp only[List.getElem?_toArray]
  cases(l[j]?).bind (·.dst)with
  |none=>rfl
  |some e=>
   simp only[Option.map_some,Zwj,Zvp];generalize τ e=v
   cases v<;>rfl
 simp only[Zbd];rw[e2];rfl
theorem Zgha(f:Operand)(l:List Operand)(ats:Array TypeId):Zbd P E kp ops Q T i (⟨d,.call ⟨.value f,⟨l⟩,ats⟩,ty,pos,af,none⟩::rest) ⟨τ,H⟩ =
  mdK (borA T i) (Zev P E (T.bor i) (T.vs i) H (AS.ev E ⟨τ,H⟩ f) (l.map (AS.ev E ⟨τ,H⟩))/\Zbd P E kp ops Q T (i+1) rest (AS.put ⟨τ,H⟩ d (T.vs i)))
   (Zlb P E ops (kpQ P kp (Zbd P E kp ops Q T (i+1) rest)) [⟨d,.call ⟨.value f,⟨l⟩,ats⟩,ty,pos,af,none⟩] ⟨τ,H⟩):=by
 rw[Zfc];rfl
theorem Zy9(v:V)(fid:FuncId)(first cap args:List V):Zev P E .pure v H (.func (.func fid) first cap) args=Z7i P E.G fid (first++args++cap) v:=rfl
theorem Zz9(v:V)(fid:FuncId)(first cap args:List V):Zev P E .lend v H (.func (.func fid) first cap) args=BorC P E.G fid (first++args++cap) H v:=rfl
attribute[go_sem]Z8ma Zbba Zgha Zy9 Zz9
def Zg9(o:Option V)(K:V->Prop):Prop:=Z6r o K
@[go_sem] theorem contV2_some(v:V)(K:V->Prop):Zg9 (some v) K=K v:=rfl
@[congr] theorem Zipa{o o':Option V}{K:V->Prop}(h:o=o'):Zg9 o K=Zg9 o' K:=by rw[h]
theorem Zob(o:Oper)(hg:o.guard=none)(hp:Zul o=true)(ht:Zrm o=true):Zbd P E kp ops Q T i (o::rest) ⟨τ,H⟩=Zlb P E ops (Zbd P E kp ops Q T (i+1) rest) [o] ⟨τ,H⟩:=by
 obtain⟨dst,op,type,pos,after,guard⟩:=o;simp only at hg;subst hg;rw[Zfc];simp only[Zbd,Zmt];have hw:Zaa ops τ ⟨dst,op,type,pos,after,none⟩=some true:=rfl;rw[hw,Zkf];rw[ht]
 cases op<;>first
  |(simp only[Zsj,kpB,Bool.false_eq_true,false_implies,true_and];done)
  |(simp[Zul]at hp;done)
  |skip
 all_goals first|(cases hp;done)|skip
 rename_i c;obtain⟨callee,args,ats⟩:=c
 cases callee<;>simp[Zsj,kpB,Zul]at hp⊢
theorem Z9v(o:Oper)(hg:o.guard=none)(hp:Zul o=true)(ht:Zrm o=false):Zbd P E kp ops Q T i (o::rest) ⟨τ,H⟩=Zlb P E ops (kpQ P kp (Zbd P E kp ops Q T (i+1) rest)) [o] ⟨τ,H⟩:=by
 obtain⟨dst,op,type,pos,after,guard⟩:=o;simp only at hg;subst hg;rw[Zfc];simp only[Zbd,Zmt];have hw:Zaa ops τ ⟨dst,op,type,pos,after,none⟩=some true:=rfl;rw[hw,Zkf,ht]
 cases op<;>first
  |(simp only[Zsj,kpB,Bool.false_eq_true,false_implies,true_and];done)
  |(simp[Zul]at hp;done)
  |skip
 all_goals first|(cases hp;done)|skip
 rename_i c;obtain⟨callee,args,ats⟩:=c
 cases callee<;>simp[Zsj,kpB,Zul]at hp⊢
theorem Z7r(e:Nat)(op:Op)(hp:Zsj ⟨some e,op,ty,pos,af,none⟩=true):Zbd P E kp ops Q T i (⟨some e,op,ty,pos,af,none⟩::rest) ⟨τ,H⟩ =
  (H (E.q+e)=.dead/\Zlb P E ops (Zbd P E kp ops Q T (i+1) rest) [⟨some e,op,ty,pos,af,none⟩] ⟨τ,H⟩):=by
 rw[Zfc];simp only[Zbd,Zmt];have hw:Zaa ops τ ⟨some e,op,ty,pos,af,none⟩=some true:=rfl;rw[hw,Zkf]
 cases op<;>simp[Zsj,kpB,Zrm]at hp⊢
section
theorem Zeha(x:Operand):Zbd P E kp ops Q T i (⟨d,.move x,ty,pos,af,none⟩::rest) ⟨τ,H⟩=Zlb P E ops (Zbd P E kp ops Q T (i+1) rest) [⟨d,.move x,ty,pos,af,none⟩] ⟨τ,H⟩:=Zob _ rfl rfl rfl
theorem Zf2(x:Operand):Zbd P E kp ops Q T i (⟨d,.assign x,ty,pos,af,none⟩::rest) ⟨τ,H⟩=Zlb P E ops (Zbd P E kp ops Q T (i+1) rest) [⟨d,.assign x,ty,pos,af,none⟩] ⟨τ,H⟩:=Zob _ rfl rfl rfl
theorem Zdha(x y z:Operand):Zbd P E kp ops Q T i (⟨d,.pick x y z,ty,pos,af,none⟩::rest) ⟨τ,H⟩=Zlb P E ops (Zbd P E kp ops Q T (i+1) rest) [⟨d,.pick x y z,ty,pos,af,none⟩] ⟨τ,H⟩:=Zob _ rfl rfl rfl
theorem Zdba(o:BinOp)(t:TypeId)(x y:Operand)(u:TypeId):Zbd P E kp ops Q T i (⟨d,.binOp o t x y u,ty,pos,af,none⟩::rest) ⟨τ,H⟩=Zlb P E ops (Zbd P E kp ops Q T (i+1) rest) [⟨d,.binOp o t x y u,ty,pos,af,none⟩] ⟨τ,H⟩:=Zob _ rfl rfl rfl
theorem Zcha(o:UnOp)(t:TypeId)(x:Operand):Zbd P E kp ops Q T i (⟨d,.unOp o t x,ty,pos,af,none⟩::rest) ⟨τ,H⟩=Zlb P E ops (Zbd P E kp ops Q T (i+1) rest) [⟨d,.unOp o t x,ty,pos,af,none⟩] ⟨τ,H⟩:=Zob _ rfl rfl rfl
theorem Zaw(x:Operand)(n:Nat):Zbd P E kp ops Q T i (⟨d,.extract x n,ty,pos,af,none⟩::rest) ⟨τ,H⟩=Zlb P E ops (Zbd P E kp ops Q T (i+1) rest) [⟨d,.extract x n,ty,pos,af,none⟩] ⟨τ,H⟩:=Zob _ rfl rfl rfl
theorem Z8q(t:TypeId)(x:Operand)(n:Nat):Zbd P E kp ops Q T i (⟨d,.fieldAddr t x n,ty,pos,af,none⟩::rest) ⟨τ,H⟩=Zlb P E ops (Zbd P E kp ops Q T (i+1) rest) [⟨d,.fieldAddr t x n,ty,pos,af,none⟩] ⟨τ,H⟩:=Zob _ rfl rfl rfl
theorem Z7q(t:TypeId)(x y:Operand):Zbd P E kp ops Q T i (⟨d,.indexAddr t x y,ty,pos,af,none⟩::rest) ⟨τ,H⟩=Zlb P E ops (Zbd P E kp ops Q T (i+1) rest) [⟨d,.indexAddr t x y,ty,pos,af,none⟩] ⟨τ,H⟩:=Zob _ rfl rfl rfl
theorem Zaba(t:TypeId)(x:Operand)(a b c:Option Operand):Zbd P E kp ops Q T i (⟨d,.slice t x a b c,ty,pos,af,none⟩::rest) ⟨τ,H⟩=Zlb P E ops (Zbd P E kp ops Q T (i+1) rest) [⟨d,.slice t x a b c,ty,pos,af,none⟩] ⟨τ,H⟩:=Zob _ rfl rfl rfl
theorem Zcba(t:TypeId)(x:Array (Nat×Operand)):Zbd P E kp ops Q T i (⟨d,.build t x,ty,pos,af,none⟩::rest) ⟨τ,H⟩=Zlb P E ops (Zbd P E kp ops Q T (i+1) rest) [⟨d,.build t x,ty,pos,af,none⟩] ⟨τ,H⟩:=Zob _ rfl rfl rfl
theorem Zkt(x:Operand):Zbd P E kp ops Q T i (⟨d,.nilCheck x,ty,pos,af,none⟩::rest) ⟨τ,H⟩=Zlb P E ops (Zbd P E kp ops Q T (i+1) rest) [⟨d,.nilCheck x,ty,pos,af,none⟩] ⟨τ,H⟩:=Zob _ rfl rfl rfl
theorem Zfha(t:TypeId)(x:Operand):Zbd P E kp ops Q T i (⟨d,.load t x,ty,pos,af,none⟩::rest) ⟨τ,H⟩ =
  ldK (borA T i) (Zg9 (Z9b P Zk t (AS.ev E ⟨τ,H⟩ x)) λv=>Zbd P E kp ops Q T (i+1) rest (AS.put ⟨τ,H⟩ d v)) (Zlb P E ops (Zbd P E kp ops Q T (i+1) rest) [⟨d,.load t x,ty,pos,af,none⟩] ⟨τ,H⟩)
   (Z1na P kp t (AS.ev E ⟨τ,H⟩ x) (T.vs i) H (Zbd P E kp ops Q T (i+1) rest (AS.put ⟨τ,H⟩ d (T.vs i)))):=by
 rw[Zfc];rfl
theorem Z9aa(t:TypeId)(x y:Operand):Zbd P E kp ops Q T i (⟨d,.store t x y,ty,pos,af,none⟩::rest) ⟨τ,H⟩=Zlb P E ops (kpQ P kp (Zbd P E kp ops Q T (i+1) rest)) [⟨d,.store t x y,ty,pos,af,none⟩] ⟨τ,H⟩:=Z9v _ rfl rfl rfl
theorem Zbw(b:Builtin)(l:Array Operand)(ats:Array TypeId):Zbd P E kp ops Q T i (⟨d,.call ⟨.builtin b,l,ats⟩,ty,pos,af,none⟩::rest) ⟨τ,H⟩=Zlb P E ops (kpT P kp (match b with|.len|.max|.min=>true|_=>false) (Zbd P E kp ops Q T (i+1) rest)) [⟨d,.call ⟨.builtin b,l,ats⟩,ty,pos,af,none⟩] ⟨τ,H⟩:=by
 cases b
 case len=>exact Zob _ rfl rfl rfl
 case max=>exact Zob _ rfl rfl rfl
 case min=>exact Zob _ rfl rfl rfl
 all_goals exact Z9v _ rfl rfl rfl
theorem Zeba(e:Nat)(t:TypeId):Zbd P E kp ops Q T i (⟨some e,.alloc t,ty,pos,af,none⟩::rest) ⟨τ,H⟩=(H (E.q+e)=.dead/\Zlb P E ops (Zbd P E kp ops Q T (i+1) rest) [⟨some e,.alloc t,ty,pos,af,none⟩] ⟨τ,H⟩):=Z7r e _ rfl
theorem Zep(e:Nat)(t:TypeId)(n:Nat)(x:Array (Nat×Operand)):Zbd P E kp ops Q T i (⟨some e,.buildSlice t n x,ty,pos,af,none⟩::rest) ⟨τ,H⟩=(H (E.q+e)=.dead/\Zlb P E ops (Zbd P E kp ops Q T (i+1) rest) [⟨some e,.buildSlice t n x,ty,pos,af,none⟩] ⟨τ,H⟩):=Z7r e _ rfl
attribute[go_sem]Zeha Zf2 Zdha Zdba Zcha Zaw Z8q Z7q Zaba Zcba Zkt Zfha Z9aa Zbw Zeba Zep
end
end
end
end Go.Hs
