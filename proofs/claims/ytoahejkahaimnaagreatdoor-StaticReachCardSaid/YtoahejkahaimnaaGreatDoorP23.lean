/- A part. No condition. -/
import Derived.Test.YtoahejkahaimnaaGreatDoorP21
set_option linter.all false
namespace Go.Hs
section
variable{P:Program}{E:Ent}{kp:Kps}
def Z5g(o:Oper):Bool:=
 match o.op with
 |.alloc _|.box .. |.buildSlice .. |.makeSlice .. => false
 |.makeMap _ none=>false
 |.load .. => false
 |.call { callee:=.value _,.. }=>false
 |_=>true
def Zwf(o:Oper):Bool:=
 match o.op with
 |.alloc _|.box .. |.buildSlice .. |.makeSlice .. => true
 |.makeMap _ none=>true
 |_=>false
def Zbn(P:Program)(E:Ent)(bor:Md)(v:V)(H:Heap)(f:V)(args:List V):Prop:=
 match f with
 |.func (.func fid) first cap=>(match bor with|.lend=>BorC P E.G fid (first++args++cap) H v|.own=>OwnC P E.G fid (first++args++cap) v|_=>Zada P E.G fid (first++args++cap) v)
 |_=>False
def mdK(m:Md)(A B:Prop):Prop:=match m with|.any=>B|.keep=>B|_=>A
@[congr] theorem mdK_congr{m m':Md}{A B:Prop}(h:m=m'):mdK m A B=mdK m' A B:=by rw[h]
theorem Z8la(A B:Prop):mdK .pure A B=A:=rfl
theorem Z9la(A B:Prop):mdK .lend A B=A:=rfl
theorem mdK_own(A B:Prop):mdK .own A B=A:=rfl
theorem Zg0(A B:Prop):mdK .any A B=B:=rfl
theorem Zts(A B:Prop):mdK .keep A B=B:=rfl
attribute[go_sem]Z8la Z9la mdK_own Zg0 Zts
def borA(T:Told)(i:Nat):Md:=T.bor i
@[go_sem] theorem borA_mk(f:Nat->V)(g:Nat->Md)(i:Nat):borA ⟨f,g⟩ i=g i:=rfl
def ldK(m:Md)(A B C:Prop):Prop:=match m with|.lend=>A|.keep=>C|_=>B
@[congr] theorem ldK_congr{m m':Md}{A B C:Prop}(h:m=m'):ldK m A B C=ldK m' A B C:=by rw[h]
theorem Zxs(A B C:Prop):ldK .pure A B C=B:=rfl
theorem Zys(A B C:Prop):ldK .lend A B C=A:=rfl
theorem Zk0(A B C:Prop):ldK .own A B C=B:=rfl
theorem Zl0(A B C:Prop):ldK .any A B C=B:=rfl
theorem Zzs(A B C:Prop):ldK .keep A B C=C:=rfl
attribute[go_sem]Zxs Zys Zk0 Zl0 Zzs
def kpA(P:Program)(kp:Kps)(H:Heap)(A:Prop):Prop:=match kp with|[]=>A|p::r=>(Zvb P H p.1 p.2.1=some p.2.2/\kpA P r H A)
@[go_sem] theorem kpA_nil(H:Heap)(A:Prop):kpA P [] H A=A:=rfl
@[go_sem] theorem Zsma(p:TypeId×V×V)(r:Kps)(H:Heap)(A:Prop):kpA P (p::r) H A=(Zvb P H p.1 p.2.1=some p.2.2/\kpA P r H A):=rfl
theorem Ziga:∀ {kp:Kps} {H:Heap} {A:Prop},kpA P kp H A↔KpH P kp H/\A
 |[],H,A=>⟨λh=>⟨λp hp=>(by cases hp),h⟩,λh=>h.2⟩
 |p::r,H,A=>by
  rw[Zsma,Ziga]
  constructor
  rintro⟨h1,h2,h3⟩;refine⟨λq hq=>?_,h3⟩
  rcases List.mem_cons.1 hq with rfl|hq
  exact h1;exact h2 q hq;rintro⟨h1,h2⟩;exact⟨h1 p (List.mem_cons_self ..),λq hq=>h1 q (List.mem_cons_of_mem _ hq),h2⟩
def kpQ(P:Program)(kp:Kps)(Q:AS->Prop):AS->Prop:=λs=>kpA P kp s.H (Q s)
@[go_sem] theorem kpQ_nil(Q:AS->Prop):kpQ P [] Q=Q:=rfl
@[go_sem] theorem kpQ_cons(p:TypeId×V×V)(r:Kps)(Q:AS->Prop)(τ : Nat->V)(H:Heap):kpQ P (p::r) Q ⟨τ,H⟩=(Zvb P H p.1 p.2.1=some p.2.2/\kpA P r H (Q ⟨τ,H⟩)):=rfl
theorem Z6k{kp:Kps}{Q:AS->Prop}{s:AS}{H:Heap}{d:Option Nat}{v:V}:kpQ P kp Q (AS.put { s with H:=H } d v)↔KpH P kp H/\Q (AS.put { s with H:=H } d v):=by
 unfold kpQ;rw[Zdd];exact Ziga
def kpT(P:Program)(kp:Kps)(b:Bool)(Q:AS->Prop):AS->Prop:=match b with|true=>Q|false=>kpQ P kp Q
@[go_sem] theorem kpT_true(Q:AS->Prop):kpT P kp true Q=Q:=rfl
@[go_sem] theorem kpT_false(Q:AS->Prop):kpT P kp false Q=kpQ P kp Q:=rfl
def Z49(P:Program)(kp:Kps)(t:TypeId)(a v:V)(H:Heap)(A:Prop):Prop:=((t,a,v)∈kp/\KpH P kp H)/\A
theorem Zhj(t:TypeId)(a:V):Zvb P Zk t a=Zec P t a:=by
 unfold Zvb
 cases a<;>first|rfl|(simp[Zec,Zk])
def Zij(o:Oper):Bool:=
 match o.op with
 |.move _|.assign _|.pick .. |.binOp .. |.unOp .. |.convert .. |.extract .. |.field .. |.build .. |.fieldAddr .. |.indexAddr .. |.index .. |.slice .. |.makeFunc .. |.makeInterface .. |.nilCheck _|.lookup .. |.typeAssert .. => true
 |.alloc _|.box .. |.buildSlice .. |.makeSlice .. => true
 |.makeMap _ none=>true
 |.call { callee:=.builtin .len,.. }=>true
 |.call { callee:=.builtin .max,.. }=>true
 |.call { callee:=.builtin .min,.. }=>true
 |_=>false
def kpB(P:Program)(kp:Kps)(b:Bool)(Q:AS->Prop)(s:AS):Prop:=match b with|true=>Q s|false=>kpQ P kp Q s
def Zbc(P:Program)(E:Ent)(kp:Kps)(ops:Array Oper)(Q:AS->Prop)(T:Told):Nat->List Oper->AS->Prop
 |_,[],s=>Q s
 |i,o::rest,s=>Zkh (Zz ops s.τ o) (Zbc P E kp ops Q T (i+1) rest (s.put o.dst (.tuple [])))
   (match o.op with
    |.call { callee:=.value f,args,.. }=>mdK (T.bor i) (Zbn P E (T.bor i) (T.vs i) s.H (s.ev E f) (args.toList.map (s.ev E))/\Zbc P E kp ops Q T (i+1) rest (s.put o.dst (T.vs i)))
      (Zka P E s o λv H'=>kpQ P kp (Zbc P E kp ops Q T (i+1) rest) (AS.put { s with H:=H' } o.dst v))
    |.load t x=>ldK (T.bor i) (Zzn (Zvb P Zk t (s.ev E x)) λv=>Zbc P E kp ops Q T (i+1) rest (s.put o.dst v)) (Zka P E s o λv H'=>Zbc P E kp ops Q T (i+1) rest (AS.put { s with H:=H' } o.dst v))
      (Z49 P kp t (s.ev E x) (T.vs i) s.H (Zbc P E kp ops Q T (i+1) rest (s.put o.dst (T.vs i))))
    |_=>(Zwf o=true->∃ d,o.dst=some d/\s.H (E.q+d)=.dead)/\Zka P E s o λv H'=>kpB P kp (Zij o) (Zbc P E kp ops Q T (i+1) rest) (AS.put { s with H:=H' } o.dst v))
theorem Z2n{ops:Array Oper}{Q:AS->Prop}{T:Told}:∀ (l:List Oper) (k:Nat) (s:AS),(∀ j,l[j]?=ops[k+j]?)->Zbc P E kp ops Q T k l s ->
  Z4n P E kp ops T Q ((List.range l.length).map (k + ·)) s
 |[],k,s,_,h=>h
 |o::rest,k,s,hl,h=>by
  have hk:ops[k]?=some o:=by have:=hl 0;simpa using this.symm
  have hl':∀ j,rest[j]?=ops[k+1+j]? := λj=>by have:=hl (j+1);rw[show k+1+j=k+(j+1) by omega];simpa using this
  have hrange:(List.range (o::rest).length).map (k + ·)=k::(List.range rest.length).map (k+1 + ·):=by
   simp only[List.length_cons,List.range_succ_eq_map,List.map_cons,Nat.add_zero,List.map_map]
   congr 1
   apply List.map_congr_left;intro j _;simp;omega
  have ih:∀ s',Zbc P E kp ops Q T (k+1) rest s'->Z4n P E kp ops T Q ((List.range rest.length).map (k+1 + ·)) s':=λs'=>Z2n rest (k+1) s' hl';rw[hrange];simp only[Z4n,hk];unfold stD;simp only[Zbc]at h
  cases hw:Zz ops s.τ o with
  |none=>rw[hw]at h;exact h.elim
  |some b=>
   rw[hw]at h
   cases b with
   |false=>exact ih _ h
   |true=>
    simp only[Zkh]at h⊢
    split at h
    .rename_i f args ats hop
     obtain⟨dst,op,type,pos,after,guard⟩:=o;simp only at hop;subst hop
     cases hb:T.bor k with
     |any=>
      rw[hb,Zg0]at h;have h2':=Zqa (K':=λu H'=>KpH P kp H'/\Z4n P E kp ops T Q ((List.range rest.length).map (k+1 + ·)) (AS.put { s with H:=H' } dst u)) (λv H' hk'=>(Z6k.1 hk').imp id (ih _)) h;unfold Znb;exact h2'
     |keep=>
      rw[hb,Zts]at h;have h2':=Zqa (K':=λu H'=>KpH P kp H'/\Z4n P E kp ops T Q ((List.range rest.length).map (k+1 + ·)) (AS.put { s with H:=H' } dst u)) (λv H' hk'=>(Z6k.1 hk').imp id (ih _)) h;unfold Znb;exact h2'
     |lend=>
      rw[hb]at h;obtain⟨h1,h2⟩:=h;unfold Zbn at h1;unfold Znb
      split at h1
      rename_i fid first cap hf;simp only[Zba,hf];exact⟨h1,ih _ h2⟩;exact h1.elim
     |pure=>
      rw[hb]at h;obtain⟨h1,h2⟩:=h;unfold Zbn at h1;unfold Znb
      split at h1
      rename_i fid first cap hf;simp only[Zba,hf];exact⟨h1,ih _ h2⟩;exact h1.elim
     |own=>
      rw[hb]at h;obtain⟨h1,h2⟩:=h;unfold Zbn at h1;unfold Znb
      split at h1
      rename_i fid first cap hf;simp only[Zba,hf];exact⟨h1,ih _ h2⟩;exact h1.elim
    .rename_i t x hop
     obtain⟨dst,op,type,pos,after,guard⟩:=o;simp only at hop;subst hop
     cases hb:T.bor k with
     |lend=>
      rw[hb,Zys,Zhj]at h;unfold Znb;simp only[Zba,Zaq]
      cases hv:Zec P t (s.ev E x)with
      |none=>rw[hv]at h;exact h.elim
      |some u=>rw[hv]at h;exact ih _ h
     |keep=>
      rw[hb,Zzs]at h;unfold Znb;simp only[Zba,Zaq];exact⟨h.1,ih _ h.2⟩
     |pure=>
      rw[hb,Zxs]at h;have h2':=Zqa (λv H' hk'=>ih _ hk') h;unfold Znb;exact h2'
     |own=>
      rw[hb,Zk0]at h;have h2':=Zqa (λv H' hk'=>ih _ hk') h;unfold Znb;exact h2'
     |any=>
      rw[hb,Zl0]at h;have h2':=Zqa (λv H' hk'=>ih _ hk') h;unfold Znb;exact h2'
    .rename_i hne hnl
     obtain⟨h1,h2⟩:=h
     have tame:Zij o=true->Zka P E s o λv H'=>Z4n P E kp ops T Q ((List.range rest.length).map (k+1 + ·)) (AS.put { s with H:=H' } o.dst v):=λht=>
      Zqa (λv H' hk'=>ih _ (by rw[ht]at hk';exact hk')) h2
     have wild:Zij o=false->Zka P E s o λv H'=>KpH P kp H'/\Z4n P E kp ops T Q ((List.range rest.length).map (k+1 + ·)) (AS.put { s with H:=H' } o.dst v):=λht=>
      Zqa (λv H' hk'=>(by rw[ht]at hk';exact(Z6k.1 hk').imp id (ih _))) h2
     obtain⟨dst,op,type,pos,after,guard⟩:=o;unfold Znb
     cases op<;>try(first|exact tame rfl|exact wild rfl|exact absurd rfl (hnl _ _))
     case makeMap t r=>
      cases r with
      |some r=>exact wild rfl
      |none=>
       obtain⟨d,hd,hdead⟩:=h1 rfl;simp only at hd;subst hd;exact⟨hdead,tame rfl⟩
     obtain⟨d,hd,hdead⟩:=h1 rfl;simp only at hd;subst hd;exact⟨hdead,tame rfl⟩;obtain⟨d,hd,hdead⟩:=h1 rfl;simp only at hd;subst hd;exact⟨hdead,tame rfl⟩;obtain⟨d,hd,hdead⟩:=h1 rfl;simp only at hd;subst hd;exact⟨hdead,tame rfl⟩;obtain⟨d,hd,hdead⟩:=h1 rfl;simp only at hd;subst hd;exact⟨hdead,tame rfl⟩
     .rename_i c
      obtain⟨callee,args,ats⟩:=c
      cases callee with
      |value f=>exact absurd rfl (hne f args ats)
      |invoke r m=>exact wild rfl
      |builtin b=>cases b<;>first|exact tame rfl|exact wild rfl
theorem Z2c{id:Nat}{ops:Array Oper}{Q:Exit->AS->Prop}{s:AS}(kp:Kps)(T:Told)(hm:P.follows .mixedOrders=true)(hG:GOk E.G)(hd:(ops.all (Z7b E.n))=true)
  (hok:Zcn ops T.bor 0 ops.toList=true) (h:Zbc P E kp ops (Q .normal) T 0 ops.toList s):AW P E (.region id ops true) Q s:=by
 refine Zfda hm hG kp T hd hok ?_;have:=Z2n (P:=P) (E:=E) ops.toList 0 s (λj=>zS) h;simpa using this
theorem Zp{id:Nat}{ops:Array Oper}{Q:Exit->AS->Prop}{s:AS}(T:Told)(hm:P.follows .mixedOrders=true)(hG:GOk E.G)(hd:(ops.all (Z7b E.n))=true)
  (hok:Zcn ops T.bor 0 ops.toList=true) (h:Zbc P E [] ops (Q .normal) T 0 ops.toList s):AW P E (.region id ops true) Q s:=Z2c [] T hm hG hd hok h
section
variable{ops:Array Oper}{Q:AS->Prop}{T:Told}{rest:List Oper}{τ : Nat->V}{H:Heap}{d:Option Nat}{ty:TypeId}{pos:String}{af:Array Edge}{i:Nat}
theorem Zvla(s:AS):Zbc P E kp ops Q T i [] s=Q s:=rfl
theorem Z28(l:List Oper)(op:Op)(j:Nat)(want:Bool):
  Zbc P E kp ⟨l⟩ Q T i (⟨d,op,ty,pos,af,some (j,want)⟩::rest) ⟨τ,H⟩ =
   Zkh (Zyi ((Zkj l j).map τ) want) (Zbc P E kp ⟨l⟩ Q T (i+1) rest (AS.put ⟨τ,H⟩ d (.tuple []))) (Zbc P E kp ⟨l⟩ Q T i (⟨d,op,ty,pos,af,none⟩::rest) ⟨τ,H⟩):=by
 have e2:Zz ⟨l⟩ τ ⟨d,op,ty,pos,af,some (j,want)⟩=Zyi ((Zkj l j).map τ) want:=by
  unfold Zz Zkj;simp only[List.getElem?_toArray]
  cases(l[j]?).bind (·.dst)with
  |none=>rfl
  |some e=>
   simp only[Option.map_some,Zyi,Zjo];generalize τ e=v
   cases v<;>rfl
 simp only[Zbc];rw[e2];rfl
theorem Zgfa(f:Operand)(l:List Operand)(ats:Array TypeId):Zbc P E kp ops Q T i (⟨d,.call ⟨.value f,⟨l⟩,ats⟩,ty,pos,af,none⟩::rest) ⟨τ,H⟩ =
  mdK (borA T i) (Zbn P E (T.bor i) (T.vs i) H (AS.ev E ⟨τ,H⟩ f) (l.map (AS.ev E ⟨τ,H⟩))/\Zbc P E kp ops Q T (i+1) rest (AS.put ⟨τ,H⟩ d (T.vs i)))
   (Zsa P E ops (kpQ P kp (Zbc P E kp ops Q T (i+1) rest)) [⟨d,.call ⟨.value f,⟨l⟩,ats⟩,ty,pos,af,none⟩] ⟨τ,H⟩):=by
 rw[Zeb];rfl
theorem Zu7(v:V)(fid:FuncId)(first cap args:List V):Zbn P E .pure v H (.func (.func fid) first cap) args=Zada P E.G fid (first++args++cap) v:=rfl
theorem Z0da(v:V)(fid:FuncId)(first cap args:List V):Zbn P E .own v H (.func (.func fid) first cap) args=OwnC P E.G fid (first++args++cap) v:=rfl
theorem Zv7(v:V)(fid:FuncId)(first cap args:List V):Zbn P E .lend v H (.func (.func fid) first cap) args=BorC P E.G fid (first++args++cap) H v:=rfl
attribute[go_sem]Zvla Z28 Zgfa Zu7 Z0da Zv7
def Z16(o:Option V)(K:V->Prop):Prop:=Zzn o K
@[go_sem] theorem contV2_some(v:V)(K:V->Prop):Z16 (some v) K=K v:=rfl
@[congr] theorem Ztoa{o o':Option V}{K:V->Prop}(h:o=o'):Z16 o K=Z16 o' K:=by rw[h]
theorem Zya(o:Oper)(hg:o.guard=none)(hp:Z5g o=true)(ht:Zij o=true):Zbc P E kp ops Q T i (o::rest) ⟨τ,H⟩=Zsa P E ops (Zbc P E kp ops Q T (i+1) rest) [o] ⟨τ,H⟩:=by
 obtain⟨dst,op,type,pos,after,guard⟩:=o;simp only at hg;subst hg;rw[Zeb];simp only[Zbc,Zns];have hw:Zz ops τ ⟨dst,op,type,pos,after,none⟩=some true:=rfl;rw[hw,Z7e];rw[ht]
 cases op<;>first
  |(simp only[Zwf,kpB,Bool.false_eq_true,false_implies,true_and];done)
  |(simp[Z5g]at hp;done)
  |skip
 case makeMap t r=>cases r<;>first|(simp only[Zwf,kpB,Bool.false_eq_true,false_implies,true_and];done)|(simp[Z5g]at hp;done)
 all_goals first|(cases hp;done)|skip
 rename_i c;obtain⟨callee,args,ats⟩:=c
 cases callee<;>simp[Zwf,kpB,Z5g]at hp⊢
theorem Z0n(o:Oper)(hg:o.guard=none)(hp:Z5g o=true)(ht:Zij o=false):Zbc P E kp ops Q T i (o::rest) ⟨τ,H⟩=Zsa P E ops (kpQ P kp (Zbc P E kp ops Q T (i+1) rest)) [o] ⟨τ,H⟩:=by
 obtain⟨dst,op,type,pos,after,guard⟩:=o;simp only at hg;subst hg;rw[Zeb];simp only[Zbc,Zns];have hw:Zz ops τ ⟨dst,op,type,pos,after,none⟩=some true:=rfl;rw[hw,Z7e,ht]
 cases op<;>first
  |(simp only[Zwf,kpB,Bool.false_eq_true,false_implies,true_and];done)
  |(simp[Z5g]at hp;done)
  |skip
 case makeMap t r=>cases r<;>first|(simp only[Zwf,kpB,Bool.false_eq_true,false_implies,true_and];done)|(simp[Z5g]at hp;done)
 all_goals first|(cases hp;done)|skip
 rename_i c;obtain⟨callee,args,ats⟩:=c
 cases callee<;>simp[Zwf,kpB,Z5g]at hp⊢
theorem Z9f(e:Nat)(op:Op)(hp:Zwf ⟨some e,op,ty,pos,af,none⟩=true):Zbc P E kp ops Q T i (⟨some e,op,ty,pos,af,none⟩::rest) ⟨τ,H⟩ =
  (H (E.q+e)=.dead/\Zsa P E ops (Zbc P E kp ops Q T (i+1) rest) [⟨some e,op,ty,pos,af,none⟩] ⟨τ,H⟩):=by
 rw[Zeb];simp only[Zbc,Zns];have hw:Zz ops τ ⟨some e,op,ty,pos,af,none⟩=some true:=rfl;rw[hw,Z7e];cases op
 case makeMap t r=>cases r<;>simp[Zwf,kpB,Zij]at hp⊢
 all_goals simp[Zwf,kpB,Zij]at hp⊢
section
theorem Zefa(x:Operand):Zbc P E kp ops Q T i (⟨d,.move x,ty,pos,af,none⟩::rest) ⟨τ,H⟩=Zsa P E ops (Zbc P E kp ops Q T (i+1) rest) [⟨d,.move x,ty,pos,af,none⟩] ⟨τ,H⟩:=Zya _ rfl rfl rfl
theorem Zb0(x:Operand):Zbc P E kp ops Q T i (⟨d,.assign x,ty,pos,af,none⟩::rest) ⟨τ,H⟩=Zsa P E ops (Zbc P E kp ops Q T (i+1) rest) [⟨d,.assign x,ty,pos,af,none⟩] ⟨τ,H⟩:=Zya _ rfl rfl rfl
theorem Zdfa(x y z:Operand):Zbc P E kp ops Q T i (⟨d,.pick x y z,ty,pos,af,none⟩::rest) ⟨τ,H⟩=Zsa P E ops (Zbc P E kp ops Q T (i+1) rest) [⟨d,.pick x y z,ty,pos,af,none⟩] ⟨τ,H⟩:=Zya _ rfl rfl rfl
theorem Z48(o:BinOp)(t:TypeId)(x y:Operand)(u:TypeId):Zbc P E kp ops Q T i (⟨d,.binOp o t x y u,ty,pos,af,none⟩::rest) ⟨τ,H⟩=Zsa P E ops (Zbc P E kp ops Q T (i+1) rest) [⟨d,.binOp o t x y u,ty,pos,af,none⟩] ⟨τ,H⟩:=Zya _ rfl rfl rfl
theorem Zcfa(o:UnOp)(t:TypeId)(x:Operand):Zbc P E kp ops Q T i (⟨d,.unOp o t x,ty,pos,af,none⟩::rest) ⟨τ,H⟩=Zsa P E ops (Zbc P E kp ops Q T (i+1) rest) [⟨d,.unOp o t x,ty,pos,af,none⟩] ⟨τ,H⟩:=Zya _ rfl rfl rfl
theorem Zwu(x:Operand)(n:Nat):Zbc P E kp ops Q T i (⟨d,.extract x n,ty,pos,af,none⟩::rest) ⟨τ,H⟩=Zsa P E ops (Zbc P E kp ops Q T (i+1) rest) [⟨d,.extract x n,ty,pos,af,none⟩] ⟨τ,H⟩:=Zya _ rfl rfl rfl
theorem Z5p(t:TypeId)(x:Operand)(n:Nat):Zbc P E kp ops Q T i (⟨d,.fieldAddr t x n,ty,pos,af,none⟩::rest) ⟨τ,H⟩=Zsa P E ops (Zbc P E kp ops Q T (i+1) rest) [⟨d,.fieldAddr t x n,ty,pos,af,none⟩] ⟨τ,H⟩:=Zya _ rfl rfl rfl
theorem Z4p(t:TypeId)(x y:Operand):Zbc P E kp ops Q T i (⟨d,.indexAddr t x y,ty,pos,af,none⟩::rest) ⟨τ,H⟩=Zsa P E ops (Zbc P E kp ops Q T (i+1) rest) [⟨d,.indexAddr t x y,ty,pos,af,none⟩] ⟨τ,H⟩:=Zya _ rfl rfl rfl
theorem Z18(t:TypeId)(x:Operand)(a b c:Option Operand):Zbc P E kp ops Q T i (⟨d,.slice t x a b c,ty,pos,af,none⟩::rest) ⟨τ,H⟩=Zsa P E ops (Zbc P E kp ops Q T (i+1) rest) [⟨d,.slice t x a b c,ty,pos,af,none⟩] ⟨τ,H⟩:=Zya _ rfl rfl rfl
theorem Z38(t:TypeId)(x:Array (Nat×Operand)):Zbc P E kp ops Q T i (⟨d,.build t x,ty,pos,af,none⟩::rest) ⟨τ,H⟩=Zsa P E ops (Zbc P E kp ops Q T (i+1) rest) [⟨d,.build t x,ty,pos,af,none⟩] ⟨τ,H⟩:=Zya _ rfl rfl rfl
theorem Zls(f:Fn)(x y:Array Operand):Zbc P E kp ops Q T i (⟨d,.makeFunc f x y,ty,pos,af,none⟩::rest) ⟨τ,H⟩=Zsa P E ops (Zbc P E kp ops Q T (i+1) rest) [⟨d,.makeFunc f x y,ty,pos,af,none⟩] ⟨τ,H⟩:=Zya _ rfl rfl rfl
theorem Zks(x:Operand):Zbc P E kp ops Q T i (⟨d,.nilCheck x,ty,pos,af,none⟩::rest) ⟨τ,H⟩=Zsa P E ops (Zbc P E kp ops Q T (i+1) rest) [⟨d,.nilCheck x,ty,pos,af,none⟩] ⟨τ,H⟩:=Zya _ rfl rfl rfl
theorem Zffa(t:TypeId)(x:Operand):Zbc P E kp ops Q T i (⟨d,.load t x,ty,pos,af,none⟩::rest) ⟨τ,H⟩ =
  ldK (borA T i) (Z16 (Zvb P Zk t (AS.ev E ⟨τ,H⟩ x)) λv=>Zbc P E kp ops Q T (i+1) rest (AS.put ⟨τ,H⟩ d v)) (Zsa P E ops (Zbc P E kp ops Q T (i+1) rest) [⟨d,.load t x,ty,pos,af,none⟩] ⟨τ,H⟩)
   (Z49 P kp t (AS.ev E ⟨τ,H⟩ x) (T.vs i) H (Zbc P E kp ops Q T (i+1) rest (AS.put ⟨τ,H⟩ d (T.vs i)))):=by
 rw[Zeb];rfl
theorem Z08(t:TypeId)(x y:Operand):Zbc P E kp ops Q T i (⟨d,.store t x y,ty,pos,af,none⟩::rest) ⟨τ,H⟩=Zsa P E ops (kpQ P kp (Zbc P E kp ops Q T (i+1) rest)) [⟨d,.store t x y,ty,pos,af,none⟩] ⟨τ,H⟩:=Z0n _ rfl rfl rfl
theorem Zxu(b:Builtin)(l:Array Operand)(ats:Array TypeId):Zbc P E kp ops Q T i (⟨d,.call ⟨.builtin b,l,ats⟩,ty,pos,af,none⟩::rest) ⟨τ,H⟩=Zsa P E ops (kpT P kp (match b with|.len|.max|.min=>true|_=>false) (Zbc P E kp ops Q T (i+1) rest)) [⟨d,.call ⟨.builtin b,l,ats⟩,ty,pos,af,none⟩] ⟨τ,H⟩:=by
 cases b
 case len=>exact Zya _ rfl rfl rfl
 case max=>exact Zya _ rfl rfl rfl
 case min=>exact Zya _ rfl rfl rfl
 all_goals exact Z0n _ rfl rfl rfl
theorem Z58(e:Nat)(t:TypeId):Zbc P E kp ops Q T i (⟨some e,.alloc t,ty,pos,af,none⟩::rest) ⟨τ,H⟩=(H (E.q+e)=.dead/\Zsa P E ops (Zbc P E kp ops Q T (i+1) rest) [⟨some e,.alloc t,ty,pos,af,none⟩] ⟨τ,H⟩):=Z9f e _ rfl
theorem Zwla(e:Nat)(t:TypeId)(x:Operand):Zbc P E kp ops Q T i (⟨some e,.box t x,ty,pos,af,none⟩::rest) ⟨τ,H⟩=(H (E.q+e)=.dead/\Zsa P E ops (Zbc P E kp ops Q T (i+1) rest) [⟨some e,.box t x,ty,pos,af,none⟩] ⟨τ,H⟩):=Z9f e _ rfl
theorem Z1n(e:Nat)(t:TypeId)(n:Nat)(x:Array (Nat×Operand)):Zbc P E kp ops Q T i (⟨some e,.buildSlice t n x,ty,pos,af,none⟩::rest) ⟨τ,H⟩=(H (E.q+e)=.dead/\Zsa P E ops (Zbc P E kp ops Q T (i+1) rest) [⟨some e,.buildSlice t n x,ty,pos,af,none⟩] ⟨τ,H⟩):=Z9f e _ rfl
theorem Z3p(e:Nat)(t:TypeId)(x y:Operand):Zbc P E kp ops Q T i (⟨some e,.makeSlice t x y,ty,pos,af,none⟩::rest) ⟨τ,H⟩=(H (E.q+e)=.dead/\Zsa P E ops (Zbc P E kp ops Q T (i+1) rest) [⟨some e,.makeSlice t x y,ty,pos,af,none⟩] ⟨τ,H⟩):=Z9f e _ rfl
theorem Zvu(e:Nat)(t:TypeId):Zbc P E kp ops Q T i (⟨some e,.makeMap t none,ty,pos,af,none⟩::rest) ⟨τ,H⟩=(H (E.q+e)=.dead/\Zsa P E ops (Zbc P E kp ops Q T (i+1) rest) [⟨some e,.makeMap t none,ty,pos,af,none⟩] ⟨τ,H⟩):=Z9f e _ rfl
attribute[go_sem]Zefa Zb0 Zdfa Z48 Zcfa Zwu Z5p Z4p Z18 Z38 Zls Zks Zffa Z08 Zxu Z58 Zwla Z1n Z3p Zvu
end
end
end
end Go.Hs
