/- A part. No condition. -/
import Derived.Test.YtjplgaebbfabnaaGreatDoorP42
import Derived.Test.YtjplgaebbfabnaaGreatDoorP41
import Derived.RangeFuncNested
set_option linter.all false
section
namespace Go.Hs
open Go.Proofs
set_option maxHeartbeats 4000000
set_option maxRecDepth 10000
structure MdB(m:MdM):Prop where
 nm:m.name.length<1000000000000000
 var:∀ p∈m.vars.l,p.1.length<1000000000000000
 ev:∀ s∈m.events.l,s.length<1000000000000000
 rg:∀ p∈m.regions.l,p.1.length<1000000000000000
 vt:∀ x∈m.verts.l,x.name.length<1000000000000000/\x.sub.length<1000000000000000/\x.defers.l.length<1000000
 wy:∀ t∈m.ways.l,t.name.length<1000000000000000/\t.triggers.l.length<1000000
 nv:m.vars.l.length<=600
 ne:m.events.l.length<=600
 nr:m.regions.l.length<=600
 nx:m.verts.l.length<=600
 nw:m.ways.l.length<=600
theorem Sp(G:Nat->V)(a:GExp G)(s:List UInt8)(b:s.length<1000000000000000):Spec Tryz.prog G 160 [.str s] Zj (λv _=>v=.bool (Sc s)):=by
 have c:=a.ok;refine Zo 0 10 [.tmp 2] Tryz.func160 λX=>?_;rw[Sc]
 cases h:(s==[])with
 |true=>exact Zq h
 |false=>
  refine Zf h ?_;refine Zc c ?_ (s:=Ry G a s b);refine Z ?_;rw[Bool.false_or,show((P6 s:Int)==2)=(P6 s==2)from by rw[Bool.eq_iff_iff,beq_iff_eq,beq_iff_eq];omega]
theorem Mw(G:Nat->V)(c d:Col)(m:MdM)(v:Int):Spec Tryz.prog G 161 [Zw c d m,.int .i64 v] Zj (λw _=>w=.bool (m.p.stateB v)):=by
 refine Zo 0 23 [.tmp 4] Tryz.func161 λX=>?_;simp only[Zi];refine Z1 ?_;intro j;rw[PM.stateB]
 by_cases f:0<=v
 by_cases b:v<m.p.vertices.length
 obtain⟨k,x,rfl,h,i,g⟩:=MdM.at f b;rw[g,decide_eq_true f,decide_eq_true b,Bool.true_and,Bool.true_and];have a:decide ((k:Int)>=0)=true:=zT;have e:decide ((k:Int)<(m.verts.l.length:Int))=true:=zT;refine Zf (zi i (zi h (zi Zz (zi @Int.natCast_nonneg (zi @Int.ofNat_lt (zi a e)))))) ?_;rfl;have a:decide (v>=0)=true:=zT;have e:decide (v<(m.verts.l.length:Int))=false:=decide_eq_false (by rw[<- m.nv];exact b);rw[decide_eq_false b,Bool.and_false,Bool.false_and];exact Zq (zi a e);have a:decide (v>=0)=false:=zF;rw[decide_eq_false f,Bool.false_and,Bool.false_and];exact Zq a
theorem Zit{ev l:List (List UInt8)}:evB ev l=true↔∀ i s,l[i]?=some s->ev.contains s=true/\(l.take i).contains s=false:=by
 rw[evB,List.all_eq_true]
 constructor
 intro h i s d;have c:i<l.length:=(List.getElem?_eq_some_iff.1 d).1;have:=h i (List.mem_range.2 c);rw[List.getD_eq_getElem?_getD,d]at this;simpa using this;intro h i c;have c:=List.mem_range.1 c;obtain⟨a,b⟩:=h i _ (List.getElem?_eq_getElem c);rw[List.getD_eq_getElem?_getD,List.getElem?_eq_getElem c]
 show(ev.contains l[i] && !(l.take i).contains l[i])=true
 rw[a,b]<;>rfl
theorem He{α : Type}(s:Sl α)(k:Nat):(s.sub 0 k).l=s.l.take k:=by
 cases s with
 |nil=>simp[Sl.sub,Sl.l]
 |mk b l=>simp[Sl.sub,Sl.l]
theorem Nt(G:Nat->V)(j:Y6 G)(c d c1:Col)(m:MdM)(l:Sl (List UInt8))(y:m.events.l.length<1000000)(A:l.l.length<1000000):
  Spec Tryz.prog G 165 [Zw c d m,Za c1 1 V.str l] Zj (λw _=>w=.bool (evB m.events.l l.l)):=by
 refine Zo 0 27 [.tmp 4] Tryz.func165 λX=>?_;simp only[Zi];refine Z ?_;intro D;refine AW.weak (Zl (λo=>o==2) (l:=[(1,Za c1 1 V.str l),(2,.view .new (Zw c d m)),(4,.bool false)]) (m:=[]) ?_ trivial) ?_;refine Zs ?_;exact⟨Zb,Fz.ptr (v:=Zw c d m) (c:=.new) (fz:=0) zp zp,Zb⟩;simp only[Zi];refine Z ?_
 refine Yc l.l.length (λk (_:Unit)=>st [(1,Za c1 1 V.str l),(2,.view .new (Zw c d m)),(7,Za c1 1 V.str l),(8,.int .i64 l.l.length),(9,.int .i64 k)] [])
  (λk _=>∀ i s,i<k->l.l[i]?=some s->m.events.l.contains s=true/\(l.l.take i).contains s=false) 0 () (Nat.zero_le _) (λi s h=>absurd h (Nat.not_lt_zero _)) (Weak.st (T9 Zi) zp) ?_
 intro k _ B q E p
 by_cases b:k<l.l.length
 .have a:decide ((k:Int)<(l.l.length:Int))=true:=zT
  have f:=List.getElem?_eq_getElem b;generalize l.l[k]=x at f;have u:IntKind.i64.wrap ((k:Int)+1)=(k:Int)+1:=Wy zo zo;refine Zf (zi a (zi f Zi)) ?_;refine Zc j ?_ (s:=U2 G j _ x m.events y)
  cases t:m.events.l.contains x with
  |false=>
   refine Zs ?_;refine Z ?_
   have:evB m.events.l l.l=false:=by
    rw[Bool.eq_false_iff];intro h;have:=(Zit.1 h k x f).1;rw[t]at this;cases this
   rw[this]
  |true=>
   refine Zs ?_;refine Xr (zi (Nat.zero_le k) (Nat.le_of_lt b)) ?_;have g:=U2 G j c1.ent x (l.sub 0 k) (by rw[He];simp;omega);rw[He]at g;refine Zc j ?_ (s:=g)
   cases r:(l.l.take k).contains x with
   |true=>
    refine Z ?_
    have:evB m.events.l l.l=false:=by
     rw[Bool.eq_false_iff];intro h;have:=(Zit.1 h k x f).2;rw[r]at this;cases this
    rw[this]
   |false=>
    refine Zf u ?_;refine p _ ⟨b,(),λi s C e=>?_,Weak.st (T9 Zi) zp⟩
    by_cases z:i=k
    subst z;rw[f]at e;obtain rfl:=Option.some.inj e;exact⟨t,r⟩;exact q i s zo e
 have n:k=l.l.length:=zo;subst n;have a:decide ((l.l.length:Int)<(l.l.length:Int))=false:=zS;refine Zf a ?_;rw[Zit.2 λi s e=>q i s (List.getElem?_eq_some_iff.1 e).1 e]
theorem Zks(G:Nat->V)(k:Y6 G)(c d e:Col)(m:MdM)(x:VtM):Spec Tryz.prog G 164 [Zw c d m,Yf e x] Zj (λw _=>w=.bool (m.p.liesB x.p)):=by
 refine Zo 0 38 [.tmp 4] Tryz.func164 λX=>?_;simp only[Zi,Zz];refine Z ?_;intro r o;rw[PM.liesB]
 cases a:(x.kind==10)with
 |true=>
  have j:x.kind=10:=zu a;rw[if_pos (show x.p.kind=10\/x.p.kind=11 from .inl j)]
  show AW _ _ _ (T3 _ _ λw _=>w=.bool ((x.region == -1)&&m.p.stateB x.of)) _
  cases g:(x.region == -1)with
  |false=>exact Zq (zi a (zi Zz g))
  |true=>
   refine Zf (zi a (zi Zz g)) ?_;refine Zc k ?_ (s:=Mw G c.ent d.ent m x.of);refine Z ?_;rw[Bool.true_and]
 |false=>
  have j:¬ x.kind=10:=zu a
  cases b:(x.kind==11)with
  |true=>
   have i:x.kind=11:=zu b;rw[if_pos (show x.p.kind=10\/x.p.kind=11 from .inr i)]
   show AW _ _ _ (T3 _ _ λw _=>w=.bool ((x.region == -1)&&m.p.stateB x.of)) _
   cases g:(x.region == -1)with
   |false=>exact Zq (zi (zi a b) (zi Zz g))
   |true=>
    refine Zf (zi (zi a b) (zi Zz g)) ?_;refine Zc k ?_ (s:=Mw G c.ent d.ent m x.of);refine Z ?_;rw[Bool.true_and]
  |false=>
   have i:¬ x.kind=11:=zu b;rw[if_neg (show ¬ (x.p.kind=10\/x.p.kind=11)from λh=>h.elim j i)]
   show AW _ _ _ (T3 _ _ λw _=>w=.bool ((x.of == -1)&&decide (0<=x.region)&&decide (x.region<m.regions.l.length))) _
   have f:=zi a (zi b Zz)
   cases g:(x.of == -1)with
   |false=>exact Zq (zi f g)
   |true=>
    by_cases n:0<=x.region
    have q:decide (x.region>=0)=true:=zT;rw[decide_eq_true n];exact Zq (zi f (zi g q));have q:decide (x.region>=0)=false:=zF;rw[decide_eq_false n];exact Zq (zi f (zi g q))
theorem Zqj(G:Nat->V)(g:Y6 G)(c d:Col)(m:MdM)(j:m.p.Rt5)(v:Int)(z:0<=v)(x:v<m.p.vertices.length):
  Spec Tryz.prog G 167 [Zw c d m,.int .i64 v] Zj (λw _=>w=.int .i64 (m.p.depth v)):=by
 refine Zo 0 21 [.tmp 4] Tryz.func167 λX=>?_;simp only[Zi];refine Z ?_;intro D;refine AW.weak (Zl (λo=>o==2) (l:=[(1,.int .i64 v),(2,.view .new (Zw c d m))]) (m:=[]) ?_ trivial) ?_;refine Zs ?_;exact⟨Zb,Fz.ptr (v:=Zw c d m) (c:=.new) (fz:=0) zp zp⟩;simp only[Zi];refine Z ?_;refine Zc g ?_ (s:=J5 G g c.ent d.ent m j v z x);refine Z ?_
 refine Vs (fun(y:Nat×Int)=>st [(1,.int .i64 (m.p.around y.2)),(2,.view .new (Zw c d m)),(5,.int .i64 y.1)] [])
  (λy=>y.1<=65/\0<=y.2/\y.2<m.p.vertices.length/\m.p.depth v=y.1+(m.p.upsF (65-y.1) y.2).length) (λy=>65-y.1) (0,v) ⟨Nat.zero_le _,z,x,by rw[Nat.zero_add]<;>rfl⟩ (Weak.st (T9 Zi) zp) ?_
 rintro⟨n,w⟩ ⟨B,t,r,e⟩ E k;simp only at B t r e
 by_cases u:0<=m.p.around w
 have b:decide (m.p.around w>=0)=true:=zT
 by_cases A:n<=64
 have i:decide ((n:Int)<=64)=true:=zT;have C:IntKind.i64.wrap ((n:Int)+1)=(n:Int)+1:=Wy zo zo
 have a:m.p.around w<m.p.vertices.length:=by
  rcases j.rng t r with q|q
  omega;exact q.2
 refine Zf (zi b (zi i (zi C Zi))) ?_;refine Zc g ?_ (s:=J5 G g c.ent d.ent m j (m.p.around w) u a);refine Z ?_;refine k _ ⟨(n+1,m.p.around w),by show 65-(n+1)<65-n;omega,⟨by show n+1<=65;omega,u,a,?_⟩,Weak.st (T9 Zi) zp⟩
 show m.p.depth v=n+1+(m.p.upsF (65-(n+1)) (m.p.around w)).length
 rw[e,show 65-n=(65-(n+1))+1 by omega,PM.upsF,if_neg zo,List.length_cons];omega;have i:decide ((n:Int)<=64)=false:=zF;refine Zf (zi b i) ?_
 rw[e,show 65-n=0 by omega]<;>rfl
 have b:decide (m.p.around w>=0)=false:=zF;refine Zf b ?_
 have:m.p.upsF (65-n) w=[]:=by
  cases h:65-n with
  |zero=>rfl
  |succ f=>rw[PM.upsF,if_pos zo]
 rw[e,this]<;>rfl
def U8(r:Nat×Int×Int):V:=.agg [.int .u8 r.1,.int .i64 r.2.1,.int .i64 r.2.2]
structure FnW{α : Type}(G:Nat->V)(f:FuncId)(cap:List V)(enc : α -> V)(l:List α)(p:Nat->Bool):Prop where
 en:Z7 Tryz.prog f=true
 rc:cap.map (V.recol Col.ent)=cap
 sp:∀ (i:Nat) (x : α),l[i]?=some x->Spec Tryz.prog G f (.int .i64 i::enc x::cap) Zj (λv _=>v=.bool (p i))
theorem Zsb(G:Nat->V)(z:Y6 G)(c:Col)(b a:Nat)(s:Sl (List UInt8×Int))(C:s.l.length<1000000){f:FuncId}{cap:List V}{p:Nat->Bool}(r:FnW G f cap Z3 s.l p):
  Spec Tryz.prog G 151 [.int .u8 b,Za c 2 Z3 s,.int .i64 a,.func (.func f) [] cap] Zj (λv _=>v=U8 (Xq b a p s.l.length)):=by
  refine Zo 0 36 [.cell 8 185] Tryz.func151 λX=>?_;refine Z ?_;intro w;refine Z ?_
  refine Yc s.l.length (λk (_:Unit)=>st [(0,.int .u8 b),(1,Za c 2 Z3 s),(2,.int .i64 a),(3,.func (.func f) [] cap),(8,.ptr 8 w 0),(11,Za c 2 Z3 s),(12,.int .i64 s.l.length),(13,.int .i64 k)] [(8,.cells .new w 0 [.int .u8 0,.int .i64 0,.int .i64 0])])
   (λk _=>∀ i,i<k->i≠a/\p i=true) 0 () (Nat.zero_le _) (λi h=>absurd h (Nat.not_lt_zero _)) (Weak.st zp zp) ?_
  intro k _ D m F t
  by_cases d:k<s.l.length
  have g:decide ((k:Int)<(s.l.length:Int))=true:=zT;have o:=List.getElem?_eq_getElem d;generalize s.l[k]=x at o;have y:IntKind.i64.wrap ((k:Int)+1)=(k:Int)+1:=Wy zo zo;refine Zf (zi g (zi o Wb)) ?_;intro B
  by_cases j:k=a
  have q:((k:Int)==(a:Int))=true:=by simp[j]
  rw[Vt d m (.inl j),if_pos j,j];exact Zh q
  .have q:((k:Int)==(a:Int))=false:=by
    have:¬ (k:Int)=(a:Int):=zo;simpa using this
   refine Zg q ?_;refine Zcf r.rc z ?_ (e:=r.en) (s:=r.sp k x o)
   cases u:p k with
   |false=>
    rw[Vt d m (.inr u),if_neg j];exact Zr
   |true=>
    refine Zf y ?_;refine t _ ⟨d,(),λi E=>?_,Weak.st zp zp⟩
    by_cases A:i=k
    rw[A];exact⟨j,u⟩;exact m i zo
  have n:k=s.l.length:=zo;subst n;have g:decide ((s.l.length:Int)<(s.l.length:Int))=false:=zS;rw[Qz m];exact Zq g
theorem Zub(G:Nat->V)(z:Y6 G)(c:Col)(b a:Nat)(s:Sl (List UInt8))(B:s.l.length<1000000){f:FuncId}{cap:List V}{p:Nat->Bool}(r:FnW G f cap V.str s.l p):
  Spec Tryz.prog G 155 [.int .u8 b,Za c 1 V.str s,.int .i64 a,.func (.func f) [] cap] Zj (λv _=>v=U8 (Xq b a p s.l.length)):=by
  refine Zo 0 36 [.cell 8 185] Tryz.func155 λX=>?_;refine Z ?_;intro w;refine Z ?_
  refine Yc s.l.length (λk (_:Unit)=>st [(0,.int .u8 b),(1,Za c 1 V.str s),(2,.int .i64 a),(3,.func (.func f) [] cap),(8,.ptr 8 w 0),(11,Za c 1 V.str s),(12,.int .i64 s.l.length),(13,.int .i64 k)] [(8,.cells .new w 0 [.int .u8 0,.int .i64 0,.int .i64 0])])
   (λk _=>∀ i,i<k->i≠a/\p i=true) 0 () (Nat.zero_le _) (λi h=>absurd h (Nat.not_lt_zero _)) (Weak.st zp zp) ?_
  intro k _ C n E t
  by_cases d:k<s.l.length
  have g:decide ((k:Int)<(s.l.length:Int))=true:=zT;have m:=List.getElem?_eq_getElem d;generalize s.l[k]=x at m;have y:IntKind.i64.wrap ((k:Int)+1)=(k:Int)+1:=Wy zo zo;refine Zf (zi g (zi m m)) ?_
  skip
  by_cases j:k=a
  have q:((k:Int)==(a:Int))=true:=by simp[j]
  rw[Vt d n (.inl j),if_pos j,j];exact Zh q
  .have q:((k:Int)==(a:Int))=false:=by
    have:¬ (k:Int)=(a:Int):=zo;simpa using this
   refine Zg q ?_;refine Zcf r.rc z ?_ (e:=r.en) (s:=r.sp k x m)
   cases u:p k with
   |false=>
    rw[Vt d n (.inr u),if_neg j];exact Zr
   |true=>
    refine Zf y ?_;refine t _ ⟨d,(),λi D=>?_,Weak.st zp zp⟩
    by_cases A:i=k
    rw[A];exact⟨j,u⟩;exact n i zo
  have o:k=s.l.length:=zo;subst o;have g:decide ((s.l.length:Int)<(s.l.length:Int))=false:=zS;rw[Qz n];exact Zq g
theorem Zvb(G:Nat->V)(z:Y6 G)(c:Col)(b a:Nat)(s:Sl (List UInt8×Int))(C:s.l.length<1000000){f:FuncId}{cap:List V}{p:Nat->Bool}(r:FnW G f cap Z3 s.l p):
  Spec Tryz.prog G 158 [.int .u8 b,Za c 2 Z3 s,.int .i64 a,.func (.func f) [] cap] Zj (λv _=>v=U8 (Xq b a p s.l.length)):=by
  refine Zo 0 36 [.cell 8 185] Tryz.func158 λX=>?_;refine Z ?_;intro w;refine Z ?_
  refine Yc s.l.length (λk (_:Unit)=>st [(0,.int .u8 b),(1,Za c 2 Z3 s),(2,.int .i64 a),(3,.func (.func f) [] cap),(8,.ptr 8 w 0),(11,Za c 2 Z3 s),(12,.int .i64 s.l.length),(13,.int .i64 k)] [(8,.cells .new w 0 [.int .u8 0,.int .i64 0,.int .i64 0])])
   (λk _=>∀ i,i<k->i≠a/\p i=true) 0 () (Nat.zero_le _) (λi h=>absurd h (Nat.not_lt_zero _)) (Weak.st zp zp) ?_
  intro k _ D m F t
  by_cases d:k<s.l.length
  have g:decide ((k:Int)<(s.l.length:Int))=true:=zT;have o:=List.getElem?_eq_getElem d;generalize s.l[k]=x at o;have y:IntKind.i64.wrap ((k:Int)+1)=(k:Int)+1:=Wy zo zo;refine Zf (zi g (zi o Wb)) ?_;intro B
  by_cases j:k=a
  have q:((k:Int)==(a:Int))=true:=by simp[j]
  rw[Vt d m (.inl j),if_pos j,j];exact Zh q
  .have q:((k:Int)==(a:Int))=false:=by
    have:¬ (k:Int)=(a:Int):=zo;simpa using this
   refine Zg q ?_;refine Zcf r.rc z ?_ (e:=r.en) (s:=r.sp k x o)
   cases u:p k with
   |false=>
    rw[Vt d m (.inr u),if_neg j];exact Zr
   |true=>
    refine Zf y ?_;refine t _ ⟨d,(),λi E=>?_,Weak.st zp zp⟩
    by_cases A:i=k
    rw[A];exact⟨j,u⟩;exact m i zo
  have n:k=s.l.length:=zo;subst n;have g:decide ((s.l.length:Int)<(s.l.length:Int))=false:=zS;rw[Qz m];exact Zq g
theorem Jh(G:Nat->V)(A:Y6 G)(c d:Col)(b a:Nat)(s:Sl VtM)(D:s.l.length<1000000){f:FuncId}{cap:List V}{p:Nat->Bool}(t:FnW G f cap (Yf d.ent) s.l p):
  Spec Tryz.prog G 162 [.int .u8 b,Za c 8 (Yf d) s,.int .i64 a,.func (.func f) [] cap] Zj (λv _=>v=U8 (Xq b a p s.l.length)):=by
  refine Zo 0 36 [.cell 8 185] Tryz.func162 λX=>?_;refine Z ?_;intro y;refine Z ?_
  refine Yc s.l.length (λk (_:Unit)=>st [(0,.int .u8 b),(1,Za c 8 (Yf d) s),(2,.int .i64 a),(3,.func (.func f) [] cap),(8,.ptr 8 y 0),(11,Za c 8 (Yf d) s),(12,.int .i64 s.l.length),(13,.int .i64 k)] [(8,.cells .new y 0 [.int .u8 0,.int .i64 0,.int .i64 0])])
   (λk _=>∀ i,i<k->i≠a/\p i=true) 0 () (Nat.zero_le _) (λi h=>absurd h (Nat.not_lt_zero _)) (Weak.st zp zp) ?_
  intro k _ E n H u
  by_cases g:k<s.l.length
  have j:decide ((k:Int)<(s.l.length:Int))=true:=zT;have r:=List.getElem?_eq_getElem g;generalize s.l[k]=x at r;have z:IntKind.i64.wrap ((k:Int)+1)=(k:Int)+1:=Wy zo zo;refine Zf (zi j (zi r Zz)) ?_;intro C
  by_cases m:k=a
  have q:((k:Int)==(a:Int))=true:=by simp[m]
  rw[Vt g n (.inl m),if_pos m,m];exact Zh q
  .have q:((k:Int)==(a:Int))=false:=by
    have:¬ (k:Int)=(a:Int):=zo;simpa using this
   refine Zg q ?_;refine Zcf t.rc A ?_ (e:=t.en) (s:=t.sp k x r)
   cases w:p k with
   |false=>
    rw[Vt g n (.inr w),if_neg m];exact Zr
   |true=>
    refine Zf z ?_;refine u _ ⟨g,(),λi F=>?_,Weak.st zp zp⟩
    by_cases B:i=k
    rw[B];exact⟨m,w⟩;exact n i zo
  have o:k=s.l.length:=zo;subst o;have j:decide ((s.l.length:Int)<(s.l.length:Int))=false:=zS;rw[Qz n];exact Zq j
theorem Ztb(G:Nat->V)(A:Y6 G)(c d:Col)(b a:Nat)(s:Sl TrM)(D:s.l.length<1000000){f:FuncId}{cap:List V}{p:Nat->Bool}(t:FnW G f cap (Yn d.ent) s.l p):
  Spec Tryz.prog G 169 [.int .u8 b,Za c 8 (Yn d) s,.int .i64 a,.func (.func f) [] cap] Zj (λv _=>v=U8 (Xq b a p s.l.length)):=by
  refine Zo 0 36 [.cell 8 185] Tryz.func169 λX=>?_;refine Z ?_;intro y;refine Z ?_
  refine Yc s.l.length (λk (_:Unit)=>st [(0,.int .u8 b),(1,Za c 8 (Yn d) s),(2,.int .i64 a),(3,.func (.func f) [] cap),(8,.ptr 8 y 0),(11,Za c 8 (Yn d) s),(12,.int .i64 s.l.length),(13,.int .i64 k)] [(8,.cells .new y 0 [.int .u8 0,.int .i64 0,.int .i64 0])])
   (λk _=>∀ i,i<k->i≠a/\p i=true) 0 () (Nat.zero_le _) (λi h=>absurd h (Nat.not_lt_zero _)) (Weak.st zp zp) ?_
  intro k _ E n H u
  by_cases g:k<s.l.length
  have j:decide ((k:Int)<(s.l.length:Int))=true:=zT;have r:=List.getElem?_eq_getElem g;generalize s.l[k]=x at r;have z:IntKind.i64.wrap ((k:Int)+1)=(k:Int)+1:=Wy zo zo;refine Zf (zi j (zi r Yg)) ?_;intro C
  by_cases m:k=a
  have q:((k:Int)==(a:Int))=true:=by simp[m]
  rw[Vt g n (.inl m),if_pos m,m];exact Zh q
  .have q:((k:Int)==(a:Int))=false:=by
    have:¬ (k:Int)=(a:Int):=zo;simpa using this
   refine Zg q ?_;refine Zcf t.rc A ?_ (e:=t.en) (s:=t.sp k x r)
   cases w:p k with
   |false=>
    rw[Vt g n (.inr w),if_neg m];exact Zr
   |true=>
    refine Zf z ?_;refine u _ ⟨g,(),λi F=>?_,Weak.st zp zp⟩
    by_cases B:i=k
    rw[B];exact⟨m,w⟩;exact n i zo
  have o:k=s.l.length:=zo;subst o;have j:decide ((s.l.length:Int)<(s.l.length:Int))=false:=zS;rw[Qz n];exact Zq j
theorem Z9q(G:Nat->V)(p:List UInt8×Int)(c:Col)(a:List UInt8×Int):Spec Tryz.prog G 154 [Z3 p,.view c (Z3 a)] Zj (λv _=>v=.bool (p.1==a.1)):=by
 refine Zo 0 9 [.tmp 3] Tryz.func154 λX=>?_;simp only[Wb];refine Z ?_;intro b;exact Zr
theorem Z80(G:Nat->V)(m:Y6 G)(c c1:Col)(s:Sl (List UInt8×Int))(n:s.l.length<1000000)(a:List UInt8×Int):
  Spec Tryz.prog G 214 [Za c 2 Z3 s,.func (.func 154) [] [.view c1 (Z3 a)]] Zj (λv _=>v=.int .i64 (Rz (λp=>p.1==a.1) s.l)):=by
 refine Zo 0 19 [.tmp 4] Tryz.func214 λX=>?_;refine Z ?_
 refine Yc s.l.length (λk (_:Unit)=>st [(0,Za c 2 Z3 s),(1,.func (.func 154) [] [.view c1 (Z3 a)]),(7,.int .i64 s.l.length),(8,.int .i64 k)] []) (λk _=>∀ y∈s.l.take k,(y.1==a.1)=false) 0 () (Nat.zero_le _) zS
  (Weak.st zp zp) ?_
 intro k _ o f q h
 by_cases d:k<s.l.length
 .have b:decide ((k:Int)<(s.l.length:Int))=true:=zT
  have e:=List.getElem?_eq_getElem d;generalize s.l[k]=x at e;refine Zf (zi b (zi e Wb)) ?_;refine Zcf @Wb m ?_ (s:=Z9q G x c1.ent a)
  cases i:(x.1==a.1)with
  |true=>
   refine Z ?_;rw[V2 (p:=λp:List UInt8×Int=>p.1==a.1) e f i]
  |false=>
   have j:IntKind.i64.wrap ((k:Int)+1)=(k:Int)+1:=Wy zo zo;refine Zf j ?_;exact h _ ⟨d,(),take_all e f i,Weak.st (T9 @Wb) zp⟩
 have g:k=s.l.length:=zo;have b:decide ((k:Int)<(s.l.length:Int))=false:=zF;rw[g,List.take_length]at f;refine Zf b ?_;rw[V3 (p:=λp:List UInt8×Int=>p.1==a.1) f]
theorem Ot{α : Type}(p : α -> Bool)(l:List α):decide (Rz p l>=0)=l.any p:=by
 unfold Rz
 cases h:l.findIdx? p with
 |none=>
  rw[List.findIdx?_eq_none_iff]at h;rw[List.any_eq_false.2 (λx a=>by rw[h x a];decide)];rfl
 |some i=>
  obtain⟨c,b,_⟩:=List.findIdx?_eq_some_iff_getElem.1 h;rw[List.any_eq_true.2 ⟨_,List.getElem_mem c,b⟩];exact decide_eq_true (Int.natCast_nonneg i)
theorem Z11(G:Nat->V)(b:Y6 G)(c c1:Col)(s:Sl (List UInt8×Int))(d:s.l.length<1000000)(a:List UInt8×Int):
  Spec Tryz.prog G 153 [Za c 2 Z3 s,.func (.func 154) [] [.view c1 (Z3 a)]] Zj (λv _=>v=.bool (s.l.any λp=>p.1==a.1)):=by
 refine Zo 0 9 [.tmp 4] Tryz.func153 λX=>?_;refine Z ?_;refine Zcf @Wb b ?_ (s:=Z80 G b c.ent c1.ent s d a);refine Z ?_;rw[Ot]
theorem isI(s:List UInt8):((P6 s:Int)==2)=(P6 s==2):=by rw[Bool.eq_iff_iff,beq_iff_eq,beq_iff_eq];omega
theorem Zxi(c d:Col)(m:MdM):[V.view .old (Zw c.ent d.ent m)].map (V.recol Col.ent)=[V.view .old (Zw c.ent d.ent m)]:=by
 simp only[List.map_cons,List.map_nil,V.recol,Vq,Ij];rfl
theorem Zq1(G:Nat->V)(g:GExp G)(c1 c d:Col)(m:MdM)(t:m.vars.l.length<1000000)(i:Nat){x:List UInt8×Int}(f:m.vars.l[i]?=some x)(k:x.1.length<1000000000000000):
  Spec Tryz.prog G 152 [.int .i64 i,Z3 x,.view c1 (Zw c d m)] Zj (λv _=>v=.bool (m.p.varB i)):=by
 have e:=g.ok;refine Zo 0 24 [.tmp 5] Tryz.func152 λX=>?_;have r:i<m.vars.l.length:=(List.getElem?_eq_some_iff.1 f).1
 have n:m.p.nameAt i=x.1:=by
  show(m.vars.l.getD i ([],0)).1=x.1
  rw[List.getD_eq_getElem?_getD,f]<;>rfl
 rw[PM.varB,n];simp only[Zi,Wb];refine Z ?_;intro u;refine AW.weak (Zl (λo=>o==4) (l:=[(0,.int .i64 i),(2,.view c1 (Zw c d m)),(4,.view .new (Z3 x))]) (m:=[]) ?_ trivial) ?_;refine Xr @Zi ?_;exact⟨Zb,Zb,Fz.ptr (v:=Z3 x) (c:=.new) (fz:=0) zp zp⟩;simp only[Zi];refine Zf Wb ?_;refine Zc e ?_ (s:=Ry G g x.1 k);have b:=isI x.1
 cases j:(P6 x.1==2)with
 |false=>
  rw[j]at b;exact Zh b
 |true=>
  rw[j]at b
  cases h:(x.1==Pd)with
  |true=>
   have q:(x.1==[97,114,103])=true:=h;exact Zh (zi b (zi q Wb))
  |false=>
   have q:(x.1==[97,114,103])=false:=h;refine Zg (zi b (zi q (zi Wb (zi (Nat.zero_le i) (Nat.le_of_lt r))))) ?_;have a:=Z11 G e c.ent .old (m.vars.sub 0 i) (by rw[He];simp;omega) x;rw[He]at a;refine Zcf @Wb e ?_ (s:=a);exact Zr
theorem Zr1(G:Nat->V)(g:GExp G)(c1 c d:Col)(m:MdM)(o:m.events.l.length<1000000)(i:Nat){x:List UInt8}(f:m.events.l[i]?=some x)(j:x.length<1000000000000000):
  Spec Tryz.prog G 156 [.int .i64 i,.str x,.view c1 (Zw c d m)] Zj (λv _=>v=.bool (m.p.signalB i)):=by
 have e:=g.ok;refine Zo 0 18 [.tmp 5] Tryz.func156 λX=>?_;have n:i<m.events.l.length:=(List.getElem?_eq_some_iff.1 f).1
 have k:m.p.events.getD i []=x:=by
  show m.events.l.getD i []=x
  rw[List.getD_eq_getElem?_getD,f]<;>rfl
 rw[PM.signalB,k];simp only[Zi];refine Z ?_;refine Zc e ?_ (s:=Ry G g x j);have b:=isI x
 cases h:(P6 x==2)with
 |false=>
  rw[h]at b;exact Zh b
 |true=>
  rw[h]at b;refine Zg (zi b (zi (Nat.zero_le i) (Nat.le_of_lt n))) ?_;have a:=U2 G e c.ent x (m.events.sub 0 i) (by rw[He];simp;omega);rw[He]at a;refine Zc e ?_ (s:=a);exact Zr
theorem Zs1(G:Nat->V)(j:GExp G)(c1 c d:Col)(m:MdM)(i:Nat){x:List UInt8×Int}(r:m.regions.l[i]?=some x)(o:x.1.length<1000000000000000):
  Spec Tryz.prog G 159 [.int .i64 i,Z3 x,.view c1 (Zw c d m)] Zj (λv _=>v=.bool (m.p.regionB i)):=by
 have g:=j.ok;refine Zo 0 35 [.tmp 5] Tryz.func159 λX=>?_
 have w:(m.p.regions.getD i ([],0))=x:=by
  show m.regions.l.getD i ([],0)=x
  rw[List.getD_eq_getElem?_getD,r]<;>rfl
 have b:m.p.ow (i:Int)=x.2:=Gr r;rw[PM.regionB,w];simp only[Zi,Wb];refine Z ?_;intro A
 by_cases h:i=0
 .rw[if_pos h]
  rw[h]at b;rw[show m.p.ow 0=x.2 from b]
  have q:((i:Int)==0)=true:=by simp[h]
  refine Zf q ?_;refine Zc g ?_ (s:=Sp G j x.1 o)
  cases a:Sc x.1 with
  |false=>exact Zh a
  |true=>exact Zh a
 .rw[if_neg h,b]
  have q:((i:Int)==0)=false:=by
   have:¬ (i:Int)=0:=zo;simpa using this
  refine Zf q ?_;refine Zc g ?_ (s:=Sp G j x.1 o)
  cases a:Sc x.1 with
  |false=>exact Zh a
  |true=>
   refine Zg a ?_;refine Zc g ?_ (s:=Mw G c.ent d.ent m x.2)
   cases t:m.p.stateB x.2 with
   |false=>exact Zh t
   |true=>
    have n:=t;simp only[PM.stateB,Bool.and_eq_true,decide_eq_true_eq]at n;obtain⟨k,y,f,z,e,u⟩:=MdM.at n.1.1 n.1.2;rw[u];exact Zh (zi f (zi e (zi z (zi Zz Yh))))
theorem Zp1(G:Nat->V)(w:GExp G)(c1 c d e:Col)(m:MdM)(B:m.events.l.length<1000000)(i:Nat){x:VtM}(E:m.verts.l[i]?=some x)(H:x.name.length<1000000000000000)(D:x.sub.length<1000000000000000)(C:x.defers.l.length<1000000):
  Spec Tryz.prog G 163 [.int .i64 i,Yf e x,.view c1 (Zw c d m)] Zj (λv _=>v=.bool (m.p.vertexB (m.p.vx i))):=by
 have k:=w.ok;refine Zo 0 75 [.tmp 5] Tryz.func163 λX=>?_;rw[Qx E]
 have F:m.p.vertexB x.p=(Sc x.name&&decide (1<=x.kind)&&decide (x.kind<=12)&&m.p.liesB x.p&&((x.entry==[]&&x.exit==[]&&decide (x.defers.l.length=0)&&x.sub==[])||x.kind==1)&&Sc x.sub &&
  decide (x.entry.length<=4096)&&decide (x.exit.length<=4096)&&evB m.events.l x.defers.l):=rfl
 rw[F];simp only[Zi,Zz];refine Z ?_;intro I;refine AW.weak (Zl (λo=>o==4) (l:=[(2,.view c1 (Zw c d m)),(4,.view .new (Yf e x))]) (m:=[]) ?_ trivial) ?_;refine Xr @Zi ?_;exact⟨Zb,Fz.ptr (v:=Yf e x) (c:=.new) (fz:=0) zp zp⟩;generalize a:(x.entry==[]&&x.exit==[]&&decide (x.defers.l.length=0)&&x.sub==[])=A;refine Wq (fun(_:Unit)=>st [(2,.view c1 (Zw c d m)),(4,.view .new (Yf e x)),(6,.bool A)] []) (λ_=>True) (λJ j=>?_) ?_
 .have hz:(((x.defers.l.length:Nat):Int)==0)=decide (x.defers.l.length=0):=by
   rw[Bool.eq_iff_iff,beq_iff_eq,decide_eq_true_eq];omega
  cases f:(x.entry==[])with
  |false=>
   rw[f]at a;subst a;refine Zf (zi f Zz) ?_;exact j _ () trivial (Weak.st (T9 (zi @Zz @Zi)) zp)
  |true=>
  cases h:(x.exit==[])with
  |false=>
   rw[f,h]at a;subst a;refine Zf (zi f (zi h Zz)) ?_;exact j _ () trivial (Weak.st (T9 (zi @Zz @Zi)) zp)
  |true=>
  cases t:decide (x.defers.l.length=0)with
  |false=>
   rw[t]at hz;rw[f,h,t]at a;subst a;refine Zf (zi f (zi h (zi hz Zz))) ?_;exact j _ () trivial (Weak.st (T9 (zi @Zz @Zi)) zp)
  |true=>
   rw[t]at hz;rw[f,h,t]at a;subst a;refine Zf (zi f (zi h (zi hz Zz))) ?_;exact j _ () trivial (Weak.st (T9 (zi @Zz @Zi)) zp)
 intro _ _;refine Zf Zz ?_;refine Zc k ?_ (s:=Sp G w x.name H);cases f:Sc x.name;exact Zh f
 by_cases h:1<=x.kind
 rotate_left;have y:decide (x.kind>=1)=false:=zF;rw[decide_eq_false h];exact Zh y;have y:decide (x.kind>=1)=true:=zT;rw[decide_eq_true h]
 by_cases t:x.kind<=12
 rotate_left;have f3:decide (x.kind<=12)=false:=zF;rw[f3];exact Zh (zi y (zi f3 Zz));have f3:decide (x.kind<=12)=true:=zT;rw[f3];refine Zg (zi y (zi f3 (zi Zz Zi))) ?_;refine Zc k ?_ (s:=Zks G k c.ent d.ent e.ent m x);cases u:m.p.liesB x.p;exact Zh u;cases A;cases z:(x.kind==1);exact Zh (zi u (zi z Zz));refine Zg (zi u (zi z (zi Zz Zi))) ?_;refine Zc k ?_ (s:=Sp G w x.sub D);cases g:Sc x.sub;exact Zh g;have b:decide (((x.entry.length:Nat):Int)<=4096)=decide (x.entry.length<=4096):=decide_eq_decide.2 zo;have n:decide (((x.exit.length:Nat):Int)<=4096)=decide (x.exit.length<=4096):=decide_eq_decide.2 zo;cases r:decide (x.entry.length<=4096);rw[r]at b;exact Zh (zi g (zi b Zz));rw[r]at b;cases q:decide (x.exit.length<=4096);rw[q]at n;exact Zh (zi g (zi b (zi n Zz)));rw[q]at n;refine Zg (zi g (zi b (zi n (zi Zz Zi)))) ?_;refine Zc k ?_ (s:=Nt G k c.ent d.ent e.ent m x.defers B C);exact Zr;refine Zg (zi u (zi Zz Zi)) ?_;refine Zc k ?_ (s:=Sp G w x.sub D);cases g:Sc x.sub;exact Zh g;have b:decide (((x.entry.length:Nat):Int)<=4096)=decide (x.entry.length<=4096):=decide_eq_decide.2 zo;have n:decide (((x.exit.length:Nat):Int)<=4096)=decide (x.exit.length<=4096):=decide_eq_decide.2 zo;cases r:decide (x.entry.length<=4096);rw[r]at b;exact Zh (zi g (zi b Zz));rw[r]at b;cases q:decide (x.exit.length<=4096);rw[q]at n;exact Zh (zi g (zi b (zi n Zz)))
 rw[q]at n;refine Zg (zi g (zi b (zi n (zi Zz Zi)))) ?_;refine Zc k ?_ (s:=Nt G k c.ent d.ent e.ent m x.defers B C);exact Zr
theorem Zgt(G:Nat->V)(a:Y6 G)(c1 c d e:Col)(m:MdM)(b:m.p.Rt5)(i:Nat){x:VtM}(f:m.verts.l[i]?=some x):
  Spec Tryz.prog G 166 [.int .i64 i,Yf e x,.view c1 (Zw c d m)] Zj (λv _=>v=.bool (m.p.deepB i)):=by
 refine Zo 0 10 [.tmp 5] Tryz.func166 λX=>?_;have h:i<m.verts.l.length:=(List.getElem?_eq_some_iff.1 f).1;have g:m.p.deepB i=decide (((m.p.depth i:Nat):Int)<=64):=decide_eq_decide.2 zo;rw[g];simp only[Zi,Zz];refine Z ?_;intro j;refine Z ?_;refine Zc a ?_ (s:=Zqj G a c.ent d.ent m b i zo (by rw[m.nv];omega));exact Zr
theorem Zgk(G:Nat->V)(c1 c d:Col)(m:MdM)(v:Int):Spec Tryz.prog G 168 [.int .i64 v,.view c1 (Zw c d m)] Zj (λw _=>w=.bool (m.p.inV v)):=by
 refine Zo 0 13 [.tmp 3] Tryz.func168 λX=>?_;rw[PM.inV,m.nv];simp only[Zi]
 by_cases a:0<=v
 have q:decide (v>=0)=true:=zT;rw[decide_eq_true a];exact Zq q;have q:decide (v>=0)=false:=zF;rw[decide_eq_false a];exact Zq q
theorem Zo1(G:Nat->V)(F:GExp G)(c1 K w c d y u e:Col)(m:MdM)(I:m.events.l.length<1000000)(i:Nat){x:TrM}(H:m.ways.l[i]?=some x)(M:x.name.length<1000000000000000)(L:x.triggers.l.length<1000000):
  Spec Tryz.prog G 170 [.int .i64 i,Yn e x,.view K (.func (.func 168) [] [.view w (Zw y u m)]),.view c1 (Zw c d m)] Zj (λv _=>v=.bool (m.p.wayB (m.p.wy i))):=by
 have o:=F.ok;refine Zo 0 71 [.tmp 6] Tryz.func170 λX=>?_;rw[O8 H]
 have J:m.p.wayB x.p=(Sc x.name&&m.p.inV x.source&&m.p.inV x.target&&evB m.events.l x.triggers.l&&decide (0<=x.after)&&decide (x.after<=65535)&&(x.after==0||decide (x.triggers.l.length=0)) &&
  decide (1<=x.kind)&&decide (x.kind<=3)&&decide (x.guard.length<=4096)&&decide (x.effect.length<=4096)):=rfl
 rw[J];simp only[Yg];refine Z ?_;intro N;refine Ua zk ?_;simp -implicitDefEqProofs only[go_sem,seval,Yg,List.append_eq];refine Zc o ?_ (s:=Sp G F x.name M);cases E:Sc x.name;exact Zh E;refine Zg E ?_;refine Zc o ?_ (s:=Zgk G w.ent y.ent u.ent m x.source);cases D:m.p.inV x.source;exact Zh D;refine Zg D ?_;refine Zc o ?_ (s:=Zgk G w.ent y.ent u.ent m x.target);cases C:m.p.inV x.target;exact Zh C;refine Zg (zi C Zi) ?_;refine Zc o ?_ (s:=Nt G o c.ent d.ent e.ent m x.triggers I L);cases q:evB m.events.l x.triggers.l;exact Zh q
 by_cases B:0<=x.after
 rotate_left;have r:decide (x.after>=0)=false:=zF;rw[decide_eq_false B];exact Zh (zi q r);have r:decide (x.after>=0)=true:=zT;rw[decide_eq_true B];cases A:decide (x.after<=65535);exact Zh (zi q (zi r A));have f:=zi q (zi r A);cases b:(x.after==0)
 have j:(((x.triggers.l.length:Nat):Int)==0)=decide (x.triggers.l.length=0):=by
  rw[Bool.eq_iff_iff,beq_iff_eq,decide_eq_true_eq];omega
 cases z:decide (x.triggers.l.length=0);rw[z]at j;exact Zh (zi f (zi b j))
 .rw[z]at j
  by_cases n:1<=x.kind
  rotate_left;have a:decide (x.kind>=1)=false:=zF;rw[decide_eq_false n];exact Zh (zi (zi f (zi b j)) a);have a:decide (x.kind>=1)=true:=zT;rw[decide_eq_true n];cases h:decide (x.kind<=3);exact Zh (zi (zi f (zi b j)) (zi a h));have g:decide (((x.guard.length:Nat):Int)<=4096)=decide (x.guard.length<=4096):=decide_eq_decide.2 zo;have t:decide (((x.effect.length:Nat):Int)<=4096)=decide (x.effect.length<=4096):=decide_eq_decide.2 zo;cases k:decide (x.guard.length<=4096);rw[k]at g;exact Zh (zi (zi f (zi b j)) (zi a (zi h g)));rw[k]at g;exact Zh (zi (zi f (zi b j)) (zi a (zi h (zi g t))))
 .by_cases n:1<=x.kind
  rotate_left;have a:decide (x.kind>=1)=false:=zF;rw[decide_eq_false n];exact Zh (zi (zi f b) a);have a:decide (x.kind>=1)=true:=zT;rw[decide_eq_true n];cases h:decide (x.kind<=3);exact Zh (zi (zi f b) (zi a h));have g:decide (((x.guard.length:Nat):Int)<=4096)=decide (x.guard.length<=4096):=decide_eq_decide.2 zo;have t:decide (((x.effect.length:Nat):Int)<=4096)=decide (x.effect.length<=4096):=decide_eq_decide.2 zo;cases k:decide (x.guard.length<=4096);rw[k]at g;exact Zh (zi (zi f b) (zi a (zi h g)));rw[k]at g;exact Zh (zi (zi f b) (zi a (zi h (zi g t))))
def Ag(s:List UInt8):Prop:=s.length<=140737488351232
structure MdR(m:MdM):Prop where
 nm:Ag m.name
 var:m.vars.l.length<=140737488351232/\∀ p∈m.vars.l,Ag p.1
 ev:m.events.l.length<=140737488351232/\∀ s∈m.events.l,Ag s
 rg:m.regions.l.length<=140737488351232/\∀ p∈m.regions.l,Ag p.1
 vt:m.verts.l.length<=140737488351232/\∀ x∈m.verts.l,Ag x.name/\Ag x.entry/\Ag x.exit/\Ag x.sub/\x.defers.l.length<=140737488351232/\∀ s∈x.defers.l,Ag s
 wy:m.ways.l.length<=140737488351232/\∀ x∈m.ways.l,Ag x.name/\Ag x.guard/\Ag x.effect/\x.triggers.l.length<=140737488351232/\∀ s∈x.triggers.l,Ag s
def Wr(s:List UInt8):Bool:=decide (s.length<=100)||decide (4096<s.length)
def Nz(n most:Nat):Bool:=decide (n<=40)||(decide (most<n)&&decide (n<=600))
theorem Oz{n a:Nat}(h:Nz n a=true):n<=600:=by
 simp only[Nz,Bool.or_eq_true,Bool.and_eq_true,decide_eq_true_eq]at h;omega
structure FewM(m:MdM):Prop where
 nv:m.vars.l.length<=600
 ne:m.events.l.length<=600
 nr:m.regions.l.length<=600
 nx:m.verts.l.length<=600
 nw:m.ways.l.length<=600
 vt:∀ x∈m.verts.l,Wr x.entry=true/\Wr x.exit=true/\x.defers.l.length<=40
 wy:∀ x∈m.ways.l,Wr x.guard=true/\Wr x.effect=true/\x.triggers.l.length<=40
theorem Rx(G:Nat->V)(n a:Nat):Spec Tryz.prog G 49 [.int .i64 n,.int .i64 a] Zj (λv _=>v=.bool (Nz n a)):=by
 refine Zo 0 16 [.tmp 4] Tryz.func49 λX=>?_;rw[Nz];have b:decide ((n:Int)<=40)=decide (n<=40):=decide_eq_decide.2 zo;have c:decide ((n:Int)>(a:Int))=decide (a<n):=decide_eq_decide.2 zo;have f:decide ((n:Int)<=600)=decide (n<=600):=decide_eq_decide.2 zo;cases e:decide (n<=40);rw[e]at b;cases d:decide (a<n);rw[d]at c;exact Zq (zi b c);rw[d]at c;exact Zq (zi b (zi c f));rw[e]at b;exact Zq b
theorem Uc(G:Nat->V)(s:List UInt8):Spec Tryz.prog G 50 [.str s] Zj (λv _=>v=.bool (Wr s)):=by
 refine Zo 0 11 [.tmp 2] Tryz.func50 λX=>?_;rw[Wr];have a:decide ((s.length:Int)<=100)=decide (s.length<=100):=decide_eq_decide.2 zo;have c:decide ((s.length:Int)>4096)=decide (4096<s.length):=decide_eq_decide.2 zo;cases b:decide (s.length<=100);rw[b]at a;exact Zq (zi a c);rw[b]at a;exact Zq a
theorem G5(G:Nat->V)(j:Y6 G)(c:Col)(l:Sl (List UInt8))(m:l.l.length<=140737488351232):
  Spec Tryz.prog G 52 [Za c 1 V.str l] Zj (λv _=>∃ b,v=.bool b/\(b=true->l.l.length<=40)):=by
 refine Zo 0 19 [.tmp 2] Tryz.func52 λX=>?_;refine Z ?_;refine Yc l.l.length (λk (_:Unit)=>st [(0,Za c 1 V.str l),(3,.int .i64 k)] []) (λ_ _=>True) 0 () (Nat.zero_le _) trivial (Weak.st zp zp) ?_;intro k _ n _ o f
 by_cases d:k<l.l.length
 have a:decide ((k:Int)<(l.l.length:Int))=true:=zT;have g:=List.getElem?_eq_getElem d;generalize l.l[k]=x at g;have i:IntKind.i64.wrap ((k:Int)+1)=(k:Int)+1:=Wy zo zo;refine Zf (zi a (zi g (zi d Yh))) ?_;refine Zc j ?_ (s:=Uc G x);cases q:Wr x;refine Zg q ?_;exact⟨_,rfl,λh=>by cases h⟩;refine Zg (zi q i) ?_;exact f _ ⟨d,(),trivial,Weak.st zp zp⟩;have e:k=l.l.length:=zo;have a:decide ((k:Int)<(l.l.length:Int))=false:=zF;rw[e]at a⊢;refine Zf a ?_;exact⟨_,rfl,λh=>by have:=of_decide_eq_true h;omega⟩
theorem Ur(G:Nat->V)(S:Y6 G)(c d:Col)(m:MdM)(j:MdR m):Spec Tryz.prog G 51 [Zw c d m] Zj (λv _=>∃ b,v=.bool b/\(b=true->FewM m)):=by
 refine Zo 0 97 [.tmp 2] Tryz.func51 λX=>?_;have b1:=j.var.1;have b2:=j.ev.1;have b3:=j.rg.1;have b4:=j.vt.1;have b5:=j.wy.1;simp only[Zi];refine Z ?_;intro g1;refine AW.weak (Zl (λo=>o==1) (l:=[(1,.view .new (Zw c d m))]) (m:=[]) ?_ trivial) ?_;refine Zs ?_;exact Fz.ptr (v:=Zw c d m) (c:=.new) (fz:=0) zp zp;have u:IntKind.i64.wrap ((m.vars.l.length:Int)+(m.events.l.length:Int))=(m.vars.l.length:Int)+(m.events.l.length:Int):=Wy zo zo
 by_cases Y:m.vars.l.length+m.events.l.length>0
 have t:decide ((m.vars.l.length:Int)+(m.events.l.length:Int)>0)=true:=zT;refine Zf (zi u (zi t Zi)) ?_;exact⟨_,rfl,λh=>by cases h⟩;have t:decide ((m.vars.l.length:Int)+(m.events.l.length:Int)>0)=false:=zF
 by_cases W:m.verts.l.length>70
 have C:decide ((m.verts.l.length:Int)>70)=true:=zT;refine Zf (zi u (zi t (zi C Zi))) ?_;exact⟨_,rfl,λh=>by cases h⟩;have C:decide ((m.verts.l.length:Int)>70)=false:=zF
 by_cases U:m.ways.l.length>600
 have D:decide ((m.ways.l.length:Int)>600)=true:=zT;refine Zf (zi u (zi t (zi C (zi D Zi)))) ?_;exact⟨_,rfl,λh=>by cases h⟩;have D:decide ((m.ways.l.length:Int)>600)=false:=zF
 by_cases T:m.regions.l.length>70
 have f3:decide ((m.regions.l.length:Int)>70)=true:=zT;refine Zf (zi u (zi t (zi C (zi D (zi f3 Zi))))) ?_;exact⟨_,rfl,λh=>by cases h⟩;have f3:decide ((m.regions.l.length:Int)>70)=false:=zF;refine Xm (zi u (zi t (zi C (zi D (zi f3 Zi))))) ?_;refine Z0 ?_;refine Wq (fun(_:Unit)=>st [(1,.view .new (Zw c d m))] []) (λ_=>∀ x∈m.verts.l,Wr x.entry=true/\Wr x.exit=true/\x.defers.l.length<=40) (λR s=>?_) ?_
 .refine Z ?_
  refine Yc m.verts.l.length (λk (_:Unit)=>st [(1,.view .new (Zw c d m)),(3,.int .i64 k)] []) (λk _=>∀ x∈m.verts.l.take k,Wr x.entry=true/\Wr x.exit=true/\x.defers.l.length<=40) 0 () (Nat.zero_le _) zS (Weak.st (T9 Zi) zp) ?_;intro k _ O p Q r
  by_cases a:k<m.verts.l.length
  rotate_left;have n:k=m.verts.l.length:=zo;have e:decide ((k:Int)<(m.verts.l.length:Int))=false:=zF;rw[n,List.take_length]at p;refine Zf (zi e Zi) ?_;exact s _ () p (Weak.st (T9 Zi) zp);have e:decide ((k:Int)<(m.verts.l.length:Int))=true:=zT;have B:=List.getElem?_eq_getElem a;obtain⟨A,z,w,M,F,_⟩:=j.vt.2 _ (List.getElem_mem a)
  have i:m.verts.l.take (k+1)=m.verts.l.take k++[m.verts.l[k]]:=by rw[List.take_succ_eq_append_getElem a]
  generalize m.verts.l[k]=x at B A z w M F i;unfold Ag at A z w M;have E:IntKind.i64.wrap ((k:Int)+1)=(k:Int)+1:=Wy zo zo;have L:IntKind.i64.wrap ((x.name.length:Int)+(x.entry.length:Int))=(x.name.length:Int)+(x.entry.length:Int):=Wy zo zo;have K:IntKind.i64.wrap ((x.name.length:Int)+(x.entry.length:Int)+(x.exit.length:Int))=(x.name.length:Int)+(x.entry.length:Int)+(x.exit.length:Int):=Wy zo zo;have P:IntKind.i64.wrap ((x.name.length:Int)+(x.entry.length:Int)+(x.exit.length:Int)+(x.sub.length:Int))=(x.name.length:Int)+(x.entry.length:Int)+(x.exit.length:Int)+(x.sub.length:Int):=Wy zo zo;have J:IntKind.i64.wrap ((x.name.length:Int)+(x.entry.length:Int)+(x.exit.length:Int)+(x.sub.length:Int)+(x.defers.l.length:Int))=(x.name.length:Int)+(x.entry.length:Int)+(x.exit.length:Int)+(x.sub.length:Int)+(x.defers.l.length:Int):=Wy zo zo;refine Xm (zi e Zi) ?_;refine Xm (zi B (zi a (zi Zz (zi Zi Yh)))) ?_;intro g4;refine Zs ?_;have f:=zi L (zi K (zi P (zi J Zz)))
  by_cases N:x.name.length+x.entry.length+x.exit.length+x.sub.length+x.defers.l.length>9
  have q:decide ((x.name.length:Int)+(x.entry.length:Int)+(x.exit.length:Int)+(x.sub.length:Int)+(x.defers.l.length:Int)>9)=true:=zT;refine Zf (zi q f) ?_;exact⟨_,rfl,λh=>by cases h⟩;have q:decide ((x.name.length:Int)+(x.entry.length:Int)+(x.exit.length:Int)+(x.sub.length:Int)+(x.defers.l.length:Int)>9)=false:=zF;refine Zf (zi q (zi E f)) ?_;refine r _ ⟨a,(),λy g=>?_,Weak.st (T9 Zi) zp⟩;rw[i]at g
  rcases List.mem_append.1 g with g|g
  exact p y g;rw[List.mem_singleton.1 g];exact⟨by simp only[Wr,Bool.or_eq_true,decide_eq_true_eq];omega,by simp only[Wr,Bool.or_eq_true,decide_eq_true_eq];omega,zo⟩
 intro _ I;refine Wq (fun(_:Unit)=>st [(1,.view .new (Zw c d m))] []) (λ_=>∀ x∈m.ways.l,Wr x.guard=true/\Wr x.effect=true/\x.triggers.l.length<=40) (λR s=>?_) ?_
 .refine Z ?_
  refine Yc m.ways.l.length (λk (_:Unit)=>st [(1,.view .new (Zw c d m)),(5,.int .i64 k)] []) (λk _=>∀ x∈m.ways.l.take k,Wr x.guard=true/\Wr x.effect=true/\x.triggers.l.length<=40) 0 () (Nat.zero_le _) zS (Weak.st (T9 Zi) zp) ?_;intro k _ O p Q r
  by_cases a:k<m.ways.l.length
  rotate_left;have n:k=m.ways.l.length:=zo;have e:decide ((k:Int)<(m.ways.l.length:Int))=false:=zF;rw[n,List.take_length]at p;refine Zf (zi e Zi) ?_;exact s _ () p (Weak.st (T9 Zi) zp);have e:decide ((k:Int)<(m.ways.l.length:Int))=true:=zT;have B:=List.getElem?_eq_getElem a;obtain⟨A,z,w,F,_⟩:=j.wy.2 _ (List.getElem_mem a)
  have i:m.ways.l.take (k+1)=m.ways.l.take k++[m.ways.l[k]]:=by rw[List.take_succ_eq_append_getElem a]
  generalize m.ways.l[k]=x at B A z w F i;unfold Ag at A z w;have E:IntKind.i64.wrap ((k:Int)+1)=(k:Int)+1:=Wy zo zo;have L:IntKind.i64.wrap ((x.name.length:Int)+(x.guard.length:Int))=(x.name.length:Int)+(x.guard.length:Int):=Wy zo zo;have K:IntKind.i64.wrap ((x.name.length:Int)+(x.guard.length:Int)+(x.effect.length:Int))=(x.name.length:Int)+(x.guard.length:Int)+(x.effect.length:Int):=Wy zo zo;have J:IntKind.i64.wrap ((x.name.length:Int)+(x.guard.length:Int)+(x.effect.length:Int)+(x.triggers.l.length:Int))=(x.name.length:Int)+(x.guard.length:Int)+(x.effect.length:Int)+(x.triggers.l.length:Int):=Wy zo zo;refine Xm (zi e Zi) ?_;refine Xm (zi B (zi a (zi Yg (zi Zi Yh)))) ?_;intro g6;refine Zs ?_;have f:=zi L (zi K (zi J Yg))
  by_cases N:x.name.length+x.guard.length+x.effect.length+x.triggers.l.length>9
  have q:decide ((x.name.length:Int)+(x.guard.length:Int)+(x.effect.length:Int)+(x.triggers.l.length:Int)>9)=true:=zT;refine Zf (zi q f) ?_;exact⟨_,rfl,λh=>by cases h⟩;have q:decide ((x.name.length:Int)+(x.guard.length:Int)+(x.effect.length:Int)+(x.triggers.l.length:Int)>9)=false:=zF;refine Zf (zi q (zi E f)) ?_;refine r _ ⟨a,(),λy g=>?_,Weak.st (T9 Zi) zp⟩;rw[i]at g
  rcases List.mem_append.1 g with g|g
  exact p y g;rw[List.mem_singleton.1 g];exact⟨by simp only[Wr,Bool.or_eq_true,decide_eq_true_eq];omega,by simp only[Wr,Bool.or_eq_true,decide_eq_true_eq];omega,zo⟩
 intro _ H;refine Zf Zi ?_;exact⟨_,rfl,λ_=>⟨zo,zo,zo,zo,zo,I,H⟩⟩
theorem Zd0(G:Nat->V)(a:Y6 G)(c d:Col)(m:MdM)(n:MdR m):Spec Tryz.prog G 20 [Zw c d m] Zj (λv _=>∃ b,v=.bool b/\(b=true->FewM m)):=by
 refine Zo 0 122 [.tmp 2] Tryz.func20 λX=>?_;have S:=n.vt.1;have R:=n.wy.1;simp only[Zi];refine Z ?_;intro Q;refine AW.weak (Zl (λo=>o==1) (l:=[(1,.view .new (Zw c d m))]) (m:=[]) ?_ trivial) ?_;refine Zs ?_;exact Fz.ptr (v:=Zw c d m) (c:=.new) (fz:=0) zp zp;refine Zf Zi ?_;refine Zc a ?_ (s:=Rx G _ _);cases q:Nz m.vars.l.length 64;refine Zg (zi q Zi) ?_;refine Ze a ?_ (s:=Ur G a c.ent d.ent m n);rintro _ ⟨b,rfl,g⟩;refine Zs ?_;refine Z ?_;exact⟨b,rfl,g⟩;have K:=Oz q;refine Zg (zi q Zi) ?_;refine Zc a ?_ (s:=Rx G _ _);cases q:Nz m.events.l.length 64;refine Zg (zi q Zi) ?_;refine Ze a ?_ (s:=Ur G a c.ent d.ent m n);rintro _ ⟨b,rfl,g⟩;refine Zs ?_;refine Z ?_;exact⟨b,rfl,g⟩;have J:=Oz q;refine Zg (zi q Zi) ?_;refine Zc a ?_ (s:=Rx G _ _);cases q:Nz m.regions.l.length 512;refine Zg (zi q Zi) ?_;refine Ze a ?_ (s:=Ur G a c.ent d.ent m n);rintro _ ⟨b,rfl,g⟩;refine Zs ?_;refine Z ?_;exact⟨b,rfl,g⟩;have I:=Oz q;refine Zg (zi q Zi) ?_;refine Zc a ?_ (s:=Rx G _ _);cases q:Nz m.verts.l.length 512;refine Zg (zi q Zi) ?_;refine Ze a ?_ (s:=Ur G a c.ent d.ent m n);rintro _ ⟨b,rfl,g⟩;refine Zs ?_;refine Z ?_;exact⟨b,rfl,g⟩;have H:=Oz q;refine Zg (zi q Zi) ?_;refine Zc a ?_ (s:=Rx G _ _);cases q:Nz m.ways.l.length 512;refine Zg (zi q Zi) ?_;refine Ze a ?_ (s:=Ur G a c.ent d.ent m n);rintro _ ⟨b,rfl,g⟩;refine Zs ?_;refine Z ?_;exact⟨b,rfl,g⟩
 have F:=Oz q;refine Zg (zi q Zi) ?_;refine Zc a ?_ (s:=Uc G m.name);cases q:Wr m.name;refine Zg (zi q Zi) ?_;refine Ze a ?_ (s:=Ur G a c.ent d.ent m n);rintro _ ⟨b,rfl,g⟩;refine Zs ?_;refine Z ?_;exact⟨b,rfl,g⟩;refine Xr q ?_;refine Z0 ?_;refine Wq (fun(_:Unit)=>st [(1,.view .new (Zw c d m))] []) (λ_=>∀ x∈m.verts.l,Wr x.entry=true/\Wr x.exit=true/\x.defers.l.length<=40) (λN u=>?_) ?_
 .refine Z ?_
  refine Yc m.verts.l.length (λk (_:Unit)=>st [(1,.view .new (Zw c d m)),(3,.int .i64 k)] []) (λk _=>∀ x∈m.verts.l.take k,Wr x.entry=true/\Wr x.exit=true/\x.defers.l.length<=40) 0 () (Nat.zero_le _) zS (Weak.st (T9 Zi) zp) ?_;intro k _ L r M t
  by_cases e:k<m.verts.l.length
  rotate_left;have p:k=m.verts.l.length:=zo;have f:decide ((k:Int)<(m.verts.l.length:Int))=false:=zF;rw[p,List.take_length]at r;refine Zf (zi f Zi) ?_;exact u _ () r (Weak.st (T9 Zi) zp);have f:decide ((k:Int)<(m.verts.l.length:Int))=true:=zT;have z:=List.getElem?_eq_getElem e;obtain⟨_,_,_,_,w,_⟩:=n.vt.2 _ (List.getElem_mem e)
  have j:m.verts.l.take (k+1)=m.verts.l.take k++[m.verts.l[k]]:=by rw[List.take_succ_eq_append_getElem e]
  generalize m.verts.l[k]=x at z w j;have A:IntKind.i64.wrap ((k:Int)+1)=(k:Int)+1:=Wy zo zo;refine Xm (zi f Zi) ?_;refine Xm (zi z (zi e (zi Zz (zi Zi Yh)))) ?_;intro P;refine Zs ?_;refine Zf Zz ?_;refine Zc a ?_ (s:=Uc G x.name);cases q:Wr x.name;refine Zg q ?_;exact⟨_,rfl,λh=>by cases h⟩;refine Zg (zi q Zz) ?_;refine Zc a ?_ (s:=Uc G x.entry);cases q:Wr x.entry;refine Zg q ?_;exact⟨_,rfl,λh=>by cases h⟩;refine Zg (zi q Zz) ?_;have C:=q
  try clear q
  refine Zc a ?_ (s:=Uc G x.exit);cases q:Wr x.exit;refine Zg q ?_;exact⟨_,rfl,λh=>by cases h⟩;refine Zg (zi q Zz) ?_;have B:=q
  try clear q
  refine Zc a ?_ (s:=Uc G x.sub);cases q:Wr x.sub;refine Zg q ?_;exact⟨_,rfl,λh=>by cases h⟩;refine Zg (zi q Zz) ?_;refine Ze a ?_ (s:=G5 G a _ x.defers w);rintro _ ⟨b,rfl,g⟩;cases b;refine Zs ?_;refine Z ?_;exact⟨_,rfl,λh=>by cases h⟩;refine Zs ?_;refine Zf A ?_;refine t _ ⟨e,(),λy i=>?_,Weak.st (T9 Zi) zp⟩;rw[j]at i
  rcases List.mem_append.1 i with i|i
  exact r y i;rw[List.mem_singleton.1 i];exact⟨C,B,g rfl⟩
 intro _ E;refine Wq (fun(_:Unit)=>st [(1,.view .new (Zw c d m))] []) (λ_=>∀ x∈m.ways.l,Wr x.guard=true/\Wr x.effect=true/\x.triggers.l.length<=40) (λN u=>?_) ?_
 .refine Z ?_
  refine Yc m.ways.l.length (λk (_:Unit)=>st [(1,.view .new (Zw c d m)),(5,.int .i64 k)] []) (λk _=>∀ x∈m.ways.l.take k,Wr x.guard=true/\Wr x.effect=true/\x.triggers.l.length<=40) 0 () (Nat.zero_le _) zS (Weak.st (T9 Zi) zp) ?_;intro k _ L r M t
  by_cases e:k<m.ways.l.length
  rotate_left;have p:k=m.ways.l.length:=zo;have f:decide ((k:Int)<(m.ways.l.length:Int))=false:=zF;rw[p,List.take_length]at r;refine Zf (zi f Zi) ?_;exact u _ () r (Weak.st (T9 Zi) zp);have f:decide ((k:Int)<(m.ways.l.length:Int))=true:=zT;have z:=List.getElem?_eq_getElem e;obtain⟨_,_,_,w,_⟩:=n.wy.2 _ (List.getElem_mem e)
  have j:m.ways.l.take (k+1)=m.ways.l.take k++[m.ways.l[k]]:=by rw[List.take_succ_eq_append_getElem e]
  generalize m.ways.l[k]=x at z w j;have A:IntKind.i64.wrap ((k:Int)+1)=(k:Int)+1:=Wy zo zo;refine Xm (zi f Zi) ?_;refine Xm (zi z (zi e (zi Yg (zi Zi Yh)))) ?_;intro O;refine Zs ?_;refine Zf Yg ?_;refine Zc a ?_ (s:=Uc G x.name);cases q:Wr x.name;refine Zg q ?_;exact⟨_,rfl,λh=>by cases h⟩;refine Zg (zi q Yg) ?_;refine Zc a ?_ (s:=Uc G x.guard);cases q:Wr x.guard;refine Zg q ?_;exact⟨_,rfl,λh=>by cases h⟩;refine Zg (zi q Yg) ?_;have C:=q
  try clear q
  refine Zc a ?_ (s:=Uc G x.effect);cases q:Wr x.effect;refine Zg q ?_;exact⟨_,rfl,λh=>by cases h⟩;refine Zg (zi q Yg) ?_;have B:=q
  try clear q
  refine Ze a ?_ (s:=G5 G a _ x.triggers w);rintro _ ⟨b,rfl,g⟩;cases b;refine Zs ?_;refine Z ?_;exact⟨_,rfl,λh=>by cases h⟩;refine Zs ?_;refine Zf A ?_;refine t _ ⟨e,(),λy i=>?_,Weak.st (T9 Zi) zp⟩;rw[j]at i
  rcases List.mem_append.1 i with i|i
  exact r y i;rw[List.mem_singleton.1 i];exact⟨C,B,g rfl⟩
 intro _ D;refine Z ?_;exact⟨_,rfl,λ_=>⟨K,J,I,H,F,E,D⟩⟩
end Go.Hs
end

section
namespace Go.Proofs.YtjplgaebbfabnaaGreatDoor
open Go.RowKit Go.Hs
theorem mdOk_r{m:MdM}(h:mdOk m):MdR m:=by
 obtain⟨v,⟨u,t⟩,⟨s,r⟩,⟨q,o⟩,⟨n,l⟩,⟨j,i⟩⟩:=h;refine⟨v,⟨u,λp g=>(t p g).1⟩,⟨s,r⟩,⟨q,λp g=>(o p g).1⟩,⟨n,λx f=>?_⟩,⟨j,λx f=>?_⟩⟩;obtain⟨e,_,_,_,d,c,⟨b,a⟩,k⟩:=l x f;exact⟨e,d,c,k,b,a⟩;obtain⟨e,_,_,⟨d,c⟩,_,b,a,_⟩:=i x f;exact⟨e,b,a,d,c⟩
end Go.Proofs.YtjplgaebbfabnaaGreatDoor
end

section
namespace Go.Hs
section
variable{P:Program}{E:Ent}
def Z9(lo:Nat)(H:Heap):Heap:=λo=>if lo<=o then(H o).noMp else .dead
theorem W6{lo o:Nat}{H:Heap}(h:lo<=o):Z9 lo H o=(H o).noMp:=if_pos h
theorem Xi{lo o:Nat}{H:Heap}(h:o<lo):Z9 lo H o=.dead:=if_neg zo
theorem Qv(x:AObj):x.noMp.noMp=x.noMp:=by cases x<;>rfl
theorem Nr{lo:Nat}{H H':Heap}(h:∀ o,lo<=o->(H o).noMp=(H' o).noMp):Z9 lo H=Z9 lo H':=by
 funext o
 rcases Nat.lt_or_ge o lo with q|q
 rw[Xi q,Xi q];rw[W6 q,W6 q,h o q]
@[go_sem] theorem Mv(lo o:Nat)(H:Heap)(x:AObj):Z9 lo (Ya H o x)=if lo<=o then Ya (Z9 lo H) o x.noMp else Z9 lo H:=by
 funext o'
 split
 rename_i h
 by_cases e:o'=o
 subst e;rw[W6 h,Ym,Ym];rw[Zp _ _ e]
 rcases Nat.lt_or_ge o' lo with q|q
 rw[Xi q,Xi q];rw[W6 q,W6 q,Zp _ _ e]
 rcases Nat.lt_or_ge o' lo with q|q
 rw[Xi q,Xi q];rw[W6 q,W6 q,Zp _ _ zo]
theorem On{a lo:Nat}(H:Heap)(h:a<=lo):Z9 lo (Z9 a H)=Z9 lo H:=Nr λo q=>by rw[W6 (Nat.le_trans h q),Qv]
@[go_sem] theorem Rh(lo:Nat)(H:Heap):Z9 lo (Z9 lo H)=Z9 lo H:=On H (Nat.le_refl _)
@[go_sem] theorem mask_none(lo:Nat):Z9 lo Zj=Zj:=by funext o;unfold Z9;split<;>rfl
def upM(lo:Nat)(H:Heap):Heap:=λo=>if lo<=o then(H o).noMp else H o
theorem Zex{X:Cx}{H:Heap}(a:Inv X H)(lo:Nat):Goes X H X (upM lo H):=Goes.sub a λo=>by
 unfold upM
 split
 cases h:H o<;>first|exact .inr rfl|exact .inl rfl
 grind
theorem Cp{X:Cx}{H:Heap}(a:Inv X H)(lo:Nat):Goes X H X (Z9 lo H):=Goes.sub a λo=>by
 unfold Z9
 split
 cases h:H o<;>first|exact .inr rfl|exact .inl rfl
 grind
def low(lo:Nat)(H H':Heap):Heap:=λo=>if lo<=o then(H' o).noMp else H o
theorem Oo{X Y:Cx}{lo:Nat}{H H':Heap}(b:Inv X H)(a:Goes X (Z9 lo H) Y H'):Goes X H Y (low lo H H'):=by
 have e:Z9 lo H=only (Nat.ble lo) (upM lo H):=by
  funext o
  unfold Z9 only upM;simp_all
 rw[e]at a;refine(Zex b lo).trans (a.frame (Zex b lo).inv _ λo=>?_);unfold low
 split
 simp;rename_i h;exact .inr (.inr ⟨by rw[Bool.eq_false_iff,ne_eq,Nat.ble_eq];exact h,(if_neg h).symm⟩)
theorem Z56(lo:Nat)(H H':Heap):Z9 lo (low lo H H')=Z9 lo H':=Nr λo q=>by rw[low,if_pos q,Qv]
def CallT(P:Program)(t:Fn)(cargs:Array Value)(w:World)(R:Ending->World->Prop):Prop:=match t with
 |.func f=>Z7 P f=true/\Calls P f cargs w R
 |.yield l=>YieldAt Fence.wide 0 P l cargs w R
 |_=>False
theorem CallT.mono{t:Fn}{a:Array Value}{w:World}{R g:Ending->World->Prop}(h:CallT P t a w R)(d:∀ e w,R e w->g e w):CallT P t a w g:=by
 cases t with
 |func f=>exact⟨h.1,h.2.mono d⟩
 |yield l=>
  obtain⟨k,c,b,body,i,j⟩:=h;exact⟨k,c,b,body,i,j.mono d⟩
 |_=>exact h.elim
structure Yd(P:Program)(G:Nat->V)(X:Cx)(lo:Nat){σ κ : Type}(t:Fn)(caps:List V)(enc : κ -> List V)(R : σ -> Heap->Prop)(dom : σ -> κ -> Prop)(nx : σ -> κ -> Bool × σ):Prop where
 cap:∀ l,t=.yield l->caps=[]
 sp:∀ s k Y H cargs,dom s k->X.le Y->Inv Y (Z9 lo H)->R s (Z9 lo H)->(∀ g,RelG Y g (G g))->RelA Y cargs (enc k++caps) ->
  CallT P t cargs Y.w (λe w'=>∃ Z H',e=.returned (.bool (nx s k).1)/\Z.w=w'/\Goes Y (Z9 lo H) Z H'/\R (nx s k).2 (Z9 lo H'))
theorem Yd.at{G:Nat->V}{X f:Cx}{lo:Nat}{σ κ : Type}{t:Fn}{a:List V}{enc : κ -> List V}{R : σ -> Heap->Prop}{c : σ -> κ -> Prop}{e : σ -> κ -> Bool × σ}(h:Yd P G X lo t a enc R c e)(d:X.le f):Yd P G f lo t a enc R c e:=
 ⟨h.cap,λs k Y H b i g=>h.sp s k Y H b i (d.trans g)⟩
def Yx{σ κ : Type}(nx : σ -> κ -> Bool × σ) : σ -> List κ -> Bool × σ
 |s,[]=>(true,s)
 |s,k::r=>if(nx s k).1 then Yx nx (nx s k).2 r else(false,(nx s k).2)
def R6{σ κ : Type}(dom : σ -> κ -> Prop)(nx : σ -> κ -> Bool × σ) : σ -> List κ -> Prop
 |_,[]=>True
 |s,k::r=>dom s k/\((nx s k).1=true->R6 dom nx (nx s k).2 r)
theorem Zza{ops:Array Oper}{R:Exit->Act->World->Prop}{st:AS}{K:AS->Prop}{X:Cx}{a:Act}{dst:Option Nat}{f:Operand}{args:Array Operand}{ats:Array TypeId}{ty:TypeId}{pos:String}{af:Array Edge}{gd:Option (Nat×Bool)}{t:Fn}{caps:List V}(hX:SatX E X st a X.w)
  (hd:(ops.all (Wo E.n))=true) {n:Nat} (ho:ops[n]?=some ⟨dst,.call ⟨.value f,args,ats⟩,ty,pos,af,gd⟩) (hf:st.ev E f=.func t [] caps) (hcap:∀ l,t=.yield l->caps=[])
  (h:∀ cargs,RelA X cargs (args.toList.map (st.ev E)++caps)->CallT P t cargs X.w (λe w'=>∃ c v Y H',e=.returned c/\Y.w=w'/\Goes X st.H Y H'/\Rel Y c v/\K (AS.put { st with H:=H' } dst v))):
  (⟨dst,.call ⟨.value f,args,ats⟩,ty,pos,af,gd⟩:Oper).wpIn E.rk.F 0 P a X.w (λa' w'=>∃ s2,Mb E s2 a' w'/\K s2) R:=by
 refine⟨λ_ _=>trivial,?_⟩;rw[Oper.semAt_eq _ _ _ (λ_ h=>by cases h)];have hfv:=hX.ev f;rw[hf]at hfv;generalize hq:a.eval f=q at hfv
 cases hfv with
 |func _ xs ys _ _ hx hy hxr hyr=>
  have hx0:xs = #[]:=by
   have:xs.size=0:=hx;exact Array.eq_empty_of_size_eq_zero this
  subst hx0
  have hA:RelA X (args.map a.eval++ys) (args.toList.map (st.ev E)++caps):=by
   refine⟨by simp[hy],λi h1 h2=>?_⟩
   by_cases hi:i<args.size
   rw[Array.getElem_append_left (zu hi),List.getElem_append_left (zu hi)];simp only[Array.getElem_map,List.getElem_map,Array.getElem_toList];exact hX.ev _;rw[Array.getElem_append_right zO,List.getElem_append_right zO];simp only[Array.size_map,List.length_map,Array.length_toList];exact hyr _ _ _
  have hk:=h _ hA
  have hdm:∀ d,dst=some d->d<E.n:=by
   intro d hdst;rw[Array.all_eq_true']at hd;obtain⟨hlt,e⟩:=Array.getElem?_eq_some_iff.1 ho;have:=hd _ (Array.getElem_mem hlt);rw[e]at this;simp only[Wo,hdst]at this;simpa using this
  have fin:∀ (e:Ending) (w':World),(∃ c v Y H',e=.returned c/\Y.w=w'/\Goes X st.H Y H'/\Rel Y c v/\K (AS.put { st with H:=H' } dst v)) ->
    (match e,w' with
    |.returned v,w''=>∃ s2,Mb E s2 (a.put dst v) w''/\K s2
    |.panicked chain,w''=>R (.panic chain) a w''
    |.outgrown,_=>LetsOut R):=by
   rintro e w' ⟨c,v,Y,H',rfl,rfl,hg,hr,hK⟩;exact⟨_,⟨Y,hX.step hg hr hdm⟩,hK⟩
  cases t with
  |func fid=>
   obtain⟨hen,hk⟩:=hk
   have hrun:(execOp a.eval ⟨dst,.call ⟨.value f,args,ats⟩,ty,pos,af,gd⟩).run P X.w=.ok (.enter fid (args.map a.eval++ys)) X.w:=by
    unfold Z7 at hen
    split at hen
    rename_i fn hfn;simp only[Bool.and_eq_true]at hen;obtain⟨hn1,hn2⟩:=hen
    have hn1':(fn.name == "runtime.NumGoroutine")=false:=zu hn1
    have hn2':fn.body.isNone=false:=by cases hb:fn.body<;>simp_all
    simp only[execOp,resolve,hq,Deferred.ofValue,Sem.run_bind,Sem.run_pure,Result.andThen_ok,invoke,callFunc,run_program,hfn,hn1',hn2'];simp;simp at hen
   rw[hrun,Oper.uponIn_enter];exact⟨λh=>(by cases h),(E.rk.calls).2 (hk.mono fin)⟩
  |yield l=>
   obtain⟨fn,tmps,assign,body,hy2,hR⟩:=hk;obtain rfl:=hcap l rfl;have hy0:ys = #[]:=Array.eq_empty_of_size_eq_zero hy;subst hy0
   have hrun:(execOp a.eval ⟨dst,.call ⟨.value f,args,ats⟩,ty,pos,af,gd⟩).run P X.w=.ok (.round l fn tmps assign body) X.w:=by
    rw[Array.append_empty]at hy2;simp only[execOp,resolve,hq,Deferred.ofValue,Sem.run_bind,Sem.run_pure,Result.andThen_ok,invoke,Array.empty_append,hy2]
   rw[hrun,Oper.uponIn_round];exact⟨λh=>(by cases h),hR.mono fin⟩
  |_=>exact hk.elim
theorem Zl4{X:Cx}(o:Obj):X.le { X with w:=X.w.alloc o }:=
 ⟨λ_ _ _ h=>h,λ_ _ h=>h,λb i x _ d=>(World.cell?_alloc_lt X.w o ⟨b,i,none⟩ (World.block_lt_of_cell? _ _ d)).trans d,rfl,
  λb c t a=>⟨c,(RowKit.Below.heap_alloc _ _ _ (Array.getElem?_eq_some_iff.1 a).1).trans a,rfl⟩,λb es n _ a=>(RowKit.Below.heap_alloc _ _ _ (Array.getElem?_eq_some_iff.1 a).1).trans a⟩
theorem B5{X:Cx}{H:Heap}(a:Inv X H)(o:Obj):Goes X H { X with w:=X.w.alloc o } H:=by
 have d:=Zl4 (X:=X) o;have f:Keep (Xx X H) X.w (X.w.alloc o):=⟨rfl,rfl,rfl,zS,λk p _=>RowKit.Below.heap_alloc _ _ _ p⟩;refine⟨⟨?_,a.inj,λb i e=>⟨Nat.lt_of_lt_of_le (a.safe b i e).1 zS,(a.safe b i e).2⟩,a.fin,Nat.le_trans a.bw zS,a.thaw_le d λ_ _ e=>e,a.mps_tr d (λ_ _ _ _ _ h=>h) f λ_ _ e=>.inl e,a.lps_tr (λ_ _ _ h=>h) λb r j=>RowKit.Below.heap_alloc _ _ _ (Array.getElem?_eq_some_iff.1 j).1⟩,d,f,λ_ _ e=>.inl e,λ_ j=>.inr j⟩;intro n c g z A l;obtain⟨b,y,m,v,x,t,u,s,q⟩:=a.obj _ _ _ _ _ l;exact⟨b,y,m,v,x,t,(RowKit.Below.heap_alloc _ _ _ (a.lt l m)).trans u,s,q.mono d⟩
theorem Goes.newLp{X0 X:Cx}{H0 H:Heap}(h:Goes X0 H0 X H){l ol:Nat}{r:Loop}(J:X.w.heap[l]?=some (.loop r))(x:X0.w.heap.size<=l\/Xx X0 H0 l)(p:∀ o r,o≠ol->H o=.lp l r->False):Goes X0 H0 X (Ya H ol (.lp l r)):=by
 have d:=h.inv
 have s:∀ o c g f j,Ya H ol (.lp l r) o=.cells c g f j->H o=.cells c g f j:=λo c g f j a=>by
  by_cases e:o=ol
  simp_all;rwa [Zp _ _ e]at a
 have v:∀ o b k,Ya H ol (.lp l r) o=.lp b k->(o=ol/\b=l/\k=r)\/(o≠ol/\H o=.lp b k):=λo b k a=>by
  by_cases e:o=ol
  simp_all;rw[Zp _ _ e]at a;grind
 refine⟨⟨λo c g f j a=>d.obj _ _ _ _ _ (s _ _ _ _ _ a),λD Q M O G C P L N F b A z n t=>d.inj D Q M O G C P L N F b A z (s _ _ _ _ _ n) (s _ _ _ _ _ t),
  λb i u=>⟨(d.safe b i u).1,λo c g f j y a=>(d.safe b i u).2 o c g f j y (s _ _ _ _ _ a)⟩,d.fin,d.bw,d.thaw,d.mps_tr (.refl X) (λo S b T R a=>?_) (Keep.refl _ _) (λ_ _ u=>.inl u),?_⟩,h.le,h.kp,h.Sn,Uw (λo b k a=>?_) λb ⟨o,c,g,f,j,y,a,I⟩=>h.on b (.inl ⟨o,c,g,f,j,y,s _ _ _ _ _ a,I⟩)⟩
 by_cases e:o=ol
 simp_all;rwa [Zp _ _ e]at a;intro o b k a
 rcases v _ _ _ a with ⟨rfl,rfl,rfl⟩|⟨e,n⟩
 refine⟨J,λE B m=>?_⟩
 rcases v _ _ _ m with ⟨q,_⟩|⟨q,t⟩
 exact q;exact(p _ _ q t).elim;obtain⟨t,K⟩:=d.lps _ _ _ n;refine⟨t,λE B m=>?_⟩
 rcases v _ _ _ m with ⟨_,rfl,_⟩|⟨_,q⟩
 exact(p _ _ e n).elim;exact K _ _ q
 rcases v _ _ _ a with ⟨_,rfl,_⟩|⟨_,n⟩
 exact x;exact h.on b (.inr ⟨o,k,n⟩)
theorem Gs{X Y:Cx}{H H':Heap}(G:Inv X H)(h:Goes X H Y H'){b:Nat}{o o':Obj}(B:X.w.heap[b]?=some o)(C:To o=true)(l:To o'=true)(D:¬ Xx X H b):
  Goes { X with w:=X.w.putObj b o' } H { Y with w:=Y.w.putObj b o' } H':=by
 have d:=(Array.getElem?_eq_some_iff.1 B).1;have A:Y.w.heap[b]?=some o:=(h.kp.block b d D).trans B
 have y:∀ n r,H' n=.lp b r->False:=λn r v=>by
  rcases h.on b (.inr ⟨n,r,v⟩)with q|q
  omega
  grind
 have E:=Goes.turn (X0:={ Y with w:={ Y.w with heap := #[] } }) (H0:=H') (X:=Y) (H:=H') (H':=H') (o':=o') ⟨h.inv,⟨λ_ _ _ h=>h,λ_ _ h=>h,λ_ _ _ _ g=>by simp[Cx.cell,World.cell?]at g,rfl,λ_ _ _ g=>by grind,λ_ _ _ _ g=>by grind⟩,⟨rfl,rfl,rfl,zS,λk f _=>by grind⟩,λ_ _ j=>.inl j,λ_ _=>.inl zS⟩ A C l (.inl zS) (λ_=>.inl rfl) (λn r v=>(y n r v).elim)
 have u:∀ {k:Nat} {o1:Obj},To o1=false->(X.w.putObj b o').heap[k]?=some o1->k≠b:=λs p e=>by
  subst e;rw[World.putObj_heap_same d]at p;cases p;rw[l]at s;cases s
 have m:∀ {k i:Nat} {x:Value},(X.w.putObj b o').cell? ⟨k,i,none⟩=some x->k≠b:=λg e=>by
  subst e;unfold World.cell? at g;rw[World.putObj_heap_same d]at g
  cases o'<;>simp[To]at l g
 refine⟨E.inv,⟨h.le.β,h.le.S,λk i x j g=>?_,h.le.base,λk c t f=>?_,λk es n j f=>?_⟩,⟨h.kp.os,h.kp.tape,h.kp.output,by simp only[World.putObj_size];exact h.kp.size,λk f z=>?_⟩,λk i j=>by simp only[World.putObj_size];exact h.Sn k i j,λk f=>by simp only[World.putObj_size];exact h.on k f⟩;have e:=m g
 have s:X.cell k i=some x:=by
  show X.w.cell? _=_
  rw[<- World.cell?_of_block (w:=X.w) (a:=⟨k,i,none⟩) (World.putObj_heap_other (o:=o') e)];exact g
 have p:=h.le.cell k i x j s
 show(Y.w.putObj b o').cell? _=_
 rw[World.cell?_of_block (w:=Y.w) (a:=⟨k,i,none⟩) (World.putObj_heap_other e)];exact p;have e:=u rfl f;obtain⟨F,s,p⟩:=h.le.blk k c t ((World.putObj_heap_other e).symm.trans f);exact⟨F,(World.putObj_heap_other e).trans s,p⟩;have e:=u rfl f;exact(World.putObj_heap_other e).trans (h.le.map k es n j ((World.putObj_heap_other e).symm.trans f));simp only[World.putObj_size]at f
 by_cases e:k=b
 subst e;rw[World.putObj_heap_same d,World.putObj_heap_same (Nat.lt_of_lt_of_le d h.kp.size)];exact(World.putObj_heap_other e).trans ((h.kp.block k f z).trans (World.putObj_heap_other e).symm)
def Zei:List Nat->List V->(Nat->V)->Nat->V
 |p::ps,v::vs,τ => Zei ps vs (Ya τ p v)
 |_,_,τ => τ
theorem Zdi{X:Cx}:∀ (ps:List Nat) (cs:List Value) (vs:List V) (tmps:Array Value) (τ : Nat->V),cs.length=ps.length->vs.length=ps.length->(∀ p∈ps,p<tmps.size)->(∀ i (h1:i<cs.length) (h2:i<vs.length),Rel X cs[i] vs[i])->(∀ t,Rel X (tmps.getD t undef) (τ t)) ->
  (((ps.zip cs).foldl (fun(tmps:Array Value) p=>tmps.setIfInBounds p.1 p.2) tmps).size=tmps.size/\∀ t,Rel X (((ps.zip cs).foldl (fun(tmps:Array Value) p=>tmps.setIfInBounds p.1 p.2) tmps).getD t undef) (Zei ps vs τ t))
 |[],_,_,_,_,_,_,_,_,ht=>⟨rfl,ht⟩
 |p::ps,[],_,_,_,h1,_,_,_,_=>by grind
 |p::ps,_::_,[],_,_,_,h2,_,_,_=>by grind
 |p::ps,c::cs,v::vs,tmps,τ,h1,h2,hp,hr,ht=>by
  have:=Zdi ps cs vs (tmps.setIfInBounds p c) (Ya τ p v) (by grind) (by grind) (λx d=>by grind) (λi b a=>hr (i+1) (by grind) (by grind)) (λt=>?_);simp only[List.zip_cons_cons,List.foldl_cons];exact⟨by grind,this.2⟩
  by_cases e:t=p
  subst e;have:t<tmps.size:=hp t zS;simp[this];exact hr 0 zS zS;rw[Zp _ _ e]
  have:(tmps.setIfInBounds p c).getD t undef=tmps.getD t undef:=by
   simp[Array.getElem?_setIfInBounds_ne (Ne.symm e)]
  rw[this];exact ht t
def YfSp(P:Program)(G:Nat->V)(lo:Nat)(f:FuncId)(A:V->List V)(H:Heap){κ : Type}(enc : κ -> List V)(xs:List κ)(res:Bool->V)(Pp:Heap->Prop:=λ_=>True):Prop:=
 ∀ (X:Cx) (t:Fn) (cl:List V) (σ : Type) (R : σ -> Heap->Prop) (dom : σ -> κ -> Prop) (nx : σ -> κ -> Bool × σ) (s0 : σ),Yd P G X lo t cl enc R dom nx->R6 dom nx s0 xs->R s0 (Z9 lo H)->(∀ s H,R s (Z9 lo H)->Pp (Z9 lo H))->Inv X H->(∀ g,RelG X g (G g))->∀ cargs,RelA X cargs (A (.func t [] cl)) ->
  Calls P f cargs X.w (λe w'=>∃ c Y H',e=.returned c/\Rel Y c (res (Yx nx s0 xs).1)/\Y.w=w'/\Goes X H Y H'/\R (Yx nx s0 xs).2 (Z9 lo H'))
def Eh(P:Program)(G:Nat->V)(lo:Nat)(f:FuncId)(caps:List V)(H:Heap){κ : Type}(enc : κ -> List V)(xs:List κ)(Pp:Heap->Prop:=λ_=>True):Prop:=YfSp P G lo f (λy=>y::caps) H enc xs (λ_=>.top) Pp
theorem Wz(k:RK){G:Nat->V}{lo:Nat}{f:FuncId}{A:V->List V}{H:Heap}{κ : Type}{enc : κ -> List V}{xs:List κ}{a:Bool->V}{o:Heap->Prop}{d:Func}{c:Code}(q n m:Nat)(j:List ResultVar)(x:P.funcs[f]?=some d)
  (h:∀ (X:Cx) (t:Fn) (cl:List V) (σ : Type) (R : σ -> Heap->Prop) (dom : σ -> κ -> Prop) (nx : σ -> κ -> Bool × σ) (s0 : σ),Yd P G X lo t cl enc R dom nx->R6 dom nx s0 xs->R s0 (Z9 lo H)->(∀ s H,R s (Z9 lo H)->o (Z9 lo H)) ->
   AW P ⟨X,H,n,q,G,none,[],k⟩ c (T3 P j (λv H'=>(v=a (Yx nx s0 xs).1\/a (Yx nx s0 xs).1=.top)/\R (Yx nx s0 xs).2 (Z9 lo H'))) ⟨Uy 0 (A (.func t [] cl)),H⟩)
  (z:d.body=some c:=by rfl) (w:d.ntmps=n:=by rfl) (r:d.results.toList=j:=by rfl) (K:∀ v,(A v).length=m:=by exact λ_=>rfl) (u:Nat.ble m n=true:=by rfl) (l:k=.plain\/k=.marks:=by first|exact .inl rfl|exact .inr rfl):YfSp P G lo f A H enc xs a o:=by
 subst w r;intro X t cl σ R dom nx s0 p y B C D E i g;refine(Od l (λ_=>rfl) q x z (by grind) D E g (h X t cl σ R dom nx s0 p y B C)).mono ?_;rintro e w' ⟨c,v,H',Y,⟨rfl,b,F⟩|⟨k,l,_⟩,J,I,L⟩;refine⟨c,Y,H',rfl,?_,J,I,F⟩
 rcases b with b|b
 grind
 rw[b];exact .top _
 grind
theorem T7{ops:Array Oper}{y:Exit->Act->World->Prop}{st:AS}{K:AS->Prop}{dst:Option Nat}{f:Operand}{args:Array Operand}{c:Array TypeId}{ty:TypeId}{pos:String}{af:Array Edge}{gd:Option (Nat×Bool)}{t:Fn}{cl:List V}
  {lo:Nat} {σ κ : Type} {enc : κ -> List V} {R : σ -> Heap->Prop} {g : σ -> κ -> Prop} {h : σ -> κ -> Bool × σ} (l:Yd P E.G E.X0 lo t cl enc R g h) (s : σ) (k : κ) (u:st.ev E f=.func t [] cl) (ha:args.toList.map (st.ev E)=enc k) (i:g s k) (w:R s (Z9 lo st.H))
  (x:∀ H2,R (h s k).2 (Z9 lo H2)->(∀ o,o<lo->H2 o=st.H o)->K (AS.put ⟨st.τ,H2⟩ dst (.bool (h s k).1))) (v:(ops.all (Wo E.n))=true) {n:Nat} (m:ops[n]?=some ⟨dst,.call ⟨.value f,args,c⟩,ty,pos,af,gd⟩) (q:Z8 ops st.τ ⟨dst,.call ⟨.value f,args,c⟩,ty,pos,af,gd⟩=some true):
  HandX P E ops y ⟨dst,.call ⟨.value f,args,c⟩,ty,pos,af,gd⟩ st K:=by
 refine .inl ⟨q,λX a d=>Zza d v m u l.cap λb p=>?_⟩;rw[ha]at p;refine(l.sp s k X st.H b i d.go.le (Cp d.go.inv _).inv w d.gl p).mono ?_;rintro e w' ⟨Z,z,rfl,rfl,r,j⟩;exact⟨_,_,Z,_,rfl,rfl,Oo d.go.inv r,.bool _,x _ (by rw[Z56];exact j) λo m=>if_neg zo⟩
theorem I4{ops:Array Oper}{Q:Exit->Act->World->Prop}{st:AS}{K:AS->Prop}{dst:Option Nat}{f:Operand}{args:Array Operand}{j:Array TypeId}{ty:TypeId}{pos:String}{af:Array Edge}{gd:Option (Nat×Bool)}{d:FuncId}{y:List V}{t:Fn}{cl:List V}{A:V->List V}{k:Bool->V}
  {lo:Nat} {σ κ : Type} {enc : κ -> List V} {xs:List κ} {R : σ -> Heap->Prop} {g : σ -> κ -> Prop} {l : σ -> κ -> Bool × σ} {z:Heap->Prop} (b:Nat) (p:b<=lo) (r:YfSp P E.G lo d A (Z9 b st.H) enc xs k z) (u:Z7 P d=true) (C:∀ X,E.X0.le X->Yd P E.G X lo t cl enc R g l) (s0 : σ) (J:st.ev E f=.func (.func d) [] y)
  (ha:args.toList.map (st.ev E)++y=A (.func t [] cl)) (v:R6 g l s0 xs) (T:R s0 (Z9 lo st.H))
  (O:∀ H2,R (Yx l s0 xs).2 (Z9 lo H2)->(∀ o,o<b->H2 o=st.H o)->K (AS.put ⟨st.τ,H2⟩ dst (k (Yx l s0 xs).1))) (L:(ops.all (Wo E.n))=true) {n:Nat} (w:ops[n]?=some ⟨dst,.call ⟨.value f,args,j⟩,ty,pos,af,gd⟩) (D:Z8 ops st.τ ⟨dst,.call ⟨.value f,args,j⟩,ty,pos,af,gd⟩=some true) (N:∀ s H,R s (Z9 lo H)->z (Z9 lo H)):
  HandX P E ops Q ⟨dst,.call ⟨.value f,args,j⟩,ty,pos,af,gd⟩ st K:=by
 refine .inl ⟨D,λX a m=>Zza m L w J (λ_ h=>by cases h) λi x=>⟨u,?_⟩⟩;rw[ha]at x;have S:Z9 lo (Z9 b st.H)=Z9 lo st.H:=On _ p;refine(r X t cl σ R g l s0 (C X m.go.le) v (by grind) N (Cp m.go.inv _).inv m.gl i x).mono ?_;rintro e w' ⟨c,Z,B,rfl,F,rfl,I,M⟩;refine⟨_,_,Z,_,rfl,rfl,Oo m.go.inv I,F,O _ ?_ λo w=>if_neg zo⟩
 have:Z9 lo (low b st.H B)=Z9 lo B:=Nr λo q=>by rw[low,if_pos (Nat.le_trans p q),Qv]
 grind
def A7(X:Cx)(H:Heap)(l:Nat):Prop:=(∃ r,X.w.heap[l]?=some (.loop r))/\¬ Xx X H l
def Dl{σ κ : Type}(I : σ -> Heap->Prop)(nx : σ -> κ -> σ)(jm : σ -> Option Code)(lo ol:Nat)(s : σ)(k : κ):Exit->AS->Prop
 |.normal,s'=>jm (nx s k)=none/\I (nx s k) (Ya (Z9 lo s'.H) ol .dead)
 |.ret,s'=>jm (nx s k)=some .ret/\I (nx s k) (Ya (Z9 lo s'.H) ol .dead)
 |.exit id,s'=>jm (nx s k)=some (.exit id)/\I (nx s k) (Ya (Z9 lo s'.H) ol .dead)
 |_,_=>False
theorem Zw5{st:AS}{a:Act}{X X1:Cx}{ps:Array Tmp}{assign body:Code}{σ κ : Type}{enc : κ -> List V}(lo ol q' l dn:Nat)(fn:FuncId)(I : σ -> Heap->Prop)(A : σ -> κ -> σ)(y : σ -> Option Code)(D : σ -> κ -> Prop)(hlo:lo<=ol)
  (hX:SatX E X st a X.w) (hle:X.le X1) (hps:∀ p∈ps.toList,p<E.n) (hpl:∀ k,(enc k).length=ps.size)
  (C:∀ Y s k H,E.X0.le Y->A7 Y (Ya (Z9 lo H) ol .dead) l->D s k->y s=none->I s (Ya (Z9 lo H) ol .dead) ->
   AW P ⟨Y,Ya (Z9 lo H) ol .dead,E.n,q',E.G,none,[],.round l⟩ assign (λe s1=>e=.normal/\∀ Z,E.X0.le Z->A7 Z (Ya (Z9 lo H) ol .dead) l->AW P ⟨Z,Ya (Z9 lo H) ol .dead,E.n,q',E.G,none,[],.round l⟩ body (Dl I A y lo ol s k) s1) ⟨Zei ps.toList (enc k) st.τ,Ya (Z9 lo H) ol .dead⟩):
  Yd P E.G X1 lo (.yield l) [] enc (λs H=>H ol=.lp l { state:=if(y s).isNone then .ready else .done,pending:=y s,fn,tmps:=a.tmps,params:=ps,assign,body,defers:=dn }/\I s (Ya H ol .dead)) (λs k=>D s k/\y s=none) (λs k=>((y (A s k)).isNone,A s k)):=by
 refine⟨λ_ _=>rfl,?_⟩;rintro s k Y H f ⟨hD,hj⟩ hXY hI ⟨R,hIs⟩ hG hA;rw[hj]at R;rw[List.append_nil]at hA;obtain⟨K,Q⟩:=hI.lps _ _ _ R;have S:=(Array.getElem?_eq_some_iff.1 K).1
 have hsz:f.size=ps.size:=by rw[hA.len];exact hpl k
 have j:Goes Y (Z9 lo H) Y (Ya (Z9 lo H) ol .dead):=Goes.sub hI λo=>by
  by_cases e:o=ol
  simp_all;exact .inr (Zp _ _ e)
 have B:¬ Xx Y (Ya (Z9 lo H) ol .dead) l:=by
  rintro(⟨o,c,g,fz,cs,bs,ho,hβ⟩|⟨o,r,ho⟩);obtain⟨b,bs',M,_,c',t,h2,_⟩:=j.inv.obj _ _ _ _ _ ho;rw[hβ]at M;cases M;rw[K]at h2;cases h2
  by_cases e:o=ol
  subst e;rw[Ym]at ho;cases ho;rw[Zp _ _ e]at ho;exact e (Q _ _ ho)
 let h:Loop:={ state:=.ready,pending:=none,fn,tmps:=a.tmps,params:=ps,assign,body,defers:=dn }
 have hy:=run_yield (P:=P) (args:=f) K hsz;refine⟨_,_,_,_,hy,roundIn_of_wpIn (F:=Fence.wide) trivial ?_⟩
 have hf:((ps.zip f).foldl (λtmps (x:Tmp×Value)=>tmps.setIfInBounds x.1 x.2) a.tmps)=((ps.toList.zip f.toList).foldl (fun(tmps:Array Value) p=>tmps.setIfInBounds p.1 p.2) a.tmps):=by
  rw[<- Array.foldl_toList,Array.toList_zip]
 obtain⟨M,h2⟩:=Zdi (X:=Y) ps.toList f.toList (enc k) a.tmps st.τ (by simp[hsz]) (by simp[hpl]) (λp hp=>by rw[hX.sz];exact hps p hp) (λi q1 q2=>by simpa using hA.rel i (zu q1) q2) (λt=>((hX.tm t).mono hle).mono hXY);have hrd:A7 Y (Ya (Z9 lo H) ol .dead) l:=⟨⟨_,K⟩,B⟩;have hEY:E.X0.le Y:=(hX.go.le.trans hle).trans hXY
 have haw:=C Y s k H hEY hrd hD hj hIs { tmps:=(ps.zip f).foldl (λtmps (x:Tmp×Value)=>tmps.setIfInBounds x.1 x.2) a.tmps,defers:=[] } Y.w
  ⟨Y,rfl,(Goes.refl j.inv).gn (Ent.N_le _),⟨rfl,λi M h2=>by simp at M⟩,by show Array.size _=_;rw[hf,M];exact hX.sz,λt=>by show Rel Y (Array.getD _ t undef) _;rw[hf];exact h2 t,hG⟩
 refine wpIn_mono haw ?_;rintro e a1 w1 (⟨s1,⟨X3,m⟩,rfl,W⟩|⟨ch,rfl,hp⟩);rotate_left;exact(hp.no rfl).elim;have hw1:=m.hw;subst hw1;have T:X3.w.heap[l]?=some (.loop h):=(m.gz.kp.block l S B).trans K;refine⟨X3.w.putObj l (.loop { h with state:=.busy }),run_beginRound T rfl,?_⟩;have hgo:=Gs j.inv m.gz K rfl (o':=.loop { h with state:=.busy }) rfl B;have U:({ Y with w:=Y.w.putObj l (.loop { h with state:=.busy }) }:Cx).w.heap[l]?=some (.loop { h with state:=.busy }):=World.putObj_heap_same S;have u:¬ Xx { Y with w:=Y.w.putObj l (.loop { h with state:=.busy }) } (Ya (Z9 lo H) ol .dead) l:=B
 have hb:=W { Y with w:=Y.w.putObj l (.loop { h with state:=.busy }) } (hEY.trans (Sh _ K rfl)) ⟨⟨_,U⟩,u⟩ a1 _ ⟨{ X3 with w:=X3.w.putObj l (.loop { h with state:=.busy }) },rfl,hgo.gn (Ent.N_le _),⟨m.df.1,λi M h2=>by
  have:=DefR.nil (k:=.round l) m.df
  rw[this]at M;simp at M⟩,m.sz,λt=>(m.tm t).mono (Sh _ T rfl),λg=>(m.gl g).turn _ T rfl⟩
 refine wpIn_mono hb ?_;rintro e a4 w4 (⟨O,⟨z,L⟩,J⟩|⟨ch,rfl,hp⟩);rotate_left;exact(hp.no rfl).elim;have hw4:=L.hw;subst hw4;have hl4:z.w.heap[l]?=some (.loop { h with state:=.busy }):=(L.gz.kp.block l (by rw[World.putObj_size];exact S) u).trans U
 have hend:∀ d:Option Code,Goes Y (Z9 lo H) { z with w:=z.w.putObj l (.loop { h with state:=if d.isNone then .ready else .done,pending:=d }) } (Ya O.H ol (.lp l { h with state:=if d.isNone then .ready else .done,pending:=d })):=λd=>by
  have g1:=Gs (X:={ Y with w:=Y.w.putObj l (.loop { h with state:=.busy }) }) (by
   have:=Gs j.inv (Goes.refl j.inv) K rfl (o':=.loop { h with state:=.busy }) rfl B
   exact this.inv) L.gz U rfl (o':=.loop h) rfl u
  have e:({ Y with w:=Y.w.putObj l (.loop { h with state:=.busy }) }:Cx).w.putObj l (.loop h)=Y.w:=by
   show World.putObj (World.putObj Y.w l _) l _=_
   unfold World.putObj;simp only[Array.setIfInBounds_setIfInBounds]
   have:Y.w.heap.setIfInBounds l (.loop h)=Y.w.heap:=by
    apply Array.ext_getElem?;intro i;rw[Array.getElem?_setIfInBounds]
    split
    rename_i q;subst q;exact K.symm;rfl
   rw[this]
  rw[e]at g1;have g2:Goes Y (Z9 lo H) { z with w:=z.w.putObj l (.loop h) } O.H:=j.trans g1;have hlv:Xx Y (Z9 lo H) l:=.inr ⟨ol,_,R⟩
  have hno:∀ n r,O.H n=.lp l r->False:=λn r hr=>by
   rcases L.gz.on l (.inr ⟨n,r,hr⟩)with q|q
   rw[World.putObj_size]at q;omega;exact u q
  have N:=(Array.getElem?_eq_some_iff.1 hl4).1;have g3:=Goes.turn g2 (b:=l) (o:=.loop h) (o':=.loop { h with state:=if d.isNone then .ready else .done,pending:=d }) (World.putObj_heap_same N) rfl rfl (.inr hlv) (H':=O.H) (λ_=>.inl rfl) (λn r hr=>(hno n r hr).elim)
  have e2:({ z with w:=z.w.putObj l (.loop h) }:Cx).w.putObj l (.loop { h with state:=if d.isNone then .ready else .done,pending:=d })=z.w.putObj l (.loop { h with state:=if d.isNone then .ready else .done,pending:=d }):=by
   show World.putObj (World.putObj z.w l _) l _=_
   unfold World.putObj;simp only[Array.setIfInBounds_setIfInBounds]
  rw[e2]at g3;exact g3.newLp (World.putObj_heap_same N) (.inr hlv) (λn r _ hr=>hno n r hr)
 have hrun:∀ d:Option Code,(Instr.endRound l d).run P z.w=.ok (.bool d.isNone) (z.w.putObj l (.loop { h with state:=if d.isNone then .ready else .done,pending:=d })):=λd=>run_endRound (r:={ h with state:=.busy }) d hl4
 have fin:∀ d:Option Code,y (A s k)=d->I (A s k) (Ya (Z9 lo O.H) ol .dead)->∃ v w',(Instr.endRound l d).run P z.w=.ok v w' /\
   ∃ Z H',Ending.returned v=.returned (.bool (y (A s k)).isNone)/\Z.w=w'/\Goes Y (Z9 lo H) Z H'/\(Z9 lo H' ol=.lp l { state:=if(y (A s k)).isNone then .ready else .done,pending:=y (A s k),fn,tmps:=a.tmps,params:=ps,assign,body,defers:=dn }/\I (A s k) (Ya (Z9 lo H') ol .dead)):=by
  rintro d rfl hI4;refine⟨_,_,hrun _,_,_,rfl,rfl,hend _,?_,?_⟩;rw[Mv,if_pos hlo,Ym];rfl;rw[Mv,if_pos hlo];simp only[AObj.noMp]
  have:Ya (Ya (Z9 lo O.H) ol (.lp l { h with state:=if(y (A s k)).isNone then .ready else .done,pending:=y (A s k) })) ol .dead=Ya (Z9 lo O.H) ol .dead:=by
   funext o
   simp only[Ya]
   split<;>rfl
  rw[this];exact hI4
 cases e with
 |normal=>exact fin none J.1 J.2
 |ret=>exact fin (some .ret) J.1 J.2
 |exit id=>exact fin (some (.exit id)) J.1 J.2
 |goto t=>exact J.elim
 |panic ch=>exact J.elim
 |outgrown=>exact J.elim
theorem Zlt{st:AS}{a:Act}{X:Cx}(i:SatX E X st a X.w)(x:E.rk ≠ .plain)(p:∀ l0,E.rk=.round l0->A7 E.X0 E.H0 l0)(fn:FuncId)(ps:Array Tmp)(assign body:Code)(c:E.rk.isInl=false):
  ∃ l mark w1 dn,(Instr.enterLoop fn a.tmps ps assign body E.rk.F.round).run P X.w=.ok (l,mark) w1/\X.w.heap.size<=l/\w1.heap[l]?=some (.loop { state:=.ready,pending:=none,fn,tmps:=a.tmps,params:=ps,assign,body,defers:=dn }) /\
   Goes X st.H { X with w:=w1 } st.H/\DefR E.rk E.X0.w.heap.size { X with w:=w1 } (mark++a.defers) E.df:=by
 have j:=i.go.inv;have b:=i.df;have t:E.rk.F.round=E.rk.ro:=rfl
 cases h:E.rk with
 |plain=>grind
 |inl N=>rw[h]at c;cases c
 |marks=>
  rw[h]at b;have v:=B5 j (.deferred (some []));have B:=B5 v.inv (.loop { state:=.ready,pending:=none,fn,tmps:=a.tmps,params:=ps,assign,body,defers:=X.w.heap.size });have g:=v.trans B
  have z:((X.w.alloc (.deferred (some []))).alloc (.loop { state:=.ready,pending:=none,fn,tmps:=a.tmps,params:=ps,assign,body,defers:=X.w.heap.size })).heap[X.w.heap.size]?=some (.deferred (some [])):=
   (RowKit.Below.heap_alloc _ _ _ zS).trans (World.alloc_heap_new X.w _)
  refine⟨_,_,_,X.w.heap.size,run_enterLoop_outer fn a.tmps ps assign body,zo,?_,g,b.1,⟨X.w.heap.size,rfl,i.go.kp.size,z,λe u q=>?_⟩,(DefR.go (k:=.marks) b j g).2⟩;have:=World.alloc_heap_new (X.w.alloc (.deferred (some []))) (.loop { state:=.ready,pending:=none,fn,tmps:=a.tmps,params:=ps,assign,body,defers:=X.w.heap.size });simp_all
  have o:∀ {m:List Deferred},Marks E.X0.w.heap.size X.w m->∀ e∈m,∀ D,e.target=.collected D->D<X.w.heap.size:=by
   intro m
   induction m with
   |nil=>grind
   |cons d r ih=>
    rintro⟨⟨D,I,_,G,_⟩,C⟩ e u J y
    grind
  have:=o b.2 e u _ q;omega
 |round l0=>
  obtain⟨⟨n,f⟩,s⟩:=p l0 h;have A:X.w.heap[l0]?=some (.loop n):=((i.gz c).kp.block l0 (Array.getElem?_eq_some_iff.1 f).1 s).trans f;have g:=B5 j (.loop { state:=.ready,pending:=none,fn,tmps:=a.tmps,params:=ps,assign,body,defers:=n.defers });rw[h]at b;exact⟨_,_,_,n.defers,run_enterLoop_inner A fn a.tmps ps assign body,Nat.le_refl _,World.alloc_heap_new X.w _,g,DefR.go (k:=.round l0) b j g⟩
theorem AW.range{g:Operand}{ps:Array Tmp}{assign body:Code}{Q:Exit->AS->Prop}{st:AS}{gf:FuncId}{caps:List V}{σ κ : Type}{enc : κ -> List V}{xs:List κ}(lo1 lo ol q':Nat)(I : σ -> Heap->Prop)(nx : σ -> κ -> σ)(jm : σ -> Option Code)(D : σ -> κ -> Prop)(s0 : σ)
  (hg:st.ev E g=.func (.func gf) [] caps) (hen:Z7 P gf=true) (hro:∀ l0,E.rk=.round l0->A7 E.X0 E.H0 l0) (hps:∀ p∈ps.toList,p<E.n) (hpl:∀ k,(enc k).length=ps.size) (h01:lo1<=lo) (hlo:lo<=ol)
  {Pp:Heap->Prop} (hit:∀ l r,Eh P E.G lo gf caps (Ya (Z9 lo1 st.H) ol (.lp l r)) enc xs Pp) (hPp:∀ s H,I s (Ya H ol .dead)->Pp H) (hj:jm s0=none) (hI0:I s0 (Ya (Z9 lo st.H) ol .dead))
  (hD:R6 (λs k=>D s k/\jm s=none) (λs k=>((jm (nx s k)).isNone,nx s k)) s0 xs)
  (hround:∀ l Y s k H,E.X0.le Y->A7 Y (Ya (Z9 lo H) ol .dead) l->D s k->jm s=none->I s (Ya (Z9 lo H) ol .dead) ->
   AW P ⟨Y,Ya (Z9 lo H) ol .dead,E.n,q',E.G,none,[],.round l⟩ assign (λe s1=>e=.normal/\∀ Z,E.X0.le Z->A7 Z (Ya (Z9 lo H) ol .dead) l->AW P ⟨Z,Ya (Z9 lo H) ol .dead,E.n,q',E.G,none,[],.round l⟩ body (Dl I nx jm lo ol s k) s1) ⟨Zei ps.toList (enc k) st.τ,Ya (Z9 lo H) ol .dead⟩)
  (hafter:∀ H2,I (Yx (λs k=>((jm (nx s k)).isNone,nx s k)) s0 xs).2 (Ya (Z9 lo H2) ol .dead)->(∀ o,o<lo1->H2 o=st.H o)->H2 ol=.dead ->
   match jm (Yx (λs k=>((jm (nx s k)).isNone,nx s k)) s0 xs).2 with|none=>Q .normal ⟨st.τ,H2⟩|some c=>AW P E c Q ⟨st.τ,H2⟩)
  (hrk:E.rk ≠ .plain:=by exact RK.noConfusion) (hkp:E.kp=none:=by rfl) (hri:E.rk.isInl=false:=by rfl):AW P E (.rangeFunc g ps assign body) Q st:=by
 rintro a w ⟨X,hX⟩;have hw:=hX.hw;subst hw;refine wpIn_rangeFunc λfn _=>?_;obtain⟨l,mark,w1,dn,hent,hls,hl1,hgo1,hdf1⟩:=Zlt (P:=P) hX hrk hro fn ps assign body hri;have hfv:=hX.ev g;rw[hg]at hfv;generalize hq:a.eval g=q at hfv
 cases hfv with
 |func _ xs0 ys _ _ hx hy hxr hyr=>
 have hx0:xs0 = #[]:=Array.eq_empty_of_size_eq_zero hx;subst hx0
 have hrun:(callFunc gf (#[.func (.yield l) #[] #[]]++ys)).run P w1=.ok (.enter gf (#[.func (.yield l) #[] #[]]++ys)) w1:=by
  unfold Z7 at hen
  split at hen
  rename_i fn hfn;simp only[Bool.and_eq_true]at hen;obtain⟨hn1,hn2⟩:=hen
  have hn1':(fn.name == "runtime.NumGoroutine")=false:=zu hn1
  have hn2':fn.body.isNone=false:=by cases hb:fn.body<;>simp_all
  simp only[callFunc,Sem.run_bind,run_program,Result.andThen_ok,hfn,hn1',hn2'];simp;simp at hen
 refine⟨l,mark,w1,{ target:=.fn (.func gf) ys,args := #[.func (.yield l) #[] #[]] },w1,gf,#[.func (.yield l) #[] #[]]++ys,w1,hent,?_,λ_ _=>trivial,?_,λh=>(by cases h),?_⟩;simp only[resolve,hq,Deferred.ofValue,Sem.run_pure];simp[go_sem];simp only[invoke,hrun];refine(E.rk.calls).2 ?_;have hI1:=hgo1.inv
 have hno:∀ o r,o≠ol->st.H o=.lp l r->False:=λo r _ ho=>by
  have:=(hX.go.inv.lps _ _ _ ho).1;have:=(Array.getElem?_eq_some_iff.1 this).1;omega
 have hgo2:=hgo1.newLp hl1 (.inl hls) hno
 have hmask:∀ r,Ya (Z9 lo1 st.H) ol (.lp l r)=Z9 lo1 (Ya st.H ol (.lp l r)):=λr=>by rw[Mv,if_pos (Nat.le_trans h01 hlo)];rfl
 have hmask2:∀ r,Z9 lo (Ya (Z9 lo1 st.H) ol (.lp l r))=Ya (Z9 lo st.H) ol (.lp l r):=λr=>by rw[Mv,if_pos hlo,On _ h01];rfl
 have hyd:=Zw5 (P:=P) (X1:={ X with w:=w1 }) lo ol q' l dn fn I nx jm D hlo hX hgo1.le hps hpl (hround l);have hI2:Inv { X with w:=w1 } (Ya (Z9 lo1 st.H) ol (.lp l { state:=.ready,pending:=none,fn,tmps:=a.tmps,params:=ps,assign,body,defers:=dn })):=hmask _ ▸ (Cp hgo2.inv lo1).inv
 have hcall:=hit l _ { X with w:=w1 } _ _ σ _ _ _ s0 hyd hD (by
  rw[hmask2,hj,Ym];refine⟨rfl,?_⟩
  have:Ya (Ya (Z9 lo st.H) ol (.lp l { state:=.ready,pending:=none,fn,tmps:=a.tmps,params:=ps,assign,body,defers:=dn })) ol .dead=Ya (Z9 lo st.H) ol .dead:=by
   funext o
   simp only[Ya]
   split<;>rfl
  rw[this];exact hI0) (λs H h=>hPp s _ h.2) hI2 (λg=>(hX.gl g).go hX.go.inv hgo1) (#[.func (.yield l) #[] #[]]++ys) ⟨by simp[hy];omega,λi h1 h2=>by
   cases i with
   |zero=>
    rw[Array.getElem_append_left zS];exact .func _ #[] #[] [] [] rfl rfl (λi h1 h2=>by simp at h2) (λi h1 h2=>by simp at h2)
   |succ i=>
    have:=hyr i (by simp at h1;omega) (zu h2);rw[Array.getElem_append_right zS]
    simpa using this.mono hgo1.le⟩
 refine hcall.mono ?_;rintro e w3 ⟨c,Y,H',rfl,_,rfl,hg3,hol3,hI3⟩;generalize hs:(Yx (λs k=>((jm (nx s k)).isNone,nx s k)) s0 xs).2=sf at *
 have hol3':H' ol=.lp l { state:=if(jm sf).isNone then .ready else .done,pending:=jm sf,fn,tmps:=a.tmps,params:=ps,assign,body,defers:=dn }:=by
  rw[W6 hlo]at hol3;exact Zyx hol3
 have hl3:=(hg3.inv.lps _ _ _ hol3').1;have hend:=run_endLoop (P:=P) hl3 (by simp only;split<;>simp);refine⟨jm sf,_,hend,?_⟩;rw[hmask]at hg3;have hg4:=((hX.gz hri).trans hgo2).trans (Oo hgo2.inv hg3)
 have hlow:low lo1 (Ya st.H ol (.lp l { state:=.ready,pending:=none,fn,tmps:=a.tmps,params:=ps,assign,body,defers:=dn })) H' ol=.lp l { state:=if(jm sf).isNone then .ready else .done,pending:=jm sf,fn,tmps:=a.tmps,params:=ps,assign,body,defers:=dn }:=by
  unfold low;rw[if_pos (Nat.le_trans h01 hlo),hol3'];rfl
 have hg5:=hg4.turn hl3 rfl (o':=.loop { state:=.exhausted,pending:=jm sf,fn,tmps:=a.tmps,params:=ps,assign,body,defers:=dn }) rfl (.inl (Nat.le_trans hX.go.kp.size hls))
  (H':=Ya (low lo1 (Ya st.H ol (.lp l { state:=.ready,pending:=none,fn,tmps:=a.tmps,params:=ps,assign,body,defers:=dn })) H') ol (.lp l { state:=.exhausted,pending:=jm sf,fn,tmps:=a.tmps,params:=ps,assign,body,defers:=dn }))
  (λn=>by
   by_cases e:n=ol
   subst e;exact .inr ⟨_,_,hlow,Ym ..,rfl⟩
   exact .inl (Zp _ _ e)) (λn r hn=>by
   by_cases e:n=ol
   subst e
   left
   rw[Ym,hlow];intro h;simp only[AObj.lp.injEq,true_and,Loop.mk.injEq,and_true]at h
   split at h<;>cases h
   exact absurd ((hg4.inv.lps _ _ _ hlow).2 _ _ hn) e)
 have hg6:=hg5.trans (Goes.sub hg5.inv (H':=Ya (low lo1 st.H H') ol .dead) λo=>by
  by_cases e:o=ol
  subst e;exact .inl (Ym ..)
  right
  rw[Zp _ _ e,Zp _ _ e];simp only[low]
  split
  rfl
  rw[Zp _ _ e])
 have hle:X.le { Y with w:=Y.w.putObj l (.loop { state:=.exhausted,pending:=jm sf,fn,tmps:=a.tmps,params:=ps,assign,body,defers:=dn }) }:=(hgo2.le.trans hg3.le).trans (Sh _ hl3 rfl)
 have hsat:Mb E ⟨st.τ,Ya (low lo1 st.H H') ol .dead⟩ { a with defers:=mark++a.defers } (Y.w.putObj l (.loop { state:=.exhausted,pending:=jm sf,fn,tmps:=a.tmps,params:=ps,assign,body,defers:=dn })):=by
  refine⟨_,rfl,hg6.gn E.N_le,?_,hX.sz,λt=>(hX.tm t).mono hle,λg=>?_⟩;have hz:=(hdf1.go hgo2.inv (Oo hgo2.inv hg3));refine hz.mono (Sh _ hl3 rfl) λD hD=>World.putObj_heap_other λe=>?_;subst e;rw[hl3]at hD;cases hD;have:=((hX.gl g).go hX.go.inv hgo2).go hgo2.inv (Oo hgo2.inv hg3);exact this.turn _ hl3 rfl
 have ha:=hafter (Ya (low lo1 st.H H') ol .dead) (by
  have:Ya (Z9 lo (Ya (low lo1 st.H H') ol .dead)) ol .dead=Ya (Z9 lo H') ol .dead:=by
   have e:Z9 lo (low lo1 st.H H')=Z9 lo H':=Nr λo q=>by rw[low,if_pos (Nat.le_trans h01 q),Qv]
   rw[Mv,if_pos hlo,e]
   funext o
   simp only[Ya]
   split<;>rfl
  rw[this];exact hI3) (λo ho=>by rw[Zp _ _ zo,low,if_neg zo]) (Ym ..)
 cases hjm:jm sf with
 |none=>
  rw[hjm]at ha hsat;exact .inl ⟨_,hsat,ha⟩
 |some c=>
  rw[hjm]at ha hsat;exact ha _ _ hsat
theorem Ai{σ κ : Type}(I : σ -> Heap->Prop)(a : σ -> κ -> σ)(b : σ -> Option Code)(lo ol:Nat)(s : σ)(k : κ)(s':AS):Dl I a b lo ol s k .normal s'=(b (a s k)=none/\I (a s k) (Ya (Z9 lo s'.H) ol .dead)):=rfl
theorem Zcr{σ κ : Type}(I : σ -> Heap->Prop)(a : σ -> κ -> σ)(b : σ -> Option Code)(lo ol:Nat)(s : σ)(k : κ)(s':AS):Dl I a b lo ol s k .ret s'=(b (a s k)=some .ret/\I (a s k) (Ya (Z9 lo s'.H) ol .dead)):=rfl
theorem Zgz(p:Nat)(ps:List Nat)(v:V)(vs:List V)(τ : Nat->V):Zei (p::ps) (v::vs) τ = Zei ps vs (Ya τ p v):=rfl
theorem Zt5(τ : Nat->V):Zei [] [] τ = τ := rfl
attribute[go_sem]Ai Zcr Zgz Zt5
theorem Qy{g:Operand}{ps:Array Tmp}{a body:Code}{Q:Exit->AS->Prop}{st:AS}{K:FuncId}{j:List V}{σ κ : Type}{enc : κ -> List V}{xs:List κ}(b lo ol q:Nat)(S : σ -> Heap)(m : σ -> κ -> σ)(i : σ -> Option Code)(D : σ -> κ -> Prop)(s0 : σ)
  (O:st.ev E g=.func (.func K) [] j) {M:Heap->Prop} (B:∀ l r,Eh P E.G lo K j (Ya (Z9 b st.H) ol (.lp l r)) enc xs M) (F:Ya (Z9 lo st.H) ol .dead=S s0)
  (T:R6 (λs k=>D s k/\i s=none) (λs k=>((i (m s k)).isNone,m s k)) s0 xs)
  (d:∀ l Y s k,A7 Y (S s) l->D s k->i s=none ->
   AW P ⟨Y,S s,E.n,q,E.G,none,[],.round l⟩ a (λe s1=>e=.normal/\∀ Z,A7 Z (S s) l->AW P ⟨Z,S s,E.n,q,E.G,none,[],.round l⟩ body (Dl (λs H=>H=S s) m i lo ol s k) s1) ⟨Zei ps.toList (enc k) st.τ,S s⟩)
  (f:∀ H2 sf,sf=(Yx (λs k=>((i (m s k)).isNone,m s k)) s0 xs).2->Ya (Z9 lo H2) ol .dead=S sf->(∀ o,o<b->H2 o=st.H o) ->
   match i sf with|none=>Q .normal ⟨st.τ,H2⟩|some c=>AW P E c Q ⟨st.τ,H2⟩)
  (t:∀ l0,E.rk=.round l0->A7 E.X0 E.H0 l0:=by exact λ_ h=>nomatch h) (C:Z7 P K=true:=by kernel_rfl) (w:(ps.toList.all λp=>Nat.blt p E.n)=true:=by rfl) (x:∀ k,(enc k).length=ps.size:=by exact λ_=>rfl) (J:b<=lo:=by decide) (y:lo<=ol:=by decide) (A:i s0=none:=by rfl)
  (u:E.rk ≠ .plain:=by exact RK.noConfusion) (z:E.kp=none:=by rfl) (v:E.rk.isInl=false:=by rfl) (hPp:∀ s H,Ya H ol .dead=S s->M H:=by exact λ_ _ _=>trivial):AW P E (.rangeFunc g ps a body) Q st:=by
 refine AW.range b lo ol q (λs H=>H=S s) m i D s0 O C t (λp N=>by have:=List.all_eq_true.1 w p N;simp_all) x J y B hPp A F T (λl Y s k H _ L R A I=>?_) (λH2 I U _=>f H2 _ rfl I U) u z v;rw[I]at L⊢;refine(d l Y s k L R A).mono ?_
 grind
theorem Weak.rng{lo ol:Nat}{τ : Nat->V}{a c:Heap}{l:List (Nat×V)}(h:Ya (Z9 lo a) ol .dead=c)(d:S8 τ l):Weak E ⟨τ,a⟩ ⟨Z5 La l,c⟩:=by
 refine Tc (λ_=>false) (λt=>?_) (λo=>?_)
 rcases Ww (τ := La) (f := τ) t l (W9 d)with b|b
 exact .inl b;refine .inr ?_
 show Fz _ a (τ t) (Z5 La l t)
 rw[b];exact Zb
 show FzO _ a o (c o)
 rw[<- h]
 by_cases e:o=ol
 subst e;rw[Ym];trivial;rw[Zp _ _ e]
 rcases Nat.lt_or_ge o lo with q|q
 rw[Xi q];trivial
 .rw[W6 q]
  have:=FzO.same (F:=λ_=>false) (H:=a) (o:=o) rfl
  cases g:a o with
  |mp=>trivial
  |_=>rw[g]at this;exact this
theorem ZoM{G:Nat->V}{f:FuncId}{a:Func}{c:Code}{args:List V}{H:Heap}{K:V->Heap->Prop}(q:Nat)(n:Nat)(d:List ResultVar)(l:P.funcs[f]?=some a)(h:∀ X,AW P ⟨X,H,n,q,G,none,[],.marks⟩ c (T3 P d K) ⟨Uy 0 args,H⟩)
  (m:a.body=some c:=by rfl) (j:a.ntmps=n:=by rfl) (i:a.results.toList=d:=by rfl) (b:Nat.ble args.length n=true:=by rfl):Spec P G f args H K:=by
 subst j i
 exact λX _ _ o p r=>(Od (.inr rfl) (λ_=>rfl) q l m b o p r (h X)).mono λe w' ⟨c,v,y,Y,g,x,w,u⟩=>by
  rcases g with ⟨g,t⟩|⟨k,s,_⟩
  grind
  grind
theorem Z5a{κ : Type}(p : κ -> Bool):∀ xs:List κ,(Yx (fun(_:Bool) k=>((if p k=true then some Code.ret else none:Option Code).isNone,p k)) false xs).2=xs.any p
 |[]=>rfl
 |k::r=>by
  rw[List.any_cons,Yx];cases h:p k;exact Z5a p r;rfl
theorem Pb{σ κ : Type}{D : σ -> κ -> Prop}{a : σ -> Option Code}{b : σ -> κ -> σ}:∀ {xs:List κ} {s : σ},a s=none->(∀ k∈xs,∀ s,D s k)->R6 (λs k=>D s k/\a s=none) (λs k=>((a (b s k)).isNone,b s k)) s xs
 |[],_,_,_=>trivial
 |k::r,s,hj,h=>⟨⟨h k zS s,hj⟩,λq=>Pb (by simp_all) λx c=>h x (by grind)⟩
@[go_sem] def stM(lo:Nat)(B:Heap)(l:List (Nat×V))(m:List (Nat×AObj)):AS:=⟨Z5 La l,Z5 (Z9 lo B) m⟩
theorem Y7{lo:Nat}{τ : Nat->V}{H B:Heap}{l:List (Nat×V)}{m:List (Nat×AObj)}(h:S8 τ l)(b:S8 H m)(d:Z9 lo H=Z9 lo B):Weak E ⟨τ,H⟩ (Hs.stM lo B l m):=by
 refine Tc (λ_=>false) (λt=>?_) (λo=>?_)
 rcases Ww (τ := La) (f := τ) t l (W9 h)with a|a
 exact .inl a;refine .inr ?_
 show Fz _ H (τ t) (Z5 La l t)
 rw[a];exact Zb
 show FzO _ H o (Z5 (Z9 lo B) m o)
 rcases Ww (τ := Z9 lo B) (f:=H) o m (W9 b)with a|a
 rw[a,<- d]
 rcases Nat.lt_or_ge o lo with q|q
 rw[Xi q];trivial
 .rw[W6 q]
  have:=FzO.same (F:=λ_=>false) (H:=H) (o:=o) rfl
  cases c:H o with
  |mp=>trivial
  |_=>rw[c]at this;exact this
 rw[a];exact FzO.same rfl
end
end Go.Hs
end
