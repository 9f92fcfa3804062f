/- A part. No condition. -/
import Derived.Test.YtoahejkahaimnaaGreatDoorP25
import Derived.Carry
import Derived.ChangeArms
import Derived.DataReads
set_option linter.all false
namespace Go.Hs
section
variable{P:Program}{W:World}
def Z9b(W:World):Cx:={ β := λ_ _=>none,S:=λb i=>(W.cell? ⟨b,i,none⟩).isSome=true,base:=W.heap.size,w:=W }
theorem Zoga(W:World):Inv (Z9b W) Zk:=by
 have lt:∀ {b i:Nat},(Z9b W).S b i->b<W.heap.size:=by
  intro b i hs;have hs:(W.cell? ⟨b,i,none⟩).isSome=true:=hs;rw[Option.isSome_iff_exists]at hs;obtain⟨v,hv⟩:=hs;exact World.block_lt_of_cell? _ _ hv
 refine⟨λo c g fz cs h=>(by simp[Zk]at h),λo1 c1 g1 f1 l1 o2 c2 g2 f2 l2 b s1 s2 h=>(by simp[Zk]at h),λb i hs=>⟨?_,λo c g fz cs bs h=>(by simp[Zk]at h)⟩,λo=>⟨0,λ_ _=>rfl⟩,Nat.le_refl _,λb i hs hb=>absurd (lt hs) (Nat.not_lt.2 hb),.no λo lo b ks vs h=>(by simp[Zk]at h),.no λo b r h=>(by simp[Zk]at h)⟩;have hs:(W.cell? ⟨b,i,none⟩).isSome=true:=hs;rw[Option.isSome_iff_exists]at hs;obtain⟨v,hv⟩:=hs;exact World.block_lt_of_cell? _ _ hv
theorem Zj0{α : Type}{p:Nat -> α -> Prop}:∀ n:Nat,(∀ i,i<n->∃ a,p i a)->∃ l:List α,l.length=n/\∀ i a,l[i]?=some a->p i a
 |0,_=>⟨[],rfl,λi a h=>by simp at h⟩
 |n+1,h=>by
  obtain⟨l,hl,hp⟩:=Zj0 n λi hi=>h i zo;obtain⟨a,ha⟩:=h n zo;refine⟨l++[a],by simp[hl],λi b hb=>?_⟩
  rcases Nat.lt_or_ge i l.length with h1|h1
  rw[List.getElem?_append_left h1]at hb;exact hp i b hb;rw[List.getElem?_append_right h1]at hb
  have:i=l.length:=by
   have:=(List.getElem?_eq_some_iff.1 hb).1;simp at this;omega
  subst this;simp at hb;subst hb;rw[hl];exact ha
def Reads(P:Program)(W:World){α : Type}(t:TypeId)(m:Nat)(f : α -> List V):Prop:=
 P.cellsOf t=m/\(∀ a,(f a).length=m)/\∀ {H:Type} (enc:TypeId×Value->H) (held:Bool) (fuel:Nat) (cs:List Value) (x:DataW H×List MemPlace),
  DataW.trod enc P W 0 (λ_=>true) held fuel t cs=some x->∃ a,RelC (Z9b W) cs (f a)
theorem Reads.int{t:TypeId}{k:IntKind}(ht:P.underlying t=some (.int k))(hc:P.cellsOf t=1):Reads P W t 1 (λn=>[V.int k n]):=by
 refine⟨hc,λ_=>rfl,λenc held fuel cs x h=>?_⟩;obtain⟨n,rfl,_,_⟩:=DataW.trod_int ht h;exact⟨n,Z9c rfl (.int _ _) RelC.nil⟩
theorem Reads.slice{α : Type}{t e:TypeId}{m:Nat}{f : α -> V}(ht:P.underlying t=some (.slice e))(hc:P.cellsOf t=1)(hm:0<m)(he:Reads P W e m (λa=>(f a).cells)):Reads P W t 1 (λs:Sl α => [Za .any m f s]):=by
 refine⟨hc,λ_=>rfl,λenc held fuel cs x h=>?_⟩;obtain⟨hce,hlen,hrd⟩:=he
 rcases DataW.trod_slice ht h with ⟨rfl,_⟩|⟨a,len,cap,elems,rest,n,_,rfl,_,_,hl,_,hel,hread,hsp,_⟩
 exact⟨.nil,Z9c rfl .nils RelC.nil⟩;obtain⟨hrl,hrest⟩:=hsp rfl;rw[hce]at hread hrest
 have hspot:0<cap->a.spot=none:=by
  intro h0
  have key:∀ j (o:Option (DataW _×List MemPlace)),j=0->(W.cells? 0 (a.add (j*m)) m).bind (DataW.trod enc P W 0 (λ_=>true) held n e)=o->o.isSome=true->a.spot=none:=by
   intro j o hj0 hj ho;subst hj0;rw[Nat.zero_mul]at hj;rw[Option.isSome_iff_exists]at ho;obtain⟨y,rfl⟩:=ho;obtain⟨cs',h1,_⟩:=Option.bind_eq_some_iff.1 hj;obtain⟨_,h2,h3⟩:=World.cells?_some h1;have h4:=h3 0 hm;rw[List.getElem?_eq_getElem zo]at h4;exact World.cell?_spot h4
  rcases Nat.eq_zero_or_pos len with h1|h1
  have h2:=hrest 0 zo;exact key _ _ zo h2 (by rw[List.getElem?_eq_getElem zo];rfl);have h2:=hread 0 h1;exact key _ _ rfl h2 (by rw[List.getElem?_eq_getElem zo];rfl)
 rcases Nat.eq_zero_or_pos cap with h0|h0
 have h1:len=0:=zo;subst h0 h1;exact⟨.mk false [],Z9c rfl (.slice0 _ _ _ a) RelC.nil⟩;have hs:=hspot h0;obtain⟨b,off,sp⟩:=a;have hs:sp=none:=hs;subst hs
 obtain⟨l,hll,hp⟩:=Zj0 (p:=λi (a : α)=>∃ cs',W.cells? 0 (Addr.add ⟨b,off,none⟩ (i*m)) m=some cs'/\RelC (Z9b W) cs' (f a).cells) len (by
  intro i hi;have h1:=hread i hi;rw[List.getElem?_eq_getElem zo]at h1;obtain⟨cs',h2,h3⟩:=Option.bind_eq_some_iff.1 h1;obtain⟨a,ha⟩:=hrd enc held n cs' _ h3
  exact⟨a,cs',h2,ha⟩)
 refine⟨.mk false l,Z9c rfl ?_ RelC.nil⟩
 have hE:∀ v∈l.map f,v.cells.length=m:=by
  intro v hv;obtain⟨a,_,rfl⟩:=List.mem_map.1 hv;exact hlen a
 have hfl:=Zsb hE;rw[List.length_map]at hfl
 have cellAt:∀ i (hi:i<(flat (l.map f)).length),∃ y,W.cell? ⟨b,off+i,none⟩=some y/\y.oneCell'=true/\Rel (Z9b W) y (flat (l.map f))[i]:=by
  intro i hi
  have hi2:i<l.length*m:=by rw[<- hfl];exact hi
  have hq:i/m<l.length:=Nat.div_lt_of_lt_mul (by rw[Nat.mul_comm];exact hi2);have hr:i%m<m:=Nat.mod_lt _ hm
  have hdm:i/m*m+i%m=i:=by rw[Nat.mul_comm];exact Nat.div_add_mod i m
  obtain⟨cs',h1,h2⟩:=hp (i/m) _ (List.getElem?_eq_getElem hq);obtain⟨_,h3,h4⟩:=World.cells?_some h1;have h5:=h4 (i%m) hr;rw[List.getElem?_eq_getElem zo]at h5;have h6:=h2.rel (i%m) zo (by rw[hlen];exact hr);have h7:=Zpg hE (i/m) (i%m) (by rw[List.length_map];exact hq) hr;rw[hdm,List.getElem?_eq_getElem hi,List.getElem_map,List.getElem?_eq_getElem (by rw[hlen];exact hr)]at h7;have h8:=Option.some.inj h7;refine⟨_,?_,h2.one _ (List.getElem_mem _),by rw[h8];exact h6⟩;rw[<- h5,Addr.add_lit,Addr.add_lit,Nat.add_assoc,hdm]
 have:=Rel.slice (X:=Z9b W) .any false m (l.map f) b off cap (λi=>(W.cell? ⟨b,off+i,none⟩).getD undef) (by rw[List.length_map,hll];exact hl) zS hE
  (λi hi=>by
   obtain⟨y,h1,h2,_⟩:=cellAt i hi;refine⟨by show(W.cell? ⟨b,off+i,none⟩).isSome=true;rw[h1];rfl,trivial,?_,by simp only[h1,Option.getD_some];exact h2⟩
   show W.cell? ⟨b,off+i,none⟩=_
   rw[h1];rfl)
  (λi hi=>by
   obtain⟨y,h1,_,h3⟩:=cellAt i hi;simp only[h1,Option.getD_some]
   exact h3)
 rw[List.length_map,hll]at this;exact this
end
end Go.Hs
