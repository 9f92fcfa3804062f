/- Part 52 of a proof; no condition. -/
import Derived.Test.YtegjlbpnpiigkaaGreatDoorPart31
import Derived.Handed
set_option linter.unusedSimpArgs false
set_option linter.unusedVariables false
section
namespace Go.Hs
section
variable {P:Program} {W:World}
def ReadsB (P:Program) (W:World) {α : Type} (t:TypeId) (m:Nat) (B : α → Prop) (f : α → List V):Prop :=
 P.cellsOf t=m∧(∀ a,(f a).length=m)∧∀ {H:Type} (enc:TypeId × Value→H) (held:Bool) (fuel:Nat) (cs:List Value) (x:DataW H × List MemPlace),
  DataW.trod enc P W 0 (fun _=>true) held fuel t cs=some x→(x.1.weights P t).all (· ≤ reachBytes)=true→∃ a,B a∧RelC (Z7b W) cs (f a)
theorem ReadsB.int {t:TypeId} {k:IntKind} (ht:P.underlying t=some (.int k)) (hc:P.cellsOf t=1):ReadsB P W t 1 (InK k) (fun n=>[V.int k n]):=by
 refine ⟨hc,fun _=>rfl,fun enc held fuel cs x h _=>?_⟩;obtain ⟨n,rfl,_,hw⟩:=DataW.trod_int ht h;exact ⟨n,by simpa [Lit.wf,InK] using hw,Z8c rfl (.int _ _) RelC.nil⟩
theorem ReadsB.str {t:TypeId} (ht:P.underlying t=some .string) (hc:P.cellsOf t=1):ReadsB P W t 1 (fun s=>s.length≤reachBytes) (fun s:List UInt8=>[V.str s]):=by
 refine ⟨hc,fun _=>rfl,fun enc held fuel cs x h hw=>?_⟩;obtain ⟨s,rfl,rfl,_⟩:=DataW.trod_string ht h;exact ⟨s.data.toList,by simpa [DataW.weights] using hw,Z8c rfl (.str _ _ rfl) RelC.nil⟩
theorem Zkv {H:Type} {e:TypeId} {l:List (DataW H)} (h:(DataW.weightsAll P e l).all (· ≤ reachBytes)=true) {d:DataW H} (hd:d∈l):(d.weights P e).all (· ≤ reachBytes)=true:=by
 induction l with
 | nil=>cases hd
 | cons x r ih =>
  simp only [DataW.weightsAll,List.all_append,Bool.and_eq_true] at h
  rcases List.mem_cons.1 hd with rfl | hd
  ·exact h.1
  ·exact ih h.2 hd
theorem Zdh {H:Type} {ts:List TypeId} {l:List (DataW H)} (h:(DataW.weightsEach P ts l).all (· ≤ reachBytes)=true) {j:Nat} {t:TypeId} {d:DataW H} (ht:ts[j]? = some t) (hd:l[j]? = some d):(d.weights P t).all (· ≤ reachBytes)=true:=by
 induction ts generalizing l j with
 | nil=>cases ht
 | cons t0 ts ih =>
  cases l with
  | nil=>cases hd
  | cons x r =>
   simp only [DataW.weightsEach,List.all_append,Bool.and_eq_true] at h
   cases j with
   | zero =>
    obtain rfl:=Option.some.inj ht;obtain rfl:=Option.some.inj hd;exact h.1
   | succ j=>exact ih h.2 ht hd
theorem ReadsB.field {α H:Type} {t:TypeId} {m:Nat} {B : α → Prop} {f : α → List V} (hr:ReadsB P W t m B f) {enc:TypeId × Value→H} {held:Bool} {i j n:Nat} {cs:List Value} {xs:List (DataW H × List MemPlace)} {ts:List TypeId}
  (hw:(DataW.weightsEach P ts (xs.map (·.1))).all (· ≤ reachBytes)=true) (ht:ts[j]? = some t)
  (h:DataW.trod enc P W 0 (fun _=>true) held n t ((cs.drop i).take (P.cellsOf t))=xs[j]?) (hj:j<xs.length):∃ a,B a∧RelC (Z7b W) ((cs.drop i).take m) (f a):=by
 rw [hr.1,List.getElem?_eq_getElem hj] at h;exact hr.2.2 enc held n _ _ h (Zdh hw ht (by rw [List.getElem?_map,List.getElem?_eq_getElem hj];rfl))
theorem ReadsB.slice {α : Type} {t e:TypeId} {m:Nat} {B : α → Prop} {f : α → V} (ht:P.underlying t=some (.slice e)) (hc:P.cellsOf t=1) (hm:0<m) (hb:Nat.ble 1 (P.bytesOf e)=true) (he:ReadsB P W e m B (fun a=>(f a).cells)):ReadsB P W t 1 (fun s:Sl α => s.l.length≤reachBytes∧∀ a∈s.l,B a) (fun s:Sl α => [Zb .any m f s]):=by
 refine ⟨hc,fun _=>rfl,fun enc held fuel cs x h hw=>?_⟩;obtain ⟨hce,hlen,hrd⟩:=he
 rcases DataW.trod_slice ht h with ⟨rfl,_⟩ | ⟨a,len,cap,elems,rest,n,_,rfl,hxe,_,hl,_,hel,hread,hsp,_⟩
 ·exact ⟨.nil,⟨Nat.zero_le _,fun a ha=>by cases ha⟩,Z8c rfl .nils RelC.nil⟩
 ·obtain ⟨hrl,hrest⟩:=hsp rfl
  rw [hce] at hread hrest;rw [hxe] at hw;simp only [DataW.weights,ht,List.all_cons,List.all_append,Bool.and_eq_true,decide_eq_true_eq,List.length_map] at hw
  have hle:len≤reachBytes:=by
   have h1:1≤P.bytesOf e:=Nat.le_of_ble_eq_true hb;have h2:=Nat.le_trans (Nat.mul_le_mul_left (elems.length+rest.length) h1) hw.1;omega
  have hspot:0<cap→a.spot=none:=by
   intro h0
   have key:∀ j (o:Option (DataW _ × List MemPlace)),j=0→(W.cells? 0 (a.add (j * m)) m).bind (DataW.trod enc P W 0 (fun _=>true) held n e)=o→o.isSome=true→a.spot=none:=by
    intro j o hj0 hj ho;subst hj0;rw [Nat.zero_mul] at hj;rw [Option.isSome_iff_exists] at ho;obtain ⟨y,rfl⟩:=ho;obtain ⟨cs',h1,_⟩:=Option.bind_eq_some_iff.1 hj;obtain ⟨_,h2,h3⟩:=World.cells?_some h1;have h4:=h3 0 hm;rw [List.getElem?_eq_getElem (by omega)] at h4;exact World.cell?_spot h4
   rcases Nat.eq_zero_or_pos len with h1 | h1
   ·have h2:=hrest 0 (by omega)
    exact key _ _ (by omega) h2 (by rw [List.getElem?_eq_getElem (by omega)];rfl)
   ·have h2:=hread 0 h1
    exact key _ _ rfl h2 (by rw [List.getElem?_eq_getElem (by omega)];rfl)
  rcases Nat.eq_zero_or_pos cap with h0 | h0
  ·have h1:len=0:=by omega
   subst h0 h1;exact ⟨.mk false [],⟨Nat.zero_le _,fun a ha=>by cases ha⟩,Z8c rfl (.slice0 _ _ _ a) RelC.nil⟩
  ·have hs:=hspot h0
   obtain ⟨b,off,sp⟩:=a;have hs:sp=none:=hs;subst hs
   obtain ⟨l,hll,hp⟩:=Zpw (p:=fun i (a : α)=>B a∧∃ cs',W.cells? 0 (Addr.add ⟨b,off,none⟩ (i * m)) m=some cs'∧RelC (Z7b W) cs' (f a).cells) len (by
    intro i hi;have h1:=hread i hi;rw [List.getElem?_eq_getElem (by omega)] at h1;obtain ⟨cs',h2,h3⟩:=Option.bind_eq_some_iff.1 h1;obtain ⟨a,hB,ha⟩:=hrd enc held n cs' _ h3 (Zkv hw.2.1 (List.mem_map.2 ⟨_,List.getElem_mem _,rfl⟩))
    exact ⟨a,hB,cs',h2,ha⟩)
   refine ⟨.mk false l,⟨by show l.length≤_;omega,fun a ha=>?_⟩,Z8c rfl ?_ RelC.nil⟩
   ·obtain ⟨i,hi,rfl⟩:=List.mem_iff_getElem.1 ha
    exact (hp i _ (List.getElem?_eq_getElem hi)).1
   have hE:∀ v∈l.map f,v.cells.length=m:=by
    intro v hv;obtain ⟨a,_,rfl⟩:=List.mem_map.1 hv;exact hlen a
   have hfl:=Zvb hE;rw [List.length_map] at hfl
   have cellAt:∀ i (hi:i<(flat (l.map f)).length),∃ y,W.cell? ⟨b,off+i,none⟩=some y∧y.oneCell'=true∧Rel (Z7b W) y (flat (l.map f))[i]:=by
    intro i hi
    have hi2:i<l.length * m:=by rw [← hfl];exact hi
    have hq:i / m<l.length:=Nat.div_lt_of_lt_mul (by rw [Nat.mul_comm];exact hi2);have hr:i % m<m:=Nat.mod_lt _ hm
    have hdm:i / m * m+i % m=i:=by rw [Nat.mul_comm];exact Nat.div_add_mod i m
    obtain ⟨_,cs',h1,h2⟩:=hp (i / m) _ (List.getElem?_eq_getElem hq);obtain ⟨_,h3,h4⟩:=World.cells?_some h1;have h5:=h4 (i % m) hr;rw [List.getElem?_eq_getElem (by omega)] at h5;have h6:=h2.rel (i % m) (by omega) (by rw [hlen];exact hr);have h7:=Zxg hE (i / m) (i % m) (by rw [List.length_map];exact hq) hr;rw [hdm,List.getElem?_eq_getElem hi,List.getElem_map,List.getElem?_eq_getElem (by rw [hlen];exact hr)] at h7;have h8:=Option.some.inj h7;refine ⟨_,?_,h2.one _ (List.getElem_mem _),by rw [h8];exact h6⟩;rw [← h5,Addr.add_lit,Addr.add_lit,Nat.add_assoc,hdm]
   have:=Rel.slice (X:=Z7b W) .any false m (l.map f) b off cap (fun i=>(W.cell? ⟨b,off+i,none⟩).getD undef) (by rw [List.length_map,hll];exact hl) (by simp) hE
    (fun i hi=>by
     obtain ⟨y,h1,h2,_⟩:=cellAt i hi;refine ⟨by show (W.cell? ⟨b,off+i,none⟩).isSome=true;rw [h1];rfl,trivial,?_,by simp only [h1,Option.getD_some];exact h2⟩
     show W.cell? ⟨b,off+i,none⟩=_
     rw [h1];rfl)
    (fun i hi=>by
     obtain ⟨y,h1,_,h3⟩:=cellAt i hi;simp only [h1,Option.getD_some]
     exact h3)
   rw [List.length_map,hll] at this;exact this
end
end Go.Hs
end
