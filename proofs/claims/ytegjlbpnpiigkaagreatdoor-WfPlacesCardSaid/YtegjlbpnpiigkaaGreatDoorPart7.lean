/- Part 7 of a proof; no condition. -/
import Derived.Test.YtegjlbpnpiigkaaGreatDoorPart6
import Derived.Laws.Append
set_option linter.unusedSimpArgs false
set_option linter.unusedVariables false
section
namespace Go.Hs
section
variable {P:Program} {X:Cx} {H:Heap}
theorem RelC.get? {xs:List Value} {l:List V} (h:RelC X xs l) {i:Nat} {v:V} (hv:l[i]? = some v):∃ x,xs[i]? = some x∧Rel X x v∧x.oneCell'=true:=by
 rw [List.getElem?_eq_some_iff] at hv;obtain ⟨hi,rfl⟩:=hv;have hl:=h.len;exact ⟨xs[i]'(by omega),by rw [List.getElem?_eq_getElem],h.rel i _ hi,h.one _ (List.getElem_mem _)⟩
theorem Inv.cells (h:Inv X H) {o g fz:Nat} {c:Col} {cs:List V} (ho:H o = .cells c g fz cs) {b bs:Nat} (hβ : X.β o g=some (b,bs)) :
  ∃ (c1:Array Value) (t:TypeId),X.w.heap[b]? = some (Obj.cells c1 t (0,0))∧bs+cs.length≤c1.size∧RelC X ((c1.toList.drop bs).take cs.length) cs:=by
 obtain ⟨b',bs',h1,_,h2⟩:=h.obj o c g fz cs ho;rw [hβ] at h1;cases h1;exact h2
theorem Z4g {w:World} {b i:Nat} {c1:Array Value} {t:TypeId} {fr:Nat × Nat} (hb:w.heap[b]? = some (Obj.cells c1 t fr)):w.cell? ⟨b,i,none⟩=c1[i]? := by
 simp [World.cell?,hb]
theorem Zgc {c1:List Value} {bs n i:Nat} (hi:i<n):((c1.drop bs).take n)[i]? = c1[bs+i]? := by
 rw [List.getElem?_take_of_lt hi,List.getElem?_drop]
theorem Zd0 {t:TypeId} {l:List V} {xs:List Value} {off:Nat} {v:V} (h:RelC X xs l) (hp:Z7j P t l off=some v) {b o:Nat}
  (hc:∀ i x,xs[i]? = some x→X.w.cell? ⟨b,o+i,none⟩=some x):∃ c,(loadVar t ⟨b,o+off,none⟩).run P X.w = .ok c X.w∧Rel X c v:=by
 unfold Z7j at hp
 cases hb:Zzf P t with
 | none=>simp [hb] at hp
 | some bb =>
  cases hs:Zqb P t with
  | none=>cases bb<;>simp [hb,hs] at hp
  | some n =>
   cases bb with
   | true =>
    simp only [hb,hs] at hp
    split at hp
    ·rename_i hle
     simp at hp;subst hp;have hl:=h.len;have hR:RelC X ((xs.drop off).take n) ((l.drop off).take n):=(h.drop off).take n
     have hrun:=run_loadCells_list (P:=P) X.w ⟨b,o+off,none⟩ ((xs.drop off).take n) (fun j x hj=>by
      rw [Addr.add_lit]
      have hjn:j<n:=by
       rw [List.getElem?_eq_some_iff] at hj;obtain ⟨hj,_⟩:=hj;simp at hj;omega
      rw [Zgc hjn] at hj;rw [Nat.add_assoc]
      exact hc _ _ hj)
     have hlen:((xs.drop off).take n).length=n:=by simp;omega
     rw [hlen] at hrun;exact ⟨.agg _,by simp [loadVar,Zcg hb,Zla hs,hrun],hR.toAgg⟩
    ·simp at hp
   | false =>
    simp only [hb,hs] at hp
    split at hp
    ·rename_i h1 h2;simp at h1
    ·obtain ⟨x,hx,hr,_⟩:=h.get? hp
     have:=hc off x hx;exact ⟨x,by simp [loadVar,Zcg hb,this],hr⟩
    ·simp at hp
def Z8b (P:Program) (H:Heap) (t:TypeId) (a:V):Option V :=
 match a with
 | .ptr o g off=>match H o with
  | .cells _ g' _ cs=>if g=g' then Z7j P t cs off else none
  | _=>none
 | a=>Zqc P t a
theorem Zmt (h:Inv X H) {t:TypeId} {a v:V} {x:Value} (hx:Rel X x a) (hv:Z8b P H t a=some v):∃ c,(Instr.loadAt t x).run P X.w = .ok c X.w∧Rel X c v:=by
 unfold Z8b at hv
 split at hv
 ·rename_i o g off
  split at hv
  ·rename_i c g' fz cs ho
   split at hv
   ·rename_i e
    subst e
    cases hx with
    | ptr _ _ _ b bs hβ =>
     obtain ⟨c1,t1,hb,hfit,hC⟩:=h.cells ho hβ
     obtain ⟨r,hr,hrel⟩:=Zd0 hC hv (b:=b) (o:=bs) (fun i x hi=>by
      rw [Z4g hb]
      have hin:i<cs.length:=by
       rw [List.getElem?_eq_some_iff] at hi;obtain ⟨hi,_⟩:=hi;simp at hi;omega
      rw [Zgc hin] at hi
      simpa using hi)
     exact ⟨r,by simp [Instr.loadAt,Instr.sureAddr,hr],hrel⟩
   ·simp at hv
  ·simp at hv
 ·exact Z5l hx rfl hv
def Z6l (P:Program) (H:Heap) (t:TypeId) (a v:V):Option Heap :=
 match a with
 | .ptr o g off=>match H o with
  | .cells c g' fz cs=>if g=g'∧v.solid=true∧Zqb P t=some v.cells.length∧fz≤off∧off+v.cells.length≤cs.length then some (upd H o (.cells c g fz (setAt cs off v.cells))) else none
  | _=>none
 | _=>none
theorem Zgt:∀ (vs xs:List Value) (off:Nat),off+vs.length≤xs.length→Z3j xs off vs=xs.take off++vs++xs.drop (off+vs.length)
 | [],xs,off,_=>by simp [Z3j]
 | v::r,xs,off,h=>by
  have h':off<xs.length:=by simp at h;omega
  rw [Z3j,Zgt r (xs.set off v) (off+1) (by simp at h ⊢;omega)]
  have e1:(xs.set off v).take (off+1)=xs.take off++[v]:=by
   rw [List.take_succ_eq_append_getElem (by simpa using h'),List.take_set_of_le (Nat.le_refl _)];simp
  have e2:(xs.set off v).drop (off+1+r.length)=xs.drop (off+(v::r).length):=by
   rw [List.drop_set_of_lt (by omega)]
   congr 1
   simp;omega
  rw [e1,e2];simp
theorem Zgo (L vs:List Value) (bs off n:Nat) (h1:off+vs.length≤n) (h2:bs+n≤L.length) :
  ((L.take (bs+off)++vs++L.drop (bs+off+vs.length)).drop bs).take n=((L.drop bs).take n).take off++vs++((L.drop bs).take n).drop (off+vs.length):=by
 rw [List.append_assoc,List.drop_append_of_le_length (by simp;omega),List.drop_take,List.take_append,List.take_append]
 have e1:((L.drop bs).take (bs+off-bs)).length=off:=by simp;omega
 rw [e1,List.take_take,List.take_take,List.drop_take,List.append_assoc,List.drop_drop];rw [show min n (bs+off-bs)=off by omega,show min off n=off by omega];have e2:vs.take (n-off)=vs:=List.take_of_length_le (by omega);rw [e2];rw [show n-off-vs.length=n-(off+vs.length) by omega,show bs+off+vs.length=bs+(off+vs.length) by omega]
theorem Zws (h:Inv X H) {o g fz off:Nat} {c:Col} {cs:List V} (ho:H o = .cells c g fz cs) {b bs:Nat} (hβ : X.β o g=some (b,bs)) {vs:List Value} {ms:List V} (hvs:RelC X vs ms)
  (hfz:fz≤off) (hoff:off+ms.length≤cs.length) :
  ∃ Y,(storeCells ⟨b,bs+off,none⟩ vs).run P X.w = .ok () Y.w∧Goes X H Y (upd H o (.cells c g fz (setAt cs off ms))):=by
 obtain ⟨c1,t,hb,hfit,hC⟩:=h.cells ho hβ;have hl:=hvs.len
 have hcs:cs.length≤c1.size-bs:=by omega
 have hrun:=run_storeCells_at (P:=P) b (bs+off) t vs 0 c1 X.w hb (by omega) hvs.one;simp only [Nat.add_zero] at hrun
 let c2:Array Value:=(c1.toList.take (bs+off)++vs++c1.toList.drop (bs+off+vs.length)).toArray
 have hc2s:c2.size=c1.size:=by simp [c2];omega
 have hc2:(c2.toList.drop bs).take cs.length=Z3j ((c1.toList.drop bs).take cs.length) off vs:=by
  rw [Zgt _ _ _ (by simp;omega)];exact Zgo c1.toList vs bs off cs.length (by omega) (by simp;omega)
 refine ⟨X.add o g b bs (X.w.setRow b c2),hrun,?_⟩;refine Z3q h ho hβ hb c2 hc2s ?_ c (.inl rfl) g bs fz _ (.inl ⟨rfl,rfl⟩) (Nat.le_refl _) (by rw [Ztf];omega) ?_
 ·intro i hi
  simp only [c2];rw [List.getElem?_toArray,List.append_assoc,List.getElem?_append_left (by simp;omega),List.getElem?_take_of_lt (by omega)];simp
 ·rw [Ztf,hc2]
  exact Zyl off hC hvs
theorem Zqz (h:Inv X H) {t:TypeId} {a v:V} {x y:Value} (hx:Rel X x a) (hy:Rel X y v) {H':Heap} (hs:Z6l P H t a v=some H') :
  ∃ Y,(Instr.storeAt t x y).run P X.w = .ok () Y.w∧Goes X H Y H':=by
 unfold Z6l at hs
 split at hs
 ·rename_i o g off
  split at hs
  ·rename_i c g' fz cs ho
   split at hs
   ·rename_i hc
    obtain ⟨rfl,h1,h2,h3,h4⟩:=hc;simp at hs;subst hs
    cases hx with
    | ptr _ _ _ b bs hβ =>
     have hC:=hy.toC h1;obtain ⟨Y,hrun,hg⟩:=Zws (P:=P) h ho hβ hC h3 h4;refine ⟨Y,?_,hg⟩;have hlen:=hC.len;simp at hlen;simp [Instr.storeAt,Instr.sureAddr,storeVar,Zla h2,hlen,hrun]
   ·simp at hs
  ·simp at hs
 ·simp at hs
theorem Zd3 (h:Inv X H) (o:Nat) (t:TypeId) {xs:Array Value} {cs:List V} (hC:RelC X xs.toList cs) {K:V→Heap→Prop} (mk:Nat→V)
  (hmk:∀ Y g,Y.β o g=some (X.w.heap.size,0)→Y.w.heap[X.w.heap.size]? = some (Obj.cells xs t (0,0))→Rel Y (.pointer (some ⟨X.w.heap.size,0,none⟩)) (.ptr o g 0))
  (hK:∀ g,K (mk g) (upd H o (.cells .new g 0 cs))) :
  ∃ Y g,(newRow t xs).run P X.w = .ok ⟨X.w.heap.size,0,none⟩ Y.w∧Goes X H Y (upd H o (.cells .new g 0 cs))∧Y.β o g=some (X.w.heap.size,0) ∧
   Y.w.heap[X.w.heap.size]? = some (Obj.cells xs t (0,0))∧K (mk g) (upd H o (.cells .new g 0 cs)):=by
 obtain ⟨n,hn⟩:=h.fin o;have hl:=hC.len;refine ⟨X.add o n X.w.heap.size 0 (X.w.alloc (.cells xs t)),n,?_,Goes.alloc h (hn n (Nat.le_refl _)) 0 .new (.inl rfl) xs t cs (by simp at hl;omega) ?_,by simp [Cx.add],?_,hK n⟩
 ·simp [newRow,Cx.add]
 ·rw [← hl,List.take_length];exact hC
 ·show (X.w.heap.push _)[X.w.heap.size]? = _
  simp
theorem Zkq (h:Inv X H) (o:Nat) (t:TypeId) {x:Value} {v:V} (hx:Rel X x v) (hs:v.solid=true) {K:V→Heap→Prop} (hK:∀ g,K (.ptr o g 0) (upd H o (.cells .new g 0 v.cells))) :
  ∃ c u Y H',(newVar t x).run P X.w = .ok c Y.w∧Goes X H Y H'∧Rel Y (.pointer (some c)) u∧K u H':=by
 obtain ⟨Y,g,h1,h2,h3,h4,h5⟩:=Zd3 (P:=P) h o t (hx.toC hs) (K:=K) (fun g => .ptr o g 0) (fun Y g hb _=>by simpa using Rel.ptr o g 0 _ 0 hb) hK;exact ⟨_,_,Y,_,h1,h2,by simpa using Rel.ptr o g 0 _ 0 h3,h5⟩
end
end Go.Hs
end
