/- Part 9 of a proof; no condition. -/
import Derived.Test.YtegjlbpnpiigkaaGreatDoorPart8
set_option linter.unusedSimpArgs false
set_option linter.unusedVariables false
section
namespace Go.Hs
section
variable {P:Program} {X:Cx} {H:Heap}
def Zns (n:Nat) (z:List V):List V :=
 match n with
 | 0=>[]
 | n+1=>z++Zns n z
theorem Zxn (z:List V):∀ n,(Zns n z).length=n * z.length
 | 0=>by simp [Zns]
 | n+1=>by simp [Zns,Zxn z n,Nat.succ_mul,Nat.add_comm]
def Zcy (n:Nat) (z:List Value):List Value :=
 match n with
 | 0=>[]
 | n+1=>z++Zcy n z
theorem Zlr {zs:List Value} {z:List V} (h:RelC X zs z):∀ n,RelC X (Zcy n zs) (Zns n z)
 | 0=>RelC.nil
 | n+1=>h.append (Zlr h n)
theorem Z0d (z:List Value):∀ n,(Zcy n z).length=n * z.length
 | 0=>by simp [Zcy]
 | n+1=>by simp [Zcy,Z0d z n,Nat.succ_mul,Nat.add_comm]
theorem Zby (z:List Value) (hz:0<z.length):∀ (n i:Nat),i<n * z.length→(Zcy n z)[i]? = z[i % z.length]?
 | 0,i,h=>by simp at h
 | n+1,i,h=>by
  simp only [Zcy]
  by_cases hi:i<z.length
  ·rw [List.getElem?_append_left hi,Nat.mod_eq_of_lt hi]
  ·rw [List.getElem?_append_right (by omega),Zby z hz n (i-z.length) (by rw [Nat.succ_mul] at h;omega)]
   rw [← Nat.mod_eq_sub_mod (Nat.le_of_not_lt hi)]
theorem Zc8 (zs:Array Value) (n m:Nat) (hm:m=n * zs.size):((Array.range m).map fun i=>zs[i % zs.size]!)=(Zcy n zs.toList).toArray:=by
 subst hm
 by_cases hz:zs.size=0
 ·apply Array.ext'
  have h1:n * zs.size=0:=by rw [hz];simp
  have h2:(Zcy n zs.toList).length=0:=by rw [Z0d];simp [hz]
  rw [h1];simp only [List.length_eq_zero_iff] at h2;rw [h2];simp
 ·apply Array.ext
  ·simp [Z0d]
  ·intro i h1 h2
   simp only [Array.getElem_map,Array.getElem_range,List.getElem_toArray];simp at h1;have h3:=Zby zs.toList (by simp;omega) n i (by simpa using h1);have h4:i % zs.size<zs.size:=Nat.mod_lt _ (by omega);rw [List.getElem?_eq_getElem (by simpa using h2)] at h3;simp only [Array.length_toList] at h3;rw [Array.getElem?_toList,Array.getElem?_eq_getElem h4] at h3;simp at h3;rw [h3];simp [h4]
def Zhd (P:Program) (H:Heap) (d:Nat) (t:TypeId) (len:Nat) (parts:List (Nat × V)) (K:V→Heap→Prop):Prop :=
 match P.underlying t with
 | some (.slice e) =>
  match Zqb P e,Zrf P e with
  | some E,some z =>
   z.solid=true∧z.cells.length=E∧len * E≤16777216 ∧
   match Zwd (fun i=>some (i * E,E)) (Zns len z.cells) parts with
   | some cs=>∀ g,K (.msl d g 0 len E) (upd H d (.cells .new g 0 cs))
   | none=>False
  | _,_=>False
 | _=>False
theorem Zfm (place:Nat→Option (Nat × Nat)):∀ (parts:List (Nat × V)) (cells l:List V),Zwd place cells parts=some l→l.length=cells.length
 | [],cells,l,h=>by simp [Zwd] at h;rw [h]
 | (i,v)::r,cells,l,h=>by
  simp only [Zwd] at h
  split at h
  ·simp at h
  ·split at h
   ·rw [Zfm place r _ _ h,Ztf]
   ·simp at h
theorem Zbm (h:Inv X H) (d:Nat) (e:TypeId) {xs:Array Value} {cs:List V} (hC:RelC X xs.toList cs) (len cap E:Nat) (hle:len≤cap) (hsz:cap * E≤xs.size) {K:V→Heap→Prop}
  (hK:∀ g,K (.msl d g 0 len E) (upd H d (.cells .new g 0 cs))) :
  ∃ v H' Y,(newRow e xs).run P X.w = .ok ⟨X.w.heap.size,0,none⟩ Y.w∧Goes X H Y H'∧Rel Y (.slice (some ⟨X.w.heap.size,0,none⟩) len cap) v∧K v H':=by
 obtain ⟨Y,g,h1,h2,h3,h4,h5⟩:=Zd3 (P:=P) h d e hC (K:=K) (fun g => .msl d g 0 len E) (fun Y g hb _=>by simpa using Rel.ptr d g 0 _ 0 hb) hK;refine ⟨_,_,Y,h1,h2,?_,h5⟩;have:=Rel.msl (X:=Y) d g 0 len E X.w.heap.size 0 cap h3 hle ⟨xs,e,h4,by omega⟩;simpa using this
theorem Zzo (h:Inv X H) (d:Nat) {t:TypeId} {len:Nat} {parts:List (Nat × V)} {ps:Array (Nat × Value)} {K:V→Heap→Prop} (hl:ps.toList.length=parts.length)
  (hr:∀ i (h1:i<ps.toList.length) (h2:i<parts.length),ps.toList[i].1=parts[i].1∧Rel X ps.toList[i].2 parts[i].2) (hA:Zhd P H d t len parts K) :
  ∃ c v H' Y,(Instr.buildSlice t len ps).run P X.w = .ok c Y.w∧Goes X H Y H'∧Rel Y c v∧K v H':=by
 unfold Zhd at hA
 split at hA
 case h_2=>exact hA.elim
 rename_i e hu
 split at hA
 case h_2=>exact hA.elim
 rename_i E z hsz hz;obtain ⟨hsol,hzl,hlim,hA⟩:=hA
 split at hA
 case h_2=>exact hA.elim
 rename_i cs hfill;obtain ⟨zx,hzx,hzr⟩:=Z0e (X:=X) (w:=X.w) hz;have hzC:=hzr.toC hsol
 have hzs:zx.cells.size=E:=by have:=hzC.len;simp at this;omega
 have hrep:=Zc8 zx.cells len (len * E) (by rw [hzs]);obtain ⟨ys,hys,hrel⟩:=Zlk (X:=X) (fun i=>some (i * E,E)) parts ps.toList (Zns len z.cells) (Zcy len zx.cells.toList).toArray cs hl hr (by simpa using Zlr hzC len) hfill
 have hysz:ys.size=len * E:=by
  have:=hrel.len;rw [Zfm _ _ _ _ hfill,Zxn,hzl] at this;simpa using this
 obtain ⟨v,H',Y,h1,h2,h3,h4⟩:=Zbm (P:=P) h d e hrel len len E (Nat.le_refl _) (by omega) hA;refine ⟨_,v,H',Y,?_,h2,h3,h4⟩
 have hlim':¬ (16777216<len * E):=by omega
 by_cases h0:len * E=0
 ·have hr0:(Zcy len zx.cells.toList)=[]:=by
   rw [← List.length_eq_zero_iff,Z0d];simp [hzs];simpa using h0
  rw [hr0] at hys;have hys':Instr.fill (fun i=>some (i * E,E)) #[] ps.toList=some ys:=hys
  have e1:((Array.range (len * E)).map fun i=>(#[]:Array Value)[i % (#[]:Array Value).size]!) = #[]:=by rw [h0];simp
  rw [h0] at e1;simp only [Instr.buildSlice,Sem.run_bind,Zk hu,Result.andThen_ok,Zla hsz,h0,e1];rw [if_neg (by simp)];simp only [Sem.run_pure,Result.andThen_ok,Sem.run_bind,if_true,e1,hys',h1]
 ·have e1:((Array.range (len * E)).map fun i=>zx.cells[i % zx.cells.size]!)=(Zcy len zx.cells.toList).toArray:=hrep
  have h0':¬ (len=0∨E=0):=by
   intro hh
   rcases hh with rfl | rfl<;>simp at h0
  simp only [Instr.buildSlice,Sem.run_bind,Zk hu,Result.andThen_ok,Zla hsz];rw [if_neg (by simpa using hlim')];rw [if_neg h0];simp only [Sem.run_bind,hzx,Result.andThen_ok,Sem.run_pure,e1,hys,h1]
def Z2d (P:Program) (H:Heap) (d:Nat) (t:TypeId) (len cap:V) (K:V→Heap→Prop):Prop :=
 match P.underlying t,len,cap with
 | some (.slice e),.int _ n,.int _ m =>
  match Zqb P e,Zzq P e,Zrf P e with
  | some E,some bytes,some z =>
   z.solid=true∧z.cells.length=E∧0≤n∧n≤m∧m≤4611686018427387904∧bytes * m≤281474976710656 ∧
   ∀ g,K (.msl d g 0 n.toNat E) (upd H d (.cells .new g 0 (Zns m.toNat z.cells)))
  | _,_,_=>False
 | _,_,_=>False
theorem Zop (h:Inv X H) (d:Nat) {t:TypeId} {len cap:V} {x y:Value} (hx:Rel X x len) (hy:Rel X y cap) {K:V→Heap→Prop} (hA:Z2d P H d t len cap K) :
  ∃ c v H' Y,(Instr.makeSlice t x y).run P X.w = .ok c Y.w∧Goes X H Y H'∧Rel Y c v∧K v H':=by
 unfold Z2d at hA
 split at hA
 case h_2=>exact hA.elim
 rename_i e k1 n k2 m hu
 split at hA
 case h_2=>exact hA.elim
 rename_i E bytes z hsz hby hz;obtain ⟨hsol,hzl,h0,hnm,hm62,hroom,hA⟩:=hA;cases hx;cases hy;obtain ⟨zx,hzx,hzr⟩:=Z0e (X:=X) (w:=X.w) hz;have hzC:=hzr.toC hsol
 have hzs:zx.cells.size=E:=by have:=hzC.len;simp at this;omega
 have hrep:=Zc8 zx.cells m.toNat (m.toNat * E) (by rw [hzs])
 have hC:RelC X ((Zcy m.toNat zx.cells.toList).toArray).toList (Zns m.toNat z.cells):=by simpa using Zlr hzC m.toNat
 obtain ⟨v,H',Y,h1,h2,h3,h4⟩:=Zbm (P:=P) h d e hC n.toNat m.toNat E (by omega) (by simp [Z0d,hzs]) hA
 cases hi:P.info? e with
 | none=>simp [Zqb,hi] at hsz
 | some i =>
  have hE:i.size=E:=by simpa [Zqb,hi] using hsz
  have hB:i.bytes=bytes:=by simpa [Zzq,hi] using hby
  have wn:IntKind.i64.wrap n=n:=by unfold IntKind.wrap;simp [IntKind.signed,IntKind.bits];omega
  have wm:IntKind.i64.wrap m=m:=by unfold IntKind.wrap;simp [IntKind.signed,IntKind.bits];omega
  refine ⟨_,v,H',Y,?_,h2,h3,h4⟩
  have hc1:¬ m<0:=by omega
  have hc2:¬ (281474976710656:Int)<(bytes:Int) * m:=by omega
  have hc3:¬ n<0:=by omega
  have hc4:¬ m<n:=by omega
  subst hE
  by_cases hz0:m.toNat * i.size=0
  ·have hr0:(Zcy m.toNat zx.cells.toList)=[]:=by
    rw [← List.length_eq_zero_iff,Z0d];simp [hzs];simpa using hz0
   rw [hr0] at h1;have h1':(newRow e #[]).run P X.w = .ok ⟨X.w.heap.size,0,none⟩ Y.w:=h1
   have e1:((Array.range 0).map fun i=>(#[]:Array Value)[i % (#[]:Array Value).size]!) = #[]:=by simp
   simp only [Instr.makeSlice,Sem.run_bind,Zk hu,Result.andThen_ok,asInt,asIntOf,Sem.run_pure,typeInfo,run_program,hi,hB,wn,wm];rw [if_neg (by simp [hc1,hc2,hc3,hc4])];simp only [Sem.run_pure,Result.andThen_ok,Sem.run_bind,run_askRoom,Zla hsz,hz0,if_true,e1,h1']
  ·rw [← hrep] at h1
   have hz0':¬ (m.toNat=0∨i.size=0):=by
    intro hh
    rcases hh with hh | hh<;>simp [hh] at hz0
   simp only [Instr.makeSlice,Sem.run_bind,Zk hu,Result.andThen_ok,asInt,asIntOf,Sem.run_pure,typeInfo,run_program,hi,hB,wn,wm];rw [if_neg (by simp [hc1,hc2,hc3,hc4])];simp only [Sem.run_pure,Result.andThen_ok,Sem.run_bind,run_askRoom,Zla hsz];rw [if_neg hz0];simp only [Sem.run_bind,hzx,Result.andThen_ok,Sem.run_pure,h1]
end
end Go.Hs
end
