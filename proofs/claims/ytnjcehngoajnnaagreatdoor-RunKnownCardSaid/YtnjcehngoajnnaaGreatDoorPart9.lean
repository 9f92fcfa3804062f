/- Part 9 of a proof; no condition. -/
import Derived.Test.YtnjcehngoajnnaaGreatDoorPart8
set_option linter.unusedSimpArgs false
set_option linter.unusedVariables false
section
namespace Go.Hs
section
variable {P:Program} {X:Cx} {H:Heap}
def Zmo (n:Nat) (z:List V):List V :=
 match n with
 | 0=>[]
 | n+1=>z++Zmo n z
theorem Zjp (z:List V):∀ n,(Zmo n z).length=n * z.length
 | 0=>by simp [Zmo]
 | n+1=>by simp [Zmo,Zjp z n,Nat.succ_mul,Nat.add_comm]
def Zu3 (n:Nat) (z:List Value):List Value :=
 match n with
 | 0=>[]
 | n+1=>z++Zu3 n z
theorem Zzt {zs:List Value} {z:List V} (h:RelC X zs z):∀ n,RelC X (Zu3 n zs) (Zmo n z)
 | 0=>RelC.nil
 | n+1=>h.append (Zzt h n)
theorem Zoe (z:List Value):∀ n,(Zu3 n z).length=n * z.length
 | 0=>by simp [Zu3]
 | n+1=>by simp [Zu3,Zoe z n,Nat.succ_mul,Nat.add_comm]
theorem Zt3 (z:List Value) (hz:0<z.length):∀ (n i:Nat),i<n * z.length→(Zu3 n z)[i]? = z[i % z.length]?
 | 0,i,h=>by simp at h
 | n+1,i,h=>by
  simp only [Zu3]
  by_cases hi:i<z.length
  ·rw [List.getElem?_append_left hi,Nat.mod_eq_of_lt hi]
  ·rw [List.getElem?_append_right (by omega),Zt3 z hz n (i-z.length) (by rw [Nat.succ_mul] at h;omega)]
   rw [← Nat.mod_eq_sub_mod (Nat.le_of_not_lt hi)]
theorem Znea (zs:Array Value) (n m:Nat) (hm:m=n * zs.size):((Array.range m).map fun i=>zs[i % zs.size]!)=(Zu3 n zs.toList).toArray:=by
 subst hm
 by_cases hz:zs.size=0
 ·apply Array.ext'
  have h1:n * zs.size=0:=by rw [hz];simp
  have h2:(Zu3 n zs.toList).length=0:=by rw [Zoe];simp [hz]
  rw [h1];simp only [List.length_eq_zero_iff] at h2;rw [h2];simp
 ·apply Array.ext
  ·simp [Zoe]
  ·intro i h1 h2
   simp only [Array.getElem_map,Array.getElem_range,List.getElem_toArray];simp at h1;have h3:=Zt3 zs.toList (by simp;omega) n i (by simpa using h1);have h4:i % zs.size<zs.size:=Nat.mod_lt _ (by omega);rw [List.getElem?_eq_getElem (by simpa using h2)] at h3;simp only [Array.length_toList] at h3;rw [Array.getElem?_toList,Array.getElem?_eq_getElem h4] at h3;simp at h3;rw [h3];simp [h4]
def Z3d (P:Program) (H:Heap) (d:Nat) (t:TypeId) (len:Nat) (parts:List (Nat × V)) (K:V→Heap→Prop):Prop :=
 match P.underlying t with
 | some (.slice e) =>
  match Z6b P e,Zlg P e with
  | some E,some z =>
   z.solid=true∧z.cells.length=E∧len * E≤16777216 ∧
   match Zkb (fun i=>some (i * E,E)) (Zmo len z.cells) parts with
   | some cs=>∀ g,K (.msl d g 0 len E) (upd H d (.cells .new g 0 cs))
   | none=>False
  | _,_=>False
 | _=>False
theorem Z0n (place:Nat→Option (Nat × Nat)):∀ (parts:List (Nat × V)) (cells l:List V),Zkb place cells parts=some l→l.length=cells.length
 | [],cells,l,h=>by simp [Zkb] at h;rw [h]
 | (i,v)::r,cells,l,h=>by
  simp only [Zkb] at h
  split at h
  ·simp at h
  ·split at h
   ·rw [Z0n place r _ _ h,Zrg]
   ·simp at h
theorem Zwn (h:Inv X H) (d:Nat) (e:TypeId) {xs:Array Value} {cs:List V} (hC:RelC X xs.toList cs) (len cap E:Nat) (hle:len≤cap) (hsz:cap * E≤xs.size) {K:V→Heap→Prop}
  (hK:∀ g,K (.msl d g 0 len E) (upd H d (.cells .new g 0 cs))) :
  ∃ v H' Y,(newRow e xs).run P X.w = .ok ⟨X.w.heap.size,0,none⟩ Y.w∧Goes X H Y H'∧Rel Y (.slice (some ⟨X.w.heap.size,0,none⟩) len cap) v∧K v H':=by
 obtain ⟨Y,g,h1,h2,h3,h4,h5⟩:=Z78 (P:=P) h d e hC (K:=K) (fun g => .msl d g 0 len E) (fun Y g hb _=>by simpa using Rel.ptr d g 0 _ 0 hb) hK;refine ⟨_,_,Y,h1,h2,?_,h5⟩;have:=Rel.msl (X:=Y) d g 0 len E X.w.heap.size 0 cap h3 hle ⟨xs,e,h4,by omega⟩;simpa using this
theorem Zqq (h:Inv X H) (d:Nat) {t:TypeId} {len:Nat} {parts:List (Nat × V)} {ps:Array (Nat × Value)} {K:V→Heap→Prop} (hl:ps.toList.length=parts.length)
  (hr:∀ i (h1:i<ps.toList.length) (h2:i<parts.length),ps.toList[i].1=parts[i].1∧Rel X ps.toList[i].2 parts[i].2) (hA:Z3d P H d t len parts K) :
  ∃ c v H' Y,(Instr.buildSlice t len ps).run P X.w = .ok c Y.w∧Goes X H Y H'∧Rel Y c v∧K v H':=by
 unfold Z3d at hA
 split at hA
 case h_2=>exact hA.elim
 rename_i e hu
 split at hA
 case h_2=>exact hA.elim
 rename_i E z hsz hz;obtain ⟨hsol,hzl,hlim,hA⟩:=hA
 split at hA
 case h_2=>exact hA.elim
 rename_i cs hfill;obtain ⟨zx,hzx,hzr⟩:=Zwf (X:=X) (w:=X.w) hz;have hzC:=hzr.toC hsol
 have hzs:zx.cells.size=E:=by have:=hzC.len;simp at this;omega
 have hrep:=Znea zx.cells len (len * E) (by rw [hzs]);obtain ⟨ys,hys,hrel⟩:=Zem (X:=X) (fun i=>some (i * E,E)) parts ps.toList (Zmo len z.cells) (Zu3 len zx.cells.toList).toArray cs hl hr (by simpa using Zzt hzC len) hfill
 have hysz:ys.size=len * E:=by
  have:=hrel.len;rw [Z0n _ _ _ _ hfill,Zjp,hzl] at this;simpa using this
 obtain ⟨v,H',Y,h1,h2,h3,h4⟩:=Zwn (P:=P) h d e hrel len len E (Nat.le_refl _) (by omega) hA;refine ⟨_,v,H',Y,?_,h2,h3,h4⟩
 have hlim':¬ (16777216<len * E):=by omega
 by_cases h0:len * E=0
 ·have hr0:(Zu3 len zx.cells.toList)=[]:=by
   rw [← List.length_eq_zero_iff,Zoe];simp [hzs];simpa using h0
  rw [hr0] at hys;have hys':Instr.fill (fun i=>some (i * E,E)) #[] ps.toList=some ys:=hys
  have e1:((Array.range (len * E)).map fun i=>(#[]:Array Value)[i % (#[]:Array Value).size]!) = #[]:=by rw [h0];simp
  rw [h0] at e1;simp only [Instr.buildSlice,Sem.run_bind,Zh hu,Result.andThen_ok,Zia hsz,h0,e1];rw [if_neg (by simp)];simp only [Sem.run_pure,Result.andThen_ok,Sem.run_bind,if_true,e1,hys',h1]
 ·have e1:((Array.range (len * E)).map fun i=>zx.cells[i % zx.cells.size]!)=(Zu3 len zx.cells.toList).toArray:=hrep
  have h0':¬ (len=0∨E=0):=by
   intro hh
   rcases hh with rfl | rfl<;>simp at h0
  simp only [Instr.buildSlice,Sem.run_bind,Zh hu,Result.andThen_ok,Zia hsz];rw [if_neg (by simpa using hlim')];rw [if_neg h0];simp only [Sem.run_bind,hzx,Result.andThen_ok,Sem.run_pure,e1,hys,h1]
def Z5d (P:Program) (H:Heap) (d:Nat) (t:TypeId) (len cap:V) (K:V→Heap→Prop):Prop :=
 match P.underlying t,len,cap with
 | some (.slice e),.int _ n,.int _ m =>
  match Z6b P e,Z1n P e,Zlg P e with
  | some E,some bytes,some z =>
   z.solid=true∧z.cells.length=E∧0≤n∧n≤m∧m≤4611686018427387904∧bytes * m≤281474976710656 ∧
   ∀ g,K (.msl d g 0 n.toNat E) (upd H d (.cells .new g 0 (Zmo m.toNat z.cells)))
  | _,_,_=>False
 | _,_,_=>False
theorem Zxr (h:Inv X H) (d:Nat) {t:TypeId} {len cap:V} {x y:Value} (hx:Rel X x len) (hy:Rel X y cap) {K:V→Heap→Prop} (hA:Z5d P H d t len cap K) :
  ∃ c v H' Y,(Instr.makeSlice t x y).run P X.w = .ok c Y.w∧Goes X H Y H'∧Rel Y c v∧K v H':=by
 unfold Z5d at hA
 split at hA
 case h_2=>exact hA.elim
 rename_i e k1 n k2 m hu
 split at hA
 case h_2=>exact hA.elim
 rename_i E bytes z hsz hby hz;obtain ⟨hsol,hzl,h0,hnm,hm62,hroom,hA⟩:=hA;cases hx;cases hy;obtain ⟨zx,hzx,hzr⟩:=Zwf (X:=X) (w:=X.w) hz;have hzC:=hzr.toC hsol
 have hzs:zx.cells.size=E:=by have:=hzC.len;simp at this;omega
 have hrep:=Znea zx.cells m.toNat (m.toNat * E) (by rw [hzs])
 have hC:RelC X ((Zu3 m.toNat zx.cells.toList).toArray).toList (Zmo m.toNat z.cells):=by simpa using Zzt hzC m.toNat
 obtain ⟨v,H',Y,h1,h2,h3,h4⟩:=Zwn (P:=P) h d e hC n.toNat m.toNat E (by omega) (by simp [Zoe,hzs]) hA
 cases hi:P.info? e with
 | none=>simp [Z6b,hi] at hsz
 | some i =>
  have hE:i.size=E:=by simpa [Z6b,hi] using hsz
  have hB:i.bytes=bytes:=by simpa [Z1n,hi] using hby
  have wn:IntKind.i64.wrap n=n:=by unfold IntKind.wrap;simp [IntKind.signed,IntKind.bits];omega
  have wm:IntKind.i64.wrap m=m:=by unfold IntKind.wrap;simp [IntKind.signed,IntKind.bits];omega
  refine ⟨_,v,H',Y,?_,h2,h3,h4⟩
  have hc1:¬ m<0:=by omega
  have hc2:¬ (281474976710656:Int)<(bytes:Int) * m:=by omega
  have hc3:¬ n<0:=by omega
  have hc4:¬ m<n:=by omega
  subst hE
  by_cases hz0:m.toNat * i.size=0
  ·have hr0:(Zu3 m.toNat zx.cells.toList)=[]:=by
    rw [← List.length_eq_zero_iff,Zoe];simp [hzs];simpa using hz0
   rw [hr0] at h1;have h1':(newRow e #[]).run P X.w = .ok ⟨X.w.heap.size,0,none⟩ Y.w:=h1
   have e1:((Array.range 0).map fun i=>(#[]:Array Value)[i % (#[]:Array Value).size]!) = #[]:=by simp
   simp only [Instr.makeSlice,Sem.run_bind,Zh hu,Result.andThen_ok,asInt,asIntOf,Sem.run_pure,typeInfo,run_program,hi,hB,wn,wm];rw [if_neg (by simp [hc1,hc2,hc3,hc4])];simp only [Sem.run_pure,Result.andThen_ok,Sem.run_bind,run_askRoom,Zia hsz,hz0,if_true,e1,h1']
  ·rw [← hrep] at h1
   have hz0':¬ (m.toNat=0∨i.size=0):=by
    intro hh
    rcases hh with hh | hh<;>simp [hh] at hz0
   simp only [Instr.makeSlice,Sem.run_bind,Zh hu,Result.andThen_ok,asInt,asIntOf,Sem.run_pure,typeInfo,run_program,hi,hB,wn,wm];rw [if_neg (by simp [hc1,hc2,hc3,hc4])];simp only [Sem.run_pure,Result.andThen_ok,Sem.run_bind,run_askRoom,Zia hsz];rw [if_neg hz0];simp only [Sem.run_bind,hzx,Result.andThen_ok,Sem.run_pure,h1]
end
end Go.Hs
end
