/- Part 3 of a proof; no condition. -/
import Derived.Test.YtegjlbpnpiigkaaGreatDoorPart2
import Derived.Lib.Strings
set_option linter.unusedSimpArgs false
set_option linter.unusedVariables false
section
namespace Go.Hs
section
variable {P:Program} {X:Cx} {w:World}
theorem Rel.cells1 {x:Value} {v:V} (h:Rel X x v) (ho:x.oneCell'=true):v.cells=[v]:=by
 cases h<;>simp_all [V.cells,Value.oneCell']
theorem Zjy {t:TypeId} {xs:Array Value} {l:List V} {off:Nat} {v:V} (h:Rel X (.agg xs) (.agg l)) (hp:Z7j P t l off=some v) :
  ∃ c,(part t xs off).run P w = .ok c w∧Rel X c v:=by
 cases h with
 | agg _ _ hx ho hr =>
 unfold Z7j at hp
 cases hb:Zzf P t with
 | none=>simp [hb] at hp
 | some b =>
  cases hs:Zqb P t with
  | none=>cases b<;>simp [hb,hs] at hp
  | some n =>
   cases b with
   | true =>
    simp only [hb,hs] at hp
    split at hp
    ·rename_i hle
     simp at hp;subst hp;refine ⟨.agg (xs.extract off (off+n)),by simp [part,Zcg hb,Zla hs],.agg _ _ ?_ ?_ ?_⟩
     ·simp;omega
     ·intro x hxm
      obtain ⟨i,hi,rfl⟩:=Array.getElem_of_mem hxm;rw [Array.getElem_extract];exact ho _ (Array.getElem_mem _)
     ·intro i h1 h2
      rw [Array.getElem_extract,List.getElem_take,List.getElem_drop];exact hr _ (by simp at h1;omega) (by simp at h2;omega)
    ·simp at hp
   | false =>
    simp only [hb,hs] at hp
    split at hp
    ·rename_i h1 h2;simp at h1
    ·rw [List.getElem?_eq_some_iff] at hp
     obtain ⟨hlt,rfl⟩:=hp
     have:xs[off]? = some (xs[off]'(by omega)):=by simp [hx,hlt]
     exact ⟨xs[off]'(by omega),by simp [part,Zcg hb,this],hr _ (by omega) hlt⟩
    ·simp at hp
def Zb4 (P:Program) (t:TypeId) (a:V) (f:Nat):Option V :=
 match P.underlying t,a with
 | some (.struct fs),.agg l=>match fs[f]? with
  | some fd=>Z7j P fd.type l fd.offset
  | none=>none
 | _,_=>none
theorem Z40 {t:TypeId} {a v:V} {x:Value} {f:Nat} (hx:Rel X x a) (h:Zb4 P t a f=some v):∃ c,(Instr.field t x f).run P w = .ok c w∧Rel X c v:=by
 unfold Zb4 at h
 split at h
 ·rename_i fs l hu
  split at h
  ·rename_i fd hf
   cases hx with
   | agg xs _ h1 h2 h3 =>
    obtain ⟨c,hc,hr⟩:=Zjy (w:=w) (.agg xs l h1 h2 h3) h;exact ⟨c,by simp [Instr.field,Zk hu,hf,asAgg,hc],hr⟩
  ·simp at h
 ·simp at h
theorem Z1s {t:TypeId} {l:List V} {v:V} {c:Col} {b off o n:Nat} (h:Rel X (.pointer (some ⟨b,off,none⟩)) (.view c (.agg l))) (hp:Z7j P t l o=some v) (hn:Zqb P t=some n) :
  Rel X (.pointer (some ⟨b,off+o,none⟩)) (.view c v):=by
 cases h with
 | view _ _ _ _ f hc hr =>
 simp only [V.cells] at hc hr
 have hcs:∀ x∈l,x.cells=[x]:=by
  intro x hx;obtain ⟨i,hi,rfl⟩:=List.getElem_of_mem hx;exact (hr i hi).cells1 (hc i hi).2.2.2
 obtain ⟨h1,h2,h3⟩:=Zgw hp hn hcs;refine .view c v b (off+o) (fun i=>f (o+i)) ?_ ?_
 ·intro i hi
  have:=hc (o+i) (by omega);rwa [← Nat.add_assoc] at this
 ·intro i hi
  have h4:v.cells[i]=l[o+i]'(by omega):=by
   have:v.cells[i]? = ((l.drop o).take n)[i]? := by rw [h2]
   rw [List.getElem?_eq_getElem hi,List.getElem?_take_of_lt (by omega),List.getElem?_drop,List.getElem?_eq_getElem (by omega)] at this;simpa using this
  rw [h4];exact hr _ (by omega)
def Z5d (P:Program) (t:TypeId) (a:V) (f:Nat):Option V :=
 match P.underlying t with
 | some (.struct fs)=>match fs[f]? with
  | some fd=>match Zqb P fd.type with
   | some (_+1)=>match a with
    | .ptr o g off=>some (.ptr o g (off+fd.offset))
    | .view c (.agg l)=>(Z7j P fd.type l fd.offset).map (.view c)
    | _=>none
   | _=>none
  | none=>none
 | _=>none
theorem Zqp {t:TypeId} {a v:V} {x:Value} {f:Nat} (hx:Rel X x a) (h:Z5d P t a f=some v):∃ c,(Instr.fieldAt t x f).run P w = .ok c w∧Rel X c v:=by
 unfold Z5d at h
 split at h
 ·rename_i fs hu
  split at h
  ·rename_i fd hf
   split at h
   ·rename_i n hn
    have key:∀ b off,(Instr.fieldAt t (.pointer (some ⟨b,off,none⟩)) f).run P w = .ok (.pointer (some ⟨b,off+fd.offset,none⟩)) w:=by
     intro b off;simp [Instr.fieldAt,Zk hu,hf,Instr.sureAddr,fieldPlace,Zla hn,Addr.add_lit]
    split at h
    ·simp at h;subst h
     cases hx with
     | ptr o g off b bs hβ => exact ⟨_,key _ _,by rw [Nat.add_assoc];exact .ptr _ _ _ _ _ hβ⟩
    ·rename_i c l
     simp only [Option.map_eq_some_iff] at h;obtain ⟨u,hu',rfl⟩:=h
     cases hx with
     | view _ _ b off fn hc hr =>
      exact ⟨_,key _ _,Z1s (.view c _ b off fn hc hr) hu' hn⟩
    ·simp at h
   ·simp at h
  ·simp at h
 ·simp at h
theorem Zvb {E:Nat}:∀ {l:List V},(∀ v∈l,v.cells.length=E)→(flat l).length=l.length * E
 | [],_=>by simp [flat]
 | v::r,h=>by
  have ih:=Zvb (E:=E) (l:=r) (fun x hx=>h x (List.mem_cons_of_mem _ hx));have h0:=h v (List.mem_cons_self ..);unfold flat at *;simp [h0,ih,Nat.add_mul,Nat.add_comm]
theorem Zxg {E:Nat}:∀ {l:List V},(∀ v∈l,v.cells.length=E)→∀ (n j:Nat) (hn:n<l.length),j<E→(flat l)[n * E+j]? = (l[n]).cells[j]?
 | [],_,n,j,hn,_=>by simp at hn
 | v::r,h,n,j,hn,hj=>by
  have h0:=h v (List.mem_cons_self ..);have hr:∀ x∈r,x.cells.length=E:=fun x hx=>h x (List.mem_cons_of_mem _ hx)
  have e:flat (v::r)=v.cells++flat r:=by simp [flat]
  rw [e]
  cases n with
  | zero =>
   simp only [Nat.zero_mul,Nat.zero_add,List.getElem_cons_zero];rw [List.getElem?_append_left (by omega)]
  | succ n =>
   have ih:=Zxg hr n j (by simpa using hn) hj;rw [List.getElem?_append_right (by rw [h0,Nat.succ_mul];omega),h0,List.getElem_cons_succ,← ih]
   congr 1
   rw [Nat.succ_mul];omega
def Z2b (P:Program) (t:TypeId) (a i:V):Option V :=
 match P.underlying t,i with
 | some (.slice e),.int _ n=>match a with
  | .slice c _ E l=>if Zqb P e=some E∧0≤n then (l[n.toNat]?).map (.view c) else none
  | .msl o g off len E=>if Zqb P e=some E∧0≤n∧n<len then some (.ptr o g (off+n.toNat * E)) else none
  | _=>none
 | some (.array N e),.int _ n=>match a,Zqb P e with
  | .ptr o g off,some m=>if 0≤n∧n<N then some (.ptr o g (off+n.toNat * m)) else none
  | .view c (.agg l),some m=>if 0≤n∧n<N then (Z7j P e l (n.toNat * m)).map (.view c) else none
  | _,_=>none
 | _,_=>none
theorem Zs1 {c:Col} {clip:Bool} {E:Nat} {l:List V} {b off n:Nat} {len cap:Nat} {v:V} (h:Rel X (.slice (some ⟨b,off,none⟩) len cap) (.slice c clip E l)) (hv:l[n]? = some v) :
  Rel X (.pointer (some ⟨b,off+n * E,none⟩)) (.view c v):=by
 cases h with
 | slice0=>simp at hv
 | slice _ _ _ _ _ _ _ f hcap hclip hE hc hr =>
 rw [List.getElem?_eq_some_iff] at hv;obtain ⟨hn,rfl⟩:=hv;have hvE:=hE _ (List.getElem_mem hn);have hfl:=Zvb hE
 have hlt:∀ i,i<E→n * E+i<(flat l).length:=by
  intro i hi;rw [hfl];have:(n+1) * E≤l.length * E:=Nat.mul_le_mul_right _ hn;rw [Nat.succ_mul] at this;omega
 refine .view c _ b (off+n * E) (fun i=>f (n * E+i)) ?_ ?_
 ·intro i hi
  have:=hc (n * E+i) (hlt i (by omega));rwa [← Nat.add_assoc] at this
 ·intro i hi
  have h1:=hr (n * E+i) (hlt i (by omega));have h2:=Zxg hE n i hn (by omega);rw [List.getElem?_eq_getElem (hlt i (by omega)),List.getElem?_eq_getElem hi] at h2;simp at h2;rw [← h2];exact h1
theorem Zpp {t:TypeId} {a i v:V} {x y:Value} (hx:Rel X x a) (hy:Rel X y i) (h:Z2b P t a i=some v):∃ c,(Instr.indexAt t x y).run P w = .ok c w∧Rel X c v:=by
 unfold Z2b at h
 split at h
 ·rename_i e k n hu
  cases hy
  split at h
  ·rename_i c clip E l
   split at h
   ·rename_i hc
    obtain ⟨hs,h0⟩:=hc;simp only [Option.map_eq_some_iff] at h;obtain ⟨u,hu',rfl⟩:=h
    have hlt:n.toNat<l.length:=by
     rw [List.getElem?_eq_some_iff] at hu';exact hu'.1
    have hr:=hx
    cases hx with
    | slice0=>simp at hlt
    | slice _ _ _ _ b off cap f hcap hclip hE hc hr' =>
     refine ⟨_,?_,Zs1 hr hu'⟩
     have h1:n<(l.length:Int):=by omega
     simp [Instr.indexAt,asIntOf,Zk hu,Zla hs,h0,h1,Addr.add_lit]
   ·simp at h
  ·rename_i o g off len E
   split at h
   ·rename_i hc
    obtain ⟨hs,h0,h1⟩:=hc;simp at h;subst h
    cases hx with
    | msl _ _ _ _ _ b bs cap hβ hcap hb =>
     refine ⟨_,?_,.ptr o g (off+n.toNat * E) b bs hβ⟩;simp [Instr.indexAt,asIntOf,Zk hu,Zla hs,h0,h1,Nat.add_assoc,Addr.add_lit]
   ·simp at h
  ·simp at h
 ·rename_i N e k n hu
  cases hy
  split at h
  ·rename_i o g off m hs
   split at h
   ·rename_i hc
    simp at h;subst h
    cases hx with
    | ptr _ _ _ b bs hβ =>
     refine ⟨_,?_,.ptr o g (off+n.toNat * m) b bs hβ⟩;simp [Instr.indexAt,asIntOf,Zk hu,Zla hs,hc,Instr.sureAddr,Nat.add_assoc,Addr.add_lit]
   ·simp at h
  ·rename_i c l m hs
   split at h
   ·rename_i hc
    simp only [Option.map_eq_some_iff] at h;obtain ⟨u,hu',rfl⟩:=h;have hr:=hx
    cases hx with
    | view _ _ b off fn h1 h2 =>
     refine ⟨_,?_,Z1s hr hu' hs⟩;simp [Instr.indexAt,asIntOf,Zk hu,Zla hs,hc,Instr.sureAddr,Addr.add_lit]
   ·simp at h
  ·simp at h
 ·simp at h
def Zqh (P:Program) (t:TypeId) (a i:V):Option V :=
 match P.underlying t,a,i with
 | some .string,.str s,.int _ n=>if 0≤n then (s[n.toNat]?).map fun b => .int .u8 b.toNat else none
 | some (.array N e),.agg l,.int _ n=>if 0≤n∧n<N then match Zqb P e with | some m=>Z7j P e l (n.toNat * m) | none=>none else none
 | _,_,_=>none
theorem Zw0 {t:TypeId} {a i v:V} {x y:Value} (hx:Rel X x a) (hy:Rel X y i) (h:Zqh P t a i=some v):∃ c,(Instr.index t x y).run P w = .ok c w∧Rel X c v:=by
 unfold Zqh at h
 split at h
 ·rename_i s k n hu
  obtain ⟨q,rfl,rfl⟩:=hx.str_inv;cases hy
  split at h
  ·rename_i h0
   simp only [Option.map_eq_some_iff] at h;obtain ⟨b,hb,rfl⟩:=h;refine ⟨_,?_,.int _ _⟩
   have:q[n.toNat]? = some b:=by
    rw [Array.getElem?_toList] at hb
    have h2:q[n.toNat]? = q.data[n.toNat]? := by
     by_cases hlt:n.toNat<q.size
     ·rw [getElem?_pos q _ hlt,getElem?_pos q.data _ hlt];rfl
     ·rw [getElem?_neg q _ hlt,getElem?_neg q.data _ hlt]
    rw [h2,hb]
   simp [Instr.index,asIntOf,Zk hu,h0,this]
  ·simp at h
 ·rename_i N e l k n hu
  cases hy
  split at h
  ·rename_i hc
   split at h
   ·rename_i m hs
    cases hx with
    | agg xs _ h1 h2 h3 =>
     obtain ⟨c,hc',hr⟩:=Zjy (w:=w) (.agg xs l h1 h2 h3) h;exact ⟨c,by simp [Instr.index,asIntOf,Zk hu,hc,Zla hs,hc'],hr⟩
   ·simp at h
  ·simp at h
 ·simp at h
def Zoa (d:Nat):Option V→Option Nat
 | none=>some d
 | some (.int _ n)=>if 0≤n then some n.toNat else none
 | _=>none
def Z3e (P:Program) (t:TypeId) (a:V) (lo hi mx:Option V):Option V :=
 match P.underlying t,a with
 | some .string,.str s =>
  match Zoa 0 lo,Zoa s.length hi,mx with
  | some i,some j,none=>if i≤j∧j≤s.length then some (.str ((s.drop i).take (j-i))) else none
  | _,_,_=>none
 | some (.slice e),.slice c clip E l =>
  match Zoa 0 lo,Zoa l.length hi,mx with
  | some i,some j,none=>if Zqb P e=some E∧i≤j∧j≤l.length then some (.slice c (clip && j==l.length) E ((l.drop i).take (j-i))) else none
  | some i,some j,some m =>
   match hi,Zoa 0 (some m) with
   | some _,some k=>if Zqb P e=some E∧i≤j∧j≤k∧k≤l.length then some (.slice c (k==j) E ((l.drop i).take (j-i))) else none
   | _,_=>none
  | _,_,_=>none
 | some (.slice e),.msl o g off len E =>
  match Zoa 0 lo,Zoa len hi,mx with
  | some i,some j,none =>
   if Zqb P e=some E∧i≤j∧j≤len then some (if i=0 then .msl o g off j E else if i<j then .msl o g (off+i * E) (j-i) E else .slice .any false E []) else none
  | _,_,_=>none
 | some (.slice e),.nils =>
  match Zoa 0 lo,Zoa 0 hi,Zoa 0 mx,hi,mx with
  | some 0,some 0,some 0,_,none=>if (Zqb P e).isSome then some .nils else none
  | some 0,some 0,some 0,some _,some _=>if (Zqb P e).isSome then some .nils else none
  | _,_,_,_,_=>none
 | _,_=>none
theorem Z1o {y:Value} {m:V} {n d:Nat} (hy:Rel X y m) (h:Zoa d (some m)=some n) (cap:Nat) (hle:n≤cap) (code:BoundsCode) :
  (Instr.sliceBound y cap code).run P w = .ok n w:=by
 cases hy<;>simp only [Zoa,reduceCtorEq] at h
 split at h
 ·rename_i k q h0
  simp at h;subst h
  have:q≤(cap:Int):=by omega
  simp [Instr.sliceBound,asIntOf,h0,this]
 ·simp at h
def Zqx (X:Cx):Option Value→Option V→Prop
 | none,none=>True
 | some x,some v=>Rel X x v
 | _,_=>False
theorem Z1c {isSlice:Bool} {len cap:Nat} {lo hi mx:Option Value} {lo' hi' mx':Option V} {i j k:Nat} (h1:Zqx X lo lo') (h2:Zqx X hi hi') (h3:Zqx X mx mx')
  (b1:Zoa 0 lo'=some i) (b2:Zoa len hi'=some j) (b3:Zoa cap mx'=some k) (hmx:mx'=none∨hi'≠none) (hij:i≤j) (hjk:j≤k) (hk:k≤cap) :
  (Instr.sliceBounds isSlice len cap lo hi mx).run P w = .ok (i,j,k) w:=by
 have r3:∀ v v',mx=some v→mx'=some v'→∀ c,(Instr.sliceBound v cap c).run P w = .ok k w:=fun v v' e e' c=>by
  subst e;subst e';exact Z1o h3 b3 cap hk _
 have r2:∀ v v',hi=some v→hi'=some v'→∀ c,(Instr.sliceBound v k c).run P w = .ok j w:=fun v v' e e' c=>by
  subst e;subst e';exact Z1o h2 b2 k hjk _
 have r1:∀ v v',lo=some v→lo'=some v'→∀ c,(Instr.sliceBound v j c).run P w = .ok i w:=fun v v' e e' c=>by
  subst e;subst e';exact Z1o h1 b1 j hij _
 cases lo<;>cases lo'<;>simp only [Zqx] at h1<;>cases hi<;>cases hi'<;>simp only [Zqx] at h2<;>cases mx<;>cases mx'<;>simp only [Zqx] at h3 <;>
  first
   | (exfalso;simp at hmx;done)
   | (simp only [Instr.sliceBounds,r1 _ _ rfl rfl,r2 _ _ rfl rfl,r3 _ _ rfl rfl,Sem.run_bind,Sem.run_pure,Result.andThen_ok];simp [Zoa] at b1 b2 b3;simp_all;done)
   | (simp only [Instr.sliceBounds,r1 _ _ rfl rfl,r2 _ _ rfl rfl,Sem.run_bind,Sem.run_pure,Result.andThen_ok];simp [Zoa] at b1 b2 b3;simp_all;done)
   | (simp only [Instr.sliceBounds,r2 _ _ rfl rfl,r3 _ _ rfl rfl,Sem.run_bind,Sem.run_pure,Result.andThen_ok];simp [Zoa] at b1 b2 b3;simp_all;done)
   | (simp only [Instr.sliceBounds,r1 _ _ rfl rfl,Sem.run_bind,Sem.run_pure,Result.andThen_ok];simp [Zoa] at b1 b2 b3;simp_all;done)
   | (simp only [Instr.sliceBounds,r2 _ _ rfl rfl,Sem.run_bind,Sem.run_pure,Result.andThen_ok];simp [Zoa] at b1 b2 b3;simp_all;done)
   | (simp only [Instr.sliceBounds,Sem.run_bind,Sem.run_pure,Result.andThen_ok];simp [Zoa] at b1 b2 b3;simp_all;done)
theorem Zyi {E:Nat} {l:List V} (hE:∀ v∈l,v.cells.length=E) (i j:Nat) (q:Nat) (hq:q<(flat ((l.drop i).take j)).length) :
  ∃ h:i * E+q<(flat l).length,(flat ((l.drop i).take j))[q]=(flat l)[i * E+q]:=by
 have hE1:∀ v∈l.drop i,v.cells.length=E:=fun v hv=>hE v (List.mem_of_mem_drop hv)
 have e1:flat l=flat (l.take i)++flat (l.drop i):=by
  unfold flat;rw [← List.flatMap_append,List.take_append_drop]
 have e2:flat (l.drop i)=flat ((l.drop i).take j)++flat ((l.drop i).drop j):=by
  unfold flat;rw [← List.flatMap_append,List.take_append_drop]
 by_cases hi:i≤l.length
 ·have e3:(flat (l.take i)).length=i * E:=by
   rw [Zvb (E:=E) (fun v hv=>hE v (List.mem_of_mem_take hv)),List.length_take,Nat.min_eq_left hi]
  have hlt:i * E+q<(flat l).length:=by rw [e1,List.length_append,e3,e2,List.length_append];omega
  refine ⟨hlt,?_⟩
  have:(flat l)[i * E+q]? = (flat ((l.drop i).take j))[q]? := by
   rw [e1,List.getElem?_append_right (by omega),e3,Nat.add_sub_cancel_left,e2,List.getElem?_append_left hq]
  rw [List.getElem?_eq_getElem hlt,List.getElem?_eq_getElem hq] at this;simpa using this.symm
 ·rw [List.drop_eq_nil_of_le (by omega)] at hq
  simp [flat] at hq
theorem Z1h {c:Col} {clip clip':Bool} {E i j:Nat} {l:List V} {b off len cap cap':Nat} (h:Rel X (.slice (some ⟨b,off,none⟩) len cap) (.slice c clip E l)) (hij:i≤j) (hj:j≤l.length)
  (hcap:j-i≤cap') (hclip:clip'=true→cap'=j-i) (off':Nat) (hoff:off'=off+i * E∨j=i) :
  Rel X (.slice (some ⟨b,off',none⟩) (j-i) cap') (.slice c clip' E ((l.drop i).take (j-i))):=by
 cases h with
 | slice0 =>
  have hi:i=0:=by simp at hj;omega
  have hj:j=0:=by simp at hj;omega
  subst hi hj;exact .slice c clip' E [] b off' cap' (fun _=>undef) (Nat.zero_le _) (by simpa using hclip) (by simp) (by simp [flat]) (by simp [flat])
 | slice _ _ _ _ _ _ _ f h1 h2 hE hc hr =>
 have hlen:((l.drop i).take (j-i)).length=j-i:=by simp;omega
 have hE':∀ v∈(l.drop i).take (j-i),v.cells.length=E:=fun v hv=>hE v (List.mem_of_mem_drop (List.mem_of_mem_take hv))
 have key:Rel X (.slice (some ⟨b,off',none⟩) ((l.drop i).take (j-i)).length cap') (.slice c clip' E ((l.drop i).take (j-i))):=by
  refine .slice c clip' E _ b off' cap' (fun q=>f (i * E+q)) (by omega) (fun hh=>by rw [hclip hh];omega) hE' ?_ ?_
  ·intro q hq
   obtain ⟨hlt,_⟩:=Zyi hE i (j-i) q hq
   rcases hoff with rfl | rfl
   ·have:=hc _ hlt
    rwa [← Nat.add_assoc] at this
   ·simp [flat] at hq
  ·intro q hq
   obtain ⟨hlt,he⟩:=Zyi hE i (j-i) q hq;rw [he];exact hr _ hlt
 rwa [hlen] at key
theorem Zwz {t:TypeId} {a v:V} {x:Value} {lo hi mx:Option Value} {lo' hi' mx':Option V} (hx:Rel X x a) (h1:Zqx X lo lo') (h2:Zqx X hi hi') (h3:Zqx X mx mx')
  (h:Z3e P t a lo' hi' mx'=some v):∃ c,(Instr.sliceAt t x lo hi mx).run P w = .ok c w∧Rel X c v:=by
 unfold Z3e at h
 split at h
 ·rename_i s hu
  obtain ⟨q,rfl,rfl⟩:=hx.str_inv
  split at h
  ·rename_i i j b1 b2
   split at h
   ·rename_i hc
    simp at h;subst h;have hsz:q.size=q.data.toList.length:=(Array.length_toList (xs:=q.data)).symm;rw [← hsz] at b2 hc
    cases mx<;>simp only [Zqx] at h3
    have hb:=Z1c (P:=P) (w:=w) (isSlice:=false) (cap:=q.size) (mx:=none) (mx':=none) h1 h2 trivial b1 b2 rfl (.inl rfl) hc.1 hc.2 (Nat.le_refl _);refine ⟨.string (q.extract i j),?_,.str _ _ ?_⟩
    ·simp [Instr.sliceAt,Instr.slice,Zk hu,hb]
    ·rw [Lib.extract_data]
   ·simp at h
  ·simp at h
 ·rename_i e c clip E l hu
  cases hx with
  | slice0 _ _ _ a =>
   split at h
   ·rename_i i j b1 b2
    split at h
    ·rename_i hcd
     obtain ⟨hs,hij,hj⟩:=hcd;simp at h;subst h
     cases mx<;>simp only [Zqx] at h3
     have hj0:j=0:=by simp at hj;omega
     have hi0:i=0:=by omega
     subst hj0 hi0;have b2:Zoa 0 hi'=some 0:=b2;have hb:=Z1c (P:=P) (w:=w) (isSlice:=true) (cap:=0) (mx:=none) (mx':=none) h1 h2 trivial b1 b2 rfl (.inl rfl) hij (by omega) (Nat.le_refl _);refine ⟨_,by simp only [Instr.sliceAt,Instr.slice,Zk hu,hb,Zla hs,Sem.run_bind,Result.andThen_ok,Sem.run_pure];rfl,?_⟩;simpa using Rel.slice0 _ _ _ a
    ·simp at h
   ·rename_i i j m b1 b2
    split at h
    ·rename_i q k b3
     split at h
     ·rename_i hcd
      obtain ⟨hs,hij,hjk,hk⟩:=hcd;simp at h;subst h
      have b3':Zoa 0 (some m)=some k:=by cases m<;>simp_all [Zoa]
      have hk0:k=0:=by simp at hk;omega
      have hj0:j=0:=by omega
      have hi0:i=0:=by omega
      subst hk0 hj0 hi0;rw [show ([]:List V).length=0 from rfl] at b2;have hb:=Z1c (P:=P) (w:=w) (isSlice:=true) (cap:=0) h1 h2 h3 b1 b2 b3' (.inr (by simp)) hij hjk (by omega);refine ⟨_,by simp only [Instr.sliceAt,Instr.slice,Zk hu,hb,Zla hs,Sem.run_bind,Result.andThen_ok,Sem.run_pure];rfl,?_⟩;simpa using Rel.slice0 _ _ _ a
     ·simp at h
    ·simp at h
   ·simp at h
  | slice _ _ _ _ b off cap f hcap hclip hE hc hr =>
  have hR:Rel X (.slice (some ⟨b,off,none⟩) l.length cap) (.slice c clip E l) := .slice _ _ _ _ b off cap f hcap hclip hE hc hr
  split at h
  ·rename_i i j b1 b2
   split at h
   ·rename_i hcd
    obtain ⟨hs,hij,hj⟩:=hcd;simp at h;subst h
    cases mx<;>simp only [Zqx] at h3
    have hb:=Z1c (P:=P) (w:=w) (isSlice:=true) (cap:=cap) (mx:=none) (mx':=none) h1 h2 trivial b1 b2 rfl (.inl rfl) hij (by omega) (Nat.le_refl _);refine ⟨_,by simp only [Instr.sliceAt,Instr.slice,Zk hu,hb,Zla hs,Sem.run_bind,Result.andThen_ok,Sem.run_pure];rfl,?_⟩
    by_cases hci:cap=i
    ·simp only [hci,if_true]
     exact Z1h hR hij hj (by omega) (fun hh=>by simp at hh;have:=hclip hh.1;omega) off (.inr (by omega))
    ·simp only [hci,if_false,Option.map_some,Addr.add_lit]
     exact Z1h hR hij hj (by omega) (fun hh=>by simp at hh;have:=hclip hh.1;omega) _ (.inl rfl)
   ·simp at h
  ·rename_i i j m b1 b2
   split at h
   ·rename_i q k b3
    split at h
    ·rename_i hcd
     obtain ⟨hs,hij,hjk,hk⟩:=hcd;simp at h;subst h
     have b3':Zoa cap (some m)=some k:=by cases m<;>simp_all [Zoa]
     have hb:=Z1c (P:=P) (w:=w) (isSlice:=true) (cap:=cap) h1 h2 h3 b1 b2 b3' (.inr (by simp)) hij hjk (by omega);refine ⟨_,by simp only [Instr.sliceAt,Instr.slice,Zk hu,hb,Zla hs,Sem.run_bind,Result.andThen_ok,Sem.run_pure];rfl,?_⟩
     by_cases hci:k=i
     ·simp only [hci,if_true]
      exact Z1h hR hij (by omega) (by omega) (fun hh=>by simp at hh;omega) off (.inr (by omega))
     ·simp only [hci,if_false,Option.map_some,Addr.add_lit]
      exact Z1h hR hij (by omega) (by omega) (fun hh=>by simp at hh;omega) _ (.inl rfl)
    ·simp at h
   ·simp at h
  ·simp at h
 ·rename_i e o g off len E hu
  cases hx with
  | msl _ _ _ _ _ b bs cap hβ hcap hb =>
  split at h
  ·rename_i i j b1 b2
   split at h
   ·rename_i hcd
    obtain ⟨hs,hij,hj⟩:=hcd;simp at h;subst h
    cases mx<;>simp only [Zqx] at h3
    have hbr:=Z1c (P:=P) (w:=w) (isSlice:=true) (cap:=cap) (mx:=none) (mx':=none) h1 h2 trivial b1 b2 rfl (.inl rfl) hij (by omega) (Nat.le_refl _);refine ⟨_,by simp only [Instr.sliceAt,Instr.slice,Zk hu,hbr,Zla hs,Sem.run_bind,Result.andThen_ok,Sem.run_pure];rfl,?_⟩;obtain ⟨c',t',hb1,hb2⟩:=hb
    by_cases hi0:i=0
    ·subst hi0
     simp only [if_true,Nat.sub_zero]
     have:(if cap=0 then some (⟨b,bs+off,none⟩:Addr) else (some (⟨b,bs+off,none⟩:Addr)).map fun x=>x.add (0 * E))=some ⟨b,bs+off,none⟩:=by
      split<;>simp [Addr.add_lit]
     rw [this];exact .msl o g off j E b bs cap hβ (by omega) ⟨c',t',hb1,hb2⟩
    ·simp only [hi0,if_false]
     by_cases hlt:i<j
     ·have hci:¬ cap=i:=by omega
      simp only [hlt,hci,if_true,if_false,Option.map_some,Addr.add_lit,Nat.add_assoc];refine .msl o g (off+i * E) (j-i) E b bs (cap-i) hβ (by omega) ⟨c',t',hb1,?_⟩
      have:i * E+(cap-i) * E=cap * E:=by rw [← Nat.add_mul];congr 1;omega
      omega
     ·have hji:j=i:=by omega
      subst hji;simp only [Nat.lt_irrefl,if_false,Nat.sub_self]
      by_cases hci:cap=j
      ·simp only [hci,if_true]
       exact .slice .any false E [] b (bs+off) _ (fun _=>undef) (by simp) (by simp) (by simp) (by simp [flat]) (by simp [flat])
      ·simp only [hci,if_false,Option.map_some,Addr.add_lit]
       exact .slice .any false E [] b _ _ (fun _=>undef) (by simp) (by simp) (by simp) (by simp [flat]) (by simp [flat])
   ·simp at h
  ·simp at h
 ·rename_i e hu
  cases hx
  have fin:∀ lo hi mx,(Instr.sliceBounds true 0 0 lo hi mx).run P w = .ok (0,0,0) w→(Zqb P e).isSome=true→(Instr.sliceAt t (.slice none 0 0) lo hi mx).run P w = .ok (.slice none 0 0) w:=by
   intro lo hi mx hb hs;obtain ⟨n,hs⟩:=Option.isSome_iff_exists.1 hs;simp [Instr.sliceAt,Instr.slice,Zk hu,hb,Zla hs]
  split at h
  ·rename_i b1 b2 b3
   split at h
   ·rename_i hs
    simp at h;subst h;exact ⟨_,fin _ _ _ (Z1c h1 h2 h3 b1 b2 b3 (.inl rfl) (Nat.le_refl _) (Nat.le_refl _) (Nat.le_refl _)) hs,.nils⟩
   ·simp at h
  ·rename_i b1 b2 b3
   split at h
   ·rename_i hs
    simp at h;subst h;exact ⟨_,fin _ _ _ (Z1c h1 h2 h3 b1 b2 b3 (.inr (by simp)) (Nat.le_refl _) (Nat.le_refl _) (Nat.le_refl _)) hs,.nils⟩
   ·simp at h
  ·simp at h
 ·simp at h
end
end Go.Hs
end
