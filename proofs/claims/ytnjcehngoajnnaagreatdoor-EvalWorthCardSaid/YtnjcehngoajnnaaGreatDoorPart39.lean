/- Part 39 of the proof of a statement of seat YtnjcehngoajnnaaGreatDoor: HsExprLaw HsGExprOf HsGExpr1. -/
import Derived.Test.YtnjcehngoajnnaaGreatDoorPart33
import Derived.Test.YtnjcehngoajnnaaGreatDoorPart37
import Derived.Test.YtnjcehngoajnnaaGreatDoorPart38
set_option linter.unusedSimpArgs false
set_option linter.unusedVariables false
section
namespace Go.Hs
open Go
structure XN where
 op:Int
 num:Int
 name:List UInt8
 a:Int
 b:Int
 c:Int
 deriving DecidableEq,Inhabited
structure Sg where
 text:List UInt8
 level:Int
 parts:Int
 deriving DecidableEq,Inhabited
def tabL:List Sg:=[⟨[],0,0⟩,⟨[],10,0⟩,⟨[],10,0⟩,⟨[116,114,117,101],10,0⟩,⟨[102,97,108,115,101],10,0⟩,⟨[45],9,1⟩,⟨[110,111,116],9,1⟩,
 ⟨[42],8,2⟩,⟨[100,105,118],8,2⟩,⟨[109,111,100],8,2⟩,⟨[43],7,2⟩,⟨[45],7,2⟩,⟨[60],6,2⟩,⟨[60,61],6,2⟩,⟨[62],6,2⟩,⟨[62,61],6,2⟩,⟨[61],5,2⟩,⟨[60,62],5,2⟩,
 ⟨[97,110,100],4,2⟩,⟨[111,114],3,2⟩,⟨[120,111,114],2,2⟩,⟨[105,109,112,108,105,101,115],1,2⟩,⟨[105,102],10,3⟩]
def sgIs (t:List UInt8) (p:Int) (s:Sg):Bool:=s.text==t && s.parts==p && !(s.text==[])
def ofI (t:List UInt8) (p:Int):Option Nat:=tabL.findIdx? (sgIs t p)
def ofP (t:List UInt8) (p:Int):Nat × Bool:=match ofI t p with | some i=>(i,true) | none=>(0,false)
def lvl (op:Nat):Int:=(tabL.getD op ⟨[],0,0⟩).level
theorem ofI_some {t:List UInt8} {p:Int} {i:Nat} (h:ofI t p=some i):∃ s,tabL[i]? = some s∧s.text=t∧s.parts=p∧t≠[]:=by
 obtain ⟨h1,h2,_⟩:=List.findIdx?_eq_some_iff_getElem.1 h
 refine ⟨tabL[i],List.getElem?_eq_getElem h1,?_⟩
 unfold sgIs at h2
 simp only [Bool.and_eq_true,beq_iff_eq,Bool.not_eq_true',beq_eq_false_iff_ne] at h2
 exact ⟨h2.1.1,h2.1.2,by rw [← h2.1.1];exact h2.2⟩
theorem ofI_one {t:List UInt8} {i:Nat} (h:ofI t 1=some i):t=[45]∧i=5∨t=[110,111,116]∧i=6:=by
 obtain ⟨s,h1,h2,h3,_⟩:=ofI_some h
 have hi:i<23:=by rw [List.getElem?_eq_some_iff] at h1;exact h1.1
 have key:∀ i,i<23→∀ s,tabL[i]? = some s→s.parts=1→s.text=[45]∧i=5∨s.text=[110,111,116]∧i=6:=by
  intro i hi s h1 h3
  have:∀ i,i<23→(tabL[i]?.map (·.parts))=some 1→(tabL[i]?.map (·.text))=some [45]∧i=5∨(tabL[i]?.map (·.text))=some [110,111,116]∧i=6:=by decide +kernel
  have:=this i hi (by rw [h1];simp [h3])
  rw [h1] at this
  simpa using this
 rw [← h2];exact key i hi s h1 h3
theorem ofI_zero {t:List UInt8} {i:Nat} (h:ofI t 0=some i):t=[116,114,117,101]∧i=3∨t=[102,97,108,115,101]∧i=4:=by
 obtain ⟨s,h1,h2,h3,h4⟩:=ofI_some h
 have hi:i<23:=by rw [List.getElem?_eq_some_iff] at h1;exact h1.1
 have key:∀ i,i<23→∀ s,tabL[i]? = some s→s.parts=0→s.text≠[]→s.text=[116,114,117,101]∧i=3∨s.text=[102,97,108,115,101]∧i=4:=by
  intro i hi s h1 h3
  have:((List.range 23).all fun i=>match tabL[i]? with | some s => !(s.parts==0) || s.text==[] || (s.text==[116,114,117,101] && i==3) || (s.text==[102,97,108,115,101] && i==4) | none=>true)=true:=by decide +kernel
  have:=List.all_eq_true.1 this i (List.mem_range.2 hi)
  intro h4
  rw [h1] at this
  simp only [h3,Bool.or_eq_true,Bool.and_eq_true,beq_iff_eq,h4,or_false] at this
  simpa using this
 rw [← h2];exact key i hi s h1 h3 (by rw [h2];exact h4)
theorem ofI_two {t:List UInt8} {i:Nat} (h:ofI t 2=some i):7≤i∧i≤21∧1≤lvl i∧lvl i≤8∧isP t≠0:=by
 obtain ⟨s,h1,h2,h3,_⟩:=ofI_some h
 have hi:i<23:=by rw [List.getElem?_eq_some_iff] at h1;exact h1.1
 have key:∀ i,i<23→(tabL[i]?.map (·.parts))=some 2→7≤i∧i≤21∧1≤lvl i∧lvl i≤8∧(tabL[i]?.map fun s=>isP s.text)≠some 0:=by decide +kernel
 have:=key i hi (by rw [h1];simp [h3])
 rw [h1] at this
 rw [← h2]
 simpa using this
def nextP (l:List Tk) (i:Nat):Tk:=match l[i]? with
 | some t=>if (isP t.text:Int)=t.kind then t else ⟨0,[],0⟩
 | none=>⟨0,[],0⟩
theorem nextP_is (l:List Tk) (i:Nat):(isP (nextP l i).text:Int)=(nextP l i).kind:=by
 unfold nextP
 split
 ·split
  ·assumption
  ·rfl
 ·rfl
theorem nextP_lt {l:List Tk} {i:Nat} (h:(nextP l i).kind≠0):i<l.length:=by
 rw [← Nat.not_le]
 intro h2
 apply h
 unfold nextP
 rw [List.getElem?_eq_none h2]
structure RS where
 i:Nat
 nodes:List XN
 e:Int
 deriving DecidableEq,Inhabited
def RS.put (r:RS) (n:XN):RS:={ r with nodes:=r.nodes++[n] }
def RS.last (r:RS):Int:=(r.nodes.length:Int)-1
def RS.adv (r:RS):RS:={ r with i:=r.i+1 }
def RS.err (r:RS) (e:Int):RS:={ r with e:=e }
@[simp] theorem RS.put_i (r:RS) (n:XN):(r.put n).i=r.i:=rfl
@[simp] theorem RS.adv_i (r:RS):r.adv.i=r.i+1:=rfl
@[simp] theorem RS.err_i (r:RS) (e:Int):(r.err e).i=r.i:=rfl
abbrev Inner:=Int→RS→Bool × RS
def andThen (x:Bool × RS) (k:RS→Bool × RS):Bool × RS:=if x.1 then k x.2 else (false,x.2)
theorem andThen_true (r:RS) (k:RS→Bool × RS):andThen (true,r) k=k r:=rfl
theorem andThen_false (r:RS) (k:RS→Bool × RS):andThen (false,r) k=(false,r):=rfl
def eatP (l:List Tk) (w:List UInt8) (r:RS):Bool × RS:=if (nextP l r.i).kind=0∨(nextP l r.i).text≠w then (false,r.err 80) else (true,r.adv)
def leafP (r:RS) (op num:Int) (name:List UInt8):Bool × RS:=(true,r.adv.put ⟨op,num,name,-1,-1,-1⟩)
def trim0 (t:List UInt8):List UInt8:=if t.dropWhile (· == 48)=[] then [48] else t.dropWhile (· == 48)
def numberP (r:RS) (t:List UInt8):Bool × RS:=if (parseR (trim0 t)).2≠0 then (false,r.err (parseR (trim0 t)).2) else leafP r 1 (parseR (trim0 t)).1 []
def wIf:List UInt8:=[105,102]
def wThen:List UInt8:=[116,104,101,110]
def wElse:List UInt8:=[101,108,115,101]
def wEndif:List UInt8:=[101,110,100,105,102]
def branchesP (l:List Tk) (inner:Inner) (r:RS):Bool × RS :=
 andThen (eatP l wIf r) fun r1=>andThen (inner 1 r1) fun a=>andThen (eatP l wThen a) fun r2=>andThen (inner 1 r2) fun b =>
 andThen (eatP l wElse b) fun r3=>andThen (inner 1 r3) fun c=>andThen (eatP l wEndif c) fun r4=>(true,r4.put ⟨22,0,[],a.last,b.last,c.last⟩)
def aheadP (l:List Tk) (inner:Inner) (r:RS):Bool × RS :=
 if (nextP l r.i).kind=1 then numberP r (nextP l r.i).text
 else if (nextP l r.i).kind=2 then leafP r 2 0 (nextP l r.i).text
 else if (nextP l r.i).kind=0 then (false,r.err 80)
 else if (ofP (nextP l r.i).text 1).2 then andThen (inner 9 r.adv) fun a=>(true,a.put ⟨(ofP (nextP l r.i).text 1).1,0,[],a.last,-1,-1⟩)
 else if (nextP l r.i).text=[40] then andThen (inner 1 r.adv) (eatP l [41])
 else if (nextP l r.i).text=wIf then branchesP l inner r
 else if (ofP (nextP l r.i).text 0).2∧(nextP l r.i).kind=3 then leafP r (ofP (nextP l r.i).text 0).1 0 []
 else (false,r.err 80)
def opAt (l:List Tk) (i:Nat):Option Nat:=if (nextP l i).kind=0 then none else ofI (nextP l i).text 2
def loopP (l:List Tk) (inner:Inner) (n:Int):Nat→RS→Bool × RS
 | 0,r=>(true,r)
 | m+1,r=>match opAt l r.i with
  | none=>(true,r)
  | some op=>if lvl op<n then (true,r) else andThen (inner (lvl op+1) r.adv) fun a=>loopP l inner n m (a.put ⟨op,0,[],r.last,a.last,-1⟩)
def climbP (l:List Tk):Nat→Inner
 | 0,_,r=>(false,r)
 | f+1,n,r=>andThen (aheadP l (climbP l f) r) (loopP l (climbP l f) n (l.length+1))
def Mono (inner:Inner):Prop:=∀ n r,r.i≤(inner n r).2.i
theorem andThen_mono {x:Bool × RS} {k:RS→Bool × RS} {a:Nat} (h:a≤x.2.i) (hk:∀ r,x.2.i≤r.i→r.i≤(k r).2.i):a≤(andThen x k).2.i:=by
 obtain ⟨b,r⟩:=x
 cases b
 ·exact h
 ·exact Nat.le_trans h (hk r (Nat.le_refl _))
theorem eatP_mono (l:List Tk) (w:List UInt8) (r:RS):r.i≤(eatP l w r).2.i:=by
 unfold eatP;split
 ·exact Nat.le_refl _
 ·exact Nat.le_succ _
theorem leafP_mono (r:RS) (op num:Int) (name:List UInt8):r.i≤(leafP r op num name).2.i:=Nat.le_succ _
theorem numberP_mono (r:RS) (t:List UInt8):r.i≤(numberP r t).2.i:=by
 unfold numberP;split
 ·exact Nat.le_refl _
 ·exact leafP_mono _ _ _ _
theorem branchesP_mono {l:List Tk} {inner:Inner} (h:Mono inner) (r:RS):r.i≤(branchesP l inner r).2.i:=by
 unfold branchesP
 refine andThen_mono (eatP_mono _ _ _) fun r1 _=>andThen_mono (h _ _) fun a _=>andThen_mono (eatP_mono _ _ _) fun r2 _=>andThen_mono (h _ _) fun b _=>andThen_mono (eatP_mono _ _ _) fun r3 _=>andThen_mono (h _ _) fun c _=>andThen_mono (eatP_mono _ _ _) fun r4 _=>Nat.le_refl _
theorem aheadP_mono {l:List Tk} {inner:Inner} (h:Mono inner) (r:RS):r.i≤(aheadP l inner r).2.i:=by
 have h1:r.i≤r.adv.i:=Nat.le_succ _
 unfold aheadP
 split
 ·exact numberP_mono _ _
 split
 ·exact leafP_mono _ _ _ _
 split
 ·exact Nat.le_refl _
 split
 ·exact andThen_mono (Nat.le_trans h1 (h _ _)) fun a _=>Nat.le_refl _
 split
 ·exact andThen_mono (Nat.le_trans h1 (h _ _)) fun a _=>eatP_mono _ _ _
 split
 ·exact branchesP_mono h r
 split
 ·exact leafP_mono _ _ _ _
 ·exact Nat.le_refl _
theorem loopP_mono {l:List Tk} {inner:Inner} (h:Mono inner) (n:Int):∀ (m:Nat) (r:RS),r.i≤(loopP l inner n m r).2.i
 | 0,r=>Nat.le_refl _
 | m+1,r=>by
  rw [loopP]
  split
  ·exact Nat.le_refl _
  ·split
   ·exact Nat.le_refl _
   ·exact andThen_mono (Nat.le_trans (Nat.le_succ _) (h _ r.adv)) fun a _=>loopP_mono h n m (a.put _)
theorem climbP_mono (l:List Tk):∀ f,Mono (climbP l f)
 | 0=>fun _ _=>Nat.le_refl _
 | f+1=>fun n r=>by
  rw [climbP]
  exact andThen_mono (aheadP_mono (climbP_mono l f) r) fun a _=>loopP_mono (climbP_mono l f) n _ a
def Ends (l:List Tk) (n:Int) (i:Nat):Prop:=∀ op,opAt l i=some op→lvl op<n
theorem opAt_lt {l:List Tk} {i op:Nat} (h:opAt l i=some op):i<l.length:=by
 unfold opAt at h
 split at h
 ·cases h
 ·exact nextP_lt (by assumption)
theorem loopP_ends {l:List Tk} {inner:Inner} (h:Mono inner) (n:Int):∀ (m:Nat) (r:RS),l.length<m+r.i→(loopP l inner n m r).1=true→Ends l n (loopP l inner n m r).2.i
 | 0,r,hm,_=>fun op ho=>by have h2:r.i<l.length:=opAt_lt ho;omega
 | m+1,r,hm,hb=>by
  rw [loopP] at hb ⊢
  cases ho:opAt l r.i with
  | none =>
   intro op h2
   have h2:opAt l r.i=some op:=h2
   rw [ho] at h2;cases h2
  | some op =>
   rw [ho] at hb
   simp only at hb ⊢
   by_cases hl:lvl op<n
   ·rw [if_pos hl] at hb ⊢
    intro op' h2
    have h2:opAt l r.i=some op':=h2
    rw [ho] at h2;cases h2
    exact hl
   ·rw [if_neg hl] at hb ⊢
    have h3:=h (lvl op+1) r.adv
    generalize inner (lvl op+1) r.adv=x at hb h3 ⊢
    obtain ⟨b,a⟩:=x
    cases b
    ·cases hb
    ·exact loopP_ends h n m _ (by have:r.i+1≤a.i:=h3;simp only [RS.put_i];omega) hb
theorem climbP_ends {l:List Tk} {f:Nat} {n:Int} {r:RS} (hb:(climbP l f n r).1=true):Ends l n (climbP l f n r).2.i:=by
 cases f with
 | zero=>cases hb
 | succ f =>
  rw [climbP] at hb ⊢
  generalize aheadP l (climbP l f) r=x at hb ⊢
  obtain ⟨b,a⟩:=x
  cases b
  ·cases hb
  ·exact loopP_ends (climbP_mono l f) n _ a (by omega) hb
theorem opAt_two {l:List Tk} {i:Nat}:opAt l i=ofI (nextP l i).text 2:=by
 unfold opAt
 split
 ·rename_i h
  cases ho:ofI (nextP l i).text 2 with
  | none=>rfl
  | some op =>
   have h1:=(ofI_two ho).2.2.2.2
   have h2:=nextP_is l i
   rw [h] at h2
   omega
 ·rfl
theorem op_pos {l:List Tk} {i op:Nat} (h:opAt l i=some op):7≤op∧op≤21∧1≤lvl op∧lvl op≤8:=by
 rw [opAt_two] at h
 obtain ⟨h1,h2,h3,h4,_⟩:=ofI_two h
 exact ⟨h1,h2,h3,h4⟩
theorem isP_dig {t:List UInt8} (h:isP t=1):t≠[]∧t.all isDig=true:=by
 rw [isP_whole] at h
 split at h
 ·cases h
 ·match t with
  | []=>cases h
  | c::r =>
   refine ⟨by simp,?_⟩
   rcases al_cases c with hc | ⟨_,hc⟩ | ⟨hc,_⟩
   ·rw [whole_dg hc] at h
    split at h
    ·assumption
    ·cases h
   ·rw [whole_lt hc] at h
    split at h
    ·split at h<;>cases h
    ·cases h
   ·rw [whole_no hc] at h
    split at h<;>cases h
end Go.Hs
end

section
namespace Go.Hs
open Go.Proofs
set_option maxRecDepth 100000
def encSg (s:Sg):V := .agg [.str s.text,.int .i64 s.level,.int .i64 s.parts]
theorem encSg_K (s:Sg):encSg s = .agg [.str s.text,.int .i64 s.level,.int .i64 s.parts]:=rfl
theorem encSg_cells (s:Sg):(encSg s).cells.length=3:=rfl
def tabC:List V:=flat (tabL.map encSg)
theorem tabC_get (op:Nat) (h:op<23) (k:Nat) (hk:k<3):tabC[op * 3+k]? = ((encSg (tabL.getD op ⟨[],0,0⟩)).cells)[k]? := by
 match k,hk with
 | 0,_=>exact match op,h with
  | 0,_=>rfl
  | 1,_=>rfl
  | 2,_=>rfl
  | 3,_=>rfl
  | 4,_=>rfl
  | 5,_=>rfl
  | 6,_=>rfl
  | 7,_=>rfl
  | 8,_=>rfl
  | 9,_=>rfl
  | 10,_=>rfl
  | 11,_=>rfl
  | 12,_=>rfl
  | 13,_=>rfl
  | 14,_=>rfl
  | 15,_=>rfl
  | 16,_=>rfl
  | 17,_=>rfl
  | 18,_=>rfl
  | 19,_=>rfl
  | 20,_=>rfl
  | 21,_=>rfl
  | 22,_=>rfl
  | n+23,h=>absurd h (by omega)
 | 1,_=>exact match op,h with
  | 0,_=>rfl
  | 1,_=>rfl
  | 2,_=>rfl
  | 3,_=>rfl
  | 4,_=>rfl
  | 5,_=>rfl
  | 6,_=>rfl
  | 7,_=>rfl
  | 8,_=>rfl
  | 9,_=>rfl
  | 10,_=>rfl
  | 11,_=>rfl
  | 12,_=>rfl
  | 13,_=>rfl
  | 14,_=>rfl
  | 15,_=>rfl
  | 16,_=>rfl
  | 17,_=>rfl
  | 18,_=>rfl
  | 19,_=>rfl
  | 20,_=>rfl
  | 21,_=>rfl
  | 22,_=>rfl
  | n+23,h=>absurd h (by omega)
 | 2,_=>exact match op,h with
  | 0,_=>rfl
  | 1,_=>rfl
  | 2,_=>rfl
  | 3,_=>rfl
  | 4,_=>rfl
  | 5,_=>rfl
  | 6,_=>rfl
  | 7,_=>rfl
  | 8,_=>rfl
  | 9,_=>rfl
  | 10,_=>rfl
  | 11,_=>rfl
  | 12,_=>rfl
  | 13,_=>rfl
  | 14,_=>rfl
  | 15,_=>rfl
  | 16,_=>rfl
  | 17,_=>rfl
  | 18,_=>rfl
  | 19,_=>rfl
  | 20,_=>rfl
  | 21,_=>rfl
  | 22,_=>rfl
  | n+23,h=>absurd h (by omega)
theorem tabC_lvl (op:Nat) (h:op<23):tabC[op * 3+1]? = some (.int .i64 (lvl op)):=by rw [tabC_get op h 1 (by decide)];rfl
theorem tabC_len:tabC.length=69:=rfl
theorem tabC_rc (f:Col→Col):(V.agg tabC).recol f = .agg tabC:=by
 have:V.recolL f tabC=tabC:=by
  rw [V.recolL_eq]
  have:∀ v∈tabC,v.recol f=v:=by
   intro v hv
   unfold tabC flat at hv
   rw [List.mem_flatMap] at hv
   obtain ⟨a,ha,hv⟩:=hv
   obtain ⟨s,_,rfl⟩:=List.mem_map.1 ha
   simp only [encSg_K,V.cells,List.mem_cons,List.not_mem_nil,or_false] at hv
   rcases hv with rfl | rfl | rfl<;>rfl
  exact (List.map_congr_left this).trans (List.map_id _)
 rw [V.recol,this]
theorem setAt_eq:∀ (c l:List V) (off:Nat),off+c.length≤l.length→Hs.setAt l off c=l.take off++c++l.drop (off+c.length)
 | [],l,off,_=>by simp [Hs.setAt]
 | v::r,l,off,h=>by
  simp only [List.length_cons] at h
  rw [Hs.setAt,setAt_eq r (l.set off v) (off+1) (by rw [List.length_set];omega)]
  have h1:(l.set off v).take (off+1)=l.take off++[v]:=by
   rw [List.take_add_one,List.getElem?_set_self (by omega),List.take_set_of_le (Nat.le_refl _)];rfl
  have h2:(l.set off v).drop (off+1+r.length)=l.drop (off+(r.length+1)):=by
   rw [List.drop_set_of_lt (by omega)]
   congr 1;omega
  rw [h1,h2];simp
theorem setAt_all {l c:List V} (h:c.length=l.length):Hs.setAt l 0 c=c:=by
 rw [setAt_eq c l 0 (by omega),h];simp
theorem setAt_tab (l:List V) (h:l.length=69):Hs.setAt l 0 tabC=tabC:=setAt_all (by rw [h];rfl)
theorem xTable_spec (G:Nat→V) (hG:GOk G):Spec Tryz.prog G 41 [] hNone (fun v _=>v = .agg tabC):=by
 refine Spec.of_code' 0 24 [.cell 0 100] Tryz.func41 rfl rfl rfl rfl fun X=>?_
 refine AW.seq_k fun K hK=>AW.region (by kernel_rfl) ?_
 simp -implicitDefEqProofs only[go_sem,seval,↓reduceIte]
 intro g0
 refine hK _ ?_
 clear hK K
 refine AW.seq_k fun K hK=>AW.region (by kernel_rfl) ?_
 simp -implicitDefEqProofs only[go_sem,seval,↓reduceIte]
 refine hK _ ?_
 clear hK K
 refine AW.ret ?_
 simp -implicitDefEqProofs only[go_sem,seval,↓reduceIte]
 refine endK_some ?_
 rfl
structure FnG (G:Nat→V) (f:FuncId) (cap:List V) (p:Sg→Bool):Prop where
 en:enterable Tryz.prog f=true
 rc:cap.map (V.recol Col.ent)=cap
 sp:∀ s:Sg,Spec Tryz.prog G f (encSg s::cap) hNone (fun v _=>v = .bool (p s))
theorem recol_sg (f:Col→Col) (s:Sg):(encSg s).recol f=encSg s:=by simp only [encSg_K,recol_agg,List.map_cons,List.map_nil,recol_int,recol_str]
theorem sIndexFuncG_spec (G:Nat→V) (hG:GOk G) (c:Col) (s:Sl Sg) (hs:s.l.length<1000000) {f:FuncId} {cap:List V} {p:Sg→Bool} (hf:FnG G f cap p) :
  Spec Tryz.prog G 146 [encSl c 3 encSg s,.func (.func f) [] cap] hNone (fun v _=>v = .int .i64 (idxP p s.l)):=by
 refine Spec.of_code' 0 19 [.tmp 4] Tryz.func146 rfl rfl rfl rfl fun X=>?_
 refine AW.seq_k fun K hK=>AW.region (by kernel_rfl) ?_
 simp -implicitDefEqProofs only[go_sem,seval,↓reduceIte]
 refine hK _ ?_
 clear hK K
 refine AW.seq_k fun K1 hK1=>?_
 refine AW.seq_k fun K hK=>AW.region (by kernel_rfl) ?_
 simp -implicitDefEqProofs only[go_sem,seval,↓reduceIte]
 refine hK _ ?_
 clear hK K
 refine AW.block ?_
 refine AW.for s.l.length (fun k (_:Unit)=>st [(0,encSl c 3 encSg s),(1,.func (.func f) [] cap),(7,.int .i64 s.l.length),(8,.int .i64 k)] []) (fun k _=>∀ y∈s.l.take k,p y=false) 0 () (Nat.zero_le _) (by simp)
  (Weak.st (by simp -implicitDefEqProofs only[go_sem,seval,↓reduceIte];try rfl) (by simp -implicitDefEqProofs only[go_sem,seval,↓reduceIte])) ?_
 intro k _ hk hR L2 hL2
 refine AW.seq_k fun K hK=>AW.region (by kernel_rfl) ?_
 simp -implicitDefEqProofs only[go_sem,seval,↓reduceIte]
 refine hK _ ?_
 clear hK K
 refine AW.seq_k fun K3 hK3=>?_
 refine AW.condS (by simp -implicitDefEqProofs only[go_sem,seval,↓reduceIte];rfl) (fun h4=>?_) (fun h4=>?_)
 ·have hk1:k<s.l.length:=by simpa using h4
  have hg:=List.getElem?_eq_getElem hk1
  generalize s.l[k]=x at hg
  refine AW.skip ?_
  simp -implicitDefEqProofs only[go_sem,seval,↓reduceIte]
  refine hK3 _ ?_
  refine AW.seq_k fun K5 hK5=>?_
  refine AW.block ?_
  refine AW.seq_k fun K hK=>AW.region (by kernel_rfl) ?_
  simp -implicitDefEqProofs only[go_sem,seval,↓reduceIte]
  refine hK _ ?_
  clear hK K
  refine AW.seq_k fun K hK=>AW.region (by kernel_rfl) ?_
  simp -implicitDefEqProofs only[go_sem,seval,↓reduceIte,hg,encSg_K]
  refine CallA.pure hG hf.en ?_
  simp only [List.map_cons,hf.rc,← encSg_K,recol_sg]
  refine (hf.sp x).mono ?_
  rintro _ _ rfl
  simp -implicitDefEqProofs only[go_sem,seval,↓reduceIte]
  refine hK _ ?_
  clear hK K
  refine AW.condS (by simp -implicitDefEqProofs only[go_sem,seval,↓reduceIte];rfl) (fun h6=>?_) (fun h6=>?_)
  ·refine AW.seq_k fun K hK=>AW.region (by kernel_rfl) ?_
   simp -implicitDefEqProofs only[go_sem,seval,↓reduceIte]
   refine hK _ ?_
   clear hK K
   refine AW.ret ?_
   simp -implicitDefEqProofs only[go_sem,seval,↓reduceIte]
   refine endK_some ?_
   rw [idxP_take hg hR h6]
  ·refine AW.skip ?_
   simp -implicitDefEqProofs only[go_sem,seval,↓reduceIte]
   refine hK5 _ ?_
   refine AW.region (by kernel_rfl) ?_
   simp -implicitDefEqProofs only[go_sem,seval,↓reduceIte]
   refine hL2 _ ⟨hk1,(),take_all hg hR h6,Weak.st (by simp -implicitDefEqProofs only[go_sem,seval,↓reduceIte];exact congrArg _ (w64 (by omega) (by omega))) (by simp -implicitDefEqProofs only[go_sem,seval,↓reduceIte])⟩
 ·have hk1:k=s.l.length:=by simp at h4;omega
  refine AW.exit ?_
  simp -implicitDefEqProofs only[go_sem,seval,↓reduceIte]
  refine hK1 _ ?_
  refine AW.seq_k fun K hK=>AW.region (by kernel_rfl) ?_
  simp -implicitDefEqProofs only[go_sem,seval,↓reduceIte]
  refine hK _ ?_
  clear hK K
  refine AW.ret ?_
  simp -implicitDefEqProofs only[go_sem,seval,↓reduceIte]
  refine endK_some ?_
  rw [hk1,List.take_length] at hR
  rw [idxP_none hR]
theorem xOf1_spec (G:Nat→V) (hG:GOk G) (t:List UInt8) (p:Int) (s:Sg):Spec Tryz.prog G 147 [encSg s,.view .old (.str t),.view .old (.int .i64 p)] hNone (fun v _=>v = .bool (sgIs t p s)):=by
 refine Spec.of_code' 0 20 [.tmp 4] Tryz.func147 rfl rfl rfl rfl fun X=>?_
 simp only [encSg_K]
 refine AW.seq_k fun K hK=>AW.region (by kernel_rfl) ?_
 simp -implicitDefEqProofs only[go_sem,seval,↓reduceIte]
 intro g3
 refine hK _ ?_
 clear hK K
 unfold sgIs
 cases h1:(s.text==t)<;>cases h2:(s.parts==p)<;>cases h3:(s.text==[])<;>((refine AW.seq_k fun K hK=>AW.region (by kernel_rfl) ?_;simp -implicitDefEqProofs only[go_sem,seval,↓reduceIte,bne,h1,h2,h3];refine hK _ ?_;clear hK K);(refine AW.ret ?_;simp -implicitDefEqProofs only[go_sem,seval,↓reduceIte];refine endK_some ?_);rfl)
theorem fOf1 {G:Nat→V} (hG:GOk G) (t:List UInt8) (p:Int):FnG G 147 [.view .old (.str t),.view .old (.int .i64 p)] (sgIs t p):=⟨by kernel_rfl,rfl,xOf1_spec G hG t p⟩
theorem idxP_ofI (t:List UInt8) (p:Int):idxP (sgIs t p) tabL=match ofI t p with | some i=>(i:Int) | none => -1:=rfl
def encOf (o:Nat × Bool):V := .tuple [.int .u8 o.1,.bool o.2]
theorem ofI_lt {t:List UInt8} {p:Int} {i:Nat} (h:ofI t p=some i):i<23:=(List.findIdx?_eq_some_iff_getElem.1 h).1
theorem xOf_spec (G:Nat→V) (hG:GOk G) (t:List UInt8) (p:Int):Spec Tryz.prog G 116 [.str t,.int .i64 p] hNone (fun v _=>v=encOf (ofP t p)):=by
 refine Spec.of_code' 0 17 [.tmp 4,.tmp 5] Tryz.func116 rfl rfl rfl rfl fun X=>?_
 refine AW.seq_k fun K hK=>AW.region (by kernel_rfl) ?_
 simp -implicitDefEqProofs only[go_sem,seval,↓reduceIte]
 intro g2 g3
 refine hK _ ?_
 clear hK K
 refine AW.seq_k fun K hK=>AW.region (by kernel_rfl) ?_
 simp -implicitDefEqProofs only[go_sem,seval,↓reduceIte]
 refine CallA.pure hG (by kernel_rfl) ?_
 simp -implicitDefEqProofs only[go_sem,seval,↓reduceIte,List.map_nil]
 refine (xTable_spec G hG).mono ?_
 rintro _ _ rfl
 simp -implicitDefEqProofs only[go_sem,seval,↓reduceIte,tabC_rc,tabC_len,Nat.le_refl]
 intro g6
 rw [setAt_tab _ ?hl]
 case hl=>rfl
 refine hK _ ?_
 clear hK K
 refine AW.seq_k fun K hK=>AW.regionAt 0 (by kernel_rfl) rfl rfl ?_
 simp -implicitDefEqProofs only[go_sem,seval,↓reduceIte,List.take_zero]
 refine ⟨_,Gives.slicePtr Tryz.underlying100 (by kernel_rfl) (ob:=6) (g:=g6) (m:=3) (c := .new) (fz:=0) (cs:=tabC) (by simp -implicitDefEqProofs only[go_sem,seval,↓reduceIte]) (by simp -implicitDefEqProofs only[go_sem,seval,↓reduceIte]) (by decide),?_⟩
 refine CallA.bor hG [encSl .old 3 encSg (.mk false tabL),.func (.func 147) [] [.view .old (.str t),.view .old (.int .i64 p)]] (by kernel_rfl) ⟨?_,Rd.funcL ⟨?_,?_,trivial⟩,trivial⟩ ?_
 ·exact Rd.msl (off:=0) (n:=23) (l:=tabL) (f:=encSg) (f':=encSg) (g:=g6) (fz:=0) (c := .new) (by simp -implicitDefEqProofs only[go_sem,seval,↓reduceIte];rfl) encSg_cells (fun x y hy=>by
   simp only [encSg_K,V.cells,List.mem_cons,List.not_mem_nil,or_false] at hy
   rcases hy with rfl | rfl | rfl
   ·exact .str _
   ·exact .int _ _
   ·exact .int _ _) (recol_sg _) (by decide)
 ·exact Rd.ptr (v := .str t) (c := .new) (fz:=0) (by simp -implicitDefEqProofs only[go_sem,seval,↓reduceIte];try rfl) (by intro y hy;simp [V.cells] at hy;subst hy;exact .str _) (by simp -implicitDefEqProofs only[go_sem,seval,↓reduceIte])
 ·exact Rd.ptr (v := .int .i64 p) (c := .new) (fz:=0) (by simp -implicitDefEqProofs only[go_sem,seval,↓reduceIte];try rfl) (by intro y hy;simp [V.cells] at hy;subst hy;exact .int _ _) (by simp -implicitDefEqProofs only[go_sem,seval,↓reduceIte])
 refine (sIndexFuncG_spec G hG _ (.mk false tabL) (by decide) (fOf1 hG t p)).mono ?_
 rintro _ _ rfl
 refine ⟨.int _ _,?_⟩
 simp -implicitDefEqProofs only[go_sem,seval,↓reduceIte]
 refine hK _ ?_
 clear hK K
 have hI:=idxP_ofI t p
 unfold ofP
 show AW _ _ _ _ { τ := upd _ 7 (.int .i64 (idxP (sgIs t p) tabL)),H:=_ }
 rw [hI]
 cases ho:ofI t p with
 | none =>
  refine AW.seq_k fun K hK=>AW.region (by kernel_rfl) ?_
  simp -implicitDefEqProofs only[go_sem,seval,↓reduceIte]
  refine hK _ ?_
  clear hK K
  refine AW.ret ?_
  simp -implicitDefEqProofs only[go_sem,seval,↓reduceIte]
  refine endK_some ?_
  rfl
 | some i =>
  have hi:=ofI_lt ho
  refine AW.weak (Weak.st (l:=[(7,.int .i64 i)]) (m:=[]) (by simp -implicitDefEqProofs only[go_sem,seval,↓reduceIte]) (by simp -implicitDefEqProofs only[go_sem,seval,↓reduceIte])) ?_
  have h0:((0:Int) > (i:Int))=False:=by rw [eq_iff_iff,iff_false];omega
  have hw:IntKind.u8.wrap (i:Int)=i:=by
   unfold IntKind.wrap
   simp [IntKind.signed,IntKind.bits];omega
  have h1:decide ((i:Int)≥0)=true:=by rw [decide_eq_true_iff];omega
  refine AW.seq_k fun K hK=>AW.region (by kernel_rfl) ?_
  simp -implicitDefEqProofs only[go_sem,seval,↓reduceIte,h0,hw,h1]
  refine hK _ ?_
  clear hK K
  refine AW.ret ?_
  simp -implicitDefEqProofs only[go_sem,seval,↓reduceIte]
  refine endK_some ?_
  rfl
end Go.Hs
end

section
namespace Go.Hs
open Go.Proofs
set_option maxRecDepth 10000
def encXN (n:XN):V := .agg [.int .u8 n.op,.int .i64 n.num,.str n.name,.int .i64 n.a,.int .i64 n.b,.int .i64 n.c]
theorem encXN_K (n:XN):encXN n = .agg [.int .u8 n.op,.int .i64 n.num,.str n.name,.int .i64 n.a,.int .i64 n.b,.int .i64 n.c]:=rfl
theorem encXN_cells (n:XN):(encXN n).cells.length=6:=rfl
theorem encTk_K (t:Tk):encTk t = .agg [.int .u8 t.kind,.str t.text,.int .i64 t.pos]:=rfl
theorem recol_xn (f:Col→Col) (n:XN):(encXN n).recol f=encXN n:=by simp only [encXN_K,recol_agg,List.map_cons,List.map_nil,recol_int,recol_str]
theorem recol_tk (f:Col→Col) (t:Tk):(encTk t).recol f=encTk t:=by simp only [encTk_K,recol_agg,List.map_cons,List.map_nil,recol_int,recol_str]
@[go_sem] theorem recol_tks (g:Col→Col) (c:Col) (s:Sl Tk):(encSl c 3 encTk s).recol g=encSl (g c) 3 encTk s:=recol_enc g c 3 (recol_tk g) s
@[go_sem] theorem recol_xns (g:Col→Col) (c:Col) (s:Sl XN):(encSl c 6 encXN s).recol g=encSl (g c) 6 encXN s:=recol_enc g c 6 (recol_xn g) s
def rdO (NO:Nat) (tl:List V) (sl:Sl Tk) (g gx:Nat) (r:RS):AObj := .cells .any g 0 (encSl .any 3 encTk sl :: .int .i64 r.i::grown NO gx 6 r.nodes :: .int .i64 r.e::tl)
def ndO (gx:Nat) (ns:List XN):AObj:=grownC .any gx encXN ns
theorem rdO_K (NO:Nat) (tl:List V) (sl:Sl Tk) (g gx:Nat) (r:RS):rdO NO tl sl g gx r = .cells .any g 0 (encSl .any 3 encTk sl :: .int .i64 r.i::grown NO gx 6 r.nodes :: .int .i64 r.e::tl):=rfl
def RdS (NO:Nat) (tl:List V) (G:Nat→V) (f:FuncId) (args:List V) (sl:Sl Tk) (g:Nat) (r:RS) (v:V) (r':RS):Prop :=
 ∀ gx,Spec Tryz.prog G f (.ptr 8 g 0::args) (sets hNone [(8,rdO NO tl sl g gx r),(NO,ndO gx r.nodes)]) (fun v0 H'=>v0=v∧∃ gx',H' 8=rdO NO tl sl g gx' r'∧H' NO=ndO gx' r'.nodes)
theorem RdS.call {NO:Nat} {tl:List V} {G:Nat→V} (hG:GOk G) {f:FuncId} {args args':List V} {sl:Sl Tk} {g gx:Nat} {r r':RS} {v:V} (h:RdS NO tl G f args' sl g r v r') {H:Heap} {K:V→Heap→Prop}
  (hen:enterable Tryz.prog f=true) (htl:∀ F:Col→Col,tl.map (V.recol F)=tl) (hne:8≠NO) (hargs:args.map (V.recol Col.ent)=args') (hv:v.recol Col.bk=v)
  (h8:H 8=rdO NO tl sl g gx r) (hN:H NO=ndO gx r.nodes)
  (hk:∀ gx',K v (sets H [(8,rdO NO tl sl g gx' r'),(NO,ndO gx' r'.nodes)])) :
  CallA Tryz.prog G f (.ptr 8 g 0::args) H K:=by
 have e8:∀ (F:Col→Col) gx r,F .any = .any→(rdO NO tl sl g gx r).recol F=rdO NO tl sl g gx r:=by
  intro F gx r hF
  simp only [rdO_K,recol_cells,List.map_cons,recol_grown,recol_tks,recol_int,hF,htl]
 have eN:∀ (F:Col→Col) gx ns,F .any = .any→(ndO gx ns).recol F=ndO gx ns:=by
  intro F gx ns hF
  rw [ndO,grownC_recol F .any gx encXN encXN (recol_xn F),hF]
 refine CallA.hand hG [(8,rdO NO tl sl g gx r),(NO,ndO gx r.nodes)] hen ?_ ?_
 ·intro p hp
  simp only [List.mem_cons,List.not_mem_nil,or_false] at hp
  rcases hp with rfl | rfl
  ·rw [h8,e8 _ _ _ rfl]
  ·rw [hN,eN _ _ _ rfl]
 ·have ha:(V.ptr 8 g 0::args).map (V.recol Col.ent) = .ptr 8 g 0::args':=by rw [List.map_cons,recol_ptr,hargs]
  rw [ha]
  refine (h gx).mono ?_
  rintro _ H' ⟨rfl,gx',q8,qN⟩
  simp only [List.map_cons,List.map_nil,q8,qN,e8 _ _ _ bk_any,eN _ _ _ bk_any,hv]
  exact hk gx'
structure TkOk (l:List Tk):Prop where
 len:l.length<100000
 text:∀ t∈l,t.text.length<100000
theorem nextP_some {l:List Tk} {i:Nat} {t:Tk} (h:l[i]? = some t):nextP l i=if (isP t.text:Int)=t.kind then t else ⟨0,[],0⟩:=by unfold nextP;rw [h]
theorem nextP_none {l:List Tk} {i:Nat} (h:l.length≤i):nextP l i=⟨0,[],0⟩:=by unfold nextP;rw [List.getElem?_eq_none h]
theorem xNext_spec (G:Nat→V) (hE:GExp G) (sl:Sl Tk) (hT:TkOk sl.l) (g:Nat) (r:RS) (hr:r.i<1000000):RdS 1031 [.func (.func 78) [] []] G 115 [] sl g r (encTk (nextP sl.l r.i)) r:=by
 have hG:=hE.ok
 intro gx
 refine Spec.of_code' 1000 50 [.cell 2 121] Tryz.func115 rfl rfl rfl rfl fun X=>?_
 simp only [sets,rdO_K]
 refine AW.seq_k fun K hK=>AW.region (by kernel_rfl) ?_
 simp -implicitDefEqProofs only[go_sem,seval,↓reduceIte]
 intro g2
 refine hK _ ?_
 clear hK K
 refine AW.seq_k fun K1 hK1=>?_
 by_cases hi:r.i<sl.l.length
 ·have h1:decide ((r.i:Int)<sl.l.length)=true:=by rw [decide_eq_true_iff];omega
  have hg:=List.getElem?_eq_getElem hi
  have hm:=hT.text _ (List.getElem_mem hi)
  generalize sl.l[r.i]=t at hg hm
  have hP:=nextP_some hg
  have p1:PureC Tryz.prog G 64 [.str t.text] (.int .u8 (isP t.text)):=⟨by kernel_rfl,by
   simp -implicitDefEqProofs only[go_sem,seval,↓reduceIte]
   refine (lIs_spec G hE t.text hm).mono ?_
   rintro _ _ rfl
   rfl⟩
  by_cases hk:(isP t.text:Int)=t.kind
  ·rw [if_pos hk] at hP
   have e1:((isP t.text:Int)==t.kind)=true:=by simpa using hk
   refine AW.seq_k fun K hK=>AW.regionT ⟨fun i=>if i=22 then .int .u8 (isP t.text) else .top,fun _ => .pure⟩ (by kernel_rfl) hG (by kernel_rfl) (by kernel_rfl) ?_
   simp -implicitDefEqProofs only[go_sem,seval,↓reduceIte,h1,hg,encTk_K,e1]
   refine ⟨p1,?_⟩
   refine hK _ ?_
   clear hK K
   refine AW.condS (by simp -implicitDefEqProofs only[go_sem,seval,↓reduceIte];rfl) (fun h2=>?_) (fun h2=>?_)
   ·refine AW.seq_k fun K hK=>AW.regionT ⟨fun _ => .top,fun _ => .pure⟩ (by kernel_rfl) hG (by kernel_rfl) (by kernel_rfl) ?_
    simp -implicitDefEqProofs only[go_sem,seval,↓reduceIte,hg,encTk_K]
    refine hK _ ?_
    clear hK K
    refine AW.ret ?_
    simp -implicitDefEqProofs only[go_sem,seval,↓reduceIte]
    refine endK_some ?_
    exact ⟨by rw [hP];rfl,gx,by simp -implicitDefEqProofs only[go_sem,seval,↓reduceIte],by simp -implicitDefEqProofs only[go_sem,seval,↓reduceIte]⟩
   ·cases h2
  ·rw [if_neg hk] at hP
   have e1:((isP t.text:Int)==t.kind)=false:=by simpa using hk
   refine AW.seq_k fun K hK=>AW.regionT ⟨fun i=>if i=22 then .int .u8 (isP t.text) else .top,fun _ => .pure⟩ (by kernel_rfl) hG (by kernel_rfl) (by kernel_rfl) ?_
   simp -implicitDefEqProofs only[go_sem,seval,↓reduceIte,h1,hg,encTk_K,e1]
   refine ⟨p1,?_⟩
   refine hK _ ?_
   clear hK K
   refine AW.condS (by simp -implicitDefEqProofs only[go_sem,seval,↓reduceIte];rfl) (fun h2=>?_) (fun h2=>?_)
   ·cases h2
   ·refine AW.skip ?_
    simp -implicitDefEqProofs only[go_sem,seval,↓reduceIte]
    refine hK1 _ ?_
    refine AW.seq_k fun K hK=>AW.region (by kernel_rfl) ?_
    simp -implicitDefEqProofs only[go_sem,seval,↓reduceIte]
    refine hK _ ?_
    clear hK K
    refine AW.ret ?_
    simp -implicitDefEqProofs only[go_sem,seval,↓reduceIte]
    refine endK_some ?_
    exact ⟨by rw [hP];rfl,gx,by simp -implicitDefEqProofs only[go_sem,seval,↓reduceIte],by simp -implicitDefEqProofs only[go_sem,seval,↓reduceIte]⟩
 ·have h1:decide ((r.i:Int)<sl.l.length)=false:=by rw [decide_eq_false_iff_not];omega
  have hP:=nextP_none (l:=sl.l) (i:=r.i) (by omega)
  refine AW.seq_k fun K hK=>AW.regionT ⟨fun _ => .top,fun _ => .pure⟩ (by kernel_rfl) hG (by kernel_rfl) (by kernel_rfl) ?_
  simp -implicitDefEqProofs only[go_sem,seval,↓reduceIte,h1]
  refine hK _ ?_
  clear hK K
  refine AW.condS (by simp -implicitDefEqProofs only[go_sem,seval,↓reduceIte];rfl) (fun h2=>?_) (fun h2=>?_)
  ·cases h2
  ·refine AW.skip ?_
   simp -implicitDefEqProofs only[go_sem,seval,↓reduceIte]
   refine hK1 _ ?_
   refine AW.seq_k fun K hK=>AW.region (by kernel_rfl) ?_
   simp -implicitDefEqProofs only[go_sem,seval,↓reduceIte]
   refine hK _ ?_
   clear hK K
   refine AW.ret ?_
   simp -implicitDefEqProofs only[go_sem,seval,↓reduceIte]
   refine endK_some ?_
   exact ⟨by rw [hP];rfl,gx,by simp -implicitDefEqProofs only[go_sem,seval,↓reduceIte],by simp -implicitDefEqProofs only[go_sem,seval,↓reduceIte]⟩
theorem xLast_spec (G:Nat→V) (hG:GOk G) (sl:Sl Tk) (g:Nat) (r:RS) (hr:r.nodes.length<1000000):RdS 1031 [.func (.func 78) [] []] G 117 [] sl g r (.int .i64 r.last) r:=by
 intro gx
 refine Spec.of_code' 1000 9 [.tmp 2] Tryz.func117 rfl rfl rfl rfl fun X=>?_
 simp only [sets,rdO_K]
 refine AW.seq_k fun K hK=>AW.region (by kernel_rfl) ?_
 simp -implicitDefEqProofs only[go_sem,seval,↓reduceIte]
 refine hK _ ?_
 clear hK K
 refine AW.seq_k fun K hK=>AW.region (by kernel_rfl) ?_
 simp -implicitDefEqProofs only[go_sem,seval,↓reduceIte]
 refine hK _ ?_
 clear hK K
 refine AW.ret ?_
 simp -implicitDefEqProofs only[go_sem,seval,↓reduceIte]
 refine endK_some ?_
 exact ⟨by rw [w64 (by omega) (by omega)];rfl,gx,by simp -implicitDefEqProofs only[go_sem,seval,↓reduceIte],by simp -implicitDefEqProofs only[go_sem,seval,↓reduceIte]⟩
theorem setAt_places {l:List Int} (h:l.length≤3):setAt [V.int .i64 (-1),V.int .i64 (-1),V.int .i64 (-1)] 0 (l.map (V.int .i64))=[V.int .i64 (l.getD 0 (-1)),V.int .i64 (l.getD 1 (-1)),V.int .i64 (l.getD 2 (-1))]:=by
 match l,h with
 | [],_=>rfl
 | [_],_=>rfl
 | [_,_],_=>rfl
 | [_,_,_],_=>rfl
theorem flat_intsV (k:IntKind) (l:List Int):flat (l.map (V.int k))=l.map (V.int k):=by
 induction l with
 | nil=>rfl
 | cons x r ih=>unfold flat at ih ⊢;rw [List.map_cons,List.flatMap_cons,ih];rfl
def putAt (n:XN) (ps:List Int):XN:={ n with a:=ps.getD 0 (-1),b:=ps.getD 1 (-1),c:=ps.getD 2 (-1) }
theorem xPut_spec (G:Nat→V) (hG:GOk G) (sl:Sl Tk) (g:Nat) (r:RS) (hr:r.nodes.length<1000000) (n:XN) (c:Col) (ps:Sl Int) (hps:ps.l.length≤3) :
  RdS 1031 [.func (.func 78) [] []] G 118 [encXN n,encSl c 1 (V.int .i64) ps] sl g r (.bool true) (r.put (putAt n ps.l)):=by
 intro gx
 refine Spec.of_code' 1000 34 [.tmp 6] Tryz.func118 rfl rfl rfl rfl fun X=>?_
 simp only [sets,rdO_K,encXN_K]
 refine AW.seq_k fun K hK=>AW.region (by kernel_rfl) ?_
 simp -implicitDefEqProofs only[go_sem,seval,↓reduceIte]
 intro g4
 refine hK _ ?_
 clear hK K
 refine AW.seq_k fun K hK=>AW.region (by kernel_rfl) ?_
 simp -implicitDefEqProofs only[go_sem,seval,↓reduceIte]
 intro g8
 refine hK _ ?_
 clear hK K
 refine AW.seq_k fun K hK=>AW.regionE 2 (by kernel_rfl) rfl rfl ?_
 simp -implicitDefEqProofs only[go_sem,seval,↓reduceIte,List.take_succ_cons,List.take_zero]
 refine ⟨_,_,GivesE.copy Tryz.underlying104 (by kernel_rfl) (ob:=1008) (g:=g8) (m:=1) (len:=3) (cs:=[.int .i64 (-1),.int .i64 (-1),.int .i64 (-1)]) (c := .new) (fz:=0) (off:=0) (n:=ps.l.length) (xc:=ps.l.map (V.int .i64)) (by simp -implicitDefEqProofs only[go_sem,seval,↓reduceIte]) (by simp -implicitDefEqProofs only[go_sem,seval,↓reduceIte]) (by simp -implicitDefEqProofs only[go_sem,seval,↓reduceIte];exact congrArg (fun x=>some (ps.l.length,x)) (flat_intsV _ _)) hps (Nat.le_refl _) (by simp;omega),?_⟩
 rw [setAt_places hps]
 simp -implicitDefEqProofs only[go_sem,seval,↓reduceIte,List.drop_succ_cons,List.drop_zero]
 refine hK _ ?_
 clear hK K
 have hn:putAt n ps.l={ n with a:=ps.l.getD 0 (-1),b:=ps.l.getD 1 (-1),c:=ps.l.getD 2 (-1) }:=rfl
 generalize ps.l.getD 0 (-1)=x0 at hn ⊢
 generalize ps.l.getD 1 (-1)=x1 at hn ⊢
 generalize ps.l.getD 2 (-1)=x2 at hn ⊢
 refine AW.weak (Weak.stF (fun o=>o==1008) (l:=[(0,.ptr 8 g 0),(4,.ptr 1004 g4 0),(7,.slice .new false 1 [.int .i64 x0,.int .i64 x1,.int .i64 x2])])
  (m:=[(8,rdO 1031 [.func (.func 78) [] []] sl g gx r),(1031,ndO gx r.nodes),(1004,.cells .new g4 0 [.int .u8 n.op,.int .i64 n.num,.str n.name,.int .i64 n.a,.int .i64 n.b,.int .i64 n.c])]) ?_ ?_) ?_
 ·simp -implicitDefEqProofs only[go_sem,seval,↓reduceIte]
  refine ⟨Fz.same _,Fz.same _,?_⟩
  exact Fz.sl (f:=V.int .i64) (l:=[x0,x1,x2]) (m:=1) (g:=g8) (fz:=0) (c := .new) rfl (by simp -implicitDefEqProofs only[go_sem,seval,↓reduceIte];rfl) (fun _=>rfl)
 ·simp only [allFzO_cons,allFzO_nil,and_true]
  exact ⟨FzO.keep rfl (by simp -implicitDefEqProofs only[go_sem,seval,↓reduceIte];rfl),FzO.keep rfl (by simp -implicitDefEqProofs only[go_sem,seval,↓reduceIte]),FzO.keep rfl (by simp -implicitDefEqProofs only[go_sem,seval,↓reduceIte])⟩
 refine AW.seq_k fun K hK=>AW.regionT ⟨fun _ => .top,fun i=>if i=2 then .lend else if i=5 then .lend else if i=8 then .lend else .pure⟩ (by kernel_rfl) hG (by kernel_rfl) (by kernel_rfl) ?_
 simp -implicitDefEqProofs only[go_sem,seval,↓reduceIte,rdO_K]
 refine hK _ ?_
 clear hK K
 refine AW.later ?_
 refine AW.seq_k fun K hK=>AW.regionT ⟨fun _ => .top,fun _ => .pure⟩ (by kernel_rfl) hG (by kernel_rfl) (by kernel_rfl) ?_
 simp -implicitDefEqProofs only[go_sem,seval,↓reduceIte]
 intro g30
 refine app_grownC (f:=encXN) (l:=r.nodes) (l2:=[putAt n ps.l]) (g:=gx) encXN_cells rfl (by rw [hn];rfl) rfl (by simp -implicitDefEqProofs only[go_sem,seval,↓reduceIte];rfl) (roomOk_of (by omega) (by simp;omega)) fun c2 g2=>?_
 simp -implicitDefEqProofs only[go_sem,seval,↓reduceIte]
 refine hK _ ?_
 clear hK K
 refine AW.seq_k fun K hK=>AW.region (by kernel_rfl) ?_
 simp -implicitDefEqProofs only[go_sem,seval,↓reduceIte]
 refine hK _ ?_
 clear hK K
 refine AW.ret ?_
 simp -implicitDefEqProofs only[go_sem,seval,↓reduceIte]
 refine ⟨st [(6,.bool true)] [(8,rdO 1031 [.func (.func 78) [] []] sl g g2 (r.put (putAt n ps.l))),(1031,ndO g2 (r.nodes++[putAt n ps.l]))],Weak.stF (fun _=>false) ?_ ?_,?_⟩
 ·simp -implicitDefEqProofs only[go_sem,seval,↓reduceIte]
  exact Fz.same _
 ·simp only [allFzO_cons,allFzO_nil,and_true]
  exact ⟨FzO.keep rfl (by simp -implicitDefEqProofs only[go_sem,seval,↓reduceIte];rfl),FzO.grownC (c:=c2) rfl (by simp -implicitDefEqProofs only[go_sem,seval,↓reduceIte])⟩
 ·simp -implicitDefEqProofs only[go_sem,seval,↓reduceIte]
  exact endK_some ⟨rfl,g2,by simp -implicitDefEqProofs only[go_sem,seval,↓reduceIte];rfl,by simp -implicitDefEqProofs only[go_sem,seval,↓reduceIte];rfl⟩
end Go.Hs
end
