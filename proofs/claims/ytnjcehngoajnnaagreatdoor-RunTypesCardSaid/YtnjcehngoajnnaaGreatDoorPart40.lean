/- Part 40 of the proof of a statement of seat YtnjcehngoajnnaaGreatDoor: HsExprLaw HsGExprOf HsGExpr1 HsExprBal HsExprTree HsExprGram HsGExpr2 HsGExpr3 HsGExpr4 HsExprRef HsGExprDep HsGExprDep2 HsGExprDep4 HsExprNm HsExprP HsGExprFr HsGExprPa HsActLaw HsGActR HsExprSub HsTypLaw HsGTypR HsGTypK. -/
import Derived.Test.YtnjcehngoajnnaaGreatDoorPart34
import Derived.Test.YtnjcehngoajnnaaGreatDoorPart38
import Derived.Test.YtnjcehngoajnnaaGreatDoorPart39
set_option linter.unusedSimpArgs false
set_option linter.unusedVariables false
section
namespace Go.Hs
open Go
structure XN where
 op:Int
 num:Int
 name:List UInt8
 a:Int
 b:Int
 c:Int
 deriving DecidableEq,Inhabited
structure Sg where
 text:List UInt8
 level:Int
 parts:Int
 deriving DecidableEq,Inhabited
def tabL:List Sg:=[⟨[],0,0⟩,⟨[],10,0⟩,⟨[],10,0⟩,⟨[116,114,117,101],10,0⟩,⟨[102,97,108,115,101],10,0⟩,⟨[45],9,1⟩,⟨[110,111,116],9,1⟩,
 ⟨[42],8,2⟩,⟨[100,105,118],8,2⟩,⟨[109,111,100],8,2⟩,⟨[43],7,2⟩,⟨[45],7,2⟩,⟨[60],6,2⟩,⟨[60,61],6,2⟩,⟨[62],6,2⟩,⟨[62,61],6,2⟩,⟨[61],5,2⟩,⟨[60,62],5,2⟩,
 ⟨[97,110,100],4,2⟩,⟨[111,114],3,2⟩,⟨[120,111,114],2,2⟩,⟨[105,109,112,108,105,101,115],1,2⟩,⟨[105,102],10,3⟩]
def sgIs (t:List UInt8) (p:Int) (s:Sg):Bool:=s.text==t && s.parts==p && !(s.text==[])
def ofI (t:List UInt8) (p:Int):Option Nat:=tabL.findIdx? (sgIs t p)
def ofP (t:List UInt8) (p:Int):Nat × Bool:=match ofI t p with | some i=>(i,true) | none=>(0,false)
def lvl (op:Nat):Int:=(tabL.getD op ⟨[],0,0⟩).level
theorem Zdl {t:List UInt8} {p:Int} {i:Nat} (h:ofI t p=some i):∃ s,tabL[i]? = some s∧s.text=t∧s.parts=p∧t≠[]:=by
 obtain ⟨h1,h2,_⟩:=List.findIdx?_eq_some_iff_getElem.1 h;refine ⟨tabL[i],List.getElem?_eq_getElem h1,?_⟩;unfold sgIs at h2;simp only [Bool.and_eq_true,beq_iff_eq,Bool.not_eq_true',beq_eq_false_iff_ne] at h2;exact ⟨h2.1.1,h2.1.2,by rw [← h2.1.1];exact h2.2⟩
theorem ofI_one {t:List UInt8} {i:Nat} (h:ofI t 1=some i):t=[45]∧i=5∨t=[110,111,116]∧i=6:=by
 obtain ⟨s,h1,h2,h3,_⟩:=Zdl h
 have hi:i<23:=by rw [List.getElem?_eq_some_iff] at h1;exact h1.1
 have key:∀ i,i<23→∀ s,tabL[i]? = some s→s.parts=1→s.text=[45]∧i=5∨s.text=[110,111,116]∧i=6:=by
  intro i hi s h1 h3
  have:∀ i,i<23→(tabL[i]?.map (·.parts))=some 1→(tabL[i]?.map (·.text))=some [45]∧i=5∨(tabL[i]?.map (·.text))=some [110,111,116]∧i=6:=by decide +kernel
  have:=this i hi (by rw [h1];simp [h3]);rw [h1] at this;simpa using this
 rw [← h2];exact key i hi s h1 h3
theorem Znp {t:List UInt8} {i:Nat} (h:ofI t 0=some i):t=[116,114,117,101]∧i=3∨t=[102,97,108,115,101]∧i=4:=by
 obtain ⟨s,h1,h2,h3,h4⟩:=Zdl h
 have hi:i<23:=by rw [List.getElem?_eq_some_iff] at h1;exact h1.1
 have key:∀ i,i<23→∀ s,tabL[i]? = some s→s.parts=0→s.text≠[]→s.text=[116,114,117,101]∧i=3∨s.text=[102,97,108,115,101]∧i=4:=by
  intro i hi s h1 h3
  have:((List.range 23).all fun i=>match tabL[i]? with | some s => !(s.parts==0) || s.text==[] || (s.text==[116,114,117,101] && i==3) || (s.text==[102,97,108,115,101] && i==4) | none=>true)=true:=by decide +kernel
  have:=List.all_eq_true.1 this i (List.mem_range.2 hi);intro h4;rw [h1] at this;simp only [h3,Bool.or_eq_true,Bool.and_eq_true,beq_iff_eq,h4,or_false] at this;simpa using this
 rw [← h2];exact key i hi s h1 h3 (by rw [h2];exact h4)
theorem Zg2 {t:List UInt8} {i:Nat} (h:ofI t 2=some i):7≤i∧i≤21∧1≤lvl i∧lvl i≤8∧isP t≠0:=by
 obtain ⟨s,h1,h2,h3,_⟩:=Zdl h
 have hi:i<23:=by rw [List.getElem?_eq_some_iff] at h1;exact h1.1
 have key:∀ i,i<23→(tabL[i]?.map (·.parts))=some 2→7≤i∧i≤21∧1≤lvl i∧lvl i≤8∧(tabL[i]?.map fun s=>isP s.text)≠some 0:=by decide +kernel
 have:=key i hi (by rw [h1];simp [h3]);rw [h1] at this;rw [← h2];simpa using this
def Z5 (l:List Tk) (i:Nat):Tk:=match l[i]? with
 | some t=>if (isP t.text:Int)=t.kind then t else ⟨0,[],0⟩
 | none=>⟨0,[],0⟩
theorem Zel (l:List Tk) (i:Nat):(isP (Z5 l i).text:Int)=(Z5 l i).kind:=by
 unfold Z5
 split
 ·split
  ·assumption
  ·rfl
 ·rfl
theorem Zxe {l:List Tk} {i:Nat} (h:(Z5 l i).kind≠0):i<l.length:=by
 rw [← Nat.not_le];intro h2;apply h;unfold Z5;rw [List.getElem?_eq_none h2]
structure RS where
 i:Nat
 nodes:List XN
 e:Int
 deriving DecidableEq,Inhabited
def RS.put (r:RS) (n:XN):RS:={ r with nodes:=r.nodes++[n] }
def RS.last (r:RS):Int:=(r.nodes.length:Int)-1
def RS.adv (r:RS):RS:={ r with i:=r.i+1 }
def RS.err (r:RS) (e:Int):RS:={ r with e:=e }
@[simp] theorem Zsj (r:RS) (n:XN):(r.put n).i=r.i:=rfl
@[simp] theorem RS.adv_i (r:RS):r.adv.i=r.i+1:=rfl
@[simp] theorem RS.err_i (r:RS) (e:Int):(r.err e).i=r.i:=rfl
abbrev Inner:=Int→RS→Bool × RS
def andThen (x:Bool × RS) (k:RS→Bool × RS):Bool × RS:=if x.1 then k x.2 else (false,x.2)
theorem Zaa (r:RS) (k:RS→Bool × RS):andThen (true,r) k=k r:=rfl
theorem Z6c (r:RS) (k:RS→Bool × RS):andThen (false,r) k=(false,r):=rfl
theorem Zdq {x:Bool × RS} {k k':RS→Bool × RS} (h:x.1=true→k x.2=k' x.2):andThen x k=andThen x k':=by
 obtain ⟨b,r⟩:=x;cases b
 ·rfl
 ·exact h rfl
def Z7e (l:List Tk) (w:List UInt8) (r:RS):Bool × RS:=if (Z5 l r.i).kind=0∨(Z5 l r.i).text≠w then (false,r.err 80) else (true,r.adv)
def Z0k (r:RS) (op num:Int) (name:List UInt8):Bool × RS:=(true,r.adv.put ⟨op,num,name,-1,-1,-1⟩)
def Z2e (t:List UInt8):List UInt8:=if t.dropWhile (· == 48)=[] then [48] else t.dropWhile (· == 48)
def Zpc (r:RS) (t:List UInt8):Bool × RS:=if (Zlc (Z2e t)).2≠0 then (false,r.err (Zlc (Z2e t)).2) else Z0k r 1 (Zlc (Z2e t)).1 []
def wIf:List UInt8:=[105,102]
def Zpn:List UInt8:=[116,104,101,110]
def Zqn:List UInt8:=[101,108,115,101]
def Zii:List UInt8:=[101,110,100,105,102]
def Zua (l:List Tk) (inner:Inner) (r:RS):Bool × RS :=
 andThen (Z7e l wIf r) fun r1=>andThen (inner 1 r1) fun a=>andThen (Z7e l Zpn a) fun r2=>andThen (inner 1 r2) fun b =>
 andThen (Z7e l Zqn b) fun r3=>andThen (inner 1 r3) fun c=>andThen (Z7e l Zii c) fun r4=>(true,r4.put ⟨22,0,[],a.last,b.last,c.last⟩)
def Zla (l:List Tk) (inner:Inner) (r:RS):Bool × RS :=
 if (Z5 l r.i).kind=1 then Zpc r (Z5 l r.i).text
 else if (Z5 l r.i).kind=2 then Z0k r 2 0 (Z5 l r.i).text
 else if (Z5 l r.i).kind=0 then (false,r.err 80)
 else if (ofP (Z5 l r.i).text 1).2 then andThen (inner 9 r.adv) fun a=>(true,a.put ⟨(ofP (Z5 l r.i).text 1).1,0,[],a.last,-1,-1⟩)
 else if (Z5 l r.i).text=[40] then andThen (inner 1 r.adv) (Z7e l [41])
 else if (Z5 l r.i).text=wIf then Zua l inner r
 else if (ofP (Z5 l r.i).text 0).2∧(Z5 l r.i).kind=3 then Z0k r (ofP (Z5 l r.i).text 0).1 0 []
 else (false,r.err 80)
def Zzi (l:List Tk) (i:Nat):Option Nat:=if (Z5 l i).kind=0 then none else ofI (Z5 l i).text 2
def Z6b (l:List Tk) (inner:Inner) (n:Int):Nat→RS→Bool × RS
 | 0,r=>(true,r)
 | m+1,r=>match Zzi l r.i with
  | none=>(true,r)
  | some op=>if lvl op<n then (true,r) else andThen (inner (lvl op+1) r.adv) fun a=>Z6b l inner n m (a.put ⟨op,0,[],r.last,a.last,-1⟩)
def Zw (l:List Tk):Nat→Inner
 | 0,_,r=>(false,r)
 | f+1,n,r=>andThen (Zla l (Zw l f) r) (Z6b l (Zw l f) n (l.length+1))
def Mono (inner:Inner):Prop:=∀ n r,r.i≤(inner n r).2.i
theorem Zza {x:Bool × RS} {k:RS→Bool × RS} {a:Nat} (h:a≤x.2.i) (hk:∀ r,x.2.i≤r.i→r.i≤(k r).2.i):a≤(andThen x k).2.i:=by
 obtain ⟨b,r⟩:=x;cases b
 ·exact h
 ·exact Nat.le_trans h (hk r (Nat.le_refl _))
theorem Zsg (l:List Tk) (w:List UInt8) (r:RS):r.i≤(Z7e l w r).2.i:=by
 unfold Z7e;split
 ·exact Nat.le_refl _
 ·exact Nat.le_succ _
theorem Z5j (r:RS) (op num:Int) (name:List UInt8):r.i≤(Z0k r op num name).2.i:=Nat.le_succ _
theorem Zss (r:RS) (t:List UInt8):r.i≤(Zpc r t).2.i:=by
 unfold Zpc;split
 ·exact Nat.le_refl _
 ·exact Z5j _ _ _ _
theorem Zzn {l:List Tk} {inner:Inner} (h:Mono inner) (r:RS):r.i≤(Zua l inner r).2.i:=by
 unfold Zua;refine Zza (Zsg _ _ _) fun r1 _=>Zza (h _ _) fun a _=>Zza (Zsg _ _ _) fun r2 _=>Zza (h _ _) fun b _=>Zza (Zsg _ _ _) fun r3 _=>Zza (h _ _) fun c _=>Zza (Zsg _ _ _) fun r4 _=>Nat.le_refl _
theorem Zmw {l:List Tk} {inner:Inner} (h:Mono inner) (r:RS):r.i≤(Zla l inner r).2.i:=by
 have h1:r.i≤r.adv.i:=Nat.le_succ _;unfold Zla
 split
 ·exact Zss _ _
 split
 ·exact Z5j _ _ _ _
 split
 ·exact Nat.le_refl _
 split
 ·exact Zza (Nat.le_trans h1 (h _ _)) fun a _=>Nat.le_refl _
 split
 ·exact Zza (Nat.le_trans h1 (h _ _)) fun a _=>Zsg _ _ _
 split
 ·exact Zzn h r
 split
 ·exact Z5j _ _ _ _
 ·exact Nat.le_refl _
theorem Zlo {l:List Tk} {inner:Inner} (h:Mono inner) (n:Int):∀ (m:Nat) (r:RS),r.i≤(Z6b l inner n m r).2.i
 | 0,r=>Nat.le_refl _
 | m+1,r=>by
  rw [Z6b]
  split
  ·exact Nat.le_refl _
  ·split
   ·exact Nat.le_refl _
   ·exact Zza (Nat.le_trans (Nat.le_succ _) (h _ r.adv)) fun a _=>Zlo h n m (a.put _)
theorem Zvf (l:List Tk):∀ f,Mono (Zw l f)
 | 0=>fun _ _=>Nat.le_refl _
 | f+1=>fun n r=>by
  rw [Zw];exact Zza (Zmw (Zvf l f) r) fun a _=>Zlo (Zvf l f) n _ a
def Zl7 (l:List Tk) (n:Int) (i:Nat):Prop:=∀ op,Zzi l i=some op→lvl op<n
theorem Zyh {l:List Tk} {i op:Nat} (h:Zzi l i=some op):i<l.length:=by
 unfold Zzi at h
 split at h
 ·cases h
 ·exact Zxe (by assumption)
theorem Zno {l:List Tk} {inner:Inner} (h:Mono inner) (n:Int):∀ (m:Nat) (r:RS),l.length<m+r.i→(Z6b l inner n m r).1=true→Zl7 l n (Z6b l inner n m r).2.i
 | 0,r,hm,_=>fun op ho=>by have h2:r.i<l.length:=Zyh ho;omega
 | m+1,r,hm,hb=>by
  rw [Z6b] at hb ⊢
  cases ho:Zzi l r.i with
  | none =>
   intro op h2;have h2:Zzi l r.i=some op:=h2;rw [ho] at h2;cases h2
  | some op =>
   rw [ho] at hb;simp only at hb ⊢
   by_cases hl:lvl op<n
   ·rw [if_pos hl] at hb ⊢
    intro op' h2;have h2:Zzi l r.i=some op':=h2;rw [ho] at h2;cases h2;exact hl
   ·rw [if_neg hl] at hb ⊢
    have h3:=h (lvl op+1) r.adv;generalize inner (lvl op+1) r.adv=x at hb h3 ⊢;obtain ⟨b,a⟩:=x;cases b
    ·cases hb
    ·exact Zno h n m _ (by have:r.i+1≤a.i:=h3;simp only [Zsj];omega) hb
theorem Z8v {l:List Tk} {f:Nat} {n:Int} {r:RS} (hb:(Zw l f n r).1=true):Zl7 l n (Zw l f n r).2.i:=by
 cases f with
 | zero=>cases hb
 | succ f =>
  rw [Zw] at hb ⊢;generalize Zla l (Zw l f) r=x at hb ⊢;obtain ⟨b,a⟩:=x;cases b
  ·cases hb
  ·exact Zno (Zvf l f) n _ a (by omega) hb
theorem Zmp {l:List Tk} {i:Nat}:Zzi l i=ofI (Z5 l i).text 2:=by
 unfold Zzi
 split
 ·rename_i h
  cases ho:ofI (Z5 l i).text 2 with
  | none=>rfl
  | some op =>
   have h1:=(Zg2 ho).2.2.2.2;have h2:=Zel l i;rw [h] at h2;omega
 ·rfl
theorem Zxx {l:List Tk} {i op:Nat} (h:Zzi l i=some op):7≤op∧op≤21∧1≤lvl op∧lvl op≤8:=by
 rw [Zmp] at h;obtain ⟨h1,h2,h3,h4,_⟩:=Zg2 h;exact ⟨h1,h2,h3,h4⟩
theorem isP_dig {t:List UInt8} (h:isP t=1):t≠[]∧t.all Zya=true:=by
 rw [Z3s] at h
 split at h
 ·cases h
 ·match t with
  | []=>cases h
  | c::r =>
   refine ⟨by simp,?_⟩
   rcases Zeq c with hc | ⟨_,hc⟩ | ⟨hc,_⟩
   ·rw [Z6o hc] at h
    split at h
    ·assumption
    ·cases h
   ·rw [Z5o hc] at h
    split at h
    ·split at h<;>cases h
    ·cases h
   ·rw [Z3g hc] at h
    split at h<;>cases h
end Go.Hs
end

section
namespace Go.Hs
open Go.Proofs
set_option maxRecDepth 100000
def Z8j (s:Sg):V := .agg [.str s.text,.int .i64 s.level,.int .i64 s.parts]
theorem Z7j (s:Sg):Z8j s = .agg [.str s.text,.int .i64 s.level,.int .i64 s.parts]:=rfl
theorem Z5v (s:Sg):(Z8j s).cells.length=3:=rfl
def tabC:List V:=flat (tabL.map Z8j)
theorem Zgx (op:Nat) (h:op<23) (k:Nat) (hk:k<3):tabC[op * 3+k]? = ((Z8j (tabL.getD op ⟨[],0,0⟩)).cells)[k]? := by
 match k,hk with
 | 0,_=>exact match op,h with
  | 0,_=>rfl
  | 1,_=>rfl
  | 2,_=>rfl
  | 3,_=>rfl
  | 4,_=>rfl
  | 5,_=>rfl
  | 6,_=>rfl
  | 7,_=>rfl
  | 8,_=>rfl
  | 9,_=>rfl
  | 10,_=>rfl
  | 11,_=>rfl
  | 12,_=>rfl
  | 13,_=>rfl
  | 14,_=>rfl
  | 15,_=>rfl
  | 16,_=>rfl
  | 17,_=>rfl
  | 18,_=>rfl
  | 19,_=>rfl
  | 20,_=>rfl
  | 21,_=>rfl
  | 22,_=>rfl
  | n+23,h=>absurd h (by omega)
 | 1,_=>exact match op,h with
  | 0,_=>rfl
  | 1,_=>rfl
  | 2,_=>rfl
  | 3,_=>rfl
  | 4,_=>rfl
  | 5,_=>rfl
  | 6,_=>rfl
  | 7,_=>rfl
  | 8,_=>rfl
  | 9,_=>rfl
  | 10,_=>rfl
  | 11,_=>rfl
  | 12,_=>rfl
  | 13,_=>rfl
  | 14,_=>rfl
  | 15,_=>rfl
  | 16,_=>rfl
  | 17,_=>rfl
  | 18,_=>rfl
  | 19,_=>rfl
  | 20,_=>rfl
  | 21,_=>rfl
  | 22,_=>rfl
  | n+23,h=>absurd h (by omega)
 | 2,_=>exact match op,h with
  | 0,_=>rfl
  | 1,_=>rfl
  | 2,_=>rfl
  | 3,_=>rfl
  | 4,_=>rfl
  | 5,_=>rfl
  | 6,_=>rfl
  | 7,_=>rfl
  | 8,_=>rfl
  | 9,_=>rfl
  | 10,_=>rfl
  | 11,_=>rfl
  | 12,_=>rfl
  | 13,_=>rfl
  | 14,_=>rfl
  | 15,_=>rfl
  | 16,_=>rfl
  | 17,_=>rfl
  | 18,_=>rfl
  | 19,_=>rfl
  | 20,_=>rfl
  | 21,_=>rfl
  | 22,_=>rfl
  | n+23,h=>absurd h (by omega)
theorem Zf5 (op:Nat) (h:op<23):tabC[op * 3+1]? = some (.int .i64 (lvl op)):=by rw [Zgx op h 1 (by decide)]<;>rfl
theorem Zbp:tabC.length=69:=rfl
theorem Z9u (f:Col→Col):(V.agg tabC).recol f = .agg tabC:=by
 have:Zja f tabC=tabC:=by
  rw [Zm]
  have:∀ v∈tabC,v.recol f=v:=by
   intro v hv;unfold tabC flat at hv;rw [List.mem_flatMap] at hv;obtain ⟨a,ha,hv⟩:=hv;obtain ⟨s,_,rfl⟩:=List.mem_map.1 ha;simp only [Z7j,V.cells,List.mem_cons,List.not_mem_nil,or_false] at hv
   rcases hv with rfl | rfl | rfl<;>rfl
  exact (List.map_congr_left this).trans (List.map_id _)
 rw [V.recol,this]
theorem Zfp:∀ (c l:List V) (off:Nat),off+c.length≤l.length→Hs.setAt l off c=l.take off++c++l.drop (off+c.length)
 | [],l,off,_=>by simp [Hs.setAt]
 | v::r,l,off,h=>by
  simp only [List.length_cons] at h;rw [Hs.setAt,Zfp r (l.set off v) (off+1) (by rw [List.length_set];omega)]
  have h1:(l.set off v).take (off+1)=l.take off++[v]:=by
   rw [List.take_add_one,List.getElem?_set_self (by omega),List.take_set_of_le (Nat.le_refl _)]<;>rfl
  have h2:(l.set off v).drop (off+1+r.length)=l.drop (off+(r.length+1)):=by
   rw [List.drop_set_of_lt (by omega)]
   congr 1;omega
  rw [h1,h2];simp
theorem Zes {l c:List V} (h:c.length=l.length):Hs.setAt l 0 c=c:=by
 rw [Zfp c l 0 (by omega),h];simp
theorem Zvl (l:List V) (h:l.length=69):Hs.setAt l 0 tabC=tabC:=Zes (by rw [h]<;>rfl)
theorem Zuh (G:Nat→V) (hG:GOk G):Spec Tryz.prog G 41 [] Zk (fun v _=>v = .agg tabC):=by
 refine Zo 0 24 [.cell 0 100] Tryz.func41 fun X=>?_;refine Z1 ?_;intro g0;exact Zr
structure FnG (G:Nat→V) (f:FuncId) (cap:List V) (p:Sg→Bool):Prop where
 en:Z2 Tryz.prog f=true
 rc:cap.map (V.recol Col.ent)=cap
 sp:∀ s:Sg,Spec Tryz.prog G f (Z8j s::cap) Zk (fun v _=>v = .bool (p s))
theorem Zvx (f:Col→Col) (s:Sg):(Z8j s).recol f=Z8j s:=by simp only [Z7j,Zag,List.map_cons,List.map_nil,Zce,Z9f]
theorem Zyk (G:Nat→V) (hG:GOk G) (c:Col) (s:Sl Sg) (hs:s.l.length<1000000) {f:FuncId} {cap:List V} {p:Sg→Bool} (hf:FnG G f cap p) :
  Spec Tryz.prog G 146 [Za c 3 Z8j s,.func (.func f) [] cap] Zk (fun v _=>v = .int .i64 (Z7x p s.l)):=by
 refine Zo 0 19 [.tmp 4] Tryz.func146 fun X=>?_;refine Z1 ?_;refine Z1 ?_;refine AW.block ?_
 refine Zpb s.l.length (fun k (_:Unit)=>st [(0,Za c 3 Z8j s),(1,.func (.func f) [] cap),(7,.int .i64 s.l.length),(8,.int .i64 k)] []) (fun k _=>∀ y∈s.l.take k,p y=false) 0 () (Nat.zero_le _) (by simp)
  (Zg zp zp) ?_
 intro k _ hk hR L2 hL2;refine Z1 ?_;refine Z6 ?_;refine Zh rfl (fun h4=>?_) (fun h4=>?_)
 ·have hk1:k<s.l.length:=by simpa using h4
  have hg:=List.getElem?_eq_getElem hk1;generalize s.l[k]=x at hg;refine Z1 ?_;refine Z1f (zi hg @Z7j) ?_;refine CallA.pure hG hf.en ?_;simp only [List.map_cons,hf.rc,← Z7j,Zvx];refine (hf.sp x).mono ?_;rintro _ _ rfl;refine Zs ?_;refine Zh rfl (fun h6=>?_) (fun h6=>?_)
  ·refine Z ?_
   rw [Zdj hg hR h6]
  ·refine Z1 ?_
   refine hL2 _ ⟨hk1,(),Z6k hg hR h6,Zg zw zp⟩
 ·have hk1:k=s.l.length:=by simp at h4;omega
  refine Z ?_;rw [hk1,List.take_length] at hR;rw [Zej hR]
theorem Z70 (G:Nat→V) (hG:GOk G) (t:List UInt8) (p:Int) (s:Sg):Spec Tryz.prog G 147 [Z8j s,.view .old (.str t),.view .old (.int .i64 p)] Zk (fun v _=>v = .bool (sgIs t p s)):=by
 refine Zo 0 20 [.tmp 4] Tryz.func147 fun X=>?_;simp only [Z7j];refine Zu fun K hK=>AW.region (by kernel_rfl) ?_;refine Zs ?_;intro g3;refine hK _ ?_
 try clear hK K
 unfold sgIs
 cases h1:(s.text==t)<;>cases h2:(s.parts==p)<;>cases h3:(s.text==[])<;>((refine Zu fun K hK=>AW.region (by kernel_rfl) ?_;simp -implicitDefEqProofs only[go_sem,seval,↓reduceIte,bne,h1,h2,h3];refine hK _ ?_;clear hK K);(refine AW.ret ?_;simp -implicitDefEqProofs only[go_sem,seval,↓reduceIte];refine Zmc ?_);rfl)
theorem fOf1 {G:Nat→V} (hG:GOk G) (t:List UInt8) (p:Int):FnG G 147 [.view .old (.str t),.view .old (.int .i64 p)] (sgIs t p):=⟨by kernel_rfl,rfl,Z70 G hG t p⟩
theorem Zv6 (t:List UInt8) (p:Int):Z7x (sgIs t p) tabL=match ofI t p with | some i=>(i:Int) | none => -1:=rfl
def Z46 (o:Nat × Bool):V := .tuple [.int .u8 o.1,.bool o.2]
theorem Z17 {t:List UInt8} {p:Int} {i:Nat} (h:ofI t p=some i):i<23:=(List.findIdx?_eq_some_iff_getElem.1 h).1
theorem Z3o (G:Nat→V) (hG:GOk G) (t:List UInt8) (p:Int):Spec Tryz.prog G 116 [.str t,.int .i64 p] Zk (fun v _=>v=Z46 (ofP t p)):=by
 refine Zo 0 17 [.tmp 4,.tmp 5] Tryz.func116 fun X=>?_;refine Z1 ?_;intro g2 g3;refine Z1 ?_;refine Zn hG ?_ (s:=(Zuh G hG));refine Zsf (zi @Z9u (zi @Zbp @Nat.le_refl)) ?_;intro g6;rw [Zvl _ ?hl]
 case hl=>rfl
 refine Z6 <| Zre 0 (by kernel_rfl) rfl rfl ?_
 simp -implicitDefEqProofs only[go_sem,seval,↓reduceIte,List.take_zero];refine ⟨_,Z3n Tryz.underlying100 (by kernel_rfl) (ob:=6) (g:=g6) (m:=3) (c := .new) (fz:=0) (cs:=tabC) zp zp (by decide),?_⟩;refine Zqe hG [Za .old 3 Z8j (.mk false tabL),.func (.func 147) [] [.view .old (.str t),.view .old (.int .i64 p)]] (by kernel_rfl) ⟨?_,Zmr ⟨?_,?_,trivial⟩,trivial⟩ ?_
 ·exact Rd.msl (off:=0) (n:=23) (l:=tabL) (f:=Z8j) (f':=Z8j) (g:=g6) (fz:=0) (c := .new) zp Z5v (fun x y hy=>by
   simp only [Z7j,V.cells,List.mem_cons,List.not_mem_nil,or_false] at hy
   rcases hy with rfl | rfl | rfl
   ·exact .str _
   ·exact .int _ _
   ·exact .int _ _) (Zvx _) (by decide)
 ·exact Rd.ptr (v := .str t) (c := .new) (fz:=0) zp (by intro y hy;simp [V.cells] at hy;subst hy;exact .str _) zp
 ·exact Rd.ptr (v := .int .i64 p) (c := .new) (fz:=0) zp (by intro y hy;simp [V.cells] at hy;subst hy;exact .int _ _) zp
 refine (Zyk G hG _ (.mk false tabL) (by decide) (fOf1 hG t p)).mono ?_;rintro _ _ rfl;refine ⟨.int _ _,?_⟩;refine Zs ?_;have hI:=Zv6 t p;unfold ofP
 show AW _ _ _ _ { τ := upd _ 7 (.int .i64 (Z7x (sgIs t p) tabL)),H:=_ }
 rw [hI]
 cases ho:ofI t p with
 | none =>
  exact Zr
 | some i =>
  have hi:=Z17 ho;refine AW.weak (Zg (l:=[(7,.int .i64 i)]) (m:=[]) zp zp) ?_
  have h0:((0:Int) > (i:Int))=False:=by rw [eq_iff_iff,iff_false];omega
  have hw:IntKind.u8.wrap (i:Int)=i:=by
   unfold IntKind.wrap;simp [IntKind.signed,IntKind.bits];omega
  have h1:decide ((i:Int)≥0)=true:=zT;exact Zq (zi h0 (zi hw h1))
end Go.Hs
end

section
namespace Go.Hs
open Go.Proofs
set_option maxRecDepth 10000
def Z3 (n:XN):V := .agg [.int .u8 n.op,.int .i64 n.num,.str n.name,.int .i64 n.a,.int .i64 n.b,.int .i64 n.c]
theorem Zt (n:XN):Z3 n = .agg [.int .u8 n.op,.int .i64 n.num,.str n.name,.int .i64 n.a,.int .i64 n.b,.int .i64 n.c]:=rfl
theorem Znm (n:XN):(Z3 n).cells.length=6:=rfl
theorem Zsd (t:Tk):Z0b t = .agg [.int .u8 t.kind,.str t.text,.int .i64 t.pos]:=rfl
theorem Zsi (f:Col→Col) (n:XN):(Z3 n).recol f=Z3 n:=by simp only [Zt,Zag,List.map_cons,List.map_nil,Zce,Z9f]
theorem Zt5 (f:Col→Col) (t:Tk):(Z0b t).recol f=Z0b t:=by simp only [Zsd,Zag,List.map_cons,List.map_nil,Zce,Z9f]
@[go_sem] theorem Zzc (g:Col→Col) (c:Col) (s:Sl Tk):(Za c 3 Z0b s).recol g=Za (g c) 3 Z0b s:=Zee g c 3 (Zt5 g) s
@[go_sem] theorem Zbb (g:Col→Col) (c:Col) (s:Sl XN):(Za c 6 Z3 s).recol g=Za (g c) 6 Z3 s:=Zee g c 6 (Zsi g) s
def rdO (NO:Nat) (tl:List V) (sl:Sl Tk) (g gx:Nat) (r:RS):AObj := .cells .any g 0 (Za .any 3 Z0b sl :: .int .i64 r.i::grown NO gx 6 r.nodes :: .int .i64 r.e::tl)
def ndO (gx:Nat) (ns:List XN):AObj:=grownC .any gx Z3 ns
theorem Zfd (NO:Nat) (tl:List V) (sl:Sl Tk) (g gx:Nat) (r:RS):rdO NO tl sl g gx r = .cells .any g 0 (Za .any 3 Z0b sl :: .int .i64 r.i::grown NO gx 6 r.nodes :: .int .i64 r.e::tl):=rfl
def RdS (NO:Nat) (tl:List V) (G:Nat→V) (f:FuncId) (args:List V) (sl:Sl Tk) (g:Nat) (r:RS) (v:V) (r':RS):Prop :=
 ∀ gx,Spec Tryz.prog G f (.ptr 8 g 0::args) (Zha Zk [(8,rdO NO tl sl g gx r),(NO,ndO gx r.nodes)]) (fun v0 H'=>v0=v∧∃ gx',H' 8=rdO NO tl sl g gx' r'∧H' NO=ndO gx' r'.nodes)
theorem RdS.call {NO:Nat} {tl:List V} {G:Nat→V} (hG:GOk G) {f:FuncId} {args args':List V} {sl:Sl Tk} {g gx:Nat} {r r':RS} {v:V} (h:RdS NO tl G f args' sl g r v r') {H:Heap} {K:V→Heap→Prop}
  (hen:Z2 Tryz.prog f=true) (htl:∀ F:Col→Col,tl.map (V.recol F)=tl) (hne:8≠NO) (hargs:args.map (V.recol Col.ent)=args') (hv:v.recol Col.bk=v)
  (h8:H 8=rdO NO tl sl g gx r) (hN:H NO=ndO gx r.nodes)
  (hk:∀ gx',K v (Zha H [(8,rdO NO tl sl g gx' r'),(NO,ndO gx' r'.nodes)])) :
  CallA Tryz.prog G f (.ptr 8 g 0::args) H K:=by
 have e8:∀ (F:Col→Col) gx r,F .any = .any→(rdO NO tl sl g gx r).recol F=rdO NO tl sl g gx r:=by
  intro F gx r hF;simp only [Zfd,recol_cells,List.map_cons,Zde,Zzc,Zce,hF,htl]
 have eN:∀ (F:Col→Col) gx ns,F .any = .any→(ndO gx ns).recol F=ndO gx ns:=by
  intro F gx ns hF;rw [ndO,Z6s F .any gx Z3 Z3 (Zsi F),hF]
 refine Z1o hG [(8,rdO NO tl sl g gx r),(NO,ndO gx r.nodes)] hen ?_ ?_
 ·intro p hp
  simp only [List.mem_cons,List.not_mem_nil,or_false] at hp
  rcases hp with rfl | rfl
  ·rw [h8,e8 _ _ _ rfl]
  ·rw [hN,eN _ _ _ rfl]
 ·have ha:(V.ptr 8 g 0::args).map (V.recol Col.ent) = .ptr 8 g 0::args':=by rw [List.map_cons,Z2l,hargs]
  rw [ha];refine (h gx).mono ?_;rintro _ H' ⟨rfl,gx',q8,qN⟩;simp only [List.map_cons,List.map_nil,q8,qN,e8 _ _ _ Z93,eN _ _ _ Z93,hv];exact hk gx'
structure TkOk (l:List Tk):Prop where
 len:l.length<100000
 text:∀ t∈l,t.text.length<100000
theorem Zuz {l:List Tk} {i:Nat} {t:Tk} (h:l[i]? = some t):Z5 l i=if (isP t.text:Int)=t.kind then t else ⟨0,[],0⟩:=by unfold Z5;rw [h]
theorem Zvz {l:List Tk} {i:Nat} (h:l.length≤i):Z5 l i=⟨0,[],0⟩:=by unfold Z5;rw [List.getElem?_eq_none h]
theorem Zvj (G:Nat→V) (hE:GExp G) (sl:Sl Tk) (hT:TkOk sl.l) (g:Nat) (r:RS) (hr:r.i<1000000):RdS 1031 [.func (.func 78) [] []] G 115 [] sl g r (Z0b (Z5 sl.l r.i)) r:=by
 have hG:=hE.ok;intro gx;refine Zo 1000 50 [.cell 2 121] Tryz.func115 fun X=>?_;simp only [Zha,Zfd];refine Z1 ?_;intro g2;refine Z6 ?_
 by_cases hi:r.i<sl.l.length
 ·have h1:decide ((r.i:Int)<sl.l.length)=true:=zT
  have hg:=List.getElem?_eq_getElem hi;have hm:=hT.text _ (List.getElem_mem hi);generalize sl.l[r.i]=t at hg hm;have hP:=Zuz hg
  have p1:Zkn Tryz.prog G 64 [.str t.text] (.int .u8 (isP t.text)):=⟨by kernel_rfl,by
   refine Zs ?_;refine (Zfl G hE t.text hm).mono ?_;rintro _ _ rfl
   rfl⟩
  by_cases hk:(isP t.text:Int)=t.kind
  ·rw [if_pos hk] at hP
   have e1:((isP t.text:Int)==t.kind)=true:=by simpa using hk
   refine Z6 <| Zv ⟨fun i=>if i=22 then .int .u8 (isP t.text) else .top,fun _ => .pure⟩ (by kernel_rfl) hG (by kernel_rfl) (by kernel_rfl) ?_
   refine Zsf (zi h1 (zi hg (zi @Zsd e1))) ?_;refine ⟨p1,?_⟩;refine Zh rfl (fun h2=>?_) (fun h2=>?_)
   ·refine ZTf (zi hg @Zsd) hG ?_
    refine Z ?_;exact ⟨by rw [hP]<;>rfl,gx,by simp -implicitDefEqProofs only[go_sem,seval,↓reduceIte],by simp -implicitDefEqProofs only[go_sem,seval,↓reduceIte]⟩
   ·cases h2
  ·rw [if_neg hk] at hP
   have e1:((isP t.text:Int)==t.kind)=false:=by simpa using hk
   refine Z6 <| Zv ⟨fun i=>if i=22 then .int .u8 (isP t.text) else .top,fun _ => .pure⟩ (by kernel_rfl) hG (by kernel_rfl) (by kernel_rfl) ?_
   refine Zsf (zi h1 (zi hg (zi @Zsd e1))) ?_;refine ⟨p1,?_⟩;refine Zbd rfl ?_
   ·refine Z ?_
    exact ⟨by rw [hP]<;>rfl,gx,by simp -implicitDefEqProofs only[go_sem,seval,↓reduceIte],by simp -implicitDefEqProofs only[go_sem,seval,↓reduceIte]⟩
 ·have h1:decide ((r.i:Int)<sl.l.length)=false:=zF
  have hP:=Zvz (l:=sl.l) (i:=r.i) (by omega);refine ZTf h1 hG ?_;refine Zbd rfl ?_
  ·refine Z ?_
   exact ⟨by rw [hP]<;>rfl,gx,by simp -implicitDefEqProofs only[go_sem,seval,↓reduceIte],by simp -implicitDefEqProofs only[go_sem,seval,↓reduceIte]⟩
theorem Zzg (G:Nat→V) (hG:GOk G) (sl:Sl Tk) (g:Nat) (r:RS) (hr:r.nodes.length<1000000):RdS 1031 [.func (.func 78) [] []] G 117 [] sl g r (.int .i64 r.last) r:=by
 intro gx;refine Zo 1000 9 [.tmp 2] Tryz.func117 fun X=>?_;simp only [Zha,Zfd];refine Z ?_;exact ⟨by rw [w64 (by omega) (by omega)]<;>rfl,gx,by simp -implicitDefEqProofs only[go_sem,seval,↓reduceIte],by simp -implicitDefEqProofs only[go_sem,seval,↓reduceIte]⟩
theorem Zds {l:List Int} (h:l.length≤3):setAt [V.int .i64 (-1),V.int .i64 (-1),V.int .i64 (-1)] 0 (l.map (V.int .i64))=[V.int .i64 (l.getD 0 (-1)),V.int .i64 (l.getD 1 (-1)),V.int .i64 (l.getD 2 (-1))]:=by
 match l,h with
 | [],_=>rfl
 | [_],_=>rfl
 | [_,_],_=>rfl
 | [_,_,_],_=>rfl
theorem Zro (k:IntKind) (l:List Int):flat (l.map (V.int k))=l.map (V.int k):=by
 induction l with
 | nil=>rfl
 | cons x r ih=>unfold flat at ih ⊢;rw [List.map_cons,List.flatMap_cons,ih]<;>rfl
def Znz (n:XN) (ps:List Int):XN:={ n with a:=ps.getD 0 (-1),b:=ps.getD 1 (-1),c:=ps.getD 2 (-1) }
theorem Zgi (G:Nat→V) (hG:GOk G) (sl:Sl Tk) (g:Nat) (r:RS) (hr:r.nodes.length<1000000) (n:XN) (c:Col) (ps:Sl Int) (hps:ps.l.length≤3) :
  RdS 1031 [.func (.func 78) [] []] G 118 [Z3 n,Za c 1 (V.int .i64) ps] sl g r (.bool true) (r.put (Znz n ps.l)):=by
 intro gx;refine Zo 1000 34 [.tmp 6] Tryz.func118 fun X=>?_;simp only [Zha,Zfd,Zt];refine Z1 ?_;intro g4;refine Z1 ?_;intro g8
 refine Z6 <| Z40 2 (by kernel_rfl) rfl rfl ?_
 simp -implicitDefEqProofs only[go_sem,seval,↓reduceIte,List.take_succ_cons,List.take_zero];refine ⟨_,_,GivesE.copy Tryz.underlying104 (by kernel_rfl) (ob:=1008) (g:=g8) (m:=1) (len:=3) (cs:=[.int .i64 (-1),.int .i64 (-1),.int .i64 (-1)]) (c := .new) (fz:=0) (off:=0) (n:=ps.l.length) (xc:=ps.l.map (V.int .i64)) zp zp (by simp -implicitDefEqProofs only[go_sem,seval,↓reduceIte];exact congrArg (fun x=>some (ps.l.length,x)) (Zro _ _)) hps (Nat.le_refl _) (by simp;omega),?_⟩;rw [Zds hps];simp -implicitDefEqProofs only[go_sem,seval,↓reduceIte,List.drop_succ_cons,List.drop_zero];have hn:Znz n ps.l={ n with a:=ps.l.getD 0 (-1),b:=ps.l.getD 1 (-1),c:=ps.l.getD 2 (-1) }:=rfl;generalize ps.l.getD 0 (-1)=x0 at hn ⊢;generalize ps.l.getD 1 (-1)=x1 at hn ⊢;generalize ps.l.getD 2 (-1)=x2 at hn ⊢
 refine AW.weak (Z8 (fun o=>o==1008) (l:=[(0,.ptr 8 g 0),(4,.ptr 1004 g4 0),(7,.slice .new false 1 [.int .i64 x0,.int .i64 x1,.int .i64 x2])])
  (m:=[(8,rdO 1031 [.func (.func 78) [] []] sl g gx r),(1031,ndO gx r.nodes),(1004,.cells .new g4 0 [.int .u8 n.op,.int .i64 n.num,.str n.name,.int .i64 n.a,.int .i64 n.b,.int .i64 n.c])]) ?_ ?_) ?_
 ·refine Zs ?_
  refine ⟨Zd _,Zd _,?_⟩;exact Zfi (f:=V.int .i64) (l:=[x0,x1,x2]) (m:=1) (g:=g8) (fz:=0) (c := .new) rfl zp (fun _=>rfl)
 ·simp only [Zl,Zp,and_true]
  exact ⟨FzO.keep rfl zp,FzO.keep rfl zp,FzO.keep rfl zp⟩
 refine Z6 <| Zv ⟨fun _ => .top,fun i=>if i=2 then .lend else if i=5 then .lend else if i=8 then .lend else .pure⟩ (by kernel_rfl) hG (by kernel_rfl) (by kernel_rfl) ?_
 refine Zsf @Zfd ?_;refine AW.later ?_;refine ZT hG ?_;intro g30;refine Zn0 (f:=Z3) (l:=r.nodes) (l2:=[Znz n ps.l]) (g:=gx) Znm rfl (by rw [hn]<;>rfl) rfl zp (Zta (by omega) (by simp;omega)) fun c2 g2=>?_;refine Zs ?_;refine Z1 ?_;refine AW.ret ?_;refine Zs ?_;refine ⟨st [(6,.bool true)] [(8,rdO 1031 [.func (.func 78) [] []] sl g g2 (r.put (Znz n ps.l))),(1031,ndO g2 (r.nodes++[Znz n ps.l]))],Z8 (fun _=>false) ?_ ?_,?_⟩
 ·refine Zs ?_
  exact Zd _
 ·simp only [Zl,Zp,and_true]
  exact ⟨FzO.keep rfl zp,Z00 (c:=c2) rfl zp⟩
 ·refine Zs ?_
  exact Zmc ⟨rfl,g2,by simp -implicitDefEqProofs only[go_sem,seval,↓reduceIte];rfl,by simp -implicitDefEqProofs only[go_sem,seval,↓reduceIte];rfl⟩
end Go.Hs
end

section
namespace Go.Hs
structure Bal (l:List Tk) (k:Nat) (r r':RS):Prop where
 up:r.i≤r'.i
 inn:r.i≤l.length→r'.i≤l.length
 cnt:r'.nodes.length+r.i+k≤r.nodes.length+r'.i
theorem Bal.refl (l:List Tk) (r:RS):Bal l 0 r r:=⟨Nat.le_refl _,id,Nat.le_refl _⟩
theorem Bal.trans {l:List Tk} {k k':Nat} {r r' r'':RS} (h:Bal l k r r') (h':Bal l k' r' r''):Bal l (k+k') r r'' :=
 ⟨Nat.le_trans h.up h'.up,fun x=>h'.inn (h.inn x),by have:=h.cnt;have:=h'.cnt;omega⟩
theorem Bal.weak {l:List Tk} {k k':Nat} {r r':RS} (h:Bal l k r r') (hk:k'≤k):Bal l k' r r':=⟨h.up,h.inn,by have:=h.cnt;omega⟩
theorem Bal.adv {l:List Tk} {r:RS} (h:r.i<l.length):Bal l 1 r r.adv:=⟨Nat.le_succ _,fun _=>h,by show r.nodes.length+r.i+1≤r.nodes.length+(r.i+1);omega⟩
theorem Bal.err (l:List Tk) (r:RS) (e:Int):Bal l 0 r (r.err e):=⟨Nat.le_refl _,id,Nat.le_refl _⟩
theorem Bal.put {l:List Tk} {k:Nat} {r r':RS} (h:Bal l (k+1) r r') (n:XN):Bal l k r (r'.put n) :=
 ⟨h.up,h.inn,by have:=h.cnt;show (r'.nodes++[n]).length+r.i+k≤_;rw [List.length_append,List.length_singleton];show _≤r.nodes.length+r'.i;omega⟩
def Bals (l:List Tk) (inner:Inner):Prop:=∀ n r,Bal l 0 r (inner n r).2
theorem Z9c {l:List Tk} {r:RS} {x:Bool × RS} {k:RS→Bool × RS} (h:Bal l 0 r x.2) (hk:x.1=true→Bal l 0 r (k x.2).2):Bal l 0 r (andThen x k).2:=by
 obtain ⟨b,r1⟩:=x;cases b
 ·exact h
 ·exact hk rfl
theorem Zmd (l:List Tk) (w:List UInt8) (r:RS):Bal l 0 r (Z7e l w r).2∧((Z7e l w r).1=true→Bal l 1 r (Z7e l w r).2):=by
 unfold Z7e
 split
 ·exact ⟨Bal.err _ _ _,fun h=>by cases h⟩
 ·rename_i h
  have hk:(Z5 l r.i).kind≠0:=fun hh=>h (.inl hh);have:=Bal.adv (Zxe hk);exact ⟨this.weak (Nat.zero_le _),fun _=>this⟩
theorem Zcm {l:List Tk} {r:RS} (h:(Z5 l r.i).kind≠0) (op num:Int) (name:List UInt8):Bal l 0 r (Z0k r op num name).2:=(Bal.adv (Zxe h)).put _
theorem Ztv {l:List Tk} {r:RS} (h:(Z5 l r.i).kind≠0) (t:List UInt8):Bal l 0 r (Zpc r t).2:=by
 unfold Zpc
 split
 ·exact Bal.err _ _ _
 ·exact Zcm h _ _ _
theorem Z9p {l:List Tk} {inner:Inner} (h:Bals l inner) (r:RS):Bal l 0 r (Zua l inner r).2:=by
 unfold Zua;have e1:=Zmd l wIf r;refine Z9c e1.1 fun h1=>?_;have b1:=e1.2 h1;generalize (Z7e l wIf r).2=r1 at b1 ⊢;have b2:=b1.trans (h 1 r1);refine Z9c (b2.weak (Nat.zero_le _)) fun _=>?_;generalize (inner 1 r1).2=a at b2 ⊢;have e2:=Zmd l Zpn a;refine Z9c ((b2.trans e2.1).weak (Nat.zero_le _)) fun h2=>?_;have b3:=b2.trans (e2.2 h2);generalize (Z7e l Zpn a).2=r2 at b3 ⊢;have b4:=b3.trans (h 1 r2);refine Z9c (b4.weak (Nat.zero_le _)) fun _=>?_;generalize (inner 1 r2).2=b at b4 ⊢;have e3:=Zmd l Zqn b;refine Z9c ((b4.trans e3.1).weak (Nat.zero_le _)) fun h3=>?_;have b5:=b4.trans (e3.2 h3);generalize (Z7e l Zqn b).2=r3 at b5 ⊢;have b6:=b5.trans (h 1 r3);refine Z9c (b6.weak (Nat.zero_le _)) fun _=>?_;generalize (inner 1 r3).2=c at b6 ⊢;have e4:=Zmd l Zii c;refine Z9c ((b6.trans e4.1).weak (Nat.zero_le _)) fun h4=>?_;have b7:=b6.trans (e4.2 h4);exact (b7.put _).weak (Nat.zero_le _)
theorem Zdk {l:List Tk} {inner:Inner} (h:Bals l inner) (r:RS):Bal l 0 r (Zla l inner r).2:=by
 unfold Zla
 split
 ·rename_i hk;exact Ztv (by rw [hk];decide) _
 split
 ·rename_i hk;exact Zcm (by rw [hk];decide) _ _ _
 split
 ·exact Bal.err _ _ _
 rename_i h0;have ba:=Bal.adv (Zxe h0)
 split
 ·have b1:=ba.trans (h 9 r.adv)
  exact Z9c (b1.weak (Nat.zero_le _)) fun _=>b1.put _
 split
 ·have b1:=ba.trans (h 1 r.adv)
  exact Z9c (b1.weak (Nat.zero_le _)) fun _=>(b1.trans (Zmd l [41] _).1).weak (Nat.zero_le _)
 split
 ·exact Z9p h r
 split
 ·exact Zcm h0 _ _ _
 ·exact Bal.err _ _ _
theorem Zxs {l:List Tk} {inner:Inner} (h:Bals l inner) (n:Int):∀ (m:Nat) (r:RS),Bal l 0 r (Z6b l inner n m r).2
 | 0,r=>Bal.refl l r
 | m+1,r=>by
  rw [Z6b]
  cases ho:Zzi l r.i with
  | none=>exact Bal.refl l r
  | some op =>
   simp only
   split
   ·exact Bal.refl l r
   ·have b1:=(Bal.adv (Zyh ho)).trans (h (lvl op+1) r.adv)
    exact Z9c (b1.weak (Nat.zero_le _)) fun _=>((b1.put _).trans (Zxs h n m _)).weak (Nat.zero_le _)
theorem Z5d (l:List Tk):∀ f,Bals l (Zw l f)
 | 0=>fun _ r=>Bal.refl l r
 | f+1=>fun n r=>by
  rw [Zw];have b1:=Zdk (Z5d l f) r;exact Z9c b1 fun _=>(b1.trans (Zxs (Z5d l f) n _ _)).weak (Nat.zero_le _)
def Zqy (l:List Tk) (r:RS):Prop:=r.i≤l.length∧r.nodes.length≤r.i
theorem Bal.ok {l:List Tk} {k:Nat} {r r':RS} (h:Bal l k r r') (hr:Zqy l r):Zqy l r':=⟨h.inn hr.1,by have:=h.cnt;have:=h.up;have:=hr.2;omega⟩
end Go.Hs
end

section
namespace Go.Hs
inductive X where
 | leaf (op num:Int) (name:List UInt8)
 | un (op:Int) (a:X)
 | bin (op:Int) (a b:X)
 | ite (a b c:X)
 deriving DecidableEq,Inhabited
namespace X
def size:X→Nat
 | leaf .. => 1
 | un _ a=>a.size+1
 | bin _ a b=>a.size+b.size+1
 | ite a b c=>a.size+b.size+c.size+1
def depth:X→Nat
 | leaf .. => 1
 | un _ a=>a.depth+1
 | bin _ a b=>max a.depth b.depth+1
 | ite a b c=>max (max a.depth b.depth) c.depth+1
end X
def Zyd (n:XN):Bool :=
 if n.op<1∨n.op > 22∨n.num<0 then false else if n.op=2 then n.num==0 && isP n.name==2 else n.name==[] && (n.op==1 || n.num==0)
namespace X
def ok:X→Bool
 | leaf op num name=>Zyd ⟨op,num,name,-1,-1,-1⟩ && decide (op≤4)
 | un op a=>decide (5≤op) && decide (op≤6) && a.ok
 | bin op a b=>decide (7≤op) && decide (op≤21) && a.ok && b.ok
 | ite a b c=>a.ok && b.ok && c.ok
def row:X→Int→List XN
 | leaf op num name,_=>[⟨op,num,name,-1,-1,-1⟩]
 | un op a,k=>a.row k++[⟨op,0,[],k+a.size-1,-1,-1⟩]
 | bin op a b,k=>a.row k++b.row (k+a.size)++[⟨op,0,[],k+a.size-1,k+a.size+b.size-1,-1⟩]
 | ite a b c,k=>a.row k++b.row (k+a.size)++c.row (k+a.size+b.size)++[⟨22,0,[],k+a.size-1,k+a.size+b.size-1,k+a.size+b.size+c.size-1⟩]
theorem row_len:∀ (x:X) (k:Int),(x.row k).length=x.size
 | leaf ..,_=>rfl
 | un _ a,k=>by simp [row,size,row_len a]
 | bin _ a b,k=>by simp [row,size,row_len a,row_len b];omega
 | ite a b c,k=>by simp [row,size,row_len a,row_len b,row_len c];omega
theorem size_pos:∀ x:X,0<x.size
 | leaf .. => by simp [size]
 | un .. => by simp [size]
 | bin .. => by simp [size]
 | ite .. => by simp [size]
def top:X→Int→XN
 | leaf op num name,_=>⟨op,num,name,-1,-1,-1⟩
 | un op a,k=>⟨op,0,[],k+a.size-1,-1,-1⟩
 | bin op a b,k=>⟨op,0,[],k+a.size-1,k+a.size+b.size-1,-1⟩
 | ite a b c,k=>⟨22,0,[],k+a.size-1,k+a.size+b.size-1,k+a.size+b.size+c.size-1⟩
end X
theorem Zmf {op:Int} (h:3≤op∧op≤22) (a b c:Int):Zyd ⟨op,0,[],a,b,c⟩=true:=by
 unfold Zyd;rw [if_neg (by simp;omega),if_neg (by simp;omega)];simp
theorem Z9w {n:XN} (h:Zyd n=true) (h3:n.op≠1):n.num=0∧(n.op≠2→n.name=[])∧1≤n.op∧n.op≤22:=by
 unfold Zyd at h
 split at h
 ·cases h
 ·rename_i h0
  simp only [not_or,Int.not_lt] at h0
  split at h
  ·rename_i h2
   simp only [Bool.and_eq_true,beq_iff_eq] at h;exact ⟨h.1,fun hh=>absurd h2 hh,by omega,by omega⟩
  ·simp only [Bool.and_eq_true,beq_iff_eq,Bool.or_eq_true] at h
   exact ⟨h.2.resolve_left h3,fun _=>h.1,by omega,by omega⟩
theorem Z2d {n:XN} (h:Zyd n=true):1≤n.op∧n.op≤22:=by
 unfold Zyd at h
 split at h
 ·cases h
 ·rename_i h0
  simp only [not_or,Int.not_lt] at h0;omega
def Zj (op:Int):Nat:=if op≤4 then 0 else if op≤6 then 1 else if op≤21 then 2 else 3
def Zeb (l:List (Int × Int)):List Int:=[(l.map (·.1)).getD 0 (-1),(l.map (·.1)).getD 1 (-1),(l.map (·.1)).getD 2 (-1)]
def Zhb (l:List (Int × Int)):Int:=l.foldl (fun d p=>max d p.2) 0
def Zqc (i:Int) (n:XN) (opn:List (Int × Int)):Option (List (Int × Int)) :=
 if Zyd n=false then none else if opn.length<Zj n.op then none
 else if Zeb (opn.drop (opn.length-Zj n.op))≠[n.a,n.b,n.c] then none
 else some (opn.take (opn.length-Zj n.op)++[(i,Zhb (opn.drop (opn.length-Zj n.op))+1)])
def Z2c:List XN→Int→List (Int × Int)→Option (List (Int × Int))
 | [],_,opn=>some opn
 | n::r,i,opn=>match Zqc i n opn with
  | some o=>Z2c r (i+1) o
  | none=>none
def Z3b (l:List XN):Int:=match Z2c l 0 [] with
 | some [x]=>x.2
 | _=>0
def Zrn:Int→List X→List XN
 | _,[]=>[]
 | k,x::r=>x.row k++Zrn (k+x.size) r
def Zae (F:List X):Nat:=(F.map X.size).sum
def Z7a:Int→List X→List (Int × Int)
 | _,[]=>[]
 | k,x::r=>(k+x.size-1,(x.depth:Int))::Z7a (k+x.size) r
theorem Zzj (x:X) (r:List X):Zae (x::r)=x.size+Zae r:=by simp [Zae]
theorem Zs1 (a b:List X):Zae (a++b)=Zae a+Zae b:=by simp [Zae]
theorem Zhp:∀ (a b:List X) (k:Int),Zrn k (a++b)=Zrn k a++Zrn (k+Zae a) b
 | [],b,k=>by simp [Zrn,Zae]
 | x::a,b,k=>by
  rw [List.cons_append,Zrn,Zrn,Zhp a b,List.append_assoc,Zzj]
  congr 3;omega
theorem Z9g:∀ (a b:List X) (k:Int),Z7a k (a++b)=Z7a k a++Z7a (k+Zae a) b
 | [],b,k=>by simp [Z7a,Zae]
 | x::a,b,k=>by
  rw [List.cons_append,Z7a,Z7a,Z9g a b,List.cons_append,Zzj]
  congr 3;omega
theorem Z8g:∀ (F:List X) (k:Int),(Z7a k F).length=F.length
 | [],_=>rfl
 | x::r,k=>by simp [Z7a,Z8g r]
theorem Zbl:∀ (F:List X) (k:Int),(Zrn k F).length=Zae F
 | [],_=>rfl
 | x::r,k=>by rw [Zrn,List.length_append,X.row_len,Zbl r,Zzj]
theorem Z8y {F:List X} {p:Nat} (h:p≤F.length):∃ A B,F=A++B∧B.length=p:=⟨F.take (F.length-p),F.drop (F.length-p),(List.take_append_drop _ _).symm,by simp;omega⟩
theorem Zct {F:List X} {n:XN} {o:List (Int × Int)} (hF:∀ x∈F,x.ok=true) (h:Zqc (Zae F) n (Z7a 0 F)=some o) :
  ∃ F',(∀ x∈F',x.ok=true)∧Zrn 0 F'=Zrn 0 F++[n]∧o=Z7a 0 F':=by
 unfold Zqc at h;rw [Z8g] at h
 split at h
 ·cases h
 rename_i hw
 have hw:Zyd n=true:=by simpa using hw
 have hrg:=Z2d hw
 split at h
 ·cases h
 rename_i hlen;obtain ⟨A,B,rfl,hB⟩:=Z8y (F:=F) (p:=Zj n.op) (by omega)
 have hAl:(A++B).length-Zj n.op=A.length:=by rw [List.length_append,hB];omega
 have hdrop:(Z7a 0 (A++B)).drop A.length=Z7a (Zae A) B:=by
  rw [Z9g,List.drop_left' (Z8g _ _),Int.zero_add]
 have htake:(Z7a 0 (A++B)).take A.length=Z7a 0 A:=by
  rw [Z9g,List.take_left' (Z8g _ _)]
 rw [hAl,hdrop,htake] at h
 split at h
 ·cases h
 rename_i hpl;simp only [ne_eq,Decidable.not_not] at hpl;simp only [Option.some.injEq] at h;have hokA:∀ x∈A,x.ok=true:=fun x hx=>hF x (by simp [hx])
 have fin:∀ x:X,x.ok=true→x.row (Zae A)=Zrn (Zae A) B++[n]→(x.depth:Int)=Zhb (Z7a (Zae A) B)+1 →
   ∃ F',(∀ x∈F',x.ok=true)∧Zrn 0 F'=Zrn 0 (A++B)++[n]∧o=Z7a 0 F':=by
  intro x hx hr hd;refine ⟨A++[x],fun y hy=>?_,?_,?_⟩
  ·rcases List.mem_append.1 hy with h1 | h1
   ·exact hokA y h1
   ·rw [List.mem_singleton.1 h1];exact hx
  ·rw [Zhp,Zhp,List.append_assoc,Int.zero_add,← hr]
   simp [Zrn]
  ·rw [← h,Z9g,Z7a,Z7a,hd]
   have h1:(x.row (Zae A)).length=x.size:=X.row_len _ _;rw [hr,List.length_append,Zbl,List.length_singleton] at h1;rw [Zs1]
   congr 4
   omega
 obtain ⟨op,num,name,a,b,c⟩:=n;simp only at hB hpl hrg;unfold Zj at hB
 split at hB
 ·rename_i h4
  obtain rfl:B=[]:=List.length_eq_zero_iff.1 hB;simp only [Zeb,Z7a,List.map_nil,List.getD_nil,List.cons.injEq,and_true] at hpl;obtain ⟨rfl,rfl,rfl⟩:=hpl;exact fin (.leaf op num name) (by unfold X.ok;rw [hw];simp;omega) rfl rfl
 rename_i h4;have hn:=Z9w hw (show op≠1 by omega);simp only at hn;obtain ⟨rfl,hnm,_⟩:=hn;obtain rfl:=hnm (by omega)
 split at hB
 ·rename_i h6
  obtain ⟨x,rfl⟩:=List.length_eq_one_iff.1 hB
  ·simp only [Zeb,Z7a,List.map_cons,List.map_nil,List.getD_cons_zero,List.getD_cons_succ,List.getD_nil,List.cons.injEq,and_true] at hpl
   obtain ⟨rfl,rfl,rfl⟩:=hpl;refine fin (.un op x) (by unfold X.ok;rw [hF x (by simp)];simp;omega) ?_ ?_
   ·simp [X.row,Zrn]
   ·simp [X.depth,Z7a,Zhb]
 rename_i h6
 split at hB
 ·rename_i h21
  obtain ⟨x,y,rfl⟩:∃ x y,B=[x,y]:=by
   match B,hB with
   | [x,y],_=>exact ⟨x,y,rfl⟩
  ·simp only [Zeb,Z7a,List.map_cons,List.map_nil,List.getD_cons_zero,List.getD_cons_succ,List.getD_nil,List.cons.injEq,and_true] at hpl
   obtain ⟨rfl,rfl,rfl⟩:=hpl;refine fin (.bin op x y) (by unfold X.ok;rw [hF x (by simp),hF y (by simp)];simp;omega) ?_ ?_
   ·simp [X.row,Zrn]
   ·simp [X.depth,Z7a,Zhb];omega
 ·rename_i h21
  obtain ⟨x,y,z,rfl⟩:∃ x y z,B=[x,y,z]:=by
   match B,hB with
   | [x,y,z],_=>exact ⟨x,y,z,rfl⟩
  ·simp only [Zeb,Z7a,List.map_cons,List.map_nil,List.getD_cons_zero,List.getD_cons_succ,List.cons.injEq,and_true] at hpl
   obtain ⟨rfl,rfl,rfl⟩:=hpl
   obtain rfl:op=22:=by omega
   refine fin (.ite x y z) (by unfold X.ok;rw [hF x (by simp),hF y (by simp),hF z (by simp)];rfl) ?_ ?_
   ·simp [X.row,Zrn]
   ·simp [X.depth,Z7a,Zhb];omega
theorem Zto:∀ (l:List XN) (F:List X) (opn:List (Int × Int)),(∀ x∈F,x.ok=true)→Z2c l (Zae F) (Z7a 0 F)=some opn →
  ∃ F',(∀ x∈F',x.ok=true)∧Zrn 0 F'=Zrn 0 F++l∧opn=Z7a 0 F'
 | [],F,opn,hF,h=>⟨F,hF,by simp,by simpa [Z2c] using h.symm⟩
 | n::r,F,opn,hF,h=>by
  rw [Z2c] at h
  cases hs:Zqc (Zae F) n (Z7a 0 F) with
  | none=>rw [hs] at h;cases h
  | some o =>
   rw [hs] at h;obtain ⟨F1,h1,h2,rfl⟩:=Zct hF hs
   have hsz:(Zae F:Int)+1=Zae F1:=by
    have:=congrArg List.length h2;rw [List.length_append,Zbl,Zbl,List.length_singleton] at this;omega
   simp only at h;rw [hsz] at h;obtain ⟨F',h3,h4,h5⟩:=Zto r F1 opn h1 h;exact ⟨F',h3,by rw [h4,h2];simp,h5⟩
theorem Zme:∀ (l m:List XN) (i:Int) (opn:List (Int × Int)),Z2c (l++m) i opn=(Z2c l i opn).bind fun o=>Z2c m (i+l.length) o
 | [],m,i,opn=>by simp [Z2c]
 | n::r,m,i,opn=>by
  rw [List.cons_append,Z2c,Z2c]
  cases Zqc i n opn with
  | none=>rfl
  | some o =>
   simp only;rw [Zme r m]
   congr 1;funext o'
   congr 1
   simp only [List.length_cons];omega
theorem Zle:∀ (x:X) (k:Int) (opn:List (Int × Int)),x.ok=true→Z2c (x.row k) k opn=some (opn++[(k+x.size-1,(x.depth:Int))])
 | .leaf op num name,k,opn,h=>by
  unfold X.ok at h;simp only [Bool.and_eq_true,decide_eq_true_eq] at h;simp only [X.row,Z2c]
  have hs:Zqc k ⟨op,num,name,-1,-1,-1⟩ opn=some (opn++[(k,1)]):=by
   unfold Zqc;rw [if_neg (by rw [h.1];simp)]
   have:Zj op=0:=by unfold Zj;rw [if_pos h.2]
   rw [this,if_neg (by omega),Nat.sub_zero,List.drop_length,List.take_length];rfl
  rw [hs];simp [Z2c,X.size,X.depth]
 | .un op a,k,opn,h=>by
  unfold X.ok at h;simp only [Bool.and_eq_true,decide_eq_true_eq] at h;rw [X.row,Zme,Zle a k opn h.2,Option.bind_some,X.row_len,Z2c]
  have hp:Zj op=1:=by unfold Zj;rw [if_neg (by omega),if_pos (by omega)]
  have hs:Zqc (k+a.size) ⟨op,0,[],k+a.size-1,-1,-1⟩ (opn++[(k+a.size-1,(a.depth:Int))])=some (opn++[(k+a.size,(a.depth:Int)+1)]):=by
   unfold Zqc
   have hl:(opn++[(k+(a.size:Int)-1,(a.depth:Int))]).length-1=opn.length:=by simp
   rw [if_neg (by rw [Zmf (by omega)];simp)];simp only [hp];rw [if_neg (by simp),hl,List.drop_left,List.take_left,if_neg (by simp [Zeb])]
   congr 4
   all_goals first | (simp [Zhb];done) | (simp [Zhb];omega)
  rw [hs];simp only [Z2c,X.size,X.depth]
  congr 4
  all_goals first | (simp;done) | (simp;omega) | omega
 | .bin op a b,k,opn,h=>by
  unfold X.ok at h;simp only [Bool.and_eq_true,decide_eq_true_eq] at h;rw [X.row,Zme,Zme,Zle a k opn h.1.2,Option.bind_some,X.row_len,Zle b _ _ h.2,Option.bind_some,Z2c]
  have hp:Zj op=2:=by unfold Zj;rw [if_neg (by omega),if_neg (by omega),if_pos (by omega)]
  have hlen:((a.row k++b.row (k+a.size)).length:Int)=a.size+b.size:=by rw [List.length_append,X.row_len,X.row_len];omega
  rw [hlen]
  have hs:Zqc (k+(a.size+b.size)) ⟨op,0,[],k+a.size-1,k+a.size+b.size-1,-1⟩ (opn++[(k+a.size-1,(a.depth:Int))]++[(k+a.size+b.size-1,(b.depth:Int))])=some (opn++[(k+(a.size+b.size),max (a.depth:Int) b.depth+1)]):=by
   unfold Zqc
   have hl:(opn++[(k+(a.size:Int)-1,(a.depth:Int))]++[(k+a.size+b.size-1,(b.depth:Int))]).length-2=opn.length:=by simp
   rw [if_neg (by rw [Zmf (by omega)];simp)];simp only [hp];rw [if_neg (by simp),hl,List.append_assoc,List.drop_left,List.take_left,if_neg (by simp [Zeb])]
   congr 4
   all_goals first | (simp [Zhb];done) | (simp [Zhb];omega)
  rw [hs];simp only [Z2c,X.size,X.depth]
  congr 4
  all_goals first | (simp;done) | (simp;omega) | omega
 | .ite a b c,k,opn,h=>by
  unfold X.ok at h;simp only [Bool.and_eq_true] at h;rw [X.row,Zme,Zme,Zme,Zle a k opn h.1.1,Option.bind_some,X.row_len,Zle b _ _ h.1.2,Option.bind_some]
  have hlen1:k+((a.row k++b.row (k+a.size)).length:Int)=k+a.size+b.size:=by rw [List.length_append,X.row_len,X.row_len];omega
  rw [hlen1,Zle c _ _ h.2,Option.bind_some,Z2c]
  have hlen:((a.row k++b.row (k+a.size)++c.row (k+a.size+b.size)).length:Int)=a.size+b.size+c.size:=by simp only [List.length_append,X.row_len];omega
  rw [hlen]
  have hs:Zqc (k+(a.size+b.size+c.size)) ⟨22,0,[],k+a.size-1,k+a.size+b.size-1,k+a.size+b.size+c.size-1⟩ (opn++[(k+a.size-1,(a.depth:Int))]++[(k+a.size+b.size-1,(b.depth:Int))]++[(k+a.size+b.size+c.size-1,(c.depth:Int))])=some (opn++[(k+(a.size+b.size+c.size),max (max (a.depth:Int) b.depth) c.depth+1)]):=by
   unfold Zqc;have hp:Zj 22=3:=rfl
   have hl:(opn++[(k+(a.size:Int)-1,(a.depth:Int))]++[(k+a.size+b.size-1,(b.depth:Int))]++[(k+a.size+b.size+c.size-1,(c.depth:Int))]).length-3=opn.length:=by simp
   rw [if_neg (by rw [Zmf (by omega)];simp)];simp only [hp];rw [if_neg (by simp),hl,List.append_assoc,List.append_assoc,List.drop_left,List.take_left,if_neg (by simp [Zeb])]
   congr 4
   all_goals first | (simp [Zhb];done) | (simp [Zhb];omega)
  rw [hs];simp only [Z2c,X.size,X.depth]
  congr 4
  all_goals first | (simp;done) | (simp;omega) | omega
theorem Zsm {x:X} (h:x.ok=true):Z3b (x.row 0)=x.depth:=by
 unfold Z3b;rw [Zle x 0 [] h];rfl
theorem Zak {l:List XN} (h:Z3b l≠0):∃ x:X,x.ok=true∧l=x.row 0:=by
 unfold Z3b at h
 split at h
 ·rename_i y hy
  obtain ⟨F,h1,h2,h3⟩:=Zto l [] _ (by simp) (by simpa [Zae,Z7a] using hy)
  match F,h3 with
  | [x],_=>exact ⟨x,h1 x (by simp),by simpa [Zrn] using h2.symm⟩
  | [],h3=>simp [Z7a] at h3
  | _::_::_,h3=>simp [Z7a] at h3
 ·exact absurd rfl h
theorem X.depth_pos:∀ x:X,0<x.depth
 | .leaf .. => by simp [depth]
 | .un .. => by simp [depth]
 | .bin .. => by simp [depth]
 | .ite .. => by simp [depth]
end Go.Hs
end

section
namespace Go.Hs
def sgT (op:Nat):List UInt8:=(tabL.getD op ⟨[],0,0⟩).text
def wNot:List UInt8:=[110,111,116]
def wTrue:List UInt8:=[116,114,117,101]
def wFalse:List UInt8:=[102,97,108,115,101]
inductive Gr:Int→List (List UInt8)→X→Prop where
 | num {n:Int} {t:List UInt8} {v:Int}:isP t=1→Zlc (Z2e t)=(v,0)→Gr n [t] (.leaf 1 v [])
 | name {n:Int} {t:List UInt8}:isP t=2→Gr n [t] (.leaf 2 0 t)
 | tr {n:Int}:Gr n [wTrue] (.leaf 3 0 [])
 | fa {n:Int}:Gr n [wFalse] (.leaf 4 0 [])
 | neg {n:Int} {ts:List (List UInt8)} {a:X}:n≤9→Gr 9 ts a→Gr n ([45]::ts) (.un 5 a)
 | not {n:Int} {ts:List (List UInt8)} {a:X}:n≤9→Gr 9 ts a→Gr n (wNot::ts) (.un 6 a)
 | par {n:Int} {ts:List (List UInt8)} {a:X}:Gr 1 ts a→Gr n ([40]::(ts++[[41]])) a
 | bin {n:Int} {op:Nat} {ta tb:List (List UInt8)} {a b:X}:7≤op→op≤21→n≤lvl op→Gr (lvl op) ta a→Gr (lvl op+1) tb b→Gr n (ta++sgT op::tb) (.bin op a b)
 | ite {n:Int} {ta tb tc:List (List UInt8)} {a b c:X}:Gr 1 ta a→Gr 1 tb b→Gr 1 tc c→Gr n (wIf::(ta++Zpn::(tb++Zqn::(tc++[Zii])))) (.ite a b c)
theorem Gr.mono {n m:Int} {ts:List (List UInt8)} {x:X} (h:Gr n ts x) (hm:m≤n):Gr m ts x:=by
 cases h with
 | num h1 h2=>exact .num h1 h2
 | name h1=>exact .name h1
 | tr=>exact .tr
 | fa=>exact .fa
 | neg h1 h2=>exact .neg (by omega) h2
 | not h1 h2=>exact .not (by omega) h2
 | par h1=>exact .par h1
 | bin h1 h2 h3 h4 h5=>exact .bin h1 h2 (by omega) h4 h5
 | ite h1 h2 h3=>exact .ite h1 h2 h3
theorem lvl_rng:∀ op,7≤op→op≤21→1≤lvl op∧lvl op≤8∧ofI (sgT op) 2=some op∧isP (sgT op)≠0:=by
 have:((List.range 22).all fun op=>decide (7≤op→1≤lvl op∧lvl op≤8∧ofI (sgT op) 2=some op∧isP (sgT op)≠0))=true:=by decide +kernel
 intro op h1 h2;have:=List.all_eq_true.1 this op (List.mem_range.2 (by omega));simp only [decide_eq_true_eq] at this;exact this h1
theorem Gr.pos {n:Int} {ts:List (List UInt8)} {x:X} (h:Gr n ts x):0<ts.length:=by
 cases h<;>simp<;>omega
def Z8e (t:Tk):List UInt8:=if (isP t.text:Int)=t.kind then t.text else []
theorem Zl2 {l:List Tk} {i:Nat} {w:List UInt8} (h:(l.map Z8e)[i]? = some w):(Z5 l i).text=w∧(Z5 l i).kind=isP w:=by
 have hk:=Zel l i
 have:(Z5 l i).text=w:=by
  rw [List.getElem?_map] at h;unfold Z5
  cases hg:l[i]? with
  | none=>rw [hg] at h;cases h
  | some t =>
   rw [hg] at h;simp only [Option.map_some,Option.some.injEq] at h;simp only;rw [← h];unfold Z8e
   split<;>rfl
 exact ⟨this,by rw [← hk,this]⟩
theorem Zm2 {l:List Tk} {i:Nat} (h:i<l.length):(l.map Z8e)[i]? = some (Z5 l i).text:=by
 have hg:(l.map Z8e)[i]? = some (Z8e l[i]):=by rw [List.getElem?_map,List.getElem?_eq_getElem h];rfl
 rw [hg,(Zl2 hg).1]
def Seg (l:List Tk) (i:Nat) (ts:List (List UInt8)):Prop:=∃ pre post,l.map Z8e=pre++(ts++post)∧pre.length=i
theorem Seg.left {l:List Tk} {i:Nat} {a b:List (List UInt8)} (h:Seg l i (a++b)):Seg l i a:=by
 obtain ⟨pre,post,e,hp⟩:=h;exact ⟨pre,b++post,by rw [e];simp,hp⟩
theorem Seg.right {l:List Tk} {i:Nat} {a b:List (List UInt8)} (h:Seg l i (a++b)):Seg l (i+a.length) b:=by
 obtain ⟨pre,post,e,hp⟩:=h;exact ⟨pre++a,post,by rw [e];simp,by simp [hp]⟩
theorem Seg.head {l:List Tk} {i:Nat} {w:List UInt8} {b:List (List UInt8)} (h:Seg l i (w::b)):(Z5 l i).text=w∧(Z5 l i).kind=isP w:=by
 obtain ⟨pre,post,e,hp⟩:=h;refine Zl2 ?_;rw [e,List.getElem?_append_right (by omega),hp,Nat.sub_self];rfl
theorem Seg.tail {l:List Tk} {i:Nat} {w:List UInt8} {b:List (List UInt8)} (h:Seg l i (w::b)):Seg l (i+1) b:=Seg.right (a:=[w]) h
theorem Seg.le {l:List Tk} {i:Nat} {b:List (List UInt8)} (h:Seg l i b):i+b.length≤l.length:=by
 obtain ⟨pre,post,e,hp⟩:=h;have:=congrArg List.length e;simp only [List.length_map,List.length_append] at this;omega
theorem Seg.app {l:List Tk} {i:Nat} {a b:List (List UInt8)} (h:Seg l i a) (h2:Seg l (i+a.length) b):Seg l i (a++b):=by
 obtain ⟨pre,post,e,hp⟩:=h;obtain ⟨pre2,post2,e2,hp2⟩:=h2;refine ⟨pre,post2,?_,hp⟩;rw [e] at e2
 have h1:pre++(a++post)=(pre++a)++post:=by simp
 rw [h1] at e2;obtain ⟨q1,q2⟩:=List.append_inj e2 (by simp [hp,hp2]);rw [e,q2];simp
theorem Seg.one {l:List Tk} {i:Nat} {w:List UInt8} (hi:i<l.length) (h:(Z5 l i).text=w):Seg l i [w]:=by
 have hg:=Zm2 hi;rw [h] at hg;obtain ⟨q1,q2⟩:=List.getElem?_eq_some_iff.1 hg;refine ⟨(l.map Z8e).take i,(l.map Z8e).drop (i+1),?_,?_⟩
 ·rw [← q2,List.singleton_append,← List.drop_eq_getElem_cons q1,List.take_append_drop]
 ·rw [List.length_take];omega
theorem Zmo {l:List Tk} {inner:Inner} (h:Mono inner) (n:Int):∀ (m m':Nat) (r:RS),l.length<m+r.i→l.length<m'+r.i→Z6b l inner n m r=Z6b l inner n m' r
 | 0,m',r,h1,_=>by
  cases m' with
  | zero=>rfl
  | succ m' =>
   rw [Z6b,Z6b]
   cases ho:Zzi l r.i with
   | none=>rfl
   | some op=>have:=Zyh ho;omega
 | m+1,0,r,_,h2=>by
  rw [Z6b,Z6b]
  cases ho:Zzi l r.i with
  | none=>rfl
  | some op=>have:=Zyh ho;omega
 | m+1,m'+1,r,h1,h2=>by
  rw [Z6b,Z6b]
  cases ho:Zzi l r.i with
  | none=>rfl
  | some op =>
   simp only
   split
   ·rfl
   ·refine Zdq fun _=>?_
    have h3:r.i+1≤_:=h (lvl op+1) r.adv;exact Zmo h n m m' _ (by simp only [Zsj];omega) (by simp only [Zsj];omega)
def after (r:RS) (k:Nat) (x:X):RS:=⟨r.i+k,r.nodes++x.row r.nodes.length,r.e⟩
theorem Znb (r:RS) (k:Nat) (x:X):(after r k x).last=(r.nodes.length:Int)+x.size-1:=by
 show (((r.nodes++x.row r.nodes.length).length:Nat):Int)-1=_
 rw [List.length_append,X.row_len];omega
theorem Zws {l:List Tk} {inner:Inner} {n:Int} {m:Nat} {r:RS} (h:Zl7 l n r.i):Z6b l inner n m r=(true,r):=by
 cases m with
 | zero=>rfl
 | succ m =>
  rw [Z6b]
  cases ho:Zzi l r.i with
  | none=>rfl
  | some op=>simp only;rw [if_pos (h op ho)]
theorem Zrs {l:List Tk} {i:Nat} {w:List UInt8} (h:(Z5 l i).text=w):Zzi l i=ofI w 2:=by rw [Zmp,h]
theorem Zqg {l:List Tk} {i:Nat} {w:List UInt8} (n:Int) (h:(Z5 l i).text=w) (hw:ofI w 2=none):Zl7 l n i:=by
 intro op ho;rw [Zrs h,hw] at ho;cases ho
theorem Zbt {l:List Tk} {r:RS} {w:List UInt8} (h:(Z5 l r.i).text=w∧(Z5 l r.i).kind=isP w) (hw:isP w≠0):Z7e l w r=(true,r.adv):=by
 unfold Z7e;rw [if_neg];rintro (q | q)
 ·rw [h.2] at q;omega
 ·exact q h.1
theorem Gr.climb {l:List Tk} {k:Int} {ts:List (List UInt8)} {x:X} (h:Gr k ts x):∀ (n:Int) (f M:Nat) (r:RS),Seg l r.i ts→n≤k→n≤9→l.length≤f+r.i→l.length<M+r.i →
  (∀ op,Zzi l (r.i+ts.length)=some op→lvl op≤k)→andThen (Zla l (Zw l f) r) (Z6b l (Zw l f) n M)=Z6b l (Zw l f) n M (after r ts.length x):=by
 have inner:∀ {k:Int} {ts:List (List UInt8)} {x:X},(∀ (n:Int) (f M:Nat) (r:RS),Seg l r.i ts→n≤k→n≤9→l.length≤f+r.i→l.length<M+r.i →
   (∀ op,Zzi l (r.i+ts.length)=some op→lvl op≤k)→andThen (Zla l (Zw l f) r) (Z6b l (Zw l f) n M)=Z6b l (Zw l f) n M (after r ts.length x)) →
   ∀ (f:Nat) (r:RS),Seg l r.i ts→k≤9→l.length+1≤f+r.i→Zl7 l k (r.i+ts.length)→Zw l f k r=(true,after r ts.length x):=by
  intro k ts x ih f r hs hk hf he
  cases f with
  | zero=>have:=hs.le;omega
  | succ f =>
   rw [Zw,ih k f (l.length+1) r hs (Int.le_refl _) hk (by omega) (by omega) (fun op ho=>by have:=he op ho;omega)];exact Zws he
 have ends9:∀ i,Zl7 l 9 i:=fun i op ho=>by have:=Zxx ho;omega
 induction h with
 | @num k t v h1 h2 =>
  intro n f M r hs _ _ _ _ _;obtain ⟨e1,e2⟩:=hs.head
  have:Zla l (Zw l f) r=(true,after r 1 (.leaf 1 v [])):=by
   unfold Zla;rw [e2,e1,h1,if_pos (by decide)];unfold Zpc;rw [h2,if_neg (by simp)];rfl
  rw [this];rfl
 | @name k t h1 =>
  intro n f M r hs _ _ _ _ _;obtain ⟨e1,e2⟩:=hs.head
  have:Zla l (Zw l f) r=(true,after r 1 (.leaf 2 0 t)):=by
   unfold Zla;rw [e2,e1,h1,if_neg (by decide),if_pos (by decide)];rfl
  rw [this];rfl
 | @tr k =>
  intro n f M r hs _ _ _ _ _;obtain ⟨e1,e2⟩:=hs.head
  have:Zla l (Zw l f) r=(true,after r 1 (.leaf 3 0 [])):=by
   unfold Zla;rw [e2,e1];rfl
  rw [this];rfl
 | @fa k =>
  intro n f M r hs _ _ _ _ _;obtain ⟨e1,e2⟩:=hs.head
  have:Zla l (Zw l f) r=(true,after r 1 (.leaf 4 0 [])):=by
   unfold Zla;rw [e2,e1];rfl
  rw [this];rfl
 | @neg k ts a h1 h2 ih =>
  intro n f M r hs _ _ hf _ _;obtain ⟨e1,e2⟩:=hs.head;have hc:=inner ih f r.adv hs.tail (Int.le_refl _) (by show _≤f+(r.i+1);omega) (ends9 _)
  have:Zla l (Zw l f) r=(true,after r (ts.length+1) (.un 5 a)):=by
   have:Zla l (Zw l f) r=andThen (Zw l f 9 r.adv) fun a=>(true,a.put ⟨5,0,[],a.last,-1,-1⟩):=by
    unfold Zla;rw [e2,e1];rfl
   rw [this,hc,Zaa,Znb]
   show (true,RS.mk _ _ _)=(true,RS.mk _ _ _)
   congr 2
   ·show r.i+1+ts.length=r.i+(ts.length+1);omega
   ·show (r.nodes++_)++[_]=r.nodes++(_++[_])
    rw [List.append_assoc];rfl
  rw [this];rfl
 | @not k ts a h1 h2 ih =>
  intro n f M r hs _ _ hf _ _;obtain ⟨e1,e2⟩:=hs.head;have hc:=inner ih f r.adv hs.tail (Int.le_refl _) (by show _≤f+(r.i+1);omega) (ends9 _)
  have:Zla l (Zw l f) r=(true,after r (ts.length+1) (.un 6 a)):=by
   have:Zla l (Zw l f) r=andThen (Zw l f 9 r.adv) fun a=>(true,a.put ⟨6,0,[],a.last,-1,-1⟩):=by
    unfold Zla;rw [e2,e1];rfl
   rw [this,hc,Zaa,Znb]
   show (true,RS.mk _ _ _)=(true,RS.mk _ _ _)
   congr 2
   ·show r.i+1+ts.length=r.i+(ts.length+1);omega
   ·show (r.nodes++_)++[_]=r.nodes++(_++[_])
    rw [List.append_assoc];rfl
  rw [this];rfl
 | @par k ts a h1 ih =>
  intro n f M r hs _ _ hf _ _;obtain ⟨e1,e2⟩:=hs.head;have h41:=hs.tail.right.head;have hc:=inner ih f r.adv hs.tail.left (by decide) (by show _≤f+(r.i+1);omega) (Zqg 1 h41.1 (by decide +kernel))
  have:Zla l (Zw l f) r=(true,after r (ts.length+2) a):=by
   have:Zla l (Zw l f) r=andThen (Zw l f 1 r.adv) (Z7e l [41]):=by
    unfold Zla;rw [e2,e1];rfl
   rw [this,hc,Zaa,Zbt h41 (by decide +kernel)]
   show (true,RS.mk _ _ _)=(true,RS.mk _ _ _)
   congr 2
   show r.i+1+ts.length+1=r.i+(ts.length+2);omega
  rw [this,Zaa]
  congr 1
  show RS.mk _ _ _=RS.mk _ _ _
  congr 1
  simp only [List.length_cons,List.length_append,List.length_nil]
 | @bin k op ta tb a b h1 h2 h3 h4 h5 iha ihb =>
  intro n f M r hs hn hn9 hf hM ho;obtain ⟨l1,l2,l3,l4⟩:=lvl_rng op h1 h2;have hso:=hs.right.head
  have hop:Zzi l (r.i+ta.length)=some op:=by rw [Zrs hso.1,l3]
  rw [iha n f M r hs.left (by omega) hn9 hf hM (fun op' ho'=>by rw [hop] at ho';cases ho';exact Int.le_refl _)];have hle:=hs.le;simp only [List.length_append,List.length_cons] at hle;obtain ⟨M,rfl⟩:∃ m,M=m+1:=⟨M-1,by omega⟩;rw [Z6b];have:Zzi l (after r ta.length a).i=some op:=hop;rw [this];simp only;rw [if_neg (by omega)]
  have hend:Zl7 l (lvl op+1) (r.i+ta.length+1+tb.length):=by
   intro op' ho';have:=ho op' (by rw [← ho'];congr 1;simp only [List.length_append,List.length_cons];omega);omega
  have hc:=inner ihb f (after r ta.length a).adv hs.right.tail (by omega) (by show _≤f+(r.i+ta.length+1);omega) hend;rw [hc,Zaa,Znb,Znb]
  have hL:l.length<M+(r.i+ta.length+1+tb.length):=by omega
  have he:RS.put (after (after r ta.length a).adv tb.length b) ⟨(op:Int),0,[],(r.nodes.length:Int)+a.size-1,((after r ta.length a).adv.nodes.length:Int)+b.size-1,-1⟩=after r (ta++sgT op::tb).length (.bin op a b):=by
   have hl:(after r ta.length a).adv.nodes=r.nodes++a.row r.nodes.length:=rfl
   show RS.mk _ _ _=RS.mk _ _ _
   congr 1
   ·show r.i+ta.length+1+tb.length=r.i+(ta++sgT op::tb).length
    simp only [List.length_append,List.length_cons];omega
   ·show (after r ta.length a).adv.nodes++b.row ((after r ta.length a).adv.nodes.length:Nat)++[_]=_
    rw [hl,List.length_append,X.row_len];simp only [X.row,List.append_assoc,Int.natCast_add]
  rw [he];exact Zmo (Zvf l f) n M (M+1) _ (by show _<M+(r.i+_);simp only [List.length_append,List.length_cons];omega) (by show _<M+1+(r.i+_);simp only [List.length_append,List.length_cons];omega)
 | @ite k ta tb tc a b c h1 h2 h3 iha ihb ihc =>
  intro n f M r hs _ _ hf _ _;obtain ⟨e1,e2⟩:=hs.head;have s1:=hs.tail;have s2:=s1.right;have s3:=s2.tail.right;have s4:=s3.tail.right;have c1:=inner iha f r.adv s1.left (by decide) (by show _≤f+(r.i+1);omega) (Zqg 1 s2.head.1 (by decide +kernel));have c2:=inner ihb f (after r.adv ta.length a).adv s2.tail.left (by decide) (by show _≤f+(r.i+1+ta.length+1);omega) (Zqg 1 s3.head.1 (by decide +kernel));have c3:=inner ihc f (after (after r.adv ta.length a).adv tb.length b).adv s3.tail.left (by decide) (by show _≤f+(r.i+1+ta.length+1+tb.length+1);omega) (Zqg 1 s4.head.1 (by decide +kernel))
  have:Zla l (Zw l f) r=(true,after r (wIf::(ta++Zpn::(tb++Zqn::(tc++[Zii])))).length (.ite a b c)):=by
   have:Zla l (Zw l f) r=Zua l (Zw l f) r:=by
    unfold Zla;rw [e2,e1];rfl
   rw [this];unfold Zua
   rw [Zbt ⟨e1,e2⟩ (by decide +kernel),Zaa,c1,Zaa,Zbt s2.head (by decide +kernel),Zaa,c2,Zaa,Zbt s3.head (by decide +kernel),Zaa,c3,Zaa,
    Zbt s4.head (by decide +kernel),Zaa,Znb,Znb,Znb]
   show (true,RS.mk _ _ _)=(true,RS.mk _ _ _)
   congr 2
   ·show r.i+1+ta.length+1+tb.length+1+tc.length+1=_
    simp only [List.length_append,List.length_cons,List.length_nil];omega
   ·have q1:(after r.adv ta.length a).adv.nodes=r.nodes++a.row r.nodes.length:=rfl
    have q2:(after (after r.adv ta.length a).adv tb.length b).adv.nodes=(after r.adv ta.length a).adv.nodes++b.row ((after r.adv ta.length a).adv.nodes.length:Nat):=rfl
    show (after (after r.adv ta.length a).adv tb.length b).adv.nodes++c.row ((after (after r.adv ta.length a).adv tb.length b).adv.nodes.length:Nat)++[_]=_
    have q3:r.adv.nodes=r.nodes:=rfl;simp only [q2,q1,q3,List.length_append,X.row_len,X.row,List.append_assoc,Int.natCast_add,Int.add_assoc]
  rw [this];rfl
theorem Zc2 {t:List UInt8} (h:isP t=1):0≤(Zlc (Z2e t)).1:=by
 have hd:=(isP_dig h).2
 have h1:(Z2e t).all Zya=true∧Z2e t≠[]:=by
  unfold Z2e
  split
  ·exact ⟨by decide,by simp⟩
  ·rename_i hn
   refine ⟨?_,hn⟩;rw [List.all_eq_true] at hd ⊢;exact fun x hx=>hd x ((List.dropWhile_sublist _).mem hx)
 obtain ⟨h1,h2⟩:=h1;generalize Z2e t=s at h1 h2
 have hh':(s.head? == some 45)=false:=by
  cases s with
  | nil=>exact absurd rfl h2
  | cons c r =>
   rw [beq_eq_false_iff_ne];intro hc
   have hc:c=45:=by simpa using hc
   subst hc;rw [List.all_cons] at h1
   revert h1
   simp [Zya]
 unfold Zlc;rw [hh'];simp only [Bool.false_eq_true,if_false,or_false]
 split
 ·exact Int.le_refl _
 ·unfold told
  split
  ·exact Int.natCast_nonneg _
  ·exact Int.le_refl _
theorem Gr.ok {n:Int} {ts:List (List UInt8)} {x:X} (h:Gr n ts x):x.ok=true:=by
 induction h with
 | @num n t v h1 h2 =>
  have hp:=Zc2 h1;rw [h2] at hp;have hp:0≤v:=hp
  have:Zyd ⟨1,v,[],-1,-1,-1⟩=true:=by
   unfold Zyd;rw [if_neg (by simp;omega),if_neg (by simp)];rfl
  simp only [X.ok,this,Bool.true_and];rfl
 | @name n t h1 =>
  have:Zyd ⟨2,0,t,-1,-1,-1⟩=true:=by
   unfold Zyd;rw [if_neg (by simp),if_pos rfl,h1];rfl
  simp only [X.ok,this,Bool.true_and];rfl
 | tr=>rfl
 | fa=>rfl
 | neg _ _ ih=>simp only [X.ok,ih,Bool.and_true];rfl
 | not _ _ ih=>simp only [X.ok,ih,Bool.and_true];rfl
 | par _ ih=>exact ih
 | bin h1 h2 _ _ _ ih1 ih2 =>
  simp only [X.ok,ih1,ih2,Bool.and_true,Bool.and_eq_true,decide_eq_true_eq];omega
 | ite _ _ _ i1 i2 i3=>simp only [X.ok,i1,i2,i3];rfl
def Zyo (l:List Tk) (n:Int) (r r':RS):Prop:=∃ ts x,Gr n ts x∧Seg l r.i ts∧r'=after r ts.length x
theorem Zpm {l:List Tk} {w:List UInt8} {r:RS} (h:(Z7e l w r).1=true):Z7e l w r=(true,r.adv)∧Seg l r.i [w]:=by
 unfold Z7e at h ⊢
 split at h
 ·cases h
 ·rename_i hn
  rw [if_neg hn];simp only [not_or,Decidable.not_not] at hn;exact ⟨rfl,Seg.one (Zxe hn.1) hn.2⟩
theorem Zyc {x:Bool × RS} {k:RS→Bool × RS} (h:(andThen x k).1=true):x.1=true∧(k x.2).1=true∧andThen x k=k x.2:=by
 obtain ⟨b,r⟩:=x;cases b
 ·cases h
 ·exact ⟨rfl,h,rfl⟩
theorem Zos (r:RS) (k:Nat) (x:X) (n:XN):(after r k x).put n=⟨r.i+k,r.nodes++(x.row r.nodes.length++[n]),r.e⟩:=by
 show RS.mk _ _ _=_
 congr 1
 show r.nodes++_++[n]=_
 rw [List.append_assoc]
theorem sgT_of {t:List UInt8} {op:Nat} (h:ofI t 2=some op):sgT op=t:=by
 obtain ⟨s,h1,h2,_⟩:=Zdl h;unfold sgT;rw [List.getD_eq_getElem?_getD,h1];exact h2
theorem Zd4 {l:List Tk} {inner:Inner} (hin:∀ n r,n=1∨n=9→(inner n r).1=true→Zyo l n r (inner n r).2) {r:RS} (h:(Zla l inner r).1=true):Zyo l 9 r (Zla l inner r).2:=by
 have hk:=Zel l r.i;have hlt:(Z5 l r.i).kind≠0→r.i<l.length:=Zxe
 have hP:Zla l inner r=if (Z5 l r.i).kind=1 then Zpc r (Z5 l r.i).text
  else if (Z5 l r.i).kind=2 then Z0k r 2 0 (Z5 l r.i).text
  else if (Z5 l r.i).kind=0 then (false,r.err 80)
  else if (ofP (Z5 l r.i).text 1).2 then andThen (inner 9 r.adv) fun a=>(true,a.put ⟨(ofP (Z5 l r.i).text 1).1,0,[],a.last,-1,-1⟩)
  else if (Z5 l r.i).text=[40] then andThen (inner 1 r.adv) (Z7e l [41])
  else if (Z5 l r.i).text=wIf then Zua l inner r
  else if (ofP (Z5 l r.i).text 0).2∧(Z5 l r.i).kind=3 then Z0k r (ofP (Z5 l r.i).text 0).1 0 []
  else (false,r.err 80):=rfl
 generalize Zla l inner r=res at h hP ⊢
 by_cases k0:(Z5 l r.i).kind=0
 ·rw [k0] at hP
  rw [if_neg (by decide),if_neg (by decide),if_pos rfl] at hP;rw [hP] at h;cases h
 have hone:=Seg.one (l:=l) (i:=r.i) (hlt k0) rfl;generalize Z5 l r.i=t at hP hk hone k0;obtain ⟨k,t,p⟩:=t;simp only at hP hk hone k0
 by_cases k1:k=1
 ·rw [if_pos k1] at hP
  have ht:isP t=1:=by omega
  unfold Zpc at hP
  by_cases he:(Zlc (Z2e t)).2=0
  ·rw [if_neg (by simpa using he)] at hP
   refine ⟨[t],.leaf 1 (Zlc (Z2e t)).1 [],.num ht (by rw [← he]),hone,by rw [hP];rfl⟩
  ·rw [if_pos he] at hP
   rw [hP] at h;cases h
 rw [if_neg k1] at hP
 by_cases k2:k=2
 ·rw [if_pos k2] at hP
  exact ⟨[t],.leaf 2 0 t,.name (by omega),hone,by rw [hP];rfl⟩
 rw [if_neg k2,if_neg k0] at hP
 cases h1:ofI t 1 with
 | some op =>
  have e1:ofP t 1=(op,true):=by unfold ofP;rw [h1]
  rw [e1,if_pos rfl] at hP;rw [hP] at h;obtain ⟨q1,_,q3⟩:=Zyc h;obtain ⟨ts,x,g1,g2,g3⟩:=hin 9 r.adv (.inr rfl) q1;rw [q3] at hP;simp only at hP;rw [g3] at hP;have hs:Seg l r.i (t::ts):=hone.app (b:=ts) g2
  have hres:res.2=after r (ts.length+1) (.un op x):=by
   rw [hP,Znb];simp only [Zos]
   show RS.mk _ _ _=RS.mk _ _ _
   congr 1
   show r.i+1+ts.length=_
   omega
  rcases ofI_one h1 with ⟨rfl,rfl⟩ | ⟨rfl,rfl⟩
  ·exact ⟨_,_,.neg (Int.le_refl _) g1,hs,hres⟩
  ·exact ⟨_,_,.not (Int.le_refl _) g1,hs,hres⟩
 | none =>
 have e1:(ofP t 1).2=false:=by unfold ofP;rw [h1]
 rw [e1,if_neg (by simp)] at hP
 by_cases h2:t=[40]
 ·rw [if_pos h2] at hP
  subst h2;rw [hP] at h;obtain ⟨q1,q2,q3⟩:=Zyc h;obtain ⟨ts,x,g1,g2,g3⟩:=hin 1 r.adv (.inl rfl) q1;rw [q3,g3] at hP;rw [g3] at q2;obtain ⟨q4,q5⟩:=Zpm q2;rw [q4] at hP;refine ⟨_,_,.par g1,hone.app (b:=ts++[[41]]) (g2.app q5),?_⟩;rw [hP]
  show RS.mk _ _ _=RS.mk _ _ _
  congr 1
  show r.i+1+ts.length+1=_
  simp only [List.length_cons,List.length_append,List.length_nil];omega
 rw [if_neg h2] at hP
 by_cases h3:t=wIf
 ·rw [if_pos h3] at hP
  subst h3;unfold Zua at hP;rw [hP] at h;obtain ⟨a1,a2,a3⟩:=Zyc h;obtain ⟨b1,b2⟩:=Zpm a1;rw [a3] at hP;rw [b1] at hP a2;simp only at hP a2;obtain ⟨c1,c2,c3⟩:=Zyc a2;obtain ⟨ta,xa,ga,sa,ra⟩:=hin 1 r.adv (.inl rfl) c1;rw [c3,ra] at hP;rw [ra] at c2;obtain ⟨d1,d2,d3⟩:=Zyc c2;obtain ⟨e1,e2⟩:=Zpm d1;rw [d3,e1] at hP;rw [e1] at d2;simp only at hP d2;obtain ⟨f1,f2,f3⟩:=Zyc d2;obtain ⟨tb,xb,gb,sb,rb⟩:=hin 1 _ (.inl rfl) f1;rw [f3,rb] at hP;rw [rb] at f2;obtain ⟨i1,i2,i3⟩:=Zyc f2;obtain ⟨j1,j2⟩:=Zpm i1;rw [i3,j1] at hP;rw [j1] at i2;simp only at hP i2;obtain ⟨k1,k2,k3⟩:=Zyc i2;obtain ⟨tc,xc,gc,sc,rc⟩:=hin 1 _ (.inl rfl) k1;rw [k3,rc] at hP;rw [rc] at k2;obtain ⟨m1,m2,m3⟩:=Zyc k2;obtain ⟨n1,n2⟩:=Zpm m1;rw [m3,n1] at hP;simp only [Znb] at hP;refine ⟨_,_,.ite ga gb gc,?_,?_⟩
  ·exact hone.app (b:=_) (sa.app (e2.app (b:=_) (sb.app (j2.app (b:=_) (sc.app n2)))))
  ·rw [hP]
   show RS.mk _ _ _=RS.mk _ _ _
   congr 1
   ·show r.i+1+ta.length+1+tb.length+1+tc.length+1=_
    simp only [List.length_append,List.length_cons,List.length_nil];omega
   ·have q1:(after r.adv ta.length xa).adv.nodes=r.nodes++xa.row r.nodes.length:=rfl
    have q2:(after (after r.adv ta.length xa).adv tb.length xb).adv.nodes=(after r.adv ta.length xa).adv.nodes++xb.row ((after r.adv ta.length xa).adv.nodes.length:Nat):=rfl
    show (after (after r.adv ta.length xa).adv tb.length xb).adv.nodes++xc.row ((after (after r.adv ta.length xa).adv tb.length xb).adv.nodes.length:Nat)++[_]=_
    have q3:r.adv.nodes=r.nodes:=rfl;simp only [q2,q1,q3,List.length_append,X.row_len,X.row,List.append_assoc,Int.natCast_add,Int.add_assoc]
 rw [if_neg h3] at hP
 cases h4:ofI t 0 with
 | none =>
  have e0:(ofP t 0).2=false:=by unfold ofP;rw [h4]
  rw [e0,if_neg (by simp)] at hP;rw [hP] at h;cases h
 | some op =>
  have e0:ofP t 0=(op,true):=by unfold ofP;rw [h4]
  rw [e0] at hP
  have hk3:k=3:=by
   rcases Znp h4 with ⟨rfl,_⟩ | ⟨rfl,_⟩
   ·rw [← hk];decide +kernel
   ·rw [← hk];decide +kernel
  rw [if_pos ⟨rfl,hk3⟩] at hP
  rcases Znp h4 with ⟨rfl,rfl⟩ | ⟨rfl,rfl⟩
  ·exact ⟨_,_,.tr,hone,by rw [hP];rfl⟩
  ·exact ⟨_,_,.fa,hone,by rw [hP];rfl⟩
theorem Z2x {l:List Tk} {inner:Inner} (hin:∀ n r,1≤n→n≤9→(inner n r).1=true→Zyo l n r (inner n r).2∧Zl7 l n (inner n r).2.i) {n:Int} {r0:RS} :
  ∀ (m:Nat) (r:RS) (k:Int) (ts:List (List UInt8)) (x:X),Gr k ts x→Seg l r0.i ts→r=after r0 ts.length x→n≤k→(∀ op,Zzi l r.i=some op→lvl op≤k)→(Z6b l inner n m r).1=true→Zyo l n r0 (Z6b l inner n m r).2
 | 0,r,k,ts,x,g,s,e,hk,_,_=>⟨ts,x,g.mono hk,s,e⟩
 | m+1,r,k,ts,x,g,s,e,hk,ho,h=>by
  rw [Z6b] at h ⊢
  cases hop:Zzi l r.i with
  | none=>exact ⟨ts,x,g.mono hk,s,e⟩
  | some op =>
   rw [hop] at h;simp only at h ⊢
   by_cases hl:lvl op<n
   ·rw [if_pos hl];exact ⟨ts,x,g.mono hk,s,e⟩
   rw [if_neg hl] at h ⊢;obtain ⟨p1,p2,p3,p4⟩:=Zxx hop;obtain ⟨q1,q2,q3⟩:=Zyc h;obtain ⟨⟨tb,b,gb,sb,rb⟩,hend⟩:=hin (lvl op+1) r.adv (by omega) (by omega) q1;rw [q3];have hw:sgT op=(Z5 l r.i).text:=sgT_of (by rw [← Zmp];exact hop);have hg2:Gr (lvl op) (ts++sgT op::tb) (.bin op x b) := .bin p1 p2 (Int.le_refl _) (g.mono (ho op hop)) gb
   have hri:r.i=r0.i+ts.length:=by rw [e];rfl
   have hone:Seg l r.i [sgT op]:=Seg.one (Zyh hop) hw.symm;have hs2:Seg l r0.i (ts++sgT op::tb):=s.app (by rw [← hri];exact hone.app (b:=tb) sb);rw [rb] at q2 hend ⊢
   have he2:(after r.adv tb.length b).put ⟨(op:Int),0,[],r.last,(after r.adv tb.length b).last,-1⟩=after r0 (ts++sgT op::tb).length (.bin op x b):=by
    rw [Znb,Zos,e,Znb]
    show RS.mk _ _ _=RS.mk _ _ _
    congr 1
    ·show r0.i+ts.length+1+tb.length=_
     simp only [List.length_append,List.length_cons];omega
    ·have q1:(after r0 ts.length x).adv.nodes=r0.nodes++x.row r0.nodes.length:=rfl
     simp only [q1,List.length_append,X.row_len,X.row,List.append_assoc,Int.natCast_add]
   refine Z2x hin m _ (lvl op) _ _ hg2 hs2 he2 (by omega) ?_ q2;intro op' ho';have:=hend op' ho';omega
theorem Zft {l:List Tk}:∀ (f:Nat) (n:Int) (r:RS),1≤n→n≤9→(Zw l f n r).1=true→Zyo l n r (Zw l f n r).2
 | 0,n,r,_,_,h=>by cases h
 | f+1,n,r,h1,h9,h=>by
  rw [Zw] at h ⊢;obtain ⟨q1,q2,q3⟩:=Zyc h;have hin:∀ n r,1≤n→n≤9→(Zw l f n r).1=true→Zyo l n r (Zw l f n r).2:=fun n r a b c=>Zft f n r a b c;obtain ⟨ts,x,g,s,e⟩:=Zd4 (fun n r hn hb=>hin n r (by omega) (by omega) hb) q1;rw [q3];exact Z2x (fun n r a b c=>⟨hin n r a b c,Z8v c⟩) _ _ 9 ts x g s e h9 (fun op ho=>by have:=Zxx ho;omega) q2
end Go.Hs
end

section
namespace Go.Hs
open Go.Proofs
set_option maxRecDepth 10000
theorem Z9o (G:Nat→V) (s:List UInt8):Spec Tryz.prog G 168 [.str s,.str [48]] Zk (fun v _=>v = .str (s.dropWhile (· == 48))):=by
 refine Z7c fun X cargs _ _ hA=>?_;obtain ⟨x,y,rfl,hx,hy⟩:=hA.two;obtain ⟨s',rfl,rfl⟩:=hx.str_inv;obtain ⟨p',rfl,hp⟩:=hy.str_inv
 obtain rfl:p'=⟨#[48]⟩:=by
  obtain ⟨⟨l⟩⟩:=p';simp at hp;rw [hp]
 refine (show Calls Tryz.prog 168 _ _ _ from Any.strings_TrimLeft_one Zvw s' 48 (by decide) X.w).mono ?_;rintro e w' ⟨rfl,rfl⟩;exact ⟨_,_,rfl,RowKit.Below.refl _ _,.str _ _ rfl,by simp [Lib.trimLeftB]⟩
theorem Zwj (G:Nat→V) (hG:GOk G) (sl:Sl Tk) (g:Nat) (r:RS) (hi:r.i<1000000) (hr:r.nodes.length<1000000) (op num:Int) (name:List UInt8) (x y z:Int) :
  RdS 1031 [.func (.func 78) [] []] G 143 [Z3 ⟨op,num,name,x,y,z⟩] sl g r (.bool true) (Z0k r op num name).2:=by
 intro gx;refine Zo 1000 15 [.tmp 4] Tryz.func143 fun X=>?_
 have hw:IntKind.i64.wrap ((r.i:Int)+1)=((r.i+1:Nat):Int):=by rw [w64 (by omega) (by omega)];omega
 simp only [Zha,Zfd,Zt];refine Z1 ?_;intro g3;refine Z1f hw ?_;refine Z1 ?_;rw [← Zt ⟨op,num,name,x,y,z⟩];refine RdS.call hG (Zgi G hG sl g r.adv hr ⟨op,num,name,x,y,z⟩ .any .nil (by decide)) (gx:=gx) (by kernel_rfl) (fun F=>rfl) (by decide) (by first | rfl | (simp -implicitDefEqProofs only[go_sem,seval,↓reduceIte,List.map_cons,List.map_nil,Zt];try rfl)) zm zr zr fun gx'=>?_;simp -implicitDefEqProofs only[go_sem,seval,↓reduceIte,Zha];refine Z ?_;exact ⟨rfl,gx',by simp -implicitDefEqProofs only[go_sem,seval,↓reduceIte];rfl,by simp -implicitDefEqProofs only[go_sem,seval,↓reduceIte];rfl⟩
theorem Zll (G:Nat→V) (hE:GExp G) (sl:Sl Tk) (hT:TkOk sl.l) (g:Nat) (r:RS) (hi:r.i<1000000) (w:List UInt8) :
  RdS 1031 [.func (.func 78) [] []] G 144 [.str w] sl g r (.bool (Z7e sl.l w r).1) (Z7e sl.l w r).2:=by
 have hG:=hE.ok;intro gx;refine Zo 1000 27 [.tmp 4] Tryz.func144 fun X=>?_
 have hw:IntKind.i64.wrap ((r.i:Int)+1)=((r.i+1:Nat):Int):=by rw [w64 (by omega) (by omega)];omega
 refine Z1 ?_;refine Z1 ?_;refine RdS.call hG (Zvj G hE sl hT g r hi) (gx:=gx) (by kernel_rfl) (fun F=>rfl) (by decide) (by first | rfl | (simp -implicitDefEqProofs only[go_sem,seval,↓reduceIte,List.map_cons,List.map_nil,Zt];try rfl)) zm zr zr fun gx'=>?_;simp -implicitDefEqProofs only[go_sem,seval,↓reduceIte,Zha];refine Zsf @Zsd ?_;intro g5
 have hP:Z7e sl.l w r=if (Z5 sl.l r.i).kind=0∨(Z5 sl.l r.i).text≠w then (false,r.err 80) else (true,r.adv):=rfl
 generalize Z5 sl.l r.i=t at hP ⊢;obtain ⟨k,t,p⟩:=t;simp only at hP
 by_cases hk:k=0
 ·have e1:(k==0)=true:=by simpa using hk
  rw [if_pos (.inl hk)] at hP;refine Z1f e1 ?_;refine Zh rfl (fun h2=>?_) (fun h2=>?_)
  ·refine Zf @Zfd ?_
   rw [hP];exact ⟨rfl,gx',by simp -implicitDefEqProofs only[go_sem,seval,↓reduceIte];rfl,by simp -implicitDefEqProofs only[go_sem,seval,↓reduceIte];rfl⟩
  ·cases h2
 ·have e1:(k==0)=false:=by simpa using hk
  by_cases ht:t=w
  ·have e2:(t==w)=true:=by simpa using ht
   rw [if_neg (by rintro (h | h);exact hk h;exact h ht)] at hP;refine Ztc (by kernel_rfl) ?_;simp -implicitDefEqProofs only[go_sem,seval,↓reduceIte,e1,bne,e2];refine Zbd rfl ?_
   ·refine Zf (zi @Zfd hw) ?_
    rw [hP];exact ⟨rfl,gx',by simp -implicitDefEqProofs only[go_sem,seval,↓reduceIte];rfl,by simp -implicitDefEqProofs only[go_sem,seval,↓reduceIte];rfl⟩
  ·have e2:(t==w)=false:=by simpa using ht
   rw [if_pos (.inr ht)] at hP;refine Ztc (by kernel_rfl) ?_;simp -implicitDefEqProofs only[go_sem,seval,↓reduceIte,e1,bne,e2];refine Zh rfl (fun h2=>?_) (fun h2=>?_)
   ·refine Zf @Zfd ?_
    rw [hP];exact ⟨rfl,gx',by simp -implicitDefEqProofs only[go_sem,seval,↓reduceIte];rfl,by simp -implicitDefEqProofs only[go_sem,seval,↓reduceIte];rfl⟩
   ·cases h2
theorem Zh1 (t:List UInt8):(Z2e t).length≤t.length+1:=by
 unfold Z2e
 split
 ·simp
 ·exact Nat.le_trans ((List.dropWhile_sublist _).length_le) (Nat.le_succ _)
theorem Zxr (G:Nat→V) (hE:GExp G) (sl:Sl Tk) (g:Nat) (r:RS) (hi:r.i<1000000) (hr:r.nodes.length<1000000) (t:List UInt8) (ht:t.length<100000) :
  RdS 1031 [.func (.func 78) [] []] G 142 [.str t] sl g r (.bool (Zpc r t).1) (Zpc r t).2:=by
 have hG:=hE.ok;intro gx;refine Zo 1000 26 [.tmp 4] Tryz.func142 fun X=>?_;refine Z1 ?_;refine Z1 ?_;refine Zc hG ?_ (s:=(Z9o G t))
 have hT0:Z2e t=if t.dropWhile (· == 48)=[] then [48] else t.dropWhile (· == 48):=rfl
 have hP:Zpc r t=if (Zlc (Z2e t)).2≠0 then (false,r.err (Zlc (Z2e t)).2) else Z0k r 1 (Zlc (Z2e t)).1 []:=rfl
 have hl:=Zh1 t;refine Zob (fun (_:Unit)=>st [(0,.ptr 8 g 0),(1,.str (Z2e t))] [(8,rdO 1031 [.func (.func 78) [] []] sl g gx r),(1031,ndO gx r.nodes)]) (fun _=>True) (fun K1 hK1=>?_) ?_
 ·rw [hT0] at hK1
  refine Z1 ?_;refine Zh rfl (fun h2=>?_) (fun h2=>?_)
  ·have h2:t.dropWhile (· == 48)=[]:=by simpa using h2
   rw [if_pos h2] at hK1;refine Z1 ?_;exact hK1 _ () trivial (Zg zp (by simp -implicitDefEqProofs only[go_sem,seval,↓reduceIte,Zha]))
  ·have h2:¬ t.dropWhile (· == 48)=[]:=by simpa using h2
   rw [if_neg h2] at hK1;refine Z0 ?_;exact hK1 _ () trivial (Zg zp (by simp -implicitDefEqProofs only[go_sem,seval,↓reduceIte,Zha]))
 intro _ _;generalize Z2e t=s at hl hP ⊢;refine Z1 ?_;refine Zn hG ?_ (s:=(Zwv G hE.toGNum s (by omega)));generalize Zlc s=q at hP ⊢;obtain ⟨n,e⟩:=q;simp only at hP;simp -implicitDefEqProofs only[go_sem,seval,↓reduceIte,Zat];refine Z6 ?_
 by_cases he:e=0
 ·have e1:(e==0)=true:=by simpa using he
  rw [if_neg (show ¬ e≠0 by simpa using he)] at hP;refine Ztc (by kernel_rfl) ?_;simp -implicitDefEqProofs only[go_sem,seval,↓reduceIte,bne,e1];refine Zbd rfl ?_
  ·refine Z1 ?_
   rw [← Zt ⟨1,n,[],0,0,0⟩];refine RdS.call hG (Zwj G hG sl g r hi hr 1 n [] 0 0 0) (gx:=gx) (by kernel_rfl) (fun F=>rfl) (by decide) (by first | rfl | (simp -implicitDefEqProofs only[go_sem,seval,↓reduceIte,List.map_cons,List.map_nil,Zt];try rfl)) zm zr zr fun gx'=>?_;simp -implicitDefEqProofs only[go_sem,seval,↓reduceIte,Zha];refine Z ?_;rw [hP];exact ⟨rfl,gx',by simp -implicitDefEqProofs only[go_sem,seval,↓reduceIte],by simp -implicitDefEqProofs only[go_sem,seval,↓reduceIte]⟩
 ·have e1:(e==0)=false:=by simpa using he
  rw [if_pos he] at hP;refine Ztc (by kernel_rfl) ?_;simp -implicitDefEqProofs only[go_sem,seval,↓reduceIte,bne,e1];refine Zh rfl (fun h4=>?_) (fun h4=>?_)
  ·refine Zf @Zfd ?_
   rw [hP];exact ⟨rfl,gx,by simp -implicitDefEqProofs only[go_sem,seval,↓reduceIte];rfl,by simp -implicitDefEqProofs only[go_sem,seval,↓reduceIte];rfl⟩
  ·cases h4
end Go.Hs
end

section
namespace Go.Hs
open Go.Proofs
set_option maxRecDepth 10000
def Zl4 (G:Nat→V) (sl:Sl Tk) (g:Nat) (inner:Inner) (i0:Nat):Prop :=
 ∀ n r,1≤n→n≤9→i0<r.i→Zqy sl.l r→RdS 1031 [.func (.func 78) [] []] G 78 [.int .i64 n] sl g r (.bool (inner n r).1) (inner n r).2
theorem Zam {l:List Tk} (hT:TkOk l) (i:Nat):(Z5 l i).text.length<100000:=by
 unfold Z5
 split
 ·rename_i t h
  split
  ·exact hT.text _ (List.mem_of_getElem? h)
  ·exact Nat.zero_lt_succ _
 ·exact Nat.zero_lt_succ _
theorem Zs3 (l:List Tk) (w:List UInt8) (r:RS):(Z7e l w r).1=true→(Z7e l w r).2=r.adv:=by
 unfold Z7e
 split
 ·intro h;cases h
 ·exact fun _=>rfl
def Zdz (l:List Tk) (inner:Inner):List (List UInt8)→List Int→RS→Bool × RS
 | [],parts,r=>andThen (Z7e l Zii r) fun r4=>(true,r4.put (Znz ⟨22,0,[],0,0,0⟩ parts))
 | w::ws,parts,r=>andThen (Z7e l w r) fun r1=>andThen (inner 1 r1) fun a=>Zdz l inner ws (parts++[a.last]) a
theorem Z8p (l:List Tk) (inner:Inner) (r:RS):Zua l inner r=Zdz l inner [wIf,Zpn,Zqn] [] r:=rfl
def brW:List (List UInt8):=[wIf,Zpn,Zqn]
theorem Znn (G:Nat→V) (hE:GExp G) (sl:Sl Tk) (hT:TkOk sl.l) (g:Nat) (r:RS) (hr:Zqy sl.l r) (inner:Inner) (hin:Zl4 G sl g inner r.i) (hb:Bals sl.l inner) :
  RdS 1031 [.func (.func 78) [] []] G 145 [] sl g r (.bool (Zua sl.l inner r).1) (Zua sl.l inner r).2:=by
 have hG:=hE.ok;have hTl:=hT.len;intro gx;refine Zo 1000 37 [.tmp 2] Tryz.func145 fun X=>?_;refine Z1 ?_;refine Z1 ?_;refine Z1 ?_;refine AW.block ?_
 refine Zpb 3 (fun k (x:Nat × Nat × List Int × RS)=>st [(0,.ptr 8 g 0),(3,grown 1027 x.1 1 x.2.2.1),(6,.agg (brW.map V.str)),(7,.int .i64 k)] [(1027,Z2b x.1 (V.int .i64) x.2.2.1),(8,rdO 1031 [.func (.func 78) [] []] sl g x.2.1 x.2.2.2),(1031,ndO x.2.1 x.2.2.2.nodes)])
  (fun k x=>Zua sl.l inner r=Zdz sl.l inner (brW.drop k) x.2.2.1 x.2.2.2∧Zqy sl.l x.2.2.2∧r.i≤x.2.2.2.i∧x.2.2.1.length=k) 0 (0,gx,[],r) (Nat.zero_le _) ⟨Z8p _ _ _,hr,Nat.le_refl _,rfl⟩
  (Zg (by simp -implicitDefEqProofs only[go_sem,seval,↓reduceIte,List.map_cons,List.map_nil];exact ⟨rfl,rfl⟩) (by simp -implicitDefEqProofs only[go_sem,seval,↓reduceIte,Zha];try rfl)) ?_
 rintro k ⟨gp,gy,parts,q⟩ hk ⟨hP,hq,hqi,hpl⟩ L2 hL2;have hP:Zua sl.l inner r=Zdz sl.l inner (brW.drop k) parts q:=hP;have hq:Zqy sl.l q:=hq;have hqi:r.i≤q.i:=hqi;have hpl:parts.length=k:=hpl
 have hqI:q.i<1000000:=by have:=hq.1;omega
 refine Z1 ?_;refine Z6 ?_;refine Zh rfl (fun h4=>?_) (fun h4=>?_)
 ·have hk1:k<3:=by have h4:decide ((k:Int)<3)=true:=h4;simp at h4;omega
  refine Z0 ?_;refine Z6 ?_;refine AW.block ?_
  obtain ⟨w,hw1,hw2⟩:∃ w,(brW.map V.str)[k]? = some (.str w)∧brW.drop k=w::brW.drop (k+1):=by
   have hkl:k<brW.length:=hk1;exact ⟨brW[k],by rw [List.getElem?_map,List.getElem?_eq_getElem hkl]<;>rfl,List.drop_eq_getElem_cons hkl⟩
  have hk1':(k:Int)<3:=by omega
  rw [hw2,Zdz] at hP;have heb:=Zmd sl.l w q;have het:=Zs3 sl.l w q;have hes:=Zll G hE sl hT g q hqI w;generalize Z7e sl.l w q=y at hP heb hes het;obtain ⟨b,q1⟩:=y;simp only at heb hes het;refine Z1f (zi hw1 (zi hk1' (zi @Int.natCast_nonneg @Nat.mul_one))) ?_;refine Z6 ?_
  cases b with
  | false =>
   rw [Z6c] at hP;refine Z1 ?_;refine RdS.call hG (hes) (gx:=gy) (by kernel_rfl) (fun F=>rfl) (by decide) (by first | rfl | (simp -implicitDefEqProofs only[go_sem,seval,↓reduceIte,List.map_cons,List.map_nil,Zt];try rfl)) zm zr zr fun gz=>?_;simp -implicitDefEqProofs only[go_sem,seval,↓reduceIte,Zha];refine Zh rfl (fun h7=>?_) (fun h7=>?_)
   ·refine Z ?_
    rw [hP];exact ⟨rfl,gz,zr,zr⟩
   ·cases h7
  | true =>
   rw [Zaa] at hP;have hb1:=heb.2 rfl;have hq1:=hb1.ok hq
   have hlt:r.i<q1.i:=by rw [het rfl];show r.i<q.i+1;omega
   have hc:=hin 1 q1 (by decide) (by decide) hlt hq1;have hb2:=hb 1 q1;generalize inner 1 q1=z at hP hc hb2;obtain ⟨b,a⟩:=z;simp only at hc hb2;have ha:=hb2.ok hq1
   have han:a.nodes.length<1000000:=by have:=ha.1;have:=ha.2;omega
   cases b with
   | false =>
    rw [Z6c] at hP;refine Z1f @Zfd ?_;refine RdS.call hG (hes) (gx:=gy) (by kernel_rfl) (fun F=>rfl) (by decide) (by first | rfl | (simp -implicitDefEqProofs only[go_sem,seval,↓reduceIte,List.map_cons,List.map_nil,Zt];try rfl)) zm zr zr fun gz=>?_;simp -implicitDefEqProofs only[go_sem,seval,↓reduceIte,Zha];refine Zsf @Zfd ?_;refine RdS.call hG (hc) (gx:=gz) (by kernel_rfl) (fun F=>rfl) (by decide) (by first | rfl | (simp -implicitDefEqProofs only[go_sem,seval,↓reduceIte,List.map_cons,List.map_nil,Zt];try rfl)) zm zr zr fun gz2=>?_;simp -implicitDefEqProofs only[go_sem,seval,↓reduceIte,Zha];refine Zh rfl (fun h7=>?_) (fun h7=>?_)
    ·refine Z ?_
     rw [hP];exact ⟨rfl,gz2,zr,zr⟩
    ·cases h7
   | true =>
    rw [Zaa] at hP;refine Z1f @Zfd ?_;refine RdS.call hG (hes) (gx:=gy) (by kernel_rfl) (fun F=>rfl) (by decide) (by first | rfl | (simp -implicitDefEqProofs only[go_sem,seval,↓reduceIte,List.map_cons,List.map_nil,Zt];try rfl)) zm zr zr fun gz=>?_;simp -implicitDefEqProofs only[go_sem,seval,↓reduceIte,Zha];refine Zsf @Zfd ?_;refine RdS.call hG (hc) (gx:=gz) (by kernel_rfl) (fun F=>rfl) (by decide) (by first | rfl | (simp -implicitDefEqProofs only[go_sem,seval,↓reduceIte,List.map_cons,List.map_nil,Zt];try rfl)) zm zr zr fun gz2=>?_;simp -implicitDefEqProofs only[go_sem,seval,↓reduceIte,Zha];refine Zbd rfl ?_
    ·refine Z1 ?_
     refine RdS.call hG (Zzg G hG sl g a han) (gx:=gz2) (by kernel_rfl) (fun F=>rfl) (by decide) (by first | rfl | (simp -implicitDefEqProofs only[go_sem,seval,↓reduceIte,List.map_cons,List.map_nil,Zt];try rfl)) zm zr zr fun gz3=>?_;simp -implicitDefEqProofs only[go_sem,seval,↓reduceIte,Zha];intro g26;refine Znc (f:=V.int .i64) (l:=parts) (l2:=[a.last]) (g:=gp) (fun _=>rfl) rfl rfl rfl zp (Zta (by omega) (by simp;omega)) fun g27=>?_;refine Zs ?_;refine Z1 ?_;refine hL2 _ ⟨hk1,(g27,gz3,parts++[a.last],a),⟨hP,ha,?_,?_⟩,Zg zw zp⟩
     ·show r.i≤a.i
      have:=hb2.up;omega
     ·show (parts++[a.last]).length=k+1
      rw [List.length_append,List.length_singleton,hpl]
 ·have hk1:k=3:=by have h4:decide ((k:Int)<3)=false:=h4;simp at h4;omega
  refine Z0 ?_;rw [hk1,show brW.drop 3=[] from rfl,Zdz] at hP;have heb:=Zmd sl.l Zii q;have hes:=Zll G hE sl hT g q hqI Zii;generalize Z7e sl.l Zii q=y at hP heb hes;obtain ⟨b,q1⟩:=y;simp only at heb hes;have hq1:=(heb.1).ok hq
  have hqn:q1.nodes.length<1000000:=by have:=hq1.1;have:=hq1.2;omega
  cases b with
  | false =>
   rw [Z6c] at hP;refine Z1 ?_;refine RdS.call hG (hes) (gx:=gy) (by kernel_rfl) (fun F=>rfl) (by decide) (by first | rfl | (simp -implicitDefEqProofs only[go_sem,seval,↓reduceIte,List.map_cons,List.map_nil,Zt];try rfl)) zm zr zr fun gz=>?_;simp -implicitDefEqProofs only[go_sem,seval,↓reduceIte,Zha];refine Z ?_;rw [hP];exact ⟨rfl,gz,zr,zr⟩
  | true =>
   rw [Zaa] at hP;refine Z1 ?_;refine RdS.call hG (hes) (gx:=gy) (by kernel_rfl) (fun F=>rfl) (by decide) (by first | rfl | (simp -implicitDefEqProofs only[go_sem,seval,↓reduceIte,List.map_cons,List.map_nil,Zt];try rfl)) zm zr zr fun gz=>?_;simp -implicitDefEqProofs only[go_sem,seval,↓reduceIte,Zha];refine Zic (fun o=>o==1027) [.ptr 8 g 0,Z3 ⟨22,0,[],0,0,0⟩,Za .new 1 (V.int .i64) (Zba parts)] [(8,rdO 1031 [.func (.func 78) [] []] sl g gz q1),(1031,ndO gz q1.nodes)] ⟨Zd _,Zd _,?_,trivial⟩ ?_ ?_
   ·exact Z0e (g:=gp) rfl zp (fun _=>rfl)
   ·simp only [Zl,Zp,and_true]
    exact ⟨FzO.keep rfl zp,FzO.keep rfl zp⟩
   have hp3:(Zba parts).l.length≤3:=by rw [Zcb];omega
   refine RdS.call hG (Zgi G hG sl g q1 hqn ⟨22,0,[],0,0,0⟩ .old (Zba parts) hp3) (gx:=gz) (by kernel_rfl) (fun F=>rfl) (by decide) (by first | rfl | (simp -implicitDefEqProofs only[go_sem,seval,↓reduceIte,List.map_cons,List.map_nil,Zt];try rfl)) zm zr zr fun gz2=>?_;simp -implicitDefEqProofs only[go_sem,seval,↓reduceIte,Zha];refine Z ?_;rw [hP];exact ⟨rfl,gz2,zr,zr⟩
theorem Z6u (G:Nat→V) (hE:GExp G) (sl:Sl Tk) (hT:TkOk sl.l) (g:Nat) (r:RS) (hr:Zqy sl.l r) (inner:Inner) (hin:Zl4 G sl g inner r.i) (hb:Bals sl.l inner) :
  RdS 1031 [.func (.func 78) [] []] G 114 [] sl g r (.bool (Zla sl.l inner r).1) (Zla sl.l inner r).2:=by
 have hG:=hE.ok;have hTl:=hT.len
 have hri:r.i<1000000:=by have:=hr.1;omega
 have hrn:r.nodes.length<1000000:=by have:=hr.2;omega
 have hw:IntKind.i64.wrap ((r.i:Int)+1)=((r.i+1:Nat):Int):=by rw [w64 (by omega) (by omega)];omega
 intro gx;refine Zo 1000 107 [.tmp 2] Tryz.func114 fun X=>?_
 have hP:Zla sl.l inner r=if (Z5 sl.l r.i).kind=1 then Zpc r (Z5 sl.l r.i).text
  else if (Z5 sl.l r.i).kind=2 then Z0k r 2 0 (Z5 sl.l r.i).text
  else if (Z5 sl.l r.i).kind=0 then (false,r.err 80)
  else if (ofP (Z5 sl.l r.i).text 1).2 then andThen (inner 9 r.adv) fun a=>(true,a.put ⟨(ofP (Z5 sl.l r.i).text 1).1,0,[],a.last,-1,-1⟩)
  else if (Z5 sl.l r.i).text=[40] then andThen (inner 1 r.adv) (Z7e sl.l [41])
  else if (Z5 sl.l r.i).text=wIf then Zua sl.l inner r
  else if (ofP (Z5 sl.l r.i).text 0).2∧(Z5 sl.l r.i).kind=3 then Z0k r (ofP (Z5 sl.l r.i).text 0).1 0 []
  else (false,r.err 80):=rfl
 have htl:=Zam hT r.i;have hadv:(Z5 sl.l r.i).kind≠0→Zqy sl.l r.adv:=fun h=>(Bal.adv (Zxe h)).ok hr
 have hno0:(Z5 sl.l r.i).kind=0→(ofP (Z5 sl.l r.i).text 0).2=false:=fun h=>by
  unfold ofP
  cases ho:ofI (Z5 sl.l r.i).text 0 with
  | none=>rfl
  | some i =>
   have hk:=Zel sl.l r.i;rw [h] at hk
   rcases Znp ho with ⟨h,_⟩ | ⟨h,_⟩
   ·rw [h] at hk;exact absurd hk (by decide)
   ·rw [h] at hk;exact absurd hk (by decide)
 refine Z1 ?_;refine Z1 ?_;refine RdS.call hG (Zvj G hE sl hT g r hri) (gx:=gx) (by kernel_rfl) (fun F=>rfl) (by decide) (by first | rfl | (simp -implicitDefEqProofs only[go_sem,seval,↓reduceIte,List.map_cons,List.map_nil,Zt];try rfl)) zm zr zr fun gx1=>?_;simp -implicitDefEqProofs only[go_sem,seval,↓reduceIte,Zha];refine Zsf @Zsd ?_;intro g3;generalize Z5 sl.l r.i=t at hP htl hadv hno0 ⊢;obtain ⟨k,t,p⟩:=t;simp only at hP htl hadv hno0;refine Z1 ?_;refine Zn hG ?_ (s:=(Z3o G hG t 1));generalize ofP t 1=o1 at hP ⊢;obtain ⟨op1,one⟩:=o1;simp only at hP;simp -implicitDefEqProofs only[go_sem,seval,↓reduceIte,Z46]
 refine Zob (fun (_:Unit)=>st [(0,.ptr 8 g 0),(3,.ptr 1003 g3 0)] [(1003,.cells .new g3 0 [.int .u8 k,.str t,.int .i64 p]),(8,rdO 1031 [.func (.func 78) [] []] sl g gx1 r),(1031,ndO gx1 r.nodes)])
  (fun _=>(k=0∨(k≠0∧k≠1∧k≠2∧one=false∧t≠[40]∧t≠wIf))) (fun K1 hK1=>?_) ?_
 ·refine AW.block ?_
  by_cases k1:k=1
  ·have e1:(k==1)=true:=by simpa using k1
   rw [if_pos k1] at hP;refine Z1f e1 ?_;refine Zh rfl (fun h2=>?_) (fun h2=>?_)
   ·refine Z1 ?_
    refine RdS.call hG (Zxr G hE sl g r hri hrn t htl) (gx:=gx1) (by kernel_rfl) (fun F=>rfl) (by decide) (by first | rfl | (simp -implicitDefEqProofs only[go_sem,seval,↓reduceIte,List.map_cons,List.map_nil,Zt];try rfl)) zm zr zr fun gx2=>?_;simp -implicitDefEqProofs only[go_sem,seval,↓reduceIte,Zha];refine Z ?_;rw [hP];exact ⟨rfl,gx2,zr,zr⟩
   ·cases h2
  have e1:(k==1)=false:=by simpa using k1
  rw [if_neg k1] at hP;refine Z1f e1 ?_;refine Zbd rfl ?_
  try clear h2
  by_cases k2:k=2
  ·have e2:(k==2)=true:=by simpa using k2
   rw [if_pos k2] at hP;refine Z1f e2 ?_;refine Zh rfl (fun h2=>?_) (fun h2=>?_)
   ·refine Z1 ?_
    rw [← Zt ⟨2,0,t,0,0,0⟩];refine RdS.call hG (Zwj G hG sl g r hri hrn 2 0 t 0 0 0) (gx:=gx1) (by kernel_rfl) (fun F=>rfl) (by decide) (by first | rfl | (simp -implicitDefEqProofs only[go_sem,seval,↓reduceIte,List.map_cons,List.map_nil,Zt];try rfl)) zm zr zr fun gx2=>?_;simp -implicitDefEqProofs only[go_sem,seval,↓reduceIte,Zha];refine Z ?_;rw [hP];exact ⟨rfl,gx2,zr,zr⟩
   ·cases h2
  have e2:(k==2)=false:=by simpa using k2
  rw [if_neg k2] at hP;refine Z1f e2 ?_;refine Zbd rfl ?_
  try clear h2
  by_cases k0:k=0
  ·have e0:(k==0)=true:=by simpa using k0
   refine Z1f e0 ?_;refine Zh rfl (fun h2=>?_) (fun h2=>?_)
   ·refine Z0 ?_
    exact hK1 _ () (.inl k0) (Zg zp zp)
   ·cases h2
  have e0:(k==0)=false:=by simpa using k0
  rw [if_neg k0] at hP;have had:=hadv k0;refine Z1f e0 ?_;refine Zbd rfl ?_
  try clear h2
  refine Z1 ?_;refine Zh rfl (fun h3=>?_) (fun h3=>?_)
  ·subst h3
   rw [if_pos rfl] at hP;have hc:=hin 9 r.adv (by decide) (by decide) (Nat.lt_succ_self _) had;have hbl:=(hb 9 r.adv).ok had;generalize inner 9 r.adv=x at hc hP hbl;obtain ⟨b,a⟩:=x;simp only at hc hbl
   have han:a.nodes.length<1000000:=by have:=hbl.1;have:=hbl.2;omega
   refine Z1f (zi @Zfd hw) ?_
   cases b with
   | false =>
    refine Z1f @Zfd ?_;refine RdS.call hG (hc) (gx:=gx1) (by kernel_rfl) (fun F=>rfl) (by decide) (by first | rfl | (simp -implicitDefEqProofs only[go_sem,seval,↓reduceIte,List.map_cons,List.map_nil,Zt];try rfl)) zm zr zr fun gx2=>?_;simp -implicitDefEqProofs only[go_sem,seval,↓reduceIte,Zha];refine Z ?_;rw [hP];exact ⟨rfl,gx2,zr,zr⟩
   | true =>
    refine Z1f @Zfd ?_;refine RdS.call hG (hc) (gx:=gx1) (by kernel_rfl) (fun F=>rfl) (by decide) (by first | rfl | (simp -implicitDefEqProofs only[go_sem,seval,↓reduceIte,List.map_cons,List.map_nil,Zt];try rfl)) zm zr zr fun gx2=>?_;simp -implicitDefEqProofs only[go_sem,seval,↓reduceIte,Zha];refine RdS.call hG (Zzg G hG sl g a han) (gx:=gx2) (by kernel_rfl) (fun F=>rfl) (by decide) (by first | rfl | (simp -implicitDefEqProofs only[go_sem,seval,↓reduceIte,List.map_cons,List.map_nil,Zt];try rfl)) zm zr zr fun gx3=>?_;simp -implicitDefEqProofs only[go_sem,seval,↓reduceIte,Zha];intro g58;refine Zic (fun o=>o==1058) [.ptr 8 g 0,Z3 ⟨op1,0,[],0,0,0⟩,.slice .new false 1 [.int .i64 a.last]] [(8,rdO 1031 [.func (.func 78) [] []] sl g gx3 a),(1031,ndO gx3 a.nodes)] ⟨Zd _,Zd _,?_,trivial⟩ ?_ ?_
    ·exact Zfi (f:=V.int .i64) (l:=[a.last]) (m:=1) (g:=g58) (fz:=0) (c := .new) rfl zp (fun _=>rfl)
    ·simp only [Zl,Zp,and_true]
     exact ⟨FzO.keep rfl zp,FzO.keep rfl zp⟩
    refine RdS.call hG (Zgi G hG sl g a han ⟨op1,0,[],0,0,0⟩ .old (.mk false [a.last]) (Nat.le_of_ble_eq_true rfl)) (gx:=gx3) (by kernel_rfl) (fun F=>rfl) (by decide) (by first | rfl | (simp -implicitDefEqProofs only[go_sem,seval,↓reduceIte,List.map_cons,List.map_nil,Zt];try rfl)) zm zr zr fun gx4=>?_;simp -implicitDefEqProofs only[go_sem,seval,↓reduceIte,Zha];refine Z ?_;rw [hP];exact ⟨rfl,gx4,zr,zr⟩
  ·subst h3
   rw [if_neg (by simp)] at hP;refine Z1 ?_;refine Zh rfl (fun h4=>?_) (fun h4=>?_)
   ·have h4:t=[40]:=by simpa using h4
    rw [if_pos h4] at hP;have hc:=hin 1 r.adv (by decide) (by decide) (Nat.lt_succ_self _) had;have hbl:=(hb 1 r.adv).ok had;generalize inner 1 r.adv=x at hc hP hbl;obtain ⟨b,a⟩:=x;simp only at hc hbl
    have hai:a.i<1000000:=by have:=hbl.1;omega
    refine Z1f (zi @Zfd hw) ?_
    cases b with
    | false =>
     refine Z1f @Zfd ?_;refine RdS.call hG (hc) (gx:=gx1) (by kernel_rfl) (fun F=>rfl) (by decide) (by first | rfl | (simp -implicitDefEqProofs only[go_sem,seval,↓reduceIte,List.map_cons,List.map_nil,Zt];try rfl)) zm zr zr fun gx2=>?_;simp -implicitDefEqProofs only[go_sem,seval,↓reduceIte,Zha];refine Z ?_;rw [hP];exact ⟨rfl,gx2,zr,zr⟩
    | true =>
     rw [Zaa] at hP;refine Z1f @Zfd ?_;refine RdS.call hG (hc) (gx:=gx1) (by kernel_rfl) (fun F=>rfl) (by decide) (by first | rfl | (simp -implicitDefEqProofs only[go_sem,seval,↓reduceIte,List.map_cons,List.map_nil,Zt];try rfl)) zm zr zr fun gx2=>?_;simp -implicitDefEqProofs only[go_sem,seval,↓reduceIte,Zha];refine RdS.call hG (Zll G hE sl hT g a hai [41]) (gx:=gx2) (by kernel_rfl) (fun F=>rfl) (by decide) (by first | rfl | (simp -implicitDefEqProofs only[go_sem,seval,↓reduceIte,List.map_cons,List.map_nil,Zt];try rfl)) zm zr zr fun gx3=>?_;simp -implicitDefEqProofs only[go_sem,seval,↓reduceIte,Zha];generalize Z7e sl.l [41] a=y at hP ⊢;obtain ⟨b,a2⟩:=y
     cases b with
     | true =>
      refine Zs ?_;refine Z ?_;rw [hP];exact ⟨rfl,gx3,zr,zr⟩
     | false =>
      refine Zs ?_;refine Z ?_;rw [hP];exact ⟨rfl,gx3,zr,zr⟩
   ·have h4:¬ t=[40]:=by simpa using h4
    rw [if_neg h4] at hP;refine Z1 ?_;refine Zh rfl (fun h5=>?_) (fun h5=>?_)
    ·have h5:t=wIf:=by
      have h5:(t==[105,102])=true:=h5;exact eq_of_beq h5
     rw [if_pos h5] at hP;refine Z1 ?_;refine RdS.call hG (Znn G hE sl hT g r hr inner hin hb) (gx:=gx1) (by kernel_rfl) (fun F=>rfl) (by decide) (by first | rfl | (simp -implicitDefEqProofs only[go_sem,seval,↓reduceIte,List.map_cons,List.map_nil,Zt];try rfl)) zm zr zr fun gx2=>?_;simp -implicitDefEqProofs only[go_sem,seval,↓reduceIte,Zha];refine Z ?_;rw [hP];exact ⟨rfl,gx2,zr,zr⟩
    ·have h5:¬ t=wIf:=by
      have h5:(t==[105,102])=false:=h5;exact beq_eq_false_iff_ne.1 h5
     refine Z0 ?_;exact hK1 _ () (.inr ⟨k0,k1,k2,rfl,h4,h5⟩) (Zg zp zp)
 rintro _ hcase
 have hP2:Zla sl.l inner r=if (ofP t 0).2∧k=3 then Z0k r (ofP t 0).1 0 [] else (false,r.err 80):=by
  rw [hP]
  rcases hcase with k0 | ⟨k0,k1,k2,k3,k4,k5⟩
  ·have:=hno0 k0
   subst k0;rw [if_neg (by decide),if_neg (by decide),if_pos rfl,this,if_neg (by simp)]
  ·rw [if_neg k1,if_neg k2,if_neg k0,k3,if_neg (by simp),if_neg k4,if_neg k5]
 try clear hP
 have hP:=hP2
 try clear hP2 hno0 hcase
 refine Z1 ?_;refine Zn hG ?_ (s:=(Z3o G hG t 0));generalize ofP t 0=o0 at hP ⊢;obtain ⟨op0,ok⟩:=o0;simp only at hP;simp -implicitDefEqProofs only[go_sem,seval,↓reduceIte,Z46]
 cases ok with
 | false =>
  rw [if_neg (by simp)] at hP;refine Z1 ?_;refine Zbd rfl ?_
  ·refine Zf @Zfd ?_
   rw [hP];exact ⟨rfl,gx1,zr,zr⟩
 | true =>
  by_cases k3:k=3
  ·have e3:(k==3)=true:=by simpa using k3
   rw [if_pos ⟨rfl,k3⟩] at hP;refine Z1f e3 ?_;refine Zh rfl (fun h7=>?_) (fun h7=>?_)
   ·refine Z1 ?_
    rw [← Zt ⟨op0,0,[],0,0,0⟩];refine RdS.call hG (Zwj G hG sl g r hri hrn op0 0 [] 0 0 0) (gx:=gx1) (by kernel_rfl) (fun F=>rfl) (by decide) (by first | rfl | (simp -implicitDefEqProofs only[go_sem,seval,↓reduceIte,List.map_cons,List.map_nil,Zt];try rfl)) zm zr zr fun gx2=>?_;simp -implicitDefEqProofs only[go_sem,seval,↓reduceIte,Zha];refine Z ?_;rw [hP];exact ⟨rfl,gx2,zr,zr⟩
   ·cases h7
  ·have e3:(k==3)=false:=by simpa using k3
   rw [if_neg (fun h=>k3 h.2)] at hP;refine Z1f e3 ?_;refine Zbd rfl ?_
   ·refine Zf @Zfd ?_
    rw [hP];exact ⟨rfl,gx1,zr,zr⟩
end Go.Hs
end

section
namespace Go.Hs
open Go.Proofs
set_option maxRecDepth 10000
theorem Zzz (l:List Tk) (inner:Inner) (n:Int) (m:Nat) (r:RS):Z6b l inner n (m+1) r=match Zzi l r.i with
  | none=>(true,r)
  | some op=>if lvl op<n then (true,r) else andThen (inner (lvl op+1) r.adv) fun a=>Z6b l inner n m (a.put ⟨op,0,[],r.last,a.last,-1⟩):=rfl
theorem Zb6 {l:List Tk} {i:Nat}:((Z5 l i).kind=0∨(ofP (Z5 l i).text 2).2=false→Zzi l i=none)∧((Z5 l i).kind≠0→(ofP (Z5 l i).text 2).2=true→Zzi l i=some (ofP (Z5 l i).text 2).1):=by
 unfold Zzi ofP
 constructor
 ·rintro (h | h)
  ·rw [if_pos h]
  ·split
   ·rfl
   ·cases ho:ofI (Z5 l i).text 2 with
    | none=>rfl
    | some op=>rw [ho] at h;cases h
 ·intro h h2
  rw [if_neg h]
  cases ho:ofI (Z5 l i).text 2 with
  | none=>rw [ho] at h2;cases h2
  | some op=>rfl
theorem ofP_lt (t:List UInt8) (p:Int):(ofP t p).1<23:=by
 unfold ofP
 split
 ·rename_i h;exact Z17 h
 ·decide
theorem Z5u (G:Nat→V) (hE:GExp G) (sl:Sl Tk) (hT:TkOk sl.l) (g:Nat):∀ (f:Nat) (n:Int) (r:RS),1≤n→n≤9→sl.l.length<f+r.i→Zqy sl.l r →
  RdS 1031 [.func (.func 78) [] []] G 78 [.int .i64 n] sl g r (.bool (Zw sl.l f n r).1) (Zw sl.l f n r).2:=by
 have hG:=hE.ok;have hTl:=hT.len;intro f
 induction f with
 | zero=>intro n r _ _ hf hr;have:=hr.1;omega
 | succ f ih =>
 intro n r hn1 hn9 hf hr gx;have hin:∀ i0,r.i≤i0→Zl4 G sl g (Zw sl.l f) i0:=fun i0 hi0 n' r' h1 h9 hi hr'=>ih n' r' h1 h9 (by omega) hr';have hbs:=Z5d sl.l f;have hP:Zw sl.l (f+1) n r=andThen (Zla sl.l (Zw sl.l f) r) (Z6b sl.l (Zw sl.l f) n (sl.l.length+1)):=rfl;generalize Zw sl.l (f+1) n r=res at hP ⊢;refine Zo 1000 65 [.tmp 4] Tryz.func78 fun X=>?_;have hah:=Z6u G hE sl hT g r hr _ (hin r.i (Nat.le_refl _)) hbs;have hab:=Zdk hbs r;generalize Zla sl.l (Zw sl.l f) r=y at hP hah hab;obtain ⟨b,q0⟩:=y;simp only at hah hab;refine Z1 ?_;refine Z6 ?_
 cases b with
 | false =>
  rw [Z6c] at hP;refine Z1 ?_;refine RdS.call hG (hah) (gx:=gx) (by kernel_rfl) (fun F=>rfl) (by decide) (by first | rfl | (simp -implicitDefEqProofs only[go_sem,seval,↓reduceIte,List.map_cons,List.map_nil,Zt];try rfl)) zm zr zr fun gx1=>?_;simp -implicitDefEqProofs only[go_sem,seval,↓reduceIte,Zha];refine Zh rfl (fun h2=>?_) (fun h2=>?_)
  ·refine Z ?_
   rw [hP];exact ⟨rfl,gx1,zr,zr⟩
  ·cases h2
 | true =>
 rw [Zaa] at hP;have hq0:=hab.ok hr;refine Z1 ?_;refine RdS.call hG (hah) (gx:=gx) (by kernel_rfl) (fun F=>rfl) (by decide) (by first | rfl | (simp -implicitDefEqProofs only[go_sem,seval,↓reduceIte,List.map_cons,List.map_nil,Zt];try rfl)) zm zr zr fun gx1=>?_;simp -implicitDefEqProofs only[go_sem,seval,↓reduceIte,Zha];refine Z1 ?_;refine Zn hG ?_ (s:=(Zuh G hG));refine Zsf (zi @Z9u (zi @Zbp @Nat.le_refl)) ?_;intro g5;rw [Zvl _ ?hl]
 case hl=>rfl
 refine AW.block ?_
 refine Zkl (fun (x:Nat × Nat × RS)=>st [(0,.ptr 8 g 0),(1,.int .i64 n),(5,.ptr 1005 g5 0)] [(1005,.cells .new g5 0 tabC),(8,rdO 1031 [.func (.func 78) [] []] sl g x.1 x.2.2),(1031,ndO x.1 x.2.2.nodes)])
  (fun x=>res=Z6b sl.l (Zw sl.l f) n x.2.1 x.2.2∧Zqy sl.l x.2.2∧r.i≤x.2.2.i∧sl.l.length<x.2.1+x.2.2.i) (fun x=>x.2.1) (gx1,sl.l.length+1,q0) ⟨hP,hq0,hab.up,Nat.lt_add_right _ (Nat.lt_succ_self _)⟩
  (Zg zp zp) ?_
 try clear hP
 rintro ⟨gy,m,q⟩ ⟨hP,hq,hqi,hm⟩ L3 hL3
 replace hP:res=Z6b sl.l (Zw sl.l f) n m q:=hP
 replace hq:Zqy sl.l q:=hq
 replace hqi:r.i≤q.i:=hqi
 replace hm:sl.l.length<m+q.i:=hm
 obtain ⟨m,rfl⟩:∃ m',m=m'+1:=⟨m-1,by have:=hq.1;omega⟩
 have hqI:q.i<1000000:=by have:=hq.1;omega
 have hqn:q.nodes.length<1000000:=by have:=hq.1;have:=hq.2;omega
 rw [Zzz] at hP;have hop:=Zb6 (l:=sl.l) (i:=q.i);have hlt23:=ofP_lt (Z5 sl.l q.i).text 2;have htl:=Zam hT q.i
 have hbnd:∀ op,Zzi sl.l q.i=some op→1≤lvl op∧lvl op≤8:=fun op h=>by have:=Zxx h;exact ⟨this.2.2.1,this.2.2.2⟩
 have hilt:∀ op,Zzi sl.l q.i=some op→q.i<sl.l.length:=fun op h=>Zyh h;refine Z1 ?_;refine RdS.call hG (Zvj G hE sl hT g q hqI) (gx:=gy) (by kernel_rfl) (fun F=>rfl) (by decide) (by first | rfl | (simp -implicitDefEqProofs only[go_sem,seval,↓reduceIte,List.map_cons,List.map_nil,Zt];try rfl)) zm zr zr fun gz=>?_;simp -implicitDefEqProofs only[go_sem,seval,↓reduceIte,Zha];refine Zsf @Zsd ?_;intro g6;generalize Zzi sl.l q.i=oa at hP hop hbnd hilt;generalize Z5 sl.l q.i=t at hop hlt23 htl ⊢;obtain ⟨k,t,p⟩:=t;simp only at hop hlt23 htl;refine Z1 ?_;refine Zn hG ?_ (s:=(Z3o G hG t 2));generalize ofP t 2=o2 at hop hlt23 ⊢;obtain ⟨op,ok⟩:=o2;simp only at hop hlt23;simp -implicitDefEqProofs only[go_sem,seval,↓reduceIte,Z46];have hlv:=Zf5 op hlt23
 have hi23:(op:Int)<23:=by omega
 refine Z1f (zi hi23 (zi @Int.natCast_nonneg (zi hlv @Nat.zero_add))) ?_;refine Z6 ?_
 cases ok with
 | false =>
  rw [hop.1 (.inr rfl)] at hP;refine Z1 ?_;refine Zh rfl (fun h9=>?_) (fun h9=>?_)
  ·refine Z ?_
   rw [hP];exact ⟨rfl,gz,zr,zr⟩
  ·cases h9
 | true =>
 by_cases hk:k=0
 ·have e1:(k==0)=true:=by simpa using hk
  rw [hop.1 (.inl hk)] at hP;refine Z1f e1 ?_;refine Zh rfl (fun h9=>?_) (fun h9=>?_)
  ·refine Z ?_
   rw [hP];exact ⟨rfl,gz,zr,zr⟩
  ·cases h9
 have e1:(k==0)=false:=by simpa using hk
 have hoa:=hop.2 hk rfl;rw [hoa] at hP;simp only at hP;obtain ⟨hl1,hl8⟩:=hbnd op hoa;have hil:=hilt op hoa;generalize lvl op=lv at hP hl1 hl8 ⊢
 by_cases hlt:lv<n
 ·have e2:decide (lv<n)=true:=by simpa using hlt
  rw [if_pos hlt] at hP;refine Z1f (zi e1 e2) ?_;refine Zh rfl (fun h9=>?_) (fun h9=>?_)
  ·refine Z ?_
   rw [hP];exact ⟨rfl,gz,zr,zr⟩
  ·cases h9
 have e2:decide (lv<n)=false:=by simpa using hlt
 rw [if_neg hlt] at hP;refine Z1f (zi e1 e2) ?_;refine Z0 ?_
 have hw:IntKind.i64.wrap ((q.i:Int)+1)=((q.i+1:Nat):Int):=by rw [w64 (by omega) (by omega)];omega
 have hw2:IntKind.i64.wrap (lv+1)=lv+1:=w64 (by omega) (by omega);have hadv:Zqy sl.l q.adv:=(Bal.adv hil).ok hq;have hc:=ih (lv+1) q.adv (by omega) (by omega) (by show sl.l.length<f+(q.i+1);omega) hadv;have hcb:=hbs (lv+1) q.adv;generalize Zw sl.l f (lv+1) q.adv=z at hP hc hcb;obtain ⟨b,a⟩:=z;simp only at hc hcb;have ha:=hcb.ok hadv;have haup:q.i+1≤a.i:=hcb.up
 have han:a.nodes.length<1000000:=by have:=ha.1;have:=ha.2;omega
 refine Z1 ?_;refine RdS.call hG (Zzg G hG sl g q hqn) (gx:=gz) (by kernel_rfl) (fun F=>rfl) (by decide) (by first | rfl | (simp -implicitDefEqProofs only[go_sem,seval,↓reduceIte,List.map_cons,List.map_nil,Zt];try rfl)) zm zr zr fun gz1=>?_;simp -implicitDefEqProofs only[go_sem,seval,↓reduceIte,Zha];refine Z1f (zi @Zfd hw) ?_;refine Z6 ?_
 cases b with
 | false =>
  rw [Z6c] at hP;refine Z1f (zi @Zfd hw2) ?_;refine RdS.call hG (hc) (gx:=gz1) (by kernel_rfl) (fun F=>rfl) (by decide) (by first | rfl | (simp -implicitDefEqProofs only[go_sem,seval,↓reduceIte,List.map_cons,List.map_nil,Zt];try rfl)) zm zr zr fun gz2=>?_;simp -implicitDefEqProofs only[go_sem,seval,↓reduceIte,Zha];refine Zh rfl (fun h11=>?_) (fun h11=>?_)
  ·refine Z ?_
   rw [hP];exact ⟨rfl,gz2,zr,zr⟩
  ·cases h11
 | true =>
  rw [Zaa] at hP;refine Z1f (zi @Zfd hw2) ?_;refine RdS.call hG (hc) (gx:=gz1) (by kernel_rfl) (fun F=>rfl) (by decide) (by first | rfl | (simp -implicitDefEqProofs only[go_sem,seval,↓reduceIte,List.map_cons,List.map_nil,Zt];try rfl)) zm zr zr fun gz2=>?_;simp -implicitDefEqProofs only[go_sem,seval,↓reduceIte,Zha];refine Z1 ?_;refine RdS.call hG (Zzg G hG sl g a han) (gx:=gz2) (by kernel_rfl) (fun F=>rfl) (by decide) (by first | rfl | (simp -implicitDefEqProofs only[go_sem,seval,↓reduceIte,List.map_cons,List.map_nil,Zt];try rfl)) zm zr zr fun gz3=>?_;simp -implicitDefEqProofs only[go_sem,seval,↓reduceIte,Zha];intro g63;refine Zic (fun o=>o==1063) [.ptr 8 g 0,Z3 ⟨op,0,[],0,0,0⟩,.slice .new false 1 [.int .i64 q.last,.int .i64 a.last]] [(8,rdO 1031 [.func (.func 78) [] []] sl g gz3 a),(1031,ndO gz3 a.nodes),(1005,.cells .new g5 0 tabC)] ⟨Zd _,Zd _,?_,trivial⟩ ?_ ?_
  ·exact Zfi (f:=V.int .i64) (l:=[q.last,a.last]) (m:=1) (g:=g63) (fz:=0) (c := .new) rfl zp (fun _=>rfl)
  ·simp only [Zl,Zp,and_true]
   exact ⟨FzO.keep rfl zp,FzO.keep rfl zp,FzO.keep rfl zp⟩
  refine RdS.call hG (Zgi G hG sl g a han ⟨op,0,[],0,0,0⟩ .old (.mk false [q.last,a.last]) (Nat.le_of_ble_eq_true rfl)) (gx:=gz3) (by kernel_rfl) (fun F=>rfl) (by decide) (by first | rfl | (simp -implicitDefEqProofs only[go_sem,seval,↓reduceIte,List.map_cons,List.map_nil,Zt];try rfl)) zm zr zr fun gz4=>?_;simp -implicitDefEqProofs only[go_sem,seval,↓reduceIte,Zha]
  have hres:Zqy sl.l (a.put ⟨op,0,[],q.last,a.last,-1⟩):=⟨ha.1,by
   have h1:=hcb.cnt;have h2:=hq.2
   show (a.nodes++[_]).length≤a.i
   rw [List.length_append,List.length_singleton];have h3:a.nodes.length+(q.i+1)+0≤q.nodes.length+a.i:=h1
   omega⟩
  refine hL3 _ ⟨(gz4,m,a.put ⟨op,0,[],q.last,a.last,-1⟩),Nat.lt_succ_self _,⟨hP,hres,?_,?_⟩,Zg zp (by simp -implicitDefEqProofs only[go_sem,seval,↓reduceIte];exact ⟨rfl,rfl⟩)⟩
  ·show r.i≤a.i
   omega
  ·show sl.l.length<m+a.i
   omega
end Go.Hs
end

section
namespace Go.Hs
def Zkc (rec:Int→Int) (has:Bool) (place last:Int):Option Int :=
 if has=false then (if place ≠ -1 then none else some last)
 else if place≠last then none else if rec last<0 then none else some (rec last-1)
def Zc6 (l:List XN) (i:Int):Option XN:=if i<0 then none else l[i.toNat]?
def Zym (l:List XN):Nat→Int→Int
 | 0,_ => -1
 | f+1,i=>match Zc6 l i with
  | none => -1
  | some n=>bif Zyd n then
   match Zkc (Zym l f) (Nat.blt 2 (Zj n.op)) n.c (i-1) with
   | none => -1
   | some l2=>match Zkc (Zym l f) (Nat.blt 1 (Zj n.op)) n.b l2 with
    | none => -1
    | some l1=>match Zkc (Zym l f) (Nat.blt 0 (Zj n.op)) n.a l1 with
     | none => -1
     | some l0=>l0+1
   else -1
theorem begR_ge (l:List XN):∀ f i,-1≤Zym l f i
 | 0,_=>by simp [Zym]
 | f+1,i=>by
  have ih:=begR_ge l f
  have hs:∀ has place last q,Zkc (Zym l f) has place last=some q→q=last ∨ -1≤q:=by
   intro has place last q h;unfold Zkc at h
   split at h
   ·split at h
    ·cases h
    ·cases h;exact .inl rfl
   ·split at h
    ·cases h
    ·split at h
     ·cases h
     ·cases h;right;omega
  rw [Zym]
  cases hn:Zc6 l i with
  | none=>simp
  | some n =>
   simp only
   have hi:0≤i:=by unfold Zc6 at hn;split at hn;cases hn;omega
   cases Zyd n with
   | false=>simp
   | true =>
    simp only [cond_true]
    cases h2:Zkc (Zym l f) (Nat.blt 2 (Zj n.op)) n.c (i-1) with
    | none=>simp
    | some l2 =>
     simp only
     cases h1:Zkc (Zym l f) (Nat.blt 1 (Zj n.op)) n.b l2 with
     | none=>simp
     | some l1 =>
      simp only
      cases h0:Zkc (Zym l f) (Nat.blt 0 (Zj n.op)) n.a l1 with
      | none=>simp
      | some l0 =>
       simp only;have a2:=hs _ _ _ _ h2;have a1:=hs _ _ _ _ h1;have a0:=hs _ _ _ _ h0;omega
def At (l:List XN) (x:X) (b:Nat):Prop:=∃ pre post,l=pre++x.row b++post∧pre.length=b
theorem X.row_top:∀ (x:X) (k:Int),∃ body,x.row k=body++[x.top k]∧body.length+1=x.size
 | .leaf op num name,k=>⟨[],rfl,rfl⟩
 | .un op a,k=>⟨a.row k,rfl,by rw [X.row_len];rfl⟩
 | .bin op a b,k=>⟨a.row k++b.row (k+a.size),rfl,by rw [List.length_append,X.row_len,X.row_len];rfl⟩
 | .ite a b c,k=>⟨a.row k++b.row (k+a.size)++c.row (k+a.size+b.size),rfl,by rw [List.length_append,List.length_append,X.row_len,X.row_len,X.row_len];rfl⟩
theorem At.top {l:List XN} {x:X} {b:Nat} (h:At l x b):Zc6 l ((b:Int)+x.size-1)=some (x.top b):=by
 obtain ⟨pre,post,rfl,hb⟩:=h;obtain ⟨body,h1,h2⟩:=x.row_top b;unfold Zc6;rw [if_neg (by omega)]
 have:((b:Int)+x.size-1).toNat=(pre++body).length:=by rw [List.length_append];omega
 rw [this,h1,show pre++(body++[x.top b])++post=(pre++body)++(x.top b::post) by simp];rw [List.getElem?_append_right (Nat.le_refl _)];simp
theorem At.get {l:List XN} {x:X} {b:Nat} (h:At l x b):l[b+x.size-1]? = some (x.top b):=by
 have:=h.top;unfold Zc6 at this;have hp:=x.size_pos;rw [if_neg (by omega)] at this;rw [← this];congr 1;omega
theorem At.un {l:List XN} {op:Int} {a:X} {b:Nat} (h:At l (.un op a) b):At l a b:=by
 obtain ⟨pre,post,rfl,hb⟩:=h;exact ⟨pre,_,by simp only [X.row,List.append_assoc];rfl,hb⟩
theorem At.bin {l:List XN} {op:Int} {x y:X} {b:Nat} (h:At l (.bin op x y) b):At l x b∧At l y (b+x.size):=by
 obtain ⟨pre,post,rfl,hb⟩:=h;refine ⟨⟨pre,y.row (b+x.size)++[X.top (.bin op x y) b]++post,by simp only [X.row,List.append_assoc];rfl,hb⟩,⟨pre++x.row b,[X.top (.bin op x y) b]++post,?_,by rw [List.length_append,X.row_len,hb]⟩⟩;simp only [X.row,List.append_assoc];rfl
theorem At.ite {l:List XN} {x y z:X} {b:Nat} (h:At l (.ite x y z) b):At l x b∧At l y (b+x.size)∧At l z (b+x.size+y.size):=by
 obtain ⟨pre,post,rfl,hb⟩:=h;refine ⟨⟨pre,y.row (b+x.size)++z.row (b+x.size+y.size)++[X.top (.ite x y z) b]++post,by simp only [X.row,List.append_assoc];rfl,hb⟩,⟨pre++x.row b,z.row (b+x.size+y.size)++[X.top (.ite x y z) b]++post,?_,by rw [List.length_append,X.row_len,hb]⟩,⟨pre++x.row b++y.row (b+x.size),[X.top (.ite x y z) b]++post,?_,by rw [List.length_append,List.length_append,X.row_len,X.row_len,hb]⟩⟩
 ·simp only [X.row,List.append_assoc];rfl
 ·simp only [X.row,List.append_assoc];rfl
theorem Zbk (rec:Int→Int) (last:Int):Zkc rec false (-1) last=some last:=rfl
theorem Zjd {rec:Int→Int} {last:Int} (h:0≤rec last):Zkc rec true last last=some (rec last-1):=by
 unfold Zkc;rw [if_neg (by simp),if_neg (by simp),if_neg (by omega)]
theorem Zai:∀ (x:X) (l:List XN) (b f:Nat),x.ok=true→At l x b→x.size≤f→Zym l f ((b:Int)+x.size-1)=b
 | .leaf op num name,l,b,f,hok,h,hf=>by
  unfold X.ok at hok;simp only [Bool.and_eq_true,decide_eq_true_eq] at hok;obtain ⟨f,rfl⟩:∃ f',f=f'+1:=⟨f-1,by simp only [X.size] at hf;omega⟩;rw [Zym,h.top];simp only [X.top]
  have hp:Zj op=0:=by unfold Zj;rw [if_pos hok.2]
  rw [hok.1,hp,cond_true];simp only [show Nat.blt 2 0=false from rfl,show Nat.blt 1 0=false from rfl,show Nat.blt 0 0=false from rfl,Zbk,X.size];omega
 | .un op a,l,b,f,hok,h,hf=>by
  unfold X.ok at hok;simp only [Bool.and_eq_true,decide_eq_true_eq] at hok;simp only [X.size] at hf;obtain ⟨f,rfl⟩:∃ f',f=f'+1:=⟨f-1,by omega⟩;have ia:=Zai a l b f hok.2 h.un (by omega);rw [Zym,h.top];simp only [X.top]
  have hp:Zj op=1:=by unfold Zj;rw [if_neg (by omega),if_pos (by omega)]
  rw [Zmf (by omega),hp,cond_true]
  have e:(b:Int)+(X.un op a).size-1-1=b+a.size-1:=by simp only [X.size];omega
  simp only [show Nat.blt 2 1=false from rfl,show Nat.blt 1 1=false from rfl,show Nat.blt 0 1=true from rfl,Zbk,e];rw [Zjd (by rw [ia];omega),ia];simp
 | .bin op x y,l,b,f,hok,h,hf=>by
  unfold X.ok at hok;simp only [Bool.and_eq_true,decide_eq_true_eq] at hok;simp only [X.size] at hf;obtain ⟨f,rfl⟩:∃ f',f=f'+1:=⟨f-1,by omega⟩;have ix:=Zai x l b f hok.1.2 h.bin.1 (by omega);have iy:=Zai y l (b+x.size) f hok.2 h.bin.2 (by omega);rw [Zym,h.top];simp only [X.top]
  have hp:Zj op=2:=by unfold Zj;rw [if_neg (by omega),if_neg (by omega),if_pos (by omega)]
  rw [Zmf (by omega),hp,cond_true]
  have e:(b:Int)+(X.bin op x y).size-1-1=b+x.size+y.size-1:=by simp only [X.size];omega
  have ey:((b+x.size:Nat):Int)=b+x.size:=by omega
  rw [ey] at iy;simp only [show Nat.blt 2 2=false from rfl,show Nat.blt 1 2=true from rfl,show Nat.blt 0 2=true from rfl,Zbk,e];rw [Zjd (by rw [iy];omega),iy];simp only;rw [Zjd (by rw [ix];omega),ix];simp
 | .ite x y z,l,b,f,hok,h,hf=>by
  unfold X.ok at hok;simp only [Bool.and_eq_true] at hok;simp only [X.size] at hf;obtain ⟨f,rfl⟩:∃ f',f=f'+1:=⟨f-1,by omega⟩;have ix:=Zai x l b f hok.1.1 h.ite.1 (by omega);have iy:=Zai y l (b+x.size) f hok.1.2 h.ite.2.1 (by omega);have iz:=Zai z l (b+x.size+y.size) f hok.2 h.ite.2.2 (by omega);rw [Zym,h.top];simp only [X.top];rw [Zmf (by omega),show Zj 22=3 from rfl,cond_true]
  have e:(b:Int)+(X.ite x y z).size-1-1=b+x.size+y.size+z.size-1:=by simp only [X.size];omega
  have ey:((b+x.size:Nat):Int)=b+x.size:=by omega
  have ez:((b+x.size+y.size:Nat):Int)=b+x.size+y.size:=by omega
  rw [ey] at iy;rw [ez] at iz;simp only [show Nat.blt 2 3=true from rfl,show Nat.blt 1 3=true from rfl,show Nat.blt 0 3=true from rfl,e];rw [Zjd (by rw [iz];omega),iz];simp only;rw [Zjd (by rw [iy];omega),iy];simp only;rw [Zjd (by rw [ix];omega),ix];simp
theorem Z5a {rec:Int→Int} {has:Bool} {place last q:Int} (h:Zkc rec has place last=some q):has=false∧place = -1∧q=last∨has=true∧place=last∧0≤rec last∧q=rec last-1:=by
 unfold Zkc at h
 split at h
 ·rename_i h1
  split at h
  ·cases h
  ·rename_i h2;cases h;exact .inl ⟨h1,by simpa using h2,rfl⟩
 ·rename_i h1
  split at h
  ·cases h
  ·rename_i h2
   split at h
   ·cases h
   ·rename_i h3;cases h;exact .inr ⟨by simpa using h1,by simpa using h2,by omega,rfl⟩
theorem At.glue {l:List XN} {x:X} {b:Nat} (h:At l x b):∃ pre,l.take (b+x.size)=pre++x.row b∧pre.length=b:=by
 obtain ⟨pre,post,rfl,hb⟩:=h;refine ⟨pre,?_,hb⟩;rw [List.take_append_of_le_length (by rw [List.length_append,X.row_len];omega),List.take_of_length_le (by rw [List.length_append,X.row_len];omega)]
theorem Zkh {l:List XN} {x:X} {b:Nat} {pre:List XN} (h:l.take (b+x.size)=pre++x.row b) (hb:pre.length=b):At l x b :=
 ⟨pre,l.drop (b+x.size),by rw [← h,List.take_append_drop],hb⟩
theorem Zj2 {l:List XN} {i:Int} {n:XN} (h:Zc6 l i=some n):0≤i∧l[i.toNat]? = some n∧i.toNat<l.length:=by
 unfold Zc6 at h
 split at h
 ·cases h
 ·have:=List.getElem?_eq_some_iff.1 h
  exact ⟨by omega,h,this.1⟩
theorem Zne (l:List XN):∀ (f:Nat) (i:Int),0≤Zym l f i→∃ (x:X) (b:Nat),x.ok=true∧At l x b∧Zym l f i=b∧(b:Int)+x.size=i+1
 | 0,i,h=>by simp [Zym] at h
 | f+1,i,h=>by
  rw [Zym] at h ⊢
  cases hn:Zc6 l i with
  | none=>rw [hn] at h;simp at h
  | some n =>
   rw [hn] at h;obtain ⟨hi,hg,hlt⟩:=Zj2 hn;simp only at h ⊢
   cases hw:Zyd n with
   | false=>rw [hw] at h;simp at h
   | true =>
   rw [hw,cond_true] at h;rw [cond_true];have hrg:=Z2d hw
   have htk:l.take (i.toNat+1)=l.take i.toNat++[n]:=by rw [List.take_add_one,hg];rfl
   cases h2:Zkc (Zym l f) (Nat.blt 2 (Zj n.op)) n.c (i-1) with
   | none=>rw [h2] at h;simp at h
   | some l2 =>
   rw [h2] at h;simp only at h ⊢
   cases h1:Zkc (Zym l f) (Nat.blt 1 (Zj n.op)) n.b l2 with
   | none=>rw [h1] at h;simp at h
   | some l1 =>
   rw [h1] at h;simp only at h ⊢
   cases h0:Zkc (Zym l f) (Nat.blt 0 (Zj n.op)) n.a l1 with
   | none=>rw [h0] at h;simp at h
   | some l0 =>
   rw [h0] at h;simp only at h ⊢;obtain ⟨op,num,name,a,b,c⟩:=n;simp only at h2 h1 h0 hrg
   by_cases h4:op≤4
   ·have hp:Zj op=0:=by unfold Zj;rw [if_pos h4]
    rw [hp] at h2 h1 h0
    obtain ⟨_,rfl,rfl⟩ | ⟨hh,_⟩:=Z5a h2
    rotate_left
    ·exact absurd hh (by decide)
    obtain ⟨_,rfl,rfl⟩ | ⟨hh,_⟩:=Z5a h1
    rotate_left
    ·exact absurd hh (by decide)
    obtain ⟨_,rfl,rfl⟩ | ⟨hh,_⟩:=Z5a h0
    rotate_left
    ·exact absurd hh (by decide)
    refine ⟨.leaf op num name,i.toNat,by unfold X.ok;rw [hw];simp;omega,Zkh (pre:=l.take i.toNat) (by rw [X.size,htk];rfl) (by rw [List.length_take];omega),by omega,by simp only [X.size];omega⟩
   have hnn:=Z9w hw (show op≠1 by omega);simp only at hnn;obtain ⟨rfl,hnm,_⟩:=hnn;obtain rfl:=hnm (by omega)
   by_cases h6:op≤6
   ·have hp:Zj op=1:=by unfold Zj;rw [if_neg h4,if_pos h6]
    rw [hp] at h2 h1 h0
    obtain ⟨_,rfl,rfl⟩ | ⟨hh,_⟩:=Z5a h2
    rotate_left
    ·exact absurd hh (by decide)
    obtain ⟨_,rfl,rfl⟩ | ⟨hh,_⟩:=Z5a h1
    rotate_left
    ·exact absurd hh (by decide)
    obtain ⟨hh,_⟩ | ⟨_,rfl,hr,rfl⟩:=Z5a h0
    ·exact absurd hh (by decide)
    obtain ⟨x,bx,ok1,at1,e1,s1⟩:=Zne l f _ hr;obtain ⟨pre,g1,g2⟩:=at1.glue;refine ⟨.un op x,bx,by unfold X.ok;rw [ok1];simp;omega,Zkh (pre:=pre) ?_ g2,by omega,by simp only [X.size];omega⟩;rw [show bx+(X.un op x).size=i.toNat+1 by simp only [X.size];omega,htk,show i.toNat=bx+x.size by omega,g1,X.row,List.append_assoc]
    congr 4;omega
   by_cases h21:op≤21
   ·have hp:Zj op=2:=by unfold Zj;rw [if_neg h4,if_neg h6,if_pos h21]
    rw [hp] at h2 h1 h0
    obtain ⟨_,rfl,rfl⟩ | ⟨hh,_⟩:=Z5a h2
    rotate_left
    ·exact absurd hh (by decide)
    obtain ⟨hh,_⟩ | ⟨_,rfl,hr1,rfl⟩:=Z5a h1
    ·exact absurd hh (by decide)
    obtain ⟨hh,_⟩ | ⟨_,rfl,hr0,rfl⟩:=Z5a h0
    ·exact absurd hh (by decide)
    obtain ⟨y,by',ok1,at1,e1,s1⟩:=Zne l f _ hr1;rw [e1] at hr0 h0 h ⊢;obtain ⟨x,bx,ok0,at0,e0,s0⟩:=Zne l f _ hr0;obtain ⟨prey,gy1,gy2⟩:=at1.glue;obtain ⟨prex,gx1,gx2⟩:=at0.glue
    have eby:by'=bx+x.size:=by omega
    have hpy:prey=prex++x.row bx:=by
     have:(l.take (by'+y.size)).take by'=prey:=by rw [gy1,List.take_left' gy2]
     rw [← this,List.take_take,Nat.min_eq_left (by omega),eby,gx1]
    refine ⟨.bin op x y,bx,by unfold X.ok;rw [ok1,ok0];simp;omega,Zkh (pre:=prex) ?_ gx2,by omega,by simp only [X.size];omega⟩;rw [show bx+(X.bin op x y).size=i.toNat+1 by simp only [X.size];omega,htk,show i.toNat=by'+y.size by omega,gy1,hpy,X.row,eby];simp only [List.append_assoc]
    congr 5<;>omega
   ·have hp:Zj op=3:=by unfold Zj;rw [if_neg h4,if_neg h6,if_neg h21]
    obtain rfl:op=22:=by omega
    rw [hp] at h2 h1 h0
    obtain ⟨hh,_⟩ | ⟨_,rfl,hr2,rfl⟩:=Z5a h2
    ·exact absurd hh (by decide)
    obtain ⟨z,bz,ok2,at2,e2,s2⟩:=Zne l f _ hr2;rw [e2] at h1
    obtain ⟨hh,_⟩ | ⟨_,rfl,hr1,rfl⟩:=Z5a h1
    ·exact absurd hh (by decide)
    obtain ⟨y,by',ok1,at1,e1,s1⟩:=Zne l f _ hr1;rw [e1] at h0
    obtain ⟨hh,_⟩ | ⟨_,rfl,hr0,rfl⟩:=Z5a h0
    ·exact absurd hh (by decide)
    obtain ⟨x,bx,ok0,at0,e0,s0⟩:=Zne l f _ hr0;obtain ⟨prez,gz1,gz2⟩:=at2.glue;obtain ⟨prey,gy1,gy2⟩:=at1.glue;obtain ⟨prex,gx1,gx2⟩:=at0.glue
    have eby:by'=bx+x.size:=by omega
    have ebz:bz=bx+x.size+y.size:=by omega
    have hpy:prey=prex++x.row bx:=by
     have:(l.take (by'+y.size)).take by'=prey:=by rw [gy1,List.take_left' gy2]
     rw [← this,List.take_take,Nat.min_eq_left (by omega),eby,gx1]
    have hpz:prez=prey++y.row by':=by
     have:(l.take (bz+z.size)).take bz=prez:=by rw [gz1,List.take_left' gz2]
     rw [← this,List.take_take,Nat.min_eq_left (by omega),show bz=by'+y.size by omega,gy1]
    refine ⟨.ite x y z,bx,by unfold X.ok;rw [ok2,ok1,ok0];rfl,Zkh (pre:=prex) ?_ gx2,by omega,by simp only [X.size];omega⟩;rw [show bx+(X.ite x y z).size=i.toNat+1 by simp only [X.size];omega,htk,show i.toNat=bz+z.size by omega,gz1,hpz,hpy,X.row,ebz,eby];simp only [List.append_assoc]
    congr 6<;>omega
def Z41 (l:List XN):Bool:=Zym l l.length ((l.length:Int)-1)==0
theorem Zjl (x:X):At (x.row 0) x 0:=⟨[],[],by simp,rfl⟩
theorem Zbo {l:List XN}:Z41 l=true ↔ ∃ x:X,x.ok=true∧l=x.row 0:=by
 unfold Z41;rw [beq_iff_eq]
 constructor
 ·intro h
  obtain ⟨x,b,h1,h2,h3,h4⟩:=Zne l l.length ((l.length:Int)-1) (by omega)
  obtain rfl:b=0:=by omega
  obtain ⟨pre,post,rfl,hb⟩:=h2;obtain rfl:=List.length_eq_zero_iff.1 hb
  have hl:post.length=0:=by
   simp only [List.nil_append,List.length_append,X.row_len] at h4;omega
  obtain rfl:=List.length_eq_zero_iff.1 hl;exact ⟨x,h1,by simp⟩
 ·rintro ⟨x,hx,rfl⟩
  have:=Zai x (x.row 0) 0 (x.row 0).length hx (Zjl x) (by rw [X.row_len];exact Nat.le_refl _);rw [X.row_len] at this ⊢;simpa using this
theorem Zkv (l:List XN):Z41 l=decide (Z3b l≠0):=by
 rw [Bool.eq_iff_iff,Zbo,decide_eq_true_iff]
 constructor
 ·rintro ⟨x,hx,rfl⟩
  rw [Zsm hx];have:=x.depth_pos;omega
 ·exact Zak
end Go.Hs
end

section
namespace Go.Hs
open Go.Proofs
set_option maxRecDepth 10000
theorem Zfv (G:Nat→V) (hG:GOk G) (ca cb:Col) (a b:Sl Int) (ha:a.l.length<1000000000) :
  Spec Tryz.prog G 43 [Za ca 1 (V.int .i64) a,Za cb 1 (V.int .i64) b] Zk (fun v _=>v = .bool (a.l==b.l)):=by
 refine Zo 0 26 [.tmp 4] Tryz.func43 fun X=>?_;refine Z1 ?_;refine Z1 ?_;refine Zh rfl (fun h2=>?_) (fun h2=>?_)
 ·
  refine Z ?_;simp at h2 ⊢;intro e;rw [e] at h2;exact h2 rfl
 ·
  refine Z0 ?_
  have hl:a.l.length=b.l.length:=by simp at h2;omega
  refine Z1 ?_;refine AW.block ?_
  refine Zpb a.l.length (fun k (_:Unit)=>st [(0,Za ca 1 (V.int .i64) a),(1,Za cb 1 (V.int .i64) b),(12,.int .i64 a.l.length),(13,.int .i64 k)] []) (fun k _=>a.l.take k=b.l.take k) 0 () (Nat.zero_le _) (by simp)
   (Zg (by simp -implicitDefEqProofs only[go_sem,seval,↓reduceIte];try simp) zp) ?_
  intro k _ hk hR L4 hL4;refine Z1 ?_;refine Z6 ?_;refine Zh rfl (fun h6=>?_) (fun h6=>?_)
  ·
   refine Z0 ?_
   have hk1:k<a.l.length:=by simpa using h6
   have hk2:k<b.l.length:=by omega
   refine Z1 ?_
   refine Z6 <| Zv ⟨fun _ => .top,fun _ => .pure⟩ (by kernel_rfl) hG (by kernel_rfl) (by kernel_rfl) ?_
   simp -implicitDefEqProofs only[go_sem,seval,↓reduceIte,List.getElem?_eq_getElem hk1,List.getElem?_eq_getElem hk2];refine Zh rfl (fun h8=>?_) (fun h8=>?_)
   ·
    refine Z ?_;simp at h8;simp;intro e;simp [e] at h8
   ·
    refine Z0 ?_
    have h3':a.l[k]=b.l[k]:=by simpa using h8
    refine Z1 ?_;refine hL4 _ ⟨hk1,(),?_,Zg (by simp -implicitDefEqProofs only[go_sem,seval,↓reduceIte];simp;exact w64 (by omega) (by omega)) zp⟩;rw [List.take_succ_eq_append_getElem hk1,List.take_succ_eq_append_getElem hk2,hR,h3']
  ·
   refine Z0 ?_
   have hk1:k=a.l.length:=by simp at h6;omega
   refine Z ?_;subst hk1;rw [List.take_length,hl,List.take_length] at hR;simp [hR]
theorem Zty (G:Nat→V) (hE:GExp G) (n:XN) (hn:n.name.length<100000):Spec Tryz.prog G 42 [Z3 n] Zk (fun v _=>v = .bool (Zyd n)):=by
 have hG:=hE.ok;refine Zo 0 43 [.tmp 2] Tryz.func42 fun X=>?_
 have hW:Zyd n=if n.op<1∨n.op > 22∨n.num<0 then false else if n.op=2 then n.num==0 && isP n.name==2 else n.name==[] && (n.op==1 || n.num==0):=rfl
 obtain ⟨op,num,name,a,b,c⟩:=n;simp only at hn hW;simp only [Zt];refine Zu fun K hK=>AW.region (by kernel_rfl) ?_;refine Zs ?_;intro g1;refine hK _ ?_
 try clear hK K
 refine Zob (fun (_:Unit)=>st [(1,.ptr 1 g1 0)] [(1,.cells .new g1 0 [.int .u8 op,.int .i64 num,.str name,.int .i64 a,.int .i64 b,.int .i64 c])]) (fun _=>¬ (op<1∨op > 22∨num<0)∧op≠2) (fun K1 hK1=>?_) ?_
 ·refine AW.block ?_
  by_cases h0:op<1∨op > 22∨num<0
  ·rw [if_pos h0] at hW
   have key:∀ K:AS→Prop,(K (st [(1,.ptr 1 g1 0),(3,.bool true)] [(1,.cells .new g1 0 [.int .u8 op,.int .i64 num,.str name,.int .i64 a,.int .i64 b,.int .i64 c])]))→True:=fun _ _=>trivial
   cases h1:decide (op<1)<;>cases h2:decide (op > 22)<;>cases h3:decide (num<0)
   ·simp only [decide_eq_false_iff_not] at h1 h2 h3
    rcases h0 with h | h | h
    ·exact absurd h h1
    ·exact absurd h h2
    ·exact absurd h h3
   all_goals
    (refine Zu fun K hK=>AW.region (by kernel_rfl) ?_;simp -implicitDefEqProofs only[go_sem,seval,↓reduceIte,h1,h2,h3];refine hK _ ?_;clear hK K)
    refine Zh (b:=true) zp (fun _=>?_) (fun h=>by cases h)
    (refine Zu fun K hK=>AW.region (by kernel_rfl) ?_;simp -implicitDefEqProofs only[go_sem,seval,↓reduceIte];refine hK _ ?_;clear hK K)
    (refine AW.ret ?_;simp -implicitDefEqProofs only[go_sem,seval,↓reduceIte];refine Zmc ?_)
    rw [hW]
  ·have h1:decide (op<1)=false:=by rw [decide_eq_false_iff_not];exact fun h=>h0 (.inl h)
   have h2:decide (op > 22)=false:=by rw [decide_eq_false_iff_not];exact fun h=>h0 (.inr (.inl h))
   have h3:decide (num<0)=false:=by rw [decide_eq_false_iff_not];exact fun h=>h0 (.inr (.inr h))
   rw [if_neg h0] at hW;refine Zu fun K hK=>AW.region (by kernel_rfl) ?_;refine Zsf (zi h1 (zi h2 h3)) ?_;refine hK _ ?_
   try clear hK K
   refine Zbd rfl ?_
   try clear h4
   refine Zu fun K hK=>AW.region (by kernel_rfl) ?_;refine Zs ?_;refine hK _ ?_
   try clear hK K
   refine Zh rfl (fun h5=>?_) (fun h5=>?_)
   ·have h5:op=2:=by simpa using h5
    rw [if_pos h5] at hW
    cases h6:(num==0) with
    | false =>
     refine Zu fun K hK=>AW.region (by kernel_rfl) ?_;refine Zsf h6 ?_;refine hK _ ?_
     try clear hK K
     refine Z ?_
     rw [hW,h6]<;>rfl
    | true =>
     refine Zu fun K hK=>AW.region (by kernel_rfl) ?_;refine Zsf h6 ?_;refine Zc hG ?_ (s:=(Zfl G hE name hn));refine hK _ ?_
     try clear hK K
     refine Z ?_;rw [hW,h6,Bool.true_and];generalize isP name=z
     cases hz:(z==2) with
     | true =>
      have:((z:Int)==2)=true:=by rw [beq_iff_eq] at hz ⊢;omega
      rw [this]
     | false =>
      have:((z:Int)==2)=false:=by rw [beq_eq_false_iff_ne] at hz ⊢;omega
      rw [this]
   ·have h5:¬ op=2:=by simpa using h5
    refine Z0 ?_;exact hK1 _ () ⟨h0,h5⟩ (Zg zp zp)
 rintro _ ⟨h0,h5⟩;rw [if_neg h0,if_neg h5] at hW
 cases h1:(name==[])<;>cases h2:(op==1)<;>cases h3:(num==0)<;>((refine Zu fun K hK=>AW.region (by kernel_rfl) ?_;simp -implicitDefEqProofs only[go_sem,seval,↓reduceIte,h1,h2,h3];refine hK _ ?_;clear hK K);(refine AW.ret ?_;simp -implicitDefEqProofs only[go_sem,seval,↓reduceIte];refine Zmc ?_);rw [hW,h1,h2,h3]<;>rfl)
end Go.Hs
end

section
namespace Go.Hs
open Go.Proofs
set_option maxRecDepth 10000
def Z4e (p:Int × Int):V := .agg [.int .i64 p.1,.int .i64 p.2]
theorem Z5h (p:Int × Int):(Z4e p).cells.length=2:=rfl
theorem Zf0 {l:List XN} {k:Nat} {n:XN} (h:l[k]? = some n) (i:Int) (opn:List (Int × Int)):Z2c (l.drop k) i opn=match Zqc i n opn with | some o=>Z2c (l.drop (k+1)) (i+1) o | none=>none:=by
 obtain ⟨h1,h2⟩:=List.getElem?_eq_some_iff.1 h
 rw [List.drop_eq_getElem_cons h1,h2]<;>rfl
theorem Zb2 {op:Int} (h1:1≤op) (h2:op≤22):tabC[op.toNat * 3+2]? = some (.int .i64 (Zj op:Nat)):=by
 obtain ⟨n,rfl⟩:∃ n:Nat,op=n:=⟨op.toNat,by omega⟩;rw [Int.toNat_natCast,Zgx n (by omega) 2 (by decide)]
 have:∀ n:Nat,n<23→1≤n→(tabL.getD n ⟨[],0,0⟩).parts=(Zj n:Nat):=by decide +kernel
 rw [← this n (by omega) (by omega)]<;>rfl
theorem Zf3:∀ (l:List (Int × Int)) (i:Nat) (x:Int × Int),l[i]? = some x→((flat (l.map Z4e)).drop (i * 2)).take 2=[.int .i64 x.1,.int .i64 x.2]
 | [],i,x,h=>by simp at h
 | y::r,0,x,h=>by
  have:y=x:=by simpa using h
  subst this;rfl
 | y::r,i+1,x,h=>by
  have ih:=Zf3 r i x (by simpa using h);rw [← ih,List.map_cons];have:flat (Z4e y::r.map Z4e) = .int .i64 y.1 :: .int .i64 y.2::flat (r.map Z4e):=rfl;rw [this,show (i+1) * 2=i * 2+1+1 by omega,List.drop_succ_cons,List.drop_succ_cons]
def plC (l:List (Int × Int)):List V:=(Zeb l).map (V.int .i64)
theorem plC_set:∀ (l:List (Int × Int)) (j:Nat) (x:Int × Int),l[j]? = some x→j<3→Hs.setAt (plC (l.take j)) j [.int .i64 x.1]=plC (l.take (j+1)):=by
 intro l j x h hj
 match l,j,h,hj with
 | a::r,0,h,_ =>
  have:a=x:=by simpa using h
  subst this;rfl
 | a::b::r,1,h,_ =>
  have:b=x:=by simpa using h
  subst this;rfl
 | a::b::c::r,2,h,_ =>
  have:c=x:=by simpa using h
  subst this;rfl
theorem Zdt (l:List (Int × Int)) (j:Nat) (x:Int × Int) (h:l[j]? = some x):Zhb (l.take (j+1))=max (Zhb (l.take j)) x.2:=by
 unfold Zhb
 rw [List.take_add_one,h,List.foldl_append]<;>rfl
theorem plC_len (l:List (Int × Int)):(plC l).length=3:=rfl
theorem Zpz (op:Int):Zj op≤3:=by
 unfold Zj
 split
 ·omega
 ·split
  ·omega
  ·split<;>omega
theorem Zg0 {l:List (Int × Int)} {k:Int} (hk:0≤k) (h:∀ y∈l,(0:Int)≤y.2∧y.2≤k):0≤Zhb l∧Zhb l≤k:=by
 have:∀ (l:List (Int × Int)) (d:Int),0≤d→d≤k→(∀ y∈l,(0:Int)≤y.2∧y.2≤k)→0≤l.foldl (fun d p=>max d p.2) d∧l.foldl (fun d p=>max d p.2) d≤k:=by
  intro l
  induction l with
  | nil=>intro d h1 h2 _;exact ⟨h1,h2⟩
  | cons y r ih =>
   intro d h1 h2 h3;have:=h3 y (by simp);exact ih (max d y.2) (by omega) (by omega) fun z hz=>h3 z (by simp [hz])
 exact this l 0 (Int.le_refl _) hk h
theorem Ze3 (l:List (Int × Int)) (n:Nat):(flat (l.map Z4e)).take (n * 2)=flat ((l.take n).map Z4e):=by
 induction l generalizing n with
 | nil=>simp [flat]
 | cons y r ih =>
  cases n with
  | zero=>simp [flat]
  | succ n =>
   have e:flat ((y::r).map Z4e) = .int .i64 y.1 :: .int .i64 y.2::flat (r.map Z4e):=rfl
   rw [e,List.take_succ_cons,List.map_cons,show (n+1) * 2=n * 2+1+1 by omega,List.take_succ_cons,List.take_succ_cons,ih]<;>rfl
theorem Zml (G:Nat→V) (hE:GExp G) (c:Col) (s:Sl XN) (hs:s.l.length<1000000) (hnm:∀ n∈s.l,n.name.length<100000) :
  Spec Tryz.prog G 15 [.agg [Za c 6 Z3 s]] Zk (fun v _=>v = .int .i64 (Z3b s.l)):=by
 have hG:=hE.ok;refine Zo 0 81 [.tmp 2] Tryz.func15 fun X=>?_
 have hD:Z3b s.l=match Z2c s.l 0 [] with | some [x]=>x.2 | _=>0:=rfl
 have hnone:Z2c s.l 0 []=none→Z3b s.l=0:=fun h=>by rw [hD,h]
 refine Z1 ?_;intro g1;refine Z1 ?_;refine Zn hG ?_ (s:=(Zuh G hG));refine Zsf (zi @Z9u (zi @Zbp @Nat.le_refl)) ?_;intro g3;rw [Zvl _ ?hl]
 case hl=>rfl
 refine Z1 ?_;refine Z1 ?_;refine AW.block ?_
 refine Zpb s.l.length (fun k (x:Nat × List (Int × Int))=>st [(3,.ptr 3 g3 0),(4,grown 72 x.1 2 x.2),(14,Za c 6 Z3 s),(15,.int .i64 s.l.length),(16,.int .i64 k)] [(3,.cells .new g3 0 tabC),(72,Z2b x.1 Z4e x.2)])
  (fun k x=>Z2c s.l 0 []=Z2c (s.l.drop k) k x.2∧x.2.length≤k∧∀ y∈x.2,(0:Int)≤y.2∧y.2≤k) 0 (0,[]) (Nat.zero_le _) ⟨by simp,Nat.le_refl _,by simp⟩
  (Zg zp zp) ?_
 rintro k ⟨gx,opn⟩ hk ⟨hR,hol,hdp⟩ L2 hL2
 replace hR:Z2c s.l 0 []=Z2c (s.l.drop k) k opn:=hR
 replace hol:opn.length≤k:=hol
 replace hdp:∀ y∈opn,(0:Int)≤y.2∧y.2≤k:=hdp
 refine Z1 ?_;refine Z6 ?_;refine Zh rfl (fun h4=>?_) (fun h4=>?_)
 ·have hk1:k<s.l.length:=by simpa using h4
  have hg:=List.getElem?_eq_getElem hk1;have hnn:=hnm _ (List.getElem_mem hk1);generalize s.l[k]=n at hg hnn;rw [Zf0 hg] at hR;refine Z1f (zi hg @Zt) ?_;intro g6;refine Z1 ?_;rw [← Zt];refine Zcf @Zsi hG ?_ (s:=(Zty G hE n hnn))
  have hst:Zqc k n opn=if Zyd n=false then none else if opn.length<Zj n.op then none
   else if Zeb (opn.drop (opn.length-Zj n.op))≠[n.a,n.b,n.c] then none
   else some (opn.take (opn.length-Zj n.op)++[((k:Int),Zhb (opn.drop (opn.length-Zj n.op))+1)]):=rfl
  cases hw:Zyd n with
  | false =>
   rw [if_pos hw] at hst;rw [hst] at hR;refine Zh rfl (fun h7=>?_) (fun h7=>?_)
   ·refine Z ?_
    rw [hnone hR]
   ·cases h7
  | true =>
  rw [if_neg (by rw [hw];simp)] at hst;refine Z0 ?_;have hrg:=Z2d hw;have hpt:=Zb2 hrg.1 hrg.2;have hp3:Zj n.op≤3:=Zpz _;generalize hpd:Zj n.op=p at hst hpt hp3
  have hop0:(0:Int)≤n.op:=by omega
  have hop23:n.op<23:=by omega
  have hsub:IntKind.i64.wrap ((opn.length:Int)-(p:Int))=(opn.length:Int)-p:=w64 (by omega) (by omega);refine Z1f (zi hop0 (zi hop23 (zi hpt (zi hsub @Nat.zero_add)))) ?_;refine Z6 ?_
  by_cases hlt:opn.length<p
  ·have e1:decide ((opn.length:Int)-p<0)=true:=zT
   rw [if_pos hlt] at hst;rw [hst] at hR;refine Z1f e1 ?_;refine Zh rfl (fun h9=>?_) (fun h9=>?_)
   ·refine Z ?_
    rw [hnone hR]
   ·cases h9
  have e1:decide ((opn.length:Int)-p<0)=false:=zF;rw [if_neg hlt] at hst;refine Z1f e1 ?_;refine Z0 ?_;obtain ⟨kk,hkk⟩:∃ kk:Nat,kk=opn.length-p:=⟨_,rfl⟩;rw [← hkk] at hst
  have hkd:(opn.length:Int)-p=(kk:Int):=by omega
  rw [hkd];refine Z1 ?_;intro g34
  have hkl:kk+p=opn.length:=by omega
  refine Zob (fun (_:Unit)=>st [(3,.ptr 3 g3 0),(4,grown 72 gx 2 opn),(5,.int .i64 k),(6,.ptr 6 g6 0),(7,.int .i64 kk),(8,.msl 34 g34 0 3 1),(9,.int .i64 (Zhb (opn.drop kk))),(14,Za c 6 Z3 s),(15,.int .i64 s.l.length),(16,.int .i64 k)]
    [(3,.cells .new g3 0 tabC),(72,Z2b gx Z4e opn),(6,.cells .new g6 0 [.int .u8 n.op,.int .i64 n.num,.str n.name,.int .i64 n.a,.int .i64 n.b,.int .i64 n.c]),(34,.cells .new g34 0 (plC (opn.drop kk)))])
   (fun _=>True) (fun K10 hK10=>?_) ?_
  ·by_cases hp0:p=0
   ·have hdn:opn.drop kk=[]:=List.drop_eq_nil_of_le (by omega)
    rw [hdn] at hK10;subst hp0
    have hkle:kk≤opn.length:=by omega
    have hnlt:¬ kk<opn.length:=by omega
    by_cases hne:opn=[]
    ·subst hne
     have hk0:kk=0:=by simpa using hkl
     subst hk0;refine Ztc (by kernel_rfl) ?_;simp -implicitDefEqProofs only[go_sem,seval,↓reduceIte,Zqd,Zhf,and_self];refine AW.block ?_
     refine Zpb 0 (fun j (_:Unit)=>st [(3,.ptr 3 g3 0),(5,.int .i64 k),(4,.nils),(6,.ptr 6 g6 0),(7,.int .i64 (0:Nat)),(8,.msl 34 g34 0 3 1),(9,.int .i64 0),(14,Za c 6 Z3 s),(15,.int .i64 s.l.length),(16,.int .i64 k),(38,.int .i64 0),(39,.int .i64 j)]
       [(3,.cells .new g3 0 tabC),(6,.cells .new g6 0 [.int .u8 n.op,.int .i64 n.num,.str n.name,.int .i64 n.a,.int .i64 n.b,.int .i64 n.c]),(34,.cells .new g34 0 (plC []))])
      (fun j _=>True) 0 () (Nat.zero_le _) trivial (Zg zp zp) ?_
     intro j _ hj _ L11 hL11
     obtain rfl:j=0:=by omega
     refine Z1 ?_;refine Z0 ?_
     ·refine Z0 ?_
      exact hK10 _ () trivial (Zg (zpf @Zqd) (zpf @Zhf))
    ·have hk0:¬ kk=0:=by
      intro h
      have:opn.length=0:=by omega
      exact hne (List.length_eq_zero_iff.1 this)
     refine Ztc (by kernel_rfl) ?_;simp -implicitDefEqProofs only[go_sem,seval,↓reduceIte,Zfc 72 gx 2 hne,hkle,Nat.le_refl,and_self,hk0,hnlt];refine AW.block ?_
     refine Zpb 0 (fun j (_:Unit)=>st [(3,.ptr 3 g3 0),(4,grown 72 gx 2 opn),(5,.int .i64 k),(6,.ptr 6 g6 0),(7,.int .i64 kk),(8,.msl 34 g34 0 3 1),(9,.int .i64 0),(14,Za c 6 Z3 s),(15,.int .i64 s.l.length),(16,.int .i64 k),(38,.int .i64 0),(39,.int .i64 j)]
       [(3,.cells .new g3 0 tabC),(72,Z2b gx Z4e opn),(6,.cells .new g6 0 [.int .u8 n.op,.int .i64 n.num,.str n.name,.int .i64 n.a,.int .i64 n.b,.int .i64 n.c]),(34,.cells .new g34 0 (plC []))])
      (fun j _=>True) 0 () (Nat.zero_le _) trivial (Zg (by simp -implicitDefEqProofs only[go_sem,seval,↓reduceIte];rw [Zfc 72 gx 2 hne];try exact ⟨rfl,rfl⟩) zp) ?_
     intro j _ hj _ L11 hL11
     obtain rfl:j=0:=by omega
     refine Z1 ?_;refine Z0 ?_
     ·refine Z0 ?_
      exact hK10 _ () trivial (Zg zp zp)
   ·have hne:opn≠[]:=by intro e;rw [e] at hkl;simp at hkl;omega
    have hsl:(if kk=0 then V.msl 72 gx 0 opn.length 2 else if kk<opn.length then V.msl 72 gx (kk * 2) (opn.length-kk) 2 else V.slice .any false 2 []) = .msl 72 gx (kk * 2) p 2:=by
     by_cases h0:kk=0
     ·rw [if_pos h0];congr 1<;>omega
     ·rw [if_neg h0,if_pos (by omega)];congr 1;omega
    have hkle:kk≤opn.length:=by omega
    refine Ztc (by kernel_rfl) ?_;simp -implicitDefEqProofs only[go_sem,seval,↓reduceIte,Zfc 72 gx 2 hne,hkle,Nat.le_refl,and_self,hsl,Nat.zero_add];refine AW.block ?_
    refine Zpb p (fun j (_:Unit)=>st [(3,.ptr 3 g3 0),(4,grown 72 gx 2 opn),(5,.int .i64 k),(6,.ptr 6 g6 0),(7,.int .i64 kk),(8,.msl 34 g34 0 3 1),(9,.int .i64 (Zhb ((opn.drop kk).take j))),(14,Za c 6 Z3 s),(15,.int .i64 s.l.length),(16,.int .i64 k),(37,.msl 72 gx (kk * 2) p 2),(38,.int .i64 p),(39,.int .i64 j)]
      [(3,.cells .new g3 0 tabC),(72,Z2b gx Z4e opn),(6,.cells .new g6 0 [.int .u8 n.op,.int .i64 n.num,.str n.name,.int .i64 n.a,.int .i64 n.b,.int .i64 n.c]),(34,.cells .new g34 0 (plC ((opn.drop kk).take j)))])
     (fun j _=>True) 0 () (Nat.zero_le _) trivial
     (Zg (by simp -implicitDefEqProofs only[go_sem,seval,↓reduceIte];rw [Zfc 72 gx 2 hne];exact ⟨rfl,rfl⟩) zp) ?_
    intro j _ hj _ L11 hL11;refine Z1 ?_;refine Z6 ?_;refine Zh rfl (fun h13=>?_) (fun h13=>?_)
    ·have hj1:j<p:=zL h13
     refine Z0 ?_;refine Z6 ?_;refine AW.block ?_;obtain ⟨x,hx⟩:∃ x,opn[kk+j]? = some x:=⟨_,List.getElem?_eq_getElem (by omega)⟩
     have hxd:(opn.drop kk)[j]? = some x:=by rw [List.getElem?_drop];exact hx
     have hfp:=Zf3 opn (kk+j) x hx;rw [show (kk+j) * 2=kk * 2+j * 2 by omega] at hfp
     have hfl:kk * 2+j * 2+2≤(flat (opn.map Z4e)).length:=by rw [Zkb (m:=2) Z5h];omega
     have hps:=plC_set (opn.drop kk) j x hxd (by omega);have hds:=Zdt (opn.drop kk) j x hxd;have hpl:=plC_len ((opn.drop kk).take j);generalize plC ((opn.drop kk).take j)=pc at hps hpl ⊢;generalize Zhb ((opn.drop kk).take j)=dd at hds ⊢
     have hj3:(j:Int)<3:=by omega
     refine Ztc (by kernel_rfl) ?_;simp -implicitDefEqProofs only[go_sem,seval,↓reduceIte,Z0c gx Z4e hne,hfp,hfl,Int.natCast_nonneg,hj1,Int.ofNat_lt];intro g11
     refine AW.weak (Z8 (fun o=>o==11) (l:=[(3,.ptr 3 g3 0),(4,grown 72 gx 2 opn),(5,.int .i64 k),(6,.ptr 6 g6 0),(7,.int .i64 kk),(8,.msl 34 g34 0 3 1),(9,.int .i64 dd),(10,.int .i64 j),(11,.view .new (.agg [.int .i64 x.1,.int .i64 x.2])),(14,Za c 6 Z3 s),(15,.int .i64 s.l.length),(16,.int .i64 k),(37,.msl 72 gx (kk * 2) p 2),(38,.int .i64 p),(39,.int .i64 j)])
      (m:=[(3,.cells .new g3 0 tabC),(72,Z2b gx Z4e opn),(6,.cells .new g6 0 [.int .u8 n.op,.int .i64 n.num,.str n.name,.int .i64 n.a,.int .i64 n.b,.int .i64 n.c]),(34,.cells .new g34 0 pc)]) ?_ ?_) ?_
     ·refine Zs ?_
      refine ⟨Zd _,Zd _,Zd _,Zd _,Zd _,Zd _,Zd _,Zd _,?_,Zd _,Zd _,Zd _,Zd _,Zd _,Zd _⟩;exact Fz.ptr (v := .agg [.int .i64 x.1,.int .i64 x.2]) (c := .new) (fz:=0) rfl zp
     ·simp only [Zl,Zp,and_true]
      exact ⟨FzO.keep rfl zp,FzO.keep rfl (by first | rfl | (rw [Z0c gx Z4e hne]<;>rfl) | (simp -implicitDefEqProofs only[go_sem,seval,↓reduceIte];try rfl)),FzO.keep rfl zp,FzO.keep rfl zp⟩
     refine Zv ⟨fun _ => .top,fun i=>if i=3 then .lend else if i=6 then .lend else .pure⟩ (by kernel_rfl) hG (by kernel_rfl) (by kernel_rfl) ?_
     have hjl:j+1≤pc.length:=by omega
     have hset:pc.set j (.int .i64 x.1)=plC ((opn.drop kk).take (j+1)):=hps
     have hmx:(if x.2 > dd then x.2 else dd)=max dd x.2:=by
      rw [Int.max_def];split<;>split<;>omega
     simp -implicitDefEqProofs only[go_sem,seval,↓reduceIte,hj3,Int.natCast_nonneg,Nat.mul_one,Nat.zero_le,hjl,hset,hmx,← hds];refine Z1 ?_;refine hL11 _ ⟨hj1,(),trivial,Zg zw zp⟩
    ·have hj1:j=p:=by have:=zN h13;omega
     have htk:(opn.drop kk).take j=opn.drop kk:=List.take_of_length_le (by rw [List.length_drop];omega);rw [htk];refine Z0 ?_;exact hK10 _ () trivial (Zg zp zp)
  intro _ _;refine Z6 ?_;have hpl:Zeb (opn.drop kk)=[(Zeb (opn.drop kk)).getD 0 0,(Zeb (opn.drop kk)).getD 1 0,(Zeb (opn.drop kk)).getD 2 0]:=rfl;refine Z1 ?_;intro g61;refine Zqe hG [Za .old 1 (V.int .i64) (.mk false (Zeb (opn.drop kk))),Za .old 1 (V.int .i64) (.mk false [n.a,n.b,n.c])] (by kernel_rfl) ⟨?_,?_,trivial⟩ ?_
  ·exact Rd.msl (off:=0) (n:=3) (l:=Zeb (opn.drop kk)) (f:=V.int .i64) (f':=V.int .i64) (g:=g34) (fz:=0) (c := .new) (by simp -implicitDefEqProofs only[go_sem,seval,↓reduceIte];exact congrArg (AObj.cells Col.new g34 0) (Zro _ _).symm) (fun _=>rfl) (fun x y hy=>by simp [V.cells] at hy;subst hy;exact .int _ _) (fun _=>rfl) (by simp [Zeb])
  ·exact Rd.msl (off:=0) (n:=3) (l:=[n.a,n.b,n.c]) (f:=V.int .i64) (f':=V.int .i64) (g:=g61) (fz:=0) (c := .new) zp (fun _=>rfl) (fun x y hy=>by simp [V.cells] at hy;subst hy;exact .int _ _) (fun _=>rfl) (by simp)
  refine (Zfv G hG _ _ (.mk false (Zeb (opn.drop kk))) (.mk false [n.a,n.b,n.c]) (by simp [Zeb,Sl.l])).mono ?_;rintro _ _ rfl;refine ⟨.bool _,?_⟩;refine Zs ?_
  cases heq:(Zeb (opn.drop kk)==[n.a,n.b,n.c]) with
  | false =>
   have heq2:Zeb (opn.drop kk)≠[n.a,n.b,n.c]:=by simpa using heq
   rw [if_pos heq2] at hst;rw [hst] at hR;refine Zh rfl (fun h12=>?_) (fun h12=>?_)
   ·refine Z ?_
    rw [hnone hR]
   ·cases h12
  | true =>
  have heq2:¬ Zeb (opn.drop kk)≠[n.a,n.b,n.c]:=by simpa using heq
  rw [if_neg heq2] at hst;rw [hst] at hR;refine Z0 ?_;have hdb:=Zg0 (l:=opn.drop kk) (k:=k) (by omega) fun y hy=>hdp y (List.mem_of_mem_drop hy);generalize Zhb (opn.drop kk)=dd at hR hdb ⊢;have hwd:IntKind.i64.wrap (dd+1)=dd+1:=w64 (by omega) (by omega)
  have hne2:opn.take kk++[((k:Int),dd+1)]≠[]:=by simp
  have hlen2:(opn.take kk++[((k:Int),dd+1)]).length=kk+1:=by rw [List.length_append,List.length_take];simp;omega
  have hdp2:∀ y∈opn.take kk++[((k:Int),dd+1)],(0:Int)≤y.2∧y.2≤(k+1:Nat):=by
   intro y hy
   rcases List.mem_append.1 hy with h | h
   ·have:=hdp y (List.mem_of_mem_take h);omega
   ·rw [List.mem_singleton.1 h];show 0≤dd+1∧dd+1≤_;omega
  by_cases hne:opn=[]
  ·subst hne
   have hk0:kk=0:=by simpa using hkk
   subst hk0;refine AW.region (by kernel_rfl) ?_;simp -implicitDefEqProofs only[go_sem,seval,↓reduceIte,Zqd,Zhf,and_self,hwd];intro g71;refine Znc (f:=Z4e) (l:=([]:List (Int × Int))) (l2:=[((k:Int),dd+1)]) (g:=gx) Z5h rfl rfl rfl rfl (Zta (by omega) (by simp)) fun g2=>?_;refine Zs ?_;refine Z1 ?_;refine hL2 _ ⟨hk1,(g2,[((k:Int),dd+1)]),⟨hR,?_,hdp2⟩,Zg zw zp⟩
   show 1≤k+1
   omega
  ·have hkle:kk≤opn.length:=by omega
   refine AW.region (by kernel_rfl) ?_;simp -implicitDefEqProofs only[go_sem,seval,↓reduceIte,Zfc 72 gx 2 hne,Nat.zero_le,hkle,and_self,hwd,Z0c gx Z4e hne];intro g71;refine ⟨Zta (by omega) (by omega),by rw [Zkb (m:=2) Z5h];omega,fun g2=>?_⟩;refine Z1 ?_;refine hL2 _ ⟨hk1,(g2,opn.take kk++[((k:Int),dd+1)]),⟨hR,?_,hdp2⟩,Zg (by simp -implicitDefEqProofs only[go_sem,seval,↓reduceIte];exact ⟨by rw [Zfc _ _ _ hne2,hlen2],congrArg _ (w64 (by omega) (by omega))⟩) (by simp -implicitDefEqProofs only[go_sem,seval,↓reduceIte];rw [Z0c _ _ hne2,List.map_append,Zuf,← Ze3]<;>rfl)⟩
   show (opn.take kk++[_]).length≤k+1
   rw [hlen2];omega
 ·have hk1:k=s.l.length:=by simp at h4;omega
  refine Z0 ?_;rw [hk1,List.drop_length,Z2c] at hR;rw [hR] at hD;refine Z6 ?_
  match opn,hD with
  | [],hD =>
   refine Z1f @Zqd ?_;refine Zh rfl (fun h7=>?_) (fun h7=>?_)
   ·refine Z ?_
    rw [hD]
   ·cases h7
  | [x],hD =>
   have hne:[x]≠([]:List (Int × Int)):=by simp
   refine Z1 ?_;refine Z0 ?_;have hfx:flat ([x].map Z4e)=[.int .i64 x.1,.int .i64 x.2]:=rfl;refine Ztc (by kernel_rfl) ?_;simp -implicitDefEqProofs only[go_sem,seval,↓reduceIte,Zfc 72 gx 2 hne,Z0c gx Z4e hne,hfx];refine Z ?_;rw [hD]
  | x::y::r,hD =>
   have e1:(((x::y::r).length:Int) != 1)=true:=by simp;omega
   refine Z1f e1 ?_;refine Zh rfl (fun h7=>?_) (fun h7=>?_)
   ·refine Z ?_
    rw [hD]
   ·cases h7
end Go.Hs
end

section
namespace Go.Hs
open Go.Proofs
set_option maxRecDepth 10000
def Zna (l:List XN):Int:=if Z3b l=0 then 2 else if Z3b l > 64 then 3 else 0
theorem Zkf (G:Nat→V) (hE:GExp G) (c:Col) (s:Sl XN) (hs:s.l.length<1000000) (hnm:∀ n∈s.l,n.name.length<100000) :
  Spec Tryz.prog G 65 [.agg [Za c 6 Z3 s]] Zk (fun v _=>v = .int .i64 (Zna s.l)):=by
 have hG:=hE.ok;refine Zo 0 12 [.tmp 2] Tryz.func65 fun X=>?_
 have hC:Zna s.l=if Z3b s.l=0 then 2 else if Z3b s.l > 64 then 3 else 0:=rfl
 generalize Zna s.l=res at hC ⊢;refine Z1 ?_;intro g1;refine Z1 ?_;refine Zcf @Zbb hG ?_ (s:=(Zml G hE c.ent s hs hnm));refine Z1 ?_;refine Zh rfl (fun h6=>?_) (fun h6=>?_)
 ·have h6:Z3b s.l=0:=by simpa using h6
  rw [if_pos h6] at hC;refine Z ?_;rw [hC]
 have h6:¬ Z3b s.l=0:=by simpa using h6
 rw [if_neg h6] at hC;refine Z1 ?_;refine Zh rfl (fun h7=>?_) (fun h7=>?_)
 ·have h7:Z3b s.l > 64:=by simpa using h7
  rw [if_pos h7] at hC;refine Z ?_;rw [hC]
 ·have h7:¬ Z3b s.l > 64:=by simpa using h7
  rw [if_neg h7] at hC;refine Z ?_;rw [hC]
end Go.Hs
end

section
namespace Go.Hs
def NmQ (Q:List UInt8→Prop) (r:RS):Prop:=∀ n∈r.nodes,Q n.name
def NmI (Q:List UInt8→Prop) (inner:Inner):Prop:=∀ n r,NmQ Q r→NmQ Q (inner n r).2
theorem NmQ.put {Q:List UInt8→Prop} {r:RS} {n:XN} (h:NmQ Q r) (hn:Q n.name):NmQ Q (r.put n):=by
 intro m hm
 rcases List.mem_append.1 hm with h1 | h1
 ·exact h m h1
 ·rw [List.mem_singleton.1 h1];exact hn
theorem Zmb {Q:List UInt8→Prop} {x:Bool × RS} {k:RS→Bool × RS} (h:NmQ Q x.2) (hk:∀ r,NmQ Q r→NmQ Q (k r).2):NmQ Q (andThen x k).2:=by
 obtain ⟨b,r⟩:=x;cases b
 ·exact h
 ·exact hk r h
theorem Zrm {Q:List UInt8→Prop} (l:List Tk) (w:List UInt8) {r:RS} (h:NmQ Q r):NmQ Q (Z7e l w r).2:=by
 unfold Z7e;split<;>exact h
theorem Ztz {Q:List UInt8→Prop} (h0:Q []) (t:List UInt8) {r:RS} (h:NmQ Q r):NmQ Q (Zpc r t).2:=by
 unfold Zpc;split
 ·exact h
 ·exact NmQ.put (n:=⟨1,_,[],-1,-1,-1⟩) h h0
theorem Zht {Q:List UInt8→Prop} {l:List Tk} {inner:Inner} (h0:Q []) (hi:NmI Q inner) {r:RS} (h:NmQ Q r):NmQ Q (Zua l inner r).2:=by
 unfold Zua;refine Zmb (Zrm _ _ h) fun r1 h1=>Zmb (hi _ _ h1) fun a h2=>Zmb (Zrm _ _ h2) fun r2 h3=>Zmb (hi _ _ h3) fun b h4=>Zmb (Zrm _ _ h4) fun r3 h5=>Zmb (hi _ _ h5) fun c h6=>Zmb (Zrm _ _ h6) fun r4 h7=>?_;exact NmQ.put h7 h0
theorem Ze4 {Q:List UInt8→Prop} {l:List Tk} {inner:Inner} (h0:Q []) (hq:∀ i,(Z5 l i).kind=2→Q (Z5 l i).text) (hi:NmI Q inner) {r:RS} (h:NmQ Q r):NmQ Q (Zla l inner r).2:=by
 unfold Zla
 split
 ·exact Ztz h0 _ h
 split
 ·rename_i hk;exact NmQ.put (n:=⟨2,0,(Z5 l r.i).text,-1,-1,-1⟩) h (hq _ hk)
 split
 ·exact h
 split
 ·exact Zmb (hi _ _ h) fun a ha=>NmQ.put ha h0
 split
 ·exact Zmb (hi _ _ h) fun a ha=>Zrm _ _ ha
 split
 ·exact Zht h0 hi h
 split
 ·exact NmQ.put (n:=⟨_,0,[],-1,-1,-1⟩) h h0
 ·exact h
theorem Z3x {Q:List UInt8→Prop} {l:List Tk} {inner:Inner} (h0:Q []) (hi:NmI Q inner) (n:Int):∀ (m:Nat) (r:RS),NmQ Q r→NmQ Q (Z6b l inner n m r).2
 | 0,r,h=>h
 | m+1,r,h=>by
  rw [Z6b]
  split
  ·exact h
  ·split
   ·exact h
   ·exact Zmb (hi _ r.adv h) fun a ha=>Z3x h0 hi n m (a.put _) (NmQ.put ha h0)
theorem Zum {Q:List UInt8→Prop} (l:List Tk) (h0:Q []) (hq:∀ i,(Z5 l i).kind=2→Q (Z5 l i).text):∀ f,NmI Q (Zw l f)
 | 0=>fun _ _ h=>h
 | f+1=>fun n r h=>by
  rw [Zw];exact Zmb (Ze4 h0 hq (Zum l h0 hq f) h) fun a ha=>Z3x h0 (Zum l h0 hq f) n _ a ha
end Go.Hs
end

section
namespace Go.Hs
def Zxc (l:List Tk):List XN × Int × Int:=if (Zw l (l.length+1) 1 ⟨0,[],0⟩).1=false then ([],(Zw l (l.length+1) 1 ⟨0,[],0⟩).2.i,(Zw l (l.length+1) 1 ⟨0,[],0⟩).2.e)
 else if Z3b (Zw l (l.length+1) 1 ⟨0,[],0⟩).2.nodes > 64 then ([],0,3) else ((Zw l (l.length+1) 1 ⟨0,[],0⟩).2.nodes,(Zw l (l.length+1) 1 ⟨0,[],0⟩).2.i,0)
theorem Zgj {l:List Tk}:0≤(Zxc l).2.1∧(Zxc l).2.1≤(l.length:Nat):=by
 have hok:=((Z5d l (l.length+1) 1 ⟨0,[],0⟩).ok ⟨Nat.zero_le _,Nat.le_refl _⟩).1;unfold Zxc
 split
 ·exact ⟨Int.natCast_nonneg _,Int.ofNat_le.2 hok⟩
 ·split
  ·exact ⟨Int.le_refl _,Int.natCast_nonneg _⟩
  ·exact ⟨Int.natCast_nonneg _,Int.ofNat_le.2 hok⟩
end Go.Hs
end

section
namespace Go.Hs
open Go.Proofs
set_option maxRecDepth 10000
theorem Zj4 {NO:Nat} {tl:List V} {G:Nat→V} (hG:GOk G) {f:FuncId} {args args':List V} {sl:Sl Tk} {g:Nat} {r r':RS} {v:V} (h:RdS NO tl G f args' sl g r v r') {H:Heap} {K:V→Heap→Prop}
  (hen:Z2 Tryz.prog f=true) (htl:∀ F:Col→Col,tl.map (V.recol F)=tl) (hargs:args.map (V.recol Col.ent)=args') (hv:v.recol Col.bk=v) (hr:r.nodes=[])
  (cs:List V) (h8:H 8 = .cells .new g 0 cs) (hcs:Zja Col.ent cs=(Za .any 3 Z0b sl :: .int .i64 r.i :: .nils :: .int .i64 r.e::tl)) (hN:H NO = .dead)
  (hk:∀ gx',K v (Zha H [(8,.cells .new g 0 (Za .any 3 Z0b sl :: .int .i64 r'.i::grown NO gx' 6 r'.nodes :: .int .i64 r'.e::tl)),(NO,Z2b gx' Z3 r'.nodes)])) :
  CallA Tryz.prog G f (.ptr 8 g 0::args) H K:=by
 refine Z7w hG [(8,rdO NO tl sl g 0 r),(NO,ndO 0 r.nodes)] hen ?_ ?_ ?_
 ·intro p hp
  simp only [List.mem_cons,List.not_mem_nil,or_false] at hp
  rcases hp with rfl | rfl
  ·simp only [h8,AObj.toAny,hcs,Zfd,hr];rfl
  ·simp only [hN,AObj.toAny,hr];rfl
 ·intro p hp c g' fz cs' ho
  simp only [List.mem_cons,List.not_mem_nil,or_false] at hp
  rcases hp with rfl | rfl
  ·simp only [h8,AObj.cells.injEq] at ho;exact ho.1.symm
  ·simp only [hN] at ho;cases ho
 ·have ha:(V.ptr 8 g 0::args).map (V.recol Col.ent) = .ptr 8 g 0::args':=by rw [List.map_cons,Z2l,hargs]
  rw [ha];refine (h 0).mono ?_;rintro _ H' ⟨rfl,gx',q8,qN⟩
  have b8:(rdO NO tl sl g gx' r').backNew = .cells .new g 0 (Za .any 3 Z0b sl :: .int .i64 r'.i::grown NO gx' 6 r'.nodes :: .int .i64 r'.e::tl):=by
   simp only [Zfd,AObj.backNew,Zm,List.map_cons,Zzc,Zce,Zde,htl];rfl
  have bN:(ndO gx' r'.nodes).backNew=Z2b gx' Z3 r'.nodes:=by
   unfold ndO
   cases hn:r'.nodes with
   | nil=>rfl
   | cons x t =>
    rw [Zfj _ _ _ (by simp),Z0c _ _ (by simp)];simp only [AObj.backNew,Zm];rw [← Z4d,List.map_map];have he:(x::t).map (V.recol Col.bk ∘ Z3)=(x::t).map Z3:=List.map_congr_left fun y _=>Zsi _ y
    first | done | rw [he]
  simp only [List.map_cons,List.map_nil,q8,qN,b8,bN,hv];exact hk gx'
def Z1k (c:Col) (l:List XN):V:=Za c 6 Z3 (Zba l)
def encFr (c:Col) (p:List XN × Int × Int):V := .tuple [.agg [Z1k c p.1],.int .i64 p.2.1,.int .i64 p.2.2]
theorem Z7v {l:List Tk} (hT:TkOk l):∀ n∈(Zw l (l.length+1) 1 ⟨0,[],0⟩).2.nodes,n.name.length<100000 :=
 Zum (Q:=fun s=>s.length<100000) l (Nat.zero_lt_succ _) (fun i _=>Zam hT i) _ _ _ (fun n hn=>by cases hn)
theorem Zuy (G:Nat→V) (hE:GExp G) (c:Col) (sl:Sl Tk) (hT:TkOk sl.l):Spec Tryz.prog G 50 [Za c 3 Z0b sl] Zk (fun v _=>v=encFr .new (Zxc sl.l)):=by
 have hG:=hE.ok;have hTl:=hT.len;refine Zo 0 44 [.cell 2 24,.tmp 3,.tmp 4] Tryz.func50 fun X=>?_
 have hP:Zxc sl.l=if (Zw sl.l (sl.l.length+1) 1 ⟨0,[],0⟩).1=false then (([]:List XN),((Zw sl.l (sl.l.length+1) 1 ⟨0,[],0⟩).2.i:Int),(Zw sl.l (sl.l.length+1) 1 ⟨0,[],0⟩).2.e)
  else if Z3b (Zw sl.l (sl.l.length+1) 1 ⟨0,[],0⟩).2.nodes > 64 then ([],0,3) else ((Zw sl.l (sl.l.length+1) 1 ⟨0,[],0⟩).2.nodes,((Zw sl.l (sl.l.length+1) 1 ⟨0,[],0⟩).2.i:Int),(0:Int)):=rfl
 have hr0:Zqy sl.l ⟨0,[],0⟩:=⟨Nat.zero_le _,Nat.le_refl _⟩;have hcl:=fun g=>Z5u G hE sl hT g (sl.l.length+1) 1 ⟨0,[],0⟩ (by decide) (by decide) (Nat.lt_succ_self _) hr0;have hnm2:=Z7v hT;have hok:=(Z5d sl.l (sl.l.length+1) 1 ⟨0,[],0⟩);generalize Zxc sl.l=res at hP ⊢;generalize Zw sl.l (sl.l.length+1) 1 ⟨0,[],0⟩=y at hP hcl hok hnm2;obtain ⟨b,r⟩:=y;simp only at hP hcl hok hnm2;refine Z1 ?_;intro g2;refine Z1 ?_;intro g8;refine Z6 ?_;refine AW.block ?_;refine AW.weak (Z8 (fun _=>false) (l:=[(5,.ptr 8 g8 0),(2,.ptr 2 g2 0)]) (m:=[(2,.cells .new g2 0 [.nils]),(8,.cells .new g8 0 [Za .any 3 Z0b sl,.int .i64 0,.nils,.int .i64 0,.func (.func 78) [] []])]) ?_ ?_) ?_
 ·refine Zs ?_
  exact ⟨Zd _,Zd _⟩
 ·simp only [Zl,Zp,and_true]
  exact ⟨FzO.keep rfl zp,Zyu (c := .new) (fz:=0) (cs:=[Za c 3 Z0b sl,.int .i64 0,.nils,.int .i64 0,.func (.func 78) [] []]) rfl zp ⟨Fz.any (Zzc _ _ _),Zd _,Zd _,Zd _,Zd _,trivial⟩⟩
 refine Z1 ?_;refine Zj4 hG (hcl g8) (by kernel_rfl) (fun F=>rfl) rfl rfl rfl _ zp (by simp only [Zm,List.map_cons,List.map_nil,Zzc];rfl) zp fun gx=>?_;simp -implicitDefEqProofs only[go_sem,seval,↓reduceIte,Zha]
 cases b with
 | false =>
  refine Z2f rfl ?_;refine AW.weak (Z8 (fun o=>o==8) (l:=[(5,.view .new (.agg [Za .any 3 Z0b sl,.int .i64 r.i,grown 1031 gx 6 r.nodes,.int .i64 r.e,.func (.func 78) [] []])),(2,.ptr 2 g2 0)]) (m:=[(2,.cells .new g2 0 [.nils])]) ?_ ?_) ?_
  ·refine Zs ?_
   exact ⟨Fz.ptr (v := .agg [Za .any 3 Z0b sl,.int .i64 r.i,grown 1031 gx 6 r.nodes,.int .i64 r.e,.func (.func 78) [] []]) (c := .new) (fz:=0) rfl zp,Zd _⟩
  ·simp only [Zl,Zp,and_true]
   exact FzO.keep rfl zp
  refine Z6 ?_;refine Zv ⟨fun _ => .top,fun i=>if i=4 then .lend else if i=8 then .lend else .pure⟩ (by kernel_rfl) hG (by kernel_rfl) (by kernel_rfl) ?_;refine Zs ?_;refine Z ?_
  rw [hP]<;>rfl
 | true =>
 refine Zbd rfl ?_;refine AW.weak (Z8 (fun o=>o==1031) (l:=[(5,.ptr 8 g8 0),(2,.ptr 2 g2 0)]) (m:=[(2,.cells .new g2 0 [.nils]),(8,.cells .new g8 0 [Za .any 3 Z0b sl,.int .i64 r.i,Z1k .new r.nodes,.int .i64 r.e,.func (.func 78) [] []])]) ?_ ?_) ?_
 ·refine Zs ?_
  exact ⟨Zd _,Zd _⟩
 ·simp only [Zl,Zp,and_true]
  exact ⟨FzO.keep rfl zp,Zyu (c := .new) (fz:=0) (cs:=[Za .any 3 Z0b sl,.int .i64 r.i,grown 1031 gx 6 r.nodes,.int .i64 r.e,.func (.func 78) [] []]) rfl zp ⟨Zd _,Zd _,Z0e rfl zp Znm,Zd _,Zd _,trivial⟩⟩
 have hrl:r.nodes.length<1000000:=by have:=(hok.ok hr0);have h1:=this.1;have h2:=this.2;omega
 rw [if_neg (by simp)] at hP;refine Ztc (by kernel_rfl) ?_;simp -implicitDefEqProofs only[go_sem,seval,↓reduceIte,Z1k];refine Zcf @Zbb hG ?_ (s:=(Zml G hE Col.new.ent (Zba r.nodes) (by rw [Zcb];exact hrl) (by rw [Zcb];exact hnm2)));refine Zh rfl (fun h26=>?_) (fun h26=>?_)
 ·have h26:Z3b r.nodes > 64:=by simpa using h26
  rw [if_pos h26] at hP;refine Z ?_
  rw [hP]<;>rfl
 have h26:¬ Z3b r.nodes > 64:=by simpa using h26
 rw [if_neg h26] at hP;refine Z0 ?_;refine AW.weak (Z8 (fun o=>o==8) (l:=[(5,.view .new (.agg [Za .any 3 Z0b sl,.int .i64 r.i,Z1k .new r.nodes,.int .i64 r.e,.func (.func 78) [] []])),(2,.ptr 2 g2 0)]) (m:=[(2,.cells .new g2 0 [.nils])]) ?_ ?_) ?_
 ·refine Zs ?_
  exact ⟨Fz.ptr (v := .agg [Za .any 3 Z0b sl,.int .i64 r.i,Z1k .new r.nodes,.int .i64 r.e,.func (.func 78) [] []]) (c := .new) (fz:=0) rfl zp,Zd _⟩
 ·simp only [Zl,Zp,and_true]
  exact FzO.keep rfl zp
 refine Z6 ?_;refine Zv ⟨fun _ => .top,fun i=>if i=3 then .lend else if i=8 then .lend else .pure⟩ (by kernel_rfl) hG (by kernel_rfl) (by kernel_rfl) ?_;simp -implicitDefEqProofs only[go_sem,seval,↓reduceIte,Z1k];refine Z ?_
 rw [hP]<;>rfl
end Go.Hs
end

section
namespace Go.Hs
open Go.Proofs
set_option maxRecDepth 10000
theorem Z6n:∀ (f:Nat) (s:List UInt8) (i:Nat) (acc:List Tk),(∀ t∈acc,t.text.length≤s.length)→∀ t∈(Zcc f s i acc).1,t.text.length≤s.length
 | 0,s,i,acc,h=>by rw [Zcc];exact h
 | f+1,s,i,acc,h=>by
  rw [Zcc]
  split
  ·split
   ·intro t ht;cases ht
   ·refine Z6n f s _ _ ?_
    intro t ht
    rcases List.mem_append.1 ht with h1 | h1
    ·exact h t h1
    ·rw [List.mem_singleton.1 h1]
     show ((s.drop i).take _).length≤s.length
     rw [List.length_take,List.length_drop];omega
  ·exact h
theorem toks_ok {s:List UInt8} (hs:s.length<100000):TkOk (Z5b s).1:=by
 unfold Z5b
 split
 ·exact ⟨Nat.zero_lt_succ _,fun t ht=>by cases ht⟩
 refine ⟨?_,?_⟩
 ·have:=Z7r (s.length+1) s (blk s) []
  have h0:([]:List Tk).length=0:=rfl;omega
 ·intro t ht
  have:=Z6n (s.length+1) s (blk s) [] (fun t ht=>by cases ht) t ht;omega
end Go.Hs
end

section
namespace Go.Hs
theorem Z8s {l:List Tk} (h:(Zxc l).2.2≠0):(Zxc l).1=[]:=by
 unfold Zxc at h ⊢
 split
 ·rfl
 ·split
  ·rfl
  ·rename_i h1 h2
   rw [if_neg h1,if_neg h2] at h;exact absurd rfl h
structure ASt where
 kind:Int
 name:List UInt8
 x:List XN
 deriving DecidableEq,Inhabited
def Zrg:List UInt8:=[101,109,105,116]
def Zib (l:List Tk) (i:Nat):List UInt8:=match l[i]? with | some t=>t.text | none=>[]
def Zzf (l:List Tk) (i:Nat):Bool:=match l[i]? with | some t=>t.kind==2 | none=>false
theorem Z4f {l:List Tk} {i:Nat} {t:Tk} (h:l[i]? = some t):Zib l i=t.text:=by unfold Zib;rw [h]
theorem Zpl {l:List Tk} {i:Nat} (h:l.length≤i):Zib l i=[]:=by unfold Zib;rw [List.getElem?_eq_none h]
theorem Zdh {l:List Tk} {i:Nat} {t:Tk} (h:l[i]? = some t):Zzf l i=(t.kind==2):=by unfold Zzf;rw [h]
theorem Zeh {l:List Tk} {i:Nat} (h:l.length≤i):Zzf l i=false:=by unfold Zzf;rw [List.getElem?_eq_none h]
def Zjb (l:List Tk):List (List UInt8)→Nat→Bool × Nat
 | [],i=>(true,i)
 | w::r,i=>if Zib l i=w then Zjb l r (i+1) else (false,i)
def Zlh (l:List Tk) (s:ASt) (ws:List (List UInt8)) (i:Nat):ASt × Int × Int :=
 ((s,((Zjb l ws i).2:Int),if (Zjb l ws i).1=true then 0 else 110))
def Zjj (l:List Tk) (k:Int) (nm:List UInt8) (ws:List (List UInt8)) (i:Nat):ASt × Int × Int :=
 if (Zxc (l.drop i)).2.2≠0 then (⟨k,nm,[]⟩,(i:Int)+(Zxc (l.drop i)).2.1,(Zxc (l.drop i)).2.2)
 else Zlh l ⟨k,nm,(Zxc (l.drop i)).1⟩ ws (i+(Zxc (l.drop i)).2.1.toNat)
def Z9d (l:List Tk) (k:Int) (w:List UInt8) (ws:List (List UInt8)) (i:Nat):ASt × Int × Int :=
 if Zzf l i=false then (⟨k,[],[]⟩,(i:Int),110)
 else if Zib l (i+1)≠w then (⟨k,Zib l i,[]⟩,((i+1:Nat):Int),110)
 else if k=2∧Zib l (i+2)=[41] then Zlh l ⟨k,Zib l i,[]⟩ ws (i+2)
 else Zjj l k (Zib l i) ws (i+2)
def Zjc (l:List Tk) (i:Nat):ASt × Int × Int :=
 if Zib l i=Zrg then Z9d l 2 [40] [[41],[59]] (i+1) else Z9d l 1 [58,61] [[59]] i
theorem Zfx {l:List Tk}:∀ (ws:List (List UInt8)) (i:Nat),i≤(Zjb l ws i).2
 | [],i=>Nat.le_refl _
 | w::r,i=>by
  rw [Zjb]
  split
  ·exact Nat.le_trans (Nat.le_succ i) (Zfx r (i+1))
  ·exact Nat.le_refl _
theorem Zdd {l:List Tk} {i:Nat} (h:Zib l i≠[]):i<l.length:=by
 refine Classical.byContradiction fun h2=>h (Zpl (by omega))
theorem Zex {l:List Tk}:∀ (ws:List (List UInt8)) (i:Nat),(∀ w∈ws,w≠[])→(Zjb l ws i).1=true→(Zjb l ws i).2=i+ws.length∧(ws≠[]→(Zjb l ws i).2≤l.length)
 | [],i,_,_=>⟨rfl,fun h=>absurd rfl h⟩
 | w::r,i,hw,h=>by
  rw [Zjb] at h ⊢
  split at h
  ·rename_i h1
   rw [if_pos h1];obtain ⟨h2,h3⟩:=Zex r (i+1) (fun x hx=>hw x (List.mem_cons_of_mem _ hx)) h;refine ⟨by rw [h2,List.length_cons];omega,fun _=>?_⟩;have h4:=Zdd (l:=l) (i:=i) (by rw [h1];exact hw w (List.mem_cons_self ..))
   cases r with
   | nil=>rw [h2];exact h4
   | cons a b=>exact h3 (by simp)
  ·cases h
structure StB (l:List Tk) (i:Nat) (r:ASt × Int × Int):Prop where
 ge:(i:Int)≤r.2.1
 ok:r.2.2=0→(i:Int)<r.2.1∧r.2.1≤l.length
theorem Zt1 {l:List Tk} {s:ASt} {ws:List (List UInt8)} {i j:Nat} (hw:∀ w∈ws,w≠[]) (hn:ws≠[]) (hij:i≤j):StB l i (Zlh l s ws j):=by
 have h1:=Zfx (l:=l) ws j;refine ⟨by show (i:Int)≤((Zjb l ws j).2:Int);omega,fun h=>?_⟩
 have ht:(Zjb l ws j).1=true:=by
  refine Classical.byContradiction fun h2=>?_;have h:(if (Zjb l ws j).1=true then (0:Int) else 110)=0:=h;rw [if_neg h2] at h;cases h
 obtain ⟨h3,h4⟩:=Zex ws j hw ht;have h5:=h4 hn;have h6:0<ws.length:=List.length_pos_iff.2 hn
 show (i:Int)<((Zjb l ws j).2:Int)∧((Zjb l ws j).2:Int)≤l.length
 omega
theorem exprS_b {l:List Tk} {k:Int} {nm:List UInt8} {ws:List (List UInt8)} {i j:Nat} (hw:∀ w∈ws,w≠[]) (hn:ws≠[]) (hij:i≤j):StB l i (Zjj l k nm ws j):=by
 unfold Zjj;have hb:=(Zgj (l:=l.drop j)).1
 split
 ·rename_i h
  exact ⟨by show (i:Int)≤(j:Int)+(Zxc (l.drop j)).2.1;omega,fun h2=>absurd h2 h⟩
 ·exact Zt1 hw hn (by omega)
theorem Zp1 {l:List Tk} {k:Int} {w:List UInt8} {ws:List (List UInt8)} {i j:Nat} (hw:∀ w∈ws,w≠[]) (hn:ws≠[]) (hij:i≤j):StB l i (Z9d l k w ws j):=by
 unfold Z9d
 split
 ·exact ⟨by show (i:Int)≤(j:Int);omega,fun h=>by cases h⟩
 split
 ·exact ⟨by show (i:Int)≤((j+1:Nat):Int);omega,fun h=>by cases h⟩
 split
 ·exact Zt1 hw hn (by omega)
 ·exact exprS_b hw hn (by omega)
theorem Zcp (l:List Tk) (i:Nat):StB l i (Zjc l i):=by
 unfold Zjc
 split
 ·exact Zp1 (by decide) (by decide) (by omega)
 ·exact Zp1 (by decide) (by decide) (Nat.le_refl _)
def Zfo (l:List Tk) (n:Nat) (i:Int):Int:=if i<l.length then (l.getD i.toNat ⟨0,[],0⟩).pos else n
def Zif (l:List Tk) (n:Nat):Nat→Nat→List ASt→List ASt × Int × Int
 | 0,_,acc=>(acc,0,0)
 | f+1,i,acc =>
  if l.length≤i then (acc,0,0)
  else if acc.length=512 then ([],Zfo l n i,3)
  else if (Zjc l i).2.2≠0 then ([],Zfo l n (Zjc l i).2.1,(Zjc l i).2.2)
  else Zif l n f (Zjc l i).2.1.toNat (acc++[(Zjc l i).1])
def Z4c (s:List UInt8):List ASt × Int × Int :=
 if (Z5b s).2.2≠0 then ([],(Z5b s).2.1,(Z5b s).2.2) else Zif (Z5b s).1 s.length ((Z5b s).1.length+1) 0 []
end Go.Hs
end

section
namespace Go.Hs
open Go.Proofs
set_option maxRecDepth 10000
def Zkj (c:Col) (s:ASt):V := .agg [.int .u8 s.kind,.str s.name,Za c 6 Z3 (Zba s.x)]
theorem Z9j (c:Col) (s:ASt):Zkj c s = .agg [.int .u8 s.kind,.str s.name,Za c 6 Z3 (Zba s.x)]:=rfl
end Go.Hs
end

section
namespace Go.Hs
inductive Sub:X→X→Nat→Prop where
 | refl (x:X):Sub x x 0
 | un {op:Int} {a y:X} {b:Nat}:Sub a y b→Sub (.un op a) y b
 | bin1 {op:Int} {a c y:X} {b:Nat}:Sub a y b→Sub (.bin op a c) y b
 | bin2 {op:Int} {a c y:X} {b:Nat}:Sub c y b→Sub (.bin op a c) y (a.size+b)
 | ite1 {a c d y:X} {b:Nat}:Sub a y b→Sub (.ite a c d) y b
 | ite2 {a c d y:X} {b:Nat}:Sub c y b→Sub (.ite a c d) y (a.size+b)
 | ite3 {a c d y:X} {b:Nat}:Sub d y b→Sub (.ite a c d) y (a.size+c.size+b)
def Zxb:X→List X
 | .leaf op num name=>[.leaf op num name]
 | .un op a=>Zxb a++[.un op a]
 | .bin op a c=>Zxb a++Zxb c++[.bin op a c]
 | .ite a c d=>Zxb a++Zxb c++Zxb d++[.ite a c d]
theorem Z0a:∀ x:X,(Zxb x).length=x.size
 | .leaf .. => rfl
 | .un _ a=>by simp [Zxb,X.size,Z0a a]
 | .bin _ a b=>by simp [Zxb,X.size,Z0a a,Z0a b];omega
 | .ite a b c=>by simp [Zxb,X.size,Z0a a,Z0a b,Z0a c];omega
theorem Sub.trans {x y z:X} {b c:Nat} (h:Sub x y b) (h2:Sub y z c):Sub x z (b+c):=by
 induction h with
 | refl=>simpa using h2
 | un _ ih=>exact .un (ih h2)
 | bin1 _ ih=>exact .bin1 (ih h2)
 | bin2 _ ih=>rw [Nat.add_assoc];exact .bin2 (ih h2)
 | ite1 _ ih=>exact .ite1 (ih h2)
 | ite2 _ ih=>rw [Nat.add_assoc];exact .ite2 (ih h2)
 | ite3 _ ih=>rw [Nat.add_assoc];exact .ite3 (ih h2)
theorem Sub.ok {x y:X} {b:Nat} (h:Sub x y b):x.ok=true→y.ok=true:=by
 induction h with
 | refl=>exact id
 | un _ ih=>intro h;simp [X.ok] at h;exact ih h.2
 | bin1 _ ih=>intro h;simp [X.ok] at h;exact ih h.1.2
 | bin2 _ ih=>intro h;simp [X.ok] at h;exact ih h.2
 | ite1 _ ih=>intro h;simp [X.ok] at h;exact ih h.1.1
 | ite2 _ ih=>intro h;simp [X.ok] at h;exact ih h.1.2
 | ite3 _ ih=>intro h;simp [X.ok] at h;exact ih h.2
theorem Sub.size {x y:X} {b:Nat} (h:Sub x y b):b+y.size≤x.size:=by
 induction h with
 | refl=>simp
 | un _ ih=>simp only [X.size];omega
 | bin1 _ ih=>simp only [X.size];omega
 | bin2 _ ih=>simp only [X.size];omega
 | ite1 _ ih=>simp only [X.size];omega
 | ite2 _ ih=>simp only [X.size];omega
 | ite3 _ ih=>simp only [X.size];omega
theorem Sub.depth {x y:X} {b:Nat} (h:Sub x y b):y.depth≤x.depth:=by
 induction h with
 | refl=>simp
 | un _ ih=>simp only [X.depth];omega
 | bin1 _ ih=>simp only [X.depth];omega
 | bin2 _ ih=>simp only [X.depth];omega
 | ite1 _ ih=>simp only [X.depth];omega
 | ite2 _ ih=>simp only [X.depth];omega
 | ite3 _ ih=>simp only [X.depth];omega
theorem Sub.at {x y:X} {b:Nat} (h:Sub x y b):∀ {l:List XN} {k:Nat},At l x k→At l y (k+b):=by
 induction h with
 | refl=>exact id
 | un _ ih=>intro l k h;exact ih h.un
 | bin1 _ ih=>intro l k h;exact ih h.bin.1
 | bin2 _ ih=>intro l k h;rw [← Nat.add_assoc];exact ih h.bin.2
 | ite1 _ ih=>intro l k h;exact ih h.ite.1
 | ite2 _ ih=>intro l k h;rw [← Nat.add_assoc];exact ih h.ite.2.1
 | ite3 _ ih=>intro l k h;rw [← Nat.add_assoc,← Nat.add_assoc];exact ih h.ite.2.2
theorem Zhx (x:X):(Zxb x)[x.size-1]? = some x:=by
 have:∃ l,Zxb x=l++[x]:=by
  cases x with
  | leaf=>exact ⟨[],rfl⟩
  | un=>exact ⟨_,rfl⟩
  | bin=>exact ⟨_,rfl⟩
  | ite=>exact ⟨_,rfl⟩
 obtain ⟨l,h⟩:=this;have hl:=Z0a x;rw [h,List.length_append,List.length_singleton] at hl;rw [h,List.getElem?_append_right (by omega),show x.size-1-l.length=0 by omega];rfl
theorem Sub.get {x y:X} {b:Nat} (h:Sub x y b):(Zxb x)[b+y.size-1]? = some y:=by
 have hy:=y.size_pos
 induction h with
 | refl x=>rw [Nat.zero_add];exact Zhx x
 | @un op a y b h ih =>
  have:=h.size;have hl:=Z0a a;rw [Zxb,List.getElem?_append_left (by omega)];exact ih hy
 | @bin1 op a c y b h ih =>
  have:=h.size;have hl:=Z0a a;rw [Zxb,List.append_assoc,List.getElem?_append_left (by omega)];exact ih hy
 | @bin2 op a c y b h ih =>
  have:=h.size;have hl:=Z0a a;have hl2:=Z0a c;rw [Zxb,List.append_assoc,List.getElem?_append_right (by omega),List.getElem?_append_left (by omega),← ih hy]
  congr 1;omega
 | @ite1 a c d y b h ih =>
  have:=h.size;have hl:=Z0a a;rw [Zxb,List.append_assoc,List.append_assoc,List.getElem?_append_left (by omega)];exact ih hy
 | @ite2 a c d y b h ih =>
  have:=h.size;have hl:=Z0a a;have hl2:=Z0a c;rw [Zxb,List.append_assoc,List.append_assoc,List.getElem?_append_right (by omega),List.getElem?_append_left (by omega),← ih hy]
  congr 1;omega
 | @ite3 a c d y b h ih =>
  have:=h.size;have hl:=Z0a a;have hl2:=Z0a c;have hl3:=Z0a d;rw [Zxb,List.append_assoc,List.append_assoc,List.getElem?_append_right (by omega),List.getElem?_append_right (by omega),List.getElem?_append_left (by omega),← ih hy]
  congr 1;omega
theorem Zvh:∀ (x:X) (i:Nat),i<x.size→∃ y b,Sub x y b∧b+y.size=i+1
 | .leaf op num name,i,h=>⟨_,0,.refl _,by simp only [X.size] at h ⊢;omega⟩
 | .un op a,i,h=>by
  by_cases h1:i<a.size
  ·obtain ⟨y,b,h2,h3⟩:=Zvh a i h1
   exact ⟨y,b,.un h2,h3⟩
  ·exact ⟨_,0,.refl _,by simp only [X.size] at h ⊢;omega⟩
 | .bin op a c,i,h=>by
  by_cases h1:i<a.size
  ·obtain ⟨y,b,h2,h3⟩:=Zvh a i h1
   exact ⟨y,b,.bin1 h2,h3⟩
  by_cases h1':i-a.size<c.size
  ·obtain ⟨y,b,h2,h3⟩:=Zvh c (i-a.size) h1'
   exact ⟨y,_,.bin2 h2,by omega⟩
  ·exact ⟨_,0,.refl _,by simp only [X.size] at h ⊢;omega⟩
 | .ite a c d,i,h=>by
  by_cases h1:i<a.size
  ·obtain ⟨y,b,h2,h3⟩:=Zvh a i h1
   exact ⟨y,b,.ite1 h2,h3⟩
  by_cases h1':i-a.size<c.size
  ·obtain ⟨y,b,h2,h3⟩:=Zvh c (i-a.size) h1'
   exact ⟨y,_,.ite2 h2,by omega⟩
  by_cases h1'':i-a.size-c.size<d.size
  ·obtain ⟨y,b,h2,h3⟩:=Zvh d (i-a.size-c.size) h1''
   exact ⟨y,_,.ite3 h2,by omega⟩
  ·exact ⟨_,0,.refl _,by simp only [X.size] at h ⊢;omega⟩
theorem Sub.top {x y:X} {b:Nat} (h:Sub x y b):(x.row 0)[b+y.size-1]? = some (y.top b):=by
 have:=(h.at (Zjl x)).get;rw [Nat.zero_add] at this;exact this
theorem Zn1 (x:X) (i:Nat) (h:i<x.size):∃ y b,Sub x y b∧b+y.size=i+1∧(Zxb x)[i]? = some y∧(x.row 0)[i]? = some (y.top b):=by
 obtain ⟨y,b,h1,h2⟩:=Zvh x i h
 have e:i=b+y.size-1:=by omega
 exact ⟨y,b,h1,h2,e ▸ h1.get,e ▸ h1.top⟩
end Go.Hs
end

section
namespace Go.Hs
def kd (op:Int) (named:Bool) (a b c:Int):Int :=
 if op=1∨op=2∧named=true then 1
 else if op=3∨op=4 then 2
 else if op=5∧a=1∨7≤op∧op≤11∧a=1∧b=1 then 1
 else if 12≤op∧op≤15∧a=1∧b=1∨(op=16∨op=17)∧a=b∧a≠0 then 2
 else if op=6∧a=2∨18≤op∧op≤21∧a=2∧b=2 then 2
 else if op=22∧a=2∧b=c then b else 0
theorem Z9i {op:Int} {nm:Bool} {a b c:Int} (hb:0≤b∧b≤2):0≤kd op nm a b c∧kd op nm a b c≤2:=by
 unfold kd
 repeat' split
 all_goals omega
def Zab (names:List (List UInt8)):X→Int
 | .leaf op _ name=>kd op (names.contains name) 0 0 0
 | .un op a=>kd op (names.contains []) (Zab names a) 0 0
 | .bin op a b=>kd op (names.contains []) (Zab names a) (Zab names b) 0
 | .ite a b c=>kd 22 (names.contains []) (Zab names a) (Zab names b) (Zab names c)
theorem Z2h (names:List (List UInt8)):∀ x,0≤Zab names x∧Zab names x≤2
 | .leaf .. => Z9i (by decide)
 | .un .. => Z9i (by decide)
 | .bin _ a b=>Z9i (Z2h names b)
 | .ite a b c=>Z9i (Z2h names b)
def goX (names:List (List UInt8)):List X→Int→List Int→List Int × Int × Int
 | [],_,acc=>(acc,0,0)
 | y::r,i,acc=>if Zab names y=0 then ([],i,90) else goX names r (i+1) (acc++[Zab names y])
def plc (ks:List Int) (i:Int):Int:=if i<0 then 0 else ks.getD i.toNat 0
def Z8i (names:List (List UInt8)) (n:XN) (ks:List Int):Int:=kd n.op (names.contains n.name) (plc ks n.a) (plc ks n.b) (plc ks n.c)
def goN (names:List (List UInt8)):List XN→Int→List Int→List Int × Int × Int
 | [],_,acc=>(acc,0,0)
 | n::r,i,acc=>if Z8i names n acc=0 then ([],i,90) else goN names r (i+1) (acc++[Z8i names n acc])
theorem Znv (ks:List Int):plc ks (-1)=0:=rfl
theorem Z2j {names:List (List UInt8)} {x y:X} {b i:Nat} (h:Sub x y b) (hi:b+y.size≤i):plc (((Zxb x).take i).map (Zab names)) ((b:Int)+y.size-1)=Zab names y:=by
 have hp:=y.size_pos;unfold plc;rw [if_neg (by omega),show ((b:Int)+y.size-1).toNat=b+y.size-1 by omega];rw [List.getD_eq_getElem?_getD,List.getElem?_map,List.getElem?_take,if_pos (by omega),h.get];rfl
theorem Z82 {names:List (List UInt8)} {x y:X} {b i:Nat} (h:Sub x y b) (hi:b+y.size=i+1):Z8i names (y.top b) (((Zxb x).take i).map (Zab names))=Zab names y:=by
 cases y with
 | leaf op num name=>rfl
 | un op a =>
  have h1:Sub x a b:=h.trans (.un (.refl a));simp only [X.size] at hi;simp only [Z8i,X.top,Znv,Zab];rw [Z2j h1 (by omega)]
 | bin op a c =>
  have h1:Sub x a b:=h.trans (.bin1 (.refl a));have h2:Sub x c (b+(a.size+0)):=h.trans (.bin2 (.refl c));rw [Nat.add_zero] at h2;simp only [X.size] at hi;simp only [Z8i,X.top,Znv,Zab];have:=Z2j (names:=names) h2 (i:=i) (by omega);rw [show ((b+a.size:Nat):Int)+c.size-1=(b:Int)+a.size+c.size-1 by omega] at this;rw [Z2j h1 (by omega),this]
 | ite a c d =>
  have h1:Sub x a b:=h.trans (.ite1 (.refl a));have h2:Sub x c (b+(a.size+0)):=h.trans (.ite2 (.refl c));have h3:Sub x d (b+(a.size+c.size+0)):=h.trans (.ite3 (.refl d));rw [Nat.add_zero] at h2 h3;simp only [X.size] at hi;simp only [Z8i,X.top,Znv,Zab];have q2:=Z2j (names:=names) h2 (i:=i) (by omega);rw [show ((b+a.size:Nat):Int)+c.size-1=(b:Int)+a.size+c.size-1 by omega] at q2;have q3:=Z2j (names:=names) h3 (i:=i) (by omega);rw [show ((b+(a.size+c.size):Nat):Int)+d.size-1=(b:Int)+a.size+c.size+d.size-1 by omega] at q3;rw [Z2j h1 (by omega),q2,q3]
theorem Zd3 {names:List (List UInt8)} (x:X):∀ (m i:Nat),i+m=x.size→goN names ((x.row 0).drop i) i (((Zxb x).take i).map (Zab names))=goX names ((Zxb x).drop i) i (((Zxb x).take i).map (Zab names))
 | 0,i,h=>by
  rw [List.drop_of_length_le (by rw [X.row_len];omega),List.drop_of_length_le (by rw [Z0a];omega)];rfl
 | m+1,i,h=>by
  obtain ⟨y,b,h1,h2,h3,h4⟩:=Zn1 x i (by omega);obtain ⟨q1,e1⟩:=List.getElem?_eq_some_iff.1 h3;obtain ⟨q2,e2⟩:=List.getElem?_eq_some_iff.1 h4;rw [List.drop_eq_getElem_cons q2,List.drop_eq_getElem_cons q1,e1,e2,goN,goX,Z82 h1 h2];have ih:=Zd3 (names:=names) x m (i+1) (by omega)
  have ht:((Zxb x).take (i+1)).map (Zab names)=((Zxb x).take i).map (Zab names)++[Zab names y]:=by
   rw [List.take_add_one,h3];simp
  rw [ht] at ih
  split
  ·rfl
  ·exact ih
def PlOk (k:Nat) (n:XN):Prop:=Zyd n=true∧(0<Zj n.op→0≤n.a∧n.a<k)∧(1<Zj n.op→0≤n.b∧n.b<k)∧(2<Zj n.op→0≤n.c∧n.c<k) ∧
 (¬ 0<Zj n.op→n.a = -1)∧(¬ 1<Zj n.op→n.b = -1)∧(¬ 2<Zj n.op→n.c = -1)
theorem Z25 {x y:X} {b i:Nat} (hx:x.ok=true) (h:Sub x y b) (hi:b+y.size=i+1):PlOk i (y.top b):=by
 have hy:=h.ok hx
 cases y with
 | leaf op num name =>
  simp only [X.ok,Bool.and_eq_true,decide_eq_true_eq] at hy
  have hp:Zj op=0:=by unfold Zj;rw [if_pos hy.2]
  refine ⟨hy.1,?_⟩;simp only [X.top,hp];exact ⟨fun h=>absurd h (by decide),fun h=>absurd h (by decide),fun h=>absurd h (by decide),fun _=>trivial,fun _=>trivial,fun _=>trivial⟩
 | un op a =>
  simp only [X.ok,Bool.and_eq_true,decide_eq_true_eq] at hy
  have hp:Zj op=1:=by unfold Zj;rw [if_neg (by omega),if_pos (by omega)]
  have hs:=a.size_pos;simp only [X.size] at hi;refine ⟨Zmf (by omega) _ _ _,?_⟩;simp only [X.top,hp];exact ⟨fun _=>by omega,fun h=>absurd h (by decide),fun h=>absurd h (by decide),fun h=>absurd (by decide) h,fun _=>trivial,fun _=>trivial⟩
 | bin op a c =>
  simp only [X.ok,Bool.and_eq_true,decide_eq_true_eq] at hy
  have hp:Zj op=2:=by unfold Zj;rw [if_neg (by omega),if_neg (by omega),if_pos (by omega)]
  have hs:=a.size_pos;have hs2:=c.size_pos;simp only [X.size] at hi;refine ⟨Zmf (by omega) _ _ _,?_⟩;simp only [X.top,hp];exact ⟨fun _=>by omega,fun _=>by omega,fun h=>absurd h (by decide),fun h=>absurd (by decide) h,fun h=>absurd (by decide) h,fun _=>trivial⟩
 | ite a c d =>
  have hp:Zj 22=3:=by decide
  have hs:=a.size_pos;have hs2:=c.size_pos;have hs3:=d.size_pos;simp only [X.size] at hi;refine ⟨Zmf (by decide) _ _ _,?_⟩;simp only [X.top,hp];exact ⟨fun _=>by omega,fun _=>by omega,fun _=>by omega,fun h=>absurd (by decide) h,fun h=>absurd (by decide) h,fun h=>absurd (by decide) h⟩
theorem Z35 {l:List XN} (h:Z3b l≠0) {i:Nat} {n:XN} (hg:l[i]? = some n):PlOk i n:=by
 obtain ⟨x,hx,rfl⟩:=Zak h
 have hi:i<x.size:=by rw [← X.row_len x 0];exact (List.getElem?_eq_some_iff.1 hg).1
 obtain ⟨y,b,h1,h2,h3,h4⟩:=Zn1 x i hi;rw [h4] at hg;cases hg;exact Z25 hx h1 h2
end Go.Hs
end

section
namespace Go.Hs
open Go.Proofs
set_option maxRecDepth 10000
def ruleC:List V := .int .u8 0 :: .int .u8 0 :: .int .u8 0 :: .int .u8 0 :: .int .u8 0 :: .int .u8 0 :: .int .u8 0 :: .int .u8 1 :: .int .u8 0 :: .int .u8 0 :: .int .u8 0 :: .int .u8 1 :: .int .u8 0 :: .int .u8 0 :: .int .u8 0 :: .int .u8 2 :: .int .u8 0 :: .int .u8 0 :: .int .u8 0 :: .int .u8 2 :: .int .u8 1 :: .int .u8 0 :: .int .u8 0 :: .int .u8 1 :: .int .u8 2 :: .int .u8 0 :: .int .u8 0 :: .int .u8 2 :: .int .u8 1 :: .int .u8 1 :: .int .u8 0 :: .int .u8 1 :: .int .u8 1 :: .int .u8 1 :: .int .u8 0 :: .int .u8 1 :: .int .u8 1 :: .int .u8 1 :: .int .u8 0 :: .int .u8 1 :: .int .u8 1 :: .int .u8 1 :: .int .u8 0 :: .int .u8 1 :: .int .u8 1 :: .int .u8 1 :: .int .u8 0 :: .int .u8 1 :: .int .u8 1 :: .int .u8 1 :: .int .u8 0 :: .int .u8 2 :: .int .u8 1 :: .int .u8 1 :: .int .u8 0 :: .int .u8 2 :: .int .u8 1 :: .int .u8 1 :: .int .u8 0 :: .int .u8 2 :: .int .u8 1 :: .int .u8 1 :: .int .u8 0 :: .int .u8 2 :: .int .u8 3 :: .int .u8 3 :: .int .u8 0 :: .int .u8 2 :: .int .u8 3 :: .int .u8 3 :: .int .u8 0 :: .int .u8 2 :: .int .u8 2 :: .int .u8 2 :: .int .u8 0 :: .int .u8 2 :: .int .u8 2 :: .int .u8 2 :: .int .u8 0 :: .int .u8 2 :: .int .u8 2 :: .int .u8 2 :: .int .u8 0 :: .int .u8 2 :: .int .u8 2 :: .int .u8 2 :: .int .u8 0 :: .int .u8 2 :: .int .u8 2 :: .int .u8 3 :: .int .u8 3 :: .int .u8 3::[]
def Zjv (op:Nat):Int:=if op≤4 then 0 else if op=5∨(7≤op∧op≤15) then 1 else if op=16∨op=17 then 3 else 2
def Z31 (op:Nat):Int:=if op≤6 then 0 else if op≤15 then 1 else if op≤17∨op=22 then 3 else 2
def Zhv (op:Nat):Int:=if op=22 then 3 else 0
def Zs5 (op:Nat):Int:=if op=0 then 0 else if op≤2 then 1 else if op=22 then 3 else if op=5∨(7≤op∧op≤11) then 1 else 2
theorem Z21 (op:Nat) (h:op<23):(ruleC.drop (op * 4)).take 4=[.int .u8 (Zjv op),.int .u8 (Z31 op),.int .u8 (Zhv op),.int .u8 (Zs5 op)]:=by
 match op,h with
 | 0,_=>rfl
 | 1,_=>rfl
 | 2,_=>rfl
 | 3,_=>rfl
 | 4,_=>rfl
 | 5,_=>rfl
 | 6,_=>rfl
 | 7,_=>rfl
 | 8,_=>rfl
 | 9,_=>rfl
 | 10,_=>rfl
 | 11,_=>rfl
 | 12,_=>rfl
 | 13,_=>rfl
 | 14,_=>rfl
 | 15,_=>rfl
 | 16,_=>rfl
 | 17,_=>rfl
 | 18,_=>rfl
 | 19,_=>rfl
 | 20,_=>rfl
 | 21,_=>rfl
 | 22,_=>rfl
 | n+23,h=>omega
theorem Zav (G:Nat→V) (hG:GOk G):Spec Tryz.prog G 79 [] Zk (fun v _=>v = .agg ruleC):=by
 refine Zo 0 39 [.cell 0 176] Tryz.func79 fun X=>?_;refine Z1 ?_;intro g0;refine Z1 ?_;intro g1 g2;refine Z1 ?_;intro g3 g4;exact Zr
end Go.Hs
end

section
namespace Go.Hs
open Go.Proofs
set_option maxRecDepth 10000
theorem Zgs (G:Nat→V) (hG:GOk G) (c:Col) (t:List UInt8) (s:Sl (List UInt8)) (hs:s.l.length<1000000) :
  Spec Tryz.prog G 88 [Za c 1 V.str s,.str t] Zk (fun v _=>∃ i:Int,v = .int .i64 i∧decide (i≥0)=s.l.contains t):=by
 refine Zo 0 19 [.tmp 4] Tryz.func88 fun X=>?_;refine Z1 ?_;refine Z1 ?_;refine AW.block ?_
 refine Zpb s.l.length (fun k (_:Unit)=>st [(0,Za c 1 V.str s),(1,.str t),(7,.int .i64 s.l.length),(8,.int .i64 k)] []) (fun k _=>(s.l.take k).contains t=false) 0 () (Nat.zero_le _) rfl
  (Zg zp zp) ?_
 intro k _ hk hR L2 hL2;refine Z1 ?_;refine Z6 ?_;refine Zh rfl (fun h4=>?_) (fun h4=>?_)
 ·have hk1:k<s.l.length:=by simpa using h4
  have hg:=List.getElem?_eq_getElem hk1
  have htk:s.l.take (k+1)=s.l.take k++[s.l[k]]:=by rw [List.take_succ_eq_append_getElem hk1]
  have hmem:=List.getElem_mem hk1;generalize s.l[k]=x at hg htk hmem;refine Z1 ?_;refine Z1f hg ?_;refine Zh rfl (fun h6=>?_) (fun h6=>?_)
  ·have h6:t=x:=by simpa using h6
   refine Z ?_
   have:s.l.contains t=true:=by rw [h6];simpa using hmem
   rw [this];exact ⟨_,rfl,by rw [decide_eq_true_iff];omega⟩
  ·have h6:¬ t=x:=by simpa using h6
   refine Z1 ?_;refine hL2 _ ⟨hk1,(),?_,Zg zw zp⟩;rw [htk];simp only [List.contains_eq_mem,decide_eq_false_iff_not] at hR ⊢;intro hm
   rcases List.mem_append.1 hm with h | h
   ·exact hR h
   ·exact h6 (List.mem_singleton.1 h)
 ·have hk1:k=s.l.length:=by simp at h4;omega
  refine Z ?_;rw [hk1,List.take_length] at hR;rw [hR];exact ⟨_,rfl,rfl⟩
theorem Znh (G:Nat→V) (hG:GOk G) (c:Col) (t:List UInt8) (s:Sl (List UInt8)) (hs:s.l.length<1000000) :
  Spec Tryz.prog G 62 [Za c 1 V.str s,.str t] Zk (fun v _=>v = .bool (s.l.contains t)):=by
 refine Zo 0 9 [.tmp 4] Tryz.func62 fun X=>?_;refine Z1 ?_;refine Z1 ?_;refine CallA.pure hG (by kernel_rfl) ?_;refine Zs ?_;refine (Zgs G hG _ t s hs).mono ?_;rintro _ _ ⟨i,rfl,hi⟩;refine Zs ?_;refine Z ?_;rw [hi]
theorem Zh5 (G:Nat→V) (hG:GOk G) (c:Col) (s:Sl Int) (hs:s.l.length<1000000) (i:Int) (hi:i<0∨0≤i∧i<s.l.length) :
  Spec Tryz.prog G 119 [.int .i64 i,.view .old (Za c 1 (V.int .u8) s)] Zk (fun v _=>v = .int .u8 (plc s.l i)):=by
 refine Zo 0 10 [.tmp 3] Tryz.func119 fun X=>?_
 have hP:plc s.l i=if i<0 then 0 else s.l.getD i.toNat 0:=rfl
 generalize plc s.l i=res at hP ⊢;refine Z1 ?_;refine Z1 ?_;refine Zh rfl (fun h2=>?_) (fun h2=>?_)
 ·have h2:i<0:=by simpa using h2
  rw [if_pos h2] at hP;refine Z ?_;rw [hP]
 ·have h2:¬ i<0:=by simpa using h2
  rw [if_neg h2] at hP;obtain ⟨m,rfl⟩:∃ m:Nat,i=m:=⟨i.toNat,by omega⟩
  have hm:m<s.l.length:=by omega
  have hg:=List.getElem?_eq_getElem hm
  have hgd:s.l.getD ((m:Nat):Int).toNat 0=s.l[m]:=by rw [Int.toNat_natCast,List.getD_eq_getElem?_getD,hg]<;>rfl
  rw [hgd] at hP;generalize s.l[m]=x at hg hP;refine Zf hg ?_;rw [hP]
end Go.Hs
end
