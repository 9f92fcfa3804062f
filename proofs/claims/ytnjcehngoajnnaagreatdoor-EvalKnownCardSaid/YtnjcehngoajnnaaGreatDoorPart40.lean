/- Part 40 of the proof of a statement of seat YtnjcehngoajnnaaGreatDoor: HsExprLaw HsGExprOf HsGExpr1. -/
import Derived.Test.YtnjcehngoajnnaaGreatDoorPart34
import Derived.Test.YtnjcehngoajnnaaGreatDoorPart38
import Derived.Test.YtnjcehngoajnnaaGreatDoorPart39
set_option linter.unusedSimpArgs false
set_option linter.unusedVariables false
section
namespace Go.Hs
open Go
structure XN where
 op:Int
 num:Int
 name:List UInt8
 a:Int
 b:Int
 c:Int
 deriving DecidableEq,Inhabited
structure Sg where
 text:List UInt8
 level:Int
 parts:Int
 deriving DecidableEq,Inhabited
def tabL:List Sg:=[⟨[],0,0⟩,⟨[],10,0⟩,⟨[],10,0⟩,⟨[116,114,117,101],10,0⟩,⟨[102,97,108,115,101],10,0⟩,⟨[45],9,1⟩,⟨[110,111,116],9,1⟩,
 ⟨[42],8,2⟩,⟨[100,105,118],8,2⟩,⟨[109,111,100],8,2⟩,⟨[43],7,2⟩,⟨[45],7,2⟩,⟨[60],6,2⟩,⟨[60,61],6,2⟩,⟨[62],6,2⟩,⟨[62,61],6,2⟩,⟨[61],5,2⟩,⟨[60,62],5,2⟩,
 ⟨[97,110,100],4,2⟩,⟨[111,114],3,2⟩,⟨[120,111,114],2,2⟩,⟨[105,109,112,108,105,101,115],1,2⟩,⟨[105,102],10,3⟩]
def sgIs (t:List UInt8) (p:Int) (s:Sg):Bool:=s.text==t && s.parts==p && !(s.text==[])
def ofI (t:List UInt8) (p:Int):Option Nat:=tabL.findIdx? (sgIs t p)
def ofP (t:List UInt8) (p:Int):Nat × Bool:=match ofI t p with | some i=>(i,true) | none=>(0,false)
def lvl (op:Nat):Int:=(tabL.getD op ⟨[],0,0⟩).level
theorem Znl {t:List UInt8} {p:Int} {i:Nat} (h:ofI t p=some i):∃ s,tabL[i]? = some s∧s.text=t∧s.parts=p∧t≠[]:=by
 obtain ⟨h1,h2,_⟩:=List.findIdx?_eq_some_iff_getElem.1 h;refine ⟨tabL[i],List.getElem?_eq_getElem h1,?_⟩;unfold sgIs at h2;simp only [Bool.and_eq_true,beq_iff_eq,Bool.not_eq_true',beq_eq_false_iff_ne] at h2;exact ⟨h2.1.1,h2.1.2,by rw [← h2.1.1];exact h2.2⟩
theorem ofI_one {t:List UInt8} {i:Nat} (h:ofI t 1=some i):t=[45]∧i=5∨t=[110,111,116]∧i=6:=by
 obtain ⟨s,h1,h2,h3,_⟩:=Znl h
 have hi:i<23:=by rw [List.getElem?_eq_some_iff] at h1;exact h1.1
 have key:∀ i,i<23→∀ s,tabL[i]? = some s→s.parts=1→s.text=[45]∧i=5∨s.text=[110,111,116]∧i=6:=by
  intro i hi s h1 h3
  have:∀ i,i<23→(tabL[i]?.map (·.parts))=some 1→(tabL[i]?.map (·.text))=some [45]∧i=5∨(tabL[i]?.map (·.text))=some [110,111,116]∧i=6:=by decide +kernel
  have:=this i hi (by rw [h1];simp [h3]);rw [h1] at this;simpa using this
 rw [← h2];exact key i hi s h1 h3
theorem Zxp {t:List UInt8} {i:Nat} (h:ofI t 0=some i):t=[116,114,117,101]∧i=3∨t=[102,97,108,115,101]∧i=4:=by
 obtain ⟨s,h1,h2,h3,h4⟩:=Znl h
 have hi:i<23:=by rw [List.getElem?_eq_some_iff] at h1;exact h1.1
 have key:∀ i,i<23→∀ s,tabL[i]? = some s→s.parts=0→s.text≠[]→s.text=[116,114,117,101]∧i=3∨s.text=[102,97,108,115,101]∧i=4:=by
  intro i hi s h1 h3
  have:((List.range 23).all fun i=>match tabL[i]? with | some s => !(s.parts==0) || s.text==[] || (s.text==[116,114,117,101] && i==3) || (s.text==[102,97,108,115,101] && i==4) | none=>true)=true:=by decide +kernel
  have:=List.all_eq_true.1 this i (List.mem_range.2 hi);intro h4;rw [h1] at this;simp only [h3,Bool.or_eq_true,Bool.and_eq_true,beq_iff_eq,h4,or_false] at this;simpa using this
 rw [← h2];exact key i hi s h1 h3 (by rw [h2];exact h4)
theorem Zg1 {t:List UInt8} {i:Nat} (h:ofI t 2=some i):7≤i∧i≤21∧1≤lvl i∧lvl i≤8∧isP t≠0:=by
 obtain ⟨s,h1,h2,h3,_⟩:=Znl h
 have hi:i<23:=by rw [List.getElem?_eq_some_iff] at h1;exact h1.1
 have key:∀ i,i<23→(tabL[i]?.map (·.parts))=some 2→7≤i∧i≤21∧1≤lvl i∧lvl i≤8∧(tabL[i]?.map fun s=>isP s.text)≠some 0:=by decide +kernel
 have:=key i hi (by rw [h1];simp [h3]);rw [h1] at this;rw [← h2];simpa using this
def Zda (l:List Tk) (i:Nat):Tk:=match l[i]? with
 | some t=>if (isP t.text:Int)=t.kind then t else ⟨0,[],0⟩
 | none=>⟨0,[],0⟩
theorem Zql (l:List Tk) (i:Nat):(isP (Zda l i).text:Int)=(Zda l i).kind:=by
 unfold Zda
 split
 ·split
  ·assumption
  ·rfl
 ·rfl
theorem Zdf {l:List Tk} {i:Nat} (h:(Zda l i).kind≠0):i<l.length:=by
 rw [← Nat.not_le];intro h2;apply h;unfold Zda;rw [List.getElem?_eq_none h2]
structure RS where
 i:Nat
 nodes:List XN
 e:Int
 deriving DecidableEq,Inhabited
def RS.put (r:RS) (n:XN):RS:={ r with nodes:=r.nodes++[n] }
def RS.last (r:RS):Int:=(r.nodes.length:Int)-1
def RS.adv (r:RS):RS:={ r with i:=r.i+1 }
def RS.err (r:RS) (e:Int):RS:={ r with e:=e }
@[simp] theorem Zsr (r:RS) (n:XN):(r.put n).i=r.i:=rfl
@[simp] theorem RS.adv_i (r:RS):r.adv.i=r.i+1:=rfl
@[simp] theorem RS.err_i (r:RS) (e:Int):(r.err e).i=r.i:=rfl
abbrev Inner:=Int→RS→Bool × RS
def andThen (x:Bool × RS) (k:RS→Bool × RS):Bool × RS:=if x.1 then k x.2 else (false,x.2)
theorem Zcd (r:RS) (k:RS→Bool × RS):andThen (true,r) k=k r:=rfl
theorem Znd (r:RS) (k:RS→Bool × RS):andThen (false,r) k=(false,r):=rfl
def Zeg (l:List Tk) (w:List UInt8) (r:RS):Bool × RS:=if (Zda l r.i).kind=0∨(Zda l r.i).text≠w then (false,r.err 80) else (true,r.adv)
def Zfl (r:RS) (op num:Int) (name:List UInt8):Bool × RS:=(true,r.adv.put ⟨op,num,name,-1,-1,-1⟩)
def Zjf (t:List UInt8):List UInt8:=if t.dropWhile (· == 48)=[] then [48] else t.dropWhile (· == 48)
def Zhd (r:RS) (t:List UInt8):Bool × RS:=if (Zyc (Zjf t)).2≠0 then (false,r.err (Zyc (Zjf t)).2) else Zfl r 1 (Zyc (Zjf t)).1 []
def wIf:List UInt8:=[105,102]
def Zbp:List UInt8:=[116,104,101,110]
def Zcp:List UInt8:=[101,108,115,101]
def Zuk:List UInt8:=[101,110,100,105,102]
def Zjb (l:List Tk) (inner:Inner) (r:RS):Bool × RS :=
 andThen (Zeg l wIf r) fun r1=>andThen (inner 1 r1) fun a=>andThen (Zeg l Zbp a) fun r2=>andThen (inner 1 r2) fun b =>
 andThen (Zeg l Zcp b) fun r3=>andThen (inner 1 r3) fun c=>andThen (Zeg l Zuk c) fun r4=>(true,r4.put ⟨22,0,[],a.last,b.last,c.last⟩)
def Zdd (l:List Tk) (inner:Inner) (r:RS):Bool × RS :=
 if (Zda l r.i).kind=1 then Zhd r (Zda l r.i).text
 else if (Zda l r.i).kind=2 then Zfl r 2 0 (Zda l r.i).text
 else if (Zda l r.i).kind=0 then (false,r.err 80)
 else if (ofP (Zda l r.i).text 1).2 then andThen (inner 9 r.adv) fun a=>(true,a.put ⟨(ofP (Zda l r.i).text 1).1,0,[],a.last,-1,-1⟩)
 else if (Zda l r.i).text=[40] then andThen (inner 1 r.adv) (Zeg l [41])
 else if (Zda l r.i).text=wIf then Zjb l inner r
 else if (ofP (Zda l r.i).text 0).2∧(Zda l r.i).kind=3 then Zfl r (ofP (Zda l r.i).text 0).1 0 []
 else (false,r.err 80)
def Zqo (l:List Tk) (i:Nat):Option Nat:=if (Zda l i).kind=0 then none else ofI (Zda l i).text 2
def Zkf (l:List Tk) (inner:Inner) (n:Int):Nat→RS→Bool × RS
 | 0,r=>(true,r)
 | m+1,r=>match Zqo l r.i with
  | none=>(true,r)
  | some op=>if lvl op<n then (true,r) else andThen (inner (lvl op+1) r.adv) fun a=>Zkf l inner n m (a.put ⟨op,0,[],r.last,a.last,-1⟩)
def Zba (l:List Tk):Nat→Inner
 | 0,_,r=>(false,r)
 | f+1,n,r=>andThen (Zdd l (Zba l f) r) (Zkf l (Zba l f) n (l.length+1))
def Mono (inner:Inner):Prop:=∀ n r,r.i≤(inner n r).2.i
theorem Zcb {x:Bool × RS} {k:RS→Bool × RS} {a:Nat} (h:a≤x.2.i) (hk:∀ r,x.2.i≤r.i→r.i≤(k r).2.i):a≤(andThen x k).2.i:=by
 obtain ⟨b,r⟩:=x;cases b
 ·exact h
 ·exact Nat.le_trans h (hk r (Nat.le_refl _))
theorem Z6g (l:List Tk) (w:List UInt8) (r:RS):r.i≤(Zeg l w r).2.i:=by
 unfold Zeg;split
 ·exact Nat.le_refl _
 ·exact Nat.le_succ _
theorem Zfk (r:RS) (op num:Int) (name:List UInt8):r.i≤(Zfl r op num name).2.i:=Nat.le_succ _
theorem Zjs (r:RS) (t:List UInt8):r.i≤(Zhd r t).2.i:=by
 unfold Zhd;split
 ·exact Nat.le_refl _
 ·exact Zfk _ _ _ _
theorem Zao {l:List Tk} {inner:Inner} (h:Mono inner) (r:RS):r.i≤(Zjb l inner r).2.i:=by
 unfold Zjb;refine Zcb (Z6g _ _ _) fun r1 _=>Zcb (h _ _) fun a _=>Zcb (Z6g _ _ _) fun r2 _=>Zcb (h _ _) fun b _=>Zcb (Z6g _ _ _) fun r3 _=>Zcb (h _ _) fun c _=>Zcb (Z6g _ _ _) fun r4 _=>Nat.le_refl _
theorem Zuv {l:List Tk} {inner:Inner} (h:Mono inner) (r:RS):r.i≤(Zdd l inner r).2.i:=by
 have h1:r.i≤r.adv.i:=Nat.le_succ _;unfold Zdd
 split
 ·exact Zjs _ _
 split
 ·exact Zfk _ _ _ _
 split
 ·exact Nat.le_refl _
 split
 ·exact Zcb (Nat.le_trans h1 (h _ _)) fun a _=>Nat.le_refl _
 split
 ·exact Zcb (Nat.le_trans h1 (h _ _)) fun a _=>Z6g _ _ _
 split
 ·exact Zao h r
 split
 ·exact Zfk _ _ _ _
 ·exact Nat.le_refl _
theorem Zuo {l:List Tk} {inner:Inner} (h:Mono inner) (n:Int):∀ (m:Nat) (r:RS),r.i≤(Zkf l inner n m r).2.i
 | 0,r=>Nat.le_refl _
 | m+1,r=>by
  rw [Zkf]
  split
  ·exact Nat.le_refl _
  ·split
   ·exact Nat.le_refl _
   ·exact Zcb (Nat.le_trans (Nat.le_succ _) (h _ r.adv)) fun a _=>Zuo h n m (a.put _)
theorem Zqi (l:List Tk):∀ f,Mono (Zba l f)
 | 0=>fun _ _=>Nat.le_refl _
 | f+1=>fun n r=>by
  rw [Zba];exact Zcb (Zuv (Zqi l f) r) fun a _=>Zuo (Zqi l f) n _ a
def Ends (l:List Tk) (n:Int) (i:Nat):Prop:=∀ op,Zqo l i=some op→lvl op<n
theorem Zmm {l:List Tk} {i op:Nat} (h:Zqo l i=some op):i<l.length:=by
 unfold Zqo at h
 split at h
 ·cases h
 ·exact Zdf (by assumption)
theorem Zvo {l:List Tk} {inner:Inner} (h:Mono inner) (n:Int):∀ (m:Nat) (r:RS),l.length<m+r.i→(Zkf l inner n m r).1=true→Ends l n (Zkf l inner n m r).2.i
 | 0,r,hm,_=>fun op ho=>by have h2:r.i<l.length:=Zmm ho;omega
 | m+1,r,hm,hb=>by
  rw [Zkf] at hb ⊢
  cases ho:Zqo l r.i with
  | none =>
   intro op h2;have h2:Zqo l r.i=some op:=h2;rw [ho] at h2;cases h2
  | some op =>
   rw [ho] at hb;simp only at hb ⊢
   by_cases hl:lvl op<n
   ·rw [if_pos hl] at hb ⊢
    intro op' h2;have h2:Zqo l r.i=some op':=h2;rw [ho] at h2;cases h2;exact hl
   ·rw [if_neg hl] at hb ⊢
    have h3:=h (lvl op+1) r.adv;generalize inner (lvl op+1) r.adv=x at hb h3 ⊢;obtain ⟨b,a⟩:=x;cases b
    ·cases hb
    ·exact Zvo h n m _ (by have:r.i+1≤a.i:=h3;simp only [Zsr];omega) hb
theorem Zkv {l:List Tk} {f:Nat} {n:Int} {r:RS} (hb:(Zba l f n r).1=true):Ends l n (Zba l f n r).2.i:=by
 cases f with
 | zero=>cases hb
 | succ f =>
  rw [Zba] at hb ⊢;generalize Zdd l (Zba l f) r=x at hb ⊢;obtain ⟨b,a⟩:=x;cases b
  ·cases hb
  ·exact Zvo (Zqi l f) n _ a (by omega) hb
theorem Z3w {l:List Tk} {i:Nat}:Zqo l i=ofI (Zda l i).text 2:=by
 unfold Zqo
 split
 ·rename_i h
  cases ho:ofI (Zda l i).text 2 with
  | none=>rfl
  | some op =>
   have h1:=(Zg1 ho).2.2.2.2;have h2:=Zql l i;rw [h] at h2;omega
 ·rfl
theorem Zf1 {l:List Tk} {i op:Nat} (h:Zqo l i=some op):7≤op∧op≤21∧1≤lvl op∧lvl op≤8:=by
 rw [Z3w] at h;obtain ⟨h1,h2,h3,h4,_⟩:=Zg1 h;exact ⟨h1,h2,h3,h4⟩
theorem isP_dig {t:List UInt8} (h:isP t=1):t≠[]∧t.all Zya=true:=by
 rw [Zvs] at h
 split at h
 ·cases h
 ·match t with
  | []=>cases h
  | c::r =>
   refine ⟨by simp,?_⟩
   rcases Zlx c with hc | ⟨_,hc⟩ | ⟨hc,_⟩
   ·rw [Zkw hc] at h
    split at h
    ·assumption
    ·cases h
   ·rw [Zjw hc] at h
    split at h
    ·split at h<;>cases h
    ·cases h
   ·rw [Zhl hc] at h
    split at h<;>cases h
end Go.Hs
end

section
namespace Go.Hs
open Go.Proofs
set_option maxRecDepth 100000
def Zkk (s:Sg):V := .agg [.str s.text,.int .i64 s.level,.int .i64 s.parts]
theorem Zjk (s:Sg):Zkk s = .agg [.str s.text,.int .i64 s.level,.int .i64 s.parts]:=rfl
theorem Zjv (s:Sg):(Zkk s).cells.length=3:=rfl
def tabC:List V:=flat (tabL.map Zkk)
theorem Zrw (op:Nat) (h:op<23) (k:Nat) (hk:k<3):tabC[op * 3+k]? = ((Zkk (tabL.getD op ⟨[],0,0⟩)).cells)[k]? := by
 match k,hk with
 | 0,_=>exact match op,h with
  | 0,_=>rfl
  | 1,_=>rfl
  | 2,_=>rfl
  | 3,_=>rfl
  | 4,_=>rfl
  | 5,_=>rfl
  | 6,_=>rfl
  | 7,_=>rfl
  | 8,_=>rfl
  | 9,_=>rfl
  | 10,_=>rfl
  | 11,_=>rfl
  | 12,_=>rfl
  | 13,_=>rfl
  | 14,_=>rfl
  | 15,_=>rfl
  | 16,_=>rfl
  | 17,_=>rfl
  | 18,_=>rfl
  | 19,_=>rfl
  | 20,_=>rfl
  | 21,_=>rfl
  | 22,_=>rfl
  | n+23,h=>absurd h (by omega)
 | 1,_=>exact match op,h with
  | 0,_=>rfl
  | 1,_=>rfl
  | 2,_=>rfl
  | 3,_=>rfl
  | 4,_=>rfl
  | 5,_=>rfl
  | 6,_=>rfl
  | 7,_=>rfl
  | 8,_=>rfl
  | 9,_=>rfl
  | 10,_=>rfl
  | 11,_=>rfl
  | 12,_=>rfl
  | 13,_=>rfl
  | 14,_=>rfl
  | 15,_=>rfl
  | 16,_=>rfl
  | 17,_=>rfl
  | 18,_=>rfl
  | 19,_=>rfl
  | 20,_=>rfl
  | 21,_=>rfl
  | 22,_=>rfl
  | n+23,h=>absurd h (by omega)
 | 2,_=>exact match op,h with
  | 0,_=>rfl
  | 1,_=>rfl
  | 2,_=>rfl
  | 3,_=>rfl
  | 4,_=>rfl
  | 5,_=>rfl
  | 6,_=>rfl
  | 7,_=>rfl
  | 8,_=>rfl
  | 9,_=>rfl
  | 10,_=>rfl
  | 11,_=>rfl
  | 12,_=>rfl
  | 13,_=>rfl
  | 14,_=>rfl
  | 15,_=>rfl
  | 16,_=>rfl
  | 17,_=>rfl
  | 18,_=>rfl
  | 19,_=>rfl
  | 20,_=>rfl
  | 21,_=>rfl
  | 22,_=>rfl
  | n+23,h=>absurd h (by omega)
theorem Z23 (op:Nat) (h:op<23):tabC[op * 3+1]? = some (.int .i64 (lvl op)):=by rw [Zrw op h 1 (by decide)]<;>rfl
theorem Zip:tabC.length=69:=rfl
theorem Zku (f:Col→Col):(V.agg tabC).recol f = .agg tabC:=by
 have:Zqa f tabC=tabC:=by
  rw [Zz]
  have:∀ v∈tabC,v.recol f=v:=by
   intro v hv;unfold tabC flat at hv;rw [List.mem_flatMap] at hv;obtain ⟨a,ha,hv⟩:=hv;obtain ⟨s,_,rfl⟩:=List.mem_map.1 ha;simp only [Zjk,V.cells,List.mem_cons,List.not_mem_nil,or_false] at hv
   rcases hv with rfl | rfl | rfl<;>rfl
  exact (List.map_congr_left this).trans (List.map_id _)
 rw [V.recol,this]
theorem Zop:∀ (c l:List V) (off:Nat),off+c.length≤l.length→Hs.setAt l off c=l.take off++c++l.drop (off+c.length)
 | [],l,off,_=>by simp [Hs.setAt]
 | v::r,l,off,h=>by
  simp only [List.length_cons] at h;rw [Hs.setAt,Zop r (l.set off v) (off+1) (by rw [List.length_set];omega)]
  have h1:(l.set off v).take (off+1)=l.take off++[v]:=by
   rw [List.take_add_one,List.getElem?_set_self (by omega),List.take_set_of_le (Nat.le_refl _)]<;>rfl
  have h2:(l.set off v).drop (off+1+r.length)=l.drop (off+(r.length+1)):=by
   rw [List.drop_set_of_lt (by omega)]
   congr 1;omega
  rw [h1,h2];simp
theorem Z5r {l c:List V} (h:c.length=l.length):Hs.setAt l 0 c=c:=by
 rw [Zop c l 0 (by omega),h];simp
theorem Z3l (l:List V) (h:l.length=69):Hs.setAt l 0 tabC=tabC:=Z5r (by rw [h]<;>rfl)
theorem Z5h (G:Nat→V) (hG:GOk G):Spec Tryz.prog G 41 [] Zu (fun v _=>v = .agg tabC):=by
 refine Zo 0 24 [.cell 0 100] Tryz.func41 fun X=>?_;refine Z1 ?_;intro g0;exact Zr
structure FnG (G:Nat→V) (f:FuncId) (cap:List V) (p:Sg→Bool):Prop where
 en:Zga Tryz.prog f=true
 rc:cap.map (V.recol Col.ent)=cap
 sp:∀ s:Sg,Spec Tryz.prog G f (Zkk s::cap) Zu (fun v _=>v = .bool (p s))
theorem Zzw (f:Col→Col) (s:Sg):(Zkk s).recol f=Zkk s:=by simp only [Zjk,Zbj,List.map_cons,List.map_nil,Zuf,Zaj]
theorem Zel (G:Nat→V) (hG:GOk G) (c:Col) (s:Sl Sg) (hs:s.l.length<1000000) {f:FuncId} {cap:List V} {p:Sg→Bool} (hf:FnG G f cap p) :
  Spec Tryz.prog G 146 [Zb c 3 Zkk s,.func (.func f) [] cap] Zu (fun v _=>v = .int .i64 (Zd5 p s.l)):=by
 refine Zo 0 19 [.tmp 4] Tryz.func146 fun X=>?_;refine Z1 ?_;refine Z1 ?_;refine AW.block ?_
 refine Z0a s.l.length (fun k (_:Unit)=>st [(0,Zb c 3 Zkk s),(1,.func (.func f) [] cap),(7,.int .i64 s.l.length),(8,.int .i64 k)] []) (fun k _=>∀ y∈s.l.take k,p y=false) 0 () (Nat.zero_le _) (by simp)
  (Zg zp zp) ?_
 intro k _ hk hR L2 hL2;refine Z1 ?_;refine Zv ?_;refine Zd rfl (fun h4=>?_) (fun h4=>?_)
 ·have hk1:k<s.l.length:=by simpa using h4
  have hg:=List.getElem?_eq_getElem hk1;generalize s.l[k]=x at hg;refine Z1 ?_;refine Z1f (zi hg @Zjk) ?_;refine CallA.pure hG hf.en ?_;simp only [List.map_cons,hf.rc,← Zjk,Zzw];refine (hf.sp x).mono ?_;rintro _ _ rfl;refine Zs ?_;refine Zd rfl (fun h6=>?_) (fun h6=>?_)
  ·refine Z ?_
   rw [Zxs hg hR h6]
  ·refine Z1 ?_
   refine hL2 _ ⟨hk1,(),Zqw hg hR h6,Zg zw zp⟩
 ·have hk1:k=s.l.length:=by simp at h4;omega
  refine Z ?_;rw [hk1,List.take_length] at hR;rw [Zys hR]
theorem Z4z (G:Nat→V) (hG:GOk G) (t:List UInt8) (p:Int) (s:Sg):Spec Tryz.prog G 147 [Zkk s,.view .old (.str t),.view .old (.int .i64 p)] Zu (fun v _=>v = .bool (sgIs t p s)):=by
 refine Zo 0 20 [.tmp 4] Tryz.func147 fun X=>?_;simp only [Zjk];refine Zi fun K hK=>AW.region (by kernel_rfl) ?_;refine Zs ?_;intro g3;refine hK _ ?_
 try clear hK K
 unfold sgIs
 cases h1:(s.text==t)<;>cases h2:(s.parts==p)<;>cases h3:(s.text==[])<;>((refine Zi fun K hK=>AW.region (by kernel_rfl) ?_;simp -implicitDefEqProofs only[go_sem,seval,↓reduceIte,bne,h1,h2,h3];refine hK _ ?_;clear hK K);(refine AW.ret ?_;simp -implicitDefEqProofs only[go_sem,seval,↓reduceIte];refine Zk ?_);rfl)
theorem fOf1 {G:Nat→V} (hG:GOk G) (t:List UInt8) (p:Int):FnG G 147 [.view .old (.str t),.view .old (.int .i64 p)] (sgIs t p):=⟨by kernel_rfl,rfl,Z4z G hG t p⟩
theorem Zc5 (t:List UInt8) (p:Int):Zd5 (sgIs t p) tabL=match ofI t p with | some i=>(i:Int) | none => -1:=rfl
def Zj5 (o:Nat × Bool):V := .tuple [.int .u8 o.1,.bool o.2]
theorem Zd6 {t:List UInt8} {p:Int} {i:Nat} (h:ofI t p=some i):i<23:=(List.findIdx?_eq_some_iff_getElem.1 h).1
theorem Z9o (G:Nat→V) (hG:GOk G) (t:List UInt8) (p:Int):Spec Tryz.prog G 116 [.str t,.int .i64 p] Zu (fun v _=>v=Zj5 (ofP t p)):=by
 refine Zo 0 17 [.tmp 4,.tmp 5] Tryz.func116 fun X=>?_;refine Z1 ?_;intro g2 g3;refine Z1 ?_;refine Zn hG ?_ (s:=(Z5h G hG));refine Zsf (zi @Zku (zi @Zip @Nat.le_refl)) ?_;intro g6;rw [Z3l _ ?hl]
 case hl=>rfl
 refine Zv <| Z6e 0 (by kernel_rfl) rfl rfl ?_
 simp -implicitDefEqProofs only[go_sem,seval,↓reduceIte,List.take_zero];refine ⟨_,Zco Tryz.underlying100 (by kernel_rfl) (ob:=6) (g:=g6) (m:=3) (c := .new) (fz:=0) (cs:=tabC) zp zp (by decide),?_⟩;refine Z5e hG [Zb .old 3 Zkk (.mk false tabL),.func (.func 147) [] [.view .old (.str t),.view .old (.int .i64 p)]] (by kernel_rfl) ⟨?_,Zox ⟨?_,?_,trivial⟩,trivial⟩ ?_
 ·exact Rd.msl (off:=0) (n:=23) (l:=tabL) (f:=Zkk) (f':=Zkk) (g:=g6) (fz:=0) (c := .new) zp Zjv (fun x y hy=>by
   simp only [Zjk,V.cells,List.mem_cons,List.not_mem_nil,or_false] at hy
   rcases hy with rfl | rfl | rfl
   ·exact .str _
   ·exact .int _ _
   ·exact .int _ _) (Zzw _) (by decide)
 ·exact Rd.ptr (v := .str t) (c := .new) (fz:=0) zp (by intro y hy;simp [V.cells] at hy;subst hy;exact .str _) zp
 ·exact Rd.ptr (v := .int .i64 p) (c := .new) (fz:=0) zp (by intro y hy;simp [V.cells] at hy;subst hy;exact .int _ _) zp
 refine (Zel G hG _ (.mk false tabL) (by decide) (fOf1 hG t p)).mono ?_;rintro _ _ rfl;refine ⟨.int _ _,?_⟩;refine Zs ?_;have hI:=Zc5 t p;unfold ofP
 show AW _ _ _ _ { τ := upd _ 7 (.int .i64 (Zd5 (sgIs t p) tabL)),H:=_ }
 rw [hI]
 cases ho:ofI t p with
 | none =>
  exact Zr
 | some i =>
  have hi:=Zd6 ho;refine AW.weak (Zg (l:=[(7,.int .i64 i)]) (m:=[]) zp zp) ?_
  have h0:((0:Int) > (i:Int))=False:=by rw [eq_iff_iff,iff_false];omega
  have hw:IntKind.u8.wrap (i:Int)=i:=by
   unfold IntKind.wrap;simp [IntKind.signed,IntKind.bits];omega
  have h1:decide ((i:Int)≥0)=true:=zT;exact Zq (zi h0 (zi hw h1))
end Go.Hs
end

section
namespace Go.Hs
open Go.Proofs
set_option maxRecDepth 10000
def Zw (n:XN):V := .agg [.int .u8 n.op,.int .i64 n.num,.str n.name,.int .i64 n.a,.int .i64 n.b,.int .i64 n.c]
theorem Zj (n:XN):Zw n = .agg [.int .u8 n.op,.int .i64 n.num,.str n.name,.int .i64 n.a,.int .i64 n.b,.int .i64 n.c]:=rfl
theorem Zkc (n:XN):(Zw n).cells.length=6:=rfl
theorem Zdg (t:Tk):Zke t = .agg [.int .u8 t.kind,.str t.text,.int .i64 t.pos]:=rfl
theorem Zih (f:Col→Col) (n:XN):(Zw n).recol f=Zw n:=by simp only [Zj,Zbj,List.map_cons,List.map_nil,Zuf,Zaj]
theorem Zc4 (f:Col→Col) (t:Tk):(Zke t).recol f=Zke t:=by simp only [Zdg,Zbj,List.map_cons,List.map_nil,Zuf,Zaj]
@[go_sem] theorem Ztf (g:Col→Col) (c:Col) (s:Sl Tk):(Zb c 3 Zke s).recol g=Zb (g c) 3 Zke s:=Zue g c 3 (Zc4 g) s
@[go_sem] theorem Za (g:Col→Col) (c:Col) (s:Sl XN):(Zb c 6 Zw s).recol g=Zb (g c) 6 Zw s:=Zue g c 6 (Zih g) s
def rdO (NO:Nat) (tl:List V) (sl:Sl Tk) (g gx:Nat) (r:RS):AObj := .cells .any g 0 (Zb .any 3 Zke sl :: .int .i64 r.i::grown NO gx 6 r.nodes :: .int .i64 r.e::tl)
def ndO (gx:Nat) (ns:List XN):AObj:=grownC .any gx Zw ns
theorem Zzd (NO:Nat) (tl:List V) (sl:Sl Tk) (g gx:Nat) (r:RS):rdO NO tl sl g gx r = .cells .any g 0 (Zb .any 3 Zke sl :: .int .i64 r.i::grown NO gx 6 r.nodes :: .int .i64 r.e::tl):=rfl
def RdS (NO:Nat) (tl:List V) (G:Nat→V) (f:FuncId) (args:List V) (sl:Sl Tk) (g:Nat) (r:RS) (v:V) (r':RS):Prop :=
 ∀ gx,Spec Tryz.prog G f (.ptr 8 g 0::args) (Zrb Zu [(8,rdO NO tl sl g gx r),(NO,ndO gx r.nodes)]) (fun v0 H'=>v0=v∧∃ gx',H' 8=rdO NO tl sl g gx' r'∧H' NO=ndO gx' r'.nodes)
theorem RdS.call {NO:Nat} {tl:List V} {G:Nat→V} (hG:GOk G) {f:FuncId} {args args':List V} {sl:Sl Tk} {g gx:Nat} {r r':RS} {v:V} (h:RdS NO tl G f args' sl g r v r') {H:Heap} {K:V→Heap→Prop}
  (hen:Zga Tryz.prog f=true) (htl:∀ F:Col→Col,tl.map (V.recol F)=tl) (hne:8≠NO) (hargs:args.map (V.recol Col.ent)=args') (hv:v.recol Col.bk=v)
  (h8:H 8=rdO NO tl sl g gx r) (hN:H NO=ndO gx r.nodes)
  (hk:∀ gx',K v (Zrb H [(8,rdO NO tl sl g gx' r'),(NO,ndO gx' r'.nodes)])) :
  CallA Tryz.prog G f (.ptr 8 g 0::args) H K:=by
 have e8:∀ (F:Col→Col) gx r,F .any = .any→(rdO NO tl sl g gx r).recol F=rdO NO tl sl g gx r:=by
  intro F gx r hF;simp only [Zzd,recol_cells,List.map_cons,Zbm,Ztf,Zuf,hF,htl]
 have eN:∀ (F:Col→Col) gx ns,F .any = .any→(ndO gx ns).recol F=ndO gx ns:=by
  intro F gx ns hF;rw [ndO,Zzs F .any gx Zw Zw (Zih F),hF]
 refine Zxz hG [(8,rdO NO tl sl g gx r),(NO,ndO gx r.nodes)] hen ?_ ?_
 ·intro p hp
  simp only [List.mem_cons,List.not_mem_nil,or_false] at hp
  rcases hp with rfl | rfl
  ·rw [h8,e8 _ _ _ rfl]
  ·rw [hN,eN _ _ _ rfl]
 ·have ha:(V.ptr 8 g 0::args).map (V.recol Col.ent) = .ptr 8 g 0::args':=by rw [List.map_cons,Zas,hargs]
  rw [ha];refine (h gx).mono ?_;rintro _ H' ⟨rfl,gx',q8,qN⟩;simp only [List.map_cons,List.map_nil,q8,qN,e8 _ _ _ Zx6,eN _ _ _ Zx6,hv];exact hk gx'
structure TkOk (l:List Tk):Prop where
 len:l.length<100000
 text:∀ t∈l,t.text.length<100000
theorem Zry {l:List Tk} {i:Nat} {t:Tk} (h:l[i]? = some t):Zda l i=if (isP t.text:Int)=t.kind then t else ⟨0,[],0⟩:=by unfold Zda;rw [h]
theorem Zsy {l:List Tk} {i:Nat} (h:l.length≤i):Zda l i=⟨0,[],0⟩:=by unfold Zda;rw [List.getElem?_eq_none h]
theorem Z2j (G:Nat→V) (hE:GExp G) (sl:Sl Tk) (hT:TkOk sl.l) (g:Nat) (r:RS) (hr:r.i<1000000):RdS 1031 [.func (.func 78) [] []] G 115 [] sl g r (Zke (Zda sl.l r.i)) r:=by
 have hG:=hE.ok;intro gx;refine Zo 1000 50 [.cell 2 121] Tryz.func115 fun X=>?_;simp only [Zrb,Zzd];refine Z1 ?_;intro g2;refine Zv ?_
 by_cases hi:r.i<sl.l.length
 ·have h1:decide ((r.i:Int)<sl.l.length)=true:=zT
  have hg:=List.getElem?_eq_getElem hi;have hm:=hT.text _ (List.getElem_mem hi);generalize sl.l[r.i]=t at hg hm;have hP:=Zry hg
  have p1:Zng Tryz.prog G 64 [.str t.text] (.int .u8 (isP t.text)):=⟨by kernel_rfl,by
   refine Zs ?_;refine (Zax G hE t.text hm).mono ?_;rintro _ _ rfl
   rfl⟩
  by_cases hk:(isP t.text:Int)=t.kind
  ·rw [if_pos hk] at hP
   have e1:((isP t.text:Int)==t.kind)=true:=by simpa using hk
   refine Zv <| Zx ⟨fun i=>if i=22 then .int .u8 (isP t.text) else .top,fun _ => .pure⟩ (by kernel_rfl) hG (by kernel_rfl) (by kernel_rfl) ?_
   refine Zsf (zi h1 (zi hg (zi @Zdg e1))) ?_;refine ⟨p1,?_⟩;refine Zd rfl (fun h2=>?_) (fun h2=>?_)
   ·refine ZTf (zi hg @Zdg) hG ?_
    refine Z ?_;exact ⟨by rw [hP]<;>rfl,gx,by simp -implicitDefEqProofs only[go_sem,seval,↓reduceIte],by simp -implicitDefEqProofs only[go_sem,seval,↓reduceIte]⟩
   ·cases h2
  ·rw [if_neg hk] at hP
   have e1:((isP t.text:Int)==t.kind)=false:=by simpa using hk
   refine Zv <| Zx ⟨fun i=>if i=22 then .int .u8 (isP t.text) else .top,fun _ => .pure⟩ (by kernel_rfl) hG (by kernel_rfl) (by kernel_rfl) ?_
   refine Zsf (zi h1 (zi hg (zi @Zdg e1))) ?_;refine ⟨p1,?_⟩;refine Z8 rfl ?_
   ·refine Z ?_
    exact ⟨by rw [hP]<;>rfl,gx,by simp -implicitDefEqProofs only[go_sem,seval,↓reduceIte],by simp -implicitDefEqProofs only[go_sem,seval,↓reduceIte]⟩
 ·have h1:decide ((r.i:Int)<sl.l.length)=false:=zF
  have hP:=Zsy (l:=sl.l) (i:=r.i) (by omega);refine ZTf h1 hG ?_;refine Z8 rfl ?_
  ·refine Z ?_
   exact ⟨by rw [hP]<;>rfl,gx,by simp -implicitDefEqProofs only[go_sem,seval,↓reduceIte],by simp -implicitDefEqProofs only[go_sem,seval,↓reduceIte]⟩
theorem Zch (G:Nat→V) (hG:GOk G) (sl:Sl Tk) (g:Nat) (r:RS) (hr:r.nodes.length<1000000):RdS 1031 [.func (.func 78) [] []] G 117 [] sl g r (.int .i64 r.last) r:=by
 intro gx;refine Zo 1000 9 [.tmp 2] Tryz.func117 fun X=>?_;simp only [Zrb,Zzd];refine Z ?_;exact ⟨by rw [w64 (by omega) (by omega)]<;>rfl,gx,by simp -implicitDefEqProofs only[go_sem,seval,↓reduceIte],by simp -implicitDefEqProofs only[go_sem,seval,↓reduceIte]⟩
theorem Z4r {l:List Int} (h:l.length≤3):setAt [V.int .i64 (-1),V.int .i64 (-1),V.int .i64 (-1)] 0 (l.map (V.int .i64))=[V.int .i64 (l.getD 0 (-1)),V.int .i64 (l.getD 1 (-1)),V.int .i64 (l.getD 2 (-1))]:=by
 match l,h with
 | [],_=>rfl
 | [_],_=>rfl
 | [_,_],_=>rfl
 | [_,_,_],_=>rfl
theorem Z0o (k:IntKind) (l:List Int):flat (l.map (V.int k))=l.map (V.int k):=by
 induction l with
 | nil=>rfl
 | cons x r ih=>unfold flat at ih ⊢;rw [List.map_cons,List.flatMap_cons,ih]<;>rfl
def Zly (n:XN) (ps:List Int):XN:={ n with a:=ps.getD 0 (-1),b:=ps.getD 1 (-1),c:=ps.getD 2 (-1) }
theorem Zyi (G:Nat→V) (hG:GOk G) (sl:Sl Tk) (g:Nat) (r:RS) (hr:r.nodes.length<1000000) (n:XN) (c:Col) (ps:Sl Int) (hps:ps.l.length≤3) :
  RdS 1031 [.func (.func 78) [] []] G 118 [Zw n,Zb c 1 (V.int .i64) ps] sl g r (.bool true) (r.put (Zly n ps.l)):=by
 intro gx;refine Zo 1000 34 [.tmp 6] Tryz.func118 fun X=>?_;simp only [Zrb,Zzd,Zj];refine Z1 ?_;intro g4;refine Z1 ?_;intro g8
 refine Zv <| Z0z 2 (by kernel_rfl) rfl rfl ?_
 simp -implicitDefEqProofs only[go_sem,seval,↓reduceIte,List.take_succ_cons,List.take_zero];refine ⟨_,_,GivesE.copy Tryz.underlying104 (by kernel_rfl) (ob:=1008) (g:=g8) (m:=1) (len:=3) (cs:=[.int .i64 (-1),.int .i64 (-1),.int .i64 (-1)]) (c := .new) (fz:=0) (off:=0) (n:=ps.l.length) (xc:=ps.l.map (V.int .i64)) zp zp (by simp -implicitDefEqProofs only[go_sem,seval,↓reduceIte];exact congrArg (fun x=>some (ps.l.length,x)) (Z0o _ _)) hps (Nat.le_refl _) (by simp;omega),?_⟩;rw [Z4r hps];simp -implicitDefEqProofs only[go_sem,seval,↓reduceIte,List.drop_succ_cons,List.drop_zero];have hn:Zly n ps.l={ n with a:=ps.l.getD 0 (-1),b:=ps.l.getD 1 (-1),c:=ps.l.getD 2 (-1) }:=rfl;generalize ps.l.getD 0 (-1)=x0 at hn ⊢;generalize ps.l.getD 1 (-1)=x1 at hn ⊢;generalize ps.l.getD 2 (-1)=x2 at hn ⊢
 refine AW.weak (Z7 (fun o=>o==1008) (l:=[(0,.ptr 8 g 0),(4,.ptr 1004 g4 0),(7,.slice .new false 1 [.int .i64 x0,.int .i64 x1,.int .i64 x2])])
  (m:=[(8,rdO 1031 [.func (.func 78) [] []] sl g gx r),(1031,ndO gx r.nodes),(1004,.cells .new g4 0 [.int .u8 n.op,.int .i64 n.num,.str n.name,.int .i64 n.a,.int .i64 n.b,.int .i64 n.c])]) ?_ ?_) ?_
 ·refine Zs ?_
  refine ⟨Zl _,Zl _,?_⟩;exact Zog (f:=V.int .i64) (l:=[x0,x1,x2]) (m:=1) (g:=g8) (fz:=0) (c := .new) rfl zp (fun _=>rfl)
 ·simp only [Zy,Z2,and_true]
  exact ⟨FzO.keep rfl zp,FzO.keep rfl zp,FzO.keep rfl zp⟩
 refine Zv <| Zx ⟨fun _ => .top,fun i=>if i=2 then .lend else if i=5 then .lend else if i=8 then .lend else .pure⟩ (by kernel_rfl) hG (by kernel_rfl) (by kernel_rfl) ?_
 refine Zsf @Zzd ?_;refine AW.later ?_;refine ZT hG ?_;intro g30;refine Zjz (f:=Zw) (l:=r.nodes) (l2:=[Zly n ps.l]) (g:=gx) Zkc rfl (by rw [hn]<;>rfl) rfl zp (Zab (by omega) (by simp;omega)) fun c2 g2=>?_;refine Zs ?_;refine Z1 ?_;refine AW.ret ?_;refine Zs ?_;refine ⟨st [(6,.bool true)] [(8,rdO 1031 [.func (.func 78) [] []] sl g g2 (r.put (Zly n ps.l))),(1031,ndO g2 (r.nodes++[Zly n ps.l]))],Z7 (fun _=>false) ?_ ?_,?_⟩
 ·refine Zs ?_
  exact Zl _
 ·simp only [Zy,Z2,and_true]
  exact ⟨FzO.keep rfl zp,Zwz (c:=c2) rfl zp⟩
 ·refine Zs ?_
  exact Zk ⟨rfl,g2,by simp -implicitDefEqProofs only[go_sem,seval,↓reduceIte];rfl,by simp -implicitDefEqProofs only[go_sem,seval,↓reduceIte];rfl⟩
end Go.Hs
end
