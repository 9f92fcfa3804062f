/- Part 30 of a proof; no condition. -/
import Derived.Test.YtegjlbpnpiigkaaGreatDoorPart28
import Derived.Test.YtegjlbpnpiigkaaGreatDoorPart29
set_option linter.unusedSimpArgs false
set_option linter.unusedVariables false
section
namespace Go.Hs
section
variable {P:Program} {E:Ent}
theorem Zci {ops:Array Oper} {Q:AS→Prop} {R:Exit→Act→World→Prop} {tail:List Nat} (hP:∀ ch a w,Pan E ch a w→R (.panic ch) a w) (hR:∀ s a w,Sat E s a w→Q s→wpOps P ops R tail a w) (hd:(ops.all (Z8f E.n))=true):∀ (l:List Oper) (k:Nat) (s:AS) (a:Act) (w:World),Sat E s a w→(∀ j,j<l.length→l[j]? = ops[k+j]?)→Zub P E ops Q l s →
  wpOps P ops R ((List.range l.length).map (k + ·)++tail) a w
 | [],k,s,a,w,hs,_,h=>by
  simp only [List.length_nil,List.range_zero,List.map_nil,List.nil_append];exact hR s a w hs h
 | o::rest,k,s,a,w,⟨X,hX⟩,hl,h=>by
  have hk:ops[k]? = some o:=by have:=hl 0 (by simp);simpa using this.symm
  have hl':∀ j,j<rest.length→rest[j]? = ops[k+1+j]? := fun j hj=>by have:=hl (j+1) (by simpa using hj);rw [show k+1+j=k+(j+1) by omega];simpa using this
  have hmem:∀ (o':Oper) d,o'∈ops→o'.dst=some d→d<E.n:=by
   intro o' d ho hdst;rw [Array.all_eq_true'] at hd;have:=hd o' ho;unfold Z8f at this;rw [hdst] at this;simpa using this
  have hko:o∈ops:=by rw [Array.getElem?_eq_some_iff] at hk;obtain ⟨hlt,rfl⟩:=hk;exact Array.getElem_mem hlt
  have hrange:(List.range (o::rest).length).map (k + ·)++tail=k::((List.range rest.length).map (k+1 + ·)++tail):=by
   simp only [List.length_cons,List.range_succ_eq_map,List.map_cons,Nat.add_zero,List.map_map,List.cons_append]
   congr 2
   apply List.map_congr_left;intro j _;simp;omega
  rw [hrange];simp only [wpOps,hk];simp only [Zub] at h
  cases hwa:Zga ops s.τ o with
  | none=>rw [hwa] at h;exact h.elim
  | some b =>
   have hb:=Z2i hX hwa hmem;rw [hwa] at h;rw [hb]
   cases b with
   | true =>
    simp only [if_true] at h ⊢;refine .inl ?_;refine Oper.wp_mono ?_ (Zmn hX (fun d hdst=>hmem o d hko hdst) h hP);rintro a' w' ⟨v,H',hk',hs'⟩;exact Zci hP hR hd rest (k+1) _ _ _ hs' hl' hk'
   | false =>
    simp only [Bool.false_eq_true,if_false] at h ⊢;refine Zci hP hR hd rest (k+1) _ _ _ ⟨X,?_⟩ hl' h;have:=hX.step (Goes.refl hX.go.inv) (dst:=o.dst) (c:=undef) (v := .tuple []) (.tuple #[] [] rfl (fun i h1 h2=>by simp at h2)) (fun d hdst=>hmem o d hko hdst);rw [hX.hw] at this;exact this
theorem Zaq {ops:Array Oper} {Q:AS→Prop} {R:Exit→Act→World→Prop} {s:AS} {a:Act} {w:World} {o:Oper} (hP:∀ ch a w,Pan E ch a w→R (.panic ch) a w) (hd:(ops.all (Z8f E.n))=true) (hsz:Nat.ble 1 ops.size=true) (ho:ops[ops.size-1]? = some o) (hg:o.guard=none) (hs:Sat E s a w)
  (h:Zub P E ops Q ops.toList.dropLast s) (hR:∀ s a w,Sat E s a w→Q s→o.wp P a w (R .normal) R):wpOps P ops R (List.range ops.size) a w:=by
 have hsz:=Nat.le_of_ble_eq_true hsz
 have:=Zci (P:=P) (E:=E) (R:=R) (tail:=[ops.size-1]) (Q:=Q) hP (fun s a w h1 h2=>by
  simp only [wpOps,ho]
  have:Region.wanted o (yielded ops a.tmps)=true:=by simp [Region.wanted,hg]
  rw [this];simp only [if_true]
  exact .inl (Oper.wp_mono (fun _ _ h=>h) (hR s a w h1 h2))) hd ops.toList.dropLast 0 s a w hs (fun j hj=>by
   rw [List.getElem?_dropLast];simp at hj;rw [if_pos (by simp;omega)]
   simp) h
 have e:List.range ops.size=(List.range ops.toList.dropLast.length).map (0 + ·)++[ops.size-1]:=by
  simp only [List.length_dropLast,Array.length_toList,Nat.zero_add,List.map_id'];rw [← List.range_succ]
  congr 1
  omega
 rw [e];exact this
structure StK (w:World) (B C n:Nat) (L:List (Nat × Sh)) (a:Act):Prop where
 hBC:B≤C
 hC:C≤w.heap.size
 df:a.defers=[]
 sz:a.tmps.size=n
 kd:∀ p∈L,Kd w B C p.2 (a.tmps.getD p.1 undef)
def EK (w:World) (B C n q:Nat):Ent:=⟨Xk w B C,Zl,n,q,fun _ => .top,none,[]⟩
def ShL:List (Nat × Sh)→List (Nat × V)→Prop
 | [],l=>l=[]
 | p::r,l=>∃ v m,l=(p.1,v)::m∧ShV .old .new p.2 v∧ShL r m
def Zcx:List (Nat × Sh)→(Nat→V)→Prop
 | [],_=>True
 | p::r,τ => ShV .old .new p.2 (τ p.1)∧Zcx r τ
theorem Z1u {τ : Nat→V}:∀ {L:List (Nat × Sh)},Zcx L τ → ∀ p∈L,ShV .old .new p.2 (τ p.1)
 | [],_,p,hp=>by cases hp
 | q::r,h,p,hp=>by
  cases hp with
  | head=>exact h.1
  | tail _ hp=>exact Z1u h.2 p hp
theorem Zdz {w:World} {B C:Nat} (hBC:B≤C) {a:Act}:∀ {L:List (Nat × Sh)},(∀ p∈L,Kd w B C p.2 (a.tmps.getD p.1 undef))→∃ l,ShL L l∧∀ t,Rel (Xk w B C) (a.tmps.getD t undef) (Zob emp l t)
 | [],_=>⟨[],rfl,fun t => .top _⟩
 | p::r,h=>by
  obtain ⟨m,h1,h2⟩:=Zdz hBC (L:=r) fun q hq=>h q (by simp [hq]);obtain ⟨v,h3,h4⟩:=Zdg (Xk.all hBC) (h p (by simp));refine ⟨(p.1,v)::m,⟨v,m,rfl,h4,h1⟩,fun t=>?_⟩;simp only [Zob,upd]
  split
  ·rename_i e;subst e;exact h3
  ·exact h2 t
theorem StK.sat {w:World} {B C n:Nat} {L:List (Nat × Sh)} {a:Act} (h:StK w B C n L a) (q:Nat):∃ l,ShL L l∧Sat (EK w B C n q) (st l []) a w:=by
 obtain ⟨l,h1,h2⟩:=Zdz h.hBC h.kd;exact ⟨l,h1,Xk w B C,rfl,Goes.refl (Xk.inv h.hC),(by rw [h.df];exact .none _),h.sz,h2,fun g=>⟨.top _,trivial⟩⟩
theorem Zxl {w w':World} {B C n q:Nat} {L:List (Nat × Sh)} {s:AS} {a':Act} (hBC:B≤C) (hC:C≤w.heap.size) (h:Sat (EK w B C n q) s a' w') (hL:Zcx L s.τ):StK w' B C n L a'∧KP B C w w':=by
 obtain ⟨X,hX⟩:=h;have hg:=hX.go;have hkp:KP B C w X.w:=Z2q hg;have hbase:X.base=C:=hg.le.base;have hsafe:=Zbu hC hg;have hw:=hX.hw;subst hw;refine ⟨⟨hBC,Nat.le_trans hC hkp.size,(show DefR X a'.defers [] from hX.df).nil,hX.sz,fun p hp=>?_⟩,hkp⟩;refine Zgg (X:=X) (cs := .old) (ch := .new) (fun b i x hs hc hcc=>?_) (.inl fun b i x hs hc hcc=>?_) (hX.tm p.1) (Z1u hL p hp)
 ·have hc:b<X.base:=hc
  rw [hbase] at hc;exact ⟨⟨(hsafe b i x hs hcc).1 hc,hc⟩,(hsafe b i x hs hcc).2⟩
 ·have hc:X.base≤b:=hc
  rw [hbase] at hc;exact ⟨hc,(hsafe b i x hs hcc).2⟩
def AK (P:Program) (w0:World) (B C n:Nat) (L:List (Nat × Sh)) (c:Code) (Q:Exit→Act→World→Prop):Prop:=∀ a w,StK w B C n L a→KP B C w0 w→c.wp P Q a w
def AC (P:Program) (w0 w:World) (B C n q:Nat) (c:Code) (Q:Exit→Act→World→Prop) (s:AS):Prop:=B≤C→C≤w.heap.size→KP B C w0 w→∀ a w',Sat (EK w B C n q) s a w'→c.wp P Q a w'
def leave (w0 w:World) (B C n q:Nat) (Q:Exit→Act→World→Prop) (e:Exit) (s:AS):Prop:=B≤C→C≤w.heap.size→KP B C w0 w→∀ a w',Sat (EK w B C n q) s a w'→Q e a w'
section
variable {w0:World} {B C n:Nat} {L:List (Nat × Sh)} {Q:Exit→Act→World→Prop}
def preQ (P:Program) (w0 w:World) (B C n q:Nat) (y:Code) (Q:Exit→Act→World→Prop):Exit→AS→Prop
 | .normal,s=>AC P w0 w B C n q y Q s
 | e,s=>leave w0 w B C n q Q e s
theorem AK.pre (q:Nat) {x y:Code} (h:∀ w l,ShL L l→AW P (EK w B C n q) x (preQ P w0 w B C n q y Q) (st l [])):AK P w0 B C n L (.seq x y) Q:=by
 intro a w hs hk;obtain ⟨l,h1,h2⟩:=hs.sat q;refine wp_seq (wp_mono (h w l h1 a w h2) ?_);rintro e a' w' (⟨s',h3,h4⟩ | ⟨ch,rfl,hp⟩)
 ·cases e<;>exact h4 hs.hBC hs.hC hk a' w' h3
 ·exact (hp.no rfl).elim
theorem AK.all (q:Nat) {x:Code} (h:∀ w l,ShL L l→AW P (EK w B C n q) x (fun e s=>leave w0 w B C n q Q e s) (st l [])):AK P w0 B C n L x Q:=by
 intro a w hs hk;obtain ⟨l,h1,h2⟩:=hs.sat q;refine wp_mono (h w l h1 a w h2) ?_;rintro e a' w' (⟨s',h3,h4⟩ | ⟨ch,rfl,hp⟩)
 ·exact h4 hs.hBC hs.hC hk a' w' h3
 ·exact (hp.no rfl).elim
theorem leave.k {w:World} {q:Nat} {e:Exit} {s:AS} (L':List (Nat × Sh)) (hL:Zcx L' s.τ) (h:∀ a w,StK w B C n L' a→KP B C w0 w→Q e a w):leave w0 w B C n q Q e s:=by
 intro hBC hC hk a w' hS;obtain ⟨h1,h2⟩:=Zxl hBC hC hS hL;exact h a w' h1 (hk.trans h2)
theorem leave.weak {w:World} {q:Nat} {e:Exit} {s s':AS} (hw:Weak (EK w B C n q) s s') (h:leave w0 w B C n q Q e s'):leave w0 w B C n q Q e s :=
 fun hBC hC hk a w' hS=>h hBC hC hk a w' (hw _ _ hS)
theorem AC.k {w:World} {q:Nat} {c:Code} {s:AS} (L':List (Nat × Sh)) (hL:Zcx L' s.τ) (h:AK P w0 B C n L' c Q):AC P w0 w B C n q c Q s:=by
 intro hBC hC hk a w' hS;obtain ⟨h1,h2⟩:=Zxl hBC hC hS hL;exact h a w' h1 (hk.trans h2)
theorem AC.weak {w:World} {q:Nat} {c:Code} {s s':AS} (hw:Weak (EK w B C n q) s s') (h:AC P w0 w B C n q c Q s'):AC P w0 w B C n q c Q s :=
 fun hBC hC hk a w' hS=>h hBC hC hk a w' (hw _ _ hS)
theorem AC.block {w:World} {q id:Nat} {c:Code} {s:AS} (h:AC P w0 w B C n q c (Exit.inBlock id Q) s):AC P w0 w B C n q (.block id c) Q s:=fun a b c' d w' hS=>wp_block (h a b c' d w' hS)
theorem AK.block {id:Nat} {c:Code} (h:AK P w0 B C n L c (Exit.inBlock id Q)):AK P w0 B C n L (.block id c) Q:=fun a w h1 h2=>wp_block (h a w h1 h2)
def likeV:V→V→Prop
 | .int k _,.int k' _=>k=k'
 | .str _,.str _=>True
 | .nils,.nils=>True
 | .slice _ _ _ _,.nils=>True
 | _,_=>False
def Zq0:List V→List V→Prop
 | [],[]=>True
 | u::r,v::t=>likeV u v∧Zq0 r t
 | _,_=>False
theorem Zho:∀ {l m:List V},Zq0 l m→l.length=m.length∧∀ i (h1:i<l.length) (h2:i<m.length),likeV l[i] m[i]
 | [],[],_=>⟨rfl,fun i h1=>by simp at h1⟩
 | [],_::_,h=>h.elim
 | _::_,[],h=>h.elim
 | a::l,b::m,h=>by
  obtain ⟨h1,h2⟩:=Zho h.2;refine ⟨by simp [h1],fun i k1 k2=>?_⟩
  cases i with
  | zero=>exact h.1
  | succ i=>exact h2 i (by simpa using k1) (by simpa using k2)
theorem likeV.alike {X Y:Cx} {x y:Value} {u v:V} (h:likeV u v) (hx:Rel X x u) (hy:Rel Y y v):Alike x y:=by
 cases hx<;>cases hy<;>simp only [likeV] at h<;>first | exact h.elim | (subst h;exact .int _ _ _) | exact .str _ _ | exact .nil _ _ _
theorem Zpz {X:Cx} {B C:Nat} (hso:∀ b i x,X.S b i→b<X.base→X.cell b i=some x→(B≤b∧b<C)∧Blk X.w b) {t:TypeId} {x y:Value} {u v:V} (hx:Rel X x (.view .old u)) (hy:Rel X y v) (hs:v.solid=true) (hsz:Zqb P t=some v.cells.length) (hl:Zq0 u.cells v.cells) (hpos:0<v.cells.length) :
  ∃ w2,(Instr.storeAt t x y).run P X.w = .ok () w2∧KP B C X.w w2:=by
 obtain ⟨hlen,hget⟩:=Zho hl
 cases hx with
 | view _ _ b off f hc hr =>
  obtain ⟨h1,h2,h3,h4⟩:=hc 0 (by omega);have h2:b<X.base:=h2;obtain ⟨⟨hB,hC⟩,c1,t1,hb⟩:=hso _ _ _ h1 h2 h3
  have hcell:∀ i,i<u.cells.length→c1[off+i]? = some (f i):=fun i hi=>by
   have:=(hc i hi).2.2.1;unfold Cx.cell at this;rwa [Z4g hb] at this
  have hCC:=hy.toC hs;have hlC:=hCC.len
  have hfit:off+y.cells.toList.length≤c1.size:=by
   have:=hcell (u.cells.length-1) (by omega);have:=(Array.getElem?_eq_some_iff.1 this).1;omega
  have hrun:=run_storeCells_at (P:=P) b off t1 y.cells.toList 0 c1 X.w hb (by omega) hCC.one;simp only [Nat.add_zero] at hrun;refine ⟨_,?_,Zgz hb hB hC hfit fun i hi=>?_⟩
  ·have hl2:y.cells.size=v.cells.length:=by simpa using hlC
   simp [Instr.storeAt,Instr.sureAddr,storeVar,Zla hsz,hl2,hrun]
  ·have hi1:i<u.cells.length:=by omega
   have e:=hcell i hi1;obtain ⟨hi2,e⟩:=Array.getElem?_eq_some_iff.1 e;rw [e];exact (hget i hi1 (by omega)).alike (hr i hi1) (hCC.rel i hi (by omega))
def Zp1 (P:Program) (t:TypeId) (p v:V):Prop:=∃ u,p = .view .old u∧v.solid=true∧Zqb P t=some v.cells.length∧Zq0 u.cells v.cells∧0<v.cells.length
theorem AC.store {w:World} {q:Nat} {s:AS} (L':List (Nat × Sh)) (hL':∀ p∈L',p.2.freeT) {id:Nat} {ops:Array Oper} {t ty:TypeId} {p x:Operand} {pos:String} {after:Array Edge} (hd:(ops.all (Z8f n))=true) (hsz:Nat.ble 1 ops.size=true)
  (ho:ops[ops.size-1]? = some ⟨none,.store t p x,ty,pos,after,none⟩)
  (h:Zub P (EK w B C n q) ops (fun s=>Zp1 P t (s.ev (EK w B C n q) p) (s.ev (EK w B C n q) x)∧Zcx L' s.τ) ops.toList.dropLast s)
  (hQ:∀ a w,StK w B C n L' a→KP B C w0 w→Q .normal a w):AC P w0 w B C n q (.region id ops false) Q s:=by
 intro hBC hC hk a w1 hs;refine wp_region (Zaq (fun ch a w h=>(h.no rfl).elim) hd hsz ho rfl hs h ?_);rintro s' a' w' hS ⟨⟨u,hp,hso,hz,hlk,hpos⟩,hsh⟩;obtain ⟨h5,h6⟩:=Zxl hBC hC hS hsh;obtain ⟨X,hX⟩:=hS;have hw:=hX.hw;subst hw;have hbase:X.base=C:=hX.go.le.base;have hpv:=hX.ev p;rw [hp] at hpv;have hsafe:=Zbu hC hX.go
 obtain ⟨w2,hrun,hkp⟩:=Zpz (P:=P) (B:=B) (C:=C) (fun b i x h h' hc=>by
  rw [hbase] at h'
  exact ⟨⟨(hsafe b i x h hc).1 h',h'⟩,(hsafe b i x h hc).2⟩) hpv (hX.ev x) hso hz hlk hpos
 unfold Oper.wp
 have:(execOp a'.eval ⟨none,.store t p x,ty,pos,after,none⟩).run P X.w = .ok .skip w2:=by
  simp only [execOp,Sem.run_bind,hrun,Result.andThen_ok,Sem.run_pure]
 rw [this,Oper.upon_skip];exact hQ _ _ ⟨hBC,Nat.le_trans h5.hC hkp.size,h5.df,h5.sz,fun p hp=>Zwr hkp (hL' p hp) (h5.kd p hp)⟩ (hk.trans (h6.trans hkp))
theorem AK.store (q:Nat) (L':List (Nat × Sh)) (hL':∀ p∈L',p.2.freeT) {id:Nat} {ops:Array Oper} {t ty:TypeId} {p x:Operand} {pos:String} {after:Array Edge} (hd:(ops.all (Z8f n))=true) (hsz:Nat.ble 1 ops.size=true)
  (ho:ops[ops.size-1]? = some ⟨none,.store t p x,ty,pos,after,none⟩)
  (h:∀ w l,ShL L l→Zub P (EK w B C n q) ops (fun s=>Zp1 P t (s.ev (EK w B C n q) p) (s.ev (EK w B C n q) x)∧Zcx L' s.τ) ops.toList.dropLast (st l []))
  (hQ:∀ a w,StK w B C n L' a→KP B C w0 w→Q .normal a w):AK P w0 B C n L (.region id ops false) Q:=by
 intro a w hs hk;obtain ⟨l,h1,h2⟩:=hs.sat q;exact AC.store L' hL' hd hsz ho (h w l h1) hQ hs.hBC hs.hC hk a w h2
end
theorem Zr5 {c:Code} {Q:Exit→Act→World→Prop} (I:Nat→Act→World→Prop) {n:Nat} {a:Act} {w:World} (h0:I n a w)
  (round:∀ n a w,I n a w→c.wp P (fun e a' w'=>(e = .normal∧∃ m,m<n∧I m a' w')∨(e ≠ .normal∧Q e a' w')) a w):(Code.loop c).wp P Q a w:=by
 intro b k cs
 have key:∀ n a w,I n a w→∃ e a' w',Q e a' w'∧Arrives P (lone (b.at a (.code c :: .inLoop c::k)) cs w) b k cs e a' w':=by
  intro n
  induction n using Nat.strongRecOn with
  | _ n ih =>
   intro a w hI;obtain ⟨e,a₁,w₁,hq,harr⟩:=round n a w hI b (.inLoop c::k) cs
   cases e with
   | normal =>
    rcases hq with ⟨_,m,hm,hIm⟩ | ⟨h,_⟩
    ·obtain ⟨e₂,a₂,w₂,hq₂,harr₂⟩:=ih m hm a₁ w₁ hIm
     exact ⟨e₂,a₂,w₂,hq₂,.of_steps (Steps.trans harr (.one step_inLoop)) harr₂⟩
    ·exact absurd rfl h
   | exit id=>exact ⟨_,a₁,w₁,(hq.resolve_left (by rintro ⟨h,_⟩;cases h)).2,.pass (x := .inLoop c) rfl (fun _ _ => .inl (by simp)) harr⟩
   | goto l=>exact ⟨_,a₁,w₁,(hq.resolve_left (by rintro ⟨h,_⟩;cases h)).2,.pass (x := .inLoop c) rfl (fun _ _ => .inl (by simp)) harr⟩
   | ret=>exact ⟨_,a₁,w₁,(hq.resolve_left (by rintro ⟨h,_⟩;cases h)).2,.pass (x := .inLoop c) rfl (fun _ _ => .inl (by simp)) harr⟩
   | panic ch=>exact ⟨_,a₁,w₁,(hq.resolve_left (by rintro ⟨h,_⟩;cases h)).2,.pass (x := .inLoop c) rfl (fun _ _ => .inl (by simp)) harr⟩
   | outgrown=>exact ⟨_,a₁,w₁,(hq.resolve_left (by rintro ⟨h,_⟩;cases h)).2,.pass (x := .inLoop c) rfl (fun _ _ => .inl (by simp)) harr⟩
 obtain ⟨e,a',w',hq,harr⟩:=key n a w h0;exact ⟨e,a',w',hq,.of_steps (.one step_loop) harr⟩
theorem AK.for {w0:World} {B C n:Nat} {Q:Exit→Act→World→Prop} (N:Nat) (S:Nat→List (Nat × Sh)) {c:Code} (k0:Nat) (hk:k0≤N)
  (round:∀ k,k≤N→AK P w0 B C n (S k) c (fun e a w=>match e with | .normal=>k<N∧StK w B C n (S (k+1)) a∧KP B C w0 w | e=>Q e a w)):AK P w0 B C n (S k0) (.loop c) Q:=by
 intro a w hs hkp;refine Zr5 (fun m a w=>∃ k,k≤N∧m=N-k∧StK w B C n (S k) a∧KP B C w0 w) ⟨k0,hk,rfl,hs,hkp⟩ ?_;rintro m a w ⟨k,h1,rfl,h3,h4⟩;refine wp_mono (round k h1 a w h3 h4) ?_;rintro e a' w' h
 cases e with
 | normal=>exact .inl ⟨rfl,N-(k+1),by omega,k+1,by omega,rfl,h.2.1,h.2.2⟩
 | _=>exact .inr ⟨by simp,h⟩
def Spoils (P:Program) (f:FuncId) (shs:List Sh):Prop:=∀ (w:World) (B:Nat) (args:Array Value),B≤w.heap.size→args.size=shs.length→(∀ i (h1:i<args.size) (h2:i<shs.length),Kd w B w.heap.size shs[i] args[i]) →
 Calls P f args w (fun e w'=>e = .returned (.tuple #[])∧KP B w.heap.size w w')
def numb:Nat→List Sh→List (Nat × Sh)
 | _,[]=>[]
 | k,s::r=>(k,s)::numb (k+1) r
theorem Zny:∀ {l:List Sh} {k:Nat} {p:Nat × Sh},p∈numb k l→∃ i,∃ h:i<l.length,p=(k+i,l[i])
 | [],k,p,h=>by simp [numb] at h
 | s::r,k,p,h=>by
  simp only [numb,List.mem_cons] at h
  rcases h with rfl | h
  ·exact ⟨0,by simp,by simp⟩
  ·obtain ⟨i,hi,rfl⟩:=Zny h
   exact ⟨i+1,by simpa using hi,by simp;omega⟩
def doneK (w0:World) (B C:Nat):Exit→Act→World→Prop
 | .normal,a,w | .ret,a,w=>a.defers=[]∧KP B C w0 w
 | _,_,_=>False
theorem Zo5 {f:FuncId} {fn:Func} {c:Code} {shs:List Sh} {n:Nat} (hf:P.funcs[f]? = some fn) (hb:fn.body=some c) (hn:fn.ntmps=n) (hr:fn.results.toList=[]) (hn0:Nat.ble shs.length n=true)
  (h:∀ w0 B C,AK P w0 B C n (numb 0 shs) c (doneK w0 B C)):Spoils P f shs:=by
 intro w B args hB hsz hk;subst hn;have hn0:=Nat.le_of_ble_eq_true hn0;refine calls_of_wp hf hb (wp_mono (h w B w.heap.size { tmps:=args++Array.replicate (fn.ntmps-args.size) undef,defers:=[] } w ⟨hB,Nat.le_refl _,rfl,by simp;omega,fun p hp=>?_⟩ (KP.refl B _ w)) ?_)
 ·obtain ⟨i,hi,rfl⟩:=Zny hp
  have h1:(args++Array.replicate (fn.ntmps-args.size) undef).getD (0+i) undef=args[i]'(by omega):=by
   simp [Array.getD,Array.getElem_append,hsz,hi];intro hh;omega
  rw [h1];exact hk i (by omega) hi
 ·have hres:∀ a:Act,∀ w':World,(results fn a.tmps).run P w' = .ok (.tuple #[]) w':=by
   intro a w'
   have:fn.results = #[]:=by
    have:=congrArg List.toArray hr;simpa using this
   simp [results,this]
  rintro e a' w' he
  cases e with
  | normal=>exact ⟨he.1,_,hres a' w',rfl,he.2⟩
  | ret=>exact ⟨he.1,_,hres a' w',rfl,he.2⟩
  | exit id=>exact he.elim
  | goto l=>exact he.elim
  | panic ch=>exact he.elim
  | outgrown=>exact he.elim
def oldO:List (Nat × AObj)→Prop
 | []=>True
 | p::r=>(match p.2 with | .dead=>True | .mp .. => False | .cells c _ _ cs=>c = .old∧∀ v∈cs,v.Old)∧oldO r
def oldL:List (Nat × V)→Prop
 | []=>True
 | p::r=>p.2.Old∧oldL r
theorem Zly:∀ {l:List (Nat × V)},oldL l→∀ p∈l,p.2.Old
 | [],_,p,hp=>by cases hp
 | q::r,h,p,hp=>by
  cases hp with
  | head=>exact h.1
  | tail _ hp=>exact Zly h.2 p hp
theorem Z2j {α : Type} {τ f:Nat → α} (t:Nat):∀ l:List (Nat × α),(∀ p∈l,f p.1=p.2)→Zob τ l t = τ t∨(Zob τ l t=f t∧∃ p∈l,p.1=t)
 | [],_ => .inl rfl
 | p::r,h=>by
  simp only [Zob,upd]
  split
  ·rename_i e;subst e;exact .inr ⟨(h p (by simp)).symm,p,by simp,rfl⟩
  ·rcases Z2j t r fun q hq=>h q (by simp [hq]) with h1 | ⟨h1,q,hq,h2⟩
   ·exact .inl h1
   ·exact .inr ⟨h1,q,by simp [hq],h2⟩
def ShN:List (Nat × Sh)→List (Nat × V)→Prop
 | [],l=>l=[]
 | p::r,l=>∃ v m,l=(p.1,v)::m∧ShV .new .new p.2 v∧ShN r m
def Z3o:List (Nat × Sh)→(Nat→V)→Prop
 | [],_=>True
 | p::r,τ => ShV .new .new p.2 (τ p.1)∧Z3o r τ
@[go_sem] theorem allShN_nil (τ : Nat→V):Z3o [] τ = True:=rfl
@[go_sem] theorem allShN_cons (p:Nat × Sh) (r:List (Nat × Sh)) (τ : Nat→V):Z3o (p::r) τ = (ShV .new .new p.2 (τ p.1)∧Z3o r τ):=rfl
theorem SatX.spoiltK {X:Cx} {s:AS} {a:Act} {w w':World} {B:Nat} (hX:SatX E X s a w) (hb:E.X0.base=E.X0.w.heap.size) (hI0:Inv E.X0 E.H0) (hB:B=E.X0.base) (hkp:KP B w.heap.size w w') (l:List (Nat × V)) (m:List (Nat × AObj)) (ks:List (Nat × Sh))
  (hl:oldL l) (hm:oldO m) (hfr:∀ p∈ks,p.2.free) (hel:Z5o s.τ l) (heo:Z5o s.H m) (hks:Z3o ks s.τ) (hG:∀ g,(E.G g).Old) (hdf:E.df=[]):∃ lk,ShN ks lk∧Sat E ⟨Zob (Zob emp l) lk,Zob Zl m⟩ a w':=by
 have hw:=hX.hw;subst hw;have hg:=hX.go;have hbase:X.base=E.X0.base:=hg.le.base
 have hbw:E.X0.base≤X.w.heap.size:=by rw [← hbase];exact hg.inv.bw
 have hblk:∀ k,k<E.X0.base→w'.heap[k]? = X.w.heap[k]? := fun k hk=>hkp.old k (by omega) (.inl (by omega));have hsz:=hkp.size;have hos:=hkp.os;have htp:=hkp.tape;have hout:=hkp.output
 let Y:Cx:={ X with S:=fun b i=>(X.S b i∧b<X.base)∨(X.base≤b∧Blk w' b∧∃ x,w'.cell? ⟨b,i,none⟩=some x),w:=w' }
 have hcell:∀ b i x,b<X.base→X.cell b i=some x→Y.cell b i=some x:=by
  intro b i x hlt hc
  show w'.cell? ⟨b,i,none⟩=some x
  rw [World.cell?_of_block (w:=X.w) (a:=⟨b,i,none⟩) (hblk b (by rw [← hbase];exact hlt))];exact hc
 have hrel:∀ x v,Rel X x v→v.Old→Rel Y x v:=fun x v hr ho=>hr.old (X:=X) (Y:=Y) (fun _ _ h1 h2 => .inl ⟨h1,h2⟩) (fun _ _ _ h=>h) rfl hcell ho
 have hY:AllSafe Y w' B w'.heap.size .new .new:=⟨rfl,fun hd b i x hz hbk hc=>by
  have hlt:=World.block_lt_of_cell? _ _ hc
  have h1:B≤b:=by
   cases hd with
   | false=>exact hz.1
   | true =>
    have:w'.heap.size≤b:=hz;have hlt:b<w'.heap.size:=hlt;omega
  have h1:X.base≤b:=by omega
  refine ⟨.inr ⟨h1,hbk,x,hc⟩,?_⟩
  cases hd<;>exact h1⟩
 have hold:∀ {m:List (Nat × AObj)},oldO m→∀ p∈m,(match p.2 with | .dead=>True | .mp .. => False | .cells c _ _ cs=>c = .old∧∀ v∈cs,v.Old):=by
  intro m
  induction m with
  | nil=>intro _ p hp;cases hp
  | cons q r ih =>
   intro h p hp
   cases hp with
   | head=>exact h.1
   | tail _ hp=>exact ih h.2 p hp
 have hobj:∀ o c g fz cs,Zob Zl m o = .cells c g fz cs→s.H o = .cells .old g fz cs∧c = .old∧∀ v∈cs,v.Old:=by
  intro o c g fz cs ho
  rcases Z2j (τ := Zl) (f:=s.H) o m (Zsd heo) with h1 | ⟨h1,p,hp,rfl⟩
  ·rw [h1] at ho;simp [Zl] at ho
  ·have e:=Zsd heo p hp
   have hh:=hold hm p hp;rw [h1,e] at ho;rw [ho] at hh;obtain ⟨rfl,hcs⟩:=hh;exact ⟨e.trans ho,rfl,hcs⟩
 have hgo:Goes E.X0 E.H0 Y (Zob Zl m):=by
  refine ⟨⟨?_,?_,?_,hg.inv.fin,?_,?_,?_⟩,⟨hg.le.β,?_,?_,hg.le.base,?_,?_⟩,⟨hos.trans hg.kp.os,htp.trans hg.kp.tape,hout.trans hg.kp.output,Nat.le_trans hg.kp.size hsz,?_⟩,?_,?_⟩
  ·intro o c g fz cs ho
   obtain ⟨h1,rfl,h3⟩:=hobj _ _ _ _ _ ho;obtain ⟨b,bs,h4,h5,c',t,h6,h7,h8⟩:=hg.inv.obj o .old g fz cs h1;have h5:b<X.base:=h5;refine ⟨b,bs,h4,h5,c',t,?_,h7,h8.len,h8.one,fun i k1 k2=>hrel _ _ (h8.rel i k1 k2) (h3 _ (List.getElem_mem k2))⟩
   show w'.heap[b]? = _
   rw [hblk b (by rw [← hbase];exact h5)];exact h6
  ·intro o1 c1 g1 f1 l1 o2 c2 g2 f2 l2 b s1 s2 h1 h2 b1 b2
   exact hg.inv.inj _ _ _ _ _ _ _ _ _ _ _ _ _ (hobj _ _ _ _ _ h1).1 (hobj _ _ _ _ _ h2).1 b1 b2
  ·intro b i hs
   refine ⟨?_,fun o c g fz cs bs ho hβ => ?_⟩
   ·rcases hs with ⟨hs,_⟩ | ⟨_,_,x,hx⟩
    ·exact Nat.lt_of_lt_of_le (hg.inv.safe b i hs).1 hsz
    ·exact World.block_lt_of_cell? _ _ hx
   ·have h1:=(hobj _ _ _ _ _ ho).1
    rcases hs with ⟨hs,_⟩ | ⟨hb2,_⟩
    ·exact (hg.inv.safe b i hs).2 _ _ _ _ _ _ h1 hβ
    ·obtain ⟨b',bs',h4,h5,_⟩:=hg.inv.obj o .old g fz cs h1
     rw [show Y.β o g=X.β o g from rfl,h4] at hβ;have e:=congrArg Prod.fst (Option.some.inj hβ);have e:b'=b:=e;have h5:b'<X.base:=h5;omega
  ·exact Nat.le_trans hg.inv.bw hsz
  ·intro b i hs hb2
   have hb2:X.base≤b:=hb2
   rcases hs with ⟨_,h⟩ | ⟨_,h,_⟩
   ·omega
   ·exact .inl h
  ·refine .no fun o lo b ks vs ho=>?_
   rcases Z2j (τ := Zl) (f:=s.H) o m (Zsd heo) with h1 | ⟨h1,p,hp,rfl⟩
   ·rw [h1] at ho;simp [Zl] at ho
   ·have e:=Zsd heo p hp
    have hh:=hold hm p hp;rw [h1,e] at ho;rw [ho] at hh;exact hh
  ·intro b i hs
   exact .inl ⟨hg.le.S b i hs,by rw [hbase,hb];exact (hI0.safe b i hs).1⟩
  ·intro b i x hs hc
   exact hcell b i x (by rw [hbase,hb];exact (hI0.safe b i hs).1) (hg.le.cell b i x hs hc)
  ·intro b c t hbb
   have hlt:b<E.X0.w.heap.size:=by rw [Array.getElem?_eq_some_iff] at hbb;exact hbb.1
   obtain ⟨c',h1,h2⟩:=hg.le.blk b c t hbb;refine ⟨c',?_,h2⟩
   show w'.heap[b]? = _
   rw [hblk b (by rw [hb];exact hlt)];exact h1
  ·intro b es n hss hbb
   have hlt:b<E.X0.w.heap.size:=by rw [Array.getElem?_eq_some_iff] at hbb;exact hbb.1
   show w'.heap[b]? = _
   rw [hblk b (by rw [hb];exact hlt)];exact hg.le.map b es n hss hbb
  ·intro k hk hl
   show w'.heap[k]? = _
   rw [hblk k (by rw [hb];exact hk)];exact hg.kp.block k hk hl
  ·rintro b i (⟨hs,_⟩ | ⟨hs,_⟩)
   ·exact hg.Sn b i hs
   ·have h1:=hb
    exact .inr (.inl (by omega))
  ·rintro b ⟨o,c,g,fz,cs,bs,ho,hβ⟩
   exact hg.on b ⟨o,.old,g,fz,cs,bs,(hobj _ _ _ _ _ ho).1,hβ⟩
 have hvals:∀ (ks:List (Nat × Sh)),(∀ p∈ks,p.2.free)→Z3o ks s.τ → ∃ lk,ShN ks lk∧∀ t,Rel Y (a.tmps.getD t undef) (Zob (Zob emp l) lk t):=by
  intro ks
  induction ks with
  | nil =>
   intro _ _;refine ⟨[],rfl,fun t=>?_⟩
   show Rel Y _ (Zob emp l t)
   rcases Z2j (τ := emp) (f:=s.τ) t l (Zsd hel) with h1 | ⟨h1,p,hp,rfl⟩
   ·rw [h1];exact .top _
   ·rw [h1]
    refine hrel _ _ (hX.tm _) ?_;rw [Zsd hel p hp];exact Zly hl p hp
  | cons p r ih =>
   intro hfr hks;obtain ⟨lk,h1,h2⟩:=ih (fun q hq=>hfr q (by simp [hq])) hks.2
   have hk0:Kd X.w B X.w.heap.size p.2 (a.tmps.getD p.1 undef):=Zgg (cs := .new) (ch := .new) (fun b i x h h' hc=>by
    have h':X.base≤b:=h'
    exact ⟨⟨by omega,World.block_lt_of_cell? _ _ hc⟩,hg.inv.thawC h h' hc⟩) (.inr (hfr p (by simp))) (hX.tm p.1) hks.1
   have hk1:=Zwg hkp (hfr p (by simp)) (.refl _) hk0;have hk2:Kd w' B w'.heap.size p.2 (a.tmps.getD p.1 undef):=Zxr hsz (hfr p (by simp)) hk1;obtain ⟨v,h3,h4⟩:=Zdg hY hk2;refine ⟨(p.1,v)::lk,⟨v,lk,rfl,h4,h1⟩,fun t=>?_⟩;simp only [Zob,upd]
   split
   ·rename_i e;subst e;exact h3
   ·exact h2 t
 obtain ⟨lk,h1,h2⟩:=hvals ks hfr hks;exact ⟨lk,h1,Y,rfl,hgo,(by have hdn:DefR X a.defers []:=hdf ▸ hX.df;rw [hdf,hdn.nil];exact .none _),hX.sz,h2,fun g=>⟨hrel _ _ (hX.gl g).rel (hG g),(hX.gl g).sz.old (hG g) rfl fun k hk=>hblk k (by rw [← hbase];exact hk)⟩⟩
def recT (f:Col→Col) (τ : Nat→V):Nat→V:=fun t=>(τ t).recol f
def recH (f:Col→Col) (H:Heap):Heap:=fun o=>(H o).recol f
@[go_sem] theorem recT_upd (f:Col→Col) (τ : Nat→V) (k:Nat) (v:V):recT f (upd τ k v)=upd (recT f τ) k (v.recol f):=by
 funext t
 simp only [recT,upd]
 split<;>rfl
@[go_sem] theorem recT_emp (f:Col→Col):recT f emp=emp:=rfl
@[go_sem] theorem recH_none (f:Col→Col):recH f Zl=Zl:=rfl
@[go_sem] theorem ent_mk (τ : Nat→V) (H:Heap):AS.ent ⟨τ,H⟩=⟨recT Col.ent τ,recH Col.ent H⟩:=rfl
@[go_sem] theorem bk_mk (τ : Nat→V) (H:Heap):AS.bk ⟨τ,H⟩=⟨recT Col.bk τ,recH Col.bk H⟩:=rfl
@[go_sem] theorem allEq2 (p:Nat × V) (r:List (Nat × V)):oldL (p::r)=(p.2.Old∧oldL r):=rfl
@[go_sem] theorem oldL_nil:oldL []=True:=rfl
@[go_sem] theorem oldO_nil:oldO []=True:=rfl
theorem Rel.ofW_old {W:World} {x:Value} {v:V} (h:Rel (Z7b W) x v):Rel (Z7b W) x (v.recol fun _ => .old) :=
 h.conv (X:=Z7b W) (Y:=Z7b W) (fun _ => .old) (fun _ _ h=>h) (fun _ _ _ _ h=>h) ⟨fun _ c _ h=>⟨c,h,rfl⟩,fun _ _ _ _ h=>h⟩ (fun _ b hb _=>hb) (.inl fun _ _ _ h=>h)
end
end Go.Hs
end
