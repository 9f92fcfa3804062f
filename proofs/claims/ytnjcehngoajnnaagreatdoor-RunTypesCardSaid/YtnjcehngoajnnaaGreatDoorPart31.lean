/- Part 31 of the proof of a statement of seat YtnjcehngoajnnaaGreatDoor: HsSpoil2. -/
import Derived.Test.YtnjcehngoajnnaaGreatDoorPart29
import Derived.Test.YtnjcehngoajnnaaGreatDoorPart30
set_option linter.unusedSimpArgs false
set_option linter.unusedVariables false
section
namespace Go.Hs
variable {P:Program} {E:Ent}
theorem Zqf {ops:Array Oper} {Q:AS→Prop} {R:Exit→Act→World→Prop} {tail:List Nat} (hP:∀ ch a w,Pan E ch a w→R (.panic ch) a w) (hR:∀ s a w,Sat E s a w→Q s→wpOps P ops R tail a w) (hd:(ops.all (Ztd E.n))=true):∀ (l:List Oper) (k:Nat) (s:AS) (a:Act) (w:World),Sat E s a w→(∀ j,j<l.length→l[j]? = ops[k+j]?)→Zpa P E ops Q l s →
  wpOps P ops R ((List.range l.length).map (k + ·)++tail) a w
 | [],k,s,a,w,hs,_,h=>by
  simp only [List.length_nil,List.range_zero,List.map_nil,List.nil_append];exact hR s a w hs h
 | o::rest,k,s,a,w,⟨X,hX⟩,hl,h=>by
  have hk:ops[k]? = some o:=by have:=hl 0 (by simp);simpa using this.symm
  have hl':∀ j,j<rest.length→rest[j]? = ops[k+1+j]? := fun j hj=>by have:=hl (j+1) (by simpa using hj);rw [show k+1+j=k+(j+1) by omega];simpa using this
  have hmem:∀ (o':Oper) d,o'∈ops→o'.dst=some d→d<E.n:=by
   intro o' d ho hdst;rw [Array.all_eq_true'] at hd;have:=hd o' ho;unfold Ztd at this;rw [hdst] at this;simpa using this
  have hko:o∈ops:=by rw [Array.getElem?_eq_some_iff] at hk;obtain ⟨hlt,rfl⟩:=hk;exact Array.getElem_mem hlt
  have hrange:(List.range (o::rest).length).map (k + ·)++tail=k::((List.range rest.length).map (k+1 + ·)++tail):=by
   simp only [List.length_cons,List.range_succ_eq_map,List.map_cons,Nat.add_zero,List.map_map,List.cons_append]
   congr 2
   apply List.map_congr_left;intro j _;simp;omega
  rw [hrange];simp only [wpOps,hk];simp only [Zpa] at h
  cases hwa:Zx ops s.τ o with
  | none=>rw [hwa] at h;exact h.elim
  | some b =>
   have hb:=Zof hX hwa hmem;rw [hwa] at h;rw [hb]
   cases b with
   | true =>
    simp only [if_true] at h ⊢;refine .inl ?_;refine Oper.wp_mono ?_ (Zmi hX (fun d hdst=>hmem o d hko hdst) h hP);rintro a' w' ⟨v,H',hk',hs'⟩;exact Zqf hP hR hd rest (k+1) _ _ _ hs' hl' hk'
   | false =>
    simp only [Bool.false_eq_true,if_false] at h ⊢;refine Zqf hP hR hd rest (k+1) _ _ _ ⟨X,?_⟩ hl' h;have:=hX.step (Goes.refl hX.go.inv) (dst:=o.dst) (c:=undef) (v := .tuple []) (.tuple #[] [] rfl (fun i h1 h2=>by simp at h2)) (fun d hdst=>hmem o d hko hdst);rw [hX.hw] at this;exact this
theorem Zfz {ops:Array Oper} {Q:AS→Prop} {R:Exit→Act→World→Prop} {s:AS} {a:Act} {w:World} {o:Oper} (hP:∀ ch a w,Pan E ch a w→R (.panic ch) a w) (hd:(ops.all (Ztd E.n))=true) (hsz:Nat.ble 1 ops.size=true) (ho:ops[ops.size-1]? = some o) (hg:o.guard=none) (hs:Sat E s a w)
  (h:Zpa P E ops Q ops.toList.dropLast s) (hR:∀ s a w,Sat E s a w→Q s→o.wp P a w (R .normal) R):wpOps P ops R (List.range ops.size) a w:=by
 have hsz:=Nat.le_of_ble_eq_true hsz
 have:=Zqf (P:=P) (E:=E) (R:=R) (tail:=[ops.size-1]) (Q:=Q) hP (fun s a w h1 h2=>by
  simp only [wpOps,ho]
  have:Region.wanted o (yielded ops a.tmps)=true:=by simp [Region.wanted,hg]
  rw [this];simp only [if_true]
  exact .inl (Oper.wp_mono (fun _ _ h=>h) (hR s a w h1 h2))) hd ops.toList.dropLast 0 s a w hs (fun j hj=>by
   rw [List.getElem?_dropLast];simp at hj;rw [if_pos (by simp;omega)]
   simp) h
 have e:List.range ops.size=(List.range ops.toList.dropLast.length).map (0 + ·)++[ops.size-1]:=by
  simp only [List.length_dropLast,Array.length_toList,Nat.zero_add,List.map_id'];rw [← List.range_succ]
  congr 1
  omega
 rw [e];exact this
structure StK (w:World) (B C n:Nat) (L:List (Nat × Sh)) (a:Act):Prop where
 hBC:B≤C
 hC:C≤w.heap.size
 df:a.defers=[]
 sz:a.tmps.size=n
 kd:∀ p∈L,Kd w B C p.2 (a.tmps.getD p.1 undef)
def EK (w:World) (B C n q:Nat):Ent:=⟨Xk w B C,Zk,n,q,fun _ => .top,none,[]⟩
def ShL:List (Nat × Sh)→List (Nat × V)→Prop
 | [],l=>l=[]
 | p::r,l=>∃ v m,l=(p.1,v)::m∧ShV .old .new p.2 v∧ShL r m
def Zc4:List (Nat × Sh)→(Nat→V)→Prop
 | [],_=>True
 | p::r,τ => ShV .old .new p.2 (τ p.1)∧Zc4 r τ
theorem Zpt {τ : Nat→V}:∀ {L:List (Nat × Sh)},Zc4 L τ → ∀ p∈L,ShV .old .new p.2 (τ p.1)
 | [],_,p,hp=>by cases hp
 | q::r,h,p,hp=>by
  cases hp with
  | head=>exact h.1
  | tail _ hp=>exact Zpt h.2 p hp
theorem Zpy {w:World} {B C:Nat} (hBC:B≤C) {a:Act}:∀ {L:List (Nat × Sh)},(∀ p∈L,Kd w B C p.2 (a.tmps.getD p.1 undef))→∃ l,ShL L l∧∀ t,Rel (Xk w B C) (a.tmps.getD t undef) (Zha emp l t)
 | [],_=>⟨[],rfl,fun t => .top _⟩
 | p::r,h=>by
  obtain ⟨m,h1,h2⟩:=Zpy hBC (L:=r) fun q hq=>h q (by simp [hq]);obtain ⟨v,h3,h4⟩:=Z8f (Xk.all hBC) (h p (by simp));refine ⟨(p.1,v)::m,⟨v,m,rfl,h4,h1⟩,fun t=>?_⟩;simp only [Zha,upd]
  split
  ·rename_i e;subst e;exact h3
  ·exact h2 t
theorem StK.sat {w:World} {B C n:Nat} {L:List (Nat × Sh)} {a:Act} (h:StK w B C n L a) (q:Nat):∃ l,ShL L l∧Sat (EK w B C n q) (st l []) a w:=by
 obtain ⟨l,h1,h2⟩:=Zpy h.hBC h.kd;exact ⟨l,h1,Xk w B C,rfl,Goes.refl (Xk.inv h.hC),(by rw [h.df];exact .none _),h.sz,h2,fun g=>⟨.top _,trivial⟩⟩
theorem Zz0 {w w':World} {B C n q:Nat} {L:List (Nat × Sh)} {s:AS} {a':Act} (hBC:B≤C) (hC:C≤w.heap.size) (h:Sat (EK w B C n q) s a' w') (hL:Zc4 L s.τ):StK w' B C n L a'∧KP B C w w':=by
 obtain ⟨X,hX⟩:=h;have hg:=hX.go;have hkp:KP B C w X.w:=Zzo hg;have hbase:X.base=C:=hg.le.base;have hsafe:=Z7s hC hg;have hw:=hX.hw;subst hw;refine ⟨⟨hBC,Nat.le_trans hC hkp.size,(show DefR X a'.defers [] from hX.df).nil,hX.sz,fun p hp=>?_⟩,hkp⟩;refine Zmg (X:=X) (cs := .old) (ch := .new) (fun b i x hs hc hcc=>?_) (.inl fun b i x hs hc hcc=>?_) (hX.tm p.1) (Zpt hL p hp)
 ·have hc:b<X.base:=hc
  rw [hbase] at hc;exact ⟨⟨(hsafe b i x hs hcc).1 hc,hc⟩,(hsafe b i x hs hcc).2⟩
 ·have hc:X.base≤b:=hc
  rw [hbase] at hc;exact ⟨hc,(hsafe b i x hs hcc).2⟩
def AK (P:Program) (w0:World) (B C n:Nat) (L:List (Nat × Sh)) (c:Code) (Q:Exit→Act→World→Prop):Prop:=∀ a w,StK w B C n L a→KP B C w0 w→c.wp P Q a w
def AC (P:Program) (w0 w:World) (B C n q:Nat) (c:Code) (Q:Exit→Act→World→Prop) (s:AS):Prop:=B≤C→C≤w.heap.size→KP B C w0 w→∀ a w',Sat (EK w B C n q) s a w'→c.wp P Q a w'
def leave (w0 w:World) (B C n q:Nat) (Q:Exit→Act→World→Prop) (e:Exit) (s:AS):Prop:=B≤C→C≤w.heap.size→KP B C w0 w→∀ a w',Sat (EK w B C n q) s a w'→Q e a w'
section
variable {w0:World} {B C n:Nat} {L:List (Nat × Sh)} {Q:Exit→Act→World→Prop}
def preQ (P:Program) (w0 w:World) (B C n q:Nat) (y:Code) (Q:Exit→Act→World→Prop):Exit→AS→Prop
 | .normal,s=>AC P w0 w B C n q y Q s
 | e,s=>leave w0 w B C n q Q e s
theorem AK.pre (q:Nat) {x y:Code} (h:∀ w l,ShL L l→AW P (EK w B C n q) x (preQ P w0 w B C n q y Q) (st l [])):AK P w0 B C n L (.seq x y) Q:=by
 intro a w hs hk;obtain ⟨l,h1,h2⟩:=hs.sat q;refine wp_seq (wp_mono (h w l h1 a w h2) ?_);rintro e a' w' (⟨s',h3,h4⟩ | ⟨ch,rfl,hp⟩)
 ·cases e<;>exact h4 hs.hBC hs.hC hk a' w' h3
 ·exact (hp.no rfl).elim
theorem AK.all (q:Nat) {x:Code} (h:∀ w l,ShL L l→AW P (EK w B C n q) x (fun e s=>leave w0 w B C n q Q e s) (st l [])):AK P w0 B C n L x Q:=by
 intro a w hs hk;obtain ⟨l,h1,h2⟩:=hs.sat q;refine wp_mono (h w l h1 a w h2) ?_;rintro e a' w' (⟨s',h3,h4⟩ | ⟨ch,rfl,hp⟩)
 ·exact h4 hs.hBC hs.hC hk a' w' h3
 ·exact (hp.no rfl).elim
theorem leave.weak {w:World} {q:Nat} {e:Exit} {s s':AS} (hw:Weak (EK w B C n q) s s') (h:leave w0 w B C n q Q e s'):leave w0 w B C n q Q e s :=
 fun hBC hC hk a w' hS=>h hBC hC hk a w' (hw _ _ hS)
theorem AC.weak {w:World} {q:Nat} {c:Code} {s s':AS} (hw:Weak (EK w B C n q) s s') (h:AC P w0 w B C n q c Q s'):AC P w0 w B C n q c Q s :=
 fun hBC hC hk a w' hS=>h hBC hC hk a w' (hw _ _ hS)
theorem AC.block {w:World} {q id:Nat} {c:Code} {s:AS} (h:AC P w0 w B C n q c (Exit.inBlock id Q) s):AC P w0 w B C n q (.block id c) Q s:=fun a b c' d w' hS=>wp_block (h a b c' d w' hS)
theorem AK.block {id:Nat} {c:Code} (h:AK P w0 B C n L c (Exit.inBlock id Q)):AK P w0 B C n L (.block id c) Q:=fun a w h1 h2=>wp_block (h a w h1 h2)
def likeV:V→V→Prop
 | .int k _,.int k' _=>k=k'
 | .str _,.str _=>True
 | .nils,.nils=>True
 | .slice _ _ _ _,.nils=>True
 | _,_=>False
def Zj6:List V→List V→Prop
 | [],[]=>True
 | u::r,v::t=>likeV u v∧Zj6 r t
 | _,_=>False
theorem Z1s:∀ {l m:List V},Zj6 l m→l.length=m.length∧∀ i (h1:i<l.length) (h2:i<m.length),likeV l[i] m[i]
 | [],[],_=>⟨rfl,fun i h1=>by simp at h1⟩
 | [],_::_,h=>h.elim
 | _::_,[],h=>h.elim
 | a::l,b::m,h=>by
  obtain ⟨h1,h2⟩:=Z1s h.2;refine ⟨by simp [h1],fun i k1 k2=>?_⟩
  cases i with
  | zero=>exact h.1
  | succ i=>exact h2 i (by simpa using k1) (by simpa using k2)
theorem likeV.alike {X Y:Cx} {x y:Value} {u v:V} (h:likeV u v) (hx:Rel X x u) (hy:Rel Y y v):Alike x y:=by
 cases hx<;>cases hy<;>simp only [likeV] at h<;>first | exact h.elim | (subst h;exact .int _ _ _) | exact .str _ _ | exact .nil _ _ _
theorem Z3y {X:Cx} {B C:Nat} (hso:∀ b i x,X.S b i→b<X.base→X.cell b i=some x→(B≤b∧b<C)∧Blk X.w b) {t:TypeId} {x y:Value} {u v:V} (hx:Rel X x (.view .old u)) (hy:Rel X y v) (hs:v.solid=true) (hsz:Zqb P t=some v.cells.length) (hl:Zj6 u.cells v.cells) (hpos:0<v.cells.length) :
  ∃ w2,(Instr.storeAt t x y).run P X.w = .ok () w2∧KP B C X.w w2:=by
 obtain ⟨hlen,hget⟩:=Z1s hl
 cases hx with
 | view _ _ b off f hc hr =>
  obtain ⟨h1,h2,h3,h4⟩:=hc 0 (by omega);have h2:b<X.base:=h2;obtain ⟨⟨hB,hC⟩,c1,t1,hb⟩:=hso _ _ _ h1 h2 h3
  have hcell:∀ i,i<u.cells.length→c1[off+i]? = some (f i):=fun i hi=>by
   have:=(hc i hi).2.2.1;unfold Cx.cell at this;rwa [Z8h hb] at this
  have hCC:=hy.toC hs;have hlC:=hCC.len
  have hfit:off+y.cells.toList.length≤c1.size:=by
   have:=hcell (u.cells.length-1) (by omega);have:=(Array.getElem?_eq_some_iff.1 this).1;omega
  have hrun:=run_storeCells_at (P:=P) b off t1 y.cells.toList 0 c1 X.w hb (by omega) hCC.one;simp only [Nat.add_zero] at hrun;refine ⟨_,?_,Zj7 hb hB hC hfit fun i hi=>?_⟩
  ·have hl2:y.cells.size=v.cells.length:=by simpa using hlC
   simp [Instr.storeAt,Instr.sureAddr,storeVar,Z7 hsz,hl2,hrun]
  ·have hi1:i<u.cells.length:=by omega
   have e:=hcell i hi1;obtain ⟨hi2,e⟩:=Array.getElem?_eq_some_iff.1 e;rw [e];exact (hget i hi1 (by omega)).alike (hr i hi1) (hCC.rel i hi (by omega))
def Z80 (P:Program) (t:TypeId) (p v:V):Prop:=∃ u,p = .view .old u∧v.solid=true∧Zqb P t=some v.cells.length∧Zj6 u.cells v.cells∧0<v.cells.length
theorem AC.store {w:World} {q:Nat} {s:AS} (L':List (Nat × Sh)) (hL':∀ p∈L',p.2.freeT) {id:Nat} {ops:Array Oper} {t ty:TypeId} {p x:Operand} {pos:String} {after:Array Edge} (hd:(ops.all (Ztd n))=true) (hsz:Nat.ble 1 ops.size=true)
  (ho:ops[ops.size-1]? = some ⟨none,.store t p x,ty,pos,after,none⟩)
  (h:Zpa P (EK w B C n q) ops (fun s=>Z80 P t (s.ev (EK w B C n q) p) (s.ev (EK w B C n q) x)∧Zc4 L' s.τ) ops.toList.dropLast s)
  (hQ:∀ a w,StK w B C n L' a→KP B C w0 w→Q .normal a w):AC P w0 w B C n q (.region id ops false) Q s:=by
 intro hBC hC hk a w1 hs;refine wp_region (Zfz (fun ch a w h=>(h.no rfl).elim) hd hsz ho rfl hs h ?_);rintro s' a' w' hS ⟨⟨u,hp,hso,hz,hlk,hpos⟩,hsh⟩;obtain ⟨h5,h6⟩:=Zz0 hBC hC hS hsh;obtain ⟨X,hX⟩:=hS;have hw:=hX.hw;subst hw;have hbase:X.base=C:=hX.go.le.base;have hpv:=hX.ev p;rw [hp] at hpv;have hsafe:=Z7s hC hX.go
 obtain ⟨w2,hrun,hkp⟩:=Z3y (P:=P) (B:=B) (C:=C) (fun b i x h h' hc=>by
  rw [hbase] at h'
  exact ⟨⟨(hsafe b i x h hc).1 h',h'⟩,(hsafe b i x h hc).2⟩) hpv (hX.ev x) hso hz hlk hpos
 unfold Oper.wp
 have:(execOp a'.eval ⟨none,.store t p x,ty,pos,after,none⟩).run P X.w = .ok .skip w2:=by
  simp only [execOp,Sem.run_bind,hrun,Result.andThen_ok,Sem.run_pure]
 rw [this,Oper.upon_skip];exact hQ _ _ ⟨hBC,Nat.le_trans h5.hC hkp.size,h5.df,h5.sz,fun p hp=>Zrp hkp (hL' p hp) (h5.kd p hp)⟩ (hk.trans (h6.trans hkp))
theorem AK.store (q:Nat) (L':List (Nat × Sh)) (hL':∀ p∈L',p.2.freeT) {id:Nat} {ops:Array Oper} {t ty:TypeId} {p x:Operand} {pos:String} {after:Array Edge} (hd:(ops.all (Ztd n))=true) (hsz:Nat.ble 1 ops.size=true)
  (ho:ops[ops.size-1]? = some ⟨none,.store t p x,ty,pos,after,none⟩)
  (h:∀ w l,ShL L l→Zpa P (EK w B C n q) ops (fun s=>Z80 P t (s.ev (EK w B C n q) p) (s.ev (EK w B C n q) x)∧Zc4 L' s.τ) ops.toList.dropLast (st l []))
  (hQ:∀ a w,StK w B C n L' a→KP B C w0 w→Q .normal a w):AK P w0 B C n L (.region id ops false) Q:=by
 intro a w hs hk;obtain ⟨l,h1,h2⟩:=hs.sat q;exact AC.store L' hL' hd hsz ho (h w l h1) hQ hs.hBC hs.hC hk a w h2
end
theorem Z34 {c:Code} {Q:Exit→Act→World→Prop} (I:Nat→Act→World→Prop) {n:Nat} {a:Act} {w:World} (h0:I n a w)
  (round:∀ n a w,I n a w→c.wp P (fun e a' w'=>(e = .normal∧∃ m,m<n∧I m a' w')∨(e ≠ .normal∧Q e a' w')) a w):(Code.loop c).wp P Q a w:=by
 intro b k cs
 have key:∀ n a w,I n a w→∃ e a' w',Q e a' w'∧Arrives P (lone (b.at a (.code c :: .inLoop c::k)) cs w) b k cs e a' w':=by
  intro n
  induction n using Nat.strongRecOn with
  | _ n ih =>
   intro a w hI;obtain ⟨e,a₁,w₁,hq,harr⟩:=round n a w hI b (.inLoop c::k) cs
   cases e with
   | normal =>
    rcases hq with ⟨_,m,hm,hIm⟩ | ⟨h,_⟩
    ·obtain ⟨e₂,a₂,w₂,hq₂,harr₂⟩:=ih m hm a₁ w₁ hIm
     exact ⟨e₂,a₂,w₂,hq₂,.of_steps (Steps.trans harr (.one step_inLoop)) harr₂⟩
    ·exact absurd rfl h
   | exit id=>exact ⟨_,a₁,w₁,(hq.resolve_left (by rintro ⟨h,_⟩;cases h)).2,.pass (x := .inLoop c) rfl (fun _ _ => .inl (by simp)) harr⟩
   | goto l=>exact ⟨_,a₁,w₁,(hq.resolve_left (by rintro ⟨h,_⟩;cases h)).2,.pass (x := .inLoop c) rfl (fun _ _ => .inl (by simp)) harr⟩
   | ret=>exact ⟨_,a₁,w₁,(hq.resolve_left (by rintro ⟨h,_⟩;cases h)).2,.pass (x := .inLoop c) rfl (fun _ _ => .inl (by simp)) harr⟩
   | panic ch=>exact ⟨_,a₁,w₁,(hq.resolve_left (by rintro ⟨h,_⟩;cases h)).2,.pass (x := .inLoop c) rfl (fun _ _ => .inl (by simp)) harr⟩
   | outgrown=>exact ⟨_,a₁,w₁,(hq.resolve_left (by rintro ⟨h,_⟩;cases h)).2,.pass (x := .inLoop c) rfl (fun _ _ => .inl (by simp)) harr⟩
 obtain ⟨e,a',w',hq,harr⟩:=key n a w h0;exact ⟨e,a',w',hq,.of_steps (.one step_loop) harr⟩
theorem AK.for {w0:World} {B C n:Nat} {Q:Exit→Act→World→Prop} (N:Nat) (S:Nat→List (Nat × Sh)) {c:Code} (k0:Nat) (hk:k0≤N)
  (round:∀ k,k≤N→AK P w0 B C n (S k) c (fun e a w=>match e with | .normal=>k<N∧StK w B C n (S (k+1)) a∧KP B C w0 w | e=>Q e a w)):AK P w0 B C n (S k0) (.loop c) Q:=by
 intro a w hs hkp;refine Z34 (fun m a w=>∃ k,k≤N∧m=N-k∧StK w B C n (S k) a∧KP B C w0 w) ⟨k0,hk,rfl,hs,hkp⟩ ?_;rintro m a w ⟨k,h1,rfl,h3,h4⟩;refine wp_mono (round k h1 a w h3 h4) ?_;rintro e a' w' h
 cases e with
 | normal=>exact .inl ⟨rfl,N-(k+1),by omega,k+1,by omega,rfl,h.2.1,h.2.2⟩
 | _=>exact .inr ⟨by simp,h⟩
def Spoils (P:Program) (f:FuncId) (shs:List Sh):Prop:=∀ (w:World) (B:Nat) (args:Array Value),B≤w.heap.size→args.size=shs.length→(∀ i (h1:i<args.size) (h2:i<shs.length),Kd w B w.heap.size shs[i] args[i]) →
 Calls P f args w (fun e w'=>e = .returned (.tuple #[])∧KP B w.heap.size w w')
def numb:Nat→List Sh→List (Nat × Sh)
 | _,[]=>[]
 | k,s::r=>(k,s)::numb (k+1) r
theorem Zyx:∀ {l:List Sh} {k:Nat} {p:Nat × Sh},p∈numb k l→∃ i,∃ h:i<l.length,p=(k+i,l[i])
 | [],k,p,h=>by simp [numb] at h
 | s::r,k,p,h=>by
  simp only [numb,List.mem_cons] at h
  rcases h with rfl | h
  ·exact ⟨0,by simp,by simp⟩
  ·obtain ⟨i,hi,rfl⟩:=Zyx h
   exact ⟨i+1,by simpa using hi,by simp;omega⟩
def doneK (w0:World) (B C:Nat):Exit→Act→World→Prop
 | .normal,a,w | .ret,a,w=>a.defers=[]∧KP B C w0 w
 | _,_,_=>False
theorem Z24 {f:FuncId} {fn:Func} {c:Code} {shs:List Sh} {n:Nat} (hf:P.funcs[f]? = some fn) (hb:fn.body=some c) (hn:fn.ntmps=n) (hr:fn.results.toList=[]) (hn0:Nat.ble shs.length n=true)
  (h:∀ w0 B C,AK P w0 B C n (numb 0 shs) c (doneK w0 B C)):Spoils P f shs:=by
 intro w B args hB hsz hk;subst hn;have hn0:=Nat.le_of_ble_eq_true hn0;refine calls_of_wp hf hb (wp_mono (h w B w.heap.size { tmps:=args++Array.replicate (fn.ntmps-args.size) undef,defers:=[] } w ⟨hB,Nat.le_refl _,rfl,by simp;omega,fun p hp=>?_⟩ (KP.refl B _ w)) ?_)
 ·obtain ⟨i,hi,rfl⟩:=Zyx hp
  have h1:(args++Array.replicate (fn.ntmps-args.size) undef).getD (0+i) undef=args[i]'(by omega):=by
   simp [Array.getD,Array.getElem_append,hsz,hi];intro hh;omega
  rw [h1];exact hk i (by omega) hi
 ·have hres:∀ a:Act,∀ w':World,(results fn a.tmps).run P w' = .ok (.tuple #[]) w':=by
   intro a w'
   have:fn.results = #[]:=by
    have:=congrArg List.toArray hr;simpa using this
   simp [results,this]
  rintro e a' w' he
  cases e with
  | normal=>exact ⟨he.1,_,hres a' w',rfl,he.2⟩
  | ret=>exact ⟨he.1,_,hres a' w',rfl,he.2⟩
  | exit id=>exact he.elim
  | goto l=>exact he.elim
  | panic ch=>exact he.elim
  | outgrown=>exact he.elim
theorem Rel.ofW_old {W:World} {x:Value} {v:V} (h:Rel (Zfb W) x v):Rel (Zfb W) x (v.recol fun _ => .old) :=
 h.conv (X:=Zfb W) (Y:=Zfb W) (fun _ => .old) (fun _ _ h=>h) (fun _ _ _ _ h=>h) ⟨fun _ c _ h=>⟨c,h,rfl⟩,fun _ _ _ _ h=>h⟩ (fun _ b hb _=>hb) (.inl fun _ _ _ h=>h)
end Go.Hs
end
