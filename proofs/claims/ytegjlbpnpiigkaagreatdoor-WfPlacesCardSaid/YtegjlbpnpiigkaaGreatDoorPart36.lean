/- Part 36 of a proof; no condition. -/
import Derived.Test.YtegjlbpnpiigkaaGreatDoorPart35
set_option linter.unusedSimpArgs false
set_option linter.unusedVariables false
section
namespace Go.Hs
section
variable {P:Program} {E:Ent}
def Zoy (a:V):Option V:=match a with
 | .view c v=>some (.view c v)
 | .ptr o g off=>some (.ptr o g off)
 | .func (.func f) a b=>some (.func (.func f) a b)
 | _=>none
@[go_sem] theorem Zj8 (ρ : Operand→V) (d:Option Nat) (x:Operand) (ty:TypeId) (pos:String) (af:Array Edge) (gd:Option (Nat × Bool)):opV P ρ ⟨d,.nilCheck x,ty,pos,af,gd⟩=Zoy (ρ x):=by
 unfold opV Zoy;rfl
@[go_sem] theorem nilCkV_ptr (o g off:Nat):Zoy (.ptr o g off)=some (.ptr o g off):=rfl
@[go_sem] theorem nilCkV_view (c:Col) (v:V):Zoy (.view c v)=some (.view c v):=rfl
def Gives (P:Program) (E:Ent) (o:Oper) (s:AS) (v:V):Prop:=∀ X a w,SatX E X s a w→∃ c,(execOp a.eval o).run P X.w = .ok (.value c) X.w∧Rel X c v
theorem Zqf {id:Nat} {ops:Array Oper} {Q:Exit→AS→Prop} {s:AS} (n:Nat) {o:Oper} (hd:(ops.all (Z8f E.n))=true) (ho:ops[n]? = some o) (hg:o.guard=none)
  (h:Zub P E ops (fun s1=>∃ v,Gives P E o s1 v∧Zub P E ops (Q .normal) (ops.toList.drop (n+1)) (AS.put s1 o.dst v)) (ops.toList.take n) s):AW P E (.region id ops false) Q s:=by
 intro a w hsat;refine wp_region ?_
 have hn:n<ops.size:=by rw [Array.getElem?_eq_some_iff] at ho;exact ho.1
 have key:=Zci (P:=P) (E:=E) (R:=Post E Q) (tail:=n::(List.range (ops.toList.drop (n+1)).length).map (n+1 + ·)) (ops:=ops) (fun ch a w h => .inr ⟨ch,rfl,h⟩)
  (fun s1 a1 w1 hsat1 hq=>by
   obtain ⟨v,hv,h3⟩:=hq;obtain ⟨X,hX⟩:=hsat1;have hw:=hX.hw;subst hw;simp only [wpOps,ho]
   have hwn:Region.wanted o (yielded ops a1.tmps)=true:=by simp [Region.wanted,hg]
   rw [hwn];simp only [if_true];refine .inl ?_;obtain ⟨c,hrun,hr⟩:=hv X a1 _ hX;unfold Oper.wp;rw [hrun,Oper.upon_value]
   have hdn:∀ d',o.dst=some d'→d'<E.n:=by
    intro d' hd'
    have hmem:o∈ops:=by rw [Array.getElem?_eq_some_iff] at ho;obtain ⟨hlt,h4⟩:=ho;rw [← h4];exact Array.getElem_mem hlt
    rw [Array.all_eq_true'] at hd;have h5:=hd _ hmem;unfold Z8f at h5;rw [hd'] at h5;simpa using h5
   have hst:Sat E (AS.put s1 o.dst v) (a1.put o.dst c) X.w:=⟨X,hX.step (Goes.refl hX.go.inv) hr hdn⟩
   exact Zdi (P:=P) (R:=Post E Q) (fun ch a w h => .inr ⟨ch,rfl,h⟩) (fun s a w h1 h2 => .inl ⟨s,h1,h2⟩) hd _ (n+1) _ _ _ hst (fun j=>by rw [List.getElem?_drop,Array.getElem?_toList]) h3)
  hd (ops.toList.take n) 0 s a w hsat (fun j hj=>by
   simp at hj
   rw [List.getElem?_take_of_lt (by omega),Array.getElem?_toList,Nat.zero_add]) h
 have e1:List.range ops.size=(List.range (ops.toList.take n).length).map (0 + ·)++n::(List.range (ops.toList.drop (n+1)).length).map (n+1 + ·):=by
  rw [List.length_take,List.length_drop,Array.length_toList,Nat.min_eq_left (by omega)];rw [show ops.size=n+(ops.size-n) by omega,List.range_add,show ops.size-n=(ops.size-(n+1))+1 by omega,List.range_succ_eq_map];simp only [List.map_cons,List.map_map,Nat.zero_add,List.map_id']
  congr 2
  rw [show n+(ops.size-(n+1)+1)-(n+1)=ops.size-(n+1) by omega];apply List.map_congr_left;intro j _;simp;omega
 rw [e1];exact key
theorem Zon {t:TypeId} {n m b off:Nat} {e:TypeId} {w:World} (hu:P.underlying t=some (.array n e)) (hs:Zqb P e=some m) :
  (Instr.sliceAt t (.pointer (some ⟨b,off,none⟩)) none none none).run P w = .ok (.slice (some ⟨b,off,none⟩) n n) w:=by
 have hb:=Z1c (P:=P) (w:=w) (X:=⟨fun _ _=>none,fun _ _=>False,0,w⟩) (isSlice:=false) (len:=n) (cap:=n) (lo:=none) (hi:=none) (mx:=none) (lo':=none) (hi':=none) (mx':=none) trivial trivial trivial rfl rfl rfl (.inl rfl) (Nat.zero_le _) (Nat.le_refl _) (Nat.le_refl _)
 have ha:(⟨b,off,none⟩:Addr).add (0 * m)=⟨b,off,none⟩:=by rw [Nat.zero_mul,Addr.add_lit,Nat.add_zero]
 simp only [Instr.sliceAt,Sem.run_bind,Zk hu,Result.andThen_ok,Instr.sureAddr,Sem.run_pure,hb,Zla hs,Nat.sub_zero,ha,ite_self]
theorem Zvp {s:AS} {d:Option Nat} {t:TypeId} {x:Operand} {ty:TypeId} {pos:String} {af:Array Edge} {gd:Option (Nat × Bool)} {n:Nat} {e:TypeId} {m ob g fz:Nat} {c:Col} {cs:List V}
  (hu:P.underlying t=some (.array n e)) (hs:Zqb P e=some m) (hx:s.ev E x = .ptr ob g 0) (ho:s.H ob = .cells c g fz cs) (hl:Nat.ble (n * m) cs.length=true) :
  Gives P E ⟨d,.slice t x none none none,ty,pos,af,gd⟩ s (.msl ob g 0 n m):=by
 intro X a w hX;have hl:=Nat.le_of_ble_eq_true hl;have hy:=hX.ev x;rw [hx] at hy;have hev:execOp a.eval ⟨d,.slice t x none none none,ty,pos,af,gd⟩=(do pure (Next.value (← Instr.sliceAt t (a.eval x) none none none))):=rfl;rw [hev];generalize a.eval x=y at hy
 cases hy with
 | ptr _ _ _ b bs hβ =>
  obtain ⟨c1,t1,h1,h2,h3⟩:=hX.go.inv.cells ho hβ;refine ⟨.slice (some ⟨b,bs+0,none⟩) n n,by simp only [Sem.run_bind,Zon hu hs,Result.andThen_ok,Sem.run_pure],?_⟩;exact .msl _ _ _ _ _ b bs n hβ (Nat.le_refl _) ⟨c1,t1,h1,by omega⟩
theorem Zgp {s:AS} {d:Option Nat} {t:TypeId} {x:Operand} {ty:TypeId} {pos:String} {af:Array Edge} {gd:Option (Nat × Bool)} {n:Nat} {e:TypeId} {c:Col} {cs:List V}
  (hu:P.underlying t=some (.array n e)) (hs:Zqb P e=some 1) (hx:s.ev E x = .view c (.agg cs)) (hn:cs.length=n) (h1:∀ v∈cs,v.cells=[v]) :
  Gives P E ⟨d,.slice t x none none none,ty,pos,af,gd⟩ s (.slice c true 1 cs):=by
 intro X a w hX;have hy:=hX.ev x;rw [hx] at hy;have hev:execOp a.eval ⟨d,.slice t x none none none,ty,pos,af,gd⟩=(do pure (Next.value (← Instr.sliceAt t (a.eval x) none none none))):=rfl;rw [hev];generalize a.eval x=y at hy
 have hfl:flat cs=cs:=by
  have:∀ l:List V,(∀ v∈l,v.cells=[v])→flat l=l:=by
   intro l
   induction l with
   | nil=>intro _;rfl
   | cons v r ih =>
    intro h;have:=ih fun u hu=>h u (by simp [hu]);unfold flat at this ⊢;rw [List.flatMap_cons,h v (by simp),this];rfl
  exact this cs h1
 cases hy with
 | view _ _ b off f hc hr =>
  refine ⟨.slice (some ⟨b,off,none⟩) n n,by simp only [Sem.run_bind,Zon hu hs,Result.andThen_ok,Sem.run_pure],?_⟩;rw [← hn];refine .slice c true 1 cs b off cs.length f (Nat.le_refl _) (fun _=>rfl) (fun v hv=>by rw [h1 v hv];rfl) ?_ ?_
  ·rw [hfl];exact hc
  ·intro i hi
   have hi':i<cs.length:=by rw [hfl] at hi;exact hi
   have:=hr i hi'
   have e:(flat cs)[i]=cs[i]:=by simp [hfl]
   rw [e];exact this
def GivesE (P:Program) (E:Ent) (o:Oper) (s:AS) (v:V) (H':Heap):Prop :=
 ∀ X a w,SatX E X s a w→∃ c Y,(execOp a.eval o).run P X.w = .ok (.value c) Y.w∧Goes X s.H Y H'∧Rel Y c v
theorem Zk1 {id:Nat} {ops:Array Oper} {Q:Exit→AS→Prop} {s:AS} (n:Nat) {o:Oper} (hd:(ops.all (Z8f E.n))=true) (ho:ops[n]? = some o) (hg:o.guard=none)
  (h:Zub P E ops (fun s1=>∃ v H',GivesE P E o s1 v H'∧Zub P E ops (Q .normal) (ops.toList.drop (n+1)) (AS.put { s1 with H:=H' } o.dst v)) (ops.toList.take n) s):AW P E (.region id ops false) Q s:=by
 intro a w hsat;refine wp_region ?_
 have hn:n<ops.size:=by rw [Array.getElem?_eq_some_iff] at ho;exact ho.1
 have key:=Zci (P:=P) (E:=E) (R:=Post E Q) (tail:=n::(List.range (ops.toList.drop (n+1)).length).map (n+1 + ·)) (ops:=ops) (fun ch a w h => .inr ⟨ch,rfl,h⟩)
  (fun s1 a1 w1 hsat1 hq=>by
   obtain ⟨v,H',hv,h3⟩:=hq;obtain ⟨X,hX⟩:=hsat1;have hw:=hX.hw;subst hw;simp only [wpOps,ho]
   have hwn:Region.wanted o (yielded ops a1.tmps)=true:=by simp [Region.wanted,hg]
   rw [hwn];simp only [if_true];refine .inl ?_;obtain ⟨c,Y,hrun,hgo,hr⟩:=hv X a1 _ hX;unfold Oper.wp;rw [hrun,Oper.upon_value]
   have hdn:∀ d',o.dst=some d'→d'<E.n:=by
    intro d' hd'
    have hmem:o∈ops:=by rw [Array.getElem?_eq_some_iff] at ho;obtain ⟨hlt,h4⟩:=ho;rw [← h4];exact Array.getElem_mem hlt
    rw [Array.all_eq_true'] at hd;have h5:=hd _ hmem;unfold Z8f at h5;rw [hd'] at h5;simpa using h5
   have hst:Sat E (AS.put { s1 with H:=H' } o.dst v) (a1.put o.dst c) Y.w:=⟨Y,hX.step hgo hr hdn⟩
   exact Zdi (P:=P) (R:=Post E Q) (fun ch a w h => .inr ⟨ch,rfl,h⟩) (fun s a w h1 h2 => .inl ⟨s,h1,h2⟩) hd _ (n+1) _ _ _ hst (fun j=>by rw [List.getElem?_drop,Array.getElem?_toList]) h3)
  hd (ops.toList.take n) 0 s a w hsat (fun j hj=>by
   simp at hj
   rw [List.getElem?_take_of_lt (by omega),Array.getElem?_toList,Nat.zero_add]) h
 have e1:List.range ops.size=(List.range (ops.toList.take n).length).map (0 + ·)++n::(List.range (ops.toList.drop (n+1)).length).map (n+1 + ·):=by
  rw [List.length_take,List.length_drop,Array.length_toList,Nat.min_eq_left (by omega)];rw [show ops.size=n+(ops.size-n) by omega,List.range_add,show ops.size-n=(ops.size-(n+1))+1 by omega,List.range_succ_eq_map];simp only [List.map_cons,List.map_map,Nat.zero_add,List.map_id']
  congr 2
  rw [show n+(ops.size-(n+1)+1)-(n+1)=ops.size-(n+1) by omega];apply List.map_congr_left;intro j _;simp;omega
 rw [e1];exact key
theorem GivesE.copy {s:AS} {d:Option Nat} {t t2:TypeId} {x y:Operand} {ty:TypeId} {pos:String} {af:Array Edge} {gd:Option (Nat × Bool)} {e:TypeId} {m ob g fz off len n:Nat} {c:Col} {cs xc:List V}
  (hu:P.underlying t=some (.slice e)) (hs:Zqb P e=some m) (hx:s.ev E x = .msl ob g off len m) (ho:s.H ob = .cells c g fz cs) (hy:Z9c s.H m (s.ev E y)=some (n,xc)) (hn:n≤len) (hfz:fz≤off) (hl:off+n * m≤cs.length) :
  GivesE P E ⟨d,.call ⟨.builtin .copy,#[x,y],#[t,t2]⟩,ty,pos,af,gd⟩ s (.int .i64 n) (upd s.H ob (.cells c g fz (setAt cs off xc))):=by
 intro X a w hX;have hxr:=hX.ev x;have hyr:=hX.ev y;rw [hx] at hxr;obtain ⟨h1,h2,xs,h3,h4⟩:=Zjh (P:=P) hX.go.inv hyr hy
 have hcp:∀ {p:Value},Rel X p (.msl ob g off len m)→∃ Y,(Builtin.copy_ #[t,t2] ty #[p,a.eval y]).run P X.w = .ok (.int .i64 n) Y.w∧Goes X s.H Y (upd s.H ob (.cells c g fz (setAt cs off xc))):=by
  intro p hp
  cases hp with
  | msl _ _ _ _ _ b bs cap hβ hcap hb =>
   obtain ⟨Y,hrun,hgo⟩:=Zws (P:=P) hX.go.inv ho hβ h3 hfz (by omega);refine ⟨Y,?_,hgo⟩;have hmin:Nat.min n len=n:=Nat.min_eq_left hn;simp only [Builtin.copy_,Sem.run_bind,Zk hu,Result.andThen_ok,Sem.run_pure,List.getElem?_toArray,List.getElem?_cons_zero,List.getElem?_cons_succ,h2,Zla hs,hmin,h4 _ (fun _ _ h=>h),hrun];rfl
 obtain ⟨Y,hrun,hgo⟩:=hcp hxr;refine ⟨.int .i64 n,Y,?_,hgo,.int _ _⟩;simp [execOp,resolve,invoke,builtin,hrun]
end
end Go.Hs
end
