/- Part 35 of a proof; no condition. -/
import Derived.Test.YtegjlbpnpiigkaaGreatDoorPart30
import Derived.Laws.BytesArg
set_option linter.unusedSimpArgs false
set_option linter.unusedVariables false
section
namespace Go.Hs
section
variable {P:Program} {E:Ent}
theorem Za1 {X:Cx} {H:Heap} (hI:Inv X H) {src dst e:TypeId} (hs:P.underlying src=some (.slice e)) (he:P.underlying e=some (.int .u8)) (hds:P.underlying dst=some .string) {y:Value} {ob g fz:Nat} {c:Col} {xs:List Int}
  (hy:Rel X y (.msl ob g 0 xs.length 1)) (ho:H ob = .cells c g fz (xs.map (V.int .u8))):(convert src dst y).run P X.w = .ok (.string (strOfNums xs)) X.w:=by
 generalize hL:xs.length=len at hy
 cases hy with
 | msl _ _ _ _ _ b bs cap hβ hcap hb =>
  obtain ⟨c1,t,h1,h2,h3⟩:=hI.cells ho hβ;refine run_convert_bytes_arg _ src e hs he b (bs+0) len cap xs hL (fun i hi=>?_) dst hds
  have hi':i<xs.length:=by omega
  obtain ⟨x,h4,h5,_⟩:=h3.get? (i:=i) (v := .int .u8 xs[i]) (by simp [hi']);rw [Zgc (by simpa using hi'),Array.getElem?_toList] at h4;rw [Nat.add_zero,Z4g h1,h4,h5.int_inv];simp [List.getD,hi']
theorem AW.regionB {id:Nat} {ops:Array Oper} {Q:Exit→AS→Prop} {s:AS} (n d:Nat) {src dst e:TypeId} {x:Operand} {ty:TypeId} {pos:String} {af:Array Edge} (hd:(ops.all (Z8f E.n))=true) (ho:ops[n]? = some ⟨some d,.convert src dst x,ty,pos,af,none⟩)
  (hs:P.underlying src=some (.slice e)) (he:P.underlying e=some (.int .u8)) (hds:P.underlying dst=some .string)
  (h:Zub P E ops (fun s1=>∃ ob g c fz,∃ xs:List Int,s1.ev E x = .msl ob g 0 xs.length 1∧s1.H ob = .cells c g fz (xs.map (V.int .u8)) ∧
   Zub P E ops (Q .normal) (ops.toList.drop (n+1)) (AS.put s1 (some d) (.str (xs.map fun n=>UInt8.ofNat n.toNat)))) (ops.toList.take n) s):AW P E (.region id ops false) Q s:=by
 intro a w hsat;refine wp_region ?_
 have hn:n<ops.size:=by rw [Array.getElem?_eq_some_iff] at ho;exact ho.1
 have key:=Zci (P:=P) (E:=E) (R:=Post E Q) (tail:=n::(List.range (ops.toList.drop (n+1)).length).map (n+1 + ·)) (ops:=ops) (fun ch a w h => .inr ⟨ch,rfl,h⟩)
  (fun s1 a1 w1 hsat1 hq=>by
   obtain ⟨ob,g,c,fz,xs,h1,h2,h3⟩:=hq;obtain ⟨X,hX⟩:=hsat1;have hw:=hX.hw;subst hw;simp only [wpOps,ho]
   have hwn:Region.wanted (⟨some d,.convert src dst x,ty,pos,af,none⟩:Oper) (yielded ops a1.tmps)=true:=by simp [Region.wanted]
   rw [hwn];simp only [if_true];refine .inl ?_;have hy:=hX.ev x;rw [h1] at hy;have hrun:=Za1 hX.go.inv hs he hds hy h2;unfold Oper.wp
   have:(execOp a1.eval ⟨some d,.convert src dst x,ty,pos,af,none⟩).run P X.w = .ok (.value (.string (strOfNums xs))) X.w:=by
    simp only [execOp,Sem.run_bind,hrun,Result.andThen_ok,Sem.run_pure]
   rw [this,Oper.upon_value]
   have hdn:∀ d',(some d:Option Nat)=some d'→d'<E.n:=by
    intro d' hd'
    have hmem:(⟨some d,.convert src dst x,ty,pos,af,none⟩:Oper)∈ops:=by rw [Array.getElem?_eq_some_iff] at ho;obtain ⟨hlt,h4⟩:=ho;rw [← h4];exact Array.getElem_mem hlt
    rw [Array.all_eq_true'] at hd;have h5:=hd _ hmem;unfold Z8f at h5;cases hd';simpa using h5
   have hst:Sat E (AS.put s1 (some d) (.str (xs.map fun n=>UInt8.ofNat n.toNat))) (a1.put (some d) (.string (strOfNums xs))) X.w:=⟨X,hX.step (Goes.refl hX.go.inv) (.str _ _ (strOfNums_data xs)) hdn⟩
   exact Zdi (P:=P) (R:=Post E Q) (fun ch a w h => .inr ⟨ch,rfl,h⟩) (fun s a w h1 h2 => .inl ⟨s,h1,h2⟩) hd _ (n+1) _ _ _ hst (fun j=>by rw [List.getElem?_drop,Array.getElem?_toList]) h3)
  hd (ops.toList.take n) 0 s a w hsat (fun j hj=>by
   simp at hj
   rw [List.getElem?_take_of_lt (by omega),Array.getElem?_toList,Nat.zero_add]) h
 have e1:List.range ops.size=(List.range (ops.toList.take n).length).map (0 + ·)++n::(List.range (ops.toList.drop (n+1)).length).map (n+1 + ·):=by
  rw [List.length_take,List.length_drop,Array.length_toList,Nat.min_eq_left (by omega)];rw [show ops.size=n+(ops.size-n) by omega,List.range_add,show ops.size-n=(ops.size-(n+1))+1 by omega,List.range_succ_eq_map];simp only [List.map_cons,List.map_map,Nat.zero_add,List.map_id']
  congr 2
  rw [show n+(ops.size-(n+1)+1)-(n+1)=ops.size-(n+1) by omega];apply List.map_congr_left;intro j _;simp;omega
 rw [e1];exact key
end
end Go.Hs
end
