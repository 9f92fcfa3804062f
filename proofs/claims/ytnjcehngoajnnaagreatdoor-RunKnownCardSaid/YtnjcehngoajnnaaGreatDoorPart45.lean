/- Part 45 of a proof; no condition. -/
import Derived.Test.YtnjcehngoajnnaaGreatDoorPart43
set_option linter.unusedSimpArgs false
set_option linter.unusedVariables false
section
namespace Go.Hs
section
variable {P:Program} {E:Ent}
def methK (P:Program) (t:TypeId) (m:String) (f:FuncId):Prop:=∀ v w,(Go.method (P.types.size+Made.depth) t v m).run P w = .ok (f,v) w
theorem Zc7 {id:Nat} {ops:Array Oper} {Q:Exit→AS→Prop} {s:AS} (n:Nat) {dst:Option Nat} {r:Operand} {m:String} {args:Array Operand} {ats:Array TypeId} {ty:TypeId} {pos:String} {af:Array Edge} (hd:(ops.all (Z3e E.n))=true)
  (ho:ops[n]? = some ⟨dst,.call ⟨.invoke r m,args,ats⟩,ty,pos,af,none⟩)
  (h:Zdb P E ops (fun s1=>∃ t v f,s1.ev E r = .iface t v∧methK P t m f∧CallA P E.G f (v::args.toList.map (s1.ev E)) s1.H (fun u H'=>Zdb P E ops (Q .normal) (ops.toList.drop (n+1)) (AS.put { s1 with H:=H' } dst u))) (ops.toList.take n) s):AW P E (.region id ops false) Q s:=by
 intro a w hsat;refine wp_region ?_
 have hn:n<ops.size:=by rw [Array.getElem?_eq_some_iff] at ho;exact ho.1
 have key:=Z0h (P:=P) (E:=E) (R:=Post E Q) (tail:=n::(List.range (ops.toList.drop (n+1)).length).map (n+1 + ·)) (ops:=ops) (fun ch a w h => .inr ⟨ch,rfl,h⟩)
  (fun s1 a1 w1 hsat1 hq=>by
   obtain ⟨t,v,f,hv,hm,hen,hs⟩:=hq;obtain ⟨X,hX⟩:=hsat1;have hw:=hX.hw;subst hw;simp only [wpOps,ho]
   have hwn:Region.wanted ⟨dst,.call ⟨.invoke r m,args,ats⟩,ty,pos,af,none⟩ (yielded ops a1.tmps)=true:=by simp [Region.wanted]
   rw [hwn];simp only [if_true];refine .inl ?_;have hev:=hX.ev;have hrv:=hev r;rw [hv] at hrv;generalize hq:a1.eval r=q at hrv
   cases hrv with
   | iface _ x _ hx =>
   have hrun:(execOp a1.eval ⟨dst,.call ⟨.invoke r m,args,ats⟩,ty,pos,af,none⟩).run P X.w = .ok (.enter f (#[x]++args.map a1.eval)) X.w:=by
    unfold Zfa at hen
    split at hen
    ·rename_i fn hfn
     simp only [Bool.and_eq_true] at hen;obtain ⟨hn1,hn2⟩:=hen
     have hn1':(fn.name == "runtime.NumGoroutine")=false:=by simpa using hn1
     have hn2':fn.body.isNone=false:=by cases hb:fn.body<;>simp_all
     have hx2:(#[Value.iface t x]++args.map a1.eval).extract 1 (#[Value.iface t x]++args.map a1.eval).size=args.map a1.eval:=by
      apply Array.ext
      ·simp
      ·intro i h1 h2
       rw [Array.getElem_extract,Array.getElem_append_right (by simp)];simp
     have h0:(#[Value.iface t x]++args.map a1.eval)[0]? = some (Value.iface t x):=by
      rw [Array.getElem?_append_left (by simp)];rfl
     simp only [execOp,resolve,hq,Sem.run_bind,Sem.run_pure,Result.andThen_ok,invoke,callMethod,h0,hx2,run_program,hm x X.w,callFunc,hfn,hn1',hn2'];simp
    ·simp at hen
   have hdn:∀ d',dst=some d'→d'<E.n:=by
    intro d' hd'
    have hmem:(⟨dst,.call ⟨.invoke r m,args,ats⟩,ty,pos,af,none⟩:Oper)∈ops:=by rw [Array.getElem?_eq_some_iff] at ho;obtain ⟨hlt,h4⟩:=ho;rw [← h4];exact Array.getElem_mem hlt
    rw [Array.all_eq_true'] at hd;have h5:=hd _ hmem;unfold Z3e at h5;rw [hd'] at h5;simpa using h5
   unfold Oper.wp;rw [hrun,Oper.upon_enter];refine (hs X _ hX.go.inv hX.gl ⟨by simp;omega,?_⟩).mono ?_
   ·intro i h1 h2
    cases i with
    | zero=>simpa using hx
    | succ i =>
     rw [Array.getElem_append_right (by simp)];simp;exact hev _
   ·rintro e w' ⟨c,u,H',Y,rfl,rfl,h1,h2,h3⟩
    exact Z1h (P:=P) (R:=Post E Q) (fun ch a w h => .inr ⟨ch,rfl,h⟩) (fun s a w h1 h2 => .inl ⟨s,h1,h2⟩) hd _ (n+1) _ _ _ ⟨Y,hX.step h1 h2 hdn⟩ (fun j=>by rw [List.getElem?_drop,Array.getElem?_toList]) h3)
  hd (ops.toList.take n) 0 s a w hsat (fun j hj=>by
   simp at hj
   rw [List.getElem?_take_of_lt (by omega),Array.getElem?_toList,Nat.zero_add]) h
 have e1:List.range ops.size=(List.range (ops.toList.take n).length).map (0 + ·)++n::(List.range (ops.toList.drop (n+1)).length).map (n+1 + ·):=by
  rw [List.length_take,List.length_drop,Array.length_toList,Nat.min_eq_left (by omega)];rw [show ops.size=n+(ops.size-n) by omega,List.range_add,show ops.size-n=(ops.size-(n+1))+1 by omega,List.range_succ_eq_map];simp only [List.map_cons,List.map_map,Nat.zero_add,List.map_id']
  congr 2
  rw [show n+(ops.size-(n+1)+1)-(n+1)=ops.size-(n+1) by omega];apply List.map_congr_left;intro j _;simp;omega
 rw [e1];exact key
theorem Rd.obj {H:Heap} {o g fz:Nat} {c:Col} {cs:List V} {v':V} (hH:H o = .cells c g fz cs) (h:RdL H cs v'.cells):Rd H (.ptr o g 0) (.view .old v'):=by
 obtain ⟨hl,hr⟩:=h.get;refine Cv.ptr (col:=fun _ => .old) o g 0 c fz cs v' rfl hH (by omega) fun i h1 h2=>?_;have:=hr i (by omega) h2;simp only [Nat.zero_add];exact this
end
end Go.Hs
end
