/- Part 43 of a proof; no condition. -/
import Derived.Test.YtnjcehngoajnnaaGreatDoorPart42
import Derived.Recover
set_option linter.unusedSimpArgs false
set_option linter.unusedVariables false
section
namespace Go.Hs
section
variable {P:Program} {E:Ent}
theorem Z0t {X:Cx} {xs ys:Array Value} {ls ms:List V} (hx:xs.size=ls.length) (h1:∀ i (h1:i<xs.size) (h2:i<ls.length),Rel X xs[i] ls[i]) (h2:∀ i (h1:i<ys.size) (h2:i<ms.length),Rel X ys[i] ms[i]) :
  ∀ i (h1:i<(xs++ys).size) (h2:i<(ls++ms).length),Rel X (xs++ys)[i] (ls++ms)[i]:=by
 intro i q1 q2;simp at q1 q2
 by_cases hi1:i<ls.length
 ·rw [Array.getElem_append_left (by omega),List.getElem_append_left hi1]
  exact h1 _ _ _
 ·rw [Array.getElem_append_right (by omega),List.getElem_append_right (by omega)]
  simp only [hx];exact h2 _ _ _
def AWR (P:Program) (E:Ent) (c:Code) (R:Exit→Act→World→Prop) (s:AS):Prop:=∀ a w,Sat E s a w→c.wp P R a w
theorem AWR.of {c:Code} {Q:Exit→AS→Prop} {R:Exit→Act→World→Prop} {s:AS} (h:AW P E c Q s) (hR:∀ e a w,Post E Q e a w→R e a w):AWR P E c R s:=fun a w hs=>wp_mono (h a w hs) hR
theorem AWR.seq {x y:Code} {Q:Exit→AS→Prop} {R:Exit→Act→World→Prop} {s:AS} (h:AW P E x Q s) (hn:∀ s',Q .normal s'→AWR P E y R s') (hR:∀ e a w,e ≠ .normal→Post E Q e a w→R e a w):AWR P E (.seq x y) R s:=by
 intro a w hs;refine wp_seq (wp_mono (h a w hs) ?_);intro e a' w' hp
 cases e with
 | normal =>
  rcases hp with ⟨s',h1,h2⟩ | ⟨ch,h,_⟩
  ·exact hn s' h2 a' w' h1
  ·cases h
 | exit id=>exact hR _ _ _ (by simp) hp
 | goto l=>exact hR _ _ _ (by simp) hp
 | ret=>exact hR _ _ _ (by simp) hp
 | panic ch=>exact hR _ _ _ (by simp) hp
 | outgrown=>exact hR _ _ _ (by simp) hp
theorem Zqm {x y:Code} {R:Exit→Act→World→Prop} {s:AS} (hk:E.kp=none) (h:∀ K:AS→Prop,(∀ s,AWR P E y R s→K s)→AW P E x (Zhl K fun e s=>∀ a w,Sat E s a w→R e a w) s):AWR P E (.seq x y) R s:=by
 refine AWR.seq (Q:=Zhl (AWR P E y R) fun e s=>∀ a w,Sat E s a w→R e a w) (h _ fun _ h=>h) (fun s' h=>h) ?_;rintro e a w hne (⟨s',h1,h2⟩ | ⟨ch,rfl,hp⟩)
 ·cases e with
  | normal=>exact absurd rfl hne
  | _=>exact h2 a w h1
 ·exact (hp.no hk).elim
theorem AWR.ret {R:Exit→Act→World→Prop} {s:AS} (h:∀ a w,Sat E s a w→R .ret a w):AWR P E .ret R s:=fun a w hs=>wp_ret (h a w hs)
theorem AWR.weak {c:Code} {R:Exit→Act→World→Prop} {s s':AS} (hw:Weak E s s') (h:AWR P E c R s'):AWR P E c R s:=fun a w hs=>h a w (hw a w hs)
theorem Zaba {id:Nat} {ops:Array Oper} {y:Code} {R:Exit→Act→World→Prop} {s:AS} (n:Nat) {o:Oper} (E':AS→Ent) (hE:∀ s,(E' s).n=E.n) (hd:(ops.all (Z3e E.n))=true) (ho:ops[n]? = some o) (hg:o.guard=none) (hk:E.kp=none) (hk':∀ s,(E' s).kp=none)
  (h:Zdb P E ops (fun s1=>∀ X a,SatX E X s1 a X.w→o.wp P a X.w (fun a' w'=>∃ s2,Sat (E' s1) s2 a' w'∧Zdb P (E' s1) ops (AWR P (E' s1) y R) (ops.toList.drop (n+1)) s2) R) (ops.toList.take n) s)
  : AWR P E (.seq (.region id ops false) y) R s:=by
 intro a w hsat;refine wp_seq (wp_region ?_)
 have hn:n<ops.size:=by rw [Array.getElem?_eq_some_iff] at ho;exact ho.1
 have key:=Z0h (P:=P) (E:=E) (R:=Exit.then (y.wp P R) R) (tail:=n::(List.range (ops.toList.drop (n+1)).length).map (n+1 + ·)) (ops:=ops)
  (fun ch a w hp=>(hp.no hk).elim)
  (fun s1 a1 w1 hsat1 hq=>by
   obtain ⟨X,hX⟩:=hsat1;have hw:=hX.hw;subst hw;simp only [wpOps,ho]
   have hwn:Region.wanted o (yielded ops a1.tmps)=true:=by simp [Region.wanted,hg]
   rw [hwn];simp only [if_true];refine .inl ?_;have hR:∀ ch a w,R (.panic ch) a w→Exit.then (y.wp P R) R (.panic ch) a w:=fun _ _ _ h=>h;have h1:=hq X a1 hX;unfold Oper.wp at h1 ⊢
   have hnext:∀ a' w',(∃ s2,Sat (E' s1) s2 a' w'∧Zdb P (E' s1) ops (AWR P (E' s1) y R) (ops.toList.drop (n+1)) s2)→wpOps P ops (Exit.then (y.wp P R) R) ((List.range (ops.toList.drop (n+1)).length).map (n+1 + ·)) a' w':=by
    rintro a' w' ⟨s2,h2,h3⟩;exact Z1h (P:=P) (R:=Exit.then (y.wp P R) R) (fun ch a w hp=>(hp.no (hk' s1)).elim) (fun s a w h1 h2=>h2 a w h1) (by rw [hE];exact hd) _ (n+1) _ _ _ h2 (fun j=>by rw [List.getElem?_drop,Array.getElem?_toList]) h3
   revert h1
   generalize (execOp a1.eval o).run P X.w=r;intro h1
   match r,h1 with
   | .ok (.value v) w',h1=>exact hnext _ _ h1
   | .ok .skip w',h1=>exact hnext _ _ h1
   | .ok (.defer d) w',h1=>exact hnext _ _ h1
   | .ok (.enter f args) w',h1 =>
    refine Calls.mono h1 fun e w'' he=>?_
    cases e with
    | returned v=>exact hnext _ _ he
    | panicked ch=>exact he
    | outgrown=>obtain ⟨a0,w0,hq0⟩:=he;exact ⟨a0,w0,hq0⟩
   | .ok (.row row args) w',h1=>exact Rows.mono h1 fun v w'' hv=>hnext _ _ hv
   | .halt (.panic v) w',h1=>exact h1)
  hd (ops.toList.take n) 0 s a w hsat (fun j hj=>by
   simp at hj
   rw [List.getElem?_take_of_lt (by omega),Array.getElem?_toList,Nat.zero_add]) h
 have e1:List.range ops.size=(List.range (ops.toList.take n).length).map (0 + ·)++n::(List.range (ops.toList.drop (n+1)).length).map (n+1 + ·):=by
  rw [List.length_take,List.length_drop,Array.length_toList,Nat.min_eq_left (by omega)];rw [show ops.size=n+(ops.size-n) by omega,List.range_add,show ops.size-n=(ops.size-(n+1))+1 by omega,List.range_succ_eq_map];simp only [List.map_cons,List.map_map,Nat.zero_add,List.map_id']
  congr 2
  rw [show n+(ops.size-(n+1)+1)-(n+1)=ops.size-(n+1) by omega];apply List.map_congr_left;intro j _;simp;omega
 rw [e1];exact key
def Ent.defer (E:Ent) (fv:V):Ent:={ E with df:=fv::E.df }
theorem Zxda {s:AS} {a:Act} {X:Cx} {fo:Operand} {args:Array Operand} {ats:Array TypeId} {dst:Option Nat} {ty:TypeId} {pos:String} {af:Array Edge} {gd:Option (Nat × Bool)} {fid:FuncId} {first cap:List V} {K:AS→Prop} {R:Exit→Act→World→Prop}
  (hX:SatX E X s a X.w) (hd:∀ d,dst=some d→d<E.n) (hf:s.ev E fo = .func (.func fid) first cap) (hK:K (AS.put s dst (.tuple []))) :
  (⟨dst,.defer ⟨.value fo,args,ats⟩,ty,pos,af,gd⟩:Oper).wp P a X.w (fun a' w'=>∃ s2,Sat (E.defer (.func (.func fid) (first++args.toList.map (s.ev E)) cap)) s2 a' w'∧K s2) R:=by
 have hfv:=hX.ev fo;rw [hf] at hfv;have hev:=hX.ev;generalize hq2:a.eval fo=q at hfv
 cases hfv with
 | func _ xs ys _ _ hx hy hxr hyr =>
 have hrun:(execOp a.eval ⟨dst,.defer ⟨.value fo,args,ats⟩,ty,pos,af,gd⟩).run P X.w = .ok (.defer { target := .fn (.func fid) ys,args:=xs++args.map a.eval }) X.w:=by
  simp [execOp,resolve,hq2,Deferred.ofValue]
 unfold Oper.wp;rw [hrun,Oper.upon_defer]
 have h1:SatX (E.defer (.func (.func fid) (first++args.toList.map (s.ev E)) cap)) X s ({ a with defers:={ target := .fn (.func fid) ys,args:=xs++args.map a.eval }::a.defers }:Act) X.w:=by
  refine ⟨rfl,hX.go,⟨by simp [Ent.defer,hX.df.1],fun i h1 h2=>?_⟩,hX.sz,hX.tm,hX.gl⟩
  cases i with
  | zero =>
   exact ⟨.func fid,ys,rfl,.func _ _ _ _ _ (by simp [hx]) hy (Z0t hx hxr fun i h1 h2=>by simp only [Array.getElem_map,List.getElem_map,Array.getElem_toList];exact hev _) hyr⟩
  | succ i=>exact hX.df.2 i (by simpa using h1) (by simpa [Ent.defer] using h2)
 exact ⟨_,⟨X,h1.step (Goes.refl hX.go.inv) (dst:=dst) (c:=undef) (v := .tuple []) (.tuple #[] [] rfl (fun i h1 h2=>by simp at h2)) hd⟩,hK⟩
theorem call_wp {s:AS} {a:Act} {X:Cx} {fo:Operand} {args:Array Operand} {ats:Array TypeId} {dst:Option Nat} {ty:TypeId} {pos:String} {af:Array Edge} {gd:Option (Nat × Bool)} {fid:FuncId} {first cap:List V} {K:AS→Prop} {R:Exit→Act→World→Prop} {KP:V→Heap→Prop}
  (hX:SatX E X s a X.w) (hd:∀ d,dst=some d→d<E.n) (hf:s.ev E fo = .func (.func fid) first cap) (hs:CallP P E.G (some KP) fid (first++args.toList.map (s.ev E)++cap) s.H (fun v H'=>K (AS.put ⟨s.τ,H'⟩ dst v)))
  (hp:∀ c v Y H',SatX E Y ⟨s.τ,H'⟩ a Y.w→Rel Y c v→KP v H'→R (.panic [{ v:=c,recovered:=false }]) a Y.w) :
  (⟨dst,.call ⟨.value fo,args,ats⟩,ty,pos,af,gd⟩:Oper).wp P a X.w (fun a' w'=>∃ s2,Sat E s2 a' w'∧K s2) R:=by
 obtain ⟨hen,hs⟩:=hs;have hev:=hX.ev;have hfv:=hev fo;rw [hf] at hfv;generalize hq:a.eval fo=q at hfv
 cases hfv with
 | func _ xs ys _ _ hx hy hxr hyr =>
 have hrun:(execOp a.eval ⟨dst,.call ⟨.value fo,args,ats⟩,ty,pos,af,gd⟩).run P X.w = .ok (.enter fid (xs++args.map a.eval++ys)) X.w:=by
  unfold Zfa at hen
  split at hen
  ·rename_i fn hfn
   simp only [Bool.and_eq_true] at hen;obtain ⟨hn1,hn2⟩:=hen
   have hn1':(fn.name == "runtime.NumGoroutine")=false:=by simpa using hn1
   have hn2':fn.body.isNone=false:=by cases hb:fn.body<;>simp_all
   simp only [execOp,resolve,hq,Deferred.ofValue,Sem.run_bind,Sem.run_pure,Result.andThen_ok,invoke,callFunc,run_program,hfn,hn1',hn2'];simp
  ·simp at hen
 unfold Oper.wp;rw [hrun,Oper.upon_enter];refine (hs X _ hX.go.inv hX.gl ⟨by simp [hx,hy],?_⟩).mono ?_
 ·refine Z0t (by simp [hx]) (Z0t hx hxr fun i h1 h2=>by simp only [Array.getElem_map,List.getElem_map,Array.getElem_toList];exact hev _) hyr
 ·rintro e w' ⟨c,v,H',Y,⟨rfl,h3⟩ | ⟨k,hk,rfl,h3⟩,rfl,h1,h2⟩
  ·exact ⟨_,⟨Y,hX.step h1 h2 hd⟩,h3⟩
  ·cases hk
   exact hp c v Y H' (hX.step h1 h2 (dst:=none) (by simp)) h2 h3
def endD (P:Program) (X:Cx) (H:Heap) (K:V→Heap→Prop) (e:Ending) (w:World):Prop:=∃ c v H' Y,e = .returned c∧Y.w=w∧Goes X H Y H'∧Rel Y c v∧K v H'
theorem Z5r {G:Nat→V} {f:FuncId} {fn:Func} {c:Code} {args:List V} {H:Heap} {K:V→Heap→Prop} (q n:Nat) (rs:List ResultVar) (hf:P.funcs[f]? = some fn) (hb:fn.body=some c) (hn:fn.ntmps=n) (hr:fn.results.toList=rs)
  (hn0:Nat.ble args.length n=true)
  (h:∀ X,AWR P ⟨X,H,n,q,G,none,[]⟩ c (bodyPostD P fn (endD P X H K)) ⟨Z9e 0 args,H⟩):Spec P G f args H K:=by
 subst hn;subst hr;intro X cargs hbase hI hG hA;have hn:=Nat.le_of_ble_eq_true hn0;refine calls_of_wp_defers hf hb ?_;have hlen:=hA.len;refine h X _ _ ⟨X,rfl,Goes.refl hI,.none _,by simp;omega,?_,hG⟩;intro t
 rcases Zjg args 0 t with h1 | ⟨_,h2,h3⟩
 ·show Rel X _ (Z9e 0 args t)
  rw [h1];exact .top _
 ·show Rel X _ (Z9e 0 args t)
  rw [h3];simp only [Nat.sub_zero] at h2 ⊢
  have h1:(cargs++Array.replicate (fn.ntmps-cargs.size) undef).getD t undef=cargs[t]'(by omega):=by
   simp [Array.getD,Array.getElem_append,hlen,h2];intro hh;omega
  rw [h1];have:=hA.rel t (by omega) h2;simpa [List.getD,List.getElem?_eq_getElem h2] using this
theorem Zu5 {X:Cx} {H:Heap} {n q:Nat} {G:Nat→V} {fn:Func} {K:V→Heap→Prop} {s:AS} {a:Act} {w:World} {v:V} {rs:List ResultVar} (hrs:fn.results.toList=rs) (hs:Sat ⟨X,H,n,q,G,none,[]⟩ s a w) (hv:Zl8 P s rs=some v) (hk:K v s.H) :
  bodyPostD P fn (endD P X H K) .ret a w:=by
 subst hrs;obtain ⟨Y,hY⟩:=hs;obtain ⟨c,hc,hr⟩:=Zlo hY hv;have hd:a.defers=[]:=(show DefR Y a.defers [] from hY.df).nil
 show Leaves P fn a.tmps _ a.defers .returning w
 rw [hd];exact ⟨c,hc,c,v,s.H,Y,rfl,hY.hw,hY.go,hr,hk⟩
def SpecF (P:Program) (G:Nat→V) (f:FuncId) (args:List V) (H:Heap) (pv:Option V) (K:Heap→Prop):Prop :=
 ∀ (X:Cx) (cargs:Array Value) (u:FrameMode),Inv X H→(∀ g,RelG X g (G g))→RelA X cargs args →
  (match pv with | none=>u = .returning | some v=>∃ c,u = .panicking [{ v:=c,recovered:=false }]∧Rel X c v) →
  CallsD P f cargs u X.w (fun e u' w'=>∃ x Y H',e = .returned x∧settle u' = .returning∧Y.w=w'∧Goes X H Y H'∧K H')
theorem Z55 {Y:Cx} {H:Heap} {G:Nat→V} {fid:FuncId} {first cap:List V} {ds:List Deferred} {w:World} {fn:Func} {tmps:Array Value} {R:Ending→World→Prop} {u:FrameMode} {pv:Option V} {K:Heap→Prop}
  (hdf:DefR Y ds [.func (.func fid) first cap]) (hw:Y.w=w) (hI:Inv Y H) (hG:∀ g,RelG Y g (G g)) (hen:Zfa P fid=true) (hu:match pv with | none=>u = .returning | some v=>∃ c,u = .panicking [{ v:=c,recovered:=false }]∧Rel Y c v)
  (hs:SpecF P G fid (first++cap) H pv K) (hR:∀ Z H',Goes Y H Z H'→K H'→∃ v,(results fn tmps).run P Z.w = .ok v Z.w∧R (.returned v) Z.w):Leaves P fn tmps R ds u w:=by
 subst hw;obtain ⟨hl,hd⟩:=hdf
 match ds,hl with
 | [d],_ =>
  obtain ⟨fn',capc,ht,hr⟩:=hd 0 (by simp) (by simp);simp only [List.getElem_cons_zero] at ht hr;obtain ⟨t,dargs⟩:=d;simp only at ht hr;subst ht
  cases hr with
  | func _ _ _ _ _ hx hy hxr hyr =>
  refine leaves_cons (f:=fid) (args:=dargs++capc) ?_ ?_ ?_
  ·cases pv with
   | none=>subst hu;simp
   | some v=>obtain ⟨c,rfl,_⟩:=hu;simp
  ·unfold Zfa at hen
   split at hen
   ·rename_i fn2 hfn
    simp only [Bool.and_eq_true] at hen;obtain ⟨hn1,hn2⟩:=hen
    have hn1':(fn2.name == "runtime.NumGoroutine")=false:=by simpa using hn1
    have hn2':fn2.body.isNone=false:=by cases hb:fn2.body<;>simp_all
    simp only [invoke,callFunc,Sem.run_bind,run_program,Result.andThen_ok,hfn,hn1',hn2'];simp
   ·simp at hen
  ·refine (hs Y (dargs++capc) u hI hG ⟨by simp [hx,hy],Z0t hx hxr hyr⟩ hu).mono ?_
   rintro e u' w' ⟨x,Z,H',rfl,hset,rfl,hg,hk⟩
   show Leaves P fn tmps R [] (settle u') Z.w
   rw [hset];exact hR Z H' hg hk
theorem Z6t {ops:Array Oper} {Q:AS→Prop} {R:Exit→Act→List Frame→World→Prop} {cs:List Frame} (hk:E.kp=none) (hR:∀ s a w,Sat E s a w→Q s→R .normal a cs w) (hd:(ops.all (Z3e E.n))=true):∀ (l:List Oper) (k:Nat) (s:AS) (a:Act) (w:World),Sat E s a w→(∀ j,l[j]? = ops[k+j]?)→Zdb P E ops Q l s →
  wpOpsS P ops R ((List.range l.length).map (k + ·)) a cs w
 | [],k,s,a,w,hs,_,h=>by
  simp only [List.length_nil,List.range_zero,List.map_nil,wpOpsS];exact hR s a w hs h
 | o::rest,k,s,a,w,⟨X,hX⟩,hl,h=>by
  have hk0:ops[k]? = some o:=by have:=hl 0;simpa using this.symm
  have hl':∀ j,rest[j]? = ops[k+1+j]? := fun j=>by have:=hl (j+1);rw [show k+1+j=k+(j+1) by omega];simpa using this
  have hmem:∀ (o':Oper) d,o'∈ops→o'.dst=some d→d<E.n:=by
   intro o' d ho hdst;rw [Array.all_eq_true'] at hd;have:=hd o' ho;unfold Z3e at this;rw [hdst] at this;simpa using this
  have hko:o∈ops:=by rw [Array.getElem?_eq_some_iff] at hk0;obtain ⟨hlt,rfl⟩:=hk0;exact Array.getElem_mem hlt
  have hrange:(List.range (o::rest).length).map (k + ·)=k::(List.range rest.length).map (k+1 + ·):=by
   simp only [List.length_cons,List.range_succ_eq_map,List.map_cons,Nat.add_zero,List.map_map]
   congr 1
   apply List.map_congr_left;intro j _;simp;omega
  rw [hrange];simp only [wpOpsS,hk0];simp only [Zdb] at h
  cases hwa:Z9 ops s.τ o with
  | none=>rw [hwa] at h;exact h.elim
  | some b =>
   have hb:=Zrh hX hwa hmem;rw [hwa] at h;rw [hb]
   cases b with
   | true =>
    simp only [if_true] at h ⊢
    have h1:o.wp P a w (fun a' w'=>wpOpsS P ops R ((List.range rest.length).map (k+1 + ·)) a' cs w') (fun e a' w'=>R e a' cs w'):=by
     refine Oper.wp_mono ?_ (Zll hX (fun d hdst=>hmem o d hko hdst) h (fun ch a w hp=>(hp.no hk).elim));rintro a' w' ⟨v,H',hk',hs'⟩;exact Z6t hk hR hd rest (k+1) _ _ _ hs' hl' hk'
    unfold Oper.wp at h1
    revert h1
    generalize (execOp a.eval o).run P w=r;intro h1
    split
    ·exact h1.elim
    ·exact h1
   | false =>
    simp only [Bool.false_eq_true,if_false] at h ⊢;refine Z6t hk hR hd rest (k+1) _ _ _ ⟨X,?_⟩ hl' h;have:=hX.step (Goes.refl hX.go.inv) (dst:=o.dst) (c:=undef) (v := .tuple []) (.tuple #[] [] rfl (fun i h1 h2=>by simp at h2)) (fun d hdst=>hmem o d hko hdst);rw [hX.hw] at this;exact this
def recV:Option V→V
 | none => .nili
 | some v=>v
def endF (K:Heap→Prop):Exit→AS→Prop
 | .normal,s | .ret,s=>K s.H
 | _,_=>False
theorem Zom {G:Nat→V} {f:FuncId} {fn:Func} {id:Nat} {ops:Array Oper} {y:Code} {args:List V} {H:Heap} {pv:Option V} {K:Heap→Prop} (q n d:Nat) {ty:TypeId} {pos:String} {af:Array Edge} {rest:List Oper} (hf:P.funcs[f]? = some fn) (hb:fn.body=some (.seq (.region id ops false) y)) (hn:fn.ntmps=n) (hr:fn.results = #[]) (hn0:Nat.ble args.length n=true)
  (ho:ops.toList=⟨some d,.call ⟨.builtin .recover,#[],#[]⟩,ty,pos,af,none⟩::rest) (hd:(ops.all (Z3e n))=true) (hdn:Nat.blt d n=true)
  (h:∀ X,Zdb P ⟨X,H,n,q,G,none,[]⟩ ops (AW P ⟨X,H,n,q,G,none,[]⟩ y (endF K)) rest (AS.put ⟨Z9e 0 args,H⟩ (some d) (recV pv))):SpecF P G f args H pv K:=by
 subst hn;intro X cargs u hI hG hA hu;have hn:=Nat.le_of_ble_eq_true hn0;have hlen:=hA.len
 have hdn:d<fn.ntmps:=by have:=hdn;simp [Nat.blt] at this;omega
 let E:Ent:=⟨X,H,fn.ntmps,q,G,none,[]⟩
 have hs0:SatX E X ⟨Z9e 0 args,H⟩ { tmps:=cargs++Array.replicate (fn.ntmps-cargs.size) undef,defers:=[] } X.w:=by
  refine ⟨rfl,Goes.refl hI,.none _,by simp [E];omega,?_,hG⟩;intro t
  rcases Zjg args 0 t with h1 | ⟨_,h2,h3⟩
  ·show Rel X _ (Z9e 0 args t)
   rw [h1];exact .top _
  ·show Rel X _ (Z9e 0 args t)
   rw [h3];simp only [Nat.sub_zero] at h2 ⊢
   have h1:(cargs++Array.replicate (fn.ntmps-cargs.size) undef).getD t undef=cargs[t]'(by omega):=by
    simp [Array.getD,Array.getElem_append,hlen,h2];intro hh;omega
   rw [h1];have:=hA.rel t (by omega) h2;simpa [List.getD,List.getElem?_eq_getElem h2] using this
 refine callsD_of_wpS hf hb fun c₀ cs hc=>?_
 obtain ⟨rv,u',hset,hrel,hrec⟩:∃ (rv:Value) (u':FrameMode),settle u' = .returning∧Rel X rv (recV pv) ∧
   ((recoverD (c₀ :: cs)=some (rv,{ c₀ with mode:=u' }::cs))∨(recoverD (c₀ :: cs)=none∧rv = .nilIface∧({ c₀ with mode:=u' }:Frame)=c₀)):=by
  cases pv with
  | none =>
   subst hu;exact ⟨.nilIface,.returning,rfl,.nili,.inr ⟨by simp [recoverD,hc],rfl,by rw [← hc]⟩⟩
  | some v =>
   obtain ⟨c,rfl,hr⟩:=hu;exact ⟨c,.panicking [{ v:=c,recovered:=true }],rfl,hr,.inl (by simp [recoverD,hc])⟩
 refine wpS_seq (wpS_region ?_)
 have hsz:ops.size=rest.length+1:=by rw [← Array.length_toList,ho];rfl
 have h0:ops[0]? = some ⟨some d,.call ⟨.builtin .recover,#[],#[]⟩,ty,pos,af,none⟩:=by rw [← Array.getElem?_toList,ho];rfl
 have hrange:List.range ops.size=0::(List.range rest.length).map (1 + ·):=by
  rw [hsz,List.range_succ_eq_map]
  congr 1
  apply List.map_congr_left;intro j _;simp;omega
 have hst:Sat E (AS.put ⟨Z9e 0 args,H⟩ (some d) (recV pv)) (({ tmps:=cargs++Array.replicate (fn.ntmps-cargs.size) undef,defers:=[] }:Act).put (some d) rv) X.w :=
  ⟨X,hs0.step (Goes.refl hI) (dst:=some d) hrel (fun d' h'=>by cases h';exact hdn)⟩
 have go:wpOpsS P ops (Exit.thenS (fun a cs' w=>y.wpS P (bodyPostS P fn c₀ cs (fun e u' w'=>∃ x Y H',e = .returned x∧settle u' = .returning∧Y.w=w'∧Goes X H Y H'∧K H')) a cs' w) (bodyPostS P fn c₀ cs (fun e u' w'=>∃ x Y H',e = .returned x∧settle u' = .returning∧Y.w=w'∧Goes X H Y H'∧K H')))
   ((List.range rest.length).map (1 + ·)) (({ tmps:=cargs++Array.replicate (fn.ntmps-cargs.size) undef,defers:=[] }:Act).put (some d) rv) ({ c₀ with mode:=u' }::cs) X.w:=by
  refine Z6t (E:=E) (Q:=AW P E y (endF K)) rfl ?_ hd rest 1 _ _ _ hst (fun j=>by rw [← Array.getElem?_toList,ho,Nat.add_comm];simp) (h X);intro s a w hsat hq
  show y.wpS P (bodyPostS P fn c₀ _ _) a _ w
  refine wpS_of_wp (wp_mono (hq a w hsat) ?_);rintro e a' w' (⟨s',⟨Y,hY⟩,hQ⟩ | ⟨ch,rfl,hp⟩)
  ·have hres:(results fn a'.tmps).run P w' = .ok (.tuple #[]) w':=by
    unfold results;rw [hr];simp [Sem.run]
   have hdf:a'.defers=[]:=(show DefR Y a'.defers [] from hY.df).nil
   cases e with
   | normal=>exact ⟨hdf,u',rfl,_,hres,_,Y,s'.H,rfl,hset,hY.hw,hY.go,hQ⟩
   | ret=>exact ⟨hdf,u',rfl,_,hres,_,Y,s'.H,rfl,hset,hY.hw,hY.go,hQ⟩
   | exit id=>exact hQ.elim
   | goto l=>exact hQ.elim
   | panic ch=>exact hQ.elim
   | outgrown=>exact hQ.elim
  ·exact (hp.no rfl).elim
 rw [hrange];simp only [wpOpsS,h0]
 have hw:Region.wanted (⟨some d,.call ⟨.builtin .recover,#[],#[]⟩,ty,pos,af,none⟩:Oper) (yielded ops (cargs++Array.replicate (fn.ntmps-cargs.size) undef))=true:=by simp [Region.wanted]
 rw [hw]
 have hrun:(execOp (({ tmps:=cargs++Array.replicate (fn.ntmps-cargs.size) undef,defers:=[] }:Act).eval) ⟨some d,.call ⟨.builtin .recover,#[],#[]⟩,ty,pos,af,none⟩).run P X.w = .ok .recover X.w:=by
  simp [execOp,resolve,invoke,builtin,Sem.run]
 simp only [if_true,hrun]
 rcases hrec with hrec | ⟨hrec,rfl,hc0⟩
 ·rw [hrec];exact go
 ·rw [hrec]
  rw [hc0] at go;exact go
theorem Zzs {G:Nat→V} {s:AS} {a:Act} {X0 Y:Cx} {H0 H3:Heap} {n q:Nat} {kq:Option (V→Heap→Prop)} {fn:Func} {u:FrameMode} {pv:Option V} {K:Heap→Prop} {KV:V→Heap→Prop} {f:FuncId} {first cap:List V} {rs:List ResultVar} (hrs:fn.results.toList=rs)
  (hs:SatX ⟨X0,H0,n,q,G,kq,[.func (.func f) first cap]⟩ Y s a Y.w) (hen:Zfa P f=true) (hu:match pv with | none=>u = .returning | some v=>∃ c,u = .panicking [{ v:=c,recovered:=false }]∧Rel Y c v)
  (hsp:SpecF P G f (first++cap) H3 pv K) (hH:∀ o,H3 o = .dead∨H3 o=s.H o) (hres:∀ H',K H'→∃ v,Zl8 P ⟨s.τ,H'⟩ rs=some v∧KV v H'):Leaves P fn a.tmps (endD P X0 H0 KV) a.defers u Y.w:=by
 subst hrs;have hsub:=Goes.sub hs.go.inv hH;refine Z55 hs.df rfl hsub.inv hs.gl hen hu hsp fun Z H' hg hk=>?_;obtain ⟨v,hv,hkv⟩:=hres H' hk;have hZ:=hs.step (hsub.trans hg) (dst:=none) (c:=undef) (v := .tuple []) (.tuple #[] [] rfl (fun i h1 h2=>by simp at h2)) (by simp);obtain ⟨c,hc,hr⟩:=Zlo (P:=P) (fn:=fn) (s:=⟨s.τ,H'⟩) (a:=a) hZ hv;exact ⟨c,hc,c,v,H',Z,rfl,rfl,hZ.go,hr,hkv⟩
end
end Go.Hs
end
