/- Part 53 of a proof; no condition. -/
import Derived.Test.YtegjlbpnpiigkaaGreatDoorPart51
import Derived.Test.YtegjlbpnpiigkaaGreatDoorPart52
import Derived.Test.YtegjlbpnpiigkaaGreatDoorCards
set_option linter.unusedSimpArgs false
set_option linter.unusedVariables false
section
namespace Go.Proofs.YtegjlbpnpiigkaaGreatDoor
open Go.RowKit Go.Hs Go.ChangeShapes Go.WideShapes Go.ChangeAt
set_option maxRecDepth 100000
def Zx1 (s:List UInt8):Prop:=s.length≤reachBytes
def Zw5 (l:Sl (List UInt8)):Prop:=l.l.length≤reachBytes∧∀ s∈l.l,Zx1 s
def vrOk (p:List UInt8 × Int):Prop:=Zx1 p.1∧InK .i64 p.2
def vtOk (x:VtM):Prop:=Zx1 x.name∧InK .u8 x.kind∧InK .i64 x.region∧InK .i64 x.of∧Zx1 x.entry∧Zx1 x.exit∧Zw5 x.defers∧Zx1 x.sub
def trOk (x:TrM):Prop:=Zx1 x.name∧InK .i64 x.source∧InK .i64 x.target∧Zw5 x.triggers∧InK .i64 x.after∧Zx1 x.guard∧Zx1 x.effect∧InK .u8 x.kind
def slOk {α : Type} (B : α → Prop) (s:Sl α):Prop:=s.l.length≤reachBytes∧∀ a∈s.l,B a
def mdOk (m:MdM):Prop:=Zx1 m.name∧slOk vrOk m.vars∧Zw5 m.events∧slOk vrOk m.regions∧slOk vtOk m.verts∧slOk trOk m.ways
theorem Zlh (W:World):ReadsB Tryz.prog W 9 1 Zx1 (fun s:List UInt8=>[V.str s]):=ReadsB.str Tryz.underlying9 (by kernel_rfl)
theorem Z5v (W:World):ReadsB Tryz.prog W 23 1 Zw5 (fun s:Sl (List UInt8)=>[Zb .any 1 V.str s]) :=
 ReadsB.slice Tryz.underlying23 (by kernel_rfl) (by decide) (by kernel_rfl) (Zlh W)
theorem rb_u8 (W:World):ReadsB Tryz.prog W 5 1 (InK .u8) (fun n=>[V.int .u8 n]):=ReadsB.int Tryz.underlying5 (by kernel_rfl)
theorem Zbq (W:World):ReadsB Tryz.prog W 3 1 (InK .i64) (fun n=>[V.int .i64 n]):=ReadsB.int Tryz.underlying3 (by kernel_rfl)
theorem rb_i64 (W:World):ReadsB Tryz.prog W 2 1 (InK .i64) (fun n=>[V.int .i64 n]):=ReadsB.int Tryz.underlying2 (by kernel_rfl)
theorem rb_var (W:World):ReadsB Tryz.prog W 94 2 vrOk (fun p=>(Zja p).cells):=by
 refine ⟨by kernel_rfl,fun _=>rfl,fun enc held fuel cs x h hw=>?_⟩;obtain ⟨xs,n,_,rfl,hl,hlen,hf⟩:=DataW.trod_struct Tryz.underlying94 h
 have ec:Tryz.prog.cellsOf 94=2:=by kernel_rfl
 rw [ec] at hl;have hx:xs.length=2:=hlen;simp only [DataW.weights,Tryz.underlying94] at hw;obtain ⟨a0,b0,h0⟩:=ReadsB.field (Zlh W) (i:=0) hw (j:=0) rfl (hf 0 _ rfl) (by omega);obtain ⟨a1,b1,h1⟩:=ReadsB.field (rb_i64 W) (i:=1) hw (j:=1) rfl (hf 1 _ rfl) (by omega)
 match cs,hl with
 | [c0,c1],_=>exact ⟨(a0,a1),⟨b0,b1⟩,h0.append h1⟩
theorem rb_rgn (W:World):ReadsB Tryz.prog W 53 2 vrOk (fun p=>(Zja p).cells):=by
 refine ⟨by kernel_rfl,fun _=>rfl,fun enc held fuel cs x h hw=>?_⟩;obtain ⟨xs,n,_,rfl,hl,hlen,hf⟩:=DataW.trod_struct Tryz.underlying53 h
 have ec:Tryz.prog.cellsOf 53=2:=by kernel_rfl
 rw [ec] at hl;have hx:xs.length=2:=hlen;simp only [DataW.weights,Tryz.underlying53] at hw;obtain ⟨a0,b0,h0⟩:=ReadsB.field (Zlh W) (i:=0) hw (j:=0) rfl (hf 0 _ rfl) (by omega);obtain ⟨a1,b1,h1⟩:=ReadsB.field (Zbq W) (i:=1) hw (j:=1) rfl (hf 1 _ rfl) (by omega)
 match cs,hl with
 | [c0,c1],_=>exact ⟨(a0,a1),⟨b0,b1⟩,h0.append h1⟩
theorem rb_vtx (W:World):ReadsB Tryz.prog W 51 8 vtOk (fun x=>(Zwa .any x).cells):=by
 refine ⟨by kernel_rfl,fun _=>rfl,fun enc held fuel cs x h hw=>?_⟩;obtain ⟨xs,n,_,rfl,hl,hlen,hf⟩:=DataW.trod_struct Tryz.underlying51 h
 have ec:Tryz.prog.cellsOf 51=8:=by kernel_rfl
 rw [ec] at hl;have hx:xs.length=8:=hlen;simp only [DataW.weights,Tryz.underlying51] at hw;obtain ⟨a0,b0,h0⟩:=ReadsB.field (Zlh W) (i:=0) hw (j:=0) rfl (hf 0 _ rfl) (by omega);obtain ⟨a1,b1,h1⟩:=ReadsB.field (rb_u8 W) (i:=1) hw (j:=1) rfl (hf 1 _ rfl) (by omega);obtain ⟨a2,b2,h2⟩:=ReadsB.field (Zbq W) (i:=2) hw (j:=2) rfl (hf 2 _ rfl) (by omega);obtain ⟨a3,b3,h3⟩:=ReadsB.field (Zbq W) (i:=3) hw (j:=3) rfl (hf 3 _ rfl) (by omega);obtain ⟨a4,b4,h4⟩:=ReadsB.field (Zlh W) (i:=4) hw (j:=4) rfl (hf 4 _ rfl) (by omega);obtain ⟨a5,b5,h5⟩:=ReadsB.field (Zlh W) (i:=5) hw (j:=5) rfl (hf 5 _ rfl) (by omega);obtain ⟨a6,b6,h6⟩:=ReadsB.field (Z5v W) (i:=6) hw (j:=6) rfl (hf 6 _ rfl) (by omega);obtain ⟨a7,b7,h7⟩:=ReadsB.field (Zlh W) (i:=7) hw (j:=7) rfl (hf 7 _ rfl) (by omega)
 match cs,hl with
 | [c0,c1,c2,c3,c4,c5,c6,c7],_=>exact ⟨⟨a0,a1,a2,a3,a4,a5,a6,a7⟩,⟨b0,b1,b2,b3,b4,b5,b6,b7⟩,h0.append (h1.append (h2.append (h3.append (h4.append (h5.append (h6.append h7))))))⟩
theorem rb_way (W:World):ReadsB Tryz.prog W 55 8 trOk (fun x=>(Zhb .any x).cells):=by
 refine ⟨by kernel_rfl,fun _=>rfl,fun enc held fuel cs x h hw=>?_⟩;obtain ⟨xs,n,_,rfl,hl,hlen,hf⟩:=DataW.trod_struct Tryz.underlying55 h
 have ec:Tryz.prog.cellsOf 55=8:=by kernel_rfl
 rw [ec] at hl;have hx:xs.length=8:=hlen;simp only [DataW.weights,Tryz.underlying55] at hw;obtain ⟨a0,b0,h0⟩:=ReadsB.field (Zlh W) (i:=0) hw (j:=0) rfl (hf 0 _ rfl) (by omega);obtain ⟨a1,b1,h1⟩:=ReadsB.field (Zbq W) (i:=1) hw (j:=1) rfl (hf 1 _ rfl) (by omega);obtain ⟨a2,b2,h2⟩:=ReadsB.field (Zbq W) (i:=2) hw (j:=2) rfl (hf 2 _ rfl) (by omega);obtain ⟨a3,b3,h3⟩:=ReadsB.field (Z5v W) (i:=3) hw (j:=3) rfl (hf 3 _ rfl) (by omega);obtain ⟨a4,b4,h4⟩:=ReadsB.field (Zbq W) (i:=4) hw (j:=4) rfl (hf 4 _ rfl) (by omega);obtain ⟨a5,b5,h5⟩:=ReadsB.field (Zlh W) (i:=5) hw (j:=5) rfl (hf 5 _ rfl) (by omega);obtain ⟨a6,b6,h6⟩:=ReadsB.field (Zlh W) (i:=6) hw (j:=6) rfl (hf 6 _ rfl) (by omega);obtain ⟨a7,b7,h7⟩:=ReadsB.field (rb_u8 W) (i:=7) hw (j:=7) rfl (hf 7 _ rfl) (by omega)
 match cs,hl with
 | [c0,c1,c2,c3,c4,c5,c6,c7],_=>exact ⟨⟨a0,a1,a2,a3,a4,a5,a6,a7⟩,⟨b0,b1,b2,b3,b4,b5,b6,b7⟩,h0.append (h1.append (h2.append (h3.append (h4.append (h5.append (h6.append h7))))))⟩
theorem rb_md (W:World):ReadsB Tryz.prog W 28 6 mdOk (fun m=>(Z2 .any .any m).cells):=by
 refine ⟨by kernel_rfl,fun _=>rfl,fun enc held fuel cs x h hw=>?_⟩;obtain ⟨xs,n,_,rfl,hl,hlen,hf⟩:=DataW.trod_struct Tryz.underlying28 h
 have ec:Tryz.prog.cellsOf 28=6:=by kernel_rfl
 rw [ec] at hl;have hx:xs.length=6:=hlen;simp only [DataW.weights,Tryz.underlying28] at hw;obtain ⟨a0,b0,h0⟩:=ReadsB.field (Zlh W) (i:=0) hw (j:=0) rfl (hf 0 _ rfl) (by omega);obtain ⟨a1,b1,h1⟩:=ReadsB.field (ReadsB.slice Tryz.underlying22 (by kernel_rfl) (by decide) (by kernel_rfl) (rb_var W)) (i:=1) hw (j:=1) rfl (hf 1 _ rfl) (by omega);obtain ⟨a2,b2,h2⟩:=ReadsB.field (Z5v W) (i:=2) hw (j:=2) rfl (hf 2 _ rfl) (by omega);obtain ⟨a3,b3,h3⟩:=ReadsB.field (ReadsB.slice Tryz.underlying24 (by kernel_rfl) (by decide) (by kernel_rfl) (rb_rgn W)) (i:=3) hw (j:=3) rfl (hf 3 _ rfl) (by omega);obtain ⟨a4,b4,h4⟩:=ReadsB.field (ReadsB.slice Tryz.underlying25 (by kernel_rfl) (by decide) (by kernel_rfl) (rb_vtx W)) (i:=4) hw (j:=4) rfl (hf 4 _ rfl) (by omega);obtain ⟨a5,b5,h5⟩:=ReadsB.field (ReadsB.slice Tryz.underlying26 (by kernel_rfl) (by decide) (by kernel_rfl) (rb_way W)) (i:=5) hw (j:=5) rfl (hf 5 _ rfl) (by omega)
 match cs,hl with
 | [c0,c1,c2,c3,c4,c5],_=>exact ⟨⟨a0,a1,a2,a3,a4,a5⟩,⟨b0,b1,b2,b3,b4,b5⟩,h0.append (h1.append (h2.append (h3.append (h4.append h5))))⟩
variable {W:World} {H:Type} {enc:TypeId × Value→H} {b0:Nat} {v:Value} {d:DataW H} {ps:List MemPlace}
theorem argD (hv:Value.okWide Tryz.prog W .any b0 28 v) (h:DataW.Trod enc Tryz.prog W 0 (fun _=>true) true 28 v d ps) (hw:(d.weights Tryz.prog 28).all (· ≤ reachBytes)=true):∃ x:MdM,mdOk x∧Rel (Z7b W) v (Z2 .old .old x):=by
 obtain ⟨fuel,h⟩:=h;obtain ⟨x,hB,hx⟩:=(rb_md W).2.2 enc true fuel _ _ h hw
 have key:Rel (Z7b W) v (Z2 .any .any x):=by
  unfold Value.okWide at hv;rw [Tryz.underlying28] at hv;obtain ⟨cs,rfl,_,_⟩:=hv;exact Zsx hx
 have h2:=key.ofW_old;rw [Zym] at h2;exact ⟨x,hB,h2⟩
theorem Znq {a:Assume} {C:Checked} {os:Os} {f:FuncId} {fn:Func} {H:Type} {enc:TypeId × Value→H} {s:ChangeSpec} {conds:List PathCond} {apart fresh handsOn again:Bool} {X:World→Array Value→Prop}
  (hX:∀ (w w':World) (args:Array Value),w.heap=w'.heap→X w args→X w' args)
  (ownk:ownKnob C.prog.godebug=none) (started:os.Started) (noInit:C.prog.inits.idxOf? f=none) (hfn:C.prog.funcs[f]? = some fn)
  (witness:∃ (w:World) (tape:Tape) (i:Input),w.os=os∧(w.forCall tape i).Shaped C.prog∧i.vars=[]∧Input.okWide C.prog (w.forCall tape i) .any w.heap.size f i ∧
   ((s.pre enc C.prog fn conds apart (w.forCall tape i).memory i.args∧X (w.forCall tape i).memory i.args)∧sizedMet enc C.prog fn (OpenSpec.ofChange s) apart (w.forCall tape i).memory i.args)∧a.holds C.prog (lone (Frame.enter C.prog f i.args .normal) [] (w.forCall tape i)))
  (contract:∀ (W:World) (base:Nat) (args:Array Value) (ds gs:List (DataW H)) (before:List MemPlace),W.ShapedOpen C.prog →
   (∀ (j:Nat) t v,fn.params[j]? = some t→args[j]? = some v→Value.okWide C.prog W .any base t v) →
   DataW.Whole enc C.prog fn.params.toList s.vars apart W args.toList ds gs before →
   (DataW.weightsEach C.prog (fn.params.toList++s.plain.varTypes C.prog) (ds++gs)).all (· ≤ reachBytes)=true→X W args →
   Calls C.prog f args W fun e W'=>∃ v,e = .returned v∧s.post enc C.prog fn apart fresh handsOn again W args v W') :
  ReturnsInHanded a C os f .any (fun w args=>(s.pre enc C.prog fn conds apart w args∧X w args)∧sizedMet enc C.prog fn (OpenSpec.ofChange s) apart w args) (s.post enc C.prog fn apart fresh handsOn again):=by
 refine returnsInHanded_of_calls ownk started noInit witness ?_;intro w tape i _ hsh _ hok hpre _;obtain ⟨_,_,_,fn',hfn',_,_,_,_,hval⟩:=hok;have e:fn'=fn:=Option.some.inj (hfn'.symm.trans hfn);subst e;obtain ⟨⟨⟨ds,gs,before,hw,_⟩,hx⟩,hz⟩:=hpre;have hw':=DataW.Whole.of_heap (w':=w.forCall tape i) (by rfl) hw;refine (contract (w.forCall tape i) w.heap.size i.args ds gs before hsh hval hw' (hz.weights hw) (hX _ _ _ (by rfl) hx)).mono fun e W' ⟨v,he,hp⟩=>?_;subst he;exact ChangeSpec.post_blind hp
end Go.Proofs.YtegjlbpnpiigkaaGreatDoor
end

section
namespace Go.Proofs.YtegjlbpnpiigkaaGreatDoor
open Go.RowKit Go.Hs
theorem Zm8 {m:MdM} (h:mdOk m):MdR m:=by
 obtain ⟨h1,⟨h2,h3⟩,⟨h4,h5⟩,⟨h6,h7⟩,⟨h8,h9⟩,⟨h10,h11⟩⟩:=h;refine ⟨h1,⟨h2,fun p hp=>(h3 p hp).1⟩,⟨h4,h5⟩,⟨h6,fun p hp=>(h7 p hp).1⟩,⟨h8,fun x hx=>?_⟩,⟨h10,fun x hx=>?_⟩⟩
 ·obtain ⟨q1,_,_,_,q2,q3,⟨q4,q5⟩,q6⟩:=h9 x hx
  exact ⟨q1,q2,q3,q6,q4,q5⟩
 ·obtain ⟨q1,_,_,⟨q2,q3⟩,_,q4,q5,_⟩:=h11 x hx
  exact ⟨q1,q4,q5,q2,q3⟩
end Go.Proofs.YtegjlbpnpiigkaaGreatDoor
end

section
namespace Go.Proofs.YtegjlbpnpiigkaaGreatDoor
open Go.RowKit Go.Hs Go.ChangeShapes Go.WideShapes Go.ChangeAt
set_option maxRecDepth 100000
set_option maxHeartbeats 4000000
theorem Z87:mapsRowed Tryz.prog=true:=by kernel_rfl
theorem Ze2:(Tryz.prog.stops==[])=true:=by kernel_rfl
theorem Zf2:(Tryz.prog.stopKnobs==[])=true:=by kernel_rfl
theorem Za8:(Rows.wfCheckRow.plainKeys==Tryz.prog.plainKeys)=true:=by kernel_rfl
theorem Zg2:Tryz.prog.stopsHeard=true:=by kernel_rfl
theorem Zh2:Tryz.prog.mayEnter=true:=by kernel_rfl
theorem Z8x:(Rows.wfCheckRow.lifted==Tryz.prog.liftsFinal)=true:=by kernel_rfl
theorem Z97:(Tryz.prog.make==some Rows.wfCheckRow.make)=true:=by kernel_rfl
end Go.Proofs.YtegjlbpnpiigkaaGreatDoor
end

section
namespace Go.Hs
section
namespace PM
variable {m:PM} {bd:List (List UInt8)→List (List UInt8)→List UInt8→Bool} {gd:List (List UInt8)→List UInt8→Int}
theorem Z2o (rule a:Nat):∀ n,a<n→∃ t,m.badAt bd gd rule n=m.badAt bd gd rule a++(if m.keep bd gd rule (a:Int)=true then [] else [(rule,(a:Int))])++t∧∀ x∈t,x.1=rule∧(a:Int)<x.2
 | 0,h=>absurd h (Nat.not_lt_zero _)
 | n+1,h=>by
  rcases Nat.lt_or_ge a n with q | q
  ·obtain ⟨t,e,ht⟩:=Z2o rule a n q
   rw [badAt_succ,e];refine ⟨_,List.append_assoc _ _ _,fun x hx=>?_⟩
   rcases List.mem_append.1 hx with hx | hx
   ·exact ht x hx
   ·split at hx
    ·cases hx
    ·rw [List.mem_singleton.1 hx]
     exact ⟨rfl,by show (a:Int)<(n:Int);omega⟩
  ·obtain rfl:a=n:=by omega
   exact ⟨[],by rw [badAt_succ,List.append_nil],fun x hx=>by cases hx⟩
theorem Z0q (r:Nat):∀ k,r≤k→∃ t,m.badL bd gd k=m.badL bd gd r++t∧∀ x∈t,r<x.1
 | 0,h=>by
  obtain rfl:r=0:=by omega
  exact ⟨[],(List.append_nil _).symm,fun x hx=>by cases hx⟩
 | k+1,h=>by
  rcases Nat.lt_or_ge r (k+1) with q | q
  ·obtain ⟨t,e,ht⟩:=Z0q r k (by omega)
   rw [badL_succ,e];refine ⟨_,List.append_assoc _ _ _,fun x hx=>?_⟩
   rcases List.mem_append.1 hx with hx | hx
   ·exact ht x hx
   ·rw [badAt] at hx
    obtain ⟨i,_,rfl⟩:=List.mem_map.1 hx;exact q
  ·obtain rfl:r=k+1:=by omega
   exact ⟨[],(List.append_nil _).symm,fun x hx=>by cases hx⟩
def ahead (m:PM) (bd:List (List UInt8)→List (List UInt8)→List UInt8→Bool) (gd:List (List UInt8)→List UInt8→Int) (rule a:Nat):Nat:=(m.badL bd gd (rule-1)).length+(m.badAt bd gd rule a).length
theorem ahead_succ (rule a:Nat):m.ahead bd gd rule (a+1)=m.ahead bd gd rule a+if m.keep bd gd rule (a:Int)=true then 0 else 1:=by
 rw [ahead,ahead,badAt_succ,List.length_append]
 split<;>simp only [List.length_nil,List.length_cons]<;>omega
theorem ahead_next {rule:Nat} (h:1≤rule):m.ahead bd gd rule (m.places rule)=m.ahead bd gd (rule+1) 0:=by
 obtain ⟨r,rfl⟩:∃ r,rule=r+1:=⟨rule-1,by omega⟩;rw [ahead,ahead,Nat.add_sub_cancel,Nat.add_sub_cancel,badL_succ,List.length_append];rfl
theorem told_eq {rule a:Nat} (h1:1≤rule) (h2:rule≤15) (ha:a<m.places rule) :
  (m.keep bd gd rule (a:Int)=false∧(m.badL bd gd 15)[m.ahead bd gd rule a]? = some (rule,(a:Int)))∨(m.keep bd gd rule (a:Int)=true∧(m.badL bd gd 15)[m.ahead bd gd rule a]? ≠ some (rule,(a:Int))):=by
 obtain ⟨r,rfl⟩:∃ r,rule=r+1:=⟨rule-1,by omega⟩;obtain ⟨t,e,ht⟩:=Z0q (m:=m) (bd:=bd) (gd:=gd) (r+1) 15 h2;obtain ⟨u,f,hu⟩:=Z2o (m:=m) (bd:=bd) (gd:=gd) (r+1) a _ ha;rw [badL_succ r,f] at e;rw [e,ahead,Nat.add_sub_cancel]
 cases hk:m.keep bd gd (r+1) (a:Int) with
 | false =>
  refine .inl ⟨rfl,?_⟩;rw [if_neg (by decide),List.append_assoc,List.append_assoc,List.append_assoc,List.getElem?_append_right (Nat.le_add_right _ _),List.getElem?_append_right (by omega)];rw [show (m.badL bd gd r).length+(m.badAt bd gd (r+1) a).length-(m.badL bd gd r).length-(m.badAt bd gd (r+1) a).length=0 by omega];rfl
 | true =>
  refine .inr ⟨rfl,fun h=>?_⟩;rw [if_pos rfl,List.append_nil,List.append_assoc,List.append_assoc,List.getElem?_append_right (Nat.le_add_right _ _),List.getElem?_append_right (by omega)] at h;have:=List.mem_of_getElem? h
  rcases List.mem_append.1 this with q | q
  ·have:=(hu _ q).2;simp only at this;omega
  ·have:=ht _ q;simp only at this;omega
theorem ahead_end:m.ahead bd gd 15 (m.places 15)=(m.badL bd gd 15).length:=by
 rw [ahead_next (by decide),ahead];rfl
theorem ahead_zero:m.ahead bd gd 1 0=0:=rfl
end PM
end
end Go.Hs
end

section
namespace Go.Hs
open Go.Proofs
set_option maxRecDepth 10000
set_option maxHeartbeats 4000000
def PM.aheadR (m:PM) (r:Nat):Nat:=if r=0 then 0 else if r≤15 then m.ahead Zea Z4 r 0 else (m.badL Zea Z4 15).length
def PM.spots (m:PM) (r:Nat):Nat:=if r=1 then m.regions.length else if r≤8∨r=13 then m.vertices.length else m.ways.length
def PM.aheadA (m:PM) (r j:Nat):Nat:=if 1≤r∧r≤15 then m.ahead Zea Z4 r (min (j-1) (m.spots r)) else m.aheadR r
theorem Z7g {m:PM} {r:Nat} (h:1≤r):m.spots r=m.places r:=by
 unfold PM.spots PM.places;rfl
theorem Zup (m:PM) (r:Nat):m.aheadA r 0=m.aheadR r:=by
 unfold PM.aheadA PM.aheadR
 split
 ·rename_i h;rw [if_neg (by omega),if_pos h.2,Nat.zero_sub,Nat.zero_min]
 ·rfl
theorem Zks (m:PM) {r:Nat} (h:r<17):m.aheadA r (m.spots r+2)=m.aheadR (r+1):=by
 unfold PM.aheadA
 by_cases h1:1≤r∧r≤15
 ·rw [if_pos h1,Nat.min_eq_right (by omega),Z7g h1.1]
  by_cases h2:r=15
  ·subst h2;rw [PM.ahead_end]<;>rfl
  ·rw [PM.ahead_next h1.1]
   unfold PM.aheadR;rw [if_neg (by omega),if_pos (by omega)]
 ·rw [if_neg h1]
  have:r=0∨r=16:=by omega
  rcases this with rfl | rfl
  ·exact PM.ahead_zero.symm
  ·rfl
theorem PM.aheadA_skip (m:PM) {r j:Nat} (h:r<1∨15<r∨j=0∨j=m.spots r+1):m.aheadA r (j+1)=m.aheadA r j:=by
 unfold PM.aheadA
 split
 ·congr 1
  rcases h with h | h | rfl | rfl<;>omega
 ·rfl
theorem PM.ruleW_no (m:PM) {r j:Nat} (h:r<1∨15<r∨j=0∨j=m.spots r+1):m.ruleW Zea Z4 (r:Int) ((j:Int)-1)=false:=by
 rw [PM.ruleW,Int.toNat_natCast]
 rcases h with h | h | rfl | rfl
 ·rw [decide_eq_false (p:=1≤(r:Int)) (by omega)];simp
 ·rw [decide_eq_false (p:=(r:Int)≤15) (by omega)];simp
 ·rw [decide_eq_false (p:=0≤((0:Nat):Int)-1) (by omega)];simp
 ·by_cases h1:1≤r
  ·rw [decide_eq_false (p:=(((m.spots r+1:Nat)):Int)-1<m.places r) (by rw [← Z7g h1];omega)];simp
  ·rw [decide_eq_false (p:=1≤(r:Int)) (by omega)];simp
theorem PM.ruleW_at (m:PM) (he:(m.rightP).2.2=0) {r a:Nat} (h1:1≤r) (h2:r≤15) (ha:a<m.spots r):m.ruleW Zea Z4 (r:Int) (a:Int)=m.keep Zea Z4 r (a:Int):=by
 rw [PM.ruleW,Int.toNat_natCast,decide_eq_true he,decide_eq_true (p:=1≤(r:Int)) (by omega),decide_eq_true (p:=(r:Int)≤15) (by omega),decide_eq_true (p:=0≤(a:Int)) (by omega),decide_eq_true (p:=(a:Int)<m.places r) (by rw [← Z7g h1];omega)];simp
theorem PM.aheadA_at (m:PM) {r a:Nat} (h1:1≤r) (h2:r≤15) (ha:a<m.spots r):m.aheadA r (a+1)=m.ahead Zea Z4 r a∧m.aheadA r (a+2)=m.ahead Zea Z4 r a+if m.keep Zea Z4 r (a:Int)=true then 0 else 1:=by
 unfold PM.aheadA;rw [if_pos ⟨h1,h2⟩,if_pos ⟨h1,h2⟩,← PM.ahead_succ];exact ⟨by congr 1;omega,by congr 1;omega⟩
theorem Zm3 (G:Nat→V) (hE:GExp G) (m:MdM) (hr:MdR m):Spec Tryz.prog G 4 [Z2 .old .old m] Zl (fun v _=>v = .bool true):=by
 have hG:=hE.ok;have hW:=Z1l G hE;refine Zo 0 124 [.tmp 2] Tryz.func4 fun X=>?_;simp only [Zj];refine Z ?_;intro g1;refine AW.weak (Zv (fun o=>o==1) (l:=[(1,.view .new (Z2 .old .old m))]) (m:=[]) ?_ trivial) ?_
 ·refine Zs ?_
  exact Fz.ptr (v:=Z2 .old .old m) (c := .new) (fz:=0) zp zp
 refine Zf Zj ?_;refine Ze hG ?_ (s:=Z0t G hG .old .old m hr);rintro _ ⟨b,rfl,hb⟩
 cases b with
 | false =>
  refine Zg Zj ?_;refine Zc hG ?_ (s:=hW);exact Zr
 | true =>
 have hf:=hb rfl;have hB:=hf.b hr;have n3:=hf.nr;have n4:=hf.nx;have n5:=hf.nw
 by_cases h1:m.ways.l.length > 15
 ·have q:decide ((m.ways.l.length:Int) > 15)=true:=zT
  refine Zg (zi q Zj) ?_;refine Zc hG ?_ (s:=hW);exact Zr
 have q1:decide ((m.ways.l.length:Int) > 15)=false:=zF
 by_cases h2:m.verts.l.length > 15
 ·have q:decide ((m.verts.l.length:Int) > 15)=true:=zT
  refine Zg (zi q1 (zi q Zj)) ?_;refine Zc hG ?_ (s:=hW);exact Zr
 have q2:decide ((m.verts.l.length:Int) > 15)=false:=zF
 by_cases h3:m.regions.l.length > 15
 ·have q:decide ((m.regions.l.length:Int) > 15)=true:=zT
  refine Zg (zi q1 (zi q2 (zi q Zj))) ?_;refine Zc hG ?_ (s:=hW);exact Zr
 have q3:decide ((m.regions.l.length:Int) > 15)=false:=zF;refine Zg (zi q1 (zi q2 (zi q3 Zj))) ?_;have hck:=fun c d=>Zxe G hE c d m hB hf.t;have hrl:=fun c d r a h h'=>Zk2 G hE c d m hB hf.t r a h h'
 by_cases he:(m.p.rightP).2.2=0
 rotate_left
 ·have hcw:m.p.checkW Zea Z4=([],(m.p.rightP).2.2):=by rw [PM.checkW,if_pos he]
  have hrw:m.p.ruleW Zea Z4 1 0=false:=by rw [PM.ruleW,decide_eq_false he];simp
  rw [hcw] at hck
  have u:((m.p.rightP).2.2 != 0)=true:=by simpa using he
  have hr1:=fun c d=>hrl c d 1 0 (by decide) (by decide);rw [hrw] at hr1;refine Zc hG ?_ (s:=hck _ _);refine Zf (zi u Zj) ?_;refine Zc hG ?_ (s:=hr1 _ _);refine Zc hG ?_ (s:=hW);exact Zr
 have hcw:m.p.checkW Zea Z4=(m.p.badL Zea Z4 15,0):=by rw [PM.checkW,if_neg (by rw [he];simp)]
 have hWl:(m.p.badL Zea Z4 15).length≤100000:=by
  have:=m.p.checkW_len (bd:=Zea) (gd:=Z4) (by rw [m.nv];omega) (by rw [m.nw];omega) (by show m.regions.l.length≤_;omega);rw [hcw] at this;exact this
 rw [hcw] at hck;refine Zc hG ?_ (s:=hck _ _);have hz:((0:Int) != 0)=false:=rfl;refine Z ?_;refine Zda 17 (fun r (_:Unit)=>st [(1,.view .new (Z2 .old .old m)),(3,Zb .new 2 Zwb (Zm (m.p.badL Zea Z4 15))),(5,.int .i64 (m.p.aheadR r)),(6,.int .u8 r)] []) (fun _ _=>True) 0 () (Nat.zero_le _) trivial (Za (zpf Zj) zp) ?_;intro r _ hk _ L3 hL3
 by_cases hr1:r<17
 rotate_left
 ·have hke:r=17:=by omega
  subst hke;have hlt:decide (((17:Nat):Int)<17)=false:=rfl;have hke:m.p.aheadR 17=(m.p.badL Zea Z4 15).length:=rfl
  have u:(((m.p.badL Zea Z4 15).length:Int)==((m.p.badL Zea Z4 15).length:Int))=true:=by simp
  refine Zf (zi hlt (zi hke u)) ?_;refine Zc hG ?_ (s:=hW);exact Zr
 have hlt:decide ((r:Int)<17)=true:=zT;refine Z1f hlt ?_;refine Z1f Zj ?_;refine Zia (fun (_:Unit)=>st [(1,.view .new (Z2 .old .old m)),(3,Zb .new 2 Zwb (Zm (m.p.badL Zea Z4 15))),(5,.int .i64 (m.p.aheadR r)),(6,.int .u8 r),(7,.int .i64 (m.p.spots r))] []) (fun _=>True) (fun K1 hK1=>?_) ?_
 ·by_cases c1:r=1
  ·have u:((r:Int)==1)=true:=by rw [c1]<;>rfl
   refine Zf (zi u Zj) ?_;exact hK1 _ () trivial (Za (by simp -implicitDefEqProofs only[go_sem,seval,Zj];rw [c1]<;>rfl) zp)
  have u:((r:Int)==1)=false:=by rw [beq_eq_false_iff_ne];omega
  by_cases c2:r≤8
  ·have u2:decide ((r:Int)≤8)=true:=zT
   refine Zf (zi u (zi u2 Zj)) ?_;exact hK1 _ () trivial (Za (by simp -implicitDefEqProofs only[go_sem,seval,Zj];unfold PM.spots;rw [if_neg c1,if_pos (.inl c2),m.nv]) zp)
  have u2:decide ((r:Int)≤8)=false:=zF
  by_cases c3:r=13
  ·have u3:((r:Int)==13)=true:=by rw [c3]<;>rfl
   refine Zf (zi u (zi u2 (zi u3 Zj))) ?_;exact hK1 _ () trivial (Za (by simp -implicitDefEqProofs only[go_sem,seval,Zj];unfold PM.spots;rw [if_neg c1,if_pos (.inr c3),m.nv]) zp)
  have u3:((r:Int)==13)=false:=by rw [beq_eq_false_iff_ne];omega
  refine Zf (zi u (zi u2 (zi u3 Zj))) ?_;exact hK1 _ () trivial (Za (by simp -implicitDefEqProofs only[go_sem,seval,Zj];unfold PM.spots;rw [if_neg c1,if_neg (by omega),m.nw]) zp)
 intro _ _;refine Z ?_
 have hsp:m.p.spots r≤15:=by
  unfold PM.spots;have e1:m.p.vertices.length=m.verts.l.length:=m.nv;have e2:m.p.ways.length=m.ways.l.length:=m.nw;have e3:m.p.regions.length=m.regions.l.length:=rfl
  split<;>(try split)<;>omega
 refine Zda (m.p.spots r+2) (fun j (_:Unit)=>st [(1,.view .new (Z2 .old .old m)),(3,Zb .new 2 Zwb (Zm (m.p.badL Zea Z4 15))),(5,.int .i64 (m.p.aheadA r j)),(6,.int .u8 r),(7,.int .i64 (m.p.spots r)),(8,.int .i64 ((j:Int)-1))] []) (fun _ _=>True) 0 () (Nat.zero_le _) trivial (Za (by simp -implicitDefEqProofs only[go_sem,seval];rw [Zup];try rfl) zp) ?_;intro j _ hj _ L5 hL5
 have w1:IntKind.i64.wrap ((j:Int)-1+1)=(j:Int):=by rw [w64 (by omega) (by omega)];omega
 have w8:IntKind.u8.wrap ((r:Int)+1)=(r:Int)+1:=wu8R (by omega) (by omega)
 by_cases hj1:j<m.p.spots r+2
 rotate_left
 ·have hje:j=m.p.spots r+2:=by omega
  subst hje;have hlt2:decide (((m.p.spots r+2:Nat):Int)-1≤(m.p.spots r:Int))=false:=zF;rw [Zks m.p hr1] at *;refine Zf (zi hlt2 w8) ?_;exact hL3 _ ⟨hr1,(),trivial,Za zp zp⟩
 have hlt2:decide ((j:Int)-1≤(m.p.spots r:Int))=true:=zT;have hkr:=fun c d=>hrl c d (r:Int) ((j:Int)-1) (by omega) (by omega)
 have e8:(((j+1:Nat):Int)-1)=(j:Int):=by omega
 by_cases hno:r<1∨15<r∨j=0∨j=m.p.spots r+1
 ·have hsk:=m.p.aheadA_skip hno
  rw [m.p.ruleW_no hno] at hkr;refine Zf (zi hlt2 Zj) ?_;refine Zc hG ?_ (s:=hkr _ _)
  by_cases a1:r<1
  ·have u1:decide ((r:Int)<1)=true:=zT
   refine Zf (zi u1 w1) ?_;exact hL5 _ ⟨hj1,(),trivial,Za (zpf (zi hsk e8)) zp⟩
  have u1:decide ((r:Int)<1)=false:=zF
  by_cases a2:15<r
  ·have u2:decide ((r:Int) > 15)=true:=zT
   refine Zf (zi u1 (zi u2 w1)) ?_;exact hL5 _ ⟨hj1,(),trivial,Za (zpf (zi hsk e8)) zp⟩
  have u2:decide ((r:Int) > 15)=false:=zF
  by_cases a3:j=0
  ·have u3:decide ((j:Int)-1<0)=true:=zT
   refine Zf (zi u1 (zi u2 (zi u3 w1))) ?_;exact hL5 _ ⟨hj1,(),trivial,Za (zpf (zi hsk e8)) zp⟩
  have u3:decide ((j:Int)-1<0)=false:=zF
  have u4:(((j:Int)-1)==(m.p.spots r:Int))=true:=by rw [beq_iff_eq];omega
  refine Zf (zi u1 (zi u2 (zi u3 (zi u4 w1)))) ?_;exact hL5 _ ⟨hj1,(),trivial,Za (zpf (zi hsk e8)) zp⟩
 obtain ⟨a,rfl⟩:∃ a,j=a+1:=⟨j-1,by omega⟩
 have ha:a<m.p.spots r:=by omega
 have r1:1≤r:=by omega
 have r2:r≤15:=by omega
 have ea:(((a+1:Nat):Int)-1)=(a:Int):=by omega
 rw [ea] at hkr hlt2 w1 ⊢;rw [m.p.ruleW_at he r1 r2 ha] at hkr;obtain ⟨hA1,hA2⟩:=m.p.aheadA_at r1 r2 ha;have u1:decide ((r:Int)<1)=false:=zF;have u2:decide ((r:Int) > 15)=false:=zF;have u3:decide ((a:Int)<0)=false:=zF
 have u4:((a:Int)==(m.p.spots r:Int))=false:=by rw [beq_eq_false_iff_ne];omega
 have htd:=PM.told_eq (m:=m.p) (bd:=Zea) (gd:=Z4) r1 r2 (a:=a) (by rw [← Z7g r1];exact ha);rw [hA1];have hL6:∀ s',Weak _ s' (st [(1,.view .new (Z2 .old .old m)),(3,Zb .new 2 Zwb (Zm (m.p.badL Zea Z4 15))),(5,.int .i64 (m.p.aheadA r (a+2))),(6,.int .u8 r),(7,.int .i64 (m.p.spots r)),(8,.int .i64 (((a+2:Nat):Int)-1))] [])→L5 s':=fun s' h=>hL5 _ ⟨hj1,(),trivial,h⟩;rw [hA2,e8] at hL6;generalize m.p.ahead Zea Z4 r a=K at htd hL6 hA1 hA2 ⊢;have hgl := @Zp (Nat × Int) (m.p.badL Zea Z4 15);generalize m.p.badL Zea Z4 15=W at htd hL6 hgl hWl ⊢
 rcases htd with ⟨hkp,hat⟩ | ⟨hkp,hat⟩
 ·rw [hkp] at hkr hL6
  have hlk:=(List.getElem?_eq_some_iff.1 hat).1;have q1:decide ((K:Int)<(W.length:Int))=true:=zT
  have q2:((r:Int)==(r:Int))=true:=by simp
  have q3:((a:Int)==(a:Int))=true:=by simp
  have wK:IntKind.i64.wrap ((K:Int)+1)=(K:Int)+1:=w64 (by omega) (by omega);refine Zf (zi hlt2 Zj) ?_;refine Zc hG ?_ (s:=hkr _ _);refine Zf (zi u1 (zi u2 (zi u3 (zi u4 (zi hgl (zi q1 (zi hat (zi hlk (zi q2 (zi q3 (zi w1 (zi wK (zi Zhj (zi @Int.natCast_nonneg @Int.ofNat_lt)))))))))))))) ?_;exact hL6 _ (Za (zpf Zj) zp)
 rw [hkp] at hkr hL6;refine Zf (zi hlt2 Zj) ?_;refine Zc hG ?_ (s:=hkr _ _)
 by_cases hlk:K<W.length
 ·have hg:=List.getElem?_eq_getElem hlk
  have q1:decide ((K:Int)<(W.length:Int))=true:=zT
  have q2:((((W[K]).1:Int)==(r:Int)) && ((W[K]).2==(a:Int) && true))=false:=by
   rw [Bool.and_true];refine Bool.eq_false_iff.2 fun h=>hat ?_;simp only [Bool.and_eq_true,beq_iff_eq] at h;rw [hg];exact congrArg some (Prod.ext (by omega) h.2)
  generalize W[K]=p at hg q2;refine Zf (zi u1 (zi u2 (zi u3 (zi u4 (zi hgl (zi q1 (zi hg (zi hlk (zi q2 (zi w1 (zi Zhj (zi @Int.natCast_nonneg @Int.ofNat_lt)))))))))))) ?_;exact hL6 _ (Za (zpf Zj) zp)
 ·have q1:decide ((K:Int)<(W.length:Int))=false:=zF
  refine Zf (zi u1 (zi u2 (zi u3 (zi u4 (zi hgl (zi q1 w1)))))) ?_;exact hL6 _ (Za (zpf Zj) zp)
end Go.Hs
end
