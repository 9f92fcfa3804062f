/- A part. No condition. -/
import Derived.Test.YtoahejkahaimnaaGreatDoorP52
import Derived.Test.YtoahejkahaimnaaGreatDoorCards
set_option linter.all false
section
namespace Go.Proofs.YtoahejkahaimnaaGreatDoor
open Go.RowKit Go.Hs Go.ChangeShapes Go.WideShapes Go.ChangeAt
set_option maxRecDepth 100000
def txOk(s:List UInt8):Prop:=s.length<=reachBytes
def Zeka(l:Sl (List UInt8)):Prop:=l.l.length<=reachBytes/\∀ s∈l.l,txOk s
def vrOk(p:List UInt8×Int):Prop:=txOk p.1/\InK .i64 p.2
def vtOk(x:VtM):Prop:=txOk x.name/\InK .u8 x.kind/\InK .i64 x.region/\InK .i64 x.of/\txOk x.entry/\txOk x.exit/\Zeka x.defers/\txOk x.sub
def trOk(x:TrM):Prop:=txOk x.name/\InK .i64 x.source/\InK .i64 x.target/\Zeka x.triggers/\InK .i64 x.after/\txOk x.guard/\txOk x.effect/\InK .u8 x.kind
def slOk{α : Type}(B : α -> Prop)(s:Sl α):Prop:=s.l.length<=reachBytes/\∀ a∈s.l,B a
def mdOk(m:MdM):Prop:=txOk m.name/\slOk vrOk m.vars/\Zeka m.events/\slOk vrOk m.regions/\slOk vtOk m.verts/\slOk trOk m.ways
theorem Z4g(W:World):ReadsB Tryz.prog W 9 1 txOk (λs:List UInt8=>[V.str s]):=ReadsB.str Tryz.underlying9 (by kernel_rfl)
theorem Z3z(W:World):ReadsB Tryz.prog W 23 1 Zeka (λs:Sl (List UInt8)=>[Za .any 1 V.str s]):=
 ReadsB.slice Tryz.underlying23 (by kernel_rfl) (by decide) (by kernel_rfl) (Z4g W)
theorem rb_u8(W:World):ReadsB Tryz.prog W 5 1 (InK .u8) (λn=>[V.int .u8 n]):=ReadsB.int Tryz.underlying5 (by kernel_rfl)
theorem Zyq(W:World):ReadsB Tryz.prog W 3 1 (InK .i64) (λn=>[V.int .i64 n]):=ReadsB.int Tryz.underlying3 (by kernel_rfl)
theorem rb_i64(W:World):ReadsB Tryz.prog W 2 1 (InK .i64) (λn=>[V.int .i64 n]):=ReadsB.int Tryz.underlying2 (by kernel_rfl)
theorem rb_var(W:World):ReadsB Tryz.prog W 76 2 vrOk (λp=>(Zua p).cells):=by
 refine⟨by kernel_rfl,λ_=>rfl,λenc held fuel cs x h hw=>?_⟩;obtain⟨xs,n,_,rfl,hl,hlen,hf⟩:=DataW.trod_struct Tryz.underlying76 h
 have ec:Tryz.prog.cellsOf 76=2:=by kernel_rfl
 rw[ec]at hl;have hx:xs.length=2:=hlen;simp only[DataW.weights,Tryz.underlying76]at hw;obtain⟨a0,b0,h0⟩:=ReadsB.field (Z4g W) (i:=0) hw (j:=0) rfl (hf 0 _ rfl) (by omega);obtain⟨a1,b1,h1⟩:=ReadsB.field (rb_i64 W) (i:=1) hw (j:=1) rfl (hf 1 _ rfl) (by omega)
 match cs,hl with
 |[c0,c1],_=>exact⟨(a0,a1),⟨b0,b1⟩,h0.append h1⟩
theorem rb_rgn(W:World):ReadsB Tryz.prog W 79 2 vrOk (λp=>(Zua p).cells):=by
 refine⟨by kernel_rfl,λ_=>rfl,λenc held fuel cs x h hw=>?_⟩;obtain⟨xs,n,_,rfl,hl,hlen,hf⟩:=DataW.trod_struct Tryz.underlying79 h
 have ec:Tryz.prog.cellsOf 79=2:=by kernel_rfl
 rw[ec]at hl;have hx:xs.length=2:=hlen;simp only[DataW.weights,Tryz.underlying79]at hw;obtain⟨a0,b0,h0⟩:=ReadsB.field (Z4g W) (i:=0) hw (j:=0) rfl (hf 0 _ rfl) (by omega);obtain⟨a1,b1,h1⟩:=ReadsB.field (Zyq W) (i:=1) hw (j:=1) rfl (hf 1 _ rfl) (by omega)
 match cs,hl with
 |[c0,c1],_=>exact⟨(a0,a1),⟨b0,b1⟩,h0.append h1⟩
theorem rb_vtx(W:World):ReadsB Tryz.prog W 60 8 vtOk (λx=>(Z5a .any x).cells):=by
 refine⟨by kernel_rfl,λ_=>rfl,λenc held fuel cs x h hw=>?_⟩;obtain⟨xs,n,_,rfl,hl,hlen,hf⟩:=DataW.trod_struct Tryz.underlying60 h
 have ec:Tryz.prog.cellsOf 60=8:=by kernel_rfl
 rw[ec]at hl;have hx:xs.length=8:=hlen;simp only[DataW.weights,Tryz.underlying60]at hw;obtain⟨a0,b0,h0⟩:=ReadsB.field (Z4g W) (i:=0) hw (j:=0) rfl (hf 0 _ rfl) (by omega);obtain⟨a1,b1,h1⟩:=ReadsB.field (rb_u8 W) (i:=1) hw (j:=1) rfl (hf 1 _ rfl) (by omega);obtain⟨a2,b2,h2⟩:=ReadsB.field (Zyq W) (i:=2) hw (j:=2) rfl (hf 2 _ rfl) (by omega);obtain⟨a3,b3,h3⟩:=ReadsB.field (Zyq W) (i:=3) hw (j:=3) rfl (hf 3 _ rfl) (by omega);obtain⟨a4,b4,h4⟩:=ReadsB.field (Z4g W) (i:=4) hw (j:=4) rfl (hf 4 _ rfl) (by omega);obtain⟨a5,b5,h5⟩:=ReadsB.field (Z4g W) (i:=5) hw (j:=5) rfl (hf 5 _ rfl) (by omega);obtain⟨a6,b6,h6⟩:=ReadsB.field (Z3z W) (i:=6) hw (j:=6) rfl (hf 6 _ rfl) (by omega);obtain⟨a7,b7,h7⟩:=ReadsB.field (Z4g W) (i:=7) hw (j:=7) rfl (hf 7 _ rfl) (by omega)
 match cs,hl with
 |[c0,c1,c2,c3,c4,c5,c6,c7],_=>exact⟨⟨a0,a1,a2,a3,a4,a5,a6,a7⟩,⟨b0,b1,b2,b3,b4,b5,b6,b7⟩,h0.append (h1.append (h2.append (h3.append (h4.append (h5.append (h6.append h7))))))⟩
theorem rb_way(W:World):ReadsB Tryz.prog W 62 8 trOk (λx=>(Z4b .any x).cells):=by
 refine⟨by kernel_rfl,λ_=>rfl,λenc held fuel cs x h hw=>?_⟩;obtain⟨xs,n,_,rfl,hl,hlen,hf⟩:=DataW.trod_struct Tryz.underlying62 h
 have ec:Tryz.prog.cellsOf 62=8:=by kernel_rfl
 rw[ec]at hl;have hx:xs.length=8:=hlen;simp only[DataW.weights,Tryz.underlying62]at hw;obtain⟨a0,b0,h0⟩:=ReadsB.field (Z4g W) (i:=0) hw (j:=0) rfl (hf 0 _ rfl) (by omega);obtain⟨a1,b1,h1⟩:=ReadsB.field (Zyq W) (i:=1) hw (j:=1) rfl (hf 1 _ rfl) (by omega);obtain⟨a2,b2,h2⟩:=ReadsB.field (Zyq W) (i:=2) hw (j:=2) rfl (hf 2 _ rfl) (by omega);obtain⟨a3,b3,h3⟩:=ReadsB.field (Z3z W) (i:=3) hw (j:=3) rfl (hf 3 _ rfl) (by omega);obtain⟨a4,b4,h4⟩:=ReadsB.field (Zyq W) (i:=4) hw (j:=4) rfl (hf 4 _ rfl) (by omega);obtain⟨a5,b5,h5⟩:=ReadsB.field (Z4g W) (i:=5) hw (j:=5) rfl (hf 5 _ rfl) (by omega);obtain⟨a6,b6,h6⟩:=ReadsB.field (Z4g W) (i:=6) hw (j:=6) rfl (hf 6 _ rfl) (by omega);obtain⟨a7,b7,h7⟩:=ReadsB.field (rb_u8 W) (i:=7) hw (j:=7) rfl (hf 7 _ rfl) (by omega)
 match cs,hl with
 |[c0,c1,c2,c3,c4,c5,c6,c7],_=>exact⟨⟨a0,a1,a2,a3,a4,a5,a6,a7⟩,⟨b0,b1,b2,b3,b4,b5,b6,b7⟩,h0.append (h1.append (h2.append (h3.append (h4.append (h5.append (h6.append h7))))))⟩
theorem rb_md(W:World):ReadsB Tryz.prog W 28 6 mdOk (λm=>(Z4 .any .any m).cells):=by
 refine⟨by kernel_rfl,λ_=>rfl,λenc held fuel cs x h hw=>?_⟩;obtain⟨xs,n,_,rfl,hl,hlen,hf⟩:=DataW.trod_struct Tryz.underlying28 h
 have ec:Tryz.prog.cellsOf 28=6:=by kernel_rfl
 rw[ec]at hl;have hx:xs.length=6:=hlen;simp only[DataW.weights,Tryz.underlying28]at hw;obtain⟨a0,b0,h0⟩:=ReadsB.field (Z4g W) (i:=0) hw (j:=0) rfl (hf 0 _ rfl) (by omega);obtain⟨a1,b1,h1⟩:=ReadsB.field (ReadsB.slice Tryz.underlying22 (by kernel_rfl) (by decide) (by kernel_rfl) (rb_var W)) (i:=1) hw (j:=1) rfl (hf 1 _ rfl) (by omega);obtain⟨a2,b2,h2⟩:=ReadsB.field (Z3z W) (i:=2) hw (j:=2) rfl (hf 2 _ rfl) (by omega);obtain⟨a3,b3,h3⟩:=ReadsB.field (ReadsB.slice Tryz.underlying24 (by kernel_rfl) (by decide) (by kernel_rfl) (rb_rgn W)) (i:=3) hw (j:=3) rfl (hf 3 _ rfl) (by omega);obtain⟨a4,b4,h4⟩:=ReadsB.field (ReadsB.slice Tryz.underlying25 (by kernel_rfl) (by decide) (by kernel_rfl) (rb_vtx W)) (i:=4) hw (j:=4) rfl (hf 4 _ rfl) (by omega);obtain⟨a5,b5,h5⟩:=ReadsB.field (ReadsB.slice Tryz.underlying26 (by kernel_rfl) (by decide) (by kernel_rfl) (rb_way W)) (i:=5) hw (j:=5) rfl (hf 5 _ rfl) (by omega)
 match cs,hl with
 |[c0,c1,c2,c3,c4,c5],_=>exact⟨⟨a0,a1,a2,a3,a4,a5⟩,⟨b0,b1,b2,b3,b4,b5⟩,h0.append (h1.append (h2.append (h3.append (h4.append h5))))⟩
variable{W:World}{H:Type}{enc:TypeId×Value->H}{b0:Nat}{v:Value}{d:DataW H}{ps:List MemPlace}
theorem argD(hv:Value.okWide Tryz.prog W .any b0 28 v)(h:DataW.Trod enc Tryz.prog W 0 (λ_=>true) true 28 v d ps)(hw:(d.weights Tryz.prog 28).all (· <= reachBytes)=true):∃ x:MdM,mdOk x/\Rel (Z9b W) v (Z4 .old .old x):=by
 obtain⟨fuel,h⟩:=h;obtain⟨x,hB,hx⟩:=(rb_md W).2.2 enc true fuel _ _ h hw
 have key:Rel (Z9b W) v (Z4 .any .any x):=by
  unfold Value.okWide at hv;rw[Tryz.underlying28]at hv;obtain⟨cs,rfl,_,_⟩:=hv;exact Z14 hx
 have h2:=key.ofW_old;rw[Zwj]at h2;exact⟨x,hB,h2⟩
theorem Zv9{a:Assume}{C:Checked}{os:Os}{f:FuncId}{fn:Func}{H:Type}{enc:TypeId×Value->H}{s:ChangeSpec}{conds:List PathCond}{apart fresh handsOn again:Bool}{X:World->Array Value->Prop}
  (hX:∀ (w w':World) (args:Array Value),w.heap=w'.heap->X w args->X w' args)
  (ownk:ownKnob C.prog.godebug=none) (started:os.Started) (noInit:C.prog.inits.idxOf? f=none) (hfn:C.prog.funcs[f]?=some fn)
  (witness:∃ (w:World) (tape:Tape) (i:Input),w.os=os/\(w.forCall tape i).Shaped C.prog/\i.vars=[]/\Input.okWide C.prog (w.forCall tape i) .any w.heap.size f i /\
   ((s.pre enc C.prog fn conds apart (w.forCall tape i).memory i.args/\X (w.forCall tape i).memory i.args)/\sizedMet enc C.prog fn (OpenSpec.ofChange s) apart (w.forCall tape i).memory i.args)/\a.holds C.prog (lone (Frame.enter C.prog f i.args .normal) [] (w.forCall tape i)))
  (contract:∀ (W:World) (base:Nat) (args:Array Value) (ds gs:List (DataW H)) (before:List MemPlace),W.ShapedOpen C.prog ->
   (∀ (j:Nat) t v,fn.params[j]?=some t->args[j]?=some v->Value.okWide C.prog W .any base t v) ->
   DataW.Whole enc C.prog fn.params.toList s.vars apart W args.toList ds gs before ->
   (DataW.weightsEach C.prog (fn.params.toList++s.plain.varTypes C.prog) (ds++gs)).all (· <= reachBytes)=true->X W args ->
   Calls C.prog f args W λe W'=>∃ v,e=.returned v/\s.post enc C.prog fn apart fresh handsOn again W args v W'):
  ReturnsInHanded a C os f .any (λw args=>(s.pre enc C.prog fn conds apart w args/\X w args)/\sizedMet enc C.prog fn (OpenSpec.ofChange s) apart w args) (s.post enc C.prog fn apart fresh handsOn again):=by
 refine returnsInHanded_of_calls ownk started noInit witness ?_;intro w tape i _ hsh _ hok hpre _;obtain⟨_,_,_,fn',hfn',_,_,_,_,hval⟩:=hok;have e:fn'=fn:=Option.some.inj (hfn'.symm.trans hfn);subst e;obtain⟨⟨⟨ds,gs,before,hw,_⟩,hx⟩,hz⟩:=hpre;have hw':=DataW.Whole.of_heap (w':=w.forCall tape i) (by rfl) hw;refine(contract (w.forCall tape i) w.heap.size i.args ds gs before hsh hval hw' (hz.weights hw) (hX _ _ _ (by rfl) hx)).mono λe W' ⟨v,he,hp⟩=>?_;subst he;exact ChangeSpec.post_blind hp
end Go.Proofs.YtoahejkahaimnaaGreatDoor
end

section
namespace Go.Proofs.YtoahejkahaimnaaGreatDoor
open Go.RowKit Go.Hs
theorem mdOk_r{m:MdM}(h:mdOk m):MdR m:=by
 obtain⟨h1,⟨h2,h3⟩,⟨h4,h5⟩,⟨h6,h7⟩,⟨h8,h9⟩,⟨h10,h11⟩⟩:=h;refine⟨h1,⟨h2,λp hp=>(h3 p hp).1⟩,⟨h4,h5⟩,⟨h6,λp hp=>(h7 p hp).1⟩,⟨h8,λx hx=>?_⟩,⟨h10,λx hx=>?_⟩⟩;obtain⟨q1,_,_,_,q2,q3,⟨q4,q5⟩,q6⟩:=h9 x hx;exact⟨q1,q2,q3,q6,q4,q5⟩;obtain⟨q1,_,_,⟨q2,q3⟩,_,q4,q5,_⟩:=h11 x hx;exact⟨q1,q4,q5,q2,q3⟩
end Go.Proofs.YtoahejkahaimnaaGreatDoor
end

section
namespace Go.Proofs.YtoahejkahaimnaaGreatDoor
open Go.RowKit Go.Hs Go.ChangeShapes Go.WideShapes Go.ChangeAt
set_option maxRecDepth 100000
set_option maxHeartbeats 4000000
theorem sfMaps:mapsRowed Tryz.prog=true:=by kernel_rfl
theorem sfStops:(Tryz.prog.stops==[])=true:=by kernel_rfl
theorem sfKnobs:(Tryz.prog.stopKnobs==[])=true:=by kernel_rfl
theorem sfKeys:(Rows.staticAllRow.plainKeys==Tryz.prog.plainKeys)=true:=by kernel_rfl
theorem sfHeard:Tryz.prog.stopsHeard=true:=by kernel_rfl
theorem sfEnter:Tryz.prog.mayEnter=true:=by kernel_rfl
theorem Z1ka:(Rows.staticAllRow.lifted==Tryz.prog.liftsFinal)=true:=by kernel_rfl
theorem sfMake:(Tryz.prog.make==some Rows.staticAllRow.make)=true:=by kernel_rfl
end Go.Proofs.YtoahejkahaimnaaGreatDoor
end
