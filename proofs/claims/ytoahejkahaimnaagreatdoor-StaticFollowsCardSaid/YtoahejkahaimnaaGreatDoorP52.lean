/- A part. No condition. -/
import Derived.Test.YtoahejkahaimnaaGreatDoorP51
import Derived.Test.YtoahejkahaimnaaGreatDoorCards
set_option linter.all false
section
namespace Go.Proofs.YtoahejkahaimnaaGreatDoor
open Go.RowKit Go.Hs Go.ChangeShapes Go.WideShapes Go.ChangeAt
set_option maxRecDepth 100000
def Fj(s:List UInt8):Prop:=s.length<=reachBytes
def Zss(l:Sl (List UInt8)):Prop:=l.l.length<=reachBytes/\∀ s∈l.l,Fj s
def Z13(p:List UInt8×Int):Prop:=Fj p.1/\InK .i64 p.2
def vtOk(x:VtM):Prop:=Fj x.name/\InK .u8 x.kind/\InK .i64 x.region/\InK .i64 x.of/\Fj x.entry/\Fj x.exit/\Zss x.defers/\Fj x.sub
def trOk(x:TrM):Prop:=Fj x.name/\InK .i64 x.source/\InK .i64 x.target/\Zss x.triggers/\InK .i64 x.after/\Fj x.guard/\Fj x.effect/\InK .u8 x.kind
def Zd4{α : Type}(B : α -> Prop)(s:Sl α):Prop:=s.l.length<=reachBytes/\∀ a∈s.l,B a
def mdOk(m:MdM):Prop:=Fj m.name/\Zd4 Z13 m.vars/\Zss m.events/\Zd4 Z13 m.regions/\Zd4 vtOk m.verts/\Zd4 trOk m.ways
theorem Ry(W:World):ReadsB Tryz.prog W 9 1 Fj (λs:List UInt8=>[V.str s]):=ReadsB.str Tryz.underlying9 (by kernel_rfl)
theorem Zma(W:World):ReadsB Tryz.prog W 23 1 Zss (λs:Sl (List UInt8)=>[Za .any 1 V.str s]):=
 ReadsB.slice Tryz.underlying23 (by kernel_rfl) (by decide) (by kernel_rfl) (Ry W)
theorem Zn6(W:World):ReadsB Tryz.prog W 5 1 (InK .u8) (λn=>[V.int .u8 n]):=ReadsB.int Tryz.underlying5 (by kernel_rfl)
theorem Ia(W:World):ReadsB Tryz.prog W 3 1 (InK .i64) (λn=>[V.int .i64 n]):=ReadsB.int Tryz.underlying3 (by kernel_rfl)
theorem rb_i64(W:World):ReadsB Tryz.prog W 2 1 (InK .i64) (λn=>[V.int .i64 n]):=ReadsB.int Tryz.underlying2 (by kernel_rfl)
theorem rb_var(W:World):ReadsB Tryz.prog W 76 2 Z13 (λp=>(Yw p).cells):=by
 refine⟨by kernel_rfl,λ_=>rfl,λenc e f m x h b=>?_⟩;obtain⟨xs,n,_,rfl,c,a,d⟩:=DataW.trod_struct Tryz.underlying76 h
 have l:Tryz.prog.cellsOf 76=2:=by kernel_rfl
 rw[l]at c;have s:xs.length=2:=a;simp only[DataW.weights,Tryz.underlying76]at b;obtain⟨r,b0,k⟩:=ReadsB.field (Ry W) (i:=0) b (j:=0) rfl (d 0 _ rfl) (by omega);obtain⟨q,o,g⟩:=ReadsB.field (rb_i64 W) (i:=1) b (j:=1) rfl (d 1 _ rfl) (by omega)
 match m,c with
 |[c0,c1],_=>exact⟨(r,q),⟨b0,o⟩,k.append g⟩
theorem rb_rgn(W:World):ReadsB Tryz.prog W 79 2 Z13 (λp=>(Yw p).cells):=by
 refine⟨by kernel_rfl,λ_=>rfl,λenc e f m x h b=>?_⟩;obtain⟨xs,n,_,rfl,c,a,d⟩:=DataW.trod_struct Tryz.underlying79 h
 have l:Tryz.prog.cellsOf 79=2:=by kernel_rfl
 rw[l]at c;have s:xs.length=2:=a;simp only[DataW.weights,Tryz.underlying79]at b;obtain⟨r,b0,k⟩:=ReadsB.field (Ry W) (i:=0) b (j:=0) rfl (d 0 _ rfl) (by omega);obtain⟨q,o,g⟩:=ReadsB.field (Ia W) (i:=1) b (j:=1) rfl (d 1 _ rfl) (by omega)
 match m,c with
 |[c0,c1],_=>exact⟨(r,q),⟨b0,o⟩,k.append g⟩
theorem rb_vtx(W:World):ReadsB Tryz.prog W 60 8 vtOk (λx=>(Y0 .any x).cells):=by
 refine⟨by kernel_rfl,λ_=>rfl,λenc e f t x h a=>?_⟩;obtain⟨xs,n,_,rfl,d,c,b⟩:=DataW.trod_struct Tryz.underlying60 h
 have s:Tryz.prog.cellsOf 60=8:=by kernel_rfl
 rw[s]at d;have K:xs.length=8:=c;simp only[DataW.weights,Tryz.underlying60]at a;obtain⟨J,b0,r⟩:=ReadsB.field (Ry W) (i:=0) a (j:=0) rfl (b 0 _ rfl) (by omega);obtain⟨I,B,q⟩:=ReadsB.field (Zn6 W) (i:=1) a (j:=1) rfl (b 1 _ rfl) (by omega);obtain⟨H,A,p⟩:=ReadsB.field (Ia W) (i:=2) a (j:=2) rfl (b 2 _ rfl) (by omega);obtain⟨G,z,o⟩:=ReadsB.field (Ia W) (i:=3) a (j:=3) rfl (b 3 _ rfl) (by omega);obtain⟨F,y,m⟩:=ReadsB.field (Ry W) (i:=4) a (j:=4) rfl (b 4 _ rfl) (by omega);obtain⟨E,w,l⟩:=ReadsB.field (Ry W) (i:=5) a (j:=5) rfl (b 5 _ rfl) (by omega);obtain⟨D,v,k⟩:=ReadsB.field (Zma W) (i:=6) a (j:=6) rfl (b 6 _ rfl) (by omega);obtain⟨C,u,g⟩:=ReadsB.field (Ry W) (i:=7) a (j:=7) rfl (b 7 _ rfl) (by omega)
 match t,d with
 |[c0,c1,c2,c3,c4,c5,c6,c7],_=>exact⟨⟨J,I,H,G,F,E,D,C⟩,⟨b0,B,A,z,y,w,v,u⟩,r.append (q.append (p.append (o.append (m.append (l.append (k.append g))))))⟩
theorem rb_way(W:World):ReadsB Tryz.prog W 62 8 trOk (λx=>(Xp .any x).cells):=by
 refine⟨by kernel_rfl,λ_=>rfl,λenc e f t x h a=>?_⟩;obtain⟨xs,n,_,rfl,d,c,b⟩:=DataW.trod_struct Tryz.underlying62 h
 have s:Tryz.prog.cellsOf 62=8:=by kernel_rfl
 rw[s]at d;have K:xs.length=8:=c;simp only[DataW.weights,Tryz.underlying62]at a;obtain⟨J,b0,r⟩:=ReadsB.field (Ry W) (i:=0) a (j:=0) rfl (b 0 _ rfl) (by omega);obtain⟨I,B,q⟩:=ReadsB.field (Ia W) (i:=1) a (j:=1) rfl (b 1 _ rfl) (by omega);obtain⟨H,A,p⟩:=ReadsB.field (Ia W) (i:=2) a (j:=2) rfl (b 2 _ rfl) (by omega);obtain⟨G,z,o⟩:=ReadsB.field (Zma W) (i:=3) a (j:=3) rfl (b 3 _ rfl) (by omega);obtain⟨F,y,m⟩:=ReadsB.field (Ia W) (i:=4) a (j:=4) rfl (b 4 _ rfl) (by omega);obtain⟨E,w,l⟩:=ReadsB.field (Ry W) (i:=5) a (j:=5) rfl (b 5 _ rfl) (by omega);obtain⟨D,v,k⟩:=ReadsB.field (Ry W) (i:=6) a (j:=6) rfl (b 6 _ rfl) (by omega);obtain⟨C,u,g⟩:=ReadsB.field (Zn6 W) (i:=7) a (j:=7) rfl (b 7 _ rfl) (by omega)
 match t,d with
 |[c0,c1,c2,c3,c4,c5,c6,c7],_=>exact⟨⟨J,I,H,G,F,E,D,C⟩,⟨b0,B,A,z,y,w,v,u⟩,r.append (q.append (p.append (o.append (m.append (l.append (k.append g))))))⟩
theorem rb_md(W:World):ReadsB Tryz.prog W 28 6 mdOk (λm=>(Zv .any .any m).cells):=by
 refine⟨by kernel_rfl,λ_=>rfl,λenc e f s x h a=>?_⟩;obtain⟨xs,n,_,rfl,d,c,b⟩:=DataW.trod_struct Tryz.underlying28 h
 have r:Tryz.prog.cellsOf 28=6:=by kernel_rfl
 rw[r]at d;have F:xs.length=6:=c;simp only[DataW.weights,Tryz.underlying28]at a;obtain⟨E,b0,q⟩:=ReadsB.field (Ry W) (i:=0) a (j:=0) rfl (b 0 _ rfl) (by omega);obtain⟨D,y,p⟩:=ReadsB.field (ReadsB.slice Tryz.underlying22 (by kernel_rfl) (by decide) (by kernel_rfl) (rb_var W)) (i:=1) a (j:=1) rfl (b 1 _ rfl) (by omega);obtain⟨C,w,o⟩:=ReadsB.field (Zma W) (i:=2) a (j:=2) rfl (b 2 _ rfl) (by omega);obtain⟨B,v,l⟩:=ReadsB.field (ReadsB.slice Tryz.underlying24 (by kernel_rfl) (by decide) (by kernel_rfl) (rb_rgn W)) (i:=3) a (j:=3) rfl (b 3 _ rfl) (by omega);obtain⟨A,u,k⟩:=ReadsB.field (ReadsB.slice Tryz.underlying25 (by kernel_rfl) (by decide) (by kernel_rfl) (rb_vtx W)) (i:=4) a (j:=4) rfl (b 4 _ rfl) (by omega);obtain⟨z,t,g⟩:=ReadsB.field (ReadsB.slice Tryz.underlying26 (by kernel_rfl) (by decide) (by kernel_rfl) (rb_way W)) (i:=5) a (j:=5) rfl (b 5 _ rfl) (by omega)
 match s,d with
 |[c0,c1,c2,c3,c4,c5],_=>exact⟨⟨E,D,C,B,A,z⟩,⟨b0,y,w,v,u,t⟩,q.append (p.append (o.append (l.append (k.append g))))⟩
variable{W:World}{H:Type}{enc:TypeId×Value->H}{b0:Nat}{v:Value}{d:DataW H}{ps:List MemPlace}
theorem argD(c:Value.okWide Tryz.prog W .any b0 28 v)(h:DataW.Trod enc Tryz.prog W 0 (λ_=>true) true 28 v d ps)(g:(d.weights Tryz.prog 28).all (· <= reachBytes)=true):∃ x:MdM,mdOk x/\Rel (Wl W) v (Zv .old .old x):=by
 obtain⟨a,h⟩:=h;obtain⟨x,i,f⟩:=(rb_md W).2.2 enc true a _ _ h g
 have b:Rel (Wl W) v (Zv .any .any x):=by
  unfold Value.okWide at c;rw[Tryz.underlying28]at c;obtain⟨j,rfl,_,_⟩:=c;exact Z3l f
 have e:=b.ofW_old;rw[O9]at e;exact⟨x,i,e⟩
theorem Zro{a:Assume}{C:Checked}{os:Os}{f:FuncId}{l:Func}{H:Type}{enc:TypeId×Value->H}{s:ChangeSpec}{m:List PathCond}{b k c n:Bool}{X:World->Array Value->Prop}
  (J:∀ (w w':World) (args:Array Value),w.heap=w'.heap->X w args->X w' args)
  (p:ownKnob C.prog.godebug=none) (h:os.Started) (o:C.prog.inits.idxOf? f=none) (A:C.prog.funcs[f]?=some l)
  (g:∃ (w:World) (tape:Tape) (i:Input),w.os=os/\(w.forCall tape i).Shaped C.prog/\i.vars=[]/\Input.okWide C.prog (w.forCall tape i) .any w.heap.size f i /\
   ((s.pre enc C.prog l m b (w.forCall tape i).memory i.args/\X (w.forCall tape i).memory i.args)/\sizedMet enc C.prog l (OpenSpec.ofChange s) b (w.forCall tape i).memory i.args)/\a.holds C.prog (lone (Frame.enter C.prog f i.args .normal) [] (w.forCall tape i)))
  (d:∀ (W:World) (base:Nat) (args:Array Value) (ds gs:List (DataW H)) (before:List MemPlace),W.ShapedOpen C.prog ->
   (∀ (j:Nat) t v,l.params[j]?=some t->args[j]?=some v->Value.okWide C.prog W .any base t v) ->
   DataW.Whole enc C.prog l.params.toList s.vars b W args.toList ds gs before ->
   (DataW.weightsEach C.prog (l.params.toList++s.plain.varTypes C.prog) (ds++gs)).all (· <= reachBytes)=true->X W args ->
   Calls C.prog f args W λe W'=>∃ v,e=.returned v/\s.post enc C.prog l b k c n W args v W'):
  ReturnsInHanded a C os f .any (λw args=>(s.pre enc C.prog l m b w args/\X w args)/\sizedMet enc C.prog l (OpenSpec.ofChange s) b w args) (s.post enc C.prog l b k c n):=by
 refine returnsInHanded_of_calls p h o g ?_;intro w tape i _ y _ z r _;obtain⟨_,_,_,B,u,_,_,_,_,q⟩:=z;have e:B=l:=Option.some.inj (u.symm.trans A);subst e;obtain⟨⟨⟨ds,gs,before,D,_⟩,F⟩,E⟩:=r;have x:=DataW.Whole.of_heap (w':=w.forCall tape i) (by rfl) D;refine(d (w.forCall tape i) w.heap.size i.args ds gs before y q x (E.weights D) (J _ _ _ (by rfl) F)).mono λe W' ⟨v,I,G⟩=>?_;subst I;exact ChangeSpec.post_blind G
end Go.Proofs.YtoahejkahaimnaaGreatDoor
end

section
namespace Go.Proofs.YtoahejkahaimnaaGreatDoor
open Go.RowKit Go.Hs
theorem mdOk_r{m:MdM}(h:mdOk m):MdR m:=by
 obtain⟨v,⟨u,t⟩,⟨s,r⟩,⟨q,o⟩,⟨n,l⟩,⟨j,i⟩⟩:=h;refine⟨v,⟨u,λp g=>(t p g).1⟩,⟨s,r⟩,⟨q,λp g=>(o p g).1⟩,⟨n,λx f=>?_⟩,⟨j,λx f=>?_⟩⟩;obtain⟨e,_,_,_,d,c,⟨b,a⟩,k⟩:=l x f;exact⟨e,d,c,k,b,a⟩;obtain⟨e,_,_,⟨d,c⟩,_,b,a,_⟩:=i x f;exact⟨e,b,a,d,c⟩
end Go.Proofs.YtoahejkahaimnaaGreatDoor
end

section
namespace Go.Proofs.YtoahejkahaimnaaGreatDoor
open Go.RowKit Go.Hs Go.ChangeShapes Go.WideShapes Go.ChangeAt
set_option maxRecDepth 100000
set_option maxHeartbeats 4000000
theorem sfMaps:mapsRowed Tryz.prog=true:=by kernel_rfl
theorem Zf4:(Tryz.prog.stops==[])=true:=by kernel_rfl
theorem Zg4:(Tryz.prog.stopKnobs==[])=true:=by kernel_rfl
theorem sfKeys:(Rows.staticAllRow.plainKeys==Tryz.prog.plainKeys)=true:=by kernel_rfl
theorem Zh4:Tryz.prog.stopsHeard=true:=by kernel_rfl
theorem Zi4:Tryz.prog.mayEnter=true:=by kernel_rfl
theorem Z7z:(Rows.staticAllRow.lifted==Tryz.prog.liftsFinal)=true:=by kernel_rfl
theorem sfMake:(Tryz.prog.make==some Rows.staticAllRow.make)=true:=by kernel_rfl
end Go.Proofs.YtoahejkahaimnaaGreatDoor
end
