/- A part. No condition. -/
import Derived.Test.YtjplgaebbfabnaaGreatDoorP40
set_option linter.all false
namespace Go.Proofs.YtjplgaebbfabnaaGreatDoor
open Go.RowKit Go.Hs Go.ChangeShapes Go.WideShapes Go.ChangeAt
set_option maxRecDepth 100000
def E7(s:List UInt8):Prop:=s.length<=reachBytes
def Zhx(l:Sl (List UInt8)):Prop:=l.l.length<=reachBytes/\∀ s∈l.l,E7 s
def Zu9(p:List UInt8×Int):Prop:=E7 p.1/\InK .i64 p.2
def vtOk(x:VtM):Prop:=E7 x.name/\InK .u8 x.kind/\InK .i64 x.region/\InK .i64 x.of/\E7 x.entry/\E7 x.exit/\Zhx x.defers/\E7 x.sub
def trOk(x:TrM):Prop:=E7 x.name/\InK .i64 x.source/\InK .i64 x.target/\Zhx x.triggers/\InK .i64 x.after/\E7 x.guard/\E7 x.effect/\InK .u8 x.kind
def Z59{α : Type}(B : α -> Prop)(s:Sl α):Prop:=s.l.length<=reachBytes/\∀ a∈s.l,B a
def mdOk(m:MdM):Prop:=E7 m.name/\Z59 Zu9 m.vars/\Zhx m.events/\Z59 Zu9 m.regions/\Z59 vtOk m.verts/\Z59 trOk m.ways
theorem Q4(W:World):ReadsB Tryz.prog W 9 1 E7 (λs:List UInt8=>[V.str s]):=ReadsB.str Tryz.underlying9 (by kernel_rfl)
theorem Zhc(W:World):ReadsB Tryz.prog W 23 1 Zhx (λs:Sl (List UInt8)=>[Za .any 1 V.str s]):=
 ReadsB.slice Tryz.underlying23 (by kernel_rfl) (by decide) (by kernel_rfl) (Q4 W)
theorem Zdca(W:World):ReadsB Tryz.prog W 5 1 (InK .u8) (λn=>[V.int .u8 n]):=ReadsB.int Tryz.underlying5 (by kernel_rfl)
theorem Hn(W:World):ReadsB Tryz.prog W 3 1 (InK .i64) (λn=>[V.int .i64 n]):=ReadsB.int Tryz.underlying3 (by kernel_rfl)
theorem rb_i64(W:World):ReadsB Tryz.prog W 2 1 (InK .i64) (λn=>[V.int .i64 n]):=ReadsB.int Tryz.underlying2 (by kernel_rfl)
theorem rb_var(W:World):ReadsB Tryz.prog W 91 2 Zu9 (λp=>(Z3 p).cells):=by
 refine⟨by kernel_rfl,λ_=>rfl,λenc e f m x h b=>?_⟩;obtain⟨xs,n,_,rfl,c,a,d⟩:=DataW.trod_struct Tryz.underlying91 h
 have l:Tryz.prog.cellsOf 91=2:=by kernel_rfl
 rw[l]at c;have s:xs.length=2:=a;simp only[DataW.weights,Tryz.underlying91]at b;obtain⟨r,b0,k⟩:=ReadsB.field (Q4 W) (i:=0) b (j:=0) rfl (d 0 _ rfl) (by omega);obtain⟨q,o,g⟩:=ReadsB.field (rb_i64 W) (i:=1) b (j:=1) rfl (d 1 _ rfl) (by omega)
 match m,c with
 |[c0,c1],_=>exact⟨(r,q),⟨b0,o⟩,k.append g⟩
theorem rb_rgn(W:World):ReadsB Tryz.prog W 107 2 Zu9 (λp=>(Z3 p).cells):=by
 refine⟨by kernel_rfl,λ_=>rfl,λenc e f m x h b=>?_⟩;obtain⟨xs,n,_,rfl,c,a,d⟩:=DataW.trod_struct Tryz.underlying107 h
 have l:Tryz.prog.cellsOf 107=2:=by kernel_rfl
 rw[l]at c;have s:xs.length=2:=a;simp only[DataW.weights,Tryz.underlying107]at b;obtain⟨r,b0,k⟩:=ReadsB.field (Q4 W) (i:=0) b (j:=0) rfl (d 0 _ rfl) (by omega);obtain⟨q,o,g⟩:=ReadsB.field (Hn W) (i:=1) b (j:=1) rfl (d 1 _ rfl) (by omega)
 match m,c with
 |[c0,c1],_=>exact⟨(r,q),⟨b0,o⟩,k.append g⟩
theorem rb_vtx(W:World):ReadsB Tryz.prog W 83 8 vtOk (λx=>(Yf .any x).cells):=by
 refine⟨by kernel_rfl,λ_=>rfl,λenc e f t x h a=>?_⟩;obtain⟨xs,n,_,rfl,d,c,b⟩:=DataW.trod_struct Tryz.underlying83 h
 have s:Tryz.prog.cellsOf 83=8:=by kernel_rfl
 rw[s]at d;have K:xs.length=8:=c;simp only[DataW.weights,Tryz.underlying83]at a;obtain⟨J,b0,r⟩:=ReadsB.field (Q4 W) (i:=0) a (j:=0) rfl (b 0 _ rfl) (by omega);obtain⟨I,B,q⟩:=ReadsB.field (Zdca W) (i:=1) a (j:=1) rfl (b 1 _ rfl) (by omega);obtain⟨H,A,p⟩:=ReadsB.field (Hn W) (i:=2) a (j:=2) rfl (b 2 _ rfl) (by omega);obtain⟨G,z,o⟩:=ReadsB.field (Hn W) (i:=3) a (j:=3) rfl (b 3 _ rfl) (by omega);obtain⟨F,y,m⟩:=ReadsB.field (Q4 W) (i:=4) a (j:=4) rfl (b 4 _ rfl) (by omega);obtain⟨E,w,l⟩:=ReadsB.field (Q4 W) (i:=5) a (j:=5) rfl (b 5 _ rfl) (by omega);obtain⟨D,v,k⟩:=ReadsB.field (Zhc W) (i:=6) a (j:=6) rfl (b 6 _ rfl) (by omega);obtain⟨C,u,g⟩:=ReadsB.field (Q4 W) (i:=7) a (j:=7) rfl (b 7 _ rfl) (by omega)
 match t,d with
 |[c0,c1,c2,c3,c4,c5,c6,c7],_=>exact⟨⟨J,I,H,G,F,E,D,C⟩,⟨b0,B,A,z,y,w,v,u⟩,r.append (q.append (p.append (o.append (m.append (l.append (k.append g))))))⟩
theorem rb_way(W:World):ReadsB Tryz.prog W 71 8 trOk (λx=>(Yn .any x).cells):=by
 refine⟨by kernel_rfl,λ_=>rfl,λenc e f t x h a=>?_⟩;obtain⟨xs,n,_,rfl,d,c,b⟩:=DataW.trod_struct Tryz.underlying71 h
 have s:Tryz.prog.cellsOf 71=8:=by kernel_rfl
 rw[s]at d;have K:xs.length=8:=c;simp only[DataW.weights,Tryz.underlying71]at a;obtain⟨J,b0,r⟩:=ReadsB.field (Q4 W) (i:=0) a (j:=0) rfl (b 0 _ rfl) (by omega);obtain⟨I,B,q⟩:=ReadsB.field (Hn W) (i:=1) a (j:=1) rfl (b 1 _ rfl) (by omega);obtain⟨H,A,p⟩:=ReadsB.field (Hn W) (i:=2) a (j:=2) rfl (b 2 _ rfl) (by omega);obtain⟨G,z,o⟩:=ReadsB.field (Zhc W) (i:=3) a (j:=3) rfl (b 3 _ rfl) (by omega);obtain⟨F,y,m⟩:=ReadsB.field (Hn W) (i:=4) a (j:=4) rfl (b 4 _ rfl) (by omega);obtain⟨E,w,l⟩:=ReadsB.field (Q4 W) (i:=5) a (j:=5) rfl (b 5 _ rfl) (by omega);obtain⟨D,v,k⟩:=ReadsB.field (Q4 W) (i:=6) a (j:=6) rfl (b 6 _ rfl) (by omega);obtain⟨C,u,g⟩:=ReadsB.field (Zdca W) (i:=7) a (j:=7) rfl (b 7 _ rfl) (by omega)
 match t,d with
 |[c0,c1,c2,c3,c4,c5,c6,c7],_=>exact⟨⟨J,I,H,G,F,E,D,C⟩,⟨b0,B,A,z,y,w,v,u⟩,r.append (q.append (p.append (o.append (m.append (l.append (k.append g))))))⟩
theorem rb_md(W:World):ReadsB Tryz.prog W 28 6 mdOk (λm=>(Zw .any .any m).cells):=by
 refine⟨by kernel_rfl,λ_=>rfl,λenc e f s x h a=>?_⟩;obtain⟨xs,n,_,rfl,d,c,b⟩:=DataW.trod_struct Tryz.underlying28 h
 have r:Tryz.prog.cellsOf 28=6:=by kernel_rfl
 rw[r]at d;have F:xs.length=6:=c;simp only[DataW.weights,Tryz.underlying28]at a;obtain⟨E,b0,q⟩:=ReadsB.field (Q4 W) (i:=0) a (j:=0) rfl (b 0 _ rfl) (by omega);obtain⟨D,y,p⟩:=ReadsB.field (ReadsB.slice Tryz.underlying22 (by kernel_rfl) (by decide) (by kernel_rfl) (rb_var W)) (i:=1) a (j:=1) rfl (b 1 _ rfl) (by omega);obtain⟨C,w,o⟩:=ReadsB.field (Zhc W) (i:=2) a (j:=2) rfl (b 2 _ rfl) (by omega);obtain⟨B,v,l⟩:=ReadsB.field (ReadsB.slice Tryz.underlying24 (by kernel_rfl) (by decide) (by kernel_rfl) (rb_rgn W)) (i:=3) a (j:=3) rfl (b 3 _ rfl) (by omega);obtain⟨A,u,k⟩:=ReadsB.field (ReadsB.slice Tryz.underlying25 (by kernel_rfl) (by decide) (by kernel_rfl) (rb_vtx W)) (i:=4) a (j:=4) rfl (b 4 _ rfl) (by omega);obtain⟨z,t,g⟩:=ReadsB.field (ReadsB.slice Tryz.underlying26 (by kernel_rfl) (by decide) (by kernel_rfl) (rb_way W)) (i:=5) a (j:=5) rfl (b 5 _ rfl) (by omega)
 match s,d with
 |[c0,c1,c2,c3,c4,c5],_=>exact⟨⟨E,D,C,B,A,z⟩,⟨b0,y,w,v,u,t⟩,q.append (p.append (o.append (l.append (k.append g))))⟩
variable{W:World}{H:Type}{enc:TypeId×Value->H}{b0:Nat}{v:Value}{d:DataW H}{ps:List MemPlace}
theorem argD(c:Value.okWide Tryz.prog W .any b0 28 v)(h:DataW.Trod enc Tryz.prog W 0 (λ_=>true) true 28 v d ps)(g:(d.weights Tryz.prog 28).all (· <= reachBytes)=true):∃ x:MdM,mdOk x/\Rel (Wj W) v (Zw .old .old x):=by
 obtain⟨a,h⟩:=h;obtain⟨x,i,f⟩:=(rb_md W).2.2 enc true a _ _ h g
 have b:Rel (Wj W) v (Zw .any .any x):=by
  unfold Value.okWide at c;rw[Tryz.underlying28]at c;obtain⟨j,rfl,_,_⟩:=c;exact Ft f
 have e:=b.ofW_old;rw[Vq]at e;exact⟨x,i,e⟩
theorem Zxs{a:Assume}{C:Checked}{os:Os}{f:FuncId}{l:Func}{H:Type}{enc:TypeId×Value->H}{s:ChangeSpec}{m:List PathCond}{b k c n:Bool}{X:World->Array Value->Prop}
  (J:∀ (w w':World) (args:Array Value),w.heap=w'.heap->X w args->X w' args)
  (p:ownKnob C.prog.godebug=none) (h:os.Started) (o:C.prog.inits.idxOf? f=none) (A:C.prog.funcs[f]?=some l)
  (g:∃ (w:World) (tape:Tape) (i:Input),w.os=os/\(w.forCall tape i).Shaped C.prog/\i.vars=[]/\Input.okWide C.prog (w.forCall tape i) .any w.heap.size f i /\
   ((s.pre enc C.prog l m b (w.forCall tape i).memory i.args/\X (w.forCall tape i).memory i.args)/\sizedMet enc C.prog l (OpenSpec.ofChange s) b (w.forCall tape i).memory i.args)/\a.holds C.prog (lone (Frame.enter C.prog f i.args .normal) [] (w.forCall tape i)))
  (d:∀ (W:World) (base:Nat) (args:Array Value) (ds gs:List (DataW H)) (before:List MemPlace),W.ShapedOpen C.prog ->
   (∀ (j:Nat) t v,l.params[j]?=some t->args[j]?=some v->Value.okWide C.prog W .any base t v) ->
   DataW.Whole enc C.prog l.params.toList s.vars b W args.toList ds gs before ->
   (DataW.weightsEach C.prog (l.params.toList++s.plain.varTypes C.prog) (ds++gs)).all (· <= reachBytes)=true->X W args ->
   Calls C.prog f args W λe W'=>∃ v,e=.returned v/\s.post enc C.prog l b k c n W args v W'):
  ReturnsInHanded a C os f .any (λw args=>(s.pre enc C.prog l m b w args/\X w args)/\sizedMet enc C.prog l (OpenSpec.ofChange s) b w args) (s.post enc C.prog l b k c n):=by
 refine returnsInHanded_of_calls p h o g ?_;intro w tape i _ y _ z r _;obtain⟨_,_,_,B,u,_,_,_,_,q⟩:=z;have e:B=l:=Option.some.inj (u.symm.trans A);subst e;obtain⟨⟨⟨ds,gs,before,D,_⟩,F⟩,E⟩:=r;have x:=DataW.Whole.of_heap (w':=w.forCall tape i) (by rfl) D;refine(d (w.forCall tape i) w.heap.size i.args ds gs before y q x (E.weights D) (J _ _ _ (by rfl) F)).mono λe W' ⟨v,I,G⟩=>?_;subst I;exact ChangeSpec.post_blind G
end Go.Proofs.YtjplgaebbfabnaaGreatDoor
