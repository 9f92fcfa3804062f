/- A part. No condition. -/
import Derived.Test.YtkennpiglkfalaaGreatDoorP51
import Derived.Test.YtkennpiglkfalaaGreatDoorCards
set_option linter.all false
open Bool renaming true->ad
open Go.Proofs.Tryz renaming prog->ai
open Go.Proofs.Tryz
open Go.DataW renaming trod_struct->bA,weights->bB
section
namespace Go.Proofs.YtkennpiglkfalaaGreatDoor
open Go.RowKit Go.Hs Go.ChangeShapes Go.WideShapes Go.ChangeAt
set_option maxRecDepth 100000
def JZ(s:bS):Prop:=s.length<=reachBytes
def UZ(l:Sl bS):Prop:=l.l.length<=reachBytes/\∀ s∈l.l,JZ s
def VS(p:bS×Int):Prop:=JZ p.1/\HP .i64 p.2
def lK(x:FK):Prop:=JZ x.name/\HP .u8 x.AD/\HP .i64 x.region/\HP .i64 x.of/\JZ x.entry/\JZ x.exit/\UZ x.defers/\JZ x.sub
def lH(x:FZ):Prop:=JZ x.name/\HP .i64 x.AV/\HP .i64 x.target/\UZ x.C_/\HP .i64 x.after/\JZ x.guard/\JZ x.DT/\HP .u8 x.AD
def VM{α:Type}(B:α->Prop)(s:Sl α):Prop:=s.l.length<=reachBytes/\∀ a∈s.l,B a
def aj(m:BR):Prop:=JZ m.name/\VM VS m.vars/\UZ m.BF/\VM VS m.AU/\VM lK m.AL/\VM lH m.AE
def Od(W:World):ReadsB ai W 9 1 JZ (λs:bS=>[V.AB s]):=ReadsB.AB underlying9 zk
def ZE(W:World):ReadsB ai W 23 1 UZ (λs:Sl bS=>[Za .any 1 V.AB s]):=
 TV underlying23 zk zd zk (Od W)
def kW(W:World):ReadsB ai W 5 1 (HP .u8) (λn=>[V.int .u8 n]):=ReadsB.int underlying5 zk
def Dh(W:World):ReadsB ai W 3 1 (HP .i64) (λn=>[qI n]):=ReadsB.int underlying3 zk
def ACe(W:World):ReadsB ai W 2 1 (HP .i64) (λn=>[qI n]):=ReadsB.int underlying2 zk
def ACh(W:World):ReadsB ai W 73 2 VS (λp=>(Yw p).cells):=by
 refine⟨by kernel_rfl,λ_=>rfl,λenc e f m x h b=>?_⟩;obtain⟨xs,n,_,rfl,c,a,d⟩:=bA underlying73 h;have l:ai.cellsOf 73=2:=zk;rw[l]at c;have s:xs.length=2:=a;simp only[bB,underlying73]at b;have⟨r,b0,k⟩:=FT (Od W) (i:=0) b (j:=0) rfl (d 0 _ rfl) (by omega);have⟨q,o,g⟩:=FT (ACe W) (i:=1) b (j:=1) rfl (d 1 _ rfl) (by omega)
 match m,c with|[c0,c1],_=>exact⟨(r,q),⟨b0,o⟩,k.append g⟩
def ACg(W:World):ReadsB ai W 76 2 VS (λp=>(Yw p).cells):=by
 refine⟨by kernel_rfl,λ_=>rfl,λenc e f m x h b=>?_⟩;obtain⟨xs,n,_,rfl,c,a,d⟩:=bA underlying76 h;have l:ai.cellsOf 76=2:=zk;rw[l]at c;have s:xs.length=2:=a;simp only[bB,underlying76]at b;have⟨r,b0,k⟩:=FT (Od W) (i:=0) b (j:=0) rfl (d 0 _ rfl) (by omega);have⟨q,o,g⟩:=FT (Dh W) (i:=1) b (j:=1) rfl (d 1 _ rfl) (by omega)
 match m,c with|[c0,c1],_=>exact⟨(r,q),⟨b0,o⟩,k.append g⟩
def ACi(W:World):ReadsB ai W 59 8 lK (λx=>(Y6 .any x).cells):=by
 refine⟨by kernel_rfl,λ_=>rfl,λenc e f s x h a=>?_⟩;obtain⟨xs,n,_,rfl,d,c,b⟩:=bA underlying59 h;have r:ai.cellsOf 59=8:=zk;rw[r]at d;have J:xs.length=8:=c;simp only[bB,underlying59]at a;have⟨I,b0,q⟩:=FT (Od W) (i:=0) a (j:=0) rfl (b 0 _ rfl) (by omega);have⟨H,A,p⟩:=FT (kW W) (i:=1) a (j:=1) rfl (b 1 _ rfl) (by omega);have⟨G,z,h2⟩:=FT (Dh W) (i:=2) a (j:=2) rfl (b 2 _ rfl) (by omega);have⟨F,y,o⟩:=FT (Dh W) (i:=3) a (j:=3) rfl (b 3 _ rfl) (by omega);have⟨E,w,m⟩:=FT (Od W) (i:=4) a (j:=4) rfl (b 4 _ rfl) (by omega);have⟨D,v,l⟩:=FT (Od W) (i:=5) a (j:=5) rfl (b 5 _ rfl) (by omega);have⟨C,u,k⟩:=FT (ZE W) (i:=6) a (j:=6) rfl (b 6 _ rfl) (by omega);have⟨B,t,g⟩:=FT (Od W) (i:=7) a (j:=7) rfl (b 7 _ rfl) (by omega)
 match s,d with|[c0,c1,c2,c3,c4,c5,c6,c7],_=>exact⟨⟨I,H,G,F,E,D,C,B⟩,⟨b0,A,z,y,w,v,u,t⟩,q.append (p.append (h2.append (o.append (m.append (l.append (k.append g))))))⟩
def ACj(W:World):ReadsB ai W 61 8 lH (λx=>(Xo .any x).cells):=by
 refine⟨by kernel_rfl,λ_=>rfl,λenc e f s x h a=>?_⟩;obtain⟨xs,n,_,rfl,d,c,b⟩:=bA underlying61 h;have r:ai.cellsOf 61=8:=zk;rw[r]at d;have J:xs.length=8:=c;simp only[bB,underlying61]at a;have⟨I,b0,q⟩:=FT (Od W) (i:=0) a (j:=0) rfl (b 0 _ rfl) (by omega);have⟨H,A,p⟩:=FT (Dh W) (i:=1) a (j:=1) rfl (b 1 _ rfl) (by omega);have⟨G,z,h2⟩:=FT (Dh W) (i:=2) a (j:=2) rfl (b 2 _ rfl) (by omega);have⟨F,y,o⟩:=FT (ZE W) (i:=3) a (j:=3) rfl (b 3 _ rfl) (by omega);have⟨E,w,m⟩:=FT (Dh W) (i:=4) a (j:=4) rfl (b 4 _ rfl) (by omega);have⟨D,v,l⟩:=FT (Od W) (i:=5) a (j:=5) rfl (b 5 _ rfl) (by omega);have⟨C,u,k⟩:=FT (Od W) (i:=6) a (j:=6) rfl (b 6 _ rfl) (by omega);have⟨B,t,g⟩:=FT (kW W) (i:=7) a (j:=7) rfl (b 7 _ rfl) (by omega)
 match s,d with|[c0,c1,c2,c3,c4,c5,c6,c7],_=>exact⟨⟨I,H,G,F,E,D,C,B⟩,⟨b0,A,z,y,w,v,u,t⟩,q.append (p.append (h2.append (o.append (m.append (l.append (k.append g))))))⟩
def ACf(W:World):ReadsB ai W 28 6 aj (λm=>(Zw .any .any m).cells):=by
 refine⟨by kernel_rfl,λ_=>rfl,λenc e f r x h a=>?_⟩;obtain⟨xs,n,_,rfl,d,c,b⟩:=bA underlying28 h;have q:ai.cellsOf 28=6:=zk;rw[q]at d;have E:xs.length=6:=c;simp only[bB,underlying28]at a;have⟨D,b0,p⟩:=FT (Od W) (i:=0) a (j:=0) rfl (b 0 _ rfl) (by omega);have⟨C,w,o⟩:=FT (TV underlying22 zk zd zk (ACh W)) (i:=1) a (j:=1) rfl (b 1 _ rfl) (by omega);have⟨B,v,h2⟩:=FT (ZE W) (i:=2) a (j:=2) rfl (b 2 _ rfl) (by omega);have⟨A,u,l⟩:=FT (TV underlying24 zk zd zk (ACg W)) (i:=3) a (j:=3) rfl (b 3 _ rfl) (by omega);have⟨z,t,k⟩:=FT (TV underlying25 zk zd zk (ACi W)) (i:=4) a (j:=4) rfl (b 4 _ rfl) (by omega);have⟨y,s,g⟩:=FT (TV underlying26 zk zd zk (ACj W)) (i:=5) a (j:=5) rfl (b 5 _ rfl) (by omega)
 match r,d with|[c0,c1,c2,c3,c4,c5],_=>exact⟨⟨D,C,B,A,z,y⟩,⟨b0,w,v,u,t,s⟩,p.append (o.append (h2.append (l.append (k.append g))))⟩
variable{W:World}{H:Type}{enc:TypeId×Value->H}{b0:Nat}{v:Value}{d:DataW H}{ps:List MemPlace}
def ABi(c:Value.okWide ai W .any b0 28 v)(h:DataW.Trod enc ai W 0 (λ_=>ad) ad 28 v d ps)(f:(d.weights ai 28).all (· <= reachBytes)=ad):∃ x:BR,aj x/\AI (Uv W) v (Zw .old .old x):=by
 have⟨a,h⟩:=h;have⟨x,g,e⟩:=(ACf W).2.2 enc ad a _ _ h f;have b:AI (Uv W) v (Zw .any .any x):=by unfold Value.okWide at c;rw[underlying28]at c;obtain⟨i,rfl,_,_⟩:=c;exact ABG e
 have h2:=b.ofW_old;rw[Kz]at h2;exact⟨x,g,h2⟩
def o4{a:Assume}{C:Checked}{os:Os}{f:FuncId}{l:Func}{H:Type}{enc:TypeId×Value->H}{s:ChangeSpec}{m:List PathCond}{b k c again:Bool}{X:World->Array Value->Prop}(I:∀ (w w':World) (args:Array Value),w.heap=w'.heap->X w args->X w' args)(o:ownKnob C.prog.godebug=none)(h:os.Started)(n:C.prog.inits.idxOf? f=none)(z:C.prog.funcs[f]?=some l)(g:∃ (w:World) (tape:Tape) (i:Input),w.os=os/\(w.forCall tape i).Shaped C.prog/\i.vars=[]/\Input.okWide C.prog (w.forCall tape i) .any w.heap.size f i /\
   ((s.pre enc C.prog l m b (w.forCall tape i).memory i.args/\X (w.forCall tape i).memory i.args)/\sizedMet enc C.prog l (OpenSpec.ofChange s) b (w.forCall tape i).memory i.args)/\a.holds C.prog (lone (Frame.enter C.prog f i.args .normal) [] (w.forCall tape i)))(d:∀ (W:World) (base:Nat) (args:Array Value) (ds gs:List (DataW H)) (before:List MemPlace),W.ShapedOpen C.prog ->
   (∀ (j:Nat) t v,l.params[j]?=some t->args[j]?=some v->Value.okWide C.prog W .any base t v) ->
   DataW.Whole enc C.prog l.params.toList s.vars b W args.toList ds gs before ->
   (DataW.weightsEach C.prog (l.params.toList++s.plain.varTypes C.prog) (ds++gs)).all (· <= reachBytes)=ad->X W args ->
   Calls C.prog f args W λe W'=>∃ v,e=.returned v/\s.post enc C.prog l b k c again W args v W'):ReturnsInHanded a C os f .any (λw args=>(s.pre enc C.prog l m b w args/\X w args)/\sizedMet enc C.prog l (OpenSpec.ofChange s) b w args) (s.post enc C.prog l b k c again):=by
 refine returnsInHanded_of_calls o h n g ?_;intro w tape i _ x _ y q _;have⟨_,_,_,A,r,_,_,_,_,p⟩:=y;have e:A=l:=EY (r.symm.trans z);subst e;have⟨⟨⟨ds,gs,before,B,_⟩,E⟩,D⟩:=q;have u:=DataW.Whole.of_heap (w':=w.forCall tape i) (by rfl) B;refine(d (w.forCall tape i) w.heap.size i.args ds gs before x p u (D.weights B) (I _ _ _ (by rfl) E)).mono λe W' ⟨v,G,F⟩=>?_;subst G;exact ChangeSpec.post_blind F
end Go.Proofs.YtkennpiglkfalaaGreatDoor
namespace Go.Proofs.YtkennpiglkfalaaGreatDoor
open Go.RowKit Go.Hs
def ACV{m:BR}(h:aj m):O_ m:=by have⟨u,⟨h2,t⟩,⟨s,r⟩,⟨q,o⟩,⟨n,l⟩,⟨j,i⟩⟩:=h;refine⟨u,⟨h2,λp g=>(t p g).1⟩,⟨s,r⟩,⟨q,λp g=>(o p g).1⟩,⟨n,λx f=>?_⟩,⟨j,λx f=>?_⟩⟩;have⟨e,_,_,_,d,c,⟨b,a⟩,k⟩:=l x f;exact⟨e,d,c,k,b,a⟩;have⟨e,_,_,⟨d,c⟩,_,b,a,_⟩:=i x f;exact⟨e,b,a,d,c⟩
open Go.RowKit Go.Hs Go.ChangeShapes Go.WideShapes Go.ChangeAt
set_option maxRecDepth 100000
set_option maxHeartbeats 4000000
def ACq:mapsRowed ai=ad:=zk
def mU:(ai.stops==[])=ad:=zk
def mu:(ai.stopKnobs==[])=ad:=zk
def ACo:(Rows.staticAllRow.plainKeys==ai.plainKeys)=ad:=zk
def nN:ai.stopsHeard=ad:=zk
def ny:ai.mayEnter=ad:=zk
def xG:(Rows.staticAllRow.lifted==ai.liftsFinal)=ad:=zk
def ACp:(ai.make==some Rows.staticAllRow.make)=ad:=zk
