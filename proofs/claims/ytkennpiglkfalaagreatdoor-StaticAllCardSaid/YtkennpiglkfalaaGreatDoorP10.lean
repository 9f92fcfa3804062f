/- A part. No condition. -/
import Derived.Test.YtkennpiglkfalaaGreatDoorP9
set_option linter.all false
open Bool renaming false->ab,true->ad
open Option renaming some->ae,none->ah
open Go.World renaming putObj_heap_other->al,putObj_size->an
namespace Go.Hs
section
variable{P:Program}{E:BX}{s:AS}{a:Act}{w:World}
def Spec(P:Program)(G:Nat->V)(f:FuncId)(args:List V)(H:A')(K:V->A'->Prop):Prop:=
 ∀ X cargs,X.base=X.w.heap.size->BZ X H->(∀ g,FI X g (G g))->FA X cargs args ->
  Calls P f cargs X.w (λe w'=>∃ c v H' Y,e=.returned c/\Y.w=w'/\BH X H Y H'/\AI Y c v/\K v H')
def Spec.mono{G f args H K K'}(h:Spec P G f args H K)(b:∀ v H',K v H'->K' v H'):Spec P G f args H K':=
 λX a i g h2 d=>(h X _ i g h2 d).mono λe w' ⟨c,v,H',Y,n,m,l,k,j⟩=>⟨c,v,H',Y,n,m,l,k,b _ _ j⟩
def SpecP(P:Program)(G:Nat->V)(kp:Option (V->A'->Prop))(f:FuncId)(args:List V)(H:A')(K:V->A'->Prop):Prop:=
 ∀ X cargs,X.base=X.w.heap.size->BZ X H->(∀ g,FI X g (G g))->FA X cargs args ->
  Calls P f cargs X.w (λe w'=>∃ c v H' Y,SK kp K e c v H'/\Y.w=w'/\BH X H Y H'/\AI Y c v)
def SpecP.no{G f args H K}(h:SpecP P G ah f args H K):Spec P G f args H K:=
 λX a i g h2 d=>(h X _ i g h2 d).mono λe w' ⟨c,v,p,Y,b,o,n,m⟩=>by rcases b with ⟨b,l⟩|⟨k,j,_⟩;grind;grind
def QW(P:Program)(s:AS):ResultVar->Option V
 |.tmp t=>ae (s.τ t)|.cell p t=>match s.τ p with|.ptr o g off=>W0 P s.H t (.ptr o g off)|_=>ah
def Qe(P:Program)(s:AS):List ResultVar->Option (List V)
 |[]=>ae []|r::l=>match QW P s r,Qe P s l with|some v,ae m=>ae (v::m)|_,_=>ah
def MU(P:Program)(s:AS)(rs:List ResultVar):Option V:=
 match Qe P s rs with|some [v]=>ae v|some l=>ae (.tuple l)|none=>ah
def wJ{X}(h:EF E X s a w){r v}(e:QW P s r=ae v):∃ c,(match r with|.tmp t=>pure (a.tmps.getD t undef)|.cell p t=>do loadVar t (<- asAddr (a.tmps.getD p undef)):Sem Value).run P w=.ok c w/\AI X c v:=by
 have i:=h.hw;subst i;rcases r with t|⟨p,t⟩;simp[QW]at e;subst e;exact⟨_,rfl,h.tm t⟩;simp only[QW]at e;split at e
 .rename_i o g off hp;have d:=h.tm p;rw[hp]at d;obtain⟨c,f,hrel⟩:=hN h.go.BJ d e;refine⟨c,?_,hrel⟩;simp only;generalize a.tmps.getD p _=q at *;rcases d with⟨_,_,_,b,bs,hβ⟩;simp only[Instr.loadAt,Instr.sureAddr]at f;simp only[asAddr,f]
 grind
def dE{X}(h:EF E X s a w):∀ {rs} {l},Qe P s rs=ae l ->
  ∃ cs,(rs.mapM λr=>(match r with|.tmp t=>pure (a.tmps.getD t undef)|.cell p t=>do loadVar t (<- asAddr (a.tmps.getD p undef)):Sem Value)).run P w=.ok cs w /\
   cs.length=l.length/\∀ i h1 (h2:i<l.length),AI X cs[i] l[i]
 |[],l,hl=>by simp[Qe]at hl;simp_all|r::rs,l,hl=>by
  simp only[Qe]at hl;rcases h1:QW P s r with _|v;grind;rcases h2:Qe P s rs with _|m;grind;rw[h1,h2]at hl;simp at hl;subst hl;obtain⟨c,f,e⟩:=wJ h h1;obtain⟨cs,d,b,hrel⟩:=dE h h2;refine⟨c::cs,?_,by simp[b],?_⟩;rw[cM,Sem.run_bind,f,Result.andThen_ok,Sem.run_bind,d];rfl
  .intro i hi1 hi2;rcases i with _|i;exact e;exact hrel i (zu hi1) (zu hi2)
def kX{X}(h:EF E X s a w){fn v}(j:MU P s fn.results.toList=ae v):∃ c,(results fn a.tmps).run P w=.ok c w/\AI X c v:=by
 unfold MU at j;rcases m:Qe P s fn.results.toList with _|l;grind;obtain⟨d,g,k,hrel⟩:=dE h m;rw[m]at j;have o:(fn.results.mapM λr=>(match r with|.tmp t=>pure (a.tmps.getD t undef)|.cell p t=>do loadVar t (<- asAddr (a.tmps.getD p undef)):Sem Value)).run P w=.ok d.toArray w:=by rw[lQ,Sem.run_map,g];rfl
 have b:(results fn a.tmps).run P w=.ok (if h:d.toArray.size=1 then d.toArray[0]else .tuple d.toArray) w:=by unfold results;rw[Sem.run_bind];erw [o];rfl
 by_cases x:∃ u,l=[u];grind;have e:v=.tuple l:=by grind
 subst e;have n:¬d.toArray.size=1:=by intro y;have:l.length=1:=zG;rw[LJ]at this;exact x this
 rw[dif_neg n]at b;refine⟨_,b,.tuple _ _ zG ?_⟩;intro i f q;simpa using hrel i (zu f) _
def Rf(P:Program)(rs:List ResultVar)(K:V->A'->Prop):Exit->AS->Prop
 |.normal,s|.ret,s=>∃ v,MU P s rs=ae v/\K v s.H|_,_=>False
def Tq:Nat->List V->Nat->V
 |_,[]=>λ_=>.top|k,v::r=>Ye (Tq (k+1) r) k v
def Br:∀ l k t,Tq k l t=.top\/(k<=t/\t-k<l.length/\Tq k l t=l.getD (t-k) .top)
 |[],k,t=>.inl rfl|v::r,k,t=>by simp only[Tq,Ye];by_cases h:t=k;grind;rw[AA h];rcases Br r (k+1) t with a|⟨a,h2,b⟩;grind;grind
def Sc:Obj->Bool
 |.cells .. => ab|.map .. => ab|_=>ad
def rU{w:World}{b i k o o'}(c:w.heap[b]?=ae o)(a:Sc o=ad){x}(h:w.cell? ⟨k,i,ah⟩=ae x):(w.putObj b o').cell? ⟨k,i,ah⟩=ae x:=by by_cases e:k=b;subst e;unfold World.cell? at h;simp only[c]at h;cases o<;>simp[Sc]at a h;rw[<- h];exact World.cell?_of_block (al e)
def UD{w:World}{b k:Nat}{o o1}(c:w.heap[b]?=ae o)(a:Sc o=ad)(d:Sc o1=ab)(h2:w.heap[k]?=ae o1):k≠b:=λe=>by grind
def S4{X:Cx}{b o}(o')(e:X.w.heap[b]?=ae o)(d:Sc o=ad):X.le {X with w:=X.w.putObj b o'}:=
 ⟨λ_ _ _ h=>h,λ_ _ h=>h,λ_ _ _ _ a=>rU e d a,rfl,λ_ c _ a=>⟨c,(al (UD e d rfl a)).trans a,rfl⟩,
  λ_ _ _ _ a=>(al (UD e d rfl a)).trans a⟩
def FI.turn{X b g v o}(o')(c:X.w.heap[b]?=ae o)(a:Sc o=ad)(h:FI X g v):FI {X with w:=X.w.putObj b o'} g v:=by refine⟨h.CV.mono (S4 o' c a),?_⟩;have:=h.sz;unfold SzK at this⊢;split;obtain⟨e,l,t,f,d,h2⟩:=this;exact⟨e,l,t,f,(al (UD c a rfl d)).trans d,h2⟩;simp
def Marks.turn{N D w}(o'):∀ {l},(∀ e∈l,e.target ≠ .collected D)->Marks N w l->Marks N (w.putObj D o') l
 |[],_,_=>trivial|_::_,he,⟨⟨D',p1,p2,p3,p4⟩,p5⟩=>⟨⟨D',p1,p2,(al λq=>he _ (GA ..) zG).trans p3,p4⟩,Marks.turn o' (λx a=>he x (FR _ a)) p5⟩
def BH.turn{X0 X H0 H}(h:BH X0 H0 X H){b o o'}(S:X.w.heap[b]?=ae o)(F:Sc o=ad)(ho':Sc o'=ad)(K:X0.w.heap.size<=b\/Wk X0 H0 b){H'}(L:∀ n,H' n=H n\/∃ r r',H n=.lp b r/\H' n=.lp b r'/\o'=.loop r')(hd:∀ n r,H n=.lp b r->H' n≠H n\/o'=.loop r):BH X0 H0 {X with w:=X.w.putObj b o'} H':=by
 have j:=h.BJ;have u:∀ {k} {B},Sc B=ab->X.w.heap[k]?=ae B->k≠b:=UD S F;have f:=S4 o' S F;have v:∀ n c g l m,H' n=.cells c g l m->H n=.cells c g l m:=λn c g l m a=>by grind
 refine⟨⟨?_,?_,?_,j.CK,(by rw[an];exact j.bw),j.thaw_le f λ_ _ E=>E,?_,?_⟩,h.le.trans f,⟨h.kp.os,h.kp.tape,h.kp.output,(by rw[an];exact h.kp.size),λk hk a=>?_⟩,h.Sn,?_⟩;intro n c g l m a;obtain⟨d,z,x,h2,c',t,I,G,M⟩:=j.DQ _ _ _ _ _ (v _ _ _ _ _ a);exact⟨d,z,x,h2,c',t,(al (u rfl I)).trans I,G,M.mono f⟩;exact λB c1 g1 f1 l1 P c2 g2 f2 l2 b V U x h2=>j.inj B c1 g1 f1 l1 P c2 g2 f2 l2 b V U (v _ _ _ _ _ x) (v _ _ _ _ _ h2);exact λb i E=>⟨by rw[an];exact(j.DD b i E).1,λo c g l m z F=>(j.DD b i E).2 o c g l m z (v _ _ _ _ _ F)⟩;intro n C d D A a;have Q:∀ n C d D A,H' n=.mp C d D A->H n=.mp C d D A:=λn C d D A a=>by rcases L n with e|⟨r,r',_,e,_⟩;rw[<- e];exact a;rw[e]at a;cases a
 obtain⟨x,h2,I,es,k,G,M,h6,h7,h8⟩:=j.KB _ _ _ _ _ (Q _ _ _ _ _ a);exact⟨x,h2,λP Y ks2 T q=>I _ _ _ _ (Q _ _ _ _ _ q),es,k,(al (u rfl G)).trans G,M,h6,λi p q=>(h7 i p q).mono f,λi p q=>(h8 i p q).mono f⟩;have R:∀ n d r,H' n=.lp d r->∃ s,H n=.lp d s/\(d≠b->r=s)/\(d=b->o'=.loop r):=λn d r a=>by rcases L n with e|⟨s,r',y,e,N⟩;refine⟨r,by rw[<- e];exact a,λ_=>rfl,λq=>?_⟩;subst q;rcases hd n r (by rw[<- e];exact a)with q|q;exact absurd e q;exact q;rw[e]at a;cases a;exact⟨s,y,λq=>absurd rfl q,λ_=>N⟩
 intro n d r a;obtain⟨s,y,e1,N⟩:=R _ _ _ a;obtain⟨O,W⟩:=j.IA _ _ _ y;refine⟨?_,λn2 r2 J=>by obtain⟨r3,e3,_⟩:=R _ _ _ J;exact W _ _ e3⟩;by_cases q:d=b;subst q;show(X.w.putObj d o').heap[d]?=_;rw[World.putObj_heap_same (DB.1 O).1,N rfl];rw[e1 q];exact(al q).trans O;refine(al λe=>?_).trans (h.kp.block k hk a);subst e;rcases K with q|q;omega;exact a q;refine Ue (λn d r a=>?_) λd ⟨n,c,g,l,m,z,a,hβ⟩=>h.on d (.inl ⟨n,c,g,l,m,z,v _ _ _ _ _ a,hβ⟩);rcases L n with e|⟨s,r',y,e,_⟩;exact h.on d (.inr ⟨n,r,by rw[<- e];exact a⟩);rw[e]at a;cases a;exact h.on b (.inr ⟨n,s,y⟩)
def F7{E fn R s}(c:E.rk=.HF)(f:∀ X a w,a.defers=[]->EF E X s a w->∃ v,(results fn a.tmps).run P w=.ok v w/\R (.returned v) w):∀ ds X a w,a.defers=ds->EF E X s a w->LeavesInM Fence.wide 0 P fn a.tmps R ds .returning w
 |[],X,a,w,hd,hX=>f X a w hd hX|d::ds,X,a,w,hd,hX=>by have h:=hX.hw;subst h;have b:=hX.df;rw[c,hd]at b;obtain⟨i,⟨D,m,h2,e,l⟩,k⟩:=b;refine⟨zS,.inl ⟨D,X.w.putObj D _,m,run_takeDeferred e,?_⟩⟩;refine F7 c f ds _ {a with defers:=ds} _ rfl ⟨rfl,((hX.gz (by rw[c];rfl)).turn e rfl rfl (.inl h2) (λ_=>.inl rfl) (λn r j=>?_)).gn E.N_le,?_,hX.sz,λt=>?_,λg=>?_⟩;have:=(hX.go.BJ.IA _ _ _ j).1;grind;rw[c];exact⟨i,k.turn _ l⟩;exact(hX.tm t).mono (S4 _ e rfl);exact(hX.gl g).turn _ e rfl
def dk{k X H G kp cargs args}(n q)(h:args.length<=n)(d:BZ X H)(e:∀ g,FI X g (G g))(c:FA X cargs args):EF ⟨X,H,n,q,G,kp,[],k⟩ X ⟨Tq 0 args,H⟩ {tmps:=cargs++Array.replicate (n-cargs.size) undef,defers:=[]} X.w:=by
 have a:=c.len;refine⟨rfl,(GF d).gn (TA _),.none _ _ _,by grind,λt=>?_,e⟩;rcases Br _ 0 t with b|⟨_,h2,f⟩;show AI X _ (Tq 0 args t);rw[b];exact .top _;show AI X _ (Tq 0 args t);rw[f];simp only[IS]at h2⊢;have b:(cargs++Array.replicate (n-cargs.size) undef).getD t undef=cargs[t]'zo:=by simp[Array.getD,a,h2];omega
 rw[b];have:=c.CV t zo h2;grind
def Kx{k}(p:k=.plain\/k=.HF){G kp}(x:k=.HF->kp=ah){f fn c args H K}(q)(D:P.funcs[f]?=ae fn)(I:fn.body=ae c)(u:Nat.ble args.length fn.ntmps=ad){X cargs}(J:BZ X H)(L:∀ g,FI X g (G g))(N:FA X cargs args)(h:AW P ⟨X,H,fn.ntmps,q,G,kp,[],k⟩ c (Rf P fn.results.toList K) ⟨Tq 0 args,H⟩):Calls P f cargs X.w (λe w'=>∃ c v H' Y,SK kp K e c v H'/\Y.w=w'/\BH X H Y H'/\AI Y c v):=by
 have M:k.F=Fence.wide:=Cr (by rcases p with rfl|rfl<;>rfl);refine(callsIn_wide (n:=0)).1 (callsIn_of_wp_marks D I trivial ?_);have C:=h _ _ ⟨X,dk fn.ntmps q (LK u) J L N⟩;rw[M]at C;refine wpIn_mono C ?_;have j:k.isInl=ab:=by rcases p with rfl|rfl<;>rfl
 rintro e m w' (⟨o,⟨Y,A⟩,i⟩|⟨O,rfl,k',c,v,Y,H',b,rfl,z,rfl,y,t,s⟩)
 .have CK:(∃ v,MU P o fn.results.toList=ae v/\K v o.H)->LeavesInM Fence.wide 0 P fn m.tmps (λe w'=>∃ c v H' Y,SK kp K e c v H'/\Y.w=w'/\BH X H Y H'/\AI Y c v) m.defers .returning w':=by
   intro⟨v,s,b⟩;have one:∀ B a w,a.defers=[]->EF ⟨X,H,fn.ntmps,q,G,kp,[],k⟩ B o a w->∃ v,(results fn _).run P w=.ok v w/\(∃ c v' H' Y,SK kp K _ c v' H'/\Y.w=w/\BH X H Y H'/\AI Y c v'):=λB a w _ d=>by obtain⟨c,E,t⟩:=kX d s;exact⟨c,E,c,v,o.H,B,.inl ⟨rfl,b⟩,d.hw,d.gz j,t⟩
   rcases p with rfl|rfl;have r:=MD A.df;rw[r];exact one Y m w' r A;exact F7 rfl one _ Y m w' rfl A
  cases e with|normal=>exact CK i|ret=>exact CK i|exit id=>exact i.elim|goto l=>exact i.elim|panic O=>exact i.elim|outgrown=>exact i.elim
 have r:m.defers=[]:=by rcases p with rfl|rfl;exact MD z;rw[x rfl]at b;cases b
 show LeavesInM _ 0 P fn _ _ _ _ _;rw[r];exact⟨c,v,H',Y,.inr ⟨k',b,rfl,s⟩,rfl,y.goes (du j),t⟩
def xF{G kp f fn c args H K}(q)(b:P.funcs[f]?=ae fn)(d:fn.body=ae c)(a:Nat.ble args.length fn.ntmps=ad)(h:∀ X,AW P ⟨X,H,fn.ntmps,q,G,kp,[],.plain⟩ c (Rf P fn.results.toList K) ⟨Tq 0 args,H⟩):SpecP P G kp f args H K:=
 λX _ _ e g i=>Kx (.inl rfl) (λh=>nomatch h) q b d a e g i (h X)
def rI{G f fn c args H K}(q)(b:P.funcs[f]?=ae fn)(d:fn.body=ae c)(a:Nat.ble args.length fn.ntmps=ad)(h:∀ X,AW P ⟨X,H,fn.ntmps,q,G,ah,[],.plain⟩ c (Rf P fn.results.toList K) ⟨Tq 0 args,H⟩):Spec P G f args H K:=(xF q b d a h).no
