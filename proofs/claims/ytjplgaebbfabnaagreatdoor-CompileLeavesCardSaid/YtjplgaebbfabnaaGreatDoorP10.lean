/- A part. No condition. -/
import Derived.Test.YtjplgaebbfabnaaGreatDoorP9
set_option linter.all false
namespace Go.Hs
section
variable{P:Program}{E:Ent}{s:AS}{a:Act}{w:World}
def Spec(P:Program)(G:Nat->V)(f:FuncId)(args:List V)(H:Heap)(K:V->Heap->Prop):Prop:=
 ∀ (X:Cx) (cargs:Array Value),X.base=X.w.heap.size->Inv X H->(∀ g,RelG X g (G g))->RelA X cargs args ->
  Calls P f cargs X.w (λe w'=>∃ c v H' Y,e=.returned c/\Y.w=w'/\Goes X H Y H'/\Rel Y c v/\K v H')
theorem Spec.mono{G:Nat->V}{f:FuncId}{args:List V}{H:Heap}{K K':V->Heap->Prop}(h:Spec P G f args H K)(b:∀ v H',K v H'->K' v H'):Spec P G f args H K':=
 λX a j i g d=>(h X a j i g d).mono λe w' ⟨c,v,H',Y,o,n,m,l,k⟩=>⟨c,v,H',Y,o,n,m,l,b _ _ k⟩
def SpecP(P:Program)(G:Nat->V)(kp:Option (V->Heap->Prop))(f:FuncId)(args:List V)(H:Heap)(K:V->Heap->Prop):Prop:=
 ∀ (X:Cx) (cargs:Array Value),X.base=X.w.heap.size->Inv X H->(∀ g,RelG X g (G g))->RelA X cargs args ->
  Calls P f cargs X.w (λe w'=>∃ c v H' Y,Zl6 kp K e c v H'/\Y.w=w'/\Goes X H Y H'/\Rel Y c v)
theorem SpecP.no{G:Nat->V}{f:FuncId}{args:List V}{H:Heap}{K:V->Heap->Prop}(h:SpecP P G none f args H K):Spec P G f args H K:=
 λX a j i g d=>(h X a j i g d).mono λe w' ⟨c,v,q,Y,b,p,o,n⟩=>by
  rcases b with ⟨b,m⟩|⟨k,l,_⟩
  grind
  grind
def Do(P:Program)(s:AS):ResultVar->Option V
 |.tmp t=>some (s.τ t)
 |.cell p t=>match s.τ p with
  |.ptr o g off=>Wc P s.H t (.ptr o g off)
  |_=>none
def Re(P:Program)(s:AS):List ResultVar->Option (List V)
 |[]=>some []
 |r::l=>match Do P s r,Re P s l with
  |some v,some m=>some (v::m)
  |_,_=>none
def Zni(P:Program)(s:AS)(rs:List ResultVar):Option V:=
 match Re P s rs with
 |some [v]=>some v
 |some l=>some (.tuple l)
 |none=>none
theorem Zdr{X:Cx}(h:SatX E X s a w){r:ResultVar}{v:V}(e:Do P s r=some v):
  ∃ c,(match r with|.tmp t=>pure (a.tmps.getD t undef)|.cell p t=>do loadVar t (<- asAddr (a.tmps.getD p undef)):Sem Value).run P w=.ok c w/\Rel X c v:=by
 have i:=h.hw;subst i
 cases r with
 |tmp t=>simp[Do]at e;subst e;exact⟨_,rfl,h.tm t⟩
 |cell p t=>
  simp only[Do]at e
  split at e
  .rename_i o g off hp
   have d:=h.tm p;rw[hp]at d;obtain⟨c,f,hrel⟩:=Zqa h.go.inv d e;refine⟨c,?_,hrel⟩;simp only;generalize a.tmps.getD p undef=q at *
   cases d with
   |ptr _ _ _ b bs hβ=>
    simp only[Instr.loadAt,Instr.sureAddr]at f;simp only[asAddr,f]
  grind
theorem Dp{X:Cx}(h:SatX E X s a w):∀ {rs:List ResultVar} {l:List V},Re P s rs=some l ->
  ∃ cs:List Value,(rs.mapM λr=>(match r with|.tmp t=>pure (a.tmps.getD t undef)|.cell p t=>do loadVar t (<- asAddr (a.tmps.getD p undef)):Sem Value)).run P w=.ok cs w /\
   cs.length=l.length/\∀ i (h1:i<cs.length) (h2:i<l.length),Rel X cs[i] l[i]
 |[],l,hl=>by simp[Re]at hl;simp_all
 |r::rs,l,hl=>by
  simp only[Re]at hl
  cases h1:Do P s r with
  |none=>grind
  |some v=>
   cases h2:Re P s rs with
   |none=>grind
   |some m=>
    rw[h1,h2]at hl;simp at hl;subst hl;obtain⟨c,f,e⟩:=Zdr h h1;obtain⟨cs,d,b,hrel⟩:=Dp h h2;refine⟨c::cs,?_,by simp[b],?_⟩;rw[List.mapM_cons,Sem.run_bind,f,Result.andThen_ok,Sem.run_bind,d];rfl
    .intro i hi1 hi2
     cases i with
     |zero=>exact e
     |succ i=>exact hrel i (zu hi1) (zu hi2)
theorem Zmi{X:Cx}(h:SatX E X s a w){d:Func}{v:V}(m:Zni P s d.results.toList=some v):∃ c,(results d a.tmps).run P w=.ok c w/\Rel X c v:=by
 unfold Zni at m
 cases o:Re P s d.results.toList with
 |none=>grind
 |some l=>
  obtain⟨e,k,n,hrel⟩:=Dp h o;rw[o]at m
  have x:(d.results.mapM λr=>(match r with|.tmp t=>pure (a.tmps.getD t undef)|.cell p t=>do loadVar t (<- asAddr (a.tmps.getD p undef)):Sem Value)).run P w=.ok e.toArray w:=by
   rw[Array.mapM_eq_mapM_toList,Sem.run_map,k];rfl
  have b:(results d a.tmps).run P w=.ok (if h:e.toArray.size=1 then e.toArray[0]else .tuple e.toArray) w:=by
   unfold results;rw[Sem.run_bind]
   erw [x]
   rfl
  by_cases y:∃ u,l=[u]
  grind
  have f:v=.tuple l:=by
   grind
  subst f
  have q:¬ e.toArray.size=1:=by
   intro z
   have:l.length=1:=by grind
   rw[List.length_eq_one_iff]at this;exact y this
  rw[dif_neg q]at b;refine⟨_,b,.tuple _ _ (by grind) ?_⟩;intro i j g;simpa using hrel i (zu j) g
def T3(P:Program)(rs:List ResultVar)(K:V->Heap->Prop):Exit->AS->Prop
 |.normal,s|.ret,s=>∃ v,Zni P s rs=some v/\K v s.H
 |_,_=>False
def Uy:Nat->List V->Nat->V
 |_,[]=>λ_=>.top
 |k,v::r=>Ya (Uy (k+1) r) k v
theorem Fp:∀ (l:List V) (k t:Nat),Uy k l t=.top\/(k<=t/\t-k<l.length/\Uy k l t=l.getD (t-k) .top)
 |[],k,t=>.inl rfl
 |v::r,k,t=>by
  simp only[Uy,Ya]
  by_cases h:t=k
  grind
  rw[if_neg h]
  rcases Fp r (k+1) t with a|⟨a,c,b⟩
  grind
  grind
def To:Obj->Bool
 |.cells .. => false
 |.map .. => false
 |_=>true
theorem Zb2{w:World}{b i k:Nat}{o o':Obj}(c:w.heap[b]?=some o)(a:To o=true){x:Value}(h:w.cell? ⟨k,i,none⟩=some x):(w.putObj b o').cell? ⟨k,i,none⟩=some x:=by
 by_cases e:k=b
 subst e;unfold World.cell? at h;simp only[c]at h
 cases o<;>simp[To]at a h
 rw[<- h];exact World.cell?_of_block (World.putObj_heap_other e)
theorem Zqc{w:World}{b k:Nat}{o a:Obj}(d:w.heap[b]?=some o)(c:To o=true)(g:To a=false)(f:w.heap[k]?=some a):k≠b:=λe=>by
 grind
theorem Sh{X:Cx}{b:Nat}{o:Obj}(o':Obj)(e:X.w.heap[b]?=some o)(d:To o=true):X.le { X with w:=X.w.putObj b o' }:=
 ⟨λ_ _ _ h=>h,λ_ _ h=>h,λ_ _ _ _ a=>Zb2 e d a,rfl,λ_ c _ a=>⟨c,(World.putObj_heap_other (Zqc e d rfl a)).trans a,rfl⟩,
  λ_ _ _ _ a=>(World.putObj_heap_other (Zqc e d rfl a)).trans a⟩
theorem RelG.turn{X:Cx}{b g:Nat}{v:V}{o:Obj}(o':Obj)(c:X.w.heap[b]?=some o)(a:To o=true)(h:RelG X g v):RelG { X with w:=X.w.putObj b o' } g v:=by
 refine⟨h.rel.mono (Sh o' c a),?_⟩;have:=h.sz;unfold SzK at this⊢
 split
 obtain⟨f,l,t,i,d,e⟩:=this;exact⟨f,l,t,i,(World.putObj_heap_other (Zqc c a rfl d)).trans d,e⟩;simp
theorem Marks.turn{N D:Nat}{w:World}(o':Obj):∀ {l:List Deferred},(∀ e∈l,e.target ≠ .collected D)->Marks N w l->Marks N (w.putObj D o') l
 |[],_,_=>trivial
 |_::_,he,⟨⟨D',p1,p2,p3,p4⟩,p5⟩=>
  ⟨⟨D',p1,p2,(World.putObj_heap_other λq=>he _ (List.mem_cons_self ..) (by grind)).trans p3,p4⟩,Marks.turn o' (λx a=>he x (List.mem_cons_of_mem _ a)) p5⟩
theorem Goes.turn{X0 X:Cx}{H0 H:Heap}(h:Goes X0 H0 X H){b:Nat}{o o':Obj}(T:X.w.heap[b]?=some o)(G:To o=true)(ho':To o'=true)(L:X0.w.heap.size<=b\/Xx X0 H0 b){H':Heap}
  (M:∀ n,H' n=H n\/∃ r r',H n=.lp b r/\H' n=.lp b r'/\o'=.loop r') (hd:∀ n r,H n=.lp b r->H' n≠H n\/o'=.loop r):Goes X0 H0 { X with w:=X.w.putObj b o' } H':=by
 have j:=h.inv;have u:∀ {k:Nat} {C:Obj},To C=false->X.w.heap[k]?=some C->k≠b:=Zqc T G;have f:X.le { X with w:=X.w.putObj b o' }:=Sh o' T G
 have v:∀ n c g l m,H' n=.cells c g l m->H n=.cells c g l m:=λn c g l m a=>by
  grind
 refine⟨⟨?_,?_,?_,j.fin,(by rw[World.putObj_size];exact j.bw),j.thaw_le f λ_ _ F=>F,?_,?_⟩,h.le.trans f,⟨h.kp.os,h.kp.tape,h.kp.output,(by rw[World.putObj_size];exact h.kp.size),λk hk a=>?_⟩,h.Sn,?_⟩;intro n c g l m a;obtain⟨d,A,y,x,c',t,J,I,N⟩:=j.obj _ _ _ _ _ (v _ _ _ _ _ a);exact⟨d,A,y,x,c',t,(World.putObj_heap_other (u rfl J)).trans J,I,N.mono f⟩;exact λC c1 g1 f1 l1 Q c2 g2 f2 l2 b W V y x=>j.inj C c1 g1 f1 l1 Q c2 g2 f2 l2 b W V (v _ _ _ _ _ y) (v _ _ _ _ _ x);exact λb i F=>⟨by rw[World.putObj_size];exact(j.safe b i F).1,λo c g l m A G=>(j.safe b i F).2 o c g l m A (v _ _ _ _ _ G)⟩;intro n D d E B a
 have R:∀ n D d E B,H' n=.mp D d E B->H n=.mp D d E B:=λn D d E B a=>by
  rcases M n with e|⟨r,r',_,e,_⟩
  rw[<- e];exact a;rw[e]at a;cases a
 obtain⟨y,x,J,es,k,I,N,h6,h7,h8⟩:=j.mps _ _ _ _ _ (R _ _ _ _ _ a);exact⟨y,x,λQ lo2 ks2 U q=>J _ _ _ _ (R _ _ _ _ _ q),es,k,(World.putObj_heap_other (u rfl I)).trans I,N,h6,λi p q=>(h7 i p q).mono f,λi p q=>(h8 i p q).mono f⟩
 have S:∀ n d r,H' n=.lp d r->∃ s,H n=.lp d s/\(d≠b->r=s)/\(d=b->o'=.loop r):=λn d r a=>by
  rcases M n with e|⟨s,r',z,e,O⟩
  refine⟨r,by rw[<- e];exact a,λ_=>rfl,λq=>?_⟩;subst q
  rcases hd n r (by rw[<- e];exact a)with q|q
  exact absurd e q;exact q;rw[e]at a;cases a;exact⟨s,z,λq=>absurd rfl q,λ_=>O⟩
 intro n d r a;obtain⟨s,z,e1,O⟩:=S _ _ _ a;obtain⟨P,Y⟩:=j.lps _ _ _ z;refine⟨?_,λn2 r2 K=>by obtain⟨r3,e3,_⟩:=S _ _ _ K;exact Y _ _ e3⟩
 by_cases q:d=b
 subst q
 show(X.w.putObj d o').heap[d]?=_
 rw[World.putObj_heap_same (Array.getElem?_eq_some_iff.1 P).1,O rfl];rw[e1 q];exact(World.putObj_heap_other q).trans P;refine(World.putObj_heap_other λe=>?_).trans (h.kp.block k hk a);subst e
 rcases L with q|q
 omega;exact a q;refine Uw (λn d r a=>?_) λd ⟨n,c,g,l,m,A,a,hβ⟩=>h.on d (.inl ⟨n,c,g,l,m,A,v _ _ _ _ _ a,hβ⟩)
 rcases M n with e|⟨s,r',z,e,_⟩
 exact h.on d (.inr ⟨n,r,by rw[<- e];exact a⟩);rw[e]at a;cases a;exact h.on b (.inr ⟨n,s,z⟩)
theorem J7{E:Ent}{h:Func}{R:Ending->World->Prop}{s:AS}(c:E.rk=.marks)(f:∀ X a w,a.defers=[]->SatX E X s a w->∃ v,(results h a.tmps).run P w=.ok v w/\R (.returned v) w):
  ∀ (ds:List Deferred) (X:Cx) (a:Act) (w:World),a.defers=ds->SatX E X s a w->LeavesInM Fence.wide 0 P h a.tmps R ds .returning w
 |[],X,a,w,hd,hX=>f X a w hd hX
 |d::ds,X,a,w,hd,hX=>by
  have i:=hX.hw;subst i;have b:=hX.df;rw[c,hd]at b;obtain⟨j,⟨D,p,o,e,m⟩,l⟩:=b;refine⟨zS,.inl ⟨D,X.w.putObj D (.deferred none),p,run_takeDeferred e,?_⟩⟩;refine J7 c f ds { X with w:=X.w.putObj D (.deferred none) } { a with defers:=ds } _ rfl ⟨rfl,((hX.gz (by rw[c];rfl)).turn e rfl rfl (.inl o) (λ_=>.inl rfl) (λn r k=>?_)).gn E.N_le,?_,hX.sz,λt=>?_,λg=>?_⟩;have:=(hX.go.inv.lps _ _ _ k).1
  grind
  rw[c];exact⟨j,l.turn _ m⟩;exact(hX.tm t).mono (Sh _ e rfl);exact(hX.gl g).turn _ e rfl
theorem Zia{k:RK}{X:Cx}{H:Heap}{G:Nat->V}{kp:Option (V->Heap->Prop)}{a:Array Value}{args:List V}(n q:Nat)(j:args.length<=n)(f:Inv X H)(h:∀ g,RelG X g (G g))(e:RelA X a args):
  SatX ⟨X,H,n,q,G,kp,[],k⟩ X ⟨Uy 0 args,H⟩ { tmps:=a++Array.replicate (n-a.size) undef,defers:=[] } X.w:=by
 have b:=e.len;refine⟨rfl,(Goes.refl f).gn (Ent.N_le _),.none _ _ _,by grind,λt=>?_,h⟩
 rcases Fp args 0 t with d|⟨_,c,i⟩
 show Rel X _ (Uy 0 args t)
 rw[d];exact .top _
 show Rel X _ (Uy 0 args t)
 rw[i];simp only[Nat.sub_zero]at c⊢
 have d:(a++Array.replicate (n-a.size) undef).getD t undef=a[t]'zo:=by
  simp[Array.getD,b,c];omega
 rw[d];have:=e.rel t zo c
 grind
theorem Od{k:RK}(s:k=.plain\/k=.marks){G:Nat->V}{kp:Option (V->Heap->Prop)}(z:k=.marks->kp=none){f:FuncId}{d:Func}{c:Code}{args:List V}{H:Heap}{K:V->Heap->Prop}(q:Nat)(I:P.funcs[f]?=some d)(L:d.body=some c)(y:Nat.ble args.length d.ntmps=true)
  {X:Cx} {i:Array Value} (M:Inv X H) (N:∀ g,RelG X g (G g)) (Q:RelA X i args) (h:AW P ⟨X,H,d.ntmps,q,G,kp,[],k⟩ c (T3 P d.results.toList K) ⟨Uy 0 args,H⟩):
  Calls P f i X.w (λe w'=>∃ c v H' Y,Zl6 kp K e c v H'/\Y.w=w'/\Goes X H Y H'/\Rel Y c v):=by
 have O:k.F=Fence.wide:=Zjb (by rcases s with rfl|rfl<;>rfl);refine(callsIn_wide (n:=0)).1 (callsIn_of_wp_marks I L trivial ?_);have E:=h _ _ ⟨X,Zia d.ntmps q (Nat.le_of_ble_eq_true y) M N Q⟩;rw[O]at E;refine wpIn_mono E ?_
 have p:k.isInl=false:=by rcases s with rfl|rfl<;>rfl
 rintro e j w' (⟨r,⟨Y,C⟩,o⟩|⟨R,rfl,k',c,v,Y,H',b,rfl,B,rfl,A,x,u⟩)
 .have fin:(∃ v,Zni P r d.results.toList=some v/\K v r.H)->LeavesInM Fence.wide 0 P d j.tmps (λe w'=>∃ c v H' Y,Zl6 kp K e c v H'/\Y.w=w'/\Goes X H Y H'/\Rel Y c v) j.defers .returning w':=by
   intro⟨v,u,b⟩
   have one:∀ D a w,a.defers=[]->SatX ⟨X,H,d.ntmps,q,G,kp,[],k⟩ D r a w->∃ v,(results d a.tmps).run P w=.ok v w/\(∃ c v' H' Y,Zl6 kp K (.returned v) c v' H'/\Y.w=w/\Goes X H Y H'/\Rel Y c v'):=λD a w _ m=>by
    obtain⟨c,J,x⟩:=Zmi m u;exact⟨c,J,c,v,r.H,D,.inl ⟨rfl,b⟩,m.hw,m.gz p,x⟩
   rcases s with rfl|rfl
   have t:j.defers=[]:=DefR.nil C.df;rw[t];exact one Y j w' t C;exact J7 rfl one j.defers Y j w' rfl C
  cases e with
  |normal=>exact fin o
  |ret=>exact fin o
  |exit id=>exact o.elim
  |goto l=>exact o.elim
  |panic R=>exact o.elim
  |outgrown=>exact o.elim
 have t:j.defers=[]:=by
  rcases s with rfl|rfl
  exact DefR.nil B;rw[z rfl]at b;cases b
 show LeavesInM Fence.wide 0 P d j.tmps _ j.defers _ _
 rw[t];exact⟨c,v,H',Y,.inr ⟨k',b,rfl,u⟩,rfl,A.goes (Z9p p),x⟩
theorem A4{G:Nat->V}{kp:Option (V->Heap->Prop)}{f:FuncId}{a:Func}{c:Code}{args:List V}{H:Heap}{K:V->Heap->Prop}(q:Nat)(d:P.funcs[f]?=some a)(e:a.body=some c)(b:Nat.ble args.length a.ntmps=true)
  (h:∀ X,AW P ⟨X,H,a.ntmps,q,G,kp,[],.plain⟩ c (T3 P a.results.toList K) ⟨Uy 0 args,H⟩):SpecP P G kp f args H K:=
 λX _ _ g i j=>Od (.inl rfl) (λh=>nomatch h) q d e b g i j (h X)
theorem Zeh{G:Nat->V}{f:FuncId}{a:Func}{c:Code}{args:List V}{H:Heap}{K:V->Heap->Prop}(q:Nat)(d:P.funcs[f]?=some a)(e:a.body=some c)(b:Nat.ble args.length a.ntmps=true)
  (h:∀ X,AW P ⟨X,H,a.ntmps,q,G,none,[],.plain⟩ c (T3 P a.results.toList K) ⟨Uy 0 args,H⟩):Spec P G f args H K:=(A4 q d e b h).no
end
end Go.Hs
