/- A part. No condition. -/
import Derived.Test.YtoahejkahaimnaaGreatDoorP9
set_option linter.all false
namespace Go.Hs
section
variable{P:Program}{E:Ent}{s:AS}{a:Act}{w:World}
def Spec(P:Program)(G:Nat->V)(f:FuncId)(args:List V)(H:Heap)(K:V->Heap->Prop):Prop:=
 ∀ (X:Cx) (cargs:Array Value),X.base=X.w.heap.size->Inv X H->(∀ g,RelG X g (G g))->RelA X cargs args ->
  Calls P f cargs X.w (λe w'=>∃ c v H' Y,e=.returned c/\Y.w=w'/\Goes X H Y H'/\Rel Y c v/\K v H')
theorem Spec.mono{G:Nat->V}{f:FuncId}{args:List V}{H:Heap}{K K':V->Heap->Prop}(h:Spec P G f args H K)(hk:∀ v H',K v H'->K' v H'):Spec P G f args H K':=
 λX cargs h0 h1 h2 h3=>(h X cargs h0 h1 h2 h3).mono λe w' ⟨c,v,H',Y,a1,a2,a3,a4,a5⟩=>⟨c,v,H',Y,a1,a2,a3,a4,hk _ _ a5⟩
def SpecP(P:Program)(G:Nat->V)(kp:Option (V->Heap->Prop))(f:FuncId)(args:List V)(H:Heap)(K:V->Heap->Prop):Prop:=
 ∀ (X:Cx) (cargs:Array Value),X.base=X.w.heap.size->Inv X H->(∀ g,RelG X g (G g))->RelA X cargs args ->
  Calls P f cargs X.w (λe w'=>∃ c v H' Y,outP kp K e c v H'/\Y.w=w'/\Goes X H Y H'/\Rel Y c v)
theorem SpecP.no{G:Nat->V}{f:FuncId}{args:List V}{H:Heap}{K:V->Heap->Prop}(h:SpecP P G none f args H K):Spec P G f args H K:=
 λX cargs h0 h1 h2 h3=>(h X cargs h0 h1 h2 h3).mono λe w' ⟨c,v,H',Y,a1,a2,a3,a4⟩=>by
  rcases a1 with ⟨a1,a5⟩|⟨k,hk,_⟩
  exact⟨c,v,H',Y,a1,a2,a3,a4,a5⟩;cases hk
theorem SpecP.mono{G:Nat->V}{kp:Option (V->Heap->Prop)}{f:FuncId}{args:List V}{H:Heap}{K K':V->Heap->Prop}(h:SpecP P G kp f args H K)(hk:∀ v H',K v H'->K' v H'):SpecP P G kp f args H K':=
 λX cargs h0 h1 h2 h3=>(h X cargs h0 h1 h2 h3).mono λe w' ⟨c,v,H',Y,a1,a2,a3,a4⟩=>⟨c,v,H',Y,a1.imp (fun⟨a,b⟩=>⟨a,hk _ _ b⟩) id,a2,a3,a4⟩
def Zpn(P:Program)(s:AS):ResultVar->Option V
 |.tmp t=>some (s.τ t)
 |.cell p t=>match s.τ p with
  |.ptr o g off=>Zvb P s.H t (.ptr o g off)
  |_=>none
def Zie(P:Program)(s:AS):List ResultVar->Option (List V)
 |[]=>some []
 |r::l=>match Zpn P s r,Zie P s l with
  |some v,some m=>some (v::m)
  |_,_=>none
def resA(P:Program)(s:AS)(rs:List ResultVar):Option V:=
 match Zie P s rs with
 |some [v]=>some v
 |some l=>some (.tuple l)
 |none=>none
theorem Zl8{X:Cx}(h:SatX E X s a w){r:ResultVar}{v:V}(hr:Zpn P s r=some v):
  ∃ c,(match r with|.tmp t=>pure (a.tmps.getD t undef)|.cell p t=>do loadVar t (<- asAddr (a.tmps.getD p undef)):Sem Value).run P w=.ok c w/\Rel X c v:=by
 have hw:=h.hw;subst hw
 cases r with
 |tmp t=>simp[Zpn]at hr;subst hr;exact⟨_,rfl,h.tm t⟩
 |cell p t=>
  simp only[Zpn]at hr
  split at hr
  .rename_i o g off hp
   have hp':=h.tm p;rw[hp]at hp';obtain⟨c,hc,hrel⟩:=Ztu h.go.inv hp' hr;refine⟨c,?_,hrel⟩;simp only;generalize a.tmps.getD p undef=q at *
   cases hp' with
   |ptr _ _ _ b bs hβ=>
    simp only[Instr.loadAt,Instr.sureAddr,Sem.run_bind,Sem.run_pure,Result.andThen_ok]at hc;simp only[asAddr,Sem.run_bind,Sem.run_pure,Result.andThen_ok,hc]
  simp at hr
theorem Ztq{X:Cx}(h:SatX E X s a w):∀ {rs:List ResultVar} {l:List V},Zie P s rs=some l ->
  ∃ cs:List Value,(rs.mapM λr=>(match r with|.tmp t=>pure (a.tmps.getD t undef)|.cell p t=>do loadVar t (<- asAddr (a.tmps.getD p undef)):Sem Value)).run P w=.ok cs w /\
   cs.length=l.length/\∀ i (h1:i<cs.length) (h2:i<l.length),Rel X cs[i] l[i]
 |[],l,hl=>by simp[Zie]at hl;subst hl;exact⟨[],rfl,rfl,zS⟩
 |r::rs,l,hl=>by
  simp only[Zie]at hl
  cases h1:Zpn P s r with
  |none=>rw[h1]at hl;simp at hl
  |some v=>
   cases h2:Zie P s rs with
   |none=>rw[h1,h2]at hl;simp at hl
   |some m=>
    rw[h1,h2]at hl;simp at hl;subst hl;obtain⟨c,hc,hr⟩:=Zl8 h h1;obtain⟨cs,hcs,hlen,hrel⟩:=Ztq h h2;refine⟨c::cs,?_,by simp[hlen],?_⟩;rw[List.mapM_cons,Sem.run_bind,hc,Result.andThen_ok,Sem.run_bind,hcs];rfl
    .intro i hi1 hi2
     cases i with
     |zero=>exact hr
     |succ i=>exact hrel i (zu hi1) (zu hi2)
theorem Zt5{X:Cx}(h:SatX E X s a w){fn:Func}{v:V}(hr:resA P s fn.results.toList=some v):∃ c,(results fn a.tmps).run P w=.ok c w/\Rel X c v:=by
 unfold resA at hr
 cases hl:Zie P s fn.results.toList with
 |none=>rw[hl]at hr;simp at hr
 |some l=>
  obtain⟨cs,hcs,hlen,hrel⟩:=Ztq h hl;rw[hl]at hr
  have hm:(fn.results.mapM λr=>(match r with|.tmp t=>pure (a.tmps.getD t undef)|.cell p t=>do loadVar t (<- asAddr (a.tmps.getD p undef)):Sem Value)).run P w=.ok cs.toArray w:=by
   rw[Array.mapM_eq_mapM_toList,Sem.run_map,hcs];rfl
  have hres:(results fn a.tmps).run P w=.ok (if h:cs.toArray.size=1 then cs.toArray[0]else .tuple cs.toArray) w:=by
   unfold results;rw[Sem.run_bind]
   erw [hm]
   rfl
  by_cases h1:∃ u,l=[u]
  obtain⟨u,rfl⟩:=h1;simp at hr;subst hr;have hs:cs.toArray.size=1:=zu hlen;rw[dif_pos hs]at hres;exact⟨_,hres,by simpa using hrel 0 (by simp at hs;omega) zS⟩
  have hr':v=.tuple l:=by
   cases l with
   |nil=>simp at hr;exact hr.symm
   |cons u r=>
    cases r with
    |nil=>exact absurd ⟨u,rfl⟩ h1
    |cons u' r=>simp at hr;exact hr.symm
  subst hr'
  have hs:¬ cs.toArray.size=1:=by
   intro hh
   have:l.length=1:=by simp at hh;omega
   rw[List.length_eq_one_iff]at this;exact h1 this
  rw[dif_neg hs]at hres;refine⟨_,hres,.tuple _ _ (zu hlen) ?_⟩;intro i hi1 hi2;simpa using hrel i (zu hi1) hi2
def Zeg(P:Program)(rs:List ResultVar)(K:V->Heap->Prop):Exit->AS->Prop
 |.normal,s|.ret,s=>∃ v,resA P s rs=some v/\K v s.H
 |_,_=>False
def Zve:Nat->List V->Nat->V
 |_,[]=>λ_=>.top
 |k,v::r=>upd (Zve (k+1) r) k v
theorem Z9o:∀ (l:List V) (k t:Nat),Zve k l t=.top\/(k<=t/\t-k<l.length/\Zve k l t=l.getD (t-k) .top)
 |[],k,t=>.inl rfl
 |v::r,k,t=>by
  simp only[Zve,upd]
  by_cases h:t=k
  subst h;exact .inr ⟨Nat.le_refl _,zS,zS⟩;rw[if_neg h]
  rcases Z9o r (k+1) t with h1|⟨h1,h2,h3⟩
  exact .inl h1;refine .inr ⟨zo,zO,?_⟩;rw[h3];have:t-k=(t-(k+1))+1:=zo;rw[this];simp
def Z6d:Obj->Bool
 |.cells .. => false
 |.map .. => false
 |_=>true
theorem Zaia{w:World}{b i k:Nat}{o o':Obj}(hb:w.heap[b]?=some o)(ho:Z6d o=true){x:Value}(h:w.cell? ⟨k,i,none⟩=some x):(w.putObj b o').cell? ⟨k,i,none⟩=some x:=by
 by_cases e:k=b
 subst e;unfold World.cell? at h;simp only[hb]at h
 cases o<;>simp[Z6d]at ho h
 rw[<- h];exact World.cell?_of_block (World.putObj_heap_other e)
theorem Z55{w:World}{b k:Nat}{o o1:Obj}(hb:w.heap[b]?=some o)(ho:Z6d o=true)(h1:Z6d o1=false)(h2:w.heap[k]?=some o1):k≠b:=λe=>by
 subst e;rw[hb]at h2;cases h2;rw[ho]at h1;cases h1
theorem Z7d{X:Cx}{b:Nat}{o:Obj}(o':Obj)(hb:X.w.heap[b]?=some o)(ho:Z6d o=true):X.le { X with w:=X.w.putObj b o' }:=
 ⟨λ_ _ _ h=>h,λ_ _ h=>h,λ_ _ _ _ hc=>Zaia hb ho hc,rfl,λ_ c _ hc=>⟨c,(World.putObj_heap_other (Z55 hb ho rfl hc)).trans hc,rfl⟩,
  λ_ _ _ _ hc=>(World.putObj_heap_other (Z55 hb ho rfl hc)).trans hc⟩
theorem RelG.turn{X:Cx}{b g:Nat}{v:V}{o:Obj}(o':Obj)(hb:X.w.heap[b]?=some o)(ho:Z6d o=true)(h:RelG X g v):RelG { X with w:=X.w.putObj b o' } g v:=by
 refine⟨h.rel.mono (Z7d o' hb ho),?_⟩;have:=h.sz;unfold SzK at this⊢
 split
 obtain⟨h0,l,t,fr,h1,h2⟩:=this;exact⟨h0,l,t,fr,(World.putObj_heap_other (Z55 hb ho rfl h1)).trans h1,h2⟩
 trivial
theorem Marks.turn{N D:Nat}{w:World}(o':Obj):∀ {l:List Deferred},(∀ e∈l,e.target ≠ .collected D)->Marks N w l->Marks N (w.putObj D o') l
 |[],_,_=>trivial
 |_::_,he,⟨⟨D',p1,p2,p3,p4⟩,p5⟩=>
  ⟨⟨D',p1,p2,(World.putObj_heap_other λq=>he _ (List.mem_cons_self ..) (by rw[p1,q])).trans p3,p4⟩,Marks.turn o' (λx hx=>he x (List.mem_cons_of_mem _ hx)) p5⟩
theorem Goes.turn{X0 X:Cx}{H0 H:Heap}(h:Goes X0 H0 X H){b:Nat}{o o':Obj}(hb:X.w.heap[b]?=some o)(ho:Z6d o=true)(ho':Z6d o'=true)(hlo:X0.w.heap.size<=b\/LiveB X0 H0 b){H':Heap}
  (hH:∀ n,H' n=H n\/∃ r r',H n=.lp b r/\H' n=.lp b r'/\o'=.loop r') (hd:∀ n r,H n=.lp b r->H' n≠H n\/o'=.loop r):Goes X0 H0 { X with w:=X.w.putObj b o' } H':=by
 have hI:=h.inv;have hne:∀ {k:Nat} {o1:Obj},Z6d o1=false->X.w.heap[k]?=some o1->k≠b:=Z55 hb ho;have hle:X.le { X with w:=X.w.putObj b o' }:=Z7d o' hb ho
 have hc:∀ n c g fz cs,H' n=.cells c g fz cs->H n=.cells c g fz cs:=λn c g fz cs hn=>by
  rcases hH n with e|⟨r,r',_,e,_⟩
  rw[<- e];exact hn;rw[e]at hn;cases hn
 refine⟨⟨?_,?_,?_,hI.fin,(by show X.base<=_;rw[World.putObj_size];exact hI.bw),hI.thaw_le hle λ_ _ hs=>hs,?_,?_⟩,h.le.trans hle,⟨h.kp.os,h.kp.tape,h.kp.output,(by rw[World.putObj_size];exact h.kp.size),λk hk hn=>?_⟩,h.Sn,?_⟩;intro n c g fz cs hn;obtain⟨b1,bs,h1,h2,c',t,h3,h4,h5⟩:=hI.obj _ _ _ _ _ (hc _ _ _ _ _ hn);exact⟨b1,bs,h1,h2,c',t,(World.putObj_heap_other (hne rfl h3)).trans h3,h4,h5.mono hle⟩;exact λo1 c1 g1 f1 l1 o2 c2 g2 f2 l2 b s1 s2 h1 h2=>hI.inj o1 c1 g1 f1 l1 o2 c2 g2 f2 l2 b s1 s2 (hc _ _ _ _ _ h1) (hc _ _ _ _ _ h2);exact λb i hs=>⟨by show b<_;rw[World.putObj_size];exact(hI.safe b i hs).1,λo c g fz cs bs ho=>(hI.safe b i hs).2 o c g fz cs bs (hc _ _ _ _ _ ho)⟩;intro n lo b1 ks vs hn
 have hm:∀ n lo b1 ks vs,H' n=.mp lo b1 ks vs->H n=.mp lo b1 ks vs:=λn lo b1 ks vs hn=>by
  rcases hH n with e|⟨r,r',_,e,_⟩
  rw[<- e];exact hn;rw[e]at hn;cases hn
 obtain⟨h1,h2,h3,es,k,h4,h5,h6,h7,h8⟩:=hI.mps _ _ _ _ _ (hm _ _ _ _ _ hn);exact⟨h1,h2,λo2 lo2 ks2 vs2 q=>h3 _ _ _ _ (hm _ _ _ _ _ q),es,k,(World.putObj_heap_other (hne rfl h4)).trans h4,h5,h6,λi p q=>(h7 i p q).mono hle,λi p q=>(h8 i p q).mono hle⟩
 have hl:∀ n b1 r,H' n=.lp b1 r->∃ r0,H n=.lp b1 r0/\(b1≠b->r=r0)/\(b1=b->o'=.loop r):=λn b1 r hn=>by
  rcases hH n with e|⟨r0,r',e0,e,e2⟩
  refine⟨r,by rw[<- e];exact hn,λ_=>rfl,λq=>?_⟩;subst q
  rcases hd n r (by rw[<- e];exact hn)with q|q
  exact absurd e q;exact q;rw[e]at hn;cases hn;exact⟨r0,e0,λq=>absurd rfl q,λ_=>e2⟩
 intro n b1 r hn;obtain⟨r0,e0,e1,e2⟩:=hl _ _ _ hn;obtain⟨q1,q2⟩:=hI.lps _ _ _ e0;refine⟨?_,λn2 r2 hn2=>by obtain⟨r3,e3,_⟩:=hl _ _ _ hn2;exact q2 _ _ e3⟩
 by_cases q:b1=b
 subst q
 show(X.w.putObj b1 o').heap[b1]?=_
 rw[World.putObj_heap_same (Array.getElem?_eq_some_iff.1 q1).1,e2 rfl];rw[e1 q];exact(World.putObj_heap_other q).trans q1;refine(World.putObj_heap_other λe=>?_).trans (h.kp.block k hk hn);subst e
 rcases hlo with q|q
 omega;exact hn q;refine Zmd (λn b1 r hn=>?_) λb1 ⟨n,c,g,fz,cs,bs,hn,hβ⟩=>h.on b1 (.inl ⟨n,c,g,fz,cs,bs,hc _ _ _ _ _ hn,hβ⟩)
 rcases hH n with e|⟨r0,r',e0,e,_⟩
 exact h.on b1 (.inr ⟨n,r,by rw[<- e];exact hn⟩);rw[e]at hn;cases hn;exact h.on b (.inr ⟨n,r0,e0⟩)
theorem Zxl{E:Ent}{fn:Func}{R:Ending->World->Prop}{s:AS}(hk:E.rk=.marks)(hR:∀ X a w,a.defers=[]->SatX E X s a w->∃ v,(results fn a.tmps).run P w=.ok v w/\R (.returned v) w):
  ∀ (ds:List Deferred) (X:Cx) (a:Act) (w:World),a.defers=ds->SatX E X s a w->LeavesInM Fence.wide 0 P fn a.tmps R ds .returning w
 |[],X,a,w,hd,hX=>hR X a w hd hX
 |d::ds,X,a,w,hd,hX=>by
  have hw:=hX.hw;subst hw;have hdf:=hX.df;rw[hk,hd]at hdf;obtain⟨hv,⟨D,h1,h2,h3,h4⟩,h5⟩:=hdf;refine⟨zS,.inl ⟨D,X.w.putObj D (.deferred none),h1,run_takeDeferred h3,?_⟩⟩;refine Zxl hk hR ds { X with w:=X.w.putObj D (.deferred none) } { a with defers:=ds } _ rfl ⟨rfl,((hX.gz (by rw[hk];rfl)).turn h3 rfl rfl (.inl h2) (λ_=>.inl rfl) (λn r hn=>?_)).gn E.N_le,?_,hX.sz,λt=>?_,λg=>?_⟩;have:=(hX.go.inv.lps _ _ _ hn).1;rw[h3]at this;cases this;rw[hk];exact⟨hv,h5.turn _ h4⟩;exact(hX.tm t).mono (Z7d _ h3 rfl);exact(hX.gl g).turn _ h3 rfl
theorem Ziu{k:RK}{X:Cx}{H:Heap}{G:Nat->V}{kp:Option (V->Heap->Prop)}{cargs:Array Value}{args:List V}(n q:Nat)(hn:args.length<=n)(hI:Inv X H)(hG:∀ g,RelG X g (G g))(hA:RelA X cargs args):
  SatX ⟨X,H,n,q,G,kp,[],k⟩ X ⟨Zve 0 args,H⟩ { tmps:=cargs++Array.replicate (n-cargs.size) undef,defers:=[] } X.w:=by
 have hlen:=hA.len;refine⟨rfl,(Goes.refl hI).gn (Ent.N_le _),.none _ _ _,zO,λt=>?_,hG⟩
 rcases Z9o args 0 t with h1|⟨_,h2,h3⟩
 show Rel X _ (Zve 0 args t)
 rw[h1];exact .top _
 show Rel X _ (Zve 0 args t)
 rw[h3];simp only[Nat.sub_zero]at h2⊢
 have h1:(cargs++Array.replicate (n-cargs.size) undef).getD t undef=cargs[t]'zo:=by
  simp[Array.getD,Array.getElem_append,hlen,h2];intro hh;omega
 rw[h1];have:=hA.rel t zo h2;simpa[List.getD,List.getElem?_eq_getElem h2]using this
theorem Znj{k:RK}(hk:k=.plain\/k=.marks){G:Nat->V}{kp:Option (V->Heap->Prop)}(hkp:k=.marks->kp=none){f:FuncId}{fn:Func}{c:Code}{args:List V}{H:Heap}{K:V->Heap->Prop}(q:Nat)(hf:P.funcs[f]?=some fn)(hb:fn.body=some c)(hn0:Nat.ble args.length fn.ntmps=true)
  {X:Cx} {cargs:Array Value} (hI:Inv X H) (hG:∀ g,RelG X g (G g)) (hA:RelA X cargs args) (h:AW P ⟨X,H,fn.ntmps,q,G,kp,[],k⟩ c (Zeg P fn.results.toList K) ⟨Zve 0 args,H⟩):
  Calls P f cargs X.w (λe w'=>∃ c v H' Y,outP kp K e c v H'/\Y.w=w'/\Goes X H Y H'/\Rel Y c v):=by
 have hF:k.F=Fence.wide:=Zpp (by rcases hk with rfl|rfl<;>rfl);refine(callsIn_wide (n:=0)).1 (callsIn_of_wp_marks hf hb trivial ?_);have h0:=h _ _ ⟨X,Ziu fn.ntmps q (Nat.le_of_ble_eq_true hn0) hI hG hA⟩;rw[hF]at h0;refine wpIn_mono h0 ?_
 have hkI:k.isInl=false:=by rcases hk with rfl|rfl<;>rfl
 rintro e a' w' (⟨s',⟨Y,hY⟩,hQ⟩|⟨ch,rfl,k',c,v,Y,H',hk',rfl,hdf,rfl,hgo,hr,hv⟩)
 .have fin:(∃ v,resA P s' fn.results.toList=some v/\K v s'.H)->LeavesInM Fence.wide 0 P fn a'.tmps (λe w'=>∃ c v H' Y,outP kp K e c v H'/\Y.w=w'/\Goes X H Y H'/\Rel Y c v) a'.defers .returning w':=by
   intro⟨v,hv,hk'⟩
   have one:∀ X' a w,a.defers=[]->SatX ⟨X,H,fn.ntmps,q,G,kp,[],k⟩ X' s' a w->∃ v,(results fn a.tmps).run P w=.ok v w/\(∃ c v' H' Y,outP kp K (.returned v) c v' H'/\Y.w=w/\Goes X H Y H'/\Rel Y c v'):=λX' a w _ hX'=>by
    obtain⟨c,hc,hr⟩:=Zt5 hX' hv;exact⟨c,hc,c,v,s'.H,X',.inl ⟨rfl,hk'⟩,hX'.hw,hX'.gz hkI,hr⟩
   rcases hk with rfl|rfl
   have hd:a'.defers=[]:=DefR.nil hY.df;rw[hd];exact one Y a' w' hd hY;exact Zxl rfl one a'.defers Y a' w' rfl hY
  cases e with
  |normal=>exact fin hQ
  |ret=>exact fin hQ
  |exit id=>exact hQ.elim
  |goto l=>exact hQ.elim
  |panic ch=>exact hQ.elim
  |outgrown=>exact hQ.elim
 have hd:a'.defers=[]:=by
  rcases hk with rfl|rfl
  exact DefR.nil hdf;rw[hkp rfl]at hk';cases hk'
 show LeavesInM Fence.wide 0 P fn a'.tmps _ a'.defers _ _
 rw[hd];exact⟨c,v,H',Y,.inr ⟨k',hk',rfl,hv⟩,rfl,hgo.goes (Zl7 hkI),hr⟩
theorem Zok{G:Nat->V}{kp:Option (V->Heap->Prop)}{f:FuncId}{fn:Func}{c:Code}{args:List V}{H:Heap}{K:V->Heap->Prop}(q:Nat)(hf:P.funcs[f]?=some fn)(hb:fn.body=some c)(hn0:Nat.ble args.length fn.ntmps=true)
  (h:∀ X,AW P ⟨X,H,fn.ntmps,q,G,kp,[],.plain⟩ c (Zeg P fn.results.toList K) ⟨Zve 0 args,H⟩):SpecP P G kp f args H K:=
 λX _ _ hI hG hA=>Znj (.inl rfl) (λh=>nomatch h) q hf hb hn0 hI hG hA (h X)
theorem Z3y{G:Nat->V}{f:FuncId}{fn:Func}{c:Code}{args:List V}{H:Heap}{K:V->Heap->Prop}(q:Nat)(hf:P.funcs[f]?=some fn)(hb:fn.body=some c)(hn0:Nat.ble args.length fn.ntmps=true)
  (h:∀ X,AW P ⟨X,H,fn.ntmps,q,G,none,[],.plain⟩ c (Zeg P fn.results.toList K) ⟨Zve 0 args,H⟩):Spec P G f args H K:=(Zok q hf hb hn0 h).no
end
end Go.Hs
