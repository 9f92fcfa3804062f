/- A part. No condition. -/
import Derived.Test.YtjplgaebbfabnaaGreatDoorP8
import Derived.RangeFuncRecord
set_option linter.all false
namespace Go.Hs
section
variable{P:Program}{E:Ent}{s:AS}{a:Act}{w:World}
def RK.ro:RK->Option Nat
 |.round l=>some l
 |_=>none
def RK.F(k:RK):Fence:={ Fence.wide with round:=k.ro }
theorem Zjb{k:RK}(h:k.ro=none):k.F=Fence.wide:=by unfold RK.F;rw[h];rfl
theorem RK.calls(k:RK){n:Nat}{f:FuncId}{args:Array Value}{R:Ending->World->Prop}:CallsIn k.F n P f args w R↔Calls P f args w R:=callsIn_wide (n:=n)
theorem RK.rows(k:RK){n:Nat}{row:String}{args:Array Value}{R:Value->World->Prop}(h:Rows P row args w R):RowsIn k.F n P row args w R:=λc a _=>
 let ⟨v,w',r,s⟩:=h c a;⟨v,w',r,(stepsIn_wide (P:=P)).2 s⟩
theorem Oq(k:RK){o:Oper}{next:Act->World->Prop}{Q:Exit->Act->World->Prop}(b:∀ c,o.op ≠ .defer c)(h:o.wp P a w next Q):o.wpIn k.F 0 P a w next Q:=by
 refine⟨λ_ _=>trivial,?_⟩;rw[Oper.semAt_eq _ _ _ b];unfold Oper.wp at h;generalize(execOp a.eval o).run P w=r at h⊢;unfold Oper.upon at h
 split at h
 iterate 3 (· exact h)
 exact⟨λh=>(by cases h),k.calls.2 h⟩;exact⟨λh=>(by cases h),k.rows h⟩;exact h
 grind
def Z7(P:Program)(f:FuncId):Bool:=
 match P.funcs[f]? with
 | some fn => !(fn.name == "runtime.NumGoroutine") && fn.body.isSome
 |none=>false
structure RelA(X:Cx)(cs:Array Value)(l:List V):Prop where
 len:cs.size=l.length
 rel:∀ i (h1:i<cs.size) (h2:i<l.length),Rel X cs[i] l[i]
def CallA(P:Program)(G:Nat->V)(f:FuncId)(args:List V)(H:Heap)(K:V->Heap->Prop):Prop:=
 Z7 P f=true/\∀ (X:Cx) (cargs:Array Value),Inv X H->(∀ g,RelG X g (G g))->RelA X cargs args ->
  Calls P f cargs X.w (λe w'=>∃ c v H' Y,e=.returned c/\Y.w=w'/\Goes X H Y H'/\Rel Y c v/\K v H')
def CallE(P:Program)(G:Nat->V)(f:FuncId)(args:List V)(H:Heap)(M:Ending->Value->V->Heap->Prop):Prop:=
 Z7 P f=true/\∀ (X:Cx) (cargs:Array Value),Inv X H->(∀ g,RelG X g (G g))->RelA X cargs args ->
  Calls P f cargs X.w (λe w'=>∃ c v H' Y,M e c v H'/\Y.w=w'/\Goes X H Y H'/\Rel Y c v)
theorem CallE.mono{G:Nat->V}{f:FuncId}{args:List V}{H:Heap}{M b:Ending->Value->V->Heap->Prop}(h:CallE P G f args H M)(d:∀ e c v H',M e c v H'->b e c v H'):CallE P G f args H b:=
 ⟨h.1,λX a j i g=>(h.2 X a j i g).mono λe w' ⟨c,v,H',Y,n,m,l,k⟩=>⟨c,v,H',Y,d _ _ _ _ n,m,l,k⟩⟩
def Zl6(kp:Option (V->Heap->Prop))(K:V->Heap->Prop)(e:Ending)(c:Value)(v:V)(H':Heap):Prop:=
 (e=.returned c/\K v H')\/∃ k,kp=some k/\e=.panicked [{ v:=c,recovered:=false }]/\k v H'
def CallP(P:Program)(G:Nat->V)(kp:Option (V->Heap->Prop))(f:FuncId)(args:List V)(H:Heap)(K:V->Heap->Prop):Prop:=CallE P G f args H (Zl6 kp K)
theorem CallP.of{G:Nat->V}{kp:Option (V->Heap->Prop)}{f:FuncId}{args:List V}{H:Heap}{K:V->Heap->Prop}(h:CallA P G f args H K):CallP P G kp f args H K:=
 ⟨h.1,λX a g d b=>(h.2 X a g d b).mono λe w' ⟨c,v,n,Y,m,l,k,j,i⟩=>⟨c,v,n,Y,.inl ⟨m,i⟩,l,k,j⟩⟩
theorem CallP.no{G:Nat->V}{f:FuncId}{args:List V}{H:Heap}{K:V->Heap->Prop}(h:CallP P G none f args H K):CallA P G f args H K:=
 ⟨h.1,λX a i g d=>(h.2 X a i g d).mono λe w' ⟨c,v,p,Y,b,o,n,m⟩=>by
  rcases b with ⟨b,l⟩|⟨k,j,_⟩
  grind
  grind⟩
theorem A9{G:Nat->V}{f:FuncId}{args:List V}{H:Heap}{K:V->Heap->Prop}:CallP P G none f args H K=CallA P G f args H K:=propext ⟨CallP.no,CallP.of⟩
theorem CallP.mono{G:Nat->V}{kp:Option (V->Heap->Prop)}{f:FuncId}{args:List V}{H:Heap}{K K':V->Heap->Prop}(h:CallP P G kp f args H K)(c:∀ v H',K v H'->K' v H'):CallP P G kp f args H K':=
 CallE.mono h λ_ _ _ _ h=>h.imp (fun⟨a,b⟩=>⟨a,c _ _ b⟩) id
def Pan(E:Ent)(ch:List PanicEntry)(a:Act)(w:World):Prop:=
 ∃ kp c v Y H',E.kp=some kp/\ch=[{ v:=c,recovered:=false }]/\DefR E.rk E.X0.w.heap.size Y a.defers E.df/\Y.w=w/\GoesN E.N E.X0 E.H0 Y H'/\Rel Y c v/\kp v H'
def Post(E:Ent)(Q:Exit->AS->Prop)(e:Exit)(a:Act)(w:World):Prop:=(∃ s,Mb E s a w/\Q e s)\/∃ ch,e=.panic ch/\Pan E ch a w
theorem Pan.no{E:Ent}{b:List PanicEntry}{a:Act}{w:World}(h:Pan E b a w)(c:E.kp=none):False:=by
 obtain⟨kp,_,_,_,_,h,_⟩:=h
 grind
theorem Post.imp{E d:Ent}{Q f:Exit->AS->Prop}{e:Exit}{a:Act}{w:World}(h:Post E Q e a w)(g:∀ s,Mb E s a w->Q e s->∃ s',Mb d s' a w/\f e s')(i:∀ ch,Pan E ch a w->Pan d ch a w):Post d f e a w:=by
 rcases h with ⟨s,c,b⟩|⟨ch,c,b⟩
 exact .inl (g s c b);exact .inr ⟨ch,c,i ch b⟩
def Sz(P:Program)(lo0:Nat)(H:Heap)(t:TypeId)(m k x:V)(K:V->Heap->Prop):Prop:=
 match m,P.underlying t with
 |.mref o b,some (.map kt _)=>match H o,P.underlying kt with
  |.mp lo b' ks vs,some kd=>b'=b/\lo0<=lo/\match Ak kd k x ks vs with
   |some (ks',vs')=>K (.tuple []) (Ya H o (.mp lo b ks' vs'))
   |none=>False
  |_,_=>False
 |_,_=>False
theorem J4{a:Nat}{H:Heap}{t:TypeId}{m k x:V}{K K':V->Heap->Prop}(b:∀ v H,K v H->K' v H)(h:Sz P a H t m k x K):Sz P a H t m k x K':=by
 unfold Sz at h⊢
 split at h
 grind
 grind
def Sq(P:Program)(H:Heap)(t:TypeId)(m x:V)(ok:Bool):Option V:=match m with
 |.mref o b=>(match H o with
  |.mp _ b' ks vs=>if b'=b then Q7 P t (.mapv ks vs) x ok else none
  |_=>none)
 |m=>Q7 P t m x ok
theorem Zt0{X:Cx}{H:Heap}(F:Inv X H){t:TypeId}{m x:V}{u cx:Value}{ok:Bool}{v:V}(q:Rel X u m)(l:Rel X cx x)(h:Sq P H t m x ok=some v):∃ c,(Instr.lookup t u cx ok).run P X.w=.ok c X.w/\Rel X c v:=by
 have f:=q
 cases q with
 |mref o b=>
  unfold Sq at h;simp only at h
  split at h
  rename_i L J N K C
  split at h
  .rename_i e
   subst e;obtain⟨_,_,_,es,n,E,D,B,i,d⟩:=F.mps _ _ _ _ _ C;unfold Q7 at h
   split at h
   rotate_left;cases h;rename_i M O A z p g;cases g
   split at h
   rotate_left;cases h;rename_i kd k;obtain⟨c,s,a,I⟩:=Zsj l k h es D B i d;refine⟨c,?_,I⟩
   have r:(getObj J).run P X.w=.ok (.map es n) X.w:=by simp[getObj,Sem.run,E]
   rcases a with ⟨j,y,a,rfl⟩|⟨a,Q,G,rfl⟩
   simp only[Instr.lookup,Sem.run_bind,Zk p,Result.andThen_ok,Sem.run_pure,r,s,a];simp only[Instr.lookup,Sem.run_bind,Zk p,Result.andThen_ok,Sem.run_pure,r,s,a,G]
  cases h;cases h
 |_=>exact Zva f l h
def Yy(P:Program)(E:Ent)(s:AS)(o:Oper)(K:V->Heap->Prop):Prop:=
 match o.op with
 |.load t x=>match Wc P s.H t (s.ev E x)with
  |some v=>K v s.H
  |none=>False
 |.store t p x=>match Mm P s.H t (s.ev E p) (s.ev E x)with
  |some H'=>K (.tuple []) H'
  |none=>False
 |.alloc t=>match Uv P t,o.dst with
  |some z,some d=>z.solid=true/\∀ g,K (.ptr (E.q+d) g 0) (Ya s.H (E.q+d) (.cells .new g 0 z.cells))
  |_,_=>False
 |.box _ x=>match o.dst with
  |some d=>(s.ev E x).solid=true/\∀ g,K (.ptr (E.q+d) g 0) (Ya s.H (E.q+d) (.cells .new g 0 (s.ev E x).cells))
  |none=>False
 |.buildSlice t len parts=>match o.dst with
  |some d=>Tb P s.H (E.q+d) t len (parts.toList.map λp=>(p.1,s.ev E p.2)) K
  |none=>False
 |.makeSlice t l c=>match o.dst with
  |some d=>U4 P s.H (E.q+d) t (s.ev E l) (s.ev E c) K
  |none=>False
 |.call { callee:=.value f,args,.. }=>match s.ev E f with
  |.func (.func fid) first cap=>CallP P E.G E.kp fid (first++args.toList.map (s.ev E)++cap) s.H K
  |_=>False
 |.makeMap _ none=>match o.dst with
  |some d=>∀ b,K (.mref (E.q+d) b) (Ya s.H (E.q+d) (.mp E.X0.w.heap.size b [] []))
  |none=>False
 |.mapUpdate t m k x=>Sz P E.N s.H t (s.ev E m) (s.ev E k) (s.ev E x) K
 |.insert t m k x=>Sz P E.N s.H t (s.ev E m) (s.ev E k) (s.ev E x) K
 |.lookup t m x ok=>match Sq P s.H t (s.ev E m) (s.ev E x) ok with
  |some v=>K v s.H
  |none=>False
 |.panic x=>match s.ev E x with
  |.iface t v=>∃ k,E.kp=some k/\k (.iface t v) s.H
  |_=>False
 |.call { callee:=.builtin .append,args,argTypes }=>match args.toList,o.dst with
  |[x,y],some d=>Kb P s.H (E.q+d) argTypes (s.ev E x) (s.ev E y) K
  |_,_=>False
 |_=>match I6 P (s.ev E) o with
  |some v=>K v s.H
  |none=>False
theorem Lm{X:Cx}(h:SatX E X s a w){o:Oper}{K:V->Heap->Prop}(hd:∀ d,o.dst=some d->d<E.n)(hs:Yy P E s o K){Q:Exit->Act->World->Prop}(hQ:∀ ch a w,Pan E ch a w->Q (.panic ch) a w):
  o.wp P a w (λa' w'=>∃ v H',K v H'/\Mb E (AS.put { s with H:=H' } o.dst v) a' w') Q:=by
 have hw:=h.hw;subst hw;have hI:=h.go.inv;have hev:∀ x,Rel X (a.eval x) (s.ev E x):=h.ev
 have val:∀ {c:Value} {v:V},(execOp a.eval o).run P X.w=.ok (.value c) X.w->Rel X c v->K v s.H ->
   o.wp P a X.w (λa' w'=>∃ v H',K v H'/\Mb E (AS.put { s with H:=H' } o.dst v) a' w') Q:=by
  intro c v hrun hr hk;unfold Oper.wp;rw[hrun,Oper.upon_value];exact⟨v,s.H,hk,X,h.step (Goes.refl hI) hr hd⟩
 have eff:∀ {sm:Sem Value} {c:Value} {v:V} {H':Heap} {Y:Cx},execOp a.eval o=(do pure (Next.value (<- sm)))->sm.run P X.w=.ok c Y.w->Goes X s.H Y H'->Rel Y c v->K v H' ->
   o.wp P a X.w (λa' w'=>∃ v H',K v H'/\Mb E (AS.put { s with H:=H' } o.dst v) a' w') Q:=by
  intro sm c v H' Y he hrun hg hr hk;unfold Oper.wp;rw[he];simp only[Sem.run_bind,hrun,Result.andThen_ok,Sem.run_pure,Oper.upon_value];exact⟨v,H',hk,Y,h.step hg hr hd⟩
 have plain:(match I6 P (s.ev E) o with|some v=>K v s.H|none=>False)->o.wp P a X.w (λa' w'=>∃ v H',K v H'/\Mb E (AS.put { s with H:=H' } o.dst v) a' w') Q:=by
  intro hp
  cases hv:I6 P (s.ev E) o with
  |none=>rw[hv]at hp;exact hp.elim
  |some v=>
   rw[hv]at hp;obtain⟨c,hc,hr⟩:=Zyaa rfl hev hv;exact val hc hr hp
 have mset:∀ {t:TypeId} {m k x:Operand} {ho:Oper},ho.dst=o.dst->(execOp a.eval ho=do Instr.mapUpdate t (a.eval m) (a.eval k) (a.eval x);pure .skip)->Sz P E.N s.H t (s.ev E m) (s.ev E k) (s.ev E x) K ->
   ho.wp P a X.w (λa' w'=>∃ v H',K v H'/\Mb E (AS.put { s with H:=H' } ho.dst v) a' w') Q:=by
  intro t m k x ho hdo he hm;unfold Sz at hm
  split at hm
  .rename_i o' b kt et hmv hu
   split at hm
   .rename_i lo b' ks vs kd hH hkd
    obtain⟨rfl,hlo,hm⟩:=hm
    split at hm
    .rename_i ks' vs' hp
     have hmr:=hev m;rw[hmv]at hmr;obtain⟨_,_,_,es,n,hb,hes⟩:=hI.mps _ _ _ _ _ hH;obtain⟨es',n',hrun,hes'⟩:=Zfs hu hkd hb hes (hev k) (hev x) hp;have hst:=h.mapSet (n':=n') hH hlo hes';have hst2:=hst.step (Goes.refl hst.go.inv) (dst:=o.dst) (c:=undef) (v:=.tuple []) (.tuple #[] [] rfl (λi h1 h2=>by simp at h2)) hd;unfold Oper.wp;generalize hq:a.eval m=q at hmr
     cases hmr with
     |mref=>
     rw[he,hq];simp only[Sem.run_bind,hrun,Result.andThen_ok,Sem.run_pure,Oper.upon_skip,hdo];exact⟨_,_,hm,_,hst2⟩
    exact hm.elim
   exact hm.elim
  exact hm.elim
 obtain⟨dst,op,type,pos,after,guard⟩:=o;cases op
 case makeMap t r=>
  cases r with
  |some r=>exact plain hs
  |none=>
   simp only[Yy]at hs
   split at hs
   rename_i d;have hlo:E.X0.w.heap.size<=X.w.heap.size:=h.go.kp.size;exact eff (sm:=Instr.makeMap t none) (Y:={ X with w:=X.w.alloc (.map #[] 0) }) rfl (by simp[Instr.makeMap,newObj,Sem.run]) (Z7p hI _ _ hlo) (.mref _ _) (hs _);exact hs.elim
 case mapUpdate t m k x=>exact mset rfl rfl hs
 case insert t m k x=>exact mset rfl rfl hs
 case lookup t m x ok=>
  simp only[Yy]at hs
  cases hv:Sq P s.H t (s.ev E m) (s.ev E x) ok with
  |none=>rw[hv]at hs;exact hs.elim
  |some v=>
   rw[hv]at hs;obtain⟨c,hc,hr⟩:=Zt0 hI (hev m) (hev x) hv;exact eff rfl hc (Goes.refl hI) hr hs
 case load t x=>
  simp only[Yy]at hs
  cases hv:Wc P s.H t (s.ev E x)with
  |none=>rw[hv]at hs;exact hs.elim
  |some v=>
   rw[hv]at hs;obtain⟨c,hc,hr⟩:=Zqa hI (hev x) hv;exact eff rfl hc (Goes.refl hI) hr hs
 case store t p x=>
  simp only[Yy]at hs
  cases hv:Mm P s.H t (s.ev E p) (s.ev E x)with
  |none=>rw[hv]at hs;exact hs.elim
  |some H'=>
   rw[hv]at hs;obtain⟨Y,hc,hg⟩:=Zrq (P:=P) hI (hev p) (hev x) hv;unfold Oper.wp
   have:(execOp a.eval ⟨dst,.store t p x,type,pos,after,guard⟩).run P X.w=.ok .skip Y.w:=by
    simp only[execOp,Sem.run_bind,hc,Result.andThen_ok,Sem.run_pure]
   rw[this,Oper.upon_skip];exact⟨_,H',hs,Y,h.step hg (.tuple #[] [] rfl (λi h1 h2=>by simp at h2)) hd⟩
 case alloc t=>
  simp only[Yy]at hs
  split at hs
  rename_i z d hz;obtain⟨hsol,hk⟩:=hs;obtain⟨zx,hzx,hzr⟩:=Rc (X:=X) (w:=X.w) hz;obtain⟨c,u,Y,H',h1,h2,h3,h4⟩:=Cm (P:=P) hI (E.q+d) t hzr hsol hk;exact eff (sm:=Instr.alloc t true (.tuple #[])) rfl (by simp[Instr.alloc,hzx,h1]) h2 h3 h4;exact hs.elim
 case box t x=>
  simp only[Yy]at hs
  split at hs
  rename_i d;obtain⟨hsol,hk⟩:=hs;obtain⟨c,u,Y,H',h1,h2,h3,h4⟩:=Cm (P:=P) hI (E.q+d) t (hev x) hsol hk;exact eff (sm:=Instr.box t (a.eval x)) rfl (by simp[Instr.box,h1]) h2 h3 h4;exact hs.elim
 case buildSlice t len parts=>
  simp only[Yy]at hs
  split at hs
  rename_i d
  obtain⟨c,v,H',Y,h1,h2,h3,h4⟩:=F8 (P:=P) hI (E.q+d) (ps:=parts.map fun(i,x)=>(i,a.eval x)) zS (by
   intro i h1 h2;simp at h1 h2⊢
   exact hev _) hs
  exact eff rfl h1 h2 h3 h4;exact hs.elim
 case makeSlice t l c=>
  simp only[Yy]at hs
  split at hs
  rename_i d;obtain⟨c,v,H',Y,h1,h2,h3,h4⟩:=Cq (P:=P) hI (E.q+d) (hev l) (hev c) hs;exact eff rfl h1 h2 h3 h4;exact hs.elim
 case panic x=>
  simp only[Yy]at hs
  split at hs
  .rename_i t v hx
   obtain⟨k,hk,hv⟩:=hs;have hr:=hev x;rw[hx]at hr;generalize hq:a.eval x=q at hr
   cases hr with
   |iface _ y _ hy=>
    unfold Oper.wp
    have:(execOp a.eval ⟨dst,.panic x,type,pos,after,guard⟩).run P X.w=.halt (.panic (.iface t y)) X.w:=by
     simp[execOp,Instr.panic,goPanic,hq,Sem.run,Result.andThen]
    rw[this,Oper.upon_panic];exact hQ _ _ _ ⟨k,_,_,X,s.H,hk,rfl,h.df,rfl,h.go,.iface t y v hy,hv⟩
  exact hs.elim
 case call c=>
  obtain⟨callee,args,ats⟩:=c;cases callee
  case value f=>
   simp only[Yy]at hs
   split at hs
   .rename_i fid first cap hf
    obtain⟨hen,hs⟩:=hs;have hfv:=hev f;rw[hf]at hfv;generalize hq:a.eval f=q at hfv
    cases hfv with
    |func _ xs ys _ _ hx hy hxr hyr=>
    have hrun:(execOp a.eval ⟨dst,.call ⟨.value f,args,ats⟩,type,pos,after,guard⟩).run P X.w=.ok (.enter fid (xs++args.map a.eval++ys)) X.w:=by
     unfold Z7 at hen
     split at hen
     rename_i fn hfn;simp only[Bool.and_eq_true]at hen;obtain⟨hn1,hn2⟩:=hen
     have hn1':(fn.name == "runtime.NumGoroutine")=false:=zu hn1
     have hn2':fn.body.isNone=false:=by cases hb:fn.body<;>simp_all
     simp only[execOp,resolve,hq,Deferred.ofValue,Sem.run_bind,Sem.run_pure,Result.andThen_ok,invoke,callFunc,run_program,hfn,hn1',hn2'];simp;simp at hen
    unfold Oper.wp;rw[hrun,Oper.upon_enter];refine(hs X _ hI h.gl ⟨by simp[hx,hy],?_⟩).mono ?_;intro i h1 h2;simp at h1 h2
    by_cases hi1:i<first.length
    rw[Array.getElem_append_left zO,Array.getElem_append_left zo,List.getElem_append_left zO,List.getElem_append_left hi1];exact hxr _ _ _
    by_cases hi2:i<first.length+args.size
    rw[Array.getElem_append_left zO,Array.getElem_append_right zo,List.getElem_append_left zO,List.getElem_append_right zo];simp only[Array.getElem_map,List.getElem_map,Array.getElem_toList,hx];exact hev _;rw[Array.getElem_append_right zO,List.getElem_append_right zO];simp only[Array.size_append,Array.size_map,List.length_append,List.length_map,Array.length_toList,hx];exact hyr _ _ _;rintro e w' ⟨c,v,H',Y,⟨rfl,h3⟩|⟨k,hk,rfl,h3⟩,rfl,h1,h2⟩;exact⟨v,H',h3,Y,h.step h1 h2 hd⟩;exact hQ _ _ _ ⟨k,c,v,Y,H',hk,rfl,h.df.go h.go.inv h1,rfl,h.on_ h1,h2,h3⟩
   exact hs.elim
  case invoke r m=>exact plain hs
  case builtin b=>
   cases b
   case append=>
    simp only[Yy]at hs
    split at hs
    rename_i x y d hargs
    have:args = #[x,y]:=by cases args;simp at hargs;rw[hargs]
    subst this;obtain⟨c,v,H',Y,h1,h2,h3,h4⟩:=Z6k (P:=P) hI (E.q+d) (ty:=type) (hev x) (hev y) hs;refine eff (sm:=Builtin.append_ ats type #[a.eval x,a.eval y]) ?_ h1 h2 h3 h4;simp[execOp,resolve,invoke,builtin];exact hs.elim
   all_goals exact plain hs
 all_goals exact plain hs
def Z8(ops:Array Oper)(τ : Nat->V)(o:Oper):Option Bool:=
 match o.guard with
 |none=>some true
 |some (j,want)=>match(ops[j]?).bind (·.dst)with
  |some d=>match τ d with
   |.bool b=>some (b==want)
   |.tuple []=>some false
   |_=>none
  |none=>some false
theorem V7{X:Cx}(h:SatX E X s a w){ops:Array Oper}{o:Oper}{b:Bool}(c:Z8 ops s.τ o=some b)(v:∀ (o':Oper) d,o'∈ops->o'.dst=some d->d<E.n):
  Region.wanted o (yielded ops a.tmps)=b:=by
 unfold Z8 at c;unfold Region.wanted
 cases u:o.guard with
 |none=>grind
 |some p=>
  obtain⟨j,g⟩:=p;rw[u]at c;simp only at c⊢;unfold yielded
  cases k:(ops[j]?).bind (·.dst)with
  |none=>grind
  |some d=>
   rw[k]at c;simp only at c
   have t:d<a.tmps.size:=by
    rw[h.sz]
    cases m:ops[j]? with
    |none=>rw[m]at k;simp at k
    |some o'=>
     rw[m]at k
     have i:o'∈ops:=by rw[Array.getElem?_eq_some_iff]at m;obtain⟨r,rfl⟩:=m;exact Array.getElem_mem r
     exact v o' d i k
   have e:=h.tm d
   have l:a.tmps[d]?=some (a.tmps.getD d undef):=by
    simp[t]
   simp only[Option.bind_some,l]
   split at c
   rename_i x f;rw[f]at e;rw[e.bool_inv];simp at c;subst c
   cases x<;>cases g<;>rfl
   rename_i f;rw[f]at e;generalize a.tmps.getD d undef=q at e;cases e;simp at c;subst c;simp;simp at c
def Yt(P:Program)(E:Ent)(ops:Array Oper)(Q:AS->Prop):List Oper->AS->Prop
 |[],s=>Q s
 |o::rest,s=>match Z8 ops s.τ o with
  |some true=>Yy P E s o λv a=>Yt P E ops Q rest (AS.put { s with H:=a } o.dst v)
  |some false=>Yt P E ops Q rest (s.put o.dst (.tuple []))
  |none=>False
theorem Jm{o:Oper}{K:V->Heap->Prop}(h:Yy P E s o K):∀ c,o.op ≠ .defer c:=by
 intro c e;unfold Yy at h;unfold I6 at h;simp_all
def Wo(n:Nat)(o:Oper):Bool:=match o.dst with|some d=>decide (d<n)|none=>true
theorem Jz{ops:Array Oper}{Q:AS->Prop}{R:Exit->Act->World->Prop}(B:∀ ch a w,Pan E ch a w->R (.panic ch) a w)(A:∀ s a w,Mb E s a w->Q s->R .normal a w)(t:(ops.all (Wo E.n))=true):∀ (l:List Oper) (k:Nat) (s:AS) (a:Act) (w:World),Mb E s a w->(∀ j,l[j]?=ops[k+j]?)->Yt P E ops Q l s ->
  wpOpsIn E.rk.F 0 P ops R ((List.range l.length).map (k + ·)) a w
 |[],k,s,a,w,hs,_,h=>by
  exact A s a w hs h
 |o::rest,k,s,a,w,⟨X,hX⟩,hl,h=>by
  have z:ops[k]?=some o:=by have:=hl 0;simpa using this.symm
  have p:∀ j,rest[j]?=ops[k+1+j]? := λj=>by have:=hl (j+1);rw[show k+1+j=k+(j+1) by omega];simpa using this
  have f:∀ (r:Oper) d,r∈ops->r.dst=some d->d<E.n:=by
   intro r d C e;rw[Array.all_eq_true']at t;have:=t r C;unfold Wo at this;rw[e]at this;simpa using this
  have q:o∈ops:=by rw[Array.getElem?_eq_some_iff]at z;obtain⟨x,rfl⟩:=z;exact Array.getElem_mem x
  have g:(List.range (o::rest).length).map (k + ·)=k::(List.range rest.length).map (k+1 + ·):=by
   simp only[List.length_cons,List.range_succ_eq_map,List.map_cons,Nat.add_zero,List.map_map]
   congr 1
   apply List.map_congr_left;simp;omega
  rw[g];simp only[wpOpsIn,z];simp only[Yt]at h
  cases m:Z8 ops s.τ o with
  |none=>rw[m]at h;exact h.elim
  |some b=>
   have D:=V7 hX m f;rw[m]at h;rw[D]
   cases b with
   |true=>
    refine Oq _ (Jm h) (Oper.wp_mono ?_ (Lm hX (λd e=>f o d q e) h B));rintro I w' ⟨v,J,y,u⟩;exact Jz B A t rest (k+1) _ _ _ u p y
   |false=>
    refine⟨λ_ _=>trivial,?_⟩;refine Jz B A t rest (k+1) _ _ _ ⟨X,?_⟩ p h;have:=hX.step (Goes.refl hX.go.inv) (dst:=o.dst) (c:=undef) (v:=.tuple []) (.tuple #[] [] rfl (λi H G=>by simp at G)) (λd e=>f o d q e);rw[hX.hw]at this;exact this
def AW(P:Program)(E:Ent)(c:Code)(Q:Exit->AS->Prop)(s:AS):Prop:=
 ∀ a w,Mb E s a w->c.wpIn E.rk.F 0 P (Post E Q) a w
theorem AW.mono{c:Code}{Q b:Exit->AS->Prop}{s:AS}(h:AW P E c Q s)(g:∀ e s,Q e s->b e s):AW P E c b s:=
 λa w f=>wpIn_mono (h a w f) λe k w' h=>h.imp (λd j i=>⟨d,j,g _ _ i⟩) λ_ h=>h
def Weak(E:Ent)(s s':AS):Prop:=∀ a w,Mb E s a w->Mb E s' a w
theorem AW.weak{c:Code}{Q:Exit->AS->Prop}{s s':AS}(b:Weak E s s')(h:AW P E c Q s'):AW P E c Q s:=λa w d=>h a w (b a w d)
theorem AW.skip{Q:Exit->AS->Prop}{s:AS}(h:Q .normal s):AW P E .skip Q s:=λ_ _ a=>wpIn_skip (.inl ⟨s,a,h⟩)
theorem AW.exit{id:Nat}{Q:Exit->AS->Prop}{s:AS}(h:Q (.exit id) s):AW P E (.exit id) Q s:=λ_ _ a=>wpIn_exit (.inl ⟨s,a,h⟩)
theorem AW.ret{Q:Exit->AS->Prop}{s:AS}(h:Q .ret s):AW P E .ret Q s:=λ_ _ a=>wpIn_ret (.inl ⟨s,a,h⟩)
def N7(next:AS->Prop)(Q:Exit->AS->Prop):Exit->AS->Prop
 |.normal,s=>next s
 |e,s=>Q e s
theorem AW.seq{x y:Code}{Q:Exit->AS->Prop}{s:AS}(h:AW P E x (N7 (AW P E y Q) Q) s):AW P E (.seq x y) Q s:=by
 intro a w f;refine wpIn_seq (wpIn_mono (h a w f) ?_);rintro e j w' (⟨d,c,b⟩|⟨i,rfl,g⟩)
 cases e<;>first|exact b j w' c|exact .inl ⟨d,c,b⟩
 exact .inr ⟨i,rfl,g⟩
theorem Yz{x y:Code}{Q:Exit->AS->Prop}{s:AS}(h:∀ K:AS->Prop,(∀ s,AW P E y Q s->K s)->AW P E x (N7 K Q) s):AW P E (.seq x y) Q s:=
 AW.seq (h _ λ_ h=>h)
theorem AW.cond{c:Operand}{x y:Code}{Q:Exit->AS->Prop}{s:AS}{b:Bool}(f:s.ev E c=.bool b)(h:if b then AW P E x Q s else AW P E y Q s):AW P E (.cond c x y) Q s:=by
 intro a w e;obtain⟨X,d⟩:=e;have:=d.ev c;rw[f]at this;refine wpIn_cond this.bool_inv ?_
 cases b with
 |true=>exact h a w ⟨X,d⟩
 |false=>exact h a w ⟨X,d⟩
def Bp(id:Nat)(Q:Exit->AS->Prop):Exit->AS->Prop
 |.exit id',s=>if id'=id then Q .normal s else Q (.exit id') s
 |e,s=>Q e s
theorem AW.block{id:Nat}{c:Code}{Q:Exit->AS->Prop}{s:AS}(h:AW P E c (Bp id Q) s):AW P E (.block id c) Q s:=by
 intro a w g;refine wpIn_block (wpIn_mono (h a w g) ?_);rintro e k w' (⟨d,f,b⟩|⟨j,rfl,i⟩)
 .cases e with
  |exit id'=>
   simp only[Bp]at b;simp only[Exit.inBlock]
   split
   rename_i e;rw[if_pos e]at b;exact .inl ⟨d,f,b⟩;rename_i e;rw[if_neg e]at b;exact .inl ⟨d,f,b⟩
  |_=>exact .inl ⟨d,f,b⟩
 exact .inr ⟨j,rfl,i⟩
theorem AW.loop{c:Code}{Q:Exit->AS->Prop}(I:Nat->AS->Prop){n:Nat}{s:AS}(J:I n s)
  (round:∀ n s,I n s->AW P E c (N7 (λs'=>∃ m,m<n/\I m s') Q) s):AW P E (.loop c) Q s:=by
 intro a w r b k A t y u
 have q:∀ n s a w,Mb E s a w->I n s ->
   ∃ e p w',Post E Q e p w'/\ArrivesIn (Machine.fenced P E.rk.F) P (lone (b.atR a (.code c::.inLoop c::k)) A w) b k A e p w':=by
  intro n
  induction n using Nat.strongRecOn with
  |_ n ih=>
   intro s a w r H;obtain⟨e,j,g,h,d⟩:=round n s H a w r b (.inLoop c::k) A t y u
   rcases h with ⟨s',o,f⟩|⟨B,rfl,D⟩
   .cases e with
    |normal=>
     obtain⟨m,G,z⟩:=f;obtain⟨K,L,C,v,i⟩:=ih m G s' j g o z;exact⟨K,L,C,v,.of_steps (StepsIn.trans d (.one (fenced_calm y u rfl) stepR_inLoop)) i⟩
    |exit id=>exact⟨_,j,g,.inl ⟨s',o,f⟩,.pass (x:=.inLoop c) rfl (λ_ _=>.inl zS) d⟩
    |goto l=>exact⟨_,j,g,.inl ⟨s',o,f⟩,.pass (x:=.inLoop c) rfl (λ_ _=>.inl zS) d⟩
    |ret=>exact⟨_,j,g,.inl ⟨s',o,f⟩,.pass (x:=.inLoop c) rfl (λ_ _=>.inl zS) d⟩
    |panic B=>exact⟨_,j,g,.inl ⟨s',o,f⟩,.pass (x:=.inLoop c) rfl (λ_ _=>.inl zS) d⟩
    |outgrown=>exact⟨_,j,g,.inl ⟨s',o,f⟩,.pass (x:=.inLoop c) rfl (λ_ _=>.inl zS) d⟩
   exact⟨_,j,g,.inr ⟨B,rfl,D⟩,.pass (x:=.inLoop c) rfl (λ_ _=>.inl zS) d⟩
 obtain⟨e,p,w',f,d⟩:=q n s a w r J;exact⟨e,p,w',f,.of_steps (.one (fenced_calm y u rfl) stepR_loop) d⟩
theorem AW.region{id:Nat}{ops:Array Oper}{Q:Exit->AS->Prop}{s:AS}(c:(ops.all (Wo E.n))=true)(h:Yt P E ops (Q .normal) ops.toList s):AW P E (.region id ops false) Q s:=by
 intro a w b;refine wpIn_region ?_;have:=Jz (P:=P) (R:=Post E Q) (λf a w h=>.inr ⟨f,rfl,h⟩) (λs a w e d=>.inl ⟨s,e,d⟩) c ops.toList 0 s a w b (λj=>zS) h;simp_all
end
end Go.Hs
