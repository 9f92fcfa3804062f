/- A part. No condition. -/
import Derived.Test.YtoahejkahaimnaaGreatDoorP8
import Derived.RangeFuncRecord
set_option linter.all false
namespace Go.Hs
section
variable{P:Program}{E:Ent}{s:AS}{a:Act}{w:World}
def RK.ro:RK->Option Nat
 |.round l=>some l
 |_=>none
def RK.F(k:RK):Fence:={ Fence.wide with round:=k.ro }
theorem Zpp{k:RK}(h:k.ro=none):k.F=Fence.wide:=by unfold RK.F;rw[h];rfl
theorem RK.wp{k:RK}(h:k.ro=none){n:Nat}{c:Code}{Q:Exit->Act->World->Prop}:c.wpIn k.F n P Q a w↔c.wp P Q a w:=by rw[Zpp h];exact wpIn_wide
theorem RK.calls(k:RK){n:Nat}{f:FuncId}{args:Array Value}{R:Ending->World->Prop}:CallsIn k.F n P f args w R↔Calls P f args w R:=callsIn_wide (n:=n)
theorem RK.rows(k:RK){n:Nat}{row:String}{args:Array Value}{R:Value->World->Prop}(h:Rows P row args w R):RowsIn k.F n P row args w R:=λc cs _=>
 let ⟨v,w',r,s⟩:=h c cs;⟨v,w',r,(stepsIn_wide (P:=P)).2 s⟩
theorem Zog(k:RK){o:Oper}{next:Act->World->Prop}{Q:Exit->Act->World->Prop}(hnd:∀ c,o.op ≠ .defer c)(h:o.wp P a w next Q):o.wpIn k.F 0 P a w next Q:=by
 refine⟨λ_ _=>trivial,?_⟩;rw[Oper.semAt_eq _ _ _ hnd];unfold Oper.wp at h;generalize(execOp a.eval o).run P w=r at h⊢;unfold Oper.upon at h
 split at h
 exact h;exact h;exact h;exact⟨λh=>(by cases h),k.calls.2 h⟩;exact⟨λh=>(by cases h),k.rows h⟩;exact h;exact h.elim
def Z2(P:Program)(f:FuncId):Bool:=
 match P.funcs[f]? with
 | some fn => !(fn.name == "runtime.NumGoroutine") && fn.body.isSome
 |none=>false
structure RelA(X:Cx)(cs:Array Value)(l:List V):Prop where
 len:cs.size=l.length
 rel:∀ i (h1:i<cs.size) (h2:i<l.length),Rel X cs[i] l[i]
def CallA(P:Program)(G:Nat->V)(f:FuncId)(args:List V)(H:Heap)(K:V->Heap->Prop):Prop:=
 Z2 P f=true/\∀ (X:Cx) (cargs:Array Value),Inv X H->(∀ g,RelG X g (G g))->RelA X cargs args ->
  Calls P f cargs X.w (λe w'=>∃ c v H' Y,e=.returned c/\Y.w=w'/\Goes X H Y H'/\Rel Y c v/\K v H')
theorem CallA.mono{G:Nat->V}{f:FuncId}{args:List V}{H:Heap}{K K':V->Heap->Prop}(h:CallA P G f args H K)(hk:∀ v H',K v H'->K' v H'):CallA P G f args H K':=
 ⟨h.1,λX cargs h1 h2 h3=>(h.2 X cargs h1 h2 h3).mono λe w' ⟨c,v,H',Y,a1,a2,a3,a4,a5⟩=>⟨c,v,H',Y,a1,a2,a3,a4,hk _ _ a5⟩⟩
def CallE(P:Program)(G:Nat->V)(f:FuncId)(args:List V)(H:Heap)(M:Ending->Value->V->Heap->Prop):Prop:=
 Z2 P f=true/\∀ (X:Cx) (cargs:Array Value),Inv X H->(∀ g,RelG X g (G g))->RelA X cargs args ->
  Calls P f cargs X.w (λe w'=>∃ c v H' Y,M e c v H'/\Y.w=w'/\Goes X H Y H'/\Rel Y c v)
theorem CallE.mono{G:Nat->V}{f:FuncId}{args:List V}{H:Heap}{M M':Ending->Value->V->Heap->Prop}(h:CallE P G f args H M)(hk:∀ e c v H',M e c v H'->M' e c v H'):CallE P G f args H M':=
 ⟨h.1,λX cargs h1 h2 h3=>(h.2 X cargs h1 h2 h3).mono λe w' ⟨c,v,H',Y,a1,a2,a3,a4⟩=>⟨c,v,H',Y,hk _ _ _ _ a1,a2,a3,a4⟩⟩
def outP(kp:Option (V->Heap->Prop))(K:V->Heap->Prop)(e:Ending)(c:Value)(v:V)(H':Heap):Prop:=
 (e=.returned c/\K v H')\/∃ k,kp=some k/\e=.panicked [{ v:=c,recovered:=false }]/\k v H'
def CallP(P:Program)(G:Nat->V)(kp:Option (V->Heap->Prop))(f:FuncId)(args:List V)(H:Heap)(K:V->Heap->Prop):Prop:=CallE P G f args H (outP kp K)
theorem CallP.of{G:Nat->V}{kp:Option (V->Heap->Prop)}{f:FuncId}{args:List V}{H:Heap}{K:V->Heap->Prop}(h:CallA P G f args H K):CallP P G kp f args H K:=
 ⟨h.1,λX cargs h1 h2 h3=>(h.2 X cargs h1 h2 h3).mono λe w' ⟨c,v,H',Y,a1,a2,a3,a4,a5⟩=>⟨c,v,H',Y,.inl ⟨a1,a5⟩,a2,a3,a4⟩⟩
theorem CallP.no{G:Nat->V}{f:FuncId}{args:List V}{H:Heap}{K:V->Heap->Prop}(h:CallP P G none f args H K):CallA P G f args H K:=
 ⟨h.1,λX cargs h1 h2 h3=>(h.2 X cargs h1 h2 h3).mono λe w' ⟨c,v,H',Y,a1,a2,a3,a4⟩=>by
  rcases a1 with ⟨a1,a5⟩|⟨k,hk,_⟩
  exact⟨c,v,H',Y,a1,a2,a3,a4,a5⟩
  cases hk⟩
theorem Zxt{G:Nat->V}{f:FuncId}{args:List V}{H:Heap}{K:V->Heap->Prop}:CallP P G none f args H K=CallA P G f args H K:=propext ⟨CallP.no,CallP.of⟩
theorem CallP.mono{G:Nat->V}{kp:Option (V->Heap->Prop)}{f:FuncId}{args:List V}{H:Heap}{K K':V->Heap->Prop}(h:CallP P G kp f args H K)(hk:∀ v H',K v H'->K' v H'):CallP P G kp f args H K':=
 CallE.mono h λ_ _ _ _ h=>h.imp (fun⟨a,b⟩=>⟨a,hk _ _ b⟩) id
def Pan(E:Ent)(ch:List PanicEntry)(a:Act)(w:World):Prop:=
 ∃ kp c v Y H',E.kp=some kp/\ch=[{ v:=c,recovered:=false }]/\DefR E.rk E.X0.w.heap.size Y a.defers E.df/\Y.w=w/\GoesN E.N E.X0 E.H0 Y H'/\Rel Y c v/\kp v H'
def Post(E:Ent)(Q:Exit->AS->Prop)(e:Exit)(a:Act)(w:World):Prop:=(∃ s,Sat E s a w/\Q e s)\/∃ ch,e=.panic ch/\Pan E ch a w
theorem Pan.no{E:Ent}{ch:List PanicEntry}{a:Act}{w:World}(h:Pan E ch a w)(hk:E.kp=none):False:=by
 obtain⟨kp,_,_,_,_,h,_⟩:=h;rw[hk]at h;cases h
theorem Post.imp{E E':Ent}{Q Q':Exit->AS->Prop}{e:Exit}{a:Act}{w:World}(h:Post E Q e a w)(hs:∀ s,Sat E s a w->Q e s->∃ s',Sat E' s' a w/\Q' e s')(hp:∀ ch,Pan E ch a w->Pan E' ch a w):Post E' Q' e a w:=by
 rcases h with ⟨s,h1,h2⟩|⟨ch,h1,h2⟩
 exact .inl (hs s h1 h2);exact .inr ⟨ch,h1,hp ch h2⟩
def Z6e(P:Program)(lo0:Nat)(H:Heap)(t:TypeId)(m k x:V)(K:V->Heap->Prop):Prop:=
 match m,P.underlying t with
 |.mref o b,some (.map kt _)=>match H o,P.underlying kt with
  |.mp lo b' ks vs,some kd=>b'=b/\lo0<=lo/\match putV kd k x ks vs with
   |some (ks',vs')=>K (.tuple []) (upd H o (.mp lo b ks' vs'))
   |none=>False
  |_,_=>False
 |_,_=>False
theorem Zvl{lo0:Nat}{H:Heap}{t:TypeId}{m k x:V}{K K':V->Heap->Prop}(hk:∀ v H,K v H->K' v H)(h:Z6e P lo0 H t m k x K):Z6e P lo0 H t m k x K':=by
 unfold Z6e at h⊢
 split at h
 split at h
 obtain⟨h1,h2,h3⟩:=h;refine⟨h1,h2,?_⟩
 split at h3
 exact hk _ _ h3;exact h3.elim;exact h.elim;exact h.elim
def Zmg(P:Program)(H:Heap)(t:TypeId)(m x:V)(ok:Bool):Option V:=match m with
 |.mref o b=>(match H o with
  |.mp _ b' ks vs=>if b'=b then Zam P t (.mapv ks vs) x ok else none
  |_=>none)
 |m=>Zam P t m x ok
theorem Z7fa{X:Cx}{H:Heap}(hI:Inv X H){t:TypeId}{m x:V}{cm cx:Value}{ok:Bool}{v:V}(hm:Rel X cm m)(hx:Rel X cx x)(h:Zmg P H t m x ok=some v):∃ c,(Instr.lookup t cm cx ok).run P X.w=.ok c X.w/\Rel X c v:=by
 have hm':=hm
 cases hm with
 |mref o b=>
  unfold Zmg at h;simp only at h
  split at h
  rename_i lo b' ks vs ho
  split at h
  .rename_i e
   subst e;obtain⟨_,_,_,es,n,hb,hk,hv,hkr,hvr⟩:=hI.mps _ _ _ _ _ ho;unfold Zam at h
   split at h
   rotate_left;cases h;rename_i kt et ks' vs' hu hkv;cases hkv
   split at h
   rotate_left;cases h;rename_i kd hkd;obtain⟨c,h0,h1,h2⟩:=Zf6 hx hkd h es hk hv hkr hvr;refine⟨c,?_,h2⟩
   have hg:(getObj b').run P X.w=.ok (.map es n) X.w:=by simp[getObj,Sem.run,hb]
   rcases h1 with ⟨j,y,h1,rfl⟩|⟨h1,cz,h3,rfl⟩
   simp only[Instr.lookup,Sem.run_bind,Zd hu,Result.andThen_ok,Sem.run_pure,hg,h0,h1];simp only[Instr.lookup,Sem.run_bind,Zd hu,Result.andThen_ok,Sem.run_pure,hg,h0,h1,h3]
  cases h;cases h
 |_=>exact Z6u hm' hx h
def Zka(P:Program)(E:Ent)(s:AS)(o:Oper)(K:V->Heap->Prop):Prop:=
 match o.op with
 |.load t x=>match Zvb P s.H t (s.ev E x)with
  |some v=>K v s.H
  |none=>False
 |.store t p x=>match Zsl P s.H t (s.ev E p) (s.ev E x)with
  |some H'=>K (.tuple []) H'
  |none=>False
 |.alloc t=>match Zre P t,o.dst with
  |some z,some d=>z.solid=true/\∀ g,K (.ptr (E.q+d) g 0) (upd s.H (E.q+d) (.cells .new g 0 z.cells))
  |_,_=>False
 |.box _ x=>match o.dst with
  |some d=>(s.ev E x).solid=true/\∀ g,K (.ptr (E.q+d) g 0) (upd s.H (E.q+d) (.cells .new g 0 (s.ev E x).cells))
  |none=>False
 |.buildSlice t len parts=>match o.dst with
  |some d=>Zgd P s.H (E.q+d) t len (parts.toList.map λp=>(p.1,s.ev E p.2)) K
  |none=>False
 |.makeSlice t l c=>match o.dst with
  |some d=>Zid P s.H (E.q+d) t (s.ev E l) (s.ev E c) K
  |none=>False
 |.call { callee:=.value f,args,.. }=>match s.ev E f with
  |.func (.func fid) first cap=>CallP P E.G E.kp fid (first++args.toList.map (s.ev E)++cap) s.H K
  |_=>False
 |.makeMap _ none=>match o.dst with
  |some d=>∀ b,K (.mref (E.q+d) b) (upd s.H (E.q+d) (.mp E.X0.w.heap.size b [] []))
  |none=>False
 |.mapUpdate t m k x=>Z6e P E.N s.H t (s.ev E m) (s.ev E k) (s.ev E x) K
 |.insert t m k x=>Z6e P E.N s.H t (s.ev E m) (s.ev E k) (s.ev E x) K
 |.lookup t m x ok=>match Zmg P s.H t (s.ev E m) (s.ev E x) ok with
  |some v=>K v s.H
  |none=>False
 |.panic x=>match s.ev E x with
  |.iface t v=>∃ k,E.kp=some k/\k (.iface t v) s.H
  |_=>False
 |.call { callee:=.builtin .append,args,argTypes }=>match args.toList,o.dst with
  |[x,y],some d=>Zil P s.H (E.q+d) argTypes (s.ev E x) (s.ev E y) K
  |_,_=>False
 |_=>match opV P (s.ev E) o with
  |some v=>K v s.H
  |none=>False
theorem Zjj{X:Cx}(h:SatX E X s a w){o:Oper}{K:V->Heap->Prop}(hd:∀ d,o.dst=some d->d<E.n)(hs:Zka P E s o K){Q:Exit->Act->World->Prop}(hQ:∀ ch a w,Pan E ch a w->Q (.panic ch) a w):
  o.wp P a w (λa' w'=>∃ v H',K v H'/\Sat E (AS.put { s with H:=H' } o.dst v) a' w') Q:=by
 have hw:=h.hw;subst hw;have hI:=h.go.inv;have hev:∀ x,Rel X (a.eval x) (s.ev E x):=h.ev
 have val:∀ {c:Value} {v:V},(execOp a.eval o).run P X.w=.ok (.value c) X.w->Rel X c v->K v s.H ->
   o.wp P a X.w (λa' w'=>∃ v H',K v H'/\Sat E (AS.put { s with H:=H' } o.dst v) a' w') Q:=by
  intro c v hrun hr hk;unfold Oper.wp;rw[hrun,Oper.upon_value];exact⟨v,s.H,hk,X,h.step (Goes.refl hI) hr hd⟩
 have eff:∀ {sm:Sem Value} {c:Value} {v:V} {H':Heap} {Y:Cx},execOp a.eval o=(do pure (Next.value (<- sm)))->sm.run P X.w=.ok c Y.w->Goes X s.H Y H'->Rel Y c v->K v H' ->
   o.wp P a X.w (λa' w'=>∃ v H',K v H'/\Sat E (AS.put { s with H:=H' } o.dst v) a' w') Q:=by
  intro sm c v H' Y he hrun hg hr hk;unfold Oper.wp;rw[he];simp only[Sem.run_bind,hrun,Result.andThen_ok,Sem.run_pure,Oper.upon_value];exact⟨v,H',hk,Y,h.step hg hr hd⟩
 have plain:(match opV P (s.ev E) o with|some v=>K v s.H|none=>False)->o.wp P a X.w (λa' w'=>∃ v H',K v H'/\Sat E (AS.put { s with H:=H' } o.dst v) a' w') Q:=by
  intro hp
  cases hv:opV P (s.ev E) o with
  |none=>rw[hv]at hp;exact hp.elim
  |some v=>
   rw[hv]at hp;obtain⟨c,hc,hr⟩:=opV_run rfl hev hv;exact val hc hr hp
 have mset:∀ {t:TypeId} {m k x:Operand} {ho:Oper},ho.dst=o.dst->(execOp a.eval ho=do Instr.mapUpdate t (a.eval m) (a.eval k) (a.eval x);pure .skip)->Z6e P E.N s.H t (s.ev E m) (s.ev E k) (s.ev E x) K ->
   ho.wp P a X.w (λa' w'=>∃ v H',K v H'/\Sat E (AS.put { s with H:=H' } ho.dst v) a' w') Q:=by
  intro t m k x ho hdo he hm;unfold Z6e at hm
  split at hm
  .rename_i o' b kt et hmv hu
   split at hm
   .rename_i lo b' ks vs kd hH hkd
    obtain⟨rfl,hlo,hm⟩:=hm
    split at hm
    .rename_i ks' vs' hp
     have hmr:=hev m;rw[hmv]at hmr;obtain⟨_,_,_,es,n,hb,hes⟩:=hI.mps _ _ _ _ _ hH;obtain⟨es',n',hrun,hes'⟩:=Zh9 hu hkd hb hes (hev k) (hev x) hp;have hst:=h.mapSet (n':=n') hH hlo hes';have hst2:=hst.step (Goes.refl hst.go.inv) (dst:=o.dst) (c:=undef) (v:=.tuple []) (.tuple #[] [] rfl (λi h1 h2=>by simp at h2)) hd;unfold Oper.wp;generalize hq:a.eval m=q at hmr
     cases hmr with
     |mref=>
     rw[he,hq];simp only[Sem.run_bind,hrun,Result.andThen_ok,Sem.run_pure,Oper.upon_skip,hdo];exact⟨_,_,hm,_,hst2⟩
    exact hm.elim
   exact hm.elim
  exact hm.elim
 obtain⟨dst,op,type,pos,after,guard⟩:=o;cases op
 case makeMap t r=>
  cases r with
  |some r=>exact plain hs
  |none=>
   simp only[Zka]at hs
   split at hs
   rename_i d;have hlo:E.X0.w.heap.size<=X.w.heap.size:=h.go.kp.size;exact eff (sm:=Instr.makeMap t none) (Y:={ X with w:=X.w.alloc (.map #[] 0) }) rfl (by simp[Instr.makeMap,newObj,Sem.run]) (Z34 hI _ _ hlo) (.mref _ _) (hs _);exact hs.elim
 case mapUpdate t m k x=>exact mset rfl rfl hs
 case insert t m k x=>exact mset rfl rfl hs
 case lookup t m x ok=>
  simp only[Zka]at hs
  cases hv:Zmg P s.H t (s.ev E m) (s.ev E x) ok with
  |none=>rw[hv]at hs;exact hs.elim
  |some v=>
   rw[hv]at hs;obtain⟨c,hc,hr⟩:=Z7fa hI (hev m) (hev x) hv;exact eff rfl hc (Goes.refl hI) hr hs
 case load t x=>
  simp only[Zka]at hs
  cases hv:Zvb P s.H t (s.ev E x)with
  |none=>rw[hv]at hs;exact hs.elim
  |some v=>
   rw[hv]at hs;obtain⟨c,hc,hr⟩:=Ztu hI (hev x) hv;exact eff rfl hc (Goes.refl hI) hr hs
 case store t p x=>
  simp only[Zka]at hs
  cases hv:Zsl P s.H t (s.ev E p) (s.ev E x)with
  |none=>rw[hv]at hs;exact hs.elim
  |some H'=>
   rw[hv]at hs;obtain⟨Y,hc,hg⟩:=Z17 (P:=P) hI (hev p) (hev x) hv;unfold Oper.wp
   have:(execOp a.eval ⟨dst,.store t p x,type,pos,after,guard⟩).run P X.w=.ok .skip Y.w:=by
    simp only[execOp,Sem.run_bind,hc,Result.andThen_ok,Sem.run_pure]
   rw[this,Oper.upon_skip];exact⟨_,H',hs,Y,h.step hg (.tuple #[] [] rfl (λi h1 h2=>by simp at h2)) hd⟩
 case alloc t=>
  simp only[Zka]at hs
  split at hs
  rename_i z d hz;obtain⟨hsol,hk⟩:=hs;obtain⟨zx,hzx,hzr⟩:=Z0e (X:=X) (w:=X.w) hz;obtain⟨c,u,Y,H',h1,h2,h3,h4⟩:=Z5q (P:=P) hI (E.q+d) t hzr hsol hk;exact eff (sm:=Instr.alloc t true (.tuple #[])) rfl (by simp[Instr.alloc,hzx,h1]) h2 h3 h4;exact hs.elim
 case box t x=>
  simp only[Zka]at hs
  split at hs
  rename_i d;obtain⟨hsol,hk⟩:=hs;obtain⟨c,u,Y,H',h1,h2,h3,h4⟩:=Z5q (P:=P) hI (E.q+d) t (hev x) hsol hk;exact eff (sm:=Instr.box t (a.eval x)) rfl (by simp[Instr.box,h1]) h2 h3 h4;exact hs.elim
 case buildSlice t len parts=>
  simp only[Zka]at hs
  split at hs
  rename_i d
  obtain⟨c,v,H',Y,h1,h2,h3,h4⟩:=Z4o (P:=P) hI (E.q+d) (ps:=parts.map fun(i,x)=>(i,a.eval x)) zS (by
   intro i h1 h2;simp at h1 h2⊢
   exact hev _) hs
  exact eff rfl h1 h2 h3 h4;exact hs.elim
 case makeSlice t l c=>
  simp only[Zka]at hs
  split at hs
  rename_i d;obtain⟨c,v,H',Y,h1,h2,h3,h4⟩:=Z9p (P:=P) hI (E.q+d) (hev l) (hev c) hs;exact eff rfl h1 h2 h3 h4;exact hs.elim
 case panic x=>
  simp only[Zka]at hs
  split at hs
  .rename_i t v hx
   obtain⟨k,hk,hv⟩:=hs;have hr:=hev x;rw[hx]at hr;generalize hq:a.eval x=q at hr
   cases hr with
   |iface _ y _ hy=>
    unfold Oper.wp
    have:(execOp a.eval ⟨dst,.panic x,type,pos,after,guard⟩).run P X.w=.halt (.panic (.iface t y)) X.w:=by
     simp[execOp,Instr.panic,goPanic,hq,Sem.run,Result.andThen]
    rw[this,Oper.upon_panic];exact hQ _ _ _ ⟨k,_,_,X,s.H,hk,rfl,h.df,rfl,h.go,.iface t y v hy,hv⟩
  exact hs.elim
 case call c=>
  obtain⟨callee,args,ats⟩:=c;cases callee
  case value f=>
   simp only[Zka]at hs
   split at hs
   .rename_i fid first cap hf
    obtain⟨hen,hs⟩:=hs;have hfv:=hev f;rw[hf]at hfv;generalize hq:a.eval f=q at hfv
    cases hfv with
    |func _ xs ys _ _ hx hy hxr hyr=>
    have hrun:(execOp a.eval ⟨dst,.call ⟨.value f,args,ats⟩,type,pos,after,guard⟩).run P X.w=.ok (.enter fid (xs++args.map a.eval++ys)) X.w:=by
     unfold Z2 at hen
     split at hen
     rename_i fn hfn;simp only[Bool.and_eq_true]at hen;obtain⟨hn1,hn2⟩:=hen
     have hn1':(fn.name == "runtime.NumGoroutine")=false:=zu hn1
     have hn2':fn.body.isNone=false:=by cases hb:fn.body<;>simp_all
     simp only[execOp,resolve,hq,Deferred.ofValue,Sem.run_bind,Sem.run_pure,Result.andThen_ok,invoke,callFunc,run_program,hfn,hn1',hn2'];simp;simp at hen
    unfold Oper.wp;rw[hrun,Oper.upon_enter];refine(hs X _ hI h.gl ⟨by simp[hx,hy],?_⟩).mono ?_;intro i h1 h2;simp at h1 h2
    by_cases hi1:i<first.length
    rw[Array.getElem_append_left zO,Array.getElem_append_left zo,List.getElem_append_left zO,List.getElem_append_left hi1];exact hxr _ _ _
    by_cases hi2:i<first.length+args.size
    rw[Array.getElem_append_left zO,Array.getElem_append_right zo,List.getElem_append_left zO,List.getElem_append_right zo];simp only[Array.getElem_map,List.getElem_map,Array.getElem_toList,hx];exact hev _;rw[Array.getElem_append_right zO,List.getElem_append_right zO];simp only[Array.size_append,Array.size_map,List.length_append,List.length_map,Array.length_toList,hx];exact hyr _ _ _;rintro e w' ⟨c,v,H',Y,⟨rfl,h3⟩|⟨k,hk,rfl,h3⟩,rfl,h1,h2⟩;exact⟨v,H',h3,Y,h.step h1 h2 hd⟩;exact hQ _ _ _ ⟨k,c,v,Y,H',hk,rfl,h.df.go h.go.inv h1,rfl,h.on_ h1,h2,h3⟩
   exact hs.elim
  case invoke r m=>exact plain hs
  case builtin b=>
   cases b
   case append=>
    simp only[Zka]at hs
    split at hs
    rename_i x y d hargs
    have:args = #[x,y]:=by cases args;simp at hargs;rw[hargs]
    subst this;obtain⟨c,v,H',Y,h1,h2,h3,h4⟩:=Z90 (P:=P) hI (E.q+d) (ty:=type) (hev x) (hev y) hs;refine eff (sm:=Builtin.append_ ats type #[a.eval x,a.eval y]) ?_ h1 h2 h3 h4;simp[execOp,resolve,invoke,builtin];exact hs.elim
   all_goals exact plain hs
 all_goals exact plain hs
def Zz(ops:Array Oper)(τ : Nat->V)(o:Oper):Option Bool:=
 match o.guard with
 |none=>some true
 |some (j,want)=>match(ops[j]?).bind (·.dst)with
  |some d=>match τ d with
   |.bool b=>some (b==want)
   |.tuple []=>some false
   |_=>none
  |none=>some false
theorem Ztc{X:Cx}(h:SatX E X s a w){ops:Array Oper}{o:Oper}{b:Bool}(hw:Zz ops s.τ o=some b)(hd:∀ (o':Oper) d,o'∈ops->o'.dst=some d->d<E.n):
  Region.wanted o (yielded ops a.tmps)=b:=by
 unfold Zz at hw;unfold Region.wanted
 cases hg:o.guard with
 |none=>rw[hg]at hw;simp at hw;simp[hw]
 |some p=>
  obtain⟨j,want⟩:=p;rw[hg]at hw;simp only at hw⊢;unfold yielded
  cases hj:(ops[j]?).bind (·.dst)with
  |none=>rw[hj]at hw;simp at hw;subst hw;simp
  |some d=>
   rw[hj]at hw;simp only at hw
   have hdn:d<a.tmps.size:=by
    rw[h.sz]
    cases ho:ops[j]? with
    |none=>rw[ho]at hj;simp at hj
    |some o'=>
     rw[ho]at hj;simp only[Option.bind_some]at hj
     have hmem:o'∈ops:=by rw[Array.getElem?_eq_some_iff]at ho;obtain⟨hlt,rfl⟩:=ho;exact Array.getElem_mem hlt
     exact hd o' d hmem hj
   have htm:=h.tm d
   have hget:a.tmps[d]?=some (a.tmps.getD d undef):=by
    rw[Array.getElem?_eq_getElem hdn];simp[Array.getD,hdn]
   simp only[Option.bind_some,hget]
   split at hw
   rename_i b' hb';rw[hb']at htm;rw[htm.bool_inv];simp at hw;subst hw
   cases b'<;>cases want<;>rfl
   rename_i hb';rw[hb']at htm;generalize a.tmps.getD d undef=q at htm;cases htm;simp at hw;subst hw;simp;simp at hw
def Zsa(P:Program)(E:Ent)(ops:Array Oper)(Q:AS->Prop):List Oper->AS->Prop
 |[],s=>Q s
 |o::rest,s=>match Zz ops s.τ o with
  |some true=>Zka P E s o λv H'=>Zsa P E ops Q rest (AS.put { s with H:=H' } o.dst v)
  |some false=>Zsa P E ops Q rest (s.put o.dst (.tuple []))
  |none=>False
theorem Zfm{o:Oper}{K:V->Heap->Prop}(h:Zka P E s o K):∀ c,o.op ≠ .defer c:=by
 intro c e;unfold Zka at h;simp only[e]at h;unfold opV at h;simp only[e]at h
def Z7b(n:Nat)(o:Oper):Bool:=match o.dst with|some d=>decide (d<n)|none=>true
theorem Zpm{ops:Array Oper}{Q:AS->Prop}{R:Exit->Act->World->Prop}(hP:∀ ch a w,Pan E ch a w->R (.panic ch) a w)(hR:∀ s a w,Sat E s a w->Q s->R .normal a w)(hd:(ops.all (Z7b E.n))=true):∀ (l:List Oper) (k:Nat) (s:AS) (a:Act) (w:World),Sat E s a w->(∀ j,l[j]?=ops[k+j]?)->Zsa P E ops Q l s ->
  wpOpsIn E.rk.F 0 P ops R ((List.range l.length).map (k + ·)) a w
 |[],k,s,a,w,hs,_,h=>by
  simp only[List.length_nil,List.range_zero,List.map_nil,wpOpsIn];exact hR s a w hs h
 |o::rest,k,s,a,w,⟨X,hX⟩,hl,h=>by
  have hk:ops[k]?=some o:=by have:=hl 0;simpa using this.symm
  have hl':∀ j,rest[j]?=ops[k+1+j]? := λj=>by have:=hl (j+1);rw[show k+1+j=k+(j+1) by omega];simpa using this
  have hmem:∀ (o':Oper) d,o'∈ops->o'.dst=some d->d<E.n:=by
   intro o' d ho hdst;rw[Array.all_eq_true']at hd;have:=hd o' ho;unfold Z7b at this;rw[hdst]at this;simpa using this
  have hko:o∈ops:=by rw[Array.getElem?_eq_some_iff]at hk;obtain⟨hlt,rfl⟩:=hk;exact Array.getElem_mem hlt
  have hrange:(List.range (o::rest).length).map (k + ·)=k::(List.range rest.length).map (k+1 + ·):=by
   simp only[List.length_cons,List.range_succ_eq_map,List.map_cons,Nat.add_zero,List.map_map]
   congr 1
   apply List.map_congr_left;intro j _;simp;omega
  rw[hrange];simp only[wpOpsIn,hk];simp only[Zsa]at h
  cases hwa:Zz ops s.τ o with
  |none=>rw[hwa]at h;exact h.elim
  |some b=>
   have hb:=Ztc hX hwa hmem;rw[hwa]at h;rw[hb]
   cases b with
   |true=>
    simp only[if_true]at h⊢;refine Zog _ (Zfm h) (Oper.wp_mono ?_ (Zjj hX (λd hdst=>hmem o d hko hdst) h hP));rintro a' w' ⟨v,H',hk',hs'⟩;exact Zpm hP hR hd rest (k+1) _ _ _ hs' hl' hk'
   |false=>
    simp only[Bool.false_eq_true,if_false]at h⊢;refine⟨λ_ _=>trivial,?_⟩;refine Zpm hP hR hd rest (k+1) _ _ _ ⟨X,?_⟩ hl' h;have:=hX.step (Goes.refl hX.go.inv) (dst:=o.dst) (c:=undef) (v:=.tuple []) (.tuple #[] [] rfl (λi h1 h2=>by simp at h2)) (λd hdst=>hmem o d hko hdst);rw[hX.hw]at this;exact this
def AW(P:Program)(E:Ent)(c:Code)(Q:Exit->AS->Prop)(s:AS):Prop:=
 ∀ a w,Sat E s a w->c.wpIn E.rk.F 0 P (Post E Q) a w
theorem AW.mono{c:Code}{Q Q':Exit->AS->Prop}{s:AS}(h:AW P E c Q s)(hq:∀ e s,Q e s->Q' e s):AW P E c Q' s:=
 λa w hs=>wpIn_mono (h a w hs) λe a' w' h=>h.imp (λs' h1 h2=>⟨s',h1,hq _ _ h2⟩) λ_ h=>h
def Weak(E:Ent)(s s':AS):Prop:=∀ a w,Sat E s a w->Sat E s' a w
theorem AW.weak{c:Code}{Q:Exit->AS->Prop}{s s':AS}(hw:Weak E s s')(h:AW P E c Q s'):AW P E c Q s:=λa w hs=>h a w (hw a w hs)
theorem AW.skip{Q:Exit->AS->Prop}{s:AS}(h:Q .normal s):AW P E .skip Q s:=λ_ _ hs=>wpIn_skip (.inl ⟨s,hs,h⟩)
theorem AW.exit{id:Nat}{Q:Exit->AS->Prop}{s:AS}(h:Q (.exit id) s):AW P E (.exit id) Q s:=λ_ _ hs=>wpIn_exit (.inl ⟨s,hs,h⟩)
theorem AW.ret{Q:Exit->AS->Prop}{s:AS}(h:Q .ret s):AW P E .ret Q s:=λ_ _ hs=>wpIn_ret (.inl ⟨s,hs,h⟩)
def Z7l(next:AS->Prop)(Q:Exit->AS->Prop):Exit->AS->Prop
 |.normal,s=>next s
 |e,s=>Q e s
theorem AW.seq{x y:Code}{Q:Exit->AS->Prop}{s:AS}(h:AW P E x (Z7l (AW P E y Q) Q) s):AW P E (.seq x y) Q s:=by
 intro a w hs;refine wpIn_seq (wpIn_mono (h a w hs) ?_);rintro e a' w' (⟨s',h1,h2⟩|⟨ch,rfl,hp⟩)
 cases e<;>first|exact h2 a' w' h1|exact .inl ⟨s',h1,h2⟩
 exact .inr ⟨ch,rfl,hp⟩
theorem Zha{x y:Code}{Q:Exit->AS->Prop}{s:AS}(h:∀ K:AS->Prop,(∀ s,AW P E y Q s->K s)->AW P E x (Z7l K Q) s):AW P E (.seq x y) Q s:=
 AW.seq (h _ λ_ h=>h)
theorem AW.cond{c:Operand}{x y:Code}{Q:Exit->AS->Prop}{s:AS}{b:Bool}(hc:s.ev E c=.bool b)(h:if b then AW P E x Q s else AW P E y Q s):AW P E (.cond c x y) Q s:=by
 intro a w hs;obtain⟨X,hX⟩:=hs;have:=hX.ev c;rw[hc]at this;refine wpIn_cond this.bool_inv ?_
 cases b with
 |true=>exact h a w ⟨X,hX⟩
 |false=>exact h a w ⟨X,hX⟩
def Z2v(id:Nat)(Q:Exit->AS->Prop):Exit->AS->Prop
 |.exit id',s=>if id'=id then Q .normal s else Q (.exit id') s
 |e,s=>Q e s
theorem AW.block{id:Nat}{c:Code}{Q:Exit->AS->Prop}{s:AS}(h:AW P E c (Z2v id Q) s):AW P E (.block id c) Q s:=by
 intro a w hs;refine wpIn_block (wpIn_mono (h a w hs) ?_);rintro e a' w' (⟨s',h1,h2⟩|⟨ch,rfl,hp⟩)
 .cases e with
  |exit id'=>
   simp only[Z2v]at h2;simp only[Exit.inBlock]
   split
   rename_i e;rw[if_pos e]at h2;exact .inl ⟨s',h1,h2⟩;rename_i e;rw[if_neg e]at h2;exact .inl ⟨s',h1,h2⟩
  |_=>exact .inl ⟨s',h1,h2⟩
 exact .inr ⟨ch,rfl,hp⟩
theorem AW.loop{c:Code}{Q:Exit->AS->Prop}(I:Nat->AS->Prop){n:Nat}{s:AS}(h0:I n s)
  (round:∀ n s,I n s->AW P E c (Z7l (λs'=>∃ m,m<n/\I m s') Q) s):AW P E (.loop c) Q s:=by
 intro a w hs b k cs hro hb hr
 have key:∀ n s a w,Sat E s a w->I n s ->
   ∃ e a' w',Post E Q e a' w'/\ArrivesIn (Machine.fenced P E.rk.F) P (lone (b.atR a (.code c::.inLoop c::k)) cs w) b k cs e a' w':=by
  intro n
  induction n using Nat.strongRecOn with
  |_ n ih=>
   intro s a w hs hI;obtain⟨e,a₁,w₁,hpost,harr⟩:=round n s hI a w hs b (.inLoop c::k) cs hro hb hr
   rcases hpost with ⟨s',h1,hq⟩|⟨ch,rfl,hp⟩
   .cases e with
    |normal=>
     obtain⟨m,hm,hIm⟩:=hq;obtain⟨e₂,a₂,w₂,hq₂,harr₂⟩:=ih m hm s' a₁ w₁ h1 hIm;exact⟨e₂,a₂,w₂,hq₂,.of_steps (StepsIn.trans harr (.one (fenced_calm hb hr rfl) stepR_inLoop)) harr₂⟩
    |exit id=>exact⟨_,a₁,w₁,.inl ⟨s',h1,hq⟩,.pass (x:=.inLoop c) rfl (λ_ _=>.inl zS) harr⟩
    |goto l=>exact⟨_,a₁,w₁,.inl ⟨s',h1,hq⟩,.pass (x:=.inLoop c) rfl (λ_ _=>.inl zS) harr⟩
    |ret=>exact⟨_,a₁,w₁,.inl ⟨s',h1,hq⟩,.pass (x:=.inLoop c) rfl (λ_ _=>.inl zS) harr⟩
    |panic ch=>exact⟨_,a₁,w₁,.inl ⟨s',h1,hq⟩,.pass (x:=.inLoop c) rfl (λ_ _=>.inl zS) harr⟩
    |outgrown=>exact⟨_,a₁,w₁,.inl ⟨s',h1,hq⟩,.pass (x:=.inLoop c) rfl (λ_ _=>.inl zS) harr⟩
   exact⟨_,a₁,w₁,.inr ⟨ch,rfl,hp⟩,.pass (x:=.inLoop c) rfl (λ_ _=>.inl zS) harr⟩
 obtain⟨e,a',w',hq,harr⟩:=key n s a w hs h0;exact⟨e,a',w',hq,.of_steps (.one (fenced_calm hb hr rfl) stepR_loop) harr⟩
theorem AW.region{id:Nat}{ops:Array Oper}{Q:Exit->AS->Prop}{s:AS}(hd:(ops.all (Z7b E.n))=true)(h:Zsa P E ops (Q .normal) ops.toList s):AW P E (.region id ops false) Q s:=by
 intro a w hs;refine wpIn_region ?_;have:=Zpm (P:=P) (R:=Post E Q) (λch a w h=>.inr ⟨ch,rfl,h⟩) (λs a w h1 h2=>.inl ⟨s,h1,h2⟩) hd ops.toList 0 s a w hs (λj=>zS) h;simpa using this
end
end Go.Hs
