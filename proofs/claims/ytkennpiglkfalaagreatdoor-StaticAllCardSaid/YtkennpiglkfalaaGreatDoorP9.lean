/- A part. No condition. -/
import Derived.Test.YtkennpiglkfalaaGreatDoorP8
import Derived.RangeFuncRecord
set_option linter.all false
open Bool renaming false->ab,true->ad
open Option renaming some->ae,none->ah
open Go.Oper renaming wp->bK
open Go.Result renaming andThen_ok->aB
open Go.Sem renaming run_bind->aC,run_pure->aD
namespace Go.Hs
section
variable{P:Program}{E:BX}{s:AS}{a:Act}{w:World}
def RK.ro:RK->Option Nat
 |.round l=>ae l|_=>ah
def RK.F(k:RK):Fence:={Fence.wide with round:=k.ro}
def Cr{k:RK}(h:k.ro=ah):k.F=Fence.wide:=by unfold RK.F;rw[h];rfl
def RK.wp{k:RK}(h:k.ro=ah){n}{c:Code}{Q}:c.wpIn k.F n P Q a w↔c.wp P Q a w:=by rw[Cr h];exact wpIn_wide
def RK.calls(k:RK){n f args R}:CallsIn k.F n P f args w R↔Calls P f args w R:=callsIn_wide
def RK.rows(k:RK){n row args R}(h:Rows P row args w R):RowsIn k.F n P row args w R:=λc a _=>
 let ⟨v,w',r,s⟩:=h c a;⟨v,w',r,(stepsIn_wide).2 s⟩
def Ol(k:RK){o:Oper}{next Q}(b:∀ c,o.op ≠ .defer c)(h:o.wp P a w next Q):o.wpIn k.F 0 P a w next Q:=by
 refine⟨λ_ _=>trivial,?_⟩;rw[Oper.semAt_eq _ _ _ b];unfold bK at h;generalize(execOp _ o).run P w=r at h⊢;unfold Oper.upon at h;split at h
 iterate 3 (· exact h)
 exact⟨λh=>(by cases h),k.calls.2 h⟩;exact⟨λh=>(by cases h),k.rows h⟩;exact h;grind
def Yf(P:Program)(f:FuncId):Bool:=
 match P.funcs[f]? with| some fn => !(fn.name == "runtime.NumGoroutine") && fn.body.isSome|none=>ab
structure FA(X:Cx)(cs:Array Value)(l:List V):Prop where
 len:cs.size=l.length
 CV:∀ i (h1:i<cs.size) (h2:i<l.length),AI X cs[i] l[i]
def CallA(P:Program)(G:Nat->V)(f:FuncId)(args:List V)(H:A')(K:V->A'->Prop):Prop:=
 Yf P f=ad/\∀ X cargs,BZ X H->(∀ g,FI X g (G g))->FA X cargs args ->
  Calls P f cargs X.w (λe w'=>∃ c v H' Y,e=.returned c/\Y.w=w'/\BH X H Y H'/\AI Y c v/\K v H')
def CallE(P:Program)(G:Nat->V)(f:FuncId)(args:List V)(H:A')(M:Ending->Value->V->A'->Prop):Prop:=
 Yf P f=ad/\∀ X cargs,BZ X H->(∀ g,FI X g (G g))->FA X cargs args ->
  Calls P f cargs X.w (λe w'=>∃ c v H' Y,M e c v H'/\Y.w=w'/\BH X H Y H'/\AI Y c v)
def CallE.mono{G f args H M M'}(h:CallE P G f args H M)(b:∀ e c v H',M e c v H'->M' e c v H'):CallE P G f args H M':=
 ⟨h.1,λX a g h2 d=>(h.2 X _ g h2 d).mono λe w' ⟨c,v,H',Y,l,k,j,i⟩=>⟨c,v,H',Y,b _ _ _ _ l,k,j,i⟩⟩
def SK(kp:Option (V->A'->Prop))(K:V->A'->Prop)(e:Ending)(c:Value)(v:V)(H':A'):Prop:=
 (e=.returned c/\K v H')\/∃ k,kp=ae k/\e=.panicked [{v:=c,recovered:=ab}]/\k v H'
def CallP(P:Program)(G:Nat->V)(kp:Option (V->A'->Prop))(f:FuncId)(args:List V)(H:A')(K:V->A'->Prop):Prop:=CallE P G f args H (SK kp K)
def CallP.of{G kp f args H K}(h:CallA P G f args H K):CallP P G kp f args H K:=
 ⟨h.1,λX a d h2 b=>(h.2 X _ d h2 b).mono λe w' ⟨c,v,m,Y,l,k,j,i,g⟩=>⟨c,v,m,Y,.inl ⟨l,g⟩,k,j,i⟩⟩
def CallP.no{G f args H K}(h:CallP P G ah f args H K):CallA P G f args H K:=
 ⟨h.1,λX a g h2 d=>(h.2 X _ g h2 d).mono λe w' ⟨c,v,o,Y,b,n,m,l⟩=>by rcases b with ⟨b,j⟩|⟨k,i,_⟩;grind;grind⟩
def zJ{G f args H K}:CallP P G ah f args H K=CallA P G f args H K:=propext ⟨CallP.no,CallP.of⟩
def CallP.mono{G kp f args H K K'}(h:CallP P G kp f args H K)(c:∀ v H',K v H'->K' v H'):CallP P G kp f args H K':=
 CallE.mono h λ_ _ _ _ h=>h.imp (fun⟨a,b⟩=>⟨a,c _ _ b⟩) id
def Pan(E:BX)(ch:List PanicEntry)(a:Act)(w:World):Prop:=
 ∃ kp c v Y H',E.kp=ae kp/\ch=[{v:=c,recovered:=ab}]/\DefR E.rk E.X0.w.heap.size Y a.defers E.df/\Y.w=w/\JE E.N E.X0 E.H0 Y H'/\AI Y c v/\kp v H'
def Post(E:BX)(Q:Exit->AS->Prop)(e:Exit)(a:Act)(w:World):Prop:=(∃ s,Ng E s a w/\Q e s)\/∃ ch,e=.panic ch/\Pan E ch a w
def Pan.no{E ch a w}(h:Pan E ch a w)(b:E.kp=ah):False:=by obtain⟨kp,_,_,_,_,h,_⟩:=h;grind
def Post.imp{E E' Q Q' e a w}(h:Post E Q e a w)(c:∀ s,Ng E s a w->Q e s->∃ s',Ng E' s' a w/\Q' e s')(d:∀ ch,Pan E ch a w->Pan E' ch a w):Post E' Q' e a w:=by rcases h with ⟨s,b,h2⟩|⟨ch,b,h2⟩;exact .inl (c s b h2);exact .inr ⟨ch,b,d ch h2⟩
def Rv(P:Program)(lo0:Nat)(H:A')(t:TypeId)(m k x:V)(K:V->A'->Prop):Prop:=
 match m,P.underlying t with
 |.DF o b,ae (.map kt _)=>match H o,P.underlying kt with
  |.mp lo b' ks vs,ae kd=>b'=b/\lo0<=lo/\match KN kd k x ks vs with|some (ks',vs')=>K (.tuple []) (Ye H o (.mp lo b ks' vs'))|none=>False
  |_,_=>False
 |_,_=>False
def F5{lo0 H t m k x K K'}(a:∀ v H,K v H->K' v H)(h:Rv P lo0 H t m k x K):Rv P lo0 H t m k x K':=by unfold Rv at h⊢;split at h;grind;grind
def Rw(P:Program)(H:A')(t:TypeId)(m x:V)(ok:Bool):Option V:=match m with|.DF o b=>(match H o with|.mp _ b' ks vs=>if b'=b then Kh P t (.FM ks vs) x ok else ah|_=>ah)|m=>Kh P t m x ok
def lz{X H}(F:BZ X H){t m x cm cx ok v}(q:AI X cm m)(l:AI X cx x)(h:Rw P H t m x ok=ae v):∃ c,(Instr.lookup t cm cx ok).run P X.w=.ok c X.w/\AI X c v:=by
 have f:=q;cases q with
 |DF o b=>
  unfold Rw at h;simp only at h;split at h;rename_i K I M J C;split at h
  .rename_i e;subst e;obtain⟨_,_,_,u,n,E,D,B,i,d⟩:=F.KB _ _ _ _ _ C;unfold Kh at h;split at h
   rotate_left;cases h;rename_i L N A z p g;cases g
   split at h
   rotate_left;cases h;rename_i kd k;obtain⟨c,s,a,h2⟩:=fg l k h u D B i d;refine⟨c,?_,h2⟩
   have r:(getObj I).run P X.w=.ok (.map u n) X.w:=by simp[getObj,Sem.run,E]
   rcases a with ⟨j,y,a,rfl⟩|⟨a,O,G,rfl⟩;simp only[Instr.lookup,aC,Zt p,aB,aD,r,s,a];simp only[Instr.lookup,aC,Zt p,aB,aD,r,s,a,G]
  cases h;cases h
 |_=>exact jJ f l h
def Y1(P:Program)(E:BX)(s:AS)(o:Oper)(K:V->A'->Prop):Prop:=
 match o.op with
 |.load t x=>match W0 P s.H t (s.ev E x)with|some v=>K v s.H|none=>False
 |.store t p x=>match Kv P s.H t (s.ev E p) (s.ev E x)with|some H'=>K (.tuple []) H'|none=>False
 |.alloc t=>match Tj P t,o.dst with|some z,ae d=>z.solid=ad/\∀ g,K (.ptr (E.q+d) g 0) (Ye s.H (E.q+d) (.cells .new g 0 z.cells))|_,_=>False
 |.box _ x=>match o.dst with|some d=>(s.ev E x).solid=ad/\∀ g,K (.ptr (E.q+d) g 0) (Ye s.H (E.q+d) (.cells .new g 0 (s.ev E x).cells))|none=>False
 |.buildSlice t len CC=>match o.dst with|some d=>T2 P s.H (E.q+d) t len (CC.toList.map λp=>(p.1,s.ev E p.2)) K|none=>False
 |.makeSlice t l c=>match o.dst with|some d=>Ty P s.H (E.q+d) t (s.ev E l) (s.ev E c) K|none=>False
 |.call {callee:=.value f,args,.. }=>match s.ev E f with
  |.func (.func fid) first cap=>CallP P E.G E.kp fid (first++args.toList.map (s.ev E)++cap) s.H K
  |_=>False
 |.makeMap _ ah=>match o.dst with|some d=>∀ b,K (.DF (E.q+d) b) (Ye s.H (E.q+d) (.mp E.X0.w.heap.size b [] []))|none=>False
 |.mapUpdate t m k x=>Rv P E.N s.H t (s.ev E m) (s.ev E k) (s.ev E x) K|.insert t m k x=>Rv P E.N s.H t (s.ev E m) (s.ev E k) (s.ev E x) K|.lookup t m x ok=>match Rw P s.H t (s.ev E m) (s.ev E x) ok with|some v=>K v s.H|none=>False
 |.panic x=>match s.ev E x with|.iface t v=>∃ k,E.kp=ae k/\k (.iface t v) s.H|_=>False
 |.call {callee:=.builtin .append,args,argTypes}=>match args.toList,o.dst with|[x,y],ae d=>Iz P s.H (E.q+d) argTypes (s.ev E x) (s.ev E y) K|_,_=>False
 |_=>match E3 P (s.ev E) o with|some v=>K v s.H|none=>False
def Ia{X}(h:EF E X s a w){o:Oper}{K}(hd:∀ d,o.dst=ae d->d<E.n)(hs:Y1 P E s o K){Q}(hQ:∀ ch a w,Pan E ch a w->Q (.panic ch) a w):o.wp P a w (λa' w'=>∃ v H',K v H'/\Ng E (AS.put {s with H:=H'} o.dst v) a' w') Q:=by
 have hw:=h.hw;subst hw;have hI:=h.go.BJ;have hev:=h.ev;have val:∀ {c} {v},(execOp a.eval o).run P X.w=.ok (.value c) X.w->AI X c v->K v s.H ->
   o.wp P a X.w (λa' w'=>∃ v H',K v H'/\Ng E (AS.put {s with H:=H'} o.dst v) a' w') Q:=by
  intro c v hrun hr hk;unfold bK;rw[hrun,Oper.upon_value];exact⟨v,s.H,hk,X,h.step (GF hI) hr hd⟩
 have eff:∀ {sm} {c} {v} {H'} {Y},execOp a.eval o=(do pure (Next.value (<- sm)))->sm.run P X.w=.ok c Y.w->BH X s.H Y H'->AI Y c v->K v H' ->
   o.wp P a X.w (λa' w'=>∃ v H',K v H'/\Ng E (AS.put {s with H:=H'} o.dst v) a' w') Q:=by
  intro sm c v H' Y he hrun hg hr hk;unfold bK;rw[he];simp only[aC,hrun,aB,aD,Oper.upon_value];exact⟨v,H',hk,Y,h.step hg hr hd⟩
 have plain:(match E3 P (s.ev E) o with|some v=>K v s.H|none=>False)->o.wp P a X.w (λa' w'=>∃ v H',K v H'/\Ng E (AS.put {s with H:=H'} o.dst v) a' w') Q:=by intro hp;cases hv:E3 P (s.ev E) o with|none=>rw[hv]at hp;exact hp.elim|some v=>rw[hv]at hp;obtain⟨c,hc,hr⟩:=yc rfl hev hv;exact val hc hr hp
 have mset:∀ {t} {m k x} {ho},ho.dst=o.dst->(execOp a.eval ho=do Instr.mapUpdate t (a.eval m) (a.eval k) (a.eval x);pure .skip)->Rv P E.N s.H t (s.ev E m) (s.ev E k) (s.ev E x) K ->
   ho.wp P a X.w (λa' w'=>∃ v H',K v H'/\Ng E (AS.put {s with H:=H'} ho.dst v) a' w') Q:=by
  intro t m k x ho hdo he hm;unfold Rv at hm;split at hm
  .rename_i o' b kt et hmv hu;split at hm
   .rename_i lo b' ks vs kd hH hkd;obtain⟨rfl,hlo,hm⟩:=hm;split at hm
    .rename_i ks' vs' hp;have hmr:=hev m;rw[hmv]at hmr;obtain⟨_,_,_,es,n,hb,hes⟩:=hI.KB _ _ _ _ _ hH;obtain⟨es',n',hrun,hes'⟩:=y' hu hkd hb hes (hev k) (hev x) hp;have hst:=h.mapSet (n':=n') hH hlo hes';have hst2:=hst.step (GF hst.go.BJ) (dst:=o.dst) (c:=undef) (v:=.tuple []) (.tuple #[] [] rfl (λi h1 h2=>by simp at h2)) hd;unfold bK;generalize hq:a.eval m=q at hmr;cases hmr with|DF=>
     rw[he,hq];simp only[aC,hrun,aB,aD,Oper.upon_skip,hdo];exact⟨_,_,hm,_,hst2⟩
    exact hm.elim
   exact hm.elim
  exact hm.elim
 obtain⟨dst,op,type,pos,after,guard⟩:=o;cases op
 case makeMap t r=>
  cases r with|some r=>exact plain hs|none=>simp only[Y1]at hs;split at hs;rename_i d;have hlo:=h.go.kp.size;exact eff (sm:=Instr.makeMap t ah) (Y:={X with w:=X.w.alloc (.map #[] 0)}) rfl (by simp[Instr.makeMap,newObj,Sem.run]) (nR hI _ _ hlo) (.DF _ _) (hs _);exact hs.elim
 case mapUpdate t m k x=>exact mset rfl rfl hs
 case insert t m k x=>exact mset rfl rfl hs
 case lookup t m x ok=>
  simp only[Y1]at hs;cases hv:Rw P s.H t (s.ev E m) (s.ev E x) ok with|none=>rw[hv]at hs;exact hs.elim|some v=>rw[hv]at hs;obtain⟨c,hc,hr⟩:=lz hI (hev m) (hev x) hv;exact eff rfl hc (GF hI) hr hs
 case load t x=>
  simp only[Y1]at hs;cases hv:W0 P s.H t (s.ev E x)with|none=>rw[hv]at hs;exact hs.elim|some v=>rw[hv]at hs;obtain⟨c,hc,hr⟩:=hN hI (hev x) hv;exact eff rfl hc (GF hI) hr hs
 case store t p x=>
  simp only[Y1]at hs;cases hv:Kv P s.H t (s.ev E p) (s.ev E x)with
  |none=>rw[hv]at hs;exact hs.elim|some H'=>
   rw[hv]at hs;obtain⟨Y,hc,hg⟩:=mD (P:=P) hI (hev p) (hev x) hv;unfold bK;have:(execOp a.eval ⟨dst,.store t p x,type,pos,after,guard⟩).run P X.w=.ok .skip Y.w:=by simp only[execOp,aC,hc,aB,aD]
   rw[this,Oper.upon_skip];exact⟨_,H',hs,Y,h.step hg (.tuple #[] [] rfl (λi h1 h2=>by simp at h2)) hd⟩
 case alloc t=>
  simp only[Y1]at hs;split at hs;rename_i z d hz;obtain⟨hsol,hk⟩:=hs;obtain⟨zx,hzx,hzr⟩:=Qc (X:=X) (w:=X.w) hz;obtain⟨c,u,Y,H',h1,h2,h3,h4⟩:=kT (P:=P) hI (E.q+d) t hzr hsol hk;exact eff (sm:=Instr.alloc t ad (.tuple #[])) rfl (by simp[Instr.alloc,hzx,h1]) h2 h3 h4;exact hs.elim
 case box t x=>
  simp only[Y1]at hs;split at hs;rename_i d;obtain⟨hsol,hk⟩:=hs;obtain⟨c,u,Y,H',h1,h2,h3,h4⟩:=kT (P:=P) hI (E.q+d) t (hev x) hsol hk;exact eff (sm:=Instr.box t (a.eval x)) rfl (by simp[Instr.box,h1]) h2 h3 h4;exact hs.elim
 case buildSlice t len CC=>
  simp only[Y1]at hs;split at hs;rename_i d;obtain⟨c,v,H',Y,h1,h2,h3,h4⟩:=B6 (P:=P) hI (E.q+d) (ps:=CC.map fun(i,x)=>(i,a.eval x)) zS (by intro i h1 h2;simp at h1 h2⊢;exact hev _) hs
  exact eff rfl h1 h2 h3 h4;exact hs.elim
 case makeSlice t l c=>
  simp only[Y1]at hs;split at hs;rename_i d;obtain⟨c,v,H',Y,h1,h2,h3,h4⟩:=l4 (P:=P) hI (E.q+d) (hev l) (hev c) hs;exact eff rfl h1 h2 h3 h4;exact hs.elim
 case panic x=>
  simp only[Y1]at hs;split at hs
  .rename_i t v hx;obtain⟨k,hk,hv⟩:=hs;have hr:=hev x;rw[hx]at hr;generalize hq:a.eval x=q at hr;cases hr with
   |iface _ y _ hy=>
    unfold bK;have:(execOp a.eval ⟨dst,.panic x,type,pos,after,guard⟩).run P X.w=.halt (.panic (.iface t y)) X.w:=by simp[execOp,Instr.panic,goPanic,hq,Sem.run,Result.andThen]
    rw[this,Oper.upon_panic];exact hQ _ _ _ ⟨k,_,_,X,s.H,hk,rfl,h.df,rfl,h.go,.iface t y v hy,hv⟩
  exact hs.elim
 case call c=>
  obtain⟨callee,args,ats⟩:=c;cases callee
  case value f=>
   simp only[Y1]at hs;split at hs
   .rename_i fid first cap hf
    obtain⟨hen,hs⟩:=hs;have hfv:=hev f;rw[hf]at hfv;generalize hq:a.eval f=q at hfv;cases hfv with|func _ xs ys _ _ hx hy hxr hyr=>
    have hrun:(execOp a.eval ⟨dst,.call ⟨.value f,args,ats⟩,type,pos,after,guard⟩).run P X.w=.ok (.enter fid (xs++args.map a.eval++ys)) X.w:=by
     unfold Yf at hen;split at hen;rename_i fn hfn;simp only[BP]at hen;obtain⟨hn1,hn2⟩:=hen;have hn1':(fn.name == "runtime.NumGoroutine")=ab:=zu hn1;have hn2':fn.body.isNone=ab:=by cases hb:fn.body<;>simp_all
     simp only[execOp,resolve,hq,Deferred.ofValue,aC,aD,aB,invoke,callFunc,run_program,hfn,hn1',hn2'];simp;simp at hen
    unfold bK;rw[hrun,Oper.upon_enter];refine(hs X _ hI h.gl ⟨by simp[hx,hy],?_⟩).mono ?_;intro i h1 h2;simp at h1 h2;by_cases hi1:i<first.length
    rw[PV zO,PV zo,OV zO,OV hi1];exact hxr _ _ _;by_cases hi2:i<first.length+args.size
    rw[PV zO,SX zo,OV zO,QI zo];simp only[VW,FG,SY,hx];exact hev _;rw[SX zO,QI zO];simp only[bV,bW,BQ,BC,IW,hx];exact hyr _ _ _;rintro e w' ⟨c,v,H',Y,⟨rfl,h3⟩|⟨k,hk,rfl,h3⟩,rfl,h1,h2⟩;exact⟨v,H',h3,Y,h.step h1 h2 hd⟩;exact hQ _ _ _ ⟨k,c,v,Y,H',hk,rfl,h.df.go h.go.BJ h1,rfl,h.on_ h1,h2,h3⟩
   exact hs.elim
  case invoke r m=>exact plain hs
  case builtin b=>
   cases b
   case append=>
    simp only[Y1]at hs;split at hs;rename_i x y d hargs;have:args = #[x,y]:=by cases args;simp at hargs;rw[hargs]
    subst this;obtain⟨c,v,H',Y,h1,h2,h3,h4⟩:=mC (P:=P) hI (E.q+d) (ty:=type) (hev x) (hev y) hs;refine eff (sm:=Builtin.append_ ats type #[a.eval x,a.eval y]) ?_ h1 h2 h3 h4;simp[execOp,resolve,invoke,builtin];exact hs.elim
   all_goals exact plain hs
 all_goals exact plain hs
def Yc(ops:Array Oper)(τ:Nat->V)(o:Oper):Option Bool:=
 match o.guard with
 |none=>ae ad
 |some (j,want)=>match(ops[j]?).bind (·.dst)with
  |some d=>match τ d with|.bool b=>ae (b==want)|.tuple []=>ae ab|_=>ah
  |none=>ae ab
def Uw{X}(h:EF E X s a w){ops o b}(c:Yc ops s.τ o=ae b)(v:∀ o' d,o'∈ops->o'.dst=ae d->d<E.n):Region.wanted o (yielded ops a.tmps)=b:=by
 unfold Yc at c;unfold Region.wanted;rcases u:o.guard with _|p;grind;obtain⟨j,g⟩:=p;rw[u]at c;simp only at c⊢;unfold yielded;rcases k:(ops[j]?).bind _ with _|d;grind;rw[k]at c;simp only at c;have r:d<a.tmps.size:=by
  rw[h.sz];rcases m:ops[j]? with _|o';rw[m]at k;simp at k;rw[m]at k;have i:o'∈ops:=by rw[DB]at m;obtain⟨t,rfl⟩:=m;exact MB _
  exact v o' d i k
 have e:=h.tm d;have l:a.tmps[d]?=ae (a.tmps.getD d undef):=by simp[r]
 simp only[IK,l];split at c;rename_i x f;rw[f]at e;rw[e.bool_inv];simp at c;subst c;cases x<;>cases g<;>rfl;rename_i f;rw[f]at e;generalize a.tmps.getD d _=q at e;cases e;simp at c;subst c;simp;simp at c
def Yx(P:Program)(E:BX)(ops:Array Oper)(Q:AS->Prop):List Oper->AS->Prop
 |[],s=>Q s|o::rest,s=>match Yc ops s.τ o with|some ad=>Y1 P E s o λv a=>Yx P E ops Q rest (AS.put {s with H:=a} o.dst v)|some ab=>Yx P E ops Q rest (s.put o.dst (.tuple []))|none=>False
def Fa{o K}(h:Y1 P E s o K):∀ c,o.op ≠ .defer c:=by intro c e;unfold Y1 at h;unfold E3 at h;simp_all
def W4(n:Nat)(o:Oper):Bool:=match o.dst with|some d=>decide (d<n)|none=>ad
def Jd{ops Q R}(z:∀ ch a w,Pan E ch a w->R (.panic ch) a w)(y:∀ s a w,Ng E s a w->Q s->R .normal a w)(r:(ops.all (W4 E.n))=ad):∀ l k s a w,Ng E s a w->(∀ j,l[j]?=ops[k+j]?)->Yx P E ops Q l s ->
  wpOpsIn E.rk.F 0 P ops R ((List.range l.length).map (k + ·)) a w
 |[],k,s,a,w,hs,_,h=>by exact y s a w hs h
 |o::rest,k,s,a,w,⟨X,hX⟩,hl,h=>by
  have x:ops[k]?=ae o:=by have:=hl 0;simpa using this.symm
  have m:∀ j,rest[j]?=ops[k+1+j]? := λj=>by have:=hl (j+1);rw[show k+1+j=k+(j+1) by omega];simpa using this
  have e:∀ (q) d,q∈ops->q.dst=ae d->d<E.n:=by intro q d A c;rw[KF]at r;have:=r q A;unfold W4 at this;rw[c]at this;simpa using this
  have p:o∈ops:=by rw[DB]at x;obtain⟨B,rfl⟩:=x;exact MB _
  have f:(List.range (o::rest).length).map (k + ·)=k::(List.range rest.length).map (k+1 + ·):=by simp only[CW,OY,BI,GN,EL];congr 1;apply FQ;simp;omega
  rw[f];simp only[wpOpsIn,x];simp only[Yx]at h;rcases g:Yc _ _ o with _|b;rw[g]at h;exact h.elim;have C:=Uw hX g e;rw[g]at h;rw[C];cases b;refine⟨λ_ _=>trivial,?_⟩;refine Jd z y r _ _ _ _ _ ⟨X,?_⟩ m h;have:=hX.step (GF hX.go.BJ) (.tuple #[] [] rfl (λi D h2=>by simp at h2)) (λd c=>e o d p c);rw[hX.hw]at this;exact this;refine Ol _ (Fa h) (Oper.wp_mono ?_ (Ia hX (λd c=>e o d p c) h z));rintro G w' ⟨v,H,u,t⟩;exact Jd z y r _ _ _ _ _ t m u
def AW(P:Program)(E:BX)(c:Code)(Q:Exit->AS->Prop)(s:AS):Prop:=
 ∀ a w,Ng E s a w->c.wpIn E.rk.F 0 P (Post E Q) a w
def AW.mono{c Q Q' s}(h:AW P E c Q s)(f:∀ e s,Q e s->Q' e s):AW P E c Q' s:=
 λa w d=>wpIn_mono (h a w d) λe i w' h=>h.imp (λb g h2=>⟨b,g,f _ _ h2⟩) λ_ h=>h
def Weak(E:BX)(s s':AS):Prop:=∀ a w,Ng E s a w->Ng E s' a w
def AW.weak{c Q s s'}(b:Weak E s s')(h:AW P E c Q s'):AW P E c Q s:=λa w d=>h a w (b a w d)
abbrev BM:=@AW.weak
def AW.skip{Q s}(h:Q .normal s):AW P E .skip Q s:=λ_ _ a=>wpIn_skip (.inl ⟨s,a,h⟩)
abbrev EP:=@AW.skip
def AW.exit{id Q s}(h:Q (.exit id) s):AW P E (.exit id) Q s:=λ_ _ a=>wpIn_exit (.inl ⟨s,a,h⟩)
abbrev FO:=@AW.exit
def AW.ret{Q s}(h:Q .ret s):AW P E .ret Q s:=λ_ _ a=>wpIn_ret (.inl ⟨s,a,h⟩)
abbrev FU:=@AW.ret
def O0(next:AS->Prop)(Q:Exit->AS->Prop):Exit->AS->Prop
 |.normal,s=>next s|e,s=>Q e s
def AW.seq{x y Q s}(h:AW P E x (O0 (AW P E y Q) Q) s):AW P E (.seq x y) Q s:=by
 intro a w d;refine wpIn_seq (wpIn_mono (h a w d) ?_);rintro e i w' (⟨c,b,h2⟩|⟨g,rfl,f⟩);cases e<;>first|exact h2 i w' b|exact .inl ⟨c,b,h2⟩
 exact .inr ⟨g,rfl,f⟩
def Zk{x y Q s}(h:∀ K,(∀ s,AW P E y Q s->K s)->AW P E x (O0 K Q) s):AW P E (.seq x y) Q s:=
 AW.seq (h _ λ_ h=>h)
def AW.cond{c x y Q s}{b:Bool}(f:s.ev E c=.bool b)(h:if b then AW P E x Q s else AW P E y Q s):AW P E (.cond c x y) Q s:=by intro a w e;obtain⟨X,d⟩:=e;have:=d.ev c;rw[f]at this;refine wpIn_cond this.bool_inv ?_;cases b;exact h a w ⟨X,d⟩;exact h a w ⟨X,d⟩
def RA(id:Nat)(Q:Exit->AS->Prop):Exit->AS->Prop
 |.exit id',s=>if id'=id then Q .normal s else Q (.exit id') s|e,s=>Q e s
def AW.block{id c Q s}(h:AW P E c (RA id Q) s):AW P E (.block id c) Q s:=by
 intro a w f;refine wpIn_block (wpIn_mono (h a w f) ?_);rintro e j w' (⟨b,d,h2⟩|⟨i,rfl,g⟩)
 .cases e with|exit id'=>simp only[RA]at h2;simp only[Exit.inBlock];split;rename_i e;rw[AF e]at h2;exact .inl ⟨b,d,h2⟩;rename_i e;rw[AA e]at h2;exact .inl ⟨b,d,h2⟩|_=>exact .inl ⟨b,d,h2⟩
 exact .inr ⟨i,rfl,g⟩
abbrev BK:=@AW.block
def AW.loop{c Q}(I:Nat->AS->Prop){n s}(H:I n s)(round:∀ n s,I n s->AW P E c (O0 (λs'=>∃ m,m<n/\I m s') Q) s):AW P E (.loop c) Q s:=by
 intro a w r b k z t x u;have q:∀ n s a w,Ng E s a w->I n s ->
   ∃ e p w',Post E Q e p w'/\ArrivesIn (Machine.fenced P E.rk.F) P (lone (b.atR a (.code c::.inLoop c::k)) z w) b k z e p w':=by
  intro n
  induction n using Nat.strongRecOn with
  |_ n ih=>
   intro s a w r G;obtain⟨e,o,i,g,d⟩:=round n s G a w r b _ z t x u;rcases g with ⟨s',j,f⟩|⟨A,rfl,C⟩
   .rcases e with _|id|l|_|A|_;obtain⟨m,D,y⟩:=f;obtain⟨J,K,B,v,h⟩:=ih m D s' _ _ j y;exact⟨J,K,B,v,.of_steps (StepsIn.trans d (.one (fenced_calm x u rfl) stepR_inLoop)) h⟩;exact⟨_,o,i,.inl ⟨s',j,f⟩,.pass rfl (λ_ _=>.inl zS) d⟩;exact⟨_,o,i,.inl ⟨s',j,f⟩,.pass rfl (λ_ _=>.inl zS) d⟩;exact⟨_,o,i,.inl ⟨s',j,f⟩,.pass rfl (λ_ _=>.inl zS) d⟩;exact⟨_,o,i,.inl ⟨s',j,f⟩,.pass rfl (λ_ _=>.inl zS) d⟩;exact⟨_,o,i,.inl ⟨s',j,f⟩,.pass rfl (λ_ _=>.inl zS) d⟩
   exact⟨_,o,i,.inr ⟨A,rfl,C⟩,.pass rfl (λ_ _=>.inl zS) d⟩
 obtain⟨e,p,w',f,d⟩:=q n s a w r H;exact⟨e,p,w',f,.of_steps (.one (fenced_calm x u rfl) stepR_loop) d⟩
def AW.region{id ops Q s}(c:(ops.all (W4 E.n))=ad)(h:Yx P E ops (Q .normal) ops.toList s):AW P E (.region id ops ab) Q s:=by intro a w b;refine wpIn_region ?_;have:=Jd (R:=Post E Q) (λe a w h=>.inr ⟨e,rfl,h⟩) (λs a w d h2=>.inl ⟨s,d,h2⟩) c _ 0 s a w b (λj=>zS) h;simp_all
abbrev CA:=@AW.region
