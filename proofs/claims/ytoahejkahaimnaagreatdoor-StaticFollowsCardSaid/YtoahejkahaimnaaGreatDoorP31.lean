/- A part. No condition. -/
import Derived.Test.YtoahejkahaimnaaGreatDoorP29
import Derived.Test.YtoahejkahaimnaaGreatDoorP27
import Derived.Test.YtoahejkahaimnaaGreatDoorP30
set_option linter.all false
namespace Go.Hs
section
variable{P:Program}{E:Ent}
structure StK(w:World)(B C n:Nat)(L:List (Nat×Sh))(a:Act):Prop where
 hBC:B<=C
 hC:C<=w.heap.size
 df:a.defers=[]
 sz:a.tmps.size=n
 kd:∀ p∈L,Kd w B C p.2 (a.tmps.getD p.1 undef)
def EK(w:World)(B C n q:Nat):Ent:=⟨Xk w B C,Zi,n,q,λ_=>.top,none,[],.plain⟩
def ShL:List (Nat×Sh)->List (Nat×V)->Prop
 |[],l=>l=[]
 |p::r,l=>∃ v m,l=(p.1,v)::m/\ShV .old .new p.2 v/\ShL r m
def D7:List (Nat×Sh)->(Nat->V)->Prop
 |[],_=>True
 |p::r,τ => ShV .old .new p.2 (τ p.1)/\D7 r τ
theorem Al{τ : Nat->V}:∀ {L:List (Nat×Sh)},D7 L τ -> ∀ p∈L,ShV .old .new p.2 (τ p.1)
 |[],_,p,hp=>by grind
 |q::r,h,p,hp=>by
  cases hp with
  |head=>exact h.1
  |tail _ hp=>exact Al h.2 p hp
theorem Z1l{w:World}{B C:Nat}(b:B<=C){a:Act}:∀ {L:List (Nat×Sh)},(∀ p∈L,Kd w B C p.2 (a.tmps.getD p.1 undef))->∃ l,ShL L l/\∀ t,Rel (Xk w B C) (a.tmps.getD t undef) (Z6 emp l t)
 |[],_=>⟨[],rfl,λt=>.top _⟩
 |p::r,h=>by
  obtain⟨m,d,g⟩:=Z1l b (L:=r) λq e=>h q (by grind);obtain⟨v,f,c⟩:=Q6 (Xk.all b) (h p zS);refine⟨(p.1,v)::m,⟨v,m,rfl,c,d⟩,λt=>?_⟩;simp only[Z6,Z3]
  grind
theorem StK.sat{w:World}{B C n:Nat}{L:List (Nat×Sh)}{a:Act}(h:StK w B C n L a)(q:Nat):∃ l,ShL L l/\Qx (EK w B C n q) (st l []) a w:=by
 obtain⟨l,c,b⟩:=Z1l h.hBC h.kd;exact⟨l,c,Xk w B C,rfl,(Goes.refl (Xk.inv h.hC)).gn (Ent.N_le _),(by rw[h.df];exact .none _ _ _),h.sz,b,λg=>⟨.top _,trivial⟩⟩
theorem Lx{w w':World}{B C n q:Nat}{L:List (Nat×Sh)}{s:AS}{r:Act}(m:B<=C)(o:C<=w.heap.size)(h:Qx (EK w B C n q) s r w')(v:D7 L s.τ):StK w' B C n L r/\KP B C w w':=by
 obtain⟨X,g⟩:=h;have l:=g.gz;have f:KP B C w X.w:=Cf l;have c:X.base=C:=l.le.base;have a:=B3 o l;have t:=g.hw;subst t;refine⟨⟨m,Nat.le_trans o f.size,DefR.nil (k:=.plain) g.df,g.sz,λp u=>?_⟩,f⟩;refine Pf (X:=X) (cs:=.old) (ch:=.new) (λb i x j e d=>?_) (.inl λb i x j e d=>?_) (g.tm p.1) (Al v p u);rw[c]at e;exact⟨⟨(a b i x j d).1 e,e⟩,(a b i x j d).2⟩;rw[c]at e;exact⟨e,(a b i x j d).2⟩
def AK(P:Program)(w0:World)(B C n:Nat)(L:List (Nat×Sh))(c:Code)(Q:Exit->Act->World->Prop):Prop:=∀ a w,StK w B C n L a->KP B C w0 w->c.wp P Q a w
def AC(P:Program)(w0 w:World)(B C n q:Nat)(c:Code)(Q:Exit->Act->World->Prop)(s:AS):Prop:=B<=C->C<=w.heap.size->KP B C w0 w->∀ a w',Qx (EK w B C n q) s a w'->c.wp P Q a w'
def leave(w0 w:World)(B C n q:Nat)(Q:Exit->Act->World->Prop)(e:Exit)(s:AS):Prop:=B<=C->C<=w.heap.size->KP B C w0 w->∀ a w',Qx (EK w B C n q) s a w'->Q e a w'
section
variable{w0:World}{B C n:Nat}{L:List (Nat×Sh)}{Q:Exit->Act->World->Prop}
def preQ(P:Program)(w0 w:World)(B C n q:Nat)(y:Code)(Q:Exit->Act->World->Prop):Exit->AS->Prop
 |.normal,s=>AC P w0 w B C n q y Q s
 |e,s=>leave w0 w B C n q Q e s
theorem AK.pre(q:Nat){x y:Code}(h:∀ w l,ShL L l->AW P (EK w B C n q) x (preQ P w0 w B C n q y Q) (st l [])):AK P w0 B C n L (.seq x y) Q:=by
 intro a w b d;obtain⟨l,j,i⟩:=b.sat q;refine wp_seq (wp_mono ((RK.wp (k:=.plain) rfl).1 (h w l j a w i)) ?_);rintro e m w' (⟨o,g,f⟩|⟨p,rfl,c⟩)
 cases e<;>exact f b.hBC b.hC d m w' g
 exact(c.no rfl).elim
theorem AK.all(q:Nat){x:Code}(h:∀ w l,ShL L l->AW P (EK w B C n q) x (λe s=>leave w0 w B C n q Q e s) (st l [])):AK P w0 B C n L x Q:=by
 intro a w b d;obtain⟨l,j,i⟩:=b.sat q;refine wp_mono ((RK.wp (k:=.plain) rfl).1 (h w l j a w i)) ?_;rintro e m w' (⟨o,g,f⟩|⟨p,rfl,c⟩);exact f b.hBC b.hC d m w' g;exact(c.no rfl).elim
theorem leave.k{w:World}{q:Nat}{e:Exit}{s:AS}(c:List (Nat×Sh))(g:D7 c s.τ)(h:∀ a w,StK w B C n c a->KP B C w0 w->Q e a w):leave w0 w B C n q Q e s:=by
 intro b i d a w' f;obtain⟨l,j⟩:=Lx b i f g;exact h a w' l (d.trans j)
theorem leave.weak{w:World}{q:Nat}{e:Exit}{s s':AS}(c:Weak (EK w B C n q) s s')(h:leave w0 w B C n q Q e s'):leave w0 w B C n q Q e s:=
 λb g d a w' f=>h b g d a w' (c _ _ f)
theorem AC.k{w:World}{q:Nat}{c:Code}{s:AS}(d:List (Nat×Sh))(g:D7 d s.τ)(h:AK P w0 B C n d c Q):AC P w0 w B C n q c Q s:=by
 intro b i e a w' f;obtain⟨l,j⟩:=Lx b i f g;exact h a w' l (e.trans j)
theorem AC.weak{w:World}{q:Nat}{c:Code}{s s':AS}(d:Weak (EK w B C n q) s s')(h:AC P w0 w B C n q c Q s'):AC P w0 w B C n q c Q s:=
 λb g e a w' f=>h b g e a w' (d _ _ f)
theorem AC.block{w:World}{q id:Nat}{c:Code}{s:AS}(h:AC P w0 w B C n q c (Exit.inBlock id Q) s):AC P w0 w B C n q (.block id c) Q s:=λa b f d w' e=>wp_block (h a b f d w' e)
theorem AK.block{id:Nat}{c:Code}(h:AK P w0 B C n L c (Exit.inBlock id Q)):AK P w0 B C n L (.block id c) Q:=λa w d b=>wp_block (h a w d b)
def likeV:V->V->Prop
 |.int k _,.int k' _=>k=k'
 |.str _,.str _=>True
 |.nils,.nils=>True
 |.slice _ _ _ _,.nils=>True
 |_,_=>False
def Zjt:List V->List V->Prop
 |[],[]=>True
 |u::r,v::t=>likeV u v/\Zjt r t
 |_,_=>False
theorem B0:∀ {l m:List V},Zjt l m->l.length=m.length/\∀ i (h1:i<l.length) (h2:i<m.length),likeV l[i] m[i]
 |[],[],_=>⟨rfl,λi h1=>by grind⟩
 |[],_::_,h=>h.elim
 |_::_,[],h=>h.elim
 |a::l,b::m,h=>by
  obtain⟨h1,h2⟩:=B0 h.2;refine⟨by grind,λi k1 k2=>?_⟩
  cases i with
  |zero=>exact h.1
  |succ i=>grind
theorem likeV.alike{X Y:Cx}{x y:Value}{u v:V}(h:likeV u v)(b:Rel X x u)(a:Rel Y y v):Alike x y:=by
 cases b<;>cases a<;>simp only[likeV]at h<;>first|exact h.elim|(subst h;exact .int _ _ _)|exact .str _ _|exact .nil _ _ _
theorem Ztm{X:Cx}{B C:Nat}(l:∀ b i x,X.S b i->b<X.base->X.cell b i=some x->(B<=b/\b<C)/\Blk X.w b){t:TypeId}{x y:Value}{u v:V}(A:Rel X x (.view .old u))(z:Rel X y v)(D:v.solid=true)(k:Yp P t=some v.cells.length)(E:Zjt u.cells v.cells)(r:0<v.cells.length):
  ∃ w2,(Instr.storeAt t x y).run P X.w=.ok () w2/\KP B C X.w w2:=by
 obtain⟨s,h⟩:=B0 E
 cases A with
 |view _ _ b off f hc hr=>
  obtain⟨K,J,I,L⟩:=hc 0 zo;obtain⟨⟨H,G⟩,q,t1,p⟩:=l _ _ _ K J I
  have a:∀ i,i<u.cells.length->q[off+i]?=some (f i):=λi o=>by
   have:=(hc i o).2.2.1;unfold Cx.cell at this;rwa [Qo p]at this
  have d:=z.toC D;have m:=d.len
  have j:off+y.cells.toList.length<=q.size:=by
   have:=a (u.cells.length-1) zo
   grind
  have g:=run_storeCells_at (P:=P) b off t1 y.cells.toList 0 q X.w p zo d.one;refine⟨_,?_,Zp3 p H G j λi o=>?_⟩;have n:y.cells.size=v.cells.length:=zu m;simp[Instr.storeAt,Instr.sureAddr,storeVar,Yn k,n,g];have c:i<u.cells.length:=zo;have e:=a i c;obtain⟨F,e⟩:=Array.getElem?_eq_some_iff.1 e;rw[e];exact(h i c zo).alike (hr i c) (d.rel i o zo)
def Zms(P:Program)(t:TypeId)(p v:V):Prop:=∃ u,p=.view .old u/\v.solid=true/\Yp P t=some v.cells.length/\Zjt u.cells v.cells/\0<v.cells.length
theorem AC.store{w:World}{q:Nat}{s:AS}(F:List (Nat×Sh))(D:∀ p∈F,p.2.freeT){id:Nat}{ops:Array Oper}{t ty:TypeId}{p x:Operand}{pos:String}{after:Array Edge}(hd:(ops.all (Xz n))=true)(o:Nat.ble 1 ops.size=true)
  (M:ops[ops.size-1]?=some ⟨none,.store t p x,ty,pos,after,none⟩)
  (h:Yi P (EK w B C n q) ops (λs=>Zms P t (s.ev (EK w B C n q) p) (s.ev (EK w B C n q) x)/\D7 F s.τ) ops.toList.dropLast s)
  (O:∀ a w,StK w B C n F a->KP B C w0 w->Q .normal a w):AC P w0 w B C n q (.region id ops false) Q s:=by
 intro j H N a T L;refine(RK.wp (k:=.plain) rfl).1 (wpIn_region (Zmn (E:=EK w B C n q) (λY a w h=>(h.no rfl).elim) hd o M rfl (λ_ h=>nomatch h) L h ?_));rintro U S w' G ⟨⟨u,l,r,J,z,f⟩,v⟩;obtain⟨m,R⟩:=Lx j H G v;obtain⟨X,g⟩:=G;have K:=g.hw;subst K;have A:X.base=C:=g.go.le.base;have e:=g.ev p;rw[l]at e;have y:=B3 H g.gz
 obtain⟨I,d,c⟩:=Ztm (P:=P) (B:=B) (C:=C) (λb i x h W V=>by
  grind) e (g.ev x) r J z f
 unfold Oper.wp
 have:(execOp S.eval ⟨none,.store t p x,ty,pos,after,none⟩).run P X.w=.ok .skip I:=by
  simp only[execOp,Sem.run_bind,d,Result.andThen_ok,Sem.run_pure]
 rw[this];exact O _ _ ⟨j,Nat.le_trans m.hC c.size,m.df,m.sz,λp l=>G7 c (D p l) (m.kd p l)⟩ (N.trans (R.trans c))
theorem AK.store(q:Nat)(b:List (Nat×Sh))(e:∀ p∈b,p.2.freeT){id:Nat}{ops:Array Oper}{t ty:TypeId}{p x:Operand}{pos:String}{after:Array Edge}(hd:(ops.all (Xz n))=true)(c:Nat.ble 1 ops.size=true)
  (f:ops[ops.size-1]?=some ⟨none,.store t p x,ty,pos,after,none⟩)
  (h:∀ w l,ShL L l->Yi P (EK w B C n q) ops (λs=>Zms P t (s.ev (EK w B C n q) p) (s.ev (EK w B C n q) x)/\D7 b s.τ) ops.toList.dropLast (st l []))
  (i:∀ a w,StK w B C n b a->KP B C w0 w->Q .normal a w):AK P w0 B C n L (.region id ops false) Q:=by
 intro a w d g;obtain⟨l,k,j⟩:=d.sat q;exact AC.store b e hd c f (h w l k) i d.hBC d.hC g a w j
end
theorem Zaz{c:Code}{Q:Exit->Act->World->Prop}(I:Nat->Act->World->Prop){n:Nat}{a:Act}{w:World}(v:I n a w)
  (round:∀ n a w,I n a w->c.wp P (λe a' w'=>(e=.normal/\∃ m,m<n/\I m a' w')\/(e ≠ .normal/\Q e a' w')) a w):(Code.loop c).wp P Q a w:=by
 intro b k r
 have o:∀ n a w,I n a w->∃ e a' w',Q e a' w'/\Arrives P (lone (b.at a (.code c::.inLoop c::k)) r w) b k r e a' w':=by
  intro n
  induction n using Nat.strongRecOn with
  |_ n ih=>
   intro a w u;obtain⟨e,j,i,f,d⟩:=round n a w u b (.inLoop c::k) r
   cases e with
   |normal=>
    rcases f with ⟨_,m,t,q⟩|⟨h,_⟩
    obtain⟨y,z,s,p,g⟩:=ih m t j i q;exact⟨y,z,s,p,.of_steps (Steps.trans d (.one step_inLoop)) g⟩
    grind
   |exit id=>exact⟨_,j,i,(f.resolve_left (by grind)).2,.pass (x:=.inLoop c) rfl (λ_ _=>.inl zS) d⟩
   |goto l=>exact⟨_,j,i,(f.resolve_left (by grind)).2,.pass (x:=.inLoop c) rfl (λ_ _=>.inl zS) d⟩
   |ret=>exact⟨_,j,i,(f.resolve_left (by grind)).2,.pass (x:=.inLoop c) rfl (λ_ _=>.inl zS) d⟩
   |panic ch=>exact⟨_,j,i,(f.resolve_left (by grind)).2,.pass (x:=.inLoop c) rfl (λ_ _=>.inl zS) d⟩
   |outgrown=>exact⟨_,j,i,(f.resolve_left (by grind)).2,.pass (x:=.inLoop c) rfl (λ_ _=>.inl zS) d⟩
 obtain⟨e,a',w',f,d⟩:=o n a w v;exact⟨e,a',w',f,.of_steps (.one step_loop) d⟩
theorem AK.for{w0:World}{B C n:Nat}{Q:Exit->Act->World->Prop}(N:Nat)(S:Nat->List (Nat×Sh)){c:Code}(b:Nat)(g:b<=N)
  (round:∀ k,k<=N->AK P w0 B C n (S k) c (λe a w=>match e with|.normal=>k<N/\StK w B C n (S (k+1)) a/\KP B C w0 w|e=>Q e a w)):AK P w0 B C n (S b) (.loop c) Q:=by
 intro a w f d;refine Zaz (λm a w=>∃ k,k<=N/\m=N-k/\StK w B C n (S k) a/\KP B C w0 w) ⟨b,g,rfl,f,d⟩ ?_;rintro m a w ⟨k,l,rfl,j,i⟩;refine wp_mono (round k l a w j i) ?_;rintro e o w' h
 cases e with
 |normal=>exact .inl ⟨rfl,N-(k+1),zo,k+1,zo,rfl,h.2.1,h.2.2⟩
 |_=>grind
def Spoils(P:Program)(f:FuncId)(shs:List Sh):Prop:=∀ (w:World) (B:Nat) (args:Array Value),B<=w.heap.size->args.size=shs.length->(∀ i (h1:i<args.size) (h2:i<shs.length),Kd w B w.heap.size shs[i] args[i]) ->
 Calls P f args w (λe w'=>e=.returned (.tuple #[])/\KP B w.heap.size w w')
def Zd1:Nat->List Sh->List (Nat×Sh)
 |_,[]=>[]
 |k,s::r=>(k,s)::Zd1 (k+1) r
theorem Zkg:∀ {l:List Sh} {k:Nat} {p:Nat×Sh},p∈Zd1 k l->∃ i,∃ h:i<l.length,p=(k+i,l[i])
 |[],k,p,h=>by simp[Zd1]at h
 |s::r,k,p,h=>by
  simp only[Zd1,List.mem_cons]at h
  rcases h with rfl|h
  simp;obtain⟨i,a,rfl⟩:=Zkg h;exact⟨i+1,by grind,by grind⟩
def doneK(w0:World)(B C:Nat):Exit->Act->World->Prop
 |.normal,a,w|.ret,a,w=>a.defers=[]/\KP B C w0 w
 |_,_,_=>False
theorem Zm3{f:FuncId}{g:Func}{c:Code}{j:List Sh}{n:Nat}(t:P.funcs[f]?=some g)(u:g.body=some c)(x:g.ntmps=n)(q:g.results.toList=[])(k:Nat.ble j.length n=true)
  (h:∀ w0 B C,AK P w0 B C n (Zd1 0 j) c (doneK w0 B C)):Spoils P f j:=by
 intro w B b v m y;have k:=Nat.le_of_ble_eq_true k;refine calls_of_wp t u (wp_mono (h w B w.heap.size { tmps:=b++Array.replicate (g.ntmps-b.size) undef,defers:=[] } w ⟨v,Nat.le_refl _,rfl,by grind,λp r=>?_⟩ (KP.refl B _ w)) ?_);obtain⟨i,s,rfl⟩:=Zkg r
 have z:(b++Array.replicate (g.ntmps-b.size) undef).getD (0+i) undef=b[i]'zo:=by
  simp[Array.getD,m,s];omega
 grind
 .have hres:∀ a:Act,∀ w':World,(results g a.tmps).run P w'=.ok (.tuple #[]) w':=by
   have:g.results = #[]:=by
    have:=congrArg List.toArray q;simpa using this
   simp[results,this]
  rintro e o w' d
  cases e with
  |normal=>exact⟨d.1,_,hres o w',rfl,d.2⟩
  |ret=>exact⟨d.1,_,hres o w',rfl,d.2⟩
  |exit id=>exact d.elim
  |goto l=>exact d.elim
  |panic ch=>exact d.elim
  |outgrown=>exact d.elim
theorem Rel.ofW_old{W:World}{x:Value}{v:V}(h:Rel (Wl W) x v):Rel (Wl W) x (v.recol λ_=>.old):=
 h.conv (X:=Wl W) (Y:=Wl W) (λ_=>.old) (λ_ _ h=>h) (λ_ _ _ _ h=>h) ⟨λ_ c _ h=>⟨c,h,rfl⟩,λ_ _ _ _ h=>h⟩ (λ_ b a _=>a) (.inl λ_ _ _ h=>h)
end
end Go.Hs
