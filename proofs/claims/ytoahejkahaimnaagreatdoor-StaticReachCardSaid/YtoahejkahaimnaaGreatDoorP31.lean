/- A part. No condition. -/
import Derived.Test.YtoahejkahaimnaaGreatDoorP29
import Derived.Test.YtoahejkahaimnaaGreatDoorP27
import Derived.Test.YtoahejkahaimnaaGreatDoorP30
set_option linter.all false
namespace Go.Hs
section
variable{P:Program}{E:Ent}
structure StK(w:World)(B C n:Nat)(L:List (Nat×Sh))(a:Act):Prop where
 hBC:B<=C
 hC:C<=w.heap.size
 df:a.defers=[]
 sz:a.tmps.size=n
 kd:∀ p∈L,Kd w B C p.2 (a.tmps.getD p.1 undef)
def EK(w:World)(B C n q:Nat):Ent:=⟨Xk w B C,Zk,n,q,λ_=>.top,none,[],.plain⟩
def ShL:List (Nat×Sh)->List (Nat×V)->Prop
 |[],l=>l=[]
 |p::r,l=>∃ v m,l=(p.1,v)::m/\ShV .old .new p.2 v/\ShL r m
def Zb1:List (Nat×Sh)->(Nat->V)->Prop
 |[],_=>True
 |p::r,τ => ShV .old .new p.2 (τ p.1)/\Zb1 r τ
theorem Z4v{τ : Nat->V}:∀ {L:List (Nat×Sh)},Zb1 L τ -> ∀ p∈L,ShV .old .new p.2 (τ p.1)
 |[],_,p,hp=>by cases hp
 |q::r,h,p,hp=>by
  cases hp with
  |head=>exact h.1
  |tail _ hp=>exact Z4v h.2 p hp
theorem Zg7{w:World}{B C:Nat}(hBC:B<=C){a:Act}:∀ {L:List (Nat×Sh)},(∀ p∈L,Kd w B C p.2 (a.tmps.getD p.1 undef))->∃ l,ShL L l/\∀ t,Rel (Xk w B C) (a.tmps.getD t undef) (Zfa emp l t)
 |[],_=>⟨[],rfl,λt=>.top _⟩
 |p::r,h=>by
  obtain⟨m,h1,h2⟩:=Zg7 hBC (L:=r) λq hq=>h q (by simp[hq]);obtain⟨v,h3,h4⟩:=Z2g (Xk.all hBC) (h p zS);refine⟨(p.1,v)::m,⟨v,m,rfl,h4,h1⟩,λt=>?_⟩;simp only[Zfa,upd]
  split
  rename_i e;subst e;exact h3;exact h2 t
theorem StK.sat{w:World}{B C n:Nat}{L:List (Nat×Sh)}{a:Act}(h:StK w B C n L a)(q:Nat):∃ l,ShL L l/\Sat (EK w B C n q) (st l []) a w:=by
 obtain⟨l,h1,h2⟩:=Zg7 h.hBC h.kd;exact⟨l,h1,Xk w B C,rfl,(Goes.refl (Xk.inv h.hC)).gn (Ent.N_le _),(by rw[h.df];exact .none _ _ _),h.sz,h2,λg=>⟨.top _,trivial⟩⟩
theorem Zkl{w w':World}{B C n q:Nat}{L:List (Nat×Sh)}{s:AS}{a':Act}(hBC:B<=C)(hC:C<=w.heap.size)(h:Sat (EK w B C n q) s a' w')(hL:Zb1 L s.τ):StK w' B C n L a'/\KP B C w w':=by
 obtain⟨X,hX⟩:=h;have hg:=hX.gz;have hkp:KP B C w X.w:=Zsr hg;have hbase:X.base=C:=hg.le.base;have hsafe:=Zhv hC hg;have hw:=hX.hw;subst hw;refine⟨⟨hBC,Nat.le_trans hC hkp.size,DefR.nil (k:=.plain) hX.df,hX.sz,λp hp=>?_⟩,hkp⟩;refine Zgh (X:=X) (cs:=.old) (ch:=.new) (λb i x hs hc hcc=>?_) (.inl λb i x hs hc hcc=>?_) (hX.tm p.1) (Z4v hL p hp);have hc:b<X.base:=hc;rw[hbase]at hc;exact⟨⟨(hsafe b i x hs hcc).1 hc,hc⟩,(hsafe b i x hs hcc).2⟩;have hc:X.base<=b:=hc;rw[hbase]at hc;exact⟨hc,(hsafe b i x hs hcc).2⟩
def AK(P:Program)(w0:World)(B C n:Nat)(L:List (Nat×Sh))(c:Code)(Q:Exit->Act->World->Prop):Prop:=∀ a w,StK w B C n L a->KP B C w0 w->c.wp P Q a w
def AC(P:Program)(w0 w:World)(B C n q:Nat)(c:Code)(Q:Exit->Act->World->Prop)(s:AS):Prop:=B<=C->C<=w.heap.size->KP B C w0 w->∀ a w',Sat (EK w B C n q) s a w'->c.wp P Q a w'
def leave(w0 w:World)(B C n q:Nat)(Q:Exit->Act->World->Prop)(e:Exit)(s:AS):Prop:=B<=C->C<=w.heap.size->KP B C w0 w->∀ a w',Sat (EK w B C n q) s a w'->Q e a w'
section
variable{w0:World}{B C n:Nat}{L:List (Nat×Sh)}{Q:Exit->Act->World->Prop}
def preQ(P:Program)(w0 w:World)(B C n q:Nat)(y:Code)(Q:Exit->Act->World->Prop):Exit->AS->Prop
 |.normal,s=>AC P w0 w B C n q y Q s
 |e,s=>leave w0 w B C n q Q e s
theorem AK.pre(q:Nat){x y:Code}(h:∀ w l,ShL L l->AW P (EK w B C n q) x (preQ P w0 w B C n q y Q) (st l [])):AK P w0 B C n L (.seq x y) Q:=by
 intro a w hs hk;obtain⟨l,h1,h2⟩:=hs.sat q;refine wp_seq (wp_mono ((RK.wp (k:=.plain) rfl).1 (h w l h1 a w h2)) ?_);rintro e a' w' (⟨s',h3,h4⟩|⟨ch,rfl,hp⟩)
 cases e<;>exact h4 hs.hBC hs.hC hk a' w' h3
 exact(hp.no rfl).elim
theorem AK.all(q:Nat){x:Code}(h:∀ w l,ShL L l->AW P (EK w B C n q) x (λe s=>leave w0 w B C n q Q e s) (st l [])):AK P w0 B C n L x Q:=by
 intro a w hs hk;obtain⟨l,h1,h2⟩:=hs.sat q;refine wp_mono ((RK.wp (k:=.plain) rfl).1 (h w l h1 a w h2)) ?_;rintro e a' w' (⟨s',h3,h4⟩|⟨ch,rfl,hp⟩);exact h4 hs.hBC hs.hC hk a' w' h3;exact(hp.no rfl).elim
theorem leave.k{w:World}{q:Nat}{e:Exit}{s:AS}(L':List (Nat×Sh))(hL:Zb1 L' s.τ)(h:∀ a w,StK w B C n L' a->KP B C w0 w->Q e a w):leave w0 w B C n q Q e s:=by
 intro hBC hC hk a w' hS;obtain⟨h1,h2⟩:=Zkl hBC hC hS hL;exact h a w' h1 (hk.trans h2)
theorem leave.weak{w:World}{q:Nat}{e:Exit}{s s':AS}(hw:Weak (EK w B C n q) s s')(h:leave w0 w B C n q Q e s'):leave w0 w B C n q Q e s:=
 λhBC hC hk a w' hS=>h hBC hC hk a w' (hw _ _ hS)
theorem AC.k{w:World}{q:Nat}{c:Code}{s:AS}(L':List (Nat×Sh))(hL:Zb1 L' s.τ)(h:AK P w0 B C n L' c Q):AC P w0 w B C n q c Q s:=by
 intro hBC hC hk a w' hS;obtain⟨h1,h2⟩:=Zkl hBC hC hS hL;exact h a w' h1 (hk.trans h2)
theorem AC.weak{w:World}{q:Nat}{c:Code}{s s':AS}(hw:Weak (EK w B C n q) s s')(h:AC P w0 w B C n q c Q s'):AC P w0 w B C n q c Q s:=
 λhBC hC hk a w' hS=>h hBC hC hk a w' (hw _ _ hS)
theorem AC.block{w:World}{q id:Nat}{c:Code}{s:AS}(h:AC P w0 w B C n q c (Exit.inBlock id Q) s):AC P w0 w B C n q (.block id c) Q s:=λa b c' d w' hS=>wp_block (h a b c' d w' hS)
theorem AK.block{id:Nat}{c:Code}(h:AK P w0 B C n L c (Exit.inBlock id Q)):AK P w0 B C n L (.block id c) Q:=λa w h1 h2=>wp_block (h a w h1 h2)
def likeV:V->V->Prop
 |.int k _,.int k' _=>k=k'
 |.str _,.str _=>True
 |.nils,.nils=>True
 |.slice _ _ _ _,.nils=>True
 |_,_=>False
def Zhma:List V->List V->Prop
 |[],[]=>True
 |u::r,v::t=>likeV u v/\Zhma r t
 |_,_=>False
theorem Z7u:∀ {l m:List V},Zhma l m->l.length=m.length/\∀ i (h1:i<l.length) (h2:i<m.length),likeV l[i] m[i]
 |[],[],_=>⟨rfl,λi h1=>by simp at h1⟩
 |[],_::_,h=>h.elim
 |_::_,[],h=>h.elim
 |a::l,b::m,h=>by
  obtain⟨h1,h2⟩:=Z7u h.2;refine⟨by simp[h1],λi k1 k2=>?_⟩
  cases i with
  |zero=>exact h.1
  |succ i=>exact h2 i (zu k1) (zu k2)
theorem likeV.alike{X Y:Cx}{x y:Value}{u v:V}(h:likeV u v)(hx:Rel X x u)(hy:Rel Y y v):Alike x y:=by
 cases hx<;>cases hy<;>simp only[likeV]at h<;>first|exact h.elim|(subst h;exact .int _ _ _)|exact .str _ _|exact .nil _ _ _
theorem Zz7{X:Cx}{B C:Nat}(hso:∀ b i x,X.S b i->b<X.base->X.cell b i=some x->(B<=b/\b<C)/\Blk X.w b){t:TypeId}{x y:Value}{u v:V}(hx:Rel X x (.view .old u))(hy:Rel X y v)(hs:v.solid=true)(hsz:Z9a P t=some v.cells.length)(hl:Zhma u.cells v.cells)(hpos:0<v.cells.length):
  ∃ w2,(Instr.storeAt t x y).run P X.w=.ok () w2/\KP B C X.w w2:=by
 obtain⟨hlen,hget⟩:=Z7u hl
 cases hx with
 |view _ _ b off f hc hr=>
  obtain⟨h1,h2,h3,h4⟩:=hc 0 zo;have h2:b<X.base:=h2;obtain⟨⟨hB,hC⟩,c1,t1,hb⟩:=hso _ _ _ h1 h2 h3
  have hcell:∀ i,i<u.cells.length->c1[off+i]?=some (f i):=λi hi=>by
   have:=(hc i hi).2.2.1;unfold Cx.cell at this;rwa [Zqh hb]at this
  have hCC:=hy.toC hs;have hlC:=hCC.len
  have hfit:off+y.cells.toList.length<=c1.size:=by
   have:=hcell (u.cells.length-1) zo;have:=(Array.getElem?_eq_some_iff.1 this).1;omega
  have hrun:=run_storeCells_at (P:=P) b off t1 y.cells.toList 0 c1 X.w hb zo hCC.one;simp only[Nat.add_zero]at hrun;refine⟨_,?_,Z5na hb hB hC hfit λi hi=>?_⟩;have hl2:y.cells.size=v.cells.length:=zu hlC;simp[Instr.storeAt,Instr.sureAddr,storeVar,Zda hsz,hl2,hrun];have hi1:i<u.cells.length:=zo;have e:=hcell i hi1;obtain⟨hi2,e⟩:=Array.getElem?_eq_some_iff.1 e;rw[e];exact(hget i hi1 zo).alike (hr i hi1) (hCC.rel i hi zo)
def Zmda(P:Program)(t:TypeId)(p v:V):Prop:=∃ u,p=.view .old u/\v.solid=true/\Z9a P t=some v.cells.length/\Zhma u.cells v.cells/\0<v.cells.length
theorem AC.store{w:World}{q:Nat}{s:AS}(L':List (Nat×Sh))(hL':∀ p∈L',p.2.freeT){id:Nat}{ops:Array Oper}{t ty:TypeId}{p x:Operand}{pos:String}{after:Array Edge}(hd:(ops.all (Z7b n))=true)(hsz:Nat.ble 1 ops.size=true)
  (ho:ops[ops.size-1]?=some ⟨none,.store t p x,ty,pos,after,none⟩)
  (h:Zsa P (EK w B C n q) ops (λs=>Zmda P t (s.ev (EK w B C n q) p) (s.ev (EK w B C n q) x)/\Zb1 L' s.τ) ops.toList.dropLast s)
  (hQ:∀ a w,StK w B C n L' a->KP B C w0 w->Q .normal a w):AC P w0 w B C n q (.region id ops false) Q s:=by
 intro hBC hC hk a w1 hs;refine(RK.wp (k:=.plain) rfl).1 (wpIn_region (Zp8 (E:=EK w B C n q) (λch a w h=>(h.no rfl).elim) hd hsz ho rfl (λ_ h=>nomatch h) hs h ?_));rintro s' a' w' hS ⟨⟨u,hp,hso,hz,hlk,hpos⟩,hsh⟩;obtain⟨h5,h6⟩:=Zkl hBC hC hS hsh;obtain⟨X,hX⟩:=hS;have hw:=hX.hw;subst hw;have hbase:X.base=C:=hX.go.le.base;have hpv:=hX.ev p;rw[hp]at hpv;have hsafe:=Zhv hC hX.gz
 obtain⟨w2,hrun,hkp⟩:=Zz7 (P:=P) (B:=B) (C:=C) (λb i x h h' hc=>by
  rw[hbase]at h'
  exact⟨⟨(hsafe b i x h hc).1 h',h'⟩,(hsafe b i x h hc).2⟩) hpv (hX.ev x) hso hz hlk hpos
 unfold Oper.wp
 have:(execOp a'.eval ⟨none,.store t p x,ty,pos,after,none⟩).run P X.w=.ok .skip w2:=by
  simp only[execOp,Sem.run_bind,hrun,Result.andThen_ok,Sem.run_pure]
 rw[this,Oper.upon_skip];exact hQ _ _ ⟨hBC,Nat.le_trans h5.hC hkp.size,h5.df,h5.sz,λp hp=>Z2s hkp (hL' p hp) (h5.kd p hp)⟩ (hk.trans (h6.trans hkp))
theorem AK.store(q:Nat)(L':List (Nat×Sh))(hL':∀ p∈L',p.2.freeT){id:Nat}{ops:Array Oper}{t ty:TypeId}{p x:Operand}{pos:String}{after:Array Edge}(hd:(ops.all (Z7b n))=true)(hsz:Nat.ble 1 ops.size=true)
  (ho:ops[ops.size-1]?=some ⟨none,.store t p x,ty,pos,after,none⟩)
  (h:∀ w l,ShL L l->Zsa P (EK w B C n q) ops (λs=>Zmda P t (s.ev (EK w B C n q) p) (s.ev (EK w B C n q) x)/\Zb1 L' s.τ) ops.toList.dropLast (st l []))
  (hQ:∀ a w,StK w B C n L' a->KP B C w0 w->Q .normal a w):AK P w0 B C n L (.region id ops false) Q:=by
 intro a w hs hk;obtain⟨l,h1,h2⟩:=hs.sat q;exact AC.store L' hL' hd hsz ho (h w l h1) hQ hs.hBC hs.hC hk a w h2
end
theorem Z9ja{c:Code}{Q:Exit->Act->World->Prop}(I:Nat->Act->World->Prop){n:Nat}{a:Act}{w:World}(h0:I n a w)
  (round:∀ n a w,I n a w->c.wp P (λe a' w'=>(e=.normal/\∃ m,m<n/\I m a' w')\/(e ≠ .normal/\Q e a' w')) a w):(Code.loop c).wp P Q a w:=by
 intro b k cs
 have key:∀ n a w,I n a w->∃ e a' w',Q e a' w'/\Arrives P (lone (b.at a (.code c::.inLoop c::k)) cs w) b k cs e a' w':=by
  intro n
  induction n using Nat.strongRecOn with
  |_ n ih=>
   intro a w hI;obtain⟨e,a₁,w₁,hq,harr⟩:=round n a w hI b (.inLoop c::k) cs
   cases e with
   |normal=>
    rcases hq with ⟨_,m,hm,hIm⟩|⟨h,_⟩
    obtain⟨e₂,a₂,w₂,hq₂,harr₂⟩:=ih m hm a₁ w₁ hIm;exact⟨e₂,a₂,w₂,hq₂,.of_steps (Steps.trans harr (.one step_inLoop)) harr₂⟩;exact absurd rfl h
   |exit id=>exact⟨_,a₁,w₁,(hq.resolve_left (by rintro⟨h,_⟩;cases h)).2,.pass (x:=.inLoop c) rfl (λ_ _=>.inl zS) harr⟩
   |goto l=>exact⟨_,a₁,w₁,(hq.resolve_left (by rintro⟨h,_⟩;cases h)).2,.pass (x:=.inLoop c) rfl (λ_ _=>.inl zS) harr⟩
   |ret=>exact⟨_,a₁,w₁,(hq.resolve_left (by rintro⟨h,_⟩;cases h)).2,.pass (x:=.inLoop c) rfl (λ_ _=>.inl zS) harr⟩
   |panic ch=>exact⟨_,a₁,w₁,(hq.resolve_left (by rintro⟨h,_⟩;cases h)).2,.pass (x:=.inLoop c) rfl (λ_ _=>.inl zS) harr⟩
   |outgrown=>exact⟨_,a₁,w₁,(hq.resolve_left (by rintro⟨h,_⟩;cases h)).2,.pass (x:=.inLoop c) rfl (λ_ _=>.inl zS) harr⟩
 obtain⟨e,a',w',hq,harr⟩:=key n a w h0;exact⟨e,a',w',hq,.of_steps (.one step_loop) harr⟩
theorem AK.for{w0:World}{B C n:Nat}{Q:Exit->Act->World->Prop}(N:Nat)(S:Nat->List (Nat×Sh)){c:Code}(k0:Nat)(hk:k0<=N)
  (round:∀ k,k<=N->AK P w0 B C n (S k) c (λe a w=>match e with|.normal=>k<N/\StK w B C n (S (k+1)) a/\KP B C w0 w|e=>Q e a w)):AK P w0 B C n (S k0) (.loop c) Q:=by
 intro a w hs hkp;refine Z9ja (λm a w=>∃ k,k<=N/\m=N-k/\StK w B C n (S k) a/\KP B C w0 w) ⟨k0,hk,rfl,hs,hkp⟩ ?_;rintro m a w ⟨k,h1,rfl,h3,h4⟩;refine wp_mono (round k h1 a w h3 h4) ?_;rintro e a' w' h
 cases e with
 |normal=>exact .inl ⟨rfl,N-(k+1),zo,k+1,zo,rfl,h.2.1,h.2.2⟩
 |_=>exact .inr ⟨zS,h⟩
def Spoils(P:Program)(f:FuncId)(shs:List Sh):Prop:=∀ (w:World) (B:Nat) (args:Array Value),B<=w.heap.size->args.size=shs.length->(∀ i (h1:i<args.size) (h2:i<shs.length),Kd w B w.heap.size shs[i] args[i]) ->
 Calls P f args w (λe w'=>e=.returned (.tuple #[])/\KP B w.heap.size w w')
def numb:Nat->List Sh->List (Nat×Sh)
 |_,[]=>[]
 |k,s::r=>(k,s)::numb (k+1) r
theorem Z65:∀ {l:List Sh} {k:Nat} {p:Nat×Sh},p∈numb k l->∃ i,∃ h:i<l.length,p=(k+i,l[i])
 |[],k,p,h=>by simp[numb]at h
 |s::r,k,p,h=>by
  simp only[numb,List.mem_cons]at h
  rcases h with rfl|h
  exact⟨0,zS,zS⟩;obtain⟨i,hi,rfl⟩:=Z65 h;exact⟨i+1,zu hi,zO⟩
def doneK(w0:World)(B C:Nat):Exit->Act->World->Prop
 |.normal,a,w|.ret,a,w=>a.defers=[]/\KP B C w0 w
 |_,_,_=>False
theorem Z5ja{f:FuncId}{fn:Func}{c:Code}{shs:List Sh}{n:Nat}(hf:P.funcs[f]?=some fn)(hb:fn.body=some c)(hn:fn.ntmps=n)(hr:fn.results.toList=[])(hn0:Nat.ble shs.length n=true)
  (h:∀ w0 B C,AK P w0 B C n (numb 0 shs) c (doneK w0 B C)):Spoils P f shs:=by
 intro w B args hB hsz hk;subst hn;have hn0:=Nat.le_of_ble_eq_true hn0;refine calls_of_wp hf hb (wp_mono (h w B w.heap.size { tmps:=args++Array.replicate (fn.ntmps-args.size) undef,defers:=[] } w ⟨hB,Nat.le_refl _,rfl,zO,λp hp=>?_⟩ (KP.refl B _ w)) ?_);obtain⟨i,hi,rfl⟩:=Z65 hp
 have h1:(args++Array.replicate (fn.ntmps-args.size) undef).getD (0+i) undef=args[i]'zo:=by
  simp[Array.getD,Array.getElem_append,hsz,hi];intro hh;omega
 rw[h1];exact hk i zo hi
 .have hres:∀ a:Act,∀ w':World,(results fn a.tmps).run P w'=.ok (.tuple #[]) w':=by
   intro a w'
   have:fn.results = #[]:=by
    have:=congrArg List.toArray hr;simpa using this
   simp[results,this]
  rintro e a' w' he
  cases e with
  |normal=>exact⟨he.1,_,hres a' w',rfl,he.2⟩
  |ret=>exact⟨he.1,_,hres a' w',rfl,he.2⟩
  |exit id=>exact he.elim
  |goto l=>exact he.elim
  |panic ch=>exact he.elim
  |outgrown=>exact he.elim
theorem Rel.ofW_old{W:World}{x:Value}{v:V}(h:Rel (Z9b W) x v):Rel (Z9b W) x (v.recol λ_=>.old):=
 h.conv (X:=Z9b W) (Y:=Z9b W) (λ_=>.old) (λ_ _ h=>h) (λ_ _ _ _ h=>h) ⟨λ_ c _ h=>⟨c,h,rfl⟩,λ_ _ _ _ h=>h⟩ (λ_ b hb _=>hb) (.inl λ_ _ _ h=>h)
end
end Go.Hs
