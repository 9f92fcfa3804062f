/- A part. No condition. -/
import Derived.Carry
import Derived.ChangeArms
import Derived.DataReads
import Derived.Test.YtkennpiglkfalaaGreatDoorP25
import Derived.Test.YtkennpiglkfalaaGreatDoorP26
set_option linter.all false
open List renaming length->aa
open Bool renaming true->ad
open Option renaming some->ae,none->ah
open Go.World renaming block_lt_of_cell?->aG
namespace Go.Hs
section
variable{P:Program}{W:World}
def Uv(W:World):Cx:={β:=λ_ _=>ah,S:=λb i=>(W.cell? ⟨b,i,ah⟩).isSome=ad,base:=W.heap.size,w:=W}
def kJ(W):BZ (Uv W) Zm:=by
 have lt:∀ {b i},(Uv W).S b i->b<W.heap.size:=by intro b i a;have a:(W.cell? _).isSome=ad:=a;rw[QR]at a;have⟨v,d⟩:=a;exact aG _ _ d
 refine⟨λo c g f j h=>(by simp[Zm]at h),λp B x z t n A w y s b m l h=>(by simp[Zm]at h),λb i a=>⟨?_,λo c g f j C h=>(by simp[Zm]at h)⟩,λo=>⟨0,λ_ _=>rfl⟩,BO _,λb i a e=>absurd (lt a) (PA.2 e),.no λo q b u k h=>(by simp[Zm]at h),.no λo b r h=>(by simp[Zm]at h)⟩;have a:(W.cell? _).isSome=ad:=a;rw[QR]at a;have⟨v,d⟩:=a;exact aG _ _ d
def je{α:Type}{p:Nat->α->Prop}:∀ n,(∀ i,i<n->∃ a,p i a)->∃ l:List α,aa l=n/\∀ i a,l[i]?=ae a->p i a
 |0,_=>⟨[],rfl,λi a h=>by grind⟩|n+1,h=>by have⟨l,d,c⟩:=je n λi e=>h i zo;have⟨a,g⟩:=h n zo;refine⟨l++[a],by grind,λi b f=>?_⟩;grind
end
section
variable{P:Program}{E:BX}
structure LQ(w:World)(B C n:Nat)(L:List (Nat×Sh))(a:Act):Prop where
 ZX:B<=C
 hC:C<=w.heap.size
 df:a.defers=[]
 sz:a.tmps.size=n
 kd:∀ p∈L,Kd w B C p.2 (a.tmps.getD p.1 undef)
def EK(w:World)(B C n q:Nat):BX:=⟨Xk w B C,Zm,n,q,λ_=>.top,ah,[],.plain⟩
@[go_sem] def AC9(w B C n q):(EK w B C n q).q=q:=rfl
def QS:List (Nat×Sh)->List (Nat×V)->Prop
 |[],l=>l=[]|p::r,l=>∃ v m,l=(p.1,v)::m/\Gq .old .new p.2 v/\QS r m
def Ew:List (Nat×Sh)->(Nat->V)->Prop
 |[],_=>True|p::r,τ => Gq .old .new p.2 (τ p.1)/\Ew r τ
def vp(τ):Ew [] τ = True:=rfl
def uT(p r τ):Ew (p::r) τ = (Gq .old .new p.2 (τ p.1)/\Ew r τ):=rfl
def tQ(cs ch k k' m n):Gq cs ch (.lit k n) (.int k' m)=(k'=k/\m=n):=by simp[Gq]
attribute[go_sem]vp uT tQ
def jD{τ}:∀ {L},Ew L τ->∀ p∈L,Gq .old .new p.2 (τ p.1)
 |[],_,p,hp=>by grind|q::r,h,p,hp=>by rcases hp with _|⟨_,hp⟩;exact h.1;exact jD h.2 p hp
def kQ{w B C}(b:B<=C){a:Act}:∀ {L},(∀ p∈L,Kd w B C p.2 (a.tmps.getD p.1 undef))->∃ l,QS L l/\∀ t,AI (Xk w B C) (a.tmps.getD t undef) (Yb Mv l t)
 |[],_=>⟨[],rfl,λt=>.top _⟩|p::r,h=>by have⟨m,d,h2⟩:=kQ b (L:=r) λq e=>h q zG;have⟨v,f,c⟩:=P7 (Xk.all b) (h p zS);refine⟨(p.1,v)::m,⟨v,m,rfl,c,d⟩,λt=>?_⟩;simp only[Yb,Ye];grind
def LQ.sat{w B C n L a}(h:LQ w B C n L a)(q):∃ l,QS L l/\Ng (EK w B C n q) (st l []) a w:=by have⟨l,b,h2⟩:=kQ h.ZX h.kd;exact⟨l,b,Xk w B C,rfl,(GF (Xk.BJ h.hC)).gn (TA _),(by rw[h.df];exact .none _ _ _),h.sz,h2,λg=>⟨.top _,AJ⟩⟩
def Gp{w w' B C n q L s a'}(l:B<=C)(m:C<=w.heap.size)(h:Ng (EK w B C n q) s a' w')(t:Ew L s.τ):LQ w' B C n L a'/\KP B C w w':=by have⟨X,g⟩:=h;have k:=g.gz;have f:=iV k;have c:=k.le.base;have a:=kF m k;have o:=g.hw;subst o;refine⟨⟨l,CT m f.size,MD g.df,g.sz,λp r=>?_⟩,f⟩;refine Ql (λb i x j e d=>?_) (.inl λb i x j e d=>?_) (g.tm p.1) (jD t p r);rw[c]at e;exact⟨⟨(a b i x j d).1 e,e⟩,(a b i x j d).2⟩;rw[c]at e;exact⟨e,(a b i x j d).2⟩
def AK(P:Program)(w0:World)(B C n:Nat)(L:List (Nat×Sh))(c:Code)(Q:Exit->Act->World->Prop):Prop:=∀ a w,LQ w B C n L a->KP B C w0 w->c.wp P Q a w
def AC(P:Program)(w0 w:World)(B C n q:Nat)(c:Code)(Q:Exit->Act->World->Prop)(s:AS):Prop:=B<=C->C<=w.heap.size->KP B C w0 w->∀ a w',Ng (EK w B C n q) s a w'->c.wp P Q a w'
def leave(w0 w:World)(B C n q:Nat)(Q:Exit->Act->World->Prop)(e:Exit)(s:AS):Prop:=B<=C->C<=w.heap.size->KP B C w0 w->∀ a w',Ng (EK w B C n q) s a w'->Q e a w'
section
variable{w0:World}{B C n:Nat}{L:List (Nat×Sh)}{Q:Exit->Act->World->Prop}
def VL(P:Program)(w0 w:World)(B C n q:Nat)(y:Code)(Q:Exit->Act->World->Prop):Exit->AS->Prop
 |.normal,s=>AC P w0 w B C n q y Q s|e,s=>leave w0 w B C n q Q e s
@[go_sem] def ADQ(w q y s):VL P w0 w B C n q y Q .normal s=AC P w0 w B C n q y Q s:=rfl
@[go_sem] def AEL(w q i y s):VL P w0 w B C n q y Q (.exit i) s=leave w0 w B C n q Q (.exit i) s:=rfl
def AK.pre(q){x y}(h:∀ w l,QS L l->AW P (EK w B C n q) x (VL P w0 w B C n q y Q) (st l [])):AK P w0 B C n L (.seq x y) Q:=by intro a w b d;have⟨l,i,h2⟩:=b.sat q;refine wp_seq (wp_mono ((RK.wp rfl).1 (h w l i a w h2)) ?_);rintro e j w' (⟨k,g,f⟩|⟨m,rfl,c⟩);cases e<;>exact f b.ZX b.hC d j w' g;exact(c.no rfl).elim
def AC.seq{w q x y s}(h:AW P (EK w B C n q) x (VL P w0 w B C n q y Q) s):AC P w0 w B C n q (.seq x y) Q s:=by intro b g d a w' f;refine wp_seq (wp_mono ((RK.wp rfl).1 (h a w' f)) ?_);rintro e k w' (⟨l,j,i⟩|⟨m,rfl,c⟩);cases e<;>exact i b g d k w' j;exact(c.no rfl).elim
def AK.all(q){x}(h:∀ w l,QS L l->AW P (EK w B C n q) x (λe s=>leave w0 w B C n q Q e s) (st l [])):AK P w0 B C n L x Q:=by intro a w b d;have⟨l,i,h2⟩:=b.sat q;refine wp_mono ((RK.wp rfl).1 (h w l i a w h2)) ?_;rintro e j w' (⟨k,g,f⟩|⟨m,rfl,c⟩);exact f b.ZX b.hC d j w' g;exact(c.no rfl).elim
def leave.k{w q e s}(L')(f:Ew L' s.τ)(h:∀ a w,LQ w B C n L' a->KP B C w0 w->Q e a w):leave w0 w B C n q Q e s:=by intro b g c a w' d;have⟨i,h2⟩:=Gp b g d f;exact h a w' i (c.trans h2)
def AC.k{w q c s}(L')(f:Ew L' s.τ)(h:AK P w0 B C n L' c Q):AC P w0 w B C n q c Q s:=by intro b g d a w' e;have⟨i,h2⟩:=Gp b g e f;exact h a w' i (d.trans h2)
def AC.weak{w q c s s'}(d:Weak (EK w B C n q) s s')(h:AC P w0 w B C n q c Q s'):AC P w0 w B C n q c Q s:=
 λb g e a w' f=>h b g e a w' (d _ _ f)
def jZ(P:Program)(w0:World)(B C n:Nat)(L':List (Nat×Sh))(Q:Exit->Act->World->Prop):Exit->Act->World->Prop
 |.normal,a,w=>LQ w B C n L' a/\KP B C w0 w|e,a,w=>Q e a w
def xN{w q x y s}(L')(f:AC P w0 w B C n q x (jZ P w0 B C n L' Q) s)(d:AK P w0 B C n L' y Q):AC P w0 w B C n q (.seq x y) Q s:=by intro b j g a w' i;refine wp_seq (wp_mono (f b j g a w' i) ?_);rintro e k c h;cases e<;>first|exact d k c h.1 h.2|exact h
def wb{x y}(L')(d:AK P w0 B C n L x (jZ P w0 B C n L' Q))(c:AK P w0 B C n L' y Q):AK P w0 B C n L (.seq x y) Q:=by intro a w f g;refine wp_seq (wp_mono (d a w f g) ?_);rintro e i b h;cases e<;>first|exact c i b h.1 h.2|exact h
def AC.block{w q id c s}(h:AC P w0 w B C n q c (Exit.inBlock id Q) s):AC P w0 w B C n q (.block id c) Q s:=λa b f d w' e=>wp_block (h a b f d w' e)
def AK.block{id c}(h:AK P w0 B C n L c (Exit.inBlock id Q)):AK P w0 B C n L (.block id c) Q:=λa w b h2=>wp_block (h a w b h2)
def likeV:V->V->Prop
 |.int k _,.int k' _=>k=k'|.AB _,.AB _=>True|.AG,.AG=>True|.slice _ _ _ _,.AG=>True|_,_=>False
def US:List V->List V->Prop
 |[],[]=>True|u::r,v::t=>likeV u v/\US r t|_,_=>False
def jP:∀ {l m},US l m->aa l=aa m/\∀ i h1 (h2:i<aa m),likeV l[i] m[i]
 |[],[],_=>⟨rfl,λi h1=>by grind⟩|[],_::_,h=>h.elim|_::_,[],h=>h.elim|a::l,b::m,h=>by have⟨h1,h2⟩:=jP h.2;refine⟨by grind,λi k1 k2=>?_⟩;rcases i with _|i;exact h.1;grind
def likeV.alike{X Y x y u v}(h:likeV u v)(b:AI X x u)(a:AI Y y v):IN x y:=by cases b<;>cases a<;>simp only[likeV]at h<;>first|exact h.elim|(subst h;exact .int _ _ _)|exact .AB _ _|exact .nil _ _ _
def AA0{X B C}(l:∀ b i x,X.S b i->b<X.base->X.cell b i=ae x->(B<=b/\b<C)/\HN X.w b){t x y u v}(A:AI X x (.view .old u))(z:AI X y v)(D:v.solid=ad)(k:Y0 P t=ae v.cells.length)(E:US u.cells v.cells)(q:0<v.cells.length):∃ w2,(Instr.storeAt t x y).run P X.w=.ok () w2/\KP B C X.w w2:=by
 have⟨r,h⟩:=jP E;cases A with
 |view _ _ b off f hc hr=>
  have⟨J,h2,I,K⟩:=hc 0 zo;have⟨⟨H,G⟩,s,t1,p⟩:=l _ _ _ J h2 I;have a:=λi o=>by have:=(hc i o).2.2.1;unfold Cx.cell at this;rwa [Lw p]at this
  have c:=z.toC D;have m:=c.len;have j:off+aa y.cells.toList<=s.size:=by have:=a (aa u.cells-1) zo;grind
  have d:=run_storeCells_at (P:=P) b _ t1 _ 0 s _ p zo c.one;refine⟨_,?_,sF p H G j λi o=>?_⟩;have n:y.cells.size=aa v.cells:=zu m;simp[Instr.storeAt,Instr.sureAddr,storeVar,Y8 k,n,d];have g:i<aa u.cells:=zo;have e:=a i g;have⟨F,e⟩:=DB.1 e;rw[e];exact(h i _ zo).alike (hr i g) (c.CV i o zo)
def vU(P:Program)(t:TypeId)(p v:V):Prop:=∃ u,p=.view .old u/\v.solid=ad/\Y0 P t=ae (aa v.cells)/\US u.cells v.cells/\0<aa v.cells
def AC.store{w q s}(L')(A:∀ p∈L',p.2.freeT){id ops t ty p x pos after}(L:(ops.all (W4 n))=ad)(m:Nat.ble 1 ops.size=ad)(J:ops[ops.size-1]?=ae ⟨ah,.store t p x,ty,pos,after,ah⟩)(h:Yx P (EK w B C n q) ops (λs=>vU P t (s.ev (EK w B C n q) p) (s.ev (EK w B C n q) x)/\Ew L' s.τ) ops.toList.dropLast s)(M:∀ a w,LQ w B C n L' a->KP B C w0 w->Q .normal a w):AC P w0 w B C n q (.region id ops false) Q s:=by
 intro j E K a R I;refine(RK.wp rfl).1 (wpIn_region (dx (λV a w h=>(h.no rfl).elim) L m J rfl (λ_ h=>nomatch h) I h ?_));rintro S O w' D ⟨⟨u,k,o,G,y,f⟩,r⟩;have⟨l,N⟩:=Gp j E D r;have⟨X,g⟩:=D;have H:=g.hw;subst H;have z:X.base=C:=g.go.le.base;have e:=g.ev p;rw[k]at e;have v:=kF E g.gz;have⟨F,d,c⟩:=AA0 (B:=B) (C:=C) (λb i x h U T=>by grind) e (g.ev x) o G y f
 unfold Oper.wp;have:(execOp O.eval ⟨ah,.store t p x,ty,pos,after,ah⟩).run P X.w=.ok .skip F:=by simp only[execOp,Sem.run_bind,d,Result.andThen_ok,Sem.run_pure]
 rw[this];exact M _ _ ⟨j,CT l.hC c.size,l.df,l.sz,λp k=>Ap c (A p k) (l.kd p k)⟩ (K.trans (N.trans c))
end
def vr{c Q}(I:Nat->Act->World->Prop){n a w}(v:I n a w)(round:∀ n a w,I n a w->c.wp P (λe a' w'=>(e=.normal/\∃ m,m<n/\I m a' w')\/(e ≠ .normal/\Q e a' w')) a w):(Code.loop c).wp P Q a w:=by
 intro b k r;have o:∀ n a w,I n a w->∃ e a' w',Q e a' w'/\Arrives P (lone (b.at a (.code c::.inLoop c::k)) r w) b k r e a' w':=by
  intro n
  induction n using Nat.strongRecOn with|_ n ih=>intro a w u;obtain⟨e,j,i,f,d⟩:=round n a w u b _ r;rcases e with _|id|l|_|ch|_;rcases f with ⟨_,m,t,q⟩|⟨h,_⟩;obtain⟨x,y,s,p,g⟩:=ih m t _ _ q;exact⟨x,y,s,p,.of_steps (Steps.trans d (.one step_inLoop)) g⟩;grind;exact⟨_,j,i,(f.resolve_left zG).2,.pass rfl (λ_ _=>.inl zS) d⟩;exact⟨_,j,i,(f.resolve_left zG).2,.pass rfl (λ_ _=>.inl zS) d⟩;exact⟨_,j,i,(f.resolve_left zG).2,.pass rfl (λ_ _=>.inl zS) d⟩;exact⟨_,j,i,(f.resolve_left zG).2,.pass rfl (λ_ _=>.inl zS) d⟩;exact⟨_,j,i,(f.resolve_left zG).2,.pass rfl (λ_ _=>.inl zS) d⟩
 obtain⟨e,a',w',f,d⟩:=o n a w v;exact⟨e,a',w',f,.of_steps (.one step_loop) d⟩
def gb{w0 B C n Q}(N)(S:Nat->List (Nat×Sh)){c}(k0)(f:k0<=N)(round:∀ k,k<=N->AK P w0 B C n (S k) c (λe a w=>match e with|.normal=>k<N/\LQ w B C n (S (k+1)) a/\KP B C w0 w|e=>Q e a w)):AK P w0 B C n (S k0) (.loop c) Q:=by intro a w d b;refine vr (λm a w=>∃ k,k<=N/\m=N-k/\LQ w B C n (S k) a/\KP B C w0 w) ⟨k0,f,rfl,d,b⟩ ?_;rintro m a w ⟨k,j,rfl,i,g⟩;refine wp_mono (round k j a w i g) ?_;rintro e l w' h;cases e with|normal=>exact .inl ⟨rfl,N-(k+1),zo,k+1,zo,rfl,h.2.1,h.2.2⟩|_=>grind
def WT(P:Program)(f:FuncId)(shs:List Sh):Prop:=∀ w B args,B<=w.heap.size->args.size=aa shs->(∀ i h1 (h2:i<aa shs),Kd w B w.heap.size shs[i] args[i]) ->
 Calls P f args w (λe w'=>e=.returned (.tuple #[])/\KP B w.heap.size w w')
def SI:Nat->List Sh->List (Nat×Sh)
 |_,[]=>[]|k,s::r=>(k,s)::SI (k+1) r
def ct:∀ {l} {k} {p},p∈SI k l->∃ i,∃ h,p=(k+i,l[i])
 |[],k,p,h=>by simp[SI]at h|s::r,k,p,h=>by simp only[SI,BY]at h;rcases h with rfl|h;simp;obtain⟨i,a,rfl⟩:=ct h;exact⟨i+1,by grind,by grind⟩
def ABt(w0:World)(B C:Nat):Exit->Act->World->Prop
 |.normal,a,w|.ret,a,w=>a.defers=[]/\KP B C w0 w|_,_,_=>False
def uF{f fn c shs}{n:Nat}(r:P.funcs[f]?=ae fn)(s:fn.body=ae c)(u:fn.ntmps=n)(m:fn.results.toList=[])(g:Nat.ble shs.length n=ad)(h:∀ w0 B C,AK P w0 B C n (SI 0 shs) c (ABt w0 B C)):WT P f shs:=by
 intro w B b t j v;have g:=LK g;refine calls_of_wp r s (wp_mono (h w B _ _ w ⟨t,BO _,rfl,by grind,λp o=>?_⟩ (KP.refl B _ w)) ?_);obtain⟨i,q,rfl⟩:=ct o;have x:(b++Array.replicate (fn.ntmps-b.size) undef).getD (0+i) undef=b[i]'zo:=by simp[Array.getD,j,q];omega
 grind
 .have hres:∀ a:Act,∀ w',(results fn a.tmps).run P w'=.ok (.tuple #[]) w':=by
   have:fn.results = #[]:=by have:=BU List.toArray m;simpa using this
   simp[results,this]
  rintro e k w' d;cases e with|normal=>exact⟨d.1,_,hres k w',rfl,d.2⟩|ret=>exact⟨d.1,_,hres k w',rfl,d.2⟩|exit id=>exact d.elim|goto l=>exact d.elim|panic ch=>exact d.elim|outgrown=>exact d.elim
def Db:List Sh->List V->Prop
 |[],[]=>True|s::r,v::t=>Gq .new .new s v/\Db r t|_,_=>False
@[go_sem] def AER:Db [] []=True:=rfl
@[go_sem] def ADO(s v r t):Db (s::r) (v::t)=(Gq .new .new s v/\Db r t):=rfl
def iT:∀ {l} {m},Db l m->aa l=aa m/\∀ i h1 (h2:i<aa m),Gq .new .new l[i] m[i]
 |[],[],_=>⟨rfl,λi h1=>by grind⟩|[],_::_,h=>h.elim|_::_,[],h=>h.elim|a::l,b::m,h=>by have⟨h1,h2⟩:=iT h.2;refine⟨by grind,λi k1 k2=>?_⟩;rcases i with _|i;exact h.1;grind
def VJ:List (Nat×BL)->Prop
 |[]=>True|p::r=>(match p.2 with|.AR=>True|.mp .. => False|.lp .. => False|.cells c _ _ cs=>c=.old/\∀ v∈cs,v.Old)/\VJ r
def N_:List (Nat×V)->Prop
 |[]=>True|p::r=>p.2.Old/\N_ r
def kY:∀ {l},N_ l->∀ p∈l,p.2.Old
 |[],_,p,hp=>by grind|q::r,h,p,hp=>by rcases hp with _|⟨_,hp⟩;exact h.1;exact kY h.2 p hp
def Nz{α}{τ f:Nat->α}(t):∀ l,(∀ p∈l,f p.1=p.2)->Yb τ l t = τ t\/(Yb τ l t=f t/\∃ p∈l,p.1=t)
 |[],_=>.inl rfl|p::r,h=>by simp only[Yb,Ye];split;grind;rcases Nz t r λq b=>h q (by grind)with a|⟨a,q,b,h2⟩;exact .inl a;grind
def TX:List (Nat×Sh)->List (Nat×V)->Prop
 |[],l=>l=[]|p::r,l=>∃ v m,l=(p.1,v)::m/\Gq .new .new p.2 v/\TX r m
def Gk:List (Nat×Sh)->(Nat->V)->Prop
 |[],_=>True|p::r,τ => Gq .new .new p.2 (τ p.1)/\Gk r τ
@[go_sem] def ADW(τ):Gk [] τ = True:=rfl
@[go_sem] def ADK(p r τ):Gk (p::r) τ = (Gq .new .new p.2 (τ p.1)/\Gk r τ):=rfl
def EF.spoiltK{X s a w w' B}(U:EF E X s a w)(hb:E.X0.base=E.X0.w.heap.size)(hI0:BZ E.X0 E.H0)(hB:B=E.X0.base)(I:KP B w.heap.size w w')(l m ks)(hl:N_ l)(hm:VJ m)(J:∀ p∈ks,p.2.HK)(hel:Vy s.τ l)(K:Vy s.H m)(P:Gk ks s.τ)(hG:∀ g,(E.G g).Old)(hdf:E.df=[])(hrk:E.rk=.plain):∃ lk,TX ks lk/\Ng E ⟨Yb (Yb Mv l) lk,Yb Zm m⟩ a w':=by
 have hw:=U.hw;subst hw;have u:=U.gz (by rw[hrk];rfl);have f:=u.le.base;have hbw:E.X0.base<=X.w.heap.size:=by rw[<- f];exact u.BJ.bw
 have y:∀ k,k<E.X0.base->w'.heap[k]?=X.w.heap[k]? := λk hk=>I.old k zo (.inl zo);have O:=I.size;have hos:=I.os;have htp:=I.tape;have hout:=I.output;let Y:={X with S:=λb i=>(X.S b i/\b<X.base)\/(X.base<=b/\HN w' b/\∃ x,w'.cell? ⟨b,i,ah⟩=ae x),w:=w'};have N:∀ b i x,b<X.base->X.cell b i=ae x->Y.cell b i=ae x:=by intro b i x D Q;show w'.cell? _=ae x;rw[World.cell?_of_block (y b (by rw[<- f];exact D))];exact Q
 have hrel:∀ x v,AI X x v->v.Old->AI Y x v:=λx v hr j=>hr.old (Y:=Y) (λ_ _ d h2=>.inl ⟨d,h2⟩) (λ_ _ _ h=>h) rfl N j;have hY:SV Y w' B _ .new .new:=⟨rfl,λhd b i x hz hbk Q=>by
  have D:=aG _ _ Q;have d:B<=b:=by cases hd;exact hz.1;have:w'.heap.size<=b:=hz;have D:=D;omega
  have d:X.base<=b:=zo;refine⟨.inr ⟨d,hbk,x,Q⟩,?_⟩;cases hd<;>exact d⟩
 have M:∀ {m},VJ m->∀ p∈m,(match p.2 with|.AR=>True|.mp .. => False|.lp .. => False|.cells c _ _ L=>c=.old/\∀ v∈L,v.Old):=by
  intro m
  induction m with|nil=>intro _ p A;cases A|cons q r ih=>intro h p A;rcases A with _|⟨_,A⟩;exact h.1;exact ih h.2 p A
 have C:∀ o c g R L,Yb Zm m o=.cells c g R L->s.H o=.cells .old g R L/\c=.old/\∀ v∈L,v.Old:=by intro o c g R L j;rcases Nz o m (X5 K)with d|⟨d,p,A,rfl⟩;rw[d]at j;simp[Zm]at j;have e:=X5 K p A;have T:=M hm p A;rw[d,e]at j;rw[j]at T;obtain⟨rfl,hcs⟩:=T;exact⟨e.trans j,rfl,hcs⟩
 have hL:∀ o b r,Yb Zm m o=.lp b r->False:=λo b r j=>by rcases Nz o m (X5 K)with d|⟨d,p,A,rfl⟩;rw[d]at j;simp[Zm]at j;have e:=X5 K p A;have T:=M hm p A;rw[d,e]at j;rw[j]at T;exact T
 have hgo:BH E.X0 E.H0 Y (Yb Zm m):=by
  refine⟨⟨?_,?_,?_,u.BJ.CK,?_,?_,?_,.no hL⟩,⟨u.le.β,?_,?_,u.le.base,?_,?_⟩,⟨hos.trans u.kp.os,htp.trans u.kp.tape,hout.trans u.kp.output,CT u.kp.size O,?_⟩,?_,?_⟩;intro o c g R L j;obtain⟨d,rfl,h3⟩:=C _ _ _ _ _ j;have⟨b,bs,h4,h5,c',t,h6,h7,h8⟩:=u.BJ.DQ o .old g R L d;have h5:b<X.base:=h5;refine⟨b,bs,h4,h5,c',t,?_,h7,h8.len,h8.one,λi k1 k2=>hrel _ _ (h8.CV i k1 k2) (h3 _ (BT k2))⟩;show w'.heap[b]?=_;rw[y b (by rw[<- f];exact h5)];exact h6;intro o1 c1 g1 f1 l1 o2 c2 g2 f2 l2 b s1 s2 d h2 b1 b2;exact u.BJ.inj _ _ _ _ _ _ _ _ _ _ _ _ _ (C _ _ _ _ _ d).1 (C _ _ _ _ _ h2).1 b1 b2;intro b i z;refine⟨?_,λo c g R L bs j hβ => ?_⟩;rcases z with ⟨z,_⟩|⟨_,_,x,hx⟩;exact GU (u.BJ.DD b i z).1 O;exact aG _ _ hx;have d:=(C _ _ _ _ _ j).1;rcases z with ⟨z,_⟩|⟨W,_⟩;exact(u.BJ.DD b i z).2 _ _ _ _ _ _ d hβ;have⟨b',bs',h4,h5,_⟩:=u.BJ.DQ o .old g R L d;rw[show Y.β o g=X.β o g from rfl,h4]at hβ;have e:=BU Prod.fst (EY hβ);have e:b'=b:=e;have h5:b'<X.base:=h5;omega;exact CT u.BJ.bw O;intro b i z W;have W:X.base<=b:=W;rcases z with ⟨_,h⟩|⟨_,h,_⟩;omega;exact .inl h;refine .no λo lo b ks vs j=>?_;rcases Nz o m (X5 K)with d|⟨d,p,A,rfl⟩;rw[d]at j;simp[Zm]at j;have e:=X5 K p A;have T:=M hm p A;rw[d,e]at j;rw[j]at T;exact T;intro b i z;exact .inl ⟨u.le.S b i z,by rw[f,hb];exact(hI0.DD b i z).1⟩;intro b i x z Q;exact N b i x (by rw[f,hb];exact(hI0.DD b i z).1) (u.le.cell b i x z Q);intro b c t F;have D:b<E.X0.w.heap.size:=by rw[DB]at F;exact F.1
  have⟨c',d,h2⟩:=u.le.blk b c t F;refine⟨c',?_,h2⟩;show w'.heap[b]?=_;rw[y b (by rw[hb];exact D)];exact d;intro b es n hss F;have D:b<E.X0.w.heap.size:=by rw[DB]at F;exact F.1
  show w'.heap[b]?=_;rw[y b (by rw[hb];exact D)];exact u.le.map b es n hss F;intro k hk hl;show w'.heap[k]?=_;rw[y k (by rw[hb];exact hk)];exact u.kp.block k hk hl;rintro b i (⟨z,_⟩|⟨z,_⟩);exact u.Sn b i z;have d:=hb;exact .inr (.inl zo);refine Ue (λo b r j=>(hL _ _ _ j).elim) ?_;rintro b ⟨o,c,g,R,L,bs,j,hβ⟩;exact u.on b (.inl ⟨o,.old,g,R,L,bs,(C _ _ _ _ _ j).1,hβ⟩)
 have V:∀ (ks),(∀ p∈ks,p.2.HK)->Gk ks s.τ->∃ lk,TX ks lk/\∀ t,AI Y (a.tmps.getD t undef) (Yb (Yb Mv l) lk t):=by
  intro ks
  induction ks with
  |nil=>intro _ _;refine⟨[],rfl,λt=>?_⟩;show AI Y _ (Yb Mv l t);rcases Nz t l (X5 hel)with d|⟨d,p,A,rfl⟩;rw[d];exact .top _;rw[d];refine hrel _ _ (U.tm _) ?_;rw[X5 hel p A];exact kY hl p A
  |cons p r ih=>
   intro J P;have⟨lk,d,h2⟩:=ih (λq hq=>J q (by simp[hq])) P.2;have hk0:Kd X.w B X.w.heap.size p.2 (a.tmps.getD p.1 undef):=Ql (λb i x h h' Q=>by have h':X.base<=b:=h';exact⟨⟨zo,aG _ _ Q⟩,u.BJ.thawC h h' Q⟩) (.inr (J p zS)) (U.tm p.1) P.1
   have hk1:=Oj I (J p zS) (.refl _) hk0;have hk2:=Aq O (J p zS) hk1;have⟨v,h3,h4⟩:=P7 hY hk2;refine⟨(p.1,v)::lk,⟨v,lk,rfl,h4,d⟩,λt=>?_⟩;simp only[Yb,Ye];split;rename_i e;subst e;exact h3;exact h2 t
 have⟨lk,d,h2⟩:=V ks J P;exact⟨lk,d,Y,rfl,hgo.gn E.N_le,(by have hdn:=U.df;rw[hdf,hrk]at hdn;rw[hdf,MD hdn];exact .none _ _ _),U.sz,h2,λg=>⟨hrel _ _ (U.gl g).CV (hG g),(U.gl g).sz.old (hG g) rfl λk hk=>y k (by rw[<- f];exact hk)⟩⟩
def wN{id ops Q s}(l m ks)(hb:E.X0.base=E.X0.w.heap.size)(hI0:BZ E.X0 E.H0)(hG:∀ g,(E.G g).Old){f shs}(hsp:WT P f shs)(hfr:∀ s∈shs,s.HK)(hfk:∀ p∈ks,p.2.HK)(hen:Yf P f=ad){dst ty fo args ats pos after}(hd:(ops.all (W4 E.n))=ad)(hsz:Nat.ble 1 ops.size=ad)(ho:ops[ops.size-1]?=ae ⟨dst,.call ⟨.value fo,args,ats⟩,ty,pos,after,ah⟩)(hl:N_ l)(hm:VJ m)(h:Yx P E ops (λs'=>s'.ev E fo=.func (.func f) [] []/\Db shs (args.toList.map (s'.ev E))/\Gk ks s'.τ /\ Vy s'.τ l/\Vy s'.H m/\∀ lk,TX ks lk->Q .normal (AS.put ⟨Yb (Yb Mv l) lk,Yb Zm m⟩ dst .top)) ops.toList.dropLast s)(hdf:E.df=[]:=by rfl)(hrk:E.rk=.plain:=by rfl):AW P E (.region id ops false) Q s:=by
 intro a w hs;refine wpIn_region (dx (λch a w h=>.inr ⟨ch,rfl,h⟩) hd hsz ho rfl (λ_ h=>nomatch h) hs h ?_);rintro s' a' w' ⟨X,hX⟩ ⟨hf,hsh,hks,hel,heo,hQ⟩;have hw:=hX.hw;subst hw;have hbase:=hX.go.le.base;have hdm:∀ d,dst=ae d->d<E.n:=by intro d hdst;rw[KF]at hd;have⟨hlt,e⟩:=DB.1 ho;have:=hd _ (MB hlt);rw[e]at this;simpa[W4,hdst]using this
 have hfv:=hX.ev fo;rw[hf]at hfv;have hev:=hX.ev;generalize hq:a'.eval fo=q at hfv;cases hfv with|func _ xs ys _ _ hx hy hxr hyr=>
 have hxs:xs = #[]:=zu hx;have hys:ys = #[]:=zu hy;subst hxs hys;have hrun:(execOp a'.eval ⟨dst,.call ⟨.value fo,args,ats⟩,ty,pos,after,ah⟩).run P X.w=.ok (.enter f (args.map a'.eval)) X.w:=by
  unfold Yf at hen;split at hen;rename_i fn hfn;simp only[BP]at hen;have⟨hn1,hn2⟩:=hen;have hn1':(fn.name == "runtime.NumGoroutine")=false:=zu hn1;have hn2':fn.body.isNone=false:=by cases hb:fn.body<;>simp_all
  simp only[execOp,resolve,hq,Deferred.ofValue,Sem.run_bind,Sem.run_pure,Result.andThen_ok,invoke,callFunc,run_program,hfn,hn1',hn2'];simp;simp at hen
 have⟨hlen,hget⟩:=iT hsh;unfold Oper.wp;rw[hrun,Oper.upon_enter];refine(hsp _ X.base _ ?_ (by simp at hlen;simp[hlen]) ?_).mono ?_;exact hX.go.BJ.bw;intro i h1 h2;have h3:i<aa (args.toList.map (s'.ev E)):=zo;have hr:AI X ((args.map a'.eval)[i]) ((args.toList.map (s'.ev E))[i]):=by simp only[VW,FG,SY];exact hev _
 exact Ql (cs:=.new) (λb i x h h' hc=>⟨⟨h',aG _ _ hc⟩,hX.go.BJ.thawC h h' hc⟩) (.inr (hfr _ (BT h2))) hr (hget i h2 h3);rintro e w2 ⟨rfl,hkp⟩;have⟨lk,hlk,key⟩:=hX.spoiltK hb hI0 hbase hkp l m ks hl hm hfk hel heo hks hG hdf hrk;refine .inl ⟨_,?_,hQ lk hlk⟩;have⟨Y,hY⟩:=key;have hwy:=hY.hw;subst hwy;exact⟨Y,hY.step (GF hY.go.BJ) (.top _) hdm⟩
def PI(f:AH->AH)(τ:Nat->V):Nat->V:=λt=>(τ t).recol f
def bL(f:AH->AH)(H:A'):A':=λo=>(H o).recol f
def mO(f τ k v):PI f (Ye τ k v)=Ye (PI f τ) k (v.recol f):=by funext t;simp only[PI,Ye];split<;>rfl
def mh(f):PI f Mv=Mv:=rfl
def yp(f):bL f Zm=Zm:=rfl
def ABv(τ H):AS.ent ⟨τ,H⟩=⟨PI AH.ent τ,bL AH.ent H⟩:=rfl
def ABk(τ H):AS.bk ⟨τ,H⟩=⟨PI AH.bk τ,bL AH.bk H⟩:=rfl
def ABe(p r):N_ (p::r)=(p.2.Old/\N_ r):=rfl
def yE:N_ []=True:=rfl
attribute[go_sem]mO mh yp ABv ABk ABe yE
def AI.ofW_old{W x v}(h:AI (Uv W) x v):AI (Uv W) x (v.recol λ_=>.old):=
 h.conv (Y:=Uv W) (λ_=>.old) (λ_ _ h=>h) (λ_ _ _ _ h=>h) ⟨λ_ c _ h=>⟨c,h,rfl⟩,λ_ _ _ _ h=>h⟩ (λ_ b a _=>a) (.inl λ_ _ _ h=>h)
