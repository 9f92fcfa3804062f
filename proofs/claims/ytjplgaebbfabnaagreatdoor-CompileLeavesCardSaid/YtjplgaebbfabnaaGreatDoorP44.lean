/- A part. No condition. -/
import Derived.Test.YtjplgaebbfabnaaGreatDoorP31
set_option linter.all false
namespace Go.Hs
section
variable{P:Program}{E:Ent}{ops:Array Oper}{Q:AS->Prop}{rest:List Oper}{d:Option Nat}{ty:TypeId}{pos:String}{af:Array Edge}{τ : Nat->V}{H:Heap}{kp:Kps}{T:Told}{i:Nat}
@[go_sem] theorem Zgca(t:TypeId)(m x:Operand)(ok:Bool):Yt P E ops Q (⟨d,.lookup t m x ok,ty,pos,af,none⟩::rest) ⟨τ,H⟩ =
  R8 P E ops Q rest d τ H (Sq P H t (AS.ev E ⟨τ,H⟩ m) (AS.ev E ⟨τ,H⟩ x) ok):=by
 show(match Sq P H t (AS.ev E ⟨τ,H⟩ m) (AS.ev E ⟨τ,H⟩ x) ok with|some v=>Yt P E ops Q rest (AS.put ⟨τ,H⟩ d v)|none=>False)=_
 cases Sq P H t (AS.ev E ⟨τ,H⟩ m) (AS.ev E ⟨τ,H⟩ x) ok<;>rfl
@[go_sem] theorem lookH_mapv(H:Heap)(t:TypeId)(ks vs:List V)(x:V)(ok:Bool):Sq P H t (.mapv ks vs) x ok=Q7 P t (.mapv ks vs) x ok:=rfl
def Zjca(P:Program)(b:Nat)(t:TypeId)(x:V)(ok:Bool):AObj->Option V
 |.mp _ b' ks vs=>if b'=b then Q7 P t (.mapv ks vs) x ok else none
 |_=>none
theorem Zss(H:Heap)(t:TypeId)(o b:Nat)(x:V)(ok:Bool):Sq P H t (.mref o b) x ok=Zjca P b t x ok (H o):=rfl
theorem Z6ba(X:Cx)(H:Heap)(n q:Nat)(G:Nat->V)(kp:Option (V->Heap->Prop))(a:List V):Ent.N ⟨X,H,n,q,G,kp,a,.marks⟩=X.w.heap.size:=rfl
theorem N_inl(X:Cx)(H:Heap)(n q:Nat)(G:Nat->V)(kp:Option (V->Heap->Prop))(a:List V)(N lo:Nat)(h:N=lo):(Ent.N ⟨X,H,n,q,G,kp,a,.inl N⟩<=lo)=True:=eq_true (h ▸ Nat.min_le_left _ _)
theorem Z86(b:Nat)(t:TypeId)(x:V)(ok:Bool)(lo:Nat)(ks vs:List V):Zjca P b t x ok (.mp lo b ks vs)=Q7 P t (.mapv ks vs) x ok:=if_pos rfl
theorem Zdj(t:TypeId)(m x:Operand)(ok:Bool):Xg P E kp ops Q T i (⟨d,.lookup t m x ok,ty,pos,af,none⟩::rest) ⟨τ,H⟩=Yt P E ops (Xg P E kp ops Q T (i+1) rest) [⟨d,.lookup t m x ok,ty,pos,af,none⟩] ⟨τ,H⟩:=Xz _ rfl rfl rfl
theorem Zmc(t:TypeId)(e:Nat):Yt P E ops Q (⟨some e,.makeMap t none,ty,pos,af,none⟩::rest) ⟨τ,H⟩ =
  ∀ b,Yt P E ops Q rest ⟨Ya τ e (.mref (E.q+e) b),Ya H (E.q+e) (.mp E.X0.w.heap.size b [] [])⟩:=by
 rfl
theorem Cc(t:TypeId)(m k x:Operand):Yt P E ops Q (⟨d,.mapUpdate t m k x,ty,pos,af,none⟩::rest) ⟨τ,H⟩ =
  Sz P E.N H t (AS.ev E ⟨τ,H⟩ m) (AS.ev E ⟨τ,H⟩ k) (AS.ev E ⟨τ,H⟩ x) λv H'=>Yt P E ops Q rest (AS.put ⟨τ,H'⟩ d v):=by
 rfl
theorem D7(t:TypeId)(m k x:Operand):Xg P E kp ops Q T i (⟨d,.mapUpdate t m k x,ty,pos,af,none⟩::rest) ⟨τ,H⟩=Yt P E ops (kpQ P kp (Xg P E kp ops Q T (i+1) rest)) [⟨d,.mapUpdate t m k x,ty,pos,af,none⟩] ⟨τ,H⟩:=Hv _ rfl rfl rfl
attribute[go_sem]Zss Z6ba N_inl Z86 Zdj Zmc Cc D7
def Eu(lo0 b:Nat)(kd:TypeDesc)(ob:AObj)(k x:V)(K:Nat->List V×List V->Prop):Prop:=match ob with
 |.mp lo b' ks vs=>b'=b/\lo0<=lo/\Oi (Ak kd k x ks vs) (K lo)
 |_=>False
theorem Ns{a o b:Nat}{t c f:TypeId}{kd:TypeDesc}{k x:V}{K:V->Heap->Prop}(d:P.underlying t=some (.map c f))(e:P.underlying c=some kd):
  Sz P a H t (.mref o b) k x K=Eu a b kd (H o) k x λlo p=>K (.tuple []) (Ya H o (.mp lo b p.1 p.2)):=by
 unfold Sz Eu;simp only[d]
 cases H o with
 |mp lo b' ks vs=>
  simp only[e]
  cases Ak kd k x ks vs<;>rfl
 |_=>rfl
theorem Hu{α : Type}(v : α)(K : α -> Prop):Oi (some v) K=K v:=rfl
@[go_sem] theorem mapSetK_mp(a lo b c:Nat)(kd:TypeDesc)(ks vs:List V)(k x:V)(K:Nat->List V×List V->Prop):Eu a b kd (.mp lo c ks vs) k x K=(c=b/\a<=lo/\Oi (Ak kd k x ks vs) (K lo)):=rfl
def MZ(o b:Nat)(ks vs:List V)(v v':V):Prop:=v'=v\/(v=.mref o b/\v'=.mapv ks vs)
def mzL(o b:Nat)(ks vs:List V):List V->List V->Prop
 |[],[]=>True
 |v::l,v'::l'=>MZ o b ks vs v v'/\mzL o b ks vs l l'
 |_,_=>False
def MZO(o b:Nat)(ks vs:List V)(ob ob':AObj):Prop:=match ob' with
 |.dead=>True
 |.cells c g fz cs'=>∃ cs,ob=.cells c g fz cs/\mzL o b ks vs cs cs'
 |.mp lo b' ks' vs'=>ob=.mp lo b' ks' vs'
 |.lp b r=>ob=.lp b r
theorem mzL.get{o b:Nat}{ks vs:List V}:∀ {l l':List V},mzL o b ks vs l l'->l'.length=l.length/\∀ i (h1:i<l.length) (h2:i<l'.length),MZ o b ks vs l[i] l'[i]
 |[],[],_=>⟨rfl,λi h1=>by grind⟩
 |v::l,v'::l',h=>by
  obtain⟨h1,h2⟩:=mzL.get h.2;refine⟨by grind,λi c a=>?_⟩
  cases i with
  |zero=>exact h.1
  |succ i=>grind
theorem Zel{s s':AS}(o:Nat){lo b:Nat}{ks vs:List V}(Q:s.H o=.mp lo b ks vs)(hlo:E.N<=lo)(hτ : ∀ t,s'.τ t=.top\/MZ o b ks vs (s.τ t) (s'.τ t))(hH:∀ o',MZO o b ks vs (s.H o') (s'.H o'))(R:∀ lo b ks vs,s'.H o=.mp lo b ks vs->False):Weak E s s':=by
 rintro a w ⟨X,l⟩;have m:=l.go.inv;obtain⟨hl1,T,J,es,n,M,e1,e2,e3,e4⟩:=m.mps o lo b ks vs Q
 have L:b<X.w.heap.size:=by rw[Array.getElem?_eq_some_iff]at M;exact M.1
 let Y:Cx:={ X with S:=λe i=>X.S e i\/e=b/\i=0 }
 have f:X.le Y:=⟨λ_ _ _ h=>h,λ_ _ h=>.inl h,λ_ _ _ _ h=>h,rfl,λ_ c _ h=>⟨c,h,rfl⟩,λ_ _ _ _ h=>h⟩
 have hrel:∀ {x v O},MZ o b ks vs v O->Rel X x v->Rel Y x O:=by
  intro x v O hz hr
  rcases hz with rfl|⟨rfl,rfl⟩
  exact hr.mono f
  .cases hr with
   |mref=>exact .mapv b n es ks vs (.inr ⟨rfl,rfl⟩) M e1 e2 (λi y u=>(e3 i y u).mono f) (λi y u=>(e4 i y u).mono f)
 have k:∀ o' c g C d,s'.H o'=.cells c g C d->∃ D,s.H o'=.cells c g C D/\d.length=D.length/\∀ i (j:i<D.length) (B:i<d.length),MZ o b ks vs D[i] d[i]:=by
  intro o' c g C d h;have:=hH o';rw[h]at this;obtain⟨D,j,B⟩:=this;exact⟨D,j,B.get⟩
 have hL:∀ o' b r,s'.H o'=.lp b r->s.H o'=.lp b r:=λo' b r h=>by
  have:=hH o';rw[h]at this;exact this
 have W:∀ o' z e A p,s'.H o'=.mp z e A p->s.H o'=.mp z e A p:=λo' z e A p h=>by
  have:=hH o';rw[h]at this;exact this
 have K:Inv Y s'.H:=by
  refine⟨?_,?_,?_,m.fin,m.bw,?_,λo' z e A p h=>?_,m.lps_tr hL λ_ _ _=>rfl⟩;intro o' c g C d h;obtain⟨D,j,B,h3⟩:=k _ _ _ _ _ h;obtain⟨e,G,y,u,c',t,q3,q4,P⟩:=m.obj _ _ _ _ _ j;refine⟨e,G,y,u,c',t,q3,zo,?_⟩;rw[B];exact⟨by rw[P.len,B],P.one,λi k1 k2=>hrel (h3 i zo k2) (P.rel i k1 zo)⟩;intro o1 c1 g1 f1 l1 o2 c2 g2 f2 l2 e s1 s2 j B;obtain⟨_,j,_⟩:=k _ _ _ _ _ j;obtain⟨_,B,_⟩:=k _ _ _ _ _ B;exact m.inj _ _ _ _ _ _ _ _ _ _ _ _ _ j B;rintro e i (F|⟨rfl,rfl⟩);refine⟨(m.safe e i F).1,λo' c g C d G h I => ?_⟩;obtain⟨_,j,_⟩:=k _ _ _ _ _ h;exact(m.safe e i F).2 _ _ _ _ _ _ j I;refine⟨L,λo' c g C d G h I => ?_⟩;obtain⟨_,j,_⟩:=k _ _ _ _ _ h;exact absurd (.inl ⟨o',c,g,C,_,G,j,I⟩) (m.not_live M);rintro e i (F|⟨rfl,rfl⟩) U;exact m.thaw e i F U;exact .inr ⟨rfl,es,n,M⟩;obtain⟨k1,k2,k3,es',n',k4,k5,k6,k7,k8⟩:=m.mps _ _ _ _ _ (W _ _ _ _ _ h);refine⟨k1,?_,λo2 lo2 ks2 vs2 q=>k3 _ _ _ _ (W _ _ _ _ _ q),es',n',k4,k5,k6,λi y u=>(k7 i y u).mono f,λi y u=>(k8 i y u).mono f⟩;rintro(q|⟨rfl,_⟩);exact k2 q;exact R _ _ _ _ ((J _ _ _ _ (W _ _ _ _ _ h)) ▸ h)
 refine⟨Y,l.hw,⟨K,l.go.le.trans f,l.go.kp,?_,Uw (λo' b r Q=>l.go.on b (.inr ⟨o',r,hL _ _ _ Q⟩)) ?_⟩,l.df.mono f (λ_ _=>rfl),l.sz,λt=>?_,λg=>⟨(l.gl g).rel.mono f,(l.gl g).sz⟩⟩;rintro e i (F|⟨rfl,rfl⟩);exact l.go.Sn e i F;exact .inr (.inl zo);rintro e ⟨o',c,g,C,d,G,h,I⟩;obtain⟨D,j,_⟩:=k _ _ _ _ _ h;exact l.go.on e (.inl ⟨o',c,g,C,D,G,j,I⟩)
 rcases hτ t with h|h
 rw[h];exact .top _;exact hrel h (l.tm t)
def Zeb(o b:Nat)(ks vs:List V)(f:Nat->V):List (Nat×V)->Prop
 |[]=>True
 |p::r=>MZ o b ks vs (f p.1) p.2/\Zeb o b ks vs f r
def Gn(o b:Nat)(ks vs:List V)(f:Nat->AObj):List (Nat×AObj)->Prop
 |[]=>True
 |p::r=>MZO o b ks vs (f p.1) p.2/\Gn o b ks vs f r
theorem Zl2(o b:Nat)(ks vs:List V)(f:Nat->V):Zeb o b ks vs f []=True:=rfl
theorem Zdu(o b:Nat)(ks vs:List V)(f:Nat->V)(p:Nat×V)(r:List (Nat×V)):Zeb o b ks vs f (p::r)=(MZ o b ks vs (f p.1) p.2/\Zeb o b ks vs f r):=rfl
theorem Zeu(o b:Nat)(ks vs:List V)(f:Nat->AObj):Gn o b ks vs f []=True:=rfl
theorem Zal(o b:Nat)(ks vs:List V)(f:Nat->AObj)(p:Nat×AObj)(r:List (Nat×AObj)):Gn o b ks vs f (p::r)=(MZO o b ks vs (f p.1) p.2/\Gn o b ks vs f r):=rfl
attribute[go_sem]Zl2 Zdu Zeu Zal
theorem B0{s:AS}(o:Nat){lo b:Nat}{ks vs:List V}(l:List (Nat×V))(m:List (Nat×AObj))(f:s.H o=.mp lo b ks vs)(c:E.N<=lo)(i:Zeb o b ks vs s.τ l)(g:Gn o b ks vs s.H m)(a:m.any (·.1==o)=false:=by rfl):Weak E s (Hs.st l m):=by
 refine Zel o f c (λt=>?_) (λd=>?_) (λlo b ks vs h=>?_)
 have:∀ (l:List (Nat×V)),Zeb o b ks vs s.τ l->Z5 La l t=.top\/MZ o b ks vs (s.τ t) (Z5 La l t):=by
  intro l
  induction l with
  |nil=>intro _;exact .inl rfl
  |cons p r ih=>
   intro h;simp only[Z5,Ya]
   split
   rename_i e;subst e;exact .inr h.1;exact ih h.2
 exact this l i
 have:∀ (m:List (Nat×AObj)),Gn o b ks vs s.H m->MZO o b ks vs (s.H d) (Z5 Zj m d):=by
  intro m
  induction m with
  |nil=>intro _;trivial
  |cons p r ih=>
   intro h;simp only[Z5,Ya]
   split
   rename_i e;subst e;exact h.1;exact ih h.2
 exact this m g
 have:∀ (m:List (Nat×AObj)),m.any (·.1==o)=false->Z5 Zj m o=.dead:=by
  intro m
  induction m with
  |nil=>intro _;rfl
  |cons p r ih=>
   intro h;rw[List.any_cons,Bool.or_eq_false_iff,beq_eq_false_iff_ne]at h;simp only[Z5];rw[Zp _ _ (Ne.symm h.1)];exact ih h.2
 have e:=this m a;have h:Z5 Zj m o=.mp lo b ks vs:=h;rw[e]at h;cases h
theorem Zus(n:Nat)(ob:AObj)(c:Col)(ks vs:List V):Ty (some (false,n)) ob (.view c (.mapv ks vs))=some (.mapv ks vs):=rfl
theorem Z1t(o b:Nat):(V.mref o b).cells=[.mref o b]:=rfl
theorem Zyq(o b:Nat):(V.mref o b).solid=true:=rfl
attribute[go_sem]Zus Z1t Zyq
end
section
variable{P:Program}
inductive V.Nw:V->Prop
 |bool (b:Bool):Nw (.bool b)
 |int (k:IntKind) (n:Int):Nw (.int k n)
 |str (s:List UInt8):Nw (.str s)
 |nils:Nw .nils
 |slice (clip:Bool) (E:Nat) (l:List V) (h:∀ x∈flat l,Nw x):Nw (.slice .new clip E l)
 |agg (l:List V) (h:∀ x∈l,Nw x):Nw (.agg l)
 |tuple (l:List V) (h:∀ x∈l,Nw x):Nw (.tuple l)
theorem Zh9{α : Type}{m:Nat}{f : α -> V}(d:∀ x,∀ y∈(f x).cells,V.Nw y)(s:Sl α):V.Nw (Za .new m f s):=by
 cases s with
 |nil=>exact .nils
 |mk b l=>
  refine .slice _ _ _ λx a=>?_;obtain⟨v,c,a⟩:=List.mem_flatMap.1 a
  grind
theorem Rel.nw{X Y:Cx}(r:Y.w=X.w)(o:∀ b i,X.S b i->X.base<=b->Y.S b i)(m:Y.base<=X.base){x:Value}{v:V}(h:Rel X x v)(g:v.Nw):Rel Y x v:=by
 induction h with
 |bool b=>exact .bool b
 |int k n=>exact .int k n
 |str s l h=>exact .str s l h
 |nils=>exact .nils
 |slice c clip E l b off cap f hcap hclip hE hc hr ih=>
  cases g with
  |slice _ _ _ h=>
   refine .slice .new clip E l b off cap f hcap hclip hE (λi j=>?_) (λi j=>ih i j (h _ (List.getElem_mem _)));obtain⟨e,d,q,p⟩:=hc i j;refine⟨o _ _ e d,Nat.le_trans m d,?_,p⟩;unfold Cx.cell at q⊢
   grind
 |slice0 c clip E a=>exact .slice0 c clip E a
 |agg xs l hx ho hr ih=>
  cases g with
  |agg _ h=>exact .agg xs l hx ho (λi e d=>ih i e d (h _ (List.getElem_mem _)))
 |tuple xs l hx hr ih=>
  cases g with
  |tuple _ h=>exact .tuple xs l hx (λi e d=>ih i e d (h _ (List.getElem_mem _)))
 |_=>cases g
theorem B8{G:Nat->V}(y:Y6 G){f:FuncId}{args:List V}{H:Heap}{K:V->Heap->Prop}(args':List V)(hen:Z7 P f=true)(D:RdL H args args')
  (h:Spec P G f args' Zj (λv _=>v.Nw/\K v H)):CallA P G f args H K:=by
 refine⟨hen,λX z l hG hA=>?_⟩
 let C:Cx:={ β := λ_ _=>none,S:=λb _=>b<X.w.heap.size,base:=X.w.heap.size,w:=X.w }
 have hIb:Inv C Zj:=⟨λo c g O Q p=>(by cases p),λo1 c1 g1 f1 l1 o2 c2 g2 f2 l2 b s1 s2 B=>(by grind),λb i d=>⟨d,λo c g O Q T p=>(by grind)⟩,λo=>⟨0,λ_ _=>rfl⟩,Nat.le_refl _,λb i d j=>absurd d (Nat.not_lt.2 j),.no λo lo b ks vs p=>(by cases p),.no λo b r p=>(by cases p)⟩
 have s:∀ x v,Rel X x v->v.Im->Rel C x (v.recol Col.ent):=λx v I W=>
  I.conv (X:=X) (Y:=C) Col.ent (λb i d=>(l.safe b i d).1) (λ_ _ _ _ h=>h) ⟨λ_ c _ h=>⟨c,h,rfl⟩,λ_ _ _ _ h=>h⟩ (λc b j _=>by cases c<;>first|grind|trivial) (.inr W)
 have hGe:∀ g,RelG C g (G g):=λg=>by
  refine⟨?_,(hG g).sz.reb rfl rfl (y g).1⟩;have:=s _ _ (hG g).rel (y g).2;rwa [(y g).1]at this
 have hAe:RelA C z args':=by
  refine⟨by rw[hA.len,D.get.1],λi B A=>?_⟩;have hl:=D.get.1;refine Cv.rel (Y:=C) (F:=λ_=>true) (col:=λ_=>.old) l (λx v v' j I=>by obtain⟨B,rfl⟩:=j;exact s _ _ I B) ?_ (λ_ _ _ h=>h) (D.get.2 i zo A) (hA.rel i B zo);intro o c g O Q b T _ p R;exact⟨l.lt p R,λi _=>l.lt p R⟩
 refine(h C z rfl hIb hGe hAe).mono ?_;rintro e w' ⟨c,v,H',Y,rfl,rfl,E,I,U,hk⟩;have J:∀ b,¬ Xx C Zj b:=Ztc;have k:∀ b,b<X.w.heap.size->Y.w.heap[b]?=X.w.heap[b]? := λb j=>E.kp.block b j (J b);have m:Y.base=X.w.heap.size:=E.le.base
 let Z:Cx:={ X with w:=Y.w,S:=λb i=>X.S b i\/(Y.S b i/\X.w.heap.size<=b) }
 have u:X.le Z:=by
  refine⟨λ_ _ _ h=>h,λ_ _ h=>.inl h,λb i x d hc=>?_,rfl,λb c t j=>⟨c,?_,rfl⟩,λb es n _ j=>?_⟩;have:=k b (World.block_lt_of_cell? _ _ hc)
  show Y.w.cell? ⟨b,i,none⟩=some x
  rw[World.cell?_of_block (w:=X.w) (a:=⟨b,i,none⟩) this];exact hc
  have:b<X.w.heap.size:=by rw[Array.getElem?_eq_some_iff]at j;exact j.1
  rw[k b this];exact j
  have:b<X.w.heap.size:=by rw[Array.getElem?_eq_some_iff]at j;exact j.1
  rw[k b this];exact j
 have M:Keep (Xx X H) X.w Z.w:=E.kp.mono λb _ hl=>absurd hl (J b);have N:∀ b i,Z.S b i->X.S b i\/X.w.heap.size<=b\/Xx X H b:=λb i d=>d.imp id λq=>.inl q.2;refine⟨c,v,H,Z,rfl,rfl,⟨⟨?_,l.inj,?_,l.fin,?_,λb i d j=>?_,l.mps_tr u (λ_ _ _ _ _ h=>h) M N,l.lps_tr (λ_ _ _ h=>h) λb r j=>k b (Array.getElem?_eq_some_iff.1 j).1⟩,u,M,N,λb j=>.inr j⟩,?_,hk⟩;intro o c g O Q p;obtain⟨b,T,B,A,c',t,h3,h4,h5⟩:=l.obj o c g O Q p;exact⟨b,T,B,A,c',t,by rw[k b (l.lt p B)];exact h3,h4,h5.mono u⟩;rintro b i (d|⟨d,L⟩);exact⟨Nat.lt_of_lt_of_le (l.safe b i d).1 E.kp.size,(l.safe b i d).2⟩;refine⟨(E.inv.safe b i d).1,λo c g O Q T p R => ?_⟩;have:=l.lt p R;omega;exact Nat.le_trans l.bw E.kp.size
 rcases d with d|⟨d,L⟩
 rcases l.thaw b i d j with ⟨c1,t1,A⟩|⟨rfl,es,n,A⟩
 obtain⟨c2,h3,_⟩:=u.blk b c1 t1 A;exact .inl ⟨c2,t1,h3⟩;exact .inr ⟨rfl,es,n,u.map b es n d A⟩;exact E.inv.thaw b i d (by rw[m];exact L);exact I.nw (X:=Y) (Y:=Z) rfl (λb i B A=>.inr ⟨B,by rw[m]at A;exact A⟩) (by rw[m];exact l.bw) U
theorem BorC.nw{G:Nat->V}{f:FuncId}{args:List V}{H:Heap}{v:V}(args':List V)(a:Z7 P f=true)(h:RdL H args args')(b:Spec P G f args' Zj (λv' _=>v'.Nw/\v'=v)):BorC P G f args H v:=
 λd _ c=>B8 d args' a h (b.mono λ_ _ ⟨g,e⟩=>⟨g,by rw[e];exact c⟩)
end
end Go.Hs
