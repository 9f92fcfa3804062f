/- A part. No condition. -/
import Derived.Test.YtkennpiglkfalaaGreatDoorP32
set_option linter.all false
open Option renaming none->ah
namespace Go.Hs
section
variable{P:Program}{E:BX}{ops:Array Oper}{Q:AS->Prop}{rest:List Oper}{d:Option Nat}{ty:TypeId}{pos:String}{af:Array Edge}{τ:Nat->V}{H:A'}{kp:FP}{T:MK}{i:Nat}
@[go_sem] def AC'(t m x ok):Yx P E ops Q (⟨d,.lookup t m x ok,ty,pos,af,ah⟩::rest) ⟨τ,H⟩ =
  Pj P E ops Q rest d τ H (Rw P H t (AS.ev E ⟨τ,H⟩ m) (AS.ev E ⟨τ,H⟩ x) ok):=by
 show(match Rw P H t _ _ ok with|some v=>Yx P E _ Q _ _|none=>False)=_;cases Rw P H t _ _ ok<;>rfl
def dY(P:Program)(b:Nat)(t:TypeId)(x:V)(ok:Bool):BL->Option V
 |.mp _ b' ks vs=>if b'=b then Kh P t (.FM ks vs) x ok else ah|_=>ah
def m_(H t o b x ok):Rw P H t (.DF o b) x ok=dY P b t x ok (H o):=rfl
def uj(X H n q G kp df):BX.N ⟨X,H,n,q,G,kp,df,.HF⟩=X.w.heap.size:=rfl
def lj(X H n q G kp df N lo)(h:N=lo):(BX.N ⟨X,H,n,q,G,kp,df,.inl N⟩<=lo)=True:=eq_true (h ▸ Nat.min_le_left _ _)
def pY(b t x ok lo ks vs):dY P b t x ok (.mp lo b ks vs)=Kh P t (.FM ks vs) x ok:=AF rfl
def AAO(t m x ok):Xx P E kp ops Q T i (⟨d,.lookup t m x ok,ty,pos,af,ah⟩::rest) ⟨τ,H⟩=Yx P E ops (Xx P E kp ops Q T (i+1) rest) [⟨d,.lookup t m x ok,ty,pos,af,ah⟩] ⟨τ,H⟩:=Wp _ rfl rfl rfl
def nt(t)(e:Nat):Yx P E ops Q (⟨some e,.makeMap t ah,ty,pos,af,ah⟩::rest) ⟨τ,H⟩ =
  ∀ b,Yx P E ops Q rest ⟨Ye τ e (.DF (E.q+e) b),Ye H (E.q+e) (.mp E.X0.w.heap.size b [] [])⟩:=by
 rfl
def yA(t m k x):Yx P E ops Q (⟨d,.mapUpdate t m k x,ty,pos,af,ah⟩::rest) ⟨τ,H⟩ =
  Rv P E.N H t (AS.ev E ⟨τ,H⟩ m) (AS.ev E ⟨τ,H⟩ k) (AS.ev E ⟨τ,H⟩ x) λv H'=>Yx P E ops Q rest (AS.put ⟨τ,H'⟩ d v):=by
 rfl
def vM(t m k x):Xx P E kp ops Q T i (⟨d,.mapUpdate t m k x,ty,pos,af,ah⟩::rest) ⟨τ,H⟩=Yx P E ops (JL P kp (Xx P E kp ops Q T (i+1) rest)) [⟨d,.mapUpdate t m k x,ty,pos,af,ah⟩] ⟨τ,H⟩:=Dn _ rfl rfl rfl
attribute[go_sem]m_ uj lj pY AAO nt yA vM
def Ao(lo0 b:Nat)(kd:TypeDesc)(ob:BL)(k x:V)(K:Nat->List V×List V->Prop):Prop:=match ob with|.mp lo b' ks vs=>b'=b/\lo0<=lo/\N7 (KN kd k x ks vs) (K lo)|_=>False
def Ln{lo0 o b t kt et kd k x K}(a:P.underlying t=some (.map kt et))(c:P.underlying kt=some kd):Rv P lo0 H t (.DF o b) k x K=Ao lo0 b kd (H o) k x λlo p=>K (.tuple []) (Ye H o (.mp lo b p.1 p.2)):=by unfold Rv Ao;simp only[a];cases H o with|mp lo b' ks vs=>simp only[c];cases KN kd k x ks vs<;>rfl|_=>rfl
def Dm{α}(v)(K:α->Prop):N7 (some v) K=K v:=rfl
@[go_sem] def AD0(lo0 lo b b' kd ks vs k x K):Ao lo0 b kd (.mp lo b' ks vs) k x K=(b'=b/\lo0<=lo/\N7 (KN kd k x ks vs) (K lo)):=rfl
def MZ(o b:Nat)(ks vs:List V)(v v':V):Prop:=v'=v\/(v=.DF o b/\v'=.FM ks vs)
def mzL(o b:Nat)(ks vs:List V):List V->List V->Prop
 |[],[]=>True|v::l,v'::l'=>MZ o b ks vs v v'/\mzL o b ks vs l l'|_,_=>False
def MZO(o b:Nat)(ks vs:List V)(ob ob':BL):Prop:=match ob' with|.AR=>True|.cells c g fz cs'=>∃ cs,ob=.cells c g fz cs/\mzL o b ks vs cs cs'|.mp lo b' ks' vs'=>ob=.mp lo b' ks' vs'|.lp b r=>ob=.lp b r
def mzL.get{o b ks vs}:∀ {l l'},mzL o b ks vs l l'->l'.length=l.length/\∀ i h1 (h2:i<l'.length),MZ o b ks vs l[i] l'[i]
 |[],[],_=>⟨rfl,λi h1=>by grind⟩|v::l,v'::l',h=>by have⟨h1,h2⟩:=mzL.get h.2;refine⟨by grind,λi c a=>?_⟩;rcases i with _|i;exact h.1;grind
def sK{s s'}(o){lo b ks vs}(P:s.H o=.mp lo b ks vs)(hlo:E.N<=lo)(hτ:∀ t,s'.τ t=.top\/MZ o b ks vs (s.τ t) (s'.τ t))(V:∀ o',MZO o b ks vs (s.H o') (s'.H o'))(Q:∀ lo b ks vs,s'.H o=.mp lo b ks vs->False):Weak E s s':=by
 rintro a w ⟨X,l⟩;have m:=l.go.BJ;have⟨hl1,R,I,es,n,L,e1,e2,e3,e4⟩:=m.KB o lo b ks vs P;have K:b<X.w.heap.size:=by rw[DB]at L;exact L.1
 let Y:={X with S:=λe i=>X.S e i\/e=b/\i=0};have f:X.le Y:=⟨λ_ _ _ h=>h,λ_ _ h=>.inl h,λ_ _ _ _ h=>h,rfl,λ_ c _ h=>⟨c,h,rfl⟩,λ_ _ _ _ h=>h⟩;have hrel:∀ {x v M},MZ o b ks vs v M->AI X x v->AI Y x M:=by
  intro x v M hz hr;rcases hz with rfl|⟨rfl,rfl⟩;exact hr.mono f
  .cases hr;exact .FM b n es ks vs (.inr ⟨rfl,rfl⟩) L e1 e2 (λi u p=>(e3 i u p).mono f) (λi u p=>(e4 i u p).mono f)
 have k:∀ o' c g y d,s'.H o'=.cells c g y d->∃ z,s.H o'=.cells c g y z/\d.length=z.length/\∀ i (j) (h2:i<d.length),MZ o b ks vs z[i] d[i]:=by intro o' c g y d h;have:=V o';rw[h]at this;have⟨z,j,h2⟩:=this;exact⟨z,j,h2.get⟩
 have hL:∀ o' b r,s'.H o'=.lp b r->s.H o'=.lp b r:=λo' b r h=>by have:=V o';rw[h]at this;exact this
 have U:∀ o' B e C A,s'.H o'=.mp _ e _ _->s.H o'=.mp B e C A:=λo' B e C A h=>by have:=V o';rw[h]at this;exact this
 have J:BZ Y s'.H:=by refine⟨?_,?_,?_,m.CK,m.bw,?_,λo' B e C A h=>?_,m.lps_tr hL λ_ _ _=>rfl⟩;intro o' c g y d h;have⟨z,j,h2,h3⟩:=k _ _ _ _ _ h;have⟨e,F,u,p,c',t,q3,q4,O⟩:=m.DQ _ _ _ _ _ j;refine⟨e,F,u,p,c',t,q3,zo,?_⟩;rw[h2];exact⟨by rw[O.len,h2],O.one,λi k1 k2=>hrel (h3 i zo k2) (O.CV i k1 zo)⟩;intro o1 c1 g1 f1 l1 o2 c2 g2 f2 l2 e s1 s2 j h2;have⟨_,j,_⟩:=k _ _ _ _ _ j;have⟨_,h2,_⟩:=k _ _ _ _ _ h2;exact m.inj _ _ _ _ _ _ _ _ _ _ _ _ _ j h2;rintro e i (D|⟨rfl,rfl⟩);refine⟨(m.DD e i D).1,λo' c g y d F h G => ?_⟩;have⟨_,j,_⟩:=k _ _ _ _ _ h;exact(m.DD e i D).2 _ _ _ _ _ _ j G;refine⟨K,λo' c g y d F h G => ?_⟩;have⟨_,j,_⟩:=k _ _ _ _ _ h;exact absurd (.inl ⟨o',c,g,y,_,F,j,G⟩) (m.not_live L);rintro e i (D|⟨rfl,rfl⟩) T;exact m.IM e i D T;exact .inr ⟨rfl,es,n,L⟩;have⟨k1,k2,k3,W,n',k4,k5,k6,k7,k8⟩:=m.KB _ _ _ _ _ (U _ _ _ _ _ h);refine⟨k1,?_,λo2 lo2 ks2 vs2 q=>k3 _ _ _ _ (U _ _ _ _ _ q),W,n',k4,k5,k6,λi u p=>(k7 i u p).mono f,λi u p=>(k8 i u p).mono f⟩;rintro(q|⟨rfl,_⟩);exact k2 q;exact Q _ _ _ _ ((I _ _ _ _ (U _ _ _ _ _ h)) ▸ h)
 refine⟨Y,l.hw,⟨J,l.go.le.trans f,l.go.kp,?_,Ue (λo' b r P=>l.go.on b (.inr ⟨o',r,hL _ _ _ P⟩)) ?_⟩,l.df.mono f (λ_ _=>rfl),l.sz,λt=>?_,λg=>⟨(l.gl g).CV.mono f,(l.gl g).sz⟩⟩;rintro e i (D|⟨rfl,rfl⟩);exact l.go.Sn e i D;exact .inr (.inl zo);rintro e ⟨o',c,g,y,d,F,h,G⟩;have⟨z,j,_⟩:=k _ _ _ _ _ h;exact l.go.on e (.inl ⟨o',c,g,y,z,F,j,G⟩);rcases hτ t with h|h;rw[h];exact .top _;exact hrel h (l.tm t)
def PH(o b:Nat)(ks vs:List V)(f:Nat->V):List (Nat×V)->Prop
 |[]=>True|p::r=>MZ o b ks vs (f p.1) p.2/\PH o b ks vs f r
def Cm(o b:Nat)(ks vs:List V)(f:Nat->BL):List (Nat×BL)->Prop
 |[]=>True|p::r=>MZO o b ks vs (f p.1) p.2/\Cm o b ks vs f r
def wT(o b ks vs f):PH o b ks vs f []=True:=rfl
def vH(o b ks vs f p r):PH o b ks vs f (p::r)=(MZ o b ks vs (f p.1) p.2/\PH o b ks vs f r):=rfl
def vd(o b ks vs f):Cm o b ks vs f []=True:=rfl
def oO(o b ks vs f p r):Cm o b ks vs f (p::r)=(MZO o b ks vs (f p.1) p.2/\Cm o b ks vs f r):=rfl
attribute[go_sem]wT vH vd oO
def g_{s}(o){lo b ks vs}(l m)(f:s.H o=.mp lo b ks vs)(c:E.N<=lo)(i:PH o b ks vs s.τ l)(g:Cm o b ks vs s.H m)(a:m.any (·.1==o)=false:=by rfl):Weak E s (Hs.st l m):=by
 refine sK o f c (λt=>?_) (λd=>?_) (λlo b ks vs h=>?_);have:∀ (l),PH o b ks vs s.τ l->Yb Mv l t=.top\/MZ o b ks vs (s.τ t) (Yb Mv l t):=by
  intro l
  induction l with|nil=>intro _;exact .inl rfl|cons p r ih=>intro h;simp only[Yb,Ye];split;rename_i e;subst e;exact .inr h.1;exact ih h.2
 exact this l i;have:∀ (m),Cm o b ks vs s.H m->MZO o b ks vs (s.H d) (Yb Zm m d):=by
  intro m
  induction m with|nil=>intro _;trivial|cons p r ih=>intro h;simp only[Yb,Ye];split;rename_i e;subst e;exact h.1;exact ih h.2
 exact this m g;have:∀ (m),m.any (·.1==o)=false->Yb Zm m o=.AR:=by
  intro m
  induction m with|nil=>intro _;rfl|cons p r ih=>intro h;rw[HR,PY,FD]at h;simp only[Yb];rw[Zy _ _ (FS h.1)];exact ih h.2
 have e:=this m a;have h:Yb _ m o=.mp lo b ks vs:=h;rw[e]at h;cases h
@[go_sem] def ADd(o b):(V.DF o b).cells=[.DF o b]:=rfl
@[go_sem] def AEW(o b):(V.DF o b).solid=true:=rfl
end
section
variable{P:Program}
inductive V.Nw:V->Prop
 |bool (b:Bool):Nw (.bool b)
 |int (k:IntKind) (n:Int):Nw (.int k n)
 |AB (s:bS):Nw (.AB s)
 |AG:Nw .AG
 |slice (clip:Bool) (E:Nat) (l:List V) (h:∀ x∈flat l,Nw x):Nw (.slice .new clip E l)
 |agg (l:List V) (h:∀ x∈l,Nw x):Nw (.agg l)
 |tuple (l:List V) (h:∀ x∈l,Nw x):Nw (.tuple l)
def UI{α m f}(d:∀ x,∀ y∈(f x).cells,V.Nw y)(s:Sl α):V.Nw (Za .new m f s):=by rcases s with _|⟨b,l⟩;exact .AG;refine .slice _ _ _ λx a=>?_;have⟨v,c,a⟩:=KK.1 a;grind
def AI.nw{X Y}(q:Y.w=X.w)(m:∀ b i,X.S b i->X.base<=b->Y.S b i)(j:Y.base<=X.base){x v}(h:AI X x v)(e:v.Nw):AI Y x v:=by
 induction h with
 |bool b=>exact .bool b|int k n=>exact .int k n|AB s l h=>exact .AB s l h|AG=>exact .AG|slice c clip E l b off cap f hcap hclip hE hc hr ih=>cases e with|slice _ _ _ h=>refine .slice _ _ E l b _ _ f hcap hclip hE (λi g=>?_) (λi g=>ih i g (h _ (BT _)));have⟨d,h2,p,o⟩:=hc i g;refine⟨m _ _ d h2,CT j h2,?_,o⟩;unfold Cx.cell at p⊢;grind
 |slice0 c clip E a=>exact .slice0 c _ E a|agg xs l hx ho hr ih=>cases e with|agg _ h=>exact .agg xs l hx ho (λi d h2=>ih i d h2 (h _ (BT _)))
 |tuple xs l hx hr ih=>cases e with|tuple _ h=>exact .tuple xs l hx (λi d h2=>ih i d h2 (h _ (BT _)))
 |_=>cases e
def Gu{G}(u:Yy G){f args H K}(args')(T:Yf P f=true)(B:RdL H args args')(h:Spec P G f args' Zm (λv _=>v.Nw/\K v H)):CallA P G f args H K:=by
 refine⟨T,λX y k hG hA=>?_⟩;let A:Cx:={β:=λ_ _=>ah,S:=λb _=>b<X.w.heap.size,base:=X.w.heap.size,w:=X.w};have U:BZ A Zm:=⟨λo c g L M m=>(by cases m),λo1 c1 g1 f1 l1 o2 c2 g2 f2 l2 b s1 s2 z=>zG,λb i a=>⟨a,λo c g L M O m=>zG⟩,λo=>⟨0,λ_ _=>rfl⟩,BO _,λb i a d=>absurd a (PA.2 d),.no λo lo b ks vs m=>(by cases m),.no λo b r m=>(by cases m)⟩;have p:∀ x v,AI X x v->v.Im->AI A x _:=λx v D R=>
  D.conv (Y:=A) AH.ent (λb i a=>(k.DD b i a).1) (λ_ _ _ _ h=>h) ⟨λ_ c _ h=>⟨c,h,rfl⟩,λ_ _ _ _ h=>h⟩ (λc b d _=>by cases c<;>first|grind|trivial) (.inr R)
 have V:∀ g,FI A g _:=λg=>by refine⟨?_,(hG g).sz.reb rfl rfl (u g).1⟩;have:=p _ _ (hG g).CV (u g).2;rwa [(u g).1]at this
 have W:FA A y args':=by refine⟨by rw[hA.len,B.get.1],λi z h2=>?_⟩;have hl:=B.get.1;refine Cv.CV (Y:=A) k (λx v v' d D=>by obtain⟨z,rfl⟩:=d;exact p _ _ D z) ?_ (λ_ _ _ h=>h) (B.get.2 i zo h2) (hA.CV i z zo);intro o c g L M b O _ m N;exact⟨k.lt m N,λi _=>k.lt m N⟩
 refine(h A y rfl U V W).mono ?_;rintro e w' ⟨c,v,H',Y,rfl,rfl,C,D,Q,hk⟩;have E:∀ b,¬Wk A Zm b:=F0;have j:=λb d=>C.kp.block b d (E b);have l:=C.le.base;let Z:={X with w:=Y.w,S:=λb i=>X.S b i\/(Y.S b i/\X.w.heap.size<=b)};have s:X.le Z:=by
  refine⟨λ_ _ _ h=>h,λ_ _ h=>.inl h,λb i x a hc=>?_,rfl,λb c t d=>⟨c,?_,rfl⟩,λb es n _ d=>?_⟩;have:=j b (World.block_lt_of_cell? _ _ hc);show Y.w.cell? ⟨b,i,ah⟩=some x;rw[World.cell?_of_block this];exact hc;have:b<X.w.heap.size:=by rw[DB]at d;exact d.1
  rw[j b this];exact d;have:b<X.w.heap.size:=by rw[DB]at d;exact d.1
  rw[j b this];exact d
 have I:E_ (Wk X H) X.w Z.w:=C.kp.mono λb _ hl=>absurd hl (E b);have J:∀ b i,Z.S b i->X.S b i\/X.w.heap.size<=b\/Wk X H b:=λb i a=>a.imp id λq=>.inl q.2;refine⟨c,v,H,Z,rfl,rfl,⟨⟨?_,k.inj,?_,k.CK,?_,λb i a d=>?_,k.mps_tr s (λ_ _ _ _ _ h=>h) I J,k.lps_tr (λ_ _ _ h=>h) λb r d=>j b (DB.1 d).1⟩,s,I,J,λb d=>.inr d⟩,?_,hk⟩;intro o c g L M m;have⟨b,O,z,h2,c',t,h3,h4,h5⟩:=k.DQ o c g L M m;exact⟨b,O,z,h2,c',t,by rw[j b (k.lt m z)];exact h3,h4,h5.mono s⟩;rintro b i (a|⟨a,F⟩);exact⟨GU (k.DD b i a).1 C.kp.size,(k.DD b i a).2⟩;refine⟨(C.BJ.DD b i a).1,λo c g L M O m N => ?_⟩;have:=k.lt m N;omega;exact CT k.bw C.kp.size;rcases a with a|⟨a,F⟩;rcases k.IM b i a d with ⟨c1,t1,h2⟩|⟨rfl,es,n,h2⟩;have⟨c2,h3,_⟩:=s.blk b c1 t1 h2;exact .inl ⟨c2,t1,h3⟩;exact .inr ⟨rfl,es,n,s.map b es n a h2⟩;exact C.BJ.IM b i a (by rw[l];exact F);exact D.nw (X:=Y) (Y:=Z) rfl (λb i z h2=>.inr ⟨z,by rw[l]at h2;exact h2⟩) (by rw[l];exact k.bw) Q
def Rd.agg{H xs ys}(h:RdL H xs ys):Rd H (.agg xs) (.agg ys):=Cv.agg xs ys h.get.1.symm h.get.2
