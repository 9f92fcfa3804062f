/- A part. No condition. -/
import Derived.Test.YtoahejkahaimnaaGreatDoorP33
set_option linter.all false
namespace Go.Hs
section
variable{P:Program}{E:Ent}{ops:Array Oper}{Q:AS->Prop}{rest:List Oper}{d:Option Nat}{ty:TypeId}{pos:String}{af:Array Edge}{τ : Nat->V}{H:Heap}{kp:Kps}{T:Told}{i:Nat}
@[go_sem] theorem opsA_lookup(t:TypeId)(m x:Operand)(ok:Bool):Zsa P E ops Q (⟨d,.lookup t m x ok,ty,pos,af,none⟩::rest) ⟨τ,H⟩ =
  Zsg P E ops Q rest d τ H (Zmg P H t (AS.ev E ⟨τ,H⟩ m) (AS.ev E ⟨τ,H⟩ x) ok):=by
 rw[Zeb]
 show(match Zmg P H t (AS.ev E ⟨τ,H⟩ m) (AS.ev E ⟨τ,H⟩ x) ok with|some v=>Zsa P E ops Q rest (AS.put ⟨τ,H⟩ d v)|none=>False)=_
 cases Zmg P H t (AS.ev E ⟨τ,H⟩ m) (AS.ev E ⟨τ,H⟩ x) ok<;>rfl
def lookO(P:Program)(b:Nat)(t:TypeId)(x:V)(ok:Bool):AObj->Option V
 |.mp _ b' ks vs=>if b'=b then Zam P t (.mapv ks vs) x ok else none
 |_=>none
theorem Zr9(H:Heap)(t:TypeId)(o b:Nat)(x:V)(ok:Bool):Zmg P H t (.mref o b) x ok=lookO P b t x ok (H o):=rfl
theorem N_marks(X:Cx)(H:Heap)(n q:Nat)(G:Nat->V)(kp:Option (V->Heap->Prop))(df:List V):Ent.N ⟨X,H,n,q,G,kp,df,.marks⟩=X.w.heap.size:=rfl
theorem N_inl(X:Cx)(H:Heap)(n q:Nat)(G:Nat->V)(kp:Option (V->Heap->Prop))(df:List V)(N lo:Nat)(h:N=lo):(Ent.N ⟨X,H,n,q,G,kp,df,.inl N⟩<=lo)=True:=eq_true (h ▸ Nat.min_le_left _ _)
theorem Zfma(b:Nat)(t:TypeId)(x:V)(ok:Bool)(lo:Nat)(ks vs:List V):lookO P b t x ok (.mp lo b ks vs)=Zam P t (.mapv ks vs) x ok:=if_pos rfl
theorem Za0(t:TypeId)(m x:Operand)(ok:Bool):Zbc P E kp ops Q T i (⟨d,.lookup t m x ok,ty,pos,af,none⟩::rest) ⟨τ,H⟩=Zsa P E ops (Zbc P E kp ops Q T (i+1) rest) [⟨d,.lookup t m x ok,ty,pos,af,none⟩] ⟨τ,H⟩:=Zya _ rfl rfl rfl
theorem Zyu(t:TypeId)(e:Nat):Zsa P E ops Q (⟨some e,.makeMap t none,ty,pos,af,none⟩::rest) ⟨τ,H⟩ =
  ∀ b,Zsa P E ops Q rest ⟨upd τ e (.mref (E.q+e) b),upd H (E.q+e) (.mp E.X0.w.heap.size b [] [])⟩:=by
 rw[Zeb];rfl
theorem Z6p(t:TypeId)(m k x:Operand):Zsa P E ops Q (⟨d,.mapUpdate t m k x,ty,pos,af,none⟩::rest) ⟨τ,H⟩ =
  Z6e P E.N H t (AS.ev E ⟨τ,H⟩ m) (AS.ev E ⟨τ,H⟩ k) (AS.ev E ⟨τ,H⟩ x) λv H'=>Zsa P E ops Q rest (AS.put ⟨τ,H'⟩ d v):=by
 rw[Zeb];rfl
theorem Z2p(t:TypeId)(m k x:Operand):Zbc P E kp ops Q T i (⟨d,.mapUpdate t m k x,ty,pos,af,none⟩::rest) ⟨τ,H⟩=Zsa P E ops (kpQ P kp (Zbc P E kp ops Q T (i+1) rest)) [⟨d,.mapUpdate t m k x,ty,pos,af,none⟩] ⟨τ,H⟩:=Z0n _ rfl rfl rfl
attribute[go_sem]Zr9 N_marks N_inl Zfma Za0 Zyu Z6p Z2p
def Zvs(lo0 b:Nat)(kd:TypeDesc)(ob:AObj)(k x:V)(K:Nat->List V×List V->Prop):Prop:=match ob with
 |.mp lo b' ks vs=>b'=b/\lo0<=lo/\Zzn (putV kd k x ks vs) (K lo)
 |_=>False
theorem Zah{lo0 o b:Nat}{t kt et:TypeId}{kd:TypeDesc}{k x:V}{K:V->Heap->Prop}(hu:P.underlying t=some (.map kt et))(hk:P.underlying kt=some kd):
  Z6e P lo0 H t (.mref o b) k x K=Zvs lo0 b kd (H o) k x λlo p=>K (.tuple []) (upd H o (.mp lo b p.1 p.2)):=by
 unfold Z6e Zvs;simp only[hu]
 cases H o with
 |mp lo b' ks vs=>
  simp only[hk]
  congr 2
  cases putV kd k x ks vs<;>rfl
 |_=>rfl
theorem Zyn{α : Type}(v : α)(K : α -> Prop):Zzn (some v) K=K v:=rfl
@[go_sem] theorem mapSetK_mp(lo0 lo b b':Nat)(kd:TypeDesc)(ks vs:List V)(k x:V)(K:Nat->List V×List V->Prop):Zvs lo0 b kd (.mp lo b' ks vs) k x K=(b'=b/\lo0<=lo/\Zzn (putV kd k x ks vs) (K lo)):=rfl
def MZ(o b:Nat)(ks vs:List V)(v v':V):Prop:=v'=v\/(v=.mref o b/\v'=.mapv ks vs)
def mzL(o b:Nat)(ks vs:List V):List V->List V->Prop
 |[],[]=>True
 |v::l,v'::l'=>MZ o b ks vs v v'/\mzL o b ks vs l l'
 |_,_=>False
def MZO(o b:Nat)(ks vs:List V)(ob ob':AObj):Prop:=match ob' with
 |.dead=>True
 |.cells c g fz cs'=>∃ cs,ob=.cells c g fz cs/\mzL o b ks vs cs cs'
 |.mp lo b' ks' vs'=>ob=.mp lo b' ks' vs'
 |.lp b r=>ob=.lp b r
theorem mzL.get{o b:Nat}{ks vs:List V}:∀ {l l':List V},mzL o b ks vs l l'->l'.length=l.length/\∀ i (h1:i<l.length) (h2:i<l'.length),MZ o b ks vs l[i] l'[i]
 |[],[],_=>⟨rfl,λi h1=>by simp at h1⟩
 |v::l,v'::l',h=>by
  obtain⟨h1,h2⟩:=mzL.get h.2;refine⟨by simp[h1],λi q1 q2=>?_⟩
  cases i with
  |zero=>exact h.1
  |succ i=>exact h2 i (zu q1) (zu q2)
theorem Zg1{s s':AS}(o:Nat){lo b:Nat}{ks vs:List V}(ho:s.H o=.mp lo b ks vs)(hlo:E.N<=lo)(hτ : ∀ t,s'.τ t=.top\/MZ o b ks vs (s.τ t) (s'.τ t))(hH:∀ o',MZO o b ks vs (s.H o') (s'.H o'))(hno:∀ lo b ks vs,s'.H o=.mp lo b ks vs->False):Weak E s s':=by
 rintro a w ⟨X,hX⟩;have hI:=hX.go.inv;obtain⟨hl1,hfree,hone,es,n,hb,e1,e2,e3,e4⟩:=hI.mps o lo b ks vs ho
 have hblt:b<X.w.heap.size:=by rw[Array.getElem?_eq_some_iff]at hb;exact hb.1
 let Y:Cx:={ X with S:=λb' i=>X.S b' i\/b'=b/\i=0 }
 have hle:X.le Y:=⟨λ_ _ _ h=>h,λ_ _ h=>.inl h,λ_ _ _ _ h=>h,rfl,λ_ c _ h=>⟨c,h,rfl⟩,λ_ _ _ _ h=>h⟩
 have hrel:∀ {x v v'},MZ o b ks vs v v'->Rel X x v->Rel Y x v':=by
  intro x v v' hz hr
  rcases hz with rfl|⟨rfl,rfl⟩
  exact hr.mono hle
  .cases hr with
   |mref=>exact .mapv b n es ks vs (.inr ⟨rfl,rfl⟩) hb e1 e2 (λi q1 q2=>(e3 i q1 q2).mono hle) (λi q1 q2=>(e4 i q1 q2).mono hle)
 have key:∀ o' c g fz cs',s'.H o'=.cells c g fz cs'->∃ cs,s.H o'=.cells c g fz cs/\cs'.length=cs.length/\∀ i (h1:i<cs.length) (h2:i<cs'.length),MZ o b ks vs cs[i] cs'[i]:=by
  intro o' c g fz cs' h;have:=hH o';rw[h]at this;obtain⟨cs,h1,h2⟩:=this;exact⟨cs,h1,h2.get⟩
 have hL:∀ o' b r,s'.H o'=.lp b r->s.H o'=.lp b r:=λo' b r h=>by
  have:=hH o';rw[h]at this;exact this
 have hM:∀ o' lo' b' ks' vs',s'.H o'=.mp lo' b' ks' vs'->s.H o'=.mp lo' b' ks' vs':=λo' lo' b' ks' vs' h=>by
  have:=hH o';rw[h]at this;exact this
 have hinv:Inv Y s'.H:=by
  refine⟨?_,?_,?_,hI.fin,hI.bw,?_,λo' lo' b' ks' vs' h=>?_,hI.lps_tr hL λ_ _ _=>rfl⟩;intro o' c g fz cs' h;obtain⟨cs,h1,h2,h3⟩:=key _ _ _ _ _ h;obtain⟨b',bs,q1,q2,c',t,q3,q4,q5⟩:=hI.obj _ _ _ _ _ h1;refine⟨b',bs,q1,q2,c',t,q3,zo,?_⟩;rw[h2];exact⟨by rw[q5.len,h2],q5.one,λi k1 k2=>hrel (h3 i zo k2) (q5.rel i k1 zo)⟩;intro o1 c1 g1 f1 l1 o2 c2 g2 f2 l2 b' s1 s2 h1 h2;obtain⟨_,h1,_⟩:=key _ _ _ _ _ h1;obtain⟨_,h2,_⟩:=key _ _ _ _ _ h2;exact hI.inj _ _ _ _ _ _ _ _ _ _ _ _ _ h1 h2;rintro b' i (hs|⟨rfl,rfl⟩);refine⟨(hI.safe b' i hs).1,λo' c g fz cs' bs h hβ => ?_⟩;obtain⟨_,h1,_⟩:=key _ _ _ _ _ h;exact(hI.safe b' i hs).2 _ _ _ _ _ _ h1 hβ;refine⟨hblt,λo' c g fz cs' bs h hβ => ?_⟩;obtain⟨_,h1,_⟩:=key _ _ _ _ _ h;exact absurd (.inl ⟨o',c,g,fz,_,bs,h1,hβ⟩) (hI.not_live hb);rintro b' i (hs|⟨rfl,rfl⟩) hb';exact hI.thaw b' i hs hb';exact .inr ⟨rfl,es,n,hb⟩;obtain⟨k1,k2,k3,es',n',k4,k5,k6,k7,k8⟩:=hI.mps _ _ _ _ _ (hM _ _ _ _ _ h);refine⟨k1,?_,λo2 lo2 ks2 vs2 q=>k3 _ _ _ _ (hM _ _ _ _ _ q),es',n',k4,k5,k6,λi q1 q2=>(k7 i q1 q2).mono hle,λi q1 q2=>(k8 i q1 q2).mono hle⟩;rintro(q|⟨rfl,_⟩);exact k2 q;exact hno _ _ _ _ ((hone _ _ _ _ (hM _ _ _ _ _ h)) ▸ h)
 refine⟨Y,hX.hw,⟨hinv,hX.go.le.trans hle,hX.go.kp,?_,Zmd (λo' b r ho=>hX.go.on b (.inr ⟨o',r,hL _ _ _ ho⟩)) ?_⟩,hX.df.mono hle (λ_ _=>rfl),hX.sz,λt=>?_,λg=>⟨(hX.gl g).rel.mono hle,(hX.gl g).sz⟩⟩;rintro b' i (hs|⟨rfl,rfl⟩);exact hX.go.Sn b' i hs;exact .inr (.inl zo);rintro b' ⟨o',c,g,fz,cs',bs,h,hβ⟩;obtain⟨cs,h1,_⟩:=key _ _ _ _ _ h;exact hX.go.on b' (.inl ⟨o',c,g,fz,cs,bs,h1,hβ⟩)
 rcases hτ t with h|h
 rw[h];exact .top _;exact hrel h (hX.tm t)
def Z6aa(o b:Nat)(ks vs:List V)(f:Nat->V):List (Nat×V)->Prop
 |[]=>True
 |p::r=>MZ o b ks vs (f p.1) p.2/\Z6aa o b ks vs f r
def Znr(o b:Nat)(ks vs:List V)(f:Nat->AObj):List (Nat×AObj)->Prop
 |[]=>True
 |p::r=>MZO o b ks vs (f p.1) p.2/\Znr o b ks vs f r
theorem Zmia(o b:Nat)(ks vs:List V)(f:Nat->V):Z6aa o b ks vs f []=True:=rfl
theorem Z4aa(o b:Nat)(ks vs:List V)(f:Nat->V)(p:Nat×V)(r:List (Nat×V)):Z6aa o b ks vs f (p::r)=(MZ o b ks vs (f p.1) p.2/\Z6aa o b ks vs f r):=rfl
theorem Z5aa(o b:Nat)(ks vs:List V)(f:Nat->AObj):Znr o b ks vs f []=True:=rfl
theorem Zc1(o b:Nat)(ks vs:List V)(f:Nat->AObj)(p:Nat×AObj)(r:List (Nat×AObj)):Znr o b ks vs f (p::r)=(MZO o b ks vs (f p.1) p.2/\Znr o b ks vs f r):=rfl
attribute[go_sem]Zmia Z4aa Z5aa Zc1
theorem Zqr{s:AS}(o:Nat){lo b:Nat}{ks vs:List V}(l:List (Nat×V))(m:List (Nat×AObj))(ho:s.H o=.mp lo b ks vs)(hlo:E.N<=lo)(hl:Z6aa o b ks vs s.τ l)(hm:Znr o b ks vs s.H m)(hno:m.any (·.1==o)=false:=by rfl):Weak E s (Hs.st l m):=by
 refine Zg1 o ho hlo (λt=>?_) (λo'=>?_) (λlo b ks vs h=>?_)
 have:∀ (l:List (Nat×V)),Z6aa o b ks vs s.τ l->Zfa emp l t=.top\/MZ o b ks vs (s.τ t) (Zfa emp l t):=by
  intro l
  induction l with
  |nil=>intro _;exact .inl rfl
  |cons p r ih=>
   intro h;simp only[Zfa,upd]
   split
   rename_i e;subst e;exact .inr h.1;exact ih h.2
 exact this l hl
 have:∀ (m:List (Nat×AObj)),Znr o b ks vs s.H m->MZO o b ks vs (s.H o') (Zfa Zk m o'):=by
  intro m
  induction m with
  |nil=>intro _;trivial
  |cons p r ih=>
   intro h;simp only[Zfa,upd]
   split
   rename_i e;subst e;exact h.1;exact ih h.2
 exact this m hm
 have:∀ (m:List (Nat×AObj)),m.any (·.1==o)=false->Zfa Zk m o=.dead:=by
  intro m
  induction m with
  |nil=>intro _;rfl
  |cons p r ih=>
   intro h;rw[List.any_cons,Bool.or_eq_false_iff,beq_eq_false_iff_ne]at h;simp only[Zfa];rw[Zi _ _ (Ne.symm h.1)];exact ih h.2
 have e:=this m hno;have h:Zfa Zk m o=.mp lo b ks vs:=h;rw[e]at h;cases h
theorem Z6ja{G:Nat->V}{kq:Option (V->Heap->Prop)}{f:FuncId}{fn:Func}{c:Code}{args:List V}{H:Heap}{K:V->Heap->Prop}(q:Nat)(n:Nat)(rs:List ResultVar)(hf:P.funcs[f]?=some fn)(hb:fn.body=some c)(hn:fn.ntmps=n)(hr:fn.results.toList=rs)
  (hn0:Nat.ble args.length n=true) (h:∀ X,AW P ⟨X,H,n,q,G,kq,[],.plain⟩ c (Zeg P rs K) ⟨Zve 0 args,H⟩):SpecP P G kq f args H K:=by
 subst hn;subst hr;exact Zok q hf hb hn0 h
@[go_sem] theorem cells_mref(o b:Nat):(V.mref o b).cells=[.mref o b]:=rfl
@[go_sem] theorem solid_mref(o b:Nat):(V.mref o b).solid=true:=rfl
end
section
variable{P:Program}
inductive V.Nw:V->Prop
 |bool (b:Bool):Nw (.bool b)
 |int (k:IntKind) (n:Int):Nw (.int k n)
 |str (s:List UInt8):Nw (.str s)
 |nils:Nw .nils
 |slice (clip:Bool) (E:Nat) (l:List V) (h:∀ x∈flat l,Nw x):Nw (.slice .new clip E l)
 |agg (l:List V) (h:∀ x∈l,Nw x):Nw (.agg l)
 |tuple (l:List V) (h:∀ x∈l,Nw x):Nw (.tuple l)
theorem Zj7{α : Type}{m:Nat}{f : α -> V}(hf:∀ x,∀ y∈(f x).cells,V.Nw y)(s:Sl α):V.Nw (Za .new m f s):=by
 cases s with
 |nil=>exact .nils
 |mk b l=>
  refine .slice _ _ _ λx hx=>?_;obtain⟨v,hv,hx⟩:=List.mem_flatMap.1 hx;obtain⟨a,_,rfl⟩:=List.mem_map.1 hv;exact hf a x hx
theorem Rel.nw{X Y:Cx}(hw:Y.w=X.w)(hS:∀ b i,X.S b i->X.base<=b->Y.S b i)(hb:Y.base<=X.base){x:Value}{v:V}(h:Rel X x v)(hn:v.Nw):Rel Y x v:=by
 induction h with
 |bool b=>exact .bool b
 |int k n=>exact .int k n
 |str s l h=>exact .str s l h
 |nils=>exact .nils
 |slice c clip E l b off cap f hcap hclip hE hc hr ih=>
  cases hn with
  |slice _ _ _ h=>
   refine .slice .new clip E l b off cap f hcap hclip hE (λi hi=>?_) (λi hi=>ih i hi (h _ (List.getElem_mem _)));obtain⟨h1,h2,h3,h4⟩:=hc i hi;have h2:X.base<=b:=h2;refine⟨hS _ _ h1 h2,Nat.le_trans hb h2,?_,h4⟩;unfold Cx.cell at h3⊢;rw[hw];exact h3
 |slice0 c clip E a=>exact .slice0 c clip E a
 |agg xs l hx ho hr ih=>
  cases hn with
  |agg _ h=>exact .agg xs l hx ho (λi h1 h2=>ih i h1 h2 (h _ (List.getElem_mem _)))
 |tuple xs l hx hr ih=>
  cases hn with
  |tuple _ h=>exact .tuple xs l hx (λi h1 h2=>ih i h1 h2 (h _ (List.getElem_mem _)))
 |_=>cases hn
theorem Znl{G:Nat->V}(hGok:GOk G){f:FuncId}{args:List V}{H:Heap}{K:V->Heap->Prop}(args':List V)(hen:Z2 P f=true)(hrd:RdL H args args')
  (h:Spec P G f args' Zk (λv _=>v.Nw/\K v H)):CallA P G f args H K:=by
 refine⟨hen,λX cargs hI hG hA=>?_⟩
 let Xb:Cx:={ β := λ_ _=>none,S:=λb _=>b<X.w.heap.size,base:=X.w.heap.size,w:=X.w }
 have hIb:Inv Xb Zk:=⟨λo c g fz cs ho=>(by cases ho),λo1 c1 g1 f1 l1 o2 c2 g2 f2 l2 b s1 s2 h1=>(by cases h1),λb i hs=>⟨hs,λo c g fz cs bs ho=>(by cases ho)⟩,λo=>⟨0,λ_ _=>rfl⟩,Nat.le_refl _,λb i hs hb=>absurd hs (Nat.not_lt.2 hb),.no λo lo b ks vs ho=>(by cases ho),.no λo b r ho=>(by cases ho)⟩
 have hconv:∀ x v,Rel X x v->v.Im->Rel Xb x (v.recol Col.ent):=λx v hr him=>
  hr.conv (X:=X) (Y:=Xb) Col.ent (λb i hs=>(hI.safe b i hs).1) (λ_ _ _ _ h=>h) ⟨λ_ c _ h=>⟨c,h,rfl⟩,λ_ _ _ _ h=>h⟩ (λc b hb _=>by cases c<;>first|exact hb|trivial) (.inr him)
 have hGe:∀ g,RelG Xb g (G g):=λg=>by
  refine⟨?_,(hG g).sz.reb rfl rfl (hGok g).1⟩;have:=hconv _ _ (hG g).rel (hGok g).2;rwa [(hGok g).1]at this
 have hAe:RelA Xb cargs args':=by
  refine⟨by rw[hA.len,hrd.get.1],λi h1 h2=>?_⟩;have hl:=hrd.get.1;refine Cv.rel (Y:=Xb) (F:=λ_=>true) (col:=λ_=>.old) hI (λx v v' hb hr=>by obtain⟨h1,rfl⟩:=hb;exact hconv _ _ hr h1) ?_ (λ_ _ _ h=>h) (hrd.get.2 i zo h2) (hA.rel i h1 zo);intro o c g fz cs b bs _ ho hβ;exact⟨hI.lt ho hβ,λi _=>hI.lt ho hβ⟩
 refine(h Xb cargs rfl hIb hGe hAe).mono ?_;rintro e w' ⟨c,v,H',Y,rfl,rfl,hg,hr,hnw,hk⟩;have hno:∀ b,¬ LiveB Xb Zk b:=Z7n;have hblk:∀ b,b<X.w.heap.size->Y.w.heap[b]?=X.w.heap[b]? := λb hb=>hg.kp.block b hb (hno b);have hbase:Y.base=X.w.heap.size:=hg.le.base
 let Z:Cx:={ X with w:=Y.w,S:=λb i=>X.S b i\/(Y.S b i/\X.w.heap.size<=b) }
 have hXZ:X.le Z:=by
  refine⟨λ_ _ _ h=>h,λ_ _ h=>.inl h,λb i x hs hc=>?_,rfl,λb c t hb=>⟨c,?_,rfl⟩,λb es n _ hb=>?_⟩;have:=hblk b (World.block_lt_of_cell? _ _ hc)
  show Y.w.cell? ⟨b,i,none⟩=some x
  rw[World.cell?_of_block (w:=X.w) (a:=⟨b,i,none⟩) this];exact hc
  have:b<X.w.heap.size:=by rw[Array.getElem?_eq_some_iff]at hb;exact hb.1
  show Y.w.heap[b]?=_
  rw[hblk b this];exact hb
  have:b<X.w.heap.size:=by rw[Array.getElem?_eq_some_iff]at hb;exact hb.1
  show Y.w.heap[b]?=_
  rw[hblk b this];exact hb
 have hkp:Keep (LiveB X H) X.w Z.w:=hg.kp.mono λb _ hl=>absurd hl (hno b);have hSn:∀ b i,Z.S b i->X.S b i\/X.w.heap.size<=b\/LiveB X H b:=λb i hs=>hs.imp id λq=>.inl q.2;refine⟨c,v,H,Z,rfl,rfl,⟨⟨?_,hI.inj,?_,hI.fin,?_,λb i hs hb=>?_,hI.mps_tr hXZ (λ_ _ _ _ _ h=>h) hkp hSn,hI.lps_tr (λ_ _ _ h=>h) λb r hb=>hblk b (Array.getElem?_eq_some_iff.1 hb).1⟩,hXZ,hkp,hSn,λb hb=>.inr hb⟩,?_,hk⟩;intro o c g fz cs ho;obtain⟨b,bs,h1,h2,c',t,h3,h4,h5⟩:=hI.obj o c g fz cs ho;exact⟨b,bs,h1,h2,c',t,by show Y.w.heap[b]?=_;rw[hblk b (hI.lt ho h1)];exact h3,h4,h5.mono hXZ⟩;rintro b i (hs|⟨hs,hlo⟩);exact⟨Nat.lt_of_lt_of_le (hI.safe b i hs).1 hg.kp.size,(hI.safe b i hs).2⟩;refine⟨(hg.inv.safe b i hs).1,λo c g fz cs bs ho hβ => ?_⟩;have:=hI.lt ho hβ;omega;exact Nat.le_trans hI.bw hg.kp.size
 rcases hs with hs|⟨hs,hlo⟩
 rcases hI.thaw b i hs hb with ⟨c1,t1,h2⟩|⟨rfl,es,n,h2⟩
 obtain⟨c2,h3,_⟩:=hXZ.blk b c1 t1 h2;exact .inl ⟨c2,t1,h3⟩;exact .inr ⟨rfl,es,n,hXZ.map b es n hs h2⟩;exact hg.inv.thaw b i hs (by rw[hbase];exact hlo);exact hr.nw (X:=Y) (Y:=Z) rfl (λb i h1 h2=>.inr ⟨h1,by rw[hbase]at h2;exact h2⟩) (by rw[hbase];exact hI.bw) hnw
theorem Rd.agg{H:Heap}{xs ys:List V}(h:RdL H xs ys):Rd H (.agg xs) (.agg ys):=Cv.agg xs ys h.get.1.symm h.get.2
end
end Go.Hs
