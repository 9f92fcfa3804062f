/- A part. No condition. -/
import Derived.Test.YtjplgaebbfabnaaGreatDoorP11
set_option linter.all false
namespace Go.Hs
section
variable{P:Program}{E:Ent}{s:AS}{a:Act}{w:World}
inductive Cv(F:Nat->Bool)(H:Heap)(col:Col->Col)(B:V->V->Prop):V->V->Prop
 |base (v v':V) (h:B v v'):Cv F H col B v v'
 |msl (o g off len E:Nat) (c:Col) (fz:Nat) (cs l:List V) (hF:F o=true) (ho:H o=.cells c g fz cs) (hl:l.length=len) (hE:∀ v∈l,v.cells.length=E) (hfit:off+len*E<=cs.length)
   (hr:∀ i (h1:off+i<cs.length) (h2:i<(flat l).length),Cv F H col B cs[off+i] (flat l)[i]):Cv F H col B (.msl o g off len E) (.slice (col c) false E l)
 |ptr (o g off:Nat) (c:Col) (fz:Nat) (cs:List V) (v:V) (hF:F o=true) (ho:H o=.cells c g fz cs) (hfit:off+v.cells.length<=cs.length)
   (hr:∀ i (h1:off+i<cs.length) (h2:i<v.cells.length),Cv F H col B cs[off+i] v.cells[i]):Cv F H col B (.ptr o g off) (.view (col c) v)
 |func (fn:Fn) (xs ys xs' ys':List V) (hx:xs.length=xs'.length) (hy:ys.length=ys'.length) (hxr:∀ i (h1:i<xs.length) (h2:i<xs'.length),Cv F H col B xs[i] xs'[i])
   (hyr:∀ i (h1:i<ys.length) (h2:i<ys'.length),Cv F H col B ys[i] ys'[i]):Cv F H col B (.func fn xs ys) (.func fn xs' ys')
 |iface (t:TypeId) (v v':V) (h:Cv F H col B v v'):Cv F H col B (.iface t v) (.iface t v')
 |agg (xs xs':List V) (hx:xs.length=xs'.length) (hr:∀ i (h1:i<xs.length) (h2:i<xs'.length),Cv F H col B xs[i] xs'[i]):Cv F H col B (.agg xs) (.agg xs')
 |tuple (xs xs':List V) (hx:xs.length=xs'.length) (hr:∀ i (h1:i<xs.length) (h2:i<xs'.length),Cv F H col B xs[i] xs'[i]):Cv F H col B (.tuple xs) (.tuple xs')
theorem Cv.rel{F:Nat->Bool}{H:Heap}{col:Col->Col}{B:V->V->Prop}{X Y:Cx}(K:Inv X H)(M:∀ x v q,B v q->Rel X x v->Rel Y x q)
  (L:∀ o c g fz cs b bs,F o=true->H o=.cells c g fz cs->X.β o g=some (b,bs)->(col c).ok Y.base b/\∀ i,i<cs.length->Y.S b (bs+i))
  (m:∀ b i x,X.cell b i=some x->Y.cell b i=some x) {v q:V} (h:Cv F H col B v q):∀ {x:Value},Rel X x v->Rel Y x q:=by
 induction h with
 |base v q h=>exact λA=>M _ _ _ h A
 |msl o g off len E c fz cs l hFo ho hl hE hfit A ih=>
  intro x p
  cases p with
  |msl _ _ _ _ _ b bs cap hβ hcap hb=>
   obtain⟨r,I⟩:=L o c g fz cs b bs hFo ho hβ;obtain⟨D,t,z,u,G⟩:=K.cells ho hβ;have s:=V8 hE;have J:=G.len
   have e:∀ i (f:i<cs.length),∃ y,((D.toList.drop bs).take cs.length)[i]?=some y/\X.cell b (bs+i)=some y/\y.oneCell'=true/\Rel X y cs[i]:=by
    intro i f;obtain⟨y,d,n,j⟩:=G.get? (List.getElem?_eq_getElem f);refine⟨y,d,?_,j,n⟩;rw[T0 f]at d
    show X.w.cell? ⟨b,bs+i,none⟩=some y
    rw[Ex z];simpa using d
   have:=Rel.slice (X:=Y) (col c) false E l b (bs+off) cap (λi=>((D.toList.drop bs).take cs.length).getD (off+i) undef) zo zS hE
    (λi f=>by
     obtain⟨y,d,n,j,_⟩:=e (off+i) (by rw[s,hl]at f;omega);refine⟨by have:=I (off+i) (by rw[s,hl]at f;omega);rwa [<- Nat.add_assoc]at this,r,?_,?_⟩;have:=m _ _ _ n;rw[<- Nat.add_assoc]at this;rw[this];simp[List.getD,d]
     simp[List.getD,d,j])
    (λi f=>by
     have k:off+i<cs.length:=by rw[s,hl]at f;omega
     obtain⟨y,d,_,_,C⟩:=e (off+i) k;have:=ih i k f C
     simpa[List.getD,d]using this)
   rw[hl]at this;exact this
 |ptr o g off c fz cs v hFo ho hfit A ih=>
  intro x p
  cases p with
  |ptr _ _ _ b bs hβ=>
   obtain⟨r,I⟩:=L o c g fz cs b bs hFo ho hβ;obtain⟨D,t,z,u,G⟩:=K.cells ho hβ
   have e:∀ i (f:i<cs.length),∃ y,((D.toList.drop bs).take cs.length)[i]?=some y/\X.cell b (bs+i)=some y/\y.oneCell'=true/\Rel X y cs[i]:=by
    intro i f;obtain⟨y,d,n,j⟩:=G.get? (List.getElem?_eq_getElem f);refine⟨y,d,?_,j,n⟩;rw[T0 f]at d
    show X.w.cell? ⟨b,bs+i,none⟩=some y
    rw[Ex z];simpa using d
   refine .view (col c) v b (bs+off) (λi=>((D.toList.drop bs).take cs.length).getD (off+i) undef) (λi f=>?_) (λi f=>?_);obtain⟨y,d,n,j,_⟩:=e (off+i) zo;refine⟨by have:=I (off+i) zo;rwa [<- Nat.add_assoc]at this,r,?_,?_⟩;have:=m _ _ _ n;rw[<- Nat.add_assoc]at this;rw[this];simp[List.getD,d];simp[List.getD,d,j];have k:off+i<cs.length:=zo;obtain⟨y,d,_,_,C⟩:=e (off+i) k;have:=ih i k f C;simpa[List.getD,d]using this
 |func fn xs ys xs' ys' p hy hxr hyr ihx ihy=>
  intro x h
  cases h with
  |func _ as bs _ _ d n j C=>
   exact .func fn as bs _ _ zo zo (λi a b=>ihx i zo b (j i a zo)) (λi a b=>ihy i zo b (C i a zo))
 |iface t v q h ih=>
  intro x p
  cases p with
  |iface _ y _ h=>exact .iface t y _ (ih h)
 |agg xs xs' p A ih=>
  intro x h
  cases h with
  |agg as _ d n j=>exact .agg as _ zo n (λi a b=>ih i zo b (j i a zo))
 |tuple xs xs' p A ih=>
  intro x h
  cases h with
  |tuple as _ d j=>exact .tuple as _ zo (λi a b=>ih i zo b (j i a zo))
inductive V.Fl:V->Prop
 |bool (b:Bool):Fl (.bool b)
 |int (k:IntKind) (n:Int):Fl (.int k n)
 |str (s:List UInt8):Fl (.str s)
 |nilp:Fl .nilp
 |nils:Fl .nils
 |nilf:Fl .nilf
 |nili:Fl .nili
 |nilm:Fl .nilm
 |agg (l:List V) (h:∀ x∈l,Fl x):Fl (.agg l)
 |tuple (l:List V) (h:∀ x∈l,Fl x):Fl (.tuple l)
 |iface (t:TypeId) (v:V) (h:Fl v):Fl (.iface t v)
theorem Rel.flat{X Y:Cx}{x:Value}{v:V}(h:Rel X x v)(a:v.Fl):Rel Y x v:=by
 induction h with
 |bool b=>exact .bool b
 |int k n=>exact .int k n
 |str s l h=>exact .str s l h
 |nilp=>exact .nilp
 |nils=>exact .nils
 |nilf=>exact .nilf
 |nili=>exact .nili
 |nilm=>exact .nilm
 |agg xs l hx ho hr ih=>
  cases a with
  |agg _ h=>exact .agg xs l hx ho (λi d c=>ih i d c (h _ (List.getElem_mem _)))
 |tuple xs l hx hr ih=>
  cases a with
  |tuple _ h=>exact .tuple xs l hx (λi d c=>ih i d c (h _ (List.getElem_mem _)))
 |iface t x v h ih=>
  cases a with
  |iface _ _ h=>exact .iface t x v (ih h)
 |_=>cases a
def Rd(H:Heap):V->V->Prop:=Cv (λ_=>true) H (λ_=>.old) (λv a=>v.Im/\a=v.recol Col.ent)
theorem I5{G:Nat->V}(q:Y6 G){f:FuncId}{args args':List V}{H:Heap}{K:V->Heap->Prop}(O:Z7 P f=true)(B:args'.length=args.length)
  (L:∀ i (h1:i<args.length) (h2:i<args'.length),Rd H args[i] args'[i])
  (h:Spec P G f args' Zj (λv _=>v.Fl/\K v H)):CallA P G f args H K:=by
 refine⟨O,λX s m hG hA=>?_⟩
 let y:Cx:={ β := λ_ _=>none,S:=λb _=>b<X.w.heap.size,base:=X.w.heap.size,w:=X.w }
 have Q:Inv y Zj:=⟨λo c g D E l=>(by cases l),λo1 c1 g1 f1 l1 o2 c2 g2 f2 l2 b s1 s2 h1=>(by grind),λb i k=>⟨k,λo c g D E J l=>(by grind)⟩,λo=>⟨0,λ_ _=>rfl⟩,Nat.le_refl _,λb i k d=>absurd k (Nat.not_lt.2 d),.no λo lo b ks vs l=>(by cases l),.no λo b r l=>(by cases l)⟩
 have p:∀ x v,Rel X x v->v.Im->Rel y x (v.recol Col.ent):=λx v z M=>
  z.conv (X:=X) (Y:=y) Col.ent (λb i k=>(m.safe b i k).1) (λ_ _ _ _ h=>h) ⟨λ_ c _ h=>⟨c,h,rfl⟩,λ_ _ _ _ h=>h⟩ (λc b d _=>by cases c<;>first|exact d|trivial) (.inr M)
 have R:∀ g,RelG y g (G g):=λg=>by
  refine⟨?_,(hG g).sz.reb rfl rfl (q g).1⟩;have:=p _ _ (hG g).rel (q g).2;rwa [(q g).1]at this
 have T:RelA y s args':=by
  refine⟨by rw[hA.len,B],λi h1 h2=>?_⟩;refine Cv.rel (Y:=y) (F:=λ_=>true) (col:=λ_=>.old) m (λx v v' d z=>by obtain⟨h1,rfl⟩:=d;exact p _ _ z h1) ?_ (λ_ _ _ h=>h) (L i zo h2) (hA.rel i h1 zo);intro o c g D E b J _ l U;exact⟨m.lt l U,λi _=>m.lt l U⟩
 refine(h y s rfl Q R T).mono ?_;rintro e w' ⟨c,v,H',Y,rfl,rfl,I,z,N,hk⟩
 have A:∀ b,¬ Xx y Zj b:=by rintro b (⟨o,c,g,D,E,J,l,_⟩|⟨o,r,l⟩)<;>cases l
 have j:∀ b,b<X.w.heap.size->Y.w.heap[b]?=X.w.heap[b]? := λb d=>I.kp.block b d (A b)
 let Z:Cx:={ X with w:=Y.w }
 have u:X.le Z:=by
  refine⟨λ_ _ _ h=>h,λ_ _ h=>h,λb i x k W=>?_,rfl,λb c t d=>⟨c,?_,rfl⟩,λb es n _ d=>?_⟩;have:=j b (World.block_lt_of_cell? _ _ W)
  show Y.w.cell? ⟨b,i,none⟩=some x
  rw[World.cell?_of_block (w:=X.w) (a:=⟨b,i,none⟩) this];exact W
  have:b<X.w.heap.size:=by rw[Array.getElem?_eq_some_iff]at d;exact d.1
  rw[j b this];exact d
  have:b<X.w.heap.size:=by rw[Array.getElem?_eq_some_iff]at d;exact d.1
  rw[j b this];exact d
 have C:Keep (Xx X H) X.w Z.w:=I.kp.mono λb _ hl=>absurd hl (A b);refine⟨c,v,H,Z,rfl,rfl,⟨⟨?_,m.inj,?_,m.fin,?_,m.thaw_le u λ_ _ k=>k,m.mps_tr u (λ_ _ _ _ _ h=>h) C λ_ _ k=>.inl k,m.lps_tr (λ_ _ _ h=>h) λb r d=>j b (Array.getElem?_eq_some_iff.1 d).1⟩,u,C,λb i k=>.inl k,λb d=>.inr d⟩,z.flat N,hk⟩;intro o c g D E l;obtain⟨b,J,h1,h2,c',t,h3,h4,h5⟩:=m.obj o c g D E l;exact⟨b,J,h1,h2,c',t,by rw[j b (m.lt l h1)];exact h3,h4,h5.mono u⟩;intro b i k;exact⟨Nat.lt_of_lt_of_le (m.safe b i k).1 I.kp.size,(m.safe b i k).2⟩;exact Nat.le_trans m.bw I.kp.size
theorem Ztc{X:Cx}(b:Nat):¬ Xx X Zj b:=by rintro(⟨o,c,g,d,e,f,a,_⟩|⟨o,r,a⟩)<;>cases a
def Fz(F:Nat->Bool)(H:Heap):V->V->Prop:=Cv F H id (λv a=>a=v\/a=.top\/a=v.recol λ_=>.any)
def FzO(F:Nat->Bool)(H:Heap)(o:Nat):AObj->Prop
 |.dead=>True
 |.mp lo b ks vs=>∃ vs0,H o=.mp lo b ks vs0/\vs.length=vs0.length/\∀ i (h1:i<vs0.length) (h2:i<vs.length),Fz F H vs0[i] vs[i]
 |.lp b r=>H o=.lp b r
 |.cells c g fz cs=>∃ c0 fz0 cs0,H o=.cells c0 g fz0 cs0/\(c=c0\/c=.any)/\fz0<=fz/\(F o=true->cs0.length<=fz)/\cs.length=cs0.length/\∀ i (h1:i<cs0.length) (h2:i<cs.length),Fz F H cs0[i] cs[i]
theorem C6{X:Cx}{H:Heap}(k:Inv X H)(F:Nat->Bool){H':Heap}(R:∀ o,FzO F H o (H' o)):
  ∃ Y,Y.w=X.w/\Goes X H Y H'/\∀ x v v',Fz F H v v'->Rel X x v->Rel Y x v':=by
 let Y:Cx:={ X with S:=λb i=>X.S b i\/∃ o c g fz cs bs,F o=true/\H o=.cells c g fz cs/\X.β o g=some (b,bs)/\bs<=i/\i<bs+cs.length }
 have C:X.le Y:=⟨λ_ _ _ h=>h,λ_ _ h=>.inl h,λ_ _ _ _ h=>h,rfl,λ_ c _ h=>⟨c,h,rfl⟩,λ_ _ _ _ h=>h⟩
 have hrel:∀ x v v',Fz F H v v'->Rel X x v->Rel Y x v':=by
  intro x v v' hf N;refine Cv.rel (Y:=Y) (col:=id) k ?_ ?_ (λ_ _ _ h=>h) hf N;rintro x v v' (rfl|rfl|rfl) N;exact N.mono C;exact .top _;exact N.conv (X:=X) (Y:=Y) (λ_=>.any) (λ_ _ h=>.inl h) (λ_ _ _ _ h=>h) ⟨λ_ c _ h=>⟨c,h,rfl⟩,λ_ _ _ _ h=>h⟩ (λ_ _ _ _=>trivial) (.inl λ_ _ _ h=>h);intro o c g fz cs b bs O d l;obtain⟨b',T,f,s,_⟩:=k.obj o c g fz cs d;rw[l]at f;cases f;exact⟨s,λi hi=>.inr ⟨o,c,g,fz,cs,bs,O,d,l,zo,zo⟩⟩
 have m:∀ o c g fz cs,H' o=.cells c g fz cs->∃ z j e,H o=.cells z g j e/\(c=z\/c=.any)/\j<=fz/\(F o=true->e.length<=fz)/\cs.length=e.length/\∀ i (f:i<e.length) (s:i<cs.length),Fz F H e[i] cs[i]:=by
  intro o c g fz cs d;have:=R o;rw[d]at this;exact this
 have V:∀ o b r,H' o=.lp b r->H o=.lp b r:=λo b r d=>by
  have:=R o;rw[d]at this;exact this
 have K:∀ b i,Y.S b i->X.S b i\/X.w.heap.size<=b\/Xx X H b:=by
  rintro b i (y|⟨o,c,g,fz,cs,bs,O,d,l,f,s⟩);exact .inl y;exact .inr (.inr (.inl ⟨o,c,g,fz,cs,bs,d,l⟩))
 refine⟨Y,rfl,⟨⟨?_,?_,?_,k.fin,k.bw,λb i y hb=>(by
  rcases y with y|⟨o,c,g,fz,cs,bs,_,d,l,_⟩
  exact k.thaw b i y hb
  exact .inl (k.live_thaw ⟨o,c,g,fz,cs,bs,d,l⟩)),(λo L b M D d=>?_),k.lps_tr V λ_ _ _=>rfl⟩,C,Keep.refl _ _,K,?_⟩,hrel⟩
 intro o c g fz cs d;obtain⟨z,j,e,f,Q,s,h3,W,h5⟩:=m _ _ _ _ _ d;obtain⟨b,bs,A,E,c',t,J,I,G⟩:=k.obj o z g j e f
 have E:c.ok X.base b:=by
  rcases Q with rfl|rfl
  exact E
  trivial
 refine⟨b,bs,A,E,c',t,J,zo,?_⟩;rw[W];refine⟨by rw[G.len,W],G.one,λi a b=>?_⟩;exact hrel _ _ _ (h5 i zo b) (G.rel i a zo);intro o1 c1 g1 f1 l1 o2 c2 g2 f2 l2 b s1 s2 f s;obtain⟨_,_,_,f,_⟩:=m _ _ _ _ _ f;obtain⟨_,_,_,s,_⟩:=m _ _ _ _ _ s;exact k.inj _ _ _ _ _ _ _ _ _ _ _ _ _ f s;rintro b i (y|⟨o,c,g,fz,cs,bs,O,d,l,f,s⟩);refine⟨(k.safe b i y).1,λo c g fz cs bs d l => ?_⟩;obtain⟨z,j,e,f,_,s,_⟩:=m _ _ _ _ _ d;have:=(k.safe b i y).2 _ _ _ _ _ _ f l;omega;refine⟨k.lt d l,λo' c' g' fz' cs' T P B=>?_⟩;obtain⟨z,j,e,A,_,E,J,I,_⟩:=m _ _ _ _ _ P;have:=k.inj _ _ _ _ _ _ _ _ _ _ _ _ _ A d B l;subst this;rw[d]at A;cases A;rw[l]at B;cases B;have:=J O;omega
 have U:∀ o L b M D,H' o=.mp L b M D->∃ u,H o=.mp L b M u/\D.length=u.length/\∀ i (f:i<u.length) (s:i<D.length),Fz F H u[i] D[i]:=λo L b M D d=>by
  have:=R o;rw[d]at this;exact this
 obtain⟨u,f,s,h3⟩:=U _ _ _ _ _ d;obtain⟨A,E,J,es,n,I,G,q6,q7,q8⟩:=k.mps _ _ _ _ _ f;refine⟨A,?_,λo2 lo2 ks2 vs2 q=>by obtain⟨_,q9,_⟩:=U _ _ _ _ _ q;exact J _ _ _ _ q9,es,n,I,G,zo,λi p q=>(q7 i p q).mono C,λi p q=>hrel _ _ _ (h3 i zo q) (q8 i p zo)⟩;intro y
 rcases K b 0 y with q|q|q
 exact E q;have:=(Array.getElem?_eq_some_iff.1 I).1;omega;exact k.not_live I q;refine Uw (λo b r d=>.inr (.inr ⟨o,r,V _ _ _ d⟩)) ?_;rintro b ⟨o,c,g,fz,cs,bs,d,l⟩;obtain⟨z,j,e,f,_⟩:=m _ _ _ _ _ d;exact .inr (.inl ⟨o,z,g,j,e,bs,f,l⟩)
theorem Tc(F:Nat->Bool){s s':AS}(d : ∀ t,s'.τ t=.top\/Fz F s.H (s.τ t) (s'.τ t))(i:∀ o,FzO F s.H o (s'.H o)):Weak E s s':=by
 rintro a w ⟨X,b⟩;obtain⟨Y,e,c,f⟩:=C6 b.go.inv F i;refine⟨Y,by rw[e,b.hw],b.on_ c,b.df.go b.go.inv c,b.sz,λt=>?_,λg=>(b.gl g).go b.go.inv c⟩
 rcases d t with h|h
 rw[h];exact .top _;exact f _ _ _ h (b.tm t)
theorem Kc(F:Nat->Bool){G:Nat->V}{f:FuncId}{args args':List V}{H H':Heap}{K:V->Heap->Prop}(b:args'.length=args.length)
  (w:∀ i (h1:i<args.length) (h2:i<args'.length),Fz F H args[i] args'[i]) (t:∀ o,FzO F H o (H' o)) (h:CallA P G f args' H' K):CallA P G f args H K:=by
 refine⟨h.1,λX a m u l=>?_⟩;obtain⟨Y,r,d,s⟩:=C6 m F t;have j:RelA Y a args':=⟨by rw[l.len,b],λi h1 h2=>s _ _ _ (w i zo h2) (l.rel i h1 zo)⟩;have:=h.2 Y a d.inv (λg=>(u g).go m d) j;rw[r]at this;refine this.mono ?_;rintro e w' ⟨c,v,k,Z,rfl,rfl,q,p,n⟩;exact⟨c,v,k,Z,rfl,rfl,d.trans q,p,n⟩
end
end Go.Hs
