/- A part. No condition. -/
import Derived.Test.YtoahejkahaimnaaGreatDoorP11
set_option linter.all false
namespace Go.Hs
section
variable{P:Program}{E:Ent}{s:AS}{a:Act}{w:World}
inductive Cv(F:Nat->Bool)(H:Heap)(col:Col->Col)(B:V->V->Prop):V->V->Prop
 |base (v v':V) (h:B v v'):Cv F H col B v v'
 |msl (o g off len E:Nat) (c:Col) (fz:Nat) (cs l:List V) (hF:F o=true) (ho:H o=.cells c g fz cs) (hl:l.length=len) (hE:∀ v∈l,v.cells.length=E) (hfit:off+len*E<=cs.length)
   (hr:∀ i (h1:off+i<cs.length) (h2:i<(flat l).length),Cv F H col B cs[off+i] (flat l)[i]):Cv F H col B (.msl o g off len E) (.slice (col c) false E l)
 |ptr (o g off:Nat) (c:Col) (fz:Nat) (cs:List V) (v:V) (hF:F o=true) (ho:H o=.cells c g fz cs) (hfit:off+v.cells.length<=cs.length)
   (hr:∀ i (h1:off+i<cs.length) (h2:i<v.cells.length),Cv F H col B cs[off+i] v.cells[i]):Cv F H col B (.ptr o g off) (.view (col c) v)
 |func (fn:Fn) (xs ys xs' ys':List V) (hx:xs.length=xs'.length) (hy:ys.length=ys'.length) (hxr:∀ i (h1:i<xs.length) (h2:i<xs'.length),Cv F H col B xs[i] xs'[i])
   (hyr:∀ i (h1:i<ys.length) (h2:i<ys'.length),Cv F H col B ys[i] ys'[i]):Cv F H col B (.func fn xs ys) (.func fn xs' ys')
 |iface (t:TypeId) (v v':V) (h:Cv F H col B v v'):Cv F H col B (.iface t v) (.iface t v')
 |agg (xs xs':List V) (hx:xs.length=xs'.length) (hr:∀ i (h1:i<xs.length) (h2:i<xs'.length),Cv F H col B xs[i] xs'[i]):Cv F H col B (.agg xs) (.agg xs')
 |tuple (xs xs':List V) (hx:xs.length=xs'.length) (hr:∀ i (h1:i<xs.length) (h2:i<xs'.length),Cv F H col B xs[i] xs'[i]):Cv F H col B (.tuple xs) (.tuple xs')
theorem Cv.rel{F:Nat->Bool}{H:Heap}{col:Col->Col}{B:V->V->Prop}{X Y:Cx}(hI:Inv X H)(hB:∀ x v v',B v v'->Rel X x v->Rel Y x v')
  (hF:∀ o c g fz cs b bs,F o=true->H o=.cells c g fz cs->X.β o g=some (b,bs)->(col c).ok Y.base b/\∀ i,i<cs.length->Y.S b (bs+i))
  (hcell:∀ b i x,X.cell b i=some x->Y.cell b i=some x) {v v':V} (h:Cv F H col B v v'):∀ {x:Value},Rel X x v->Rel Y x v':=by
 induction h with
 |base v v' h=>exact λhr=>hB _ _ _ h hr
 |msl o g off len E c fz cs l hFo ho hl hE hfit hr ih=>
  intro x hx
  cases hx with
  |msl _ _ _ _ _ b bs cap hβ hcap hb=>
   obtain⟨hok,hS⟩:=hF o c g fz cs b bs hFo ho hβ;obtain⟨c1,t,hb1,hfit1,hC⟩:=hI.cells ho hβ;have hfl:=Zsb hE;have hlen:=hC.len
   have hget:∀ i (hi:i<cs.length),∃ y,((c1.toList.drop bs).take cs.length)[i]?=some y/\X.cell b (bs+i)=some y/\y.oneCell'=true/\Rel X y cs[i]:=by
    intro i hi;obtain⟨y,h1,h2,h3⟩:=hC.get? (List.getElem?_eq_getElem hi);refine⟨y,h1,?_,h3,h2⟩;rw[Zic hi]at h1
    show X.w.cell? ⟨b,bs+i,none⟩=some y
    rw[Zqh hb1];simpa using h1
   have:=Rel.slice (X:=Y) (col c) false E l b (bs+off) cap (λi=>((c1.toList.drop bs).take cs.length).getD (off+i) undef) zo zS hE
    (λi hi=>by
     obtain⟨y,h1,h2,h3,_⟩:=hget (off+i) (by rw[hfl,hl]at hi;omega);refine⟨by have:=hS (off+i) (by rw[hfl,hl]at hi;omega);rwa [<- Nat.add_assoc]at this,hok,?_,?_⟩;have:=hcell _ _ _ h2;rw[<- Nat.add_assoc]at this;rw[this];simp[List.getD,h1]
     simp[List.getD,h1,h3])
    (λi hi=>by
     have hi':off+i<cs.length:=by rw[hfl,hl]at hi;omega
     obtain⟨y,h1,_,_,h4⟩:=hget (off+i) hi';have:=ih i hi' hi h4
     simpa[List.getD,h1]using this)
   rw[hl]at this;exact this
 |ptr o g off c fz cs v hFo ho hfit hr ih=>
  intro x hx
  cases hx with
  |ptr _ _ _ b bs hβ=>
   obtain⟨hok,hS⟩:=hF o c g fz cs b bs hFo ho hβ;obtain⟨c1,t,hb1,hfit1,hC⟩:=hI.cells ho hβ
   have hget:∀ i (hi:i<cs.length),∃ y,((c1.toList.drop bs).take cs.length)[i]?=some y/\X.cell b (bs+i)=some y/\y.oneCell'=true/\Rel X y cs[i]:=by
    intro i hi;obtain⟨y,h1,h2,h3⟩:=hC.get? (List.getElem?_eq_getElem hi);refine⟨y,h1,?_,h3,h2⟩;rw[Zic hi]at h1
    show X.w.cell? ⟨b,bs+i,none⟩=some y
    rw[Zqh hb1];simpa using h1
   refine .view (col c) v b (bs+off) (λi=>((c1.toList.drop bs).take cs.length).getD (off+i) undef) (λi hi=>?_) (λi hi=>?_);obtain⟨y,h1,h2,h3,_⟩:=hget (off+i) zo;refine⟨by have:=hS (off+i) zo;rwa [<- Nat.add_assoc]at this,hok,?_,?_⟩;have:=hcell _ _ _ h2;rw[<- Nat.add_assoc]at this;rw[this];simp[List.getD,h1];simp[List.getD,h1,h3];have hi':off+i<cs.length:=zo;obtain⟨y,h1,_,_,h4⟩:=hget (off+i) hi';have:=ih i hi' hi h4;simpa[List.getD,h1]using this
 |func fn xs ys xs' ys' hx hy hxr hyr ihx ihy=>
  intro x h
  cases h with
  |func _ as bs _ _ h1 h2 h3 h4=>
   exact .func fn as bs _ _ zo zo (λi a b=>ihx i zo b (h3 i a zo)) (λi a b=>ihy i zo b (h4 i a zo))
 |iface t v v' h ih=>
  intro x hx
  cases hx with
  |iface _ y _ h=>exact .iface t y _ (ih h)
 |agg xs xs' hx hr ih=>
  intro x h
  cases h with
  |agg as _ h1 h2 h3=>exact .agg as _ zo h2 (λi a b=>ih i zo b (h3 i a zo))
 |tuple xs xs' hx hr ih=>
  intro x h
  cases h with
  |tuple as _ h1 h3=>exact .tuple as _ zo (λi a b=>ih i zo b (h3 i a zo))
inductive V.Fl:V->Prop
 |bool (b:Bool):Fl (.bool b)
 |int (k:IntKind) (n:Int):Fl (.int k n)
 |str (s:List UInt8):Fl (.str s)
 |nilp:Fl .nilp
 |nils:Fl .nils
 |nilf:Fl .nilf
 |nili:Fl .nili
 |nilm:Fl .nilm
 |agg (l:List V) (h:∀ x∈l,Fl x):Fl (.agg l)
 |tuple (l:List V) (h:∀ x∈l,Fl x):Fl (.tuple l)
 |iface (t:TypeId) (v:V) (h:Fl v):Fl (.iface t v)
theorem Rel.flat{X Y:Cx}{x:Value}{v:V}(h:Rel X x v)(hf:v.Fl):Rel Y x v:=by
 induction h with
 |bool b=>exact .bool b
 |int k n=>exact .int k n
 |str s l h=>exact .str s l h
 |nilp=>exact .nilp
 |nils=>exact .nils
 |nilf=>exact .nilf
 |nili=>exact .nili
 |nilm=>exact .nilm
 |agg xs l hx ho hr ih=>
  cases hf with
  |agg _ h=>exact .agg xs l hx ho (λi h1 h2=>ih i h1 h2 (h _ (List.getElem_mem _)))
 |tuple xs l hx hr ih=>
  cases hf with
  |tuple _ h=>exact .tuple xs l hx (λi h1 h2=>ih i h1 h2 (h _ (List.getElem_mem _)))
 |iface t x v h ih=>
  cases hf with
  |iface _ _ h=>exact .iface t x v (ih h)
 |_=>cases hf
def Rd(H:Heap):V->V->Prop:=Cv (λ_=>true) H (λ_=>.old) (λv v'=>v.Im/\v'=v.recol Col.ent)
theorem Z6l{G:Nat->V}(hGok:GOk G){f:FuncId}{args args':List V}{H:Heap}{K:V->Heap->Prop}(hen:Z2 P f=true)(hlen:args'.length=args.length)
  (hrd:∀ i (h1:i<args.length) (h2:i<args'.length),Rd H args[i] args'[i])
  (h:Spec P G f args' Zk (λv _=>v.Fl/\K v H)):CallA P G f args H K:=by
 refine⟨hen,λX cargs hI hG hA=>?_⟩
 let Xb:Cx:={ β := λ_ _=>none,S:=λb _=>b<X.w.heap.size,base:=X.w.heap.size,w:=X.w }
 have hIb:Inv Xb Zk:=⟨λo c g fz cs ho=>(by cases ho),λo1 c1 g1 f1 l1 o2 c2 g2 f2 l2 b s1 s2 h1=>(by cases h1),λb i hs=>⟨hs,λo c g fz cs bs ho=>(by cases ho)⟩,λo=>⟨0,λ_ _=>rfl⟩,Nat.le_refl _,λb i hs hb=>absurd hs (Nat.not_lt.2 hb),.no λo lo b ks vs ho=>(by cases ho),.no λo b r ho=>(by cases ho)⟩
 have hconv:∀ x v,Rel X x v->v.Im->Rel Xb x (v.recol Col.ent):=λx v hr him=>
  hr.conv (X:=X) (Y:=Xb) Col.ent (λb i hs=>(hI.safe b i hs).1) (λ_ _ _ _ h=>h) ⟨λ_ c _ h=>⟨c,h,rfl⟩,λ_ _ _ _ h=>h⟩ (λc b hb _=>by cases c<;>first|exact hb|trivial) (.inr him)
 have hGe:∀ g,RelG Xb g (G g):=λg=>by
  refine⟨?_,(hG g).sz.reb rfl rfl (hGok g).1⟩;have:=hconv _ _ (hG g).rel (hGok g).2;rwa [(hGok g).1]at this
 have hAe:RelA Xb cargs args':=by
  refine⟨by rw[hA.len,hlen],λi h1 h2=>?_⟩;refine Cv.rel (Y:=Xb) (F:=λ_=>true) (col:=λ_=>.old) hI (λx v v' hb hr=>by obtain⟨h1,rfl⟩:=hb;exact hconv _ _ hr h1) ?_ (λ_ _ _ h=>h) (hrd i zo h2) (hA.rel i h1 zo);intro o c g fz cs b bs _ ho hβ;exact⟨hI.lt ho hβ,λi _=>hI.lt ho hβ⟩
 refine(h Xb cargs rfl hIb hGe hAe).mono ?_;rintro e w' ⟨c,v,H',Y,rfl,rfl,hg,hr,hfl,hk⟩
 have hno:∀ b,¬ LiveB Xb Zk b:=by rintro b (⟨o,c,g,fz,cs,bs,ho,_⟩|⟨o,r,ho⟩)<;>cases ho
 have hblk:∀ b,b<X.w.heap.size->Y.w.heap[b]?=X.w.heap[b]? := λb hb=>hg.kp.block b hb (hno b)
 let Z:Cx:={ X with w:=Y.w }
 have hXZ:X.le Z:=by
  refine⟨λ_ _ _ h=>h,λ_ _ h=>h,λb i x hs hc=>?_,rfl,λb c t hb=>⟨c,?_,rfl⟩,λb es n _ hb=>?_⟩;have:=hblk b (World.block_lt_of_cell? _ _ hc)
  show Y.w.cell? ⟨b,i,none⟩=some x
  rw[World.cell?_of_block (w:=X.w) (a:=⟨b,i,none⟩) this];exact hc
  have:b<X.w.heap.size:=by rw[Array.getElem?_eq_some_iff]at hb;exact hb.1
  show Y.w.heap[b]?=_
  rw[hblk b this];exact hb
  have:b<X.w.heap.size:=by rw[Array.getElem?_eq_some_iff]at hb;exact hb.1
  show Y.w.heap[b]?=_
  rw[hblk b this];exact hb
 have hkp:Keep (LiveB X H) X.w Z.w:=hg.kp.mono λb _ hl=>absurd hl (hno b);refine⟨c,v,H,Z,rfl,rfl,⟨⟨?_,hI.inj,?_,hI.fin,?_,hI.thaw_le hXZ λ_ _ hs=>hs,hI.mps_tr hXZ (λ_ _ _ _ _ h=>h) hkp λ_ _ hs=>.inl hs,hI.lps_tr (λ_ _ _ h=>h) λb r hb=>hblk b (Array.getElem?_eq_some_iff.1 hb).1⟩,hXZ,hkp,λb i hs=>.inl hs,λb hb=>.inr hb⟩,hr.flat hfl,hk⟩;intro o c g fz cs ho;obtain⟨b,bs,h1,h2,c',t,h3,h4,h5⟩:=hI.obj o c g fz cs ho;exact⟨b,bs,h1,h2,c',t,by show Y.w.heap[b]?=_;rw[hblk b (hI.lt ho h1)];exact h3,h4,h5.mono hXZ⟩;intro b i hs;exact⟨Nat.lt_of_lt_of_le (hI.safe b i hs).1 hg.kp.size,(hI.safe b i hs).2⟩;exact Nat.le_trans hI.bw hg.kp.size
theorem Z7n{X:Cx}(b:Nat):¬ LiveB X Zk b:=by rintro(⟨o,c,g,fz,cs,bs,ho,_⟩|⟨o,r,ho⟩)<;>cases ho
def Fz(F:Nat->Bool)(H:Heap):V->V->Prop:=Cv F H id (λv v'=>v'=v\/v'=.top\/v'=v.recol λ_=>.any)
def FzO(F:Nat->Bool)(H:Heap)(o:Nat):AObj->Prop
 |.dead=>True
 |.mp lo b ks vs=>∃ vs0,H o=.mp lo b ks vs0/\vs.length=vs0.length/\∀ i (h1:i<vs0.length) (h2:i<vs.length),Fz F H vs0[i] vs[i]
 |.lp b r=>H o=.lp b r
 |.cells c g fz cs=>∃ c0 fz0 cs0,H o=.cells c0 g fz0 cs0/\(c=c0\/c=.any)/\fz0<=fz/\(F o=true->cs0.length<=fz)/\cs.length=cs0.length/\∀ i (h1:i<cs0.length) (h2:i<cs.length),Fz F H cs0[i] cs[i]
theorem Zbr{X:Cx}{H:Heap}(hI:Inv X H)(F:Nat->Bool){H':Heap}(hH:∀ o,FzO F H o (H' o)):
  ∃ Y,Y.w=X.w/\Goes X H Y H'/\∀ x v v',Fz F H v v'->Rel X x v->Rel Y x v':=by
 let Y:Cx:={ X with S:=λb i=>X.S b i\/∃ o c g fz cs bs,F o=true/\H o=.cells c g fz cs/\X.β o g=some (b,bs)/\bs<=i/\i<bs+cs.length }
 have hle:X.le Y:=⟨λ_ _ _ h=>h,λ_ _ h=>.inl h,λ_ _ _ _ h=>h,rfl,λ_ c _ h=>⟨c,h,rfl⟩,λ_ _ _ _ h=>h⟩
 have hrel:∀ x v v',Fz F H v v'->Rel X x v->Rel Y x v':=by
  intro x v v' hf hr;refine Cv.rel (Y:=Y) (col:=id) hI ?_ ?_ (λ_ _ _ h=>h) hf hr;rintro x v v' (rfl|rfl|rfl) hr;exact hr.mono hle;exact .top _;exact hr.conv (X:=X) (Y:=Y) (λ_=>.any) (λ_ _ h=>.inl h) (λ_ _ _ _ h=>h) ⟨λ_ c _ h=>⟨c,h,rfl⟩,λ_ _ _ _ h=>h⟩ (λ_ _ _ _=>trivial) (.inl λ_ _ _ h=>h);intro o c g fz cs b bs hF ho hβ;obtain⟨b',bs',h1,h2,_⟩:=hI.obj o c g fz cs ho;rw[hβ]at h1;cases h1;exact⟨h2,λi hi=>.inr ⟨o,c,g,fz,cs,bs,hF,ho,hβ,zo,zo⟩⟩
 have key:∀ o c g fz cs,H' o=.cells c g fz cs->∃ c0 fz0 cs0,H o=.cells c0 g fz0 cs0/\(c=c0\/c=.any)/\fz0<=fz/\(F o=true->cs0.length<=fz)/\cs.length=cs0.length/\∀ i (h1:i<cs0.length) (h2:i<cs.length),Fz F H cs0[i] cs[i]:=by
  intro o c g fz cs ho;have:=hH o;rw[ho]at this;exact this
 have hL:∀ o b r,H' o=.lp b r->H o=.lp b r:=λo b r ho=>by
  have:=hH o;rw[ho]at this;exact this
 have hSn:∀ b i,Y.S b i->X.S b i\/X.w.heap.size<=b\/LiveB X H b:=by
  rintro b i (hs|⟨o,c,g,fz,cs,bs,hF,ho,hβ,h1,h2⟩);exact .inl hs;exact .inr (.inr (.inl ⟨o,c,g,fz,cs,bs,ho,hβ⟩))
 refine⟨Y,rfl,⟨⟨?_,?_,?_,hI.fin,hI.bw,λb i hs hb=>(by
  rcases hs with hs|⟨o,c,g,fz,cs,bs,_,ho,hβ,_⟩
  exact hI.thaw b i hs hb
  exact .inl (hI.live_thaw ⟨o,c,g,fz,cs,bs,ho,hβ⟩)),(λo lo b ks vs ho=>?_),hI.lps_tr hL λ_ _ _=>rfl⟩,hle,Keep.refl _ _,hSn,?_⟩,hrel⟩
 intro o c g fz cs ho;obtain⟨c0,fz0,cs0,h1,hcc,h2,h3,h4,h5⟩:=key _ _ _ _ _ ho;obtain⟨b,bs,q1,q2,c',t,q3,q4,q5⟩:=hI.obj o c0 g fz0 cs0 h1
 have q2:c.ok X.base b:=by
  rcases hcc with rfl|rfl
  exact q2
  trivial
 refine⟨b,bs,q1,q2,c',t,q3,zo,?_⟩;rw[h4];refine⟨by rw[q5.len,h4],q5.one,λi a b=>?_⟩;exact hrel _ _ _ (h5 i zo b) (q5.rel i a zo);intro o1 c1 g1 f1 l1 o2 c2 g2 f2 l2 b s1 s2 h1 h2;obtain⟨_,_,_,h1,_⟩:=key _ _ _ _ _ h1;obtain⟨_,_,_,h2,_⟩:=key _ _ _ _ _ h2;exact hI.inj _ _ _ _ _ _ _ _ _ _ _ _ _ h1 h2;rintro b i (hs|⟨o,c,g,fz,cs,bs,hF,ho,hβ,h1,h2⟩);refine⟨(hI.safe b i hs).1,λo c g fz cs bs ho hβ => ?_⟩;obtain⟨c0,fz0,cs0,h1,_,h2,_⟩:=key _ _ _ _ _ ho;have:=(hI.safe b i hs).2 _ _ _ _ _ _ h1 hβ;omega;refine⟨hI.lt ho hβ,λo' c' g' fz' cs' bs' ho' hβ'=>?_⟩;obtain⟨c0,fz0,cs0,q1,_,q2,q3,q4,_⟩:=key _ _ _ _ _ ho';have:=hI.inj _ _ _ _ _ _ _ _ _ _ _ _ _ q1 ho hβ' hβ;subst this;rw[ho]at q1;cases q1;rw[hβ]at hβ';cases hβ';have:=q3 hF;omega
 have hM:∀ o lo b ks vs,H' o=.mp lo b ks vs->∃ vs0,H o=.mp lo b ks vs0/\vs.length=vs0.length/\∀ i (h1:i<vs0.length) (h2:i<vs.length),Fz F H vs0[i] vs[i]:=λo lo b ks vs ho=>by
  have:=hH o;rw[ho]at this;exact this
 obtain⟨vs0,h1,h2,h3⟩:=hM _ _ _ _ _ ho;obtain⟨q1,q2,q3,es,n,q4,q5,q6,q7,q8⟩:=hI.mps _ _ _ _ _ h1;refine⟨q1,?_,λo2 lo2 ks2 vs2 q=>by obtain⟨_,q9,_⟩:=hM _ _ _ _ _ q;exact q3 _ _ _ _ q9,es,n,q4,q5,zo,λi p q=>(q7 i p q).mono hle,λi p q=>hrel _ _ _ (h3 i zo q) (q8 i p zo)⟩;intro hs
 rcases hSn b 0 hs with q|q|q
 exact q2 q;have:=(Array.getElem?_eq_some_iff.1 q4).1;omega;exact hI.not_live q4 q;refine Zmd (λo b r ho=>.inr (.inr ⟨o,r,hL _ _ _ ho⟩)) ?_;rintro b ⟨o,c,g,fz,cs,bs,ho,hβ⟩;obtain⟨c0,fz0,cs0,h1,_⟩:=key _ _ _ _ _ ho;exact .inr (.inl ⟨o,c0,g,fz0,cs0,bs,h1,hβ⟩)
theorem Zqd(F:Nat->Bool){s s':AS}(hτ : ∀ t,s'.τ t=.top\/Fz F s.H (s.τ t) (s'.τ t))(hH:∀ o,FzO F s.H o (s'.H o)):Weak E s s':=by
 rintro a w ⟨X,hX⟩;obtain⟨Y,hw,hg,hr⟩:=Zbr hX.go.inv F hH;refine⟨Y,by rw[hw,hX.hw],hX.on_ hg,hX.df.go hX.go.inv hg,hX.sz,λt=>?_,λg=>(hX.gl g).go hX.go.inv hg⟩
 rcases hτ t with h|h
 rw[h];exact .top _;exact hr _ _ _ h (hX.tm t)
theorem Zrk(F:Nat->Bool){G:Nat->V}{f:FuncId}{args args':List V}{H H':Heap}{K:V->Heap->Prop}(hlen:args'.length=args.length)
  (hA:∀ i (h1:i<args.length) (h2:i<args'.length),Fz F H args[i] args'[i]) (hH:∀ o,FzO F H o (H' o)) (h:CallA P G f args' H' K):CallA P G f args H K:=by
 refine⟨h.1,λX cargs hI hG hR=>?_⟩;obtain⟨Y,hw,hg,hr⟩:=Zbr hI F hH;have hA':RelA Y cargs args':=⟨by rw[hR.len,hlen],λi h1 h2=>hr _ _ _ (hA i zo h2) (hR.rel i h1 zo)⟩;have:=h.2 Y cargs hg.inv (λg=>(hG g).go hI hg) hA';rw[hw]at this;refine this.mono ?_;rintro e w' ⟨c,v,H'',Z,rfl,rfl,q1,q2,q3⟩;exact⟨c,v,H'',Z,rfl,rfl,hg.trans q1,q2,q3⟩
end
end Go.Hs
