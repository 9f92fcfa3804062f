/- A part. No condition. -/
import Derived.Test.YtegjlbpnpiigkaaGreatDoorP24
set_option linter.all false
namespace Go.Hs
section
variable{P:Program}{E:Ent}
def AS.ent(s:AS):AS:=⟨λt=>(s.τ t).recol Col.ent,λo=>(s.H o).recol Col.ent⟩
def AS.bk(s:AS):AS:=⟨λt=>(s.τ t).recol Col.bk,λo=>(s.H o).recol Col.bk⟩
theorem Zyv{f:Col->Col}{ob:AObj}{lo b:Nat}{ks vs:List V}(h:ob.recol f=.mp lo b ks vs):False:=by cases ob<;>simp[AObj.recol]at h
theorem Zpc{f:Col->Col}{ob:AObj}{c:Col}{g fz:Nat}{cs:List V}(h:ob.recol f=.cells c g fz cs):∃ c0 cs0,ob=.cells c0 g fz cs0/\c=f c0/\cs=Z8a f cs0:=by
 cases ob with
 |dead=>simp[AObj.recol]at h
 |mp=>simp[AObj.recol]at h
 |lp=>simp[AObj.recol]at h
 |cells c0 g0 fz0 cs0=>
  simp only[AObj.recol,AObj.cells.injEq]at h;obtain⟨rfl,rfl,rfl,rfl⟩:=h;exact⟨c0,cs0,rfl,rfl,rfl⟩
theorem Zjla{c:Code}{Q:Exit->AS->Prop}{s:AS}(hG:GOk E.G)(h:∀ X1 H1,X1.base=X1.w.heap.size->Inv X1 H1->AW P ⟨X1,H1,E.n,E.q,E.G,none,[],.plain⟩ c (λe s'=>Q e s'.bk) s.ent)(hdf:E.df=[]:=by rfl)(hkp:E.kp=none:=by rfl)(hrk:E.rk=.plain:=by rfl):AW P E c Q s:=by
 rintro a w ⟨X,hX⟩;have hI:=hX.go.inv;have hw:=hX.hw
 let Xe:Cx:={ X with base:=X.w.heap.size }
 have hent:∀ c b,b<X.w.heap.size->Col.ok c X.base b->(Col.ent c).ok Xe.base b:=by
  intro c b hb _;cases c;exact hb;exact hb
  trivial
 have hconv:∀ x v,Rel X x v->Rel Xe x (v.recol Col.ent):=λx v hr=>
  hr.conv (X:=X) (Y:=Xe) Col.ent (λ_ _ h=>h) (λ_ _ _ _ h=>h) ⟨λ_ c _ h=>⟨c,h,rfl⟩,λ_ _ _ _ h=>h⟩ hent (.inl λ_ _ _ h=>h)
 have hIe:Inv Xe s.ent.H:=by
  refine⟨?_,?_,?_,hI.fin,Nat.le_refl _,λb i hs hb=>absurd (hI.safe b i hs).1 (Nat.not_lt.2 hb),.no λo lo b ks vs ho=>Zyv ho,.no λo b r ho=>Zwn ho⟩;intro o c g fz cs ho;obtain⟨c0,cs0,h1,rfl,rfl⟩:=Zpc ho;obtain⟨b,bs,h2,h3,c',t,h4,h5,h6⟩:=hI.obj o c0 g fz cs0 h1;refine⟨b,bs,h2,hent _ _ (hI.lt h1 h2) h3,c',t,h4,by rw[Z8,List.length_map];exact h5,?_⟩;have:=h6.conv (X:=X) (Y:=Xe) Col.ent (λ_ _ h=>h) (λ_ _ _ _ h=>h) ⟨λ_ c _ h=>⟨c,h,rfl⟩,λ_ _ _ _ h=>h⟩ hent (λ_ _ _ h=>h);rw[Z8,List.length_map];rw[Z8]at this;exact this;intro o1 c1 g1 f1 l1 o2 c2 g2 f2 l2 b s1 s2 h1 h2 b1 b2;obtain⟨_,_,h1,_,_⟩:=Zpc h1;obtain⟨_,_,h2,_,_⟩:=Zpc h2;exact hI.inj _ _ _ _ _ _ _ _ _ _ _ _ _ h1 h2 b1 b2;intro b i hs;refine⟨(hI.safe b i hs).1,λo c g fz cs bs ho hb=>?_⟩;obtain⟨_,_,h1,_,_⟩:=Zpc ho;exact(hI.safe b i hs).2 _ _ _ _ _ _ h1 hb
 have hs1:Sat ⟨Xe,s.ent.H,E.n,E.q,E.G,none,[],.plain⟩ s.ent a w:=by
  have hdn:a.defers=[]:=by
   have:=hX.df;rw[hdf,hrk]at this;exact DefR.nil this
  refine⟨Xe,hX.hw,Goes.refl hIe,(by rw[hdn];exact .none _ _ _),hX.sz,λt=>hconv _ _ (hX.tm t),λg=>?_⟩;refine⟨?_,(hX.gl g).sz.reb rfl rfl (hG g).1⟩;have:=hconv _ _ (hX.gl g).rel;rwa [(hG g).1]at this
 rw[hrk];refine wpIn_mono (h Xe s.ent.H rfl hIe a w hs1) ?_;rintro e a' w' (⟨s',⟨Y,hY⟩,hQ⟩|⟨ch,rfl,hp⟩);rotate_left;exact(hp.no rfl).elim;have hg:=hY.go
 let Z:Cx:={ Y with base:=X.base }
 have hbk:∀ c b,b<Y.w.heap.size->Col.ok c Y.base b->(Col.bk c).ok Z.base b:=by
  intro c b _ hok;have hbase:Y.base=X.w.heap.size:=hg.le.base;have:=hI.bw;cases c;simp only[Col.ok,Col.bk]at hok⊢
  show X.base<=b
  omega
  trivial
  trivial
 have hXZ:X.le Z:=⟨hg.le.β,hg.le.S,hg.le.cell,rfl,hg.le.blk,hg.le.map⟩
 have hLive0:∀ b,LiveB Xe s.ent.H b->∃ o c g fz cs bs,s.H o=.cells c g fz cs/\X.β o g=some (b,bs):=by
  refine Ztd (λo b r ho=>(Zwn ho).elim) ?_;rintro b ⟨o,c,g,fz,cs,bs,ho,hb⟩;obtain⟨c0,cs0,h1,_,_⟩:=Zpc ho;exact⟨o,c0,g,fz,cs0,bs,h1,hb⟩
 have hLive:∀ b,LiveB Xe s.ent.H b->LiveB X s.H b:=λb h=>.inl (hLive0 b h)
 have hrel:∀ x v,Rel Y x v->Rel Z x (v.recol Col.bk):=λx v hr=>
  hr.conv (X:=Y) (Y:=Z) Col.bk (λ_ _ h=>h) (λ_ _ _ _ h=>h) ⟨λ_ c _ h=>⟨c,h,rfl⟩,λ_ _ _ _ h=>h⟩ hbk (.inl λ_ _ _ h=>h)
 have hgo:Goes X s.H Z s'.bk.H:=by
  refine⟨⟨?_,?_,?_,hg.inv.fin,?_,λb i hs hb=>(by
  rcases hg.Sn b i hs with h1|h1|h1
  rcases hI.thaw b i h1 hb with ⟨c1,t1,h2⟩|⟨rfl,es,n,h2⟩
  obtain⟨c2,h3,_⟩:=hXZ.blk b c1 t1 h2;exact .inl ⟨c2,t1,h3⟩;exact .inr ⟨rfl,es,n,hXZ.map b es n h1 h2⟩;exact hg.inv.thaw b i hs (by rw[hg.le.base];exact h1);obtain⟨c1,t1,h2⟩:=hI.live_thaw (hLive0 b h1);obtain⟨c2,h3,_⟩:=hXZ.blk b c1 t1 h2
  exact .inl ⟨c2,t1,h3⟩),.no λo lo b ks vs ho=>Zyv ho,.no λo b r ho=>Zwn ho⟩,hXZ,hg.kp.mono λb _ hl=>hLive b hl,?_,?_⟩
  intro o c g fz cs ho;obtain⟨c0,cs0,h1,rfl,rfl⟩:=Zpc ho;obtain⟨b,bs,h2,h3,c',t,h4,h5,h6⟩:=hg.inv.obj o c0 g fz cs0 h1;refine⟨b,bs,h2,hbk _ _ (hg.inv.lt h1 h2) h3,c',t,h4,by rw[Z8,List.length_map];exact h5,?_⟩;have:=h6.conv (X:=Y) (Y:=Z) Col.bk (λ_ _ h=>h) (λ_ _ _ _ h=>h) ⟨λ_ c _ h=>⟨c,h,rfl⟩,λ_ _ _ _ h=>h⟩ hbk (λ_ _ _ h=>h);rw[Z8,List.length_map];rw[Z8]at this;exact this;intro o1 c1 g1 f1 l1 o2 c2 g2 f2 l2 b s1 s2 h1 h2 b1 b2;obtain⟨_,_,h1,_,_⟩:=Zpc h1;obtain⟨_,_,h2,_,_⟩:=Zpc h2;exact hg.inv.inj _ _ _ _ _ _ _ _ _ _ _ _ _ h1 h2 b1 b2;intro b i hs;refine⟨(hg.inv.safe b i hs).1,λo c g fz cs bs ho hb=>?_⟩;obtain⟨_,_,h1,_,_⟩:=Zpc ho;exact(hg.inv.safe b i hs).2 _ _ _ _ _ _ h1 hb;have h1:=hI.bw;have h2:X.w.heap.size<=Y.w.heap.size:=hg.kp.size
  show X.base<=Y.w.heap.size
  omega;intro b i hs
  rcases hg.Sn b i hs with h1|h1|h1
  exact .inl h1;exact .inr (.inl h1);exact .inr (.inr (hLive b h1));refine Ztd (λo b r ho=>(Zwn ho).elim) ?_;rintro b ⟨o,c,g,fz,cs,bs,ho,hb⟩;obtain⟨c0,cs0,h1,_,_⟩:=Zpc ho
  rcases hg.on b (.inl ⟨o,c0,g,fz,cs0,bs,h1,hb⟩)with q|q
  exact .inl q;exact .inr (hLive b q)
 refine .inl ⟨s'.bk,⟨Z,hY.hw,hX.go.trans hgo,(by rw[hdf,DefR.nil hY.df];exact .none _ _ _),hY.sz,λt=>hrel _ _ (hY.tm t),λg=>?_⟩,hQ⟩;exact(hX.gl g).go hI hgo
inductive V.Old:V->Prop
 |bool (b:Bool):Old (.bool b)
 |int (k:IntKind) (n:Int):Old (.int k n)
 |str (s:List UInt8):Old (.str s)
 |nilp:Old .nilp
 |view (v:V) (h:∀ x∈v.cells,Old x):Old (.view .old v)
 |ptr (o g off:Nat):Old (.ptr o g off)
 |nils:Old .nils
 |slice (clip:Bool) (E:Nat) (l:List V) (h:∀ x∈flat l,Old x):Old (.slice .old clip E l)
 |agg (l:List V) (h:∀ x∈l,Old x):Old (.agg l)
 |tuple (l:List V) (h:∀ x∈l,Old x):Old (.tuple l)
 |iface (t:TypeId) (v:V) (h:Old v):Old (.iface t v)
 |top:Old .top
theorem Zyq{α : Type}{m:Nat}{f : α -> V}(hf:∀ x,∀ y∈(f x).cells,V.Old y)(s:Sl α):V.Old (Zb .old m f s):=by
 cases s with
 |nil=>exact .nils
 |mk b l=>
  refine .slice _ _ _ λx hx=>?_;obtain⟨v,hv,hx⟩:=Z5t.1 hx;obtain⟨a,_,rfl⟩:=List.mem_map.1 hv;exact hf a x hx
theorem Rel.old{X Y:Cx}(hS:∀ b i,X.S b i->b<X.base->Y.S b i)(hβ : ∀ o g p,X.β o g=some p->Y.β o g=some p)(hb:Y.base=X.base)(hc:∀ b i x,b<X.base->X.cell b i=some x->Y.cell b i=some x){x:Value}{v:V}(h:Rel X x v)(ho:v.Old):Rel Y x v:=by
 induction h with
 |top x=>exact .top x
 |bool b=>exact .bool b
 |int k n=>exact .int k n
 |str s l h=>exact .str s l h
 |nilp=>exact .nilp
 |view c v b off f hcc hr ih=>
  cases ho with
  |view _ h=>
   refine .view _ v b off f (λi hi=>?_) (λi hi=>ih i hi (h _ (List.getElem_mem hi)));obtain⟨h1,h2,h3,h4⟩:=hcc i hi;have h2:b<X.base:=h2;exact⟨hS _ _ h1 h2,by rw[hb];exact h2,hc _ _ _ h2 h3,h4⟩
 |ptr o g off b bs h=>exact .ptr o g off b bs (hβ _ _ _ h)
 |nils=>exact .nils
 |slice0 c clip E a=>exact .slice0 c clip E a
 |slice c clip E l b off cap f hcap hclip hE hcc hr ih=>
  cases ho with
  |slice _ _ _ h=>
   refine .slice _ clip E l b off cap f hcap hclip hE (λi hi=>?_) (λi hi=>ih i hi (h _ (List.getElem_mem hi)));obtain⟨h1,h2,h3,h4⟩:=hcc i hi;have h2:b<X.base:=h2;exact⟨hS _ _ h1 h2,by rw[hb];exact h2,hc _ _ _ h2 h3,h4⟩
 |msl=>cases ho
 |func=>cases ho
 |nilf=>cases ho
 |iface t x v h ih=>
  cases ho with
  |iface _ _ ho=>exact .iface t x v (ih ho)
 |nili=>cases ho
 |agg xs l hx ho' hr ih=>
  cases ho with
  |agg _ h=>exact .agg xs l hx ho' λi h1 h2=>ih i h1 h2 (h _ (List.getElem_mem h2))
 |tuple xs l hx hr ih=>
  cases ho with
  |tuple _ h=>exact .tuple xs l hx λi h1 h2=>ih i h1 h2 (h _ (List.getElem_mem h2))
 |nilm=>cases ho
 |mapv=>cases ho
 |mref=>cases ho
theorem SzK.old{X Y:Cx}{g:Nat}{v:V}(h:SzK X g v)(ho:v.Old)(hb:Y.base=X.base)(hblk:∀ k,k<X.base->Y.w.heap[k]?=X.w.heap[k]?):SzK Y g v:=by
 unfold SzK at h⊢
 split
 rename_i c cs;simp only at h;obtain⟨h0,l,t,fr,h1,h2⟩:=h;cases ho;refine⟨by rw[hb];exact h0,l,t,fr,?_,h2⟩;rw[hblk g h0];exact h1
 trivial
end
end Go.Hs
