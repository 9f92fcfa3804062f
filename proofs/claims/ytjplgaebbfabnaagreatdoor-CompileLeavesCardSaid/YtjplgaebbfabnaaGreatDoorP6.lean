/- A part. No condition. -/
import Derived.Test.YtjplgaebbfabnaaGreatDoorP5
import Derived.Laws.CopyRow
import Derived.Laws.Append
set_option linter.all false
namespace Go.Hs
section
variable{P:Program}{X:Cx}{H:Heap}
theorem Inv.lt{o:Nat}(h:Inv X H){c:Col}{g fz:Nat}{cs:List V}(d:H o=.cells c g fz cs){b f:Nat}(i : X.β o g=some (b,f)):b<X.w.heap.size:=by
 obtain⟨l,e,a,_,k,t,j,_⟩:=h.obj o c g fz cs d
 grind
theorem Inv.thaw_le{Y:Cx}(h:Inv X H)(a:X.le Y)(g:∀ b i,Y.S b i->X.S b i):∀ b i,Y.S b i->Y.base<=b->(∃ c t,Y.w.heap[b]?=some (Obj.cells c t (0,0)))\/(i=0/\∃ es n,Y.w.heap[b]?=some (Obj.map es n)):=by
 intro b i e f;rw[a.base]at f
 rcases h.thaw b i (g b i e) f with ⟨c,t,d⟩|⟨rfl,es,n,d⟩
 obtain⟨k,j,_⟩:=a.blk b c t d
 grind
 exact .inr ⟨rfl,es,n,a.map b es n (g b 0 e) d⟩
theorem Inv.live_thaw(h:Inv X H){b:Nat}(e:∃ o c g fz cs bs,H o=.cells c g fz cs/\X.β o g=some (b,bs)):∃ c t,X.w.heap[b]?=some (Obj.cells c t (0,0)):=by
 obtain⟨o,c,g,fz,cs,bs,d,i⟩:=e;obtain⟨l,f,a,_,k,t,j,_⟩:=h.obj o c g fz cs d
 grind
theorem Uw{Q:Nat->Prop}(d:∀ o b r,H o=.lp b r->Q b)(e:∀ b,(∃ o c g fz cs bs,H o=.cells c g fz cs/\X.β o g=some (b,bs))->Q b):∀ b,Xx X H b->Q b:=by
 rintro b (q|⟨o,r,a⟩)
 grind
 grind
theorem Zyc{H:Heap}{o:Nat}{c:Col}{g fz:Nat}{cs:List V}(o' b:Nat)(r:Loop)(a:Ya H o (.cells c g fz cs) o'=.lp b r):H o'=.lp b r:=by
 by_cases e:o'=o
 simp_all;rwa [Zp _ _ e]at a
theorem Goes.drew(h:Inv X H)(n:Nat):Goes X H { X with w:={ X.w with drawn:=n } } H:=by
 have a:X.le { X with w:={ X.w with drawn:=n } }:=⟨λ_ _ _ h=>h,λ_ _ h=>h,λ_ _ _ _ h=>h,rfl,λ_ c _ h=>⟨c,h,rfl⟩,λ_ _ _ _ h=>h⟩;have d:Keep (Xx X H) X.w ({ X.w with drawn:=n }:World):=⟨rfl,rfl,rfl,Nat.le_refl _,λ_ _ _=>rfl⟩;refine⟨⟨?_,h.inj,h.safe,h.fin,h.bw,h.thaw,h.mps_tr a (λ_ _ _ _ _ h=>h) d λ_ _ e=>.inl e,h.lps_tr (λ_ _ _ h=>h) λ_ _ _=>rfl⟩,a,d,λ_ _ e=>.inl e,λ_ i=>.inr i⟩;intro o c g q r f;obtain⟨b,u,p,m,s,t,l,k,j⟩:=h.obj o c g q r f;exact⟨b,u,p,m,s,t,l,k,j.mono a⟩
theorem Goes.sub(h:Inv X H){H':Heap}(k:∀ o,H' o=.dead\/H' o=H o):Goes X H X H':=by
 have a:∀ o c g e f,H' o=.cells c g e f->H o=.cells c g e f:=by
  grind
 refine⟨⟨?_,?_,?_,h.fin,h.bw,h.thaw,h.mps_tr (.refl X) (λo E b F D d=>by grind) (Keep.refl _ _) λ_ _ k=>.inl k,h.lps_tr (λo b r d=>by grind) λ_ _ _=>rfl⟩,Cx.le.refl X,Keep.refl _ _,λ_ _ k=>.inl k,?_⟩;exact λo c g e f d=>h.obj o c g e f (a _ _ _ _ _ d);exact λq C y A t p B x z s b n m w v=>h.inj q C y A t p B x z s b n m (a _ _ _ _ _ w) (a _ _ _ _ _ v);exact λb i j=>⟨(h.safe b i j).1,λo c g e f l d=>(h.safe b i j).2 o c g e f l (a _ _ _ _ _ d)⟩;refine Uw (λo b r d=>.inr (.inr ⟨o,r,by grind⟩)) ?_;rintro b ⟨o,c,g,e,f,l,d,u⟩;exact .inr (.inl ⟨o,c,g,e,f,l,a _ _ _ _ _ d,u⟩)
def Cx.add(X:Cx)(o g b bs:Nat)(w:World):Cx:={ X with β := λo' g'=>if o'=o/\g'=g then some (b,bs)else X.β o' g',w:=w }
theorem Zaq(h:Inv X H){o g:Nat}(j:X.β o g=none)(ob:Obj):X.le (X.add o g X.w.heap.size 0 (X.w.alloc ob)) where
 β := λe k p f=>by
  simp only[Cx.add]
  grind
 S:=λ_ _ h=>h
 cell:=λb i x _ d=>by
  have:=World.block_lt_of_cell? _ _ d;exact(World.cell?_alloc_lt X.w ob ⟨b,i,none⟩ this).trans d
 base:=rfl
 blk:=λb c t a=>by
  have:b<X.w.heap.size:=by grind
  exact⟨c,by simp only[Cx.add];rw[RowKit.Below.heap_alloc _ _ _ this];exact a,rfl⟩
 map:=λb es n _ a=>by
  have:b<X.w.heap.size:=by grind
  simp only[Cx.add];rw[RowKit.Below.heap_alloc _ _ _ this];exact a
theorem Goes.alloc(h:Inv X H){o g:Nat}(hg:X.β o g=none)(fz:Nat)(c:Col)(hc:c=.new\/c=.any)(xs:Array Value)(t:TypeId)(cs:List V)(hl:cs.length<=xs.size)(T:RelC X (xs.toList.take cs.length) cs):
  Goes X H (X.add o g X.w.heap.size 0 (X.w.alloc (.cells xs t))) (Ya H o (.cells c g fz cs)):=by
 have s:=Zaq h hg (.cells xs t)
 have q:∀ a v m u f,a≠o->Ya H o (.cells c g fz cs) a=.cells v m u f->H a=.cells v m u f:=λa v m u f e d=>by rwa [Zp _ _ e]at d
 have j : ∀ a m b x,a≠o->(X.add o g X.w.heap.size 0 (X.w.alloc (.cells xs t))).β a m=some (b,x)->X.β a m=some (b,x):=by
  intro a m b x e d;simp only[Cx.add]at d;rwa [if_neg (λd=>e d.1)]at d
 have p:∀ v m u f,Ya H o (.cells c g fz cs) o=.cells v m u f->v=c/\m=g/\u=fz/\f=cs:=by
  intro v m u f d;simp at d;obtain⟨rfl,rfl,rfl,rfl⟩:=d;simp
 have l : ∀ b x,(X.add o g X.w.heap.size 0 (X.w.alloc (.cells xs t))).β o g=some (b,x)->b=X.w.heap.size/\x=0:=by
  intro b x d;simp[Cx.add]at d;exact⟨d.1.symm,d.2.symm⟩
 have D:Keep (Xx X H) X.w (X.add o g X.w.heap.size 0 (X.w.alloc (.cells xs t))).w:=⟨rfl,rfl,rfl,by simp[Cx.add],λk W _=>RowKit.Below.heap_alloc _ _ _ W⟩
 have C:∀ a K b L J,Ya H o (.cells c g fz cs) a=.mp K b L J->H a=.mp K b L J:=λa K b L J d=>by
  by_cases e:a=o
  subst e;simp at d;rwa [Zp _ _ e]at d
 refine⟨⟨?_,?_,?_,?_,?_,h.thaw_le s λ_ _ y=>y,h.mps_tr s C D λ_ _ y=>.inl y,h.lps_tr Zyc λb r z=>RowKit.Below.heap_alloc _ _ _ (Array.getElem?_eq_some_iff.1 z).1⟩,s,D,λ_ _ y=>.inl y,?_⟩;intro a v m u f d
 by_cases e:a=o
 subst e;obtain⟨rfl,rfl,rfl,rfl⟩:=p _ _ _ _ d;refine⟨X.w.heap.size,0,by simp[Cx.add],?_,xs,t,?_,zo,?_⟩
 rcases hc with rfl|rfl
 exact h.bw
 trivial
 show(X.w.heap.push _)[X.w.heap.size]?=_
 simp;simpa using T.mono s;have I:=q _ _ _ _ _ e d;obtain⟨b,x,B,E,N,S,h3,h4,h5⟩:=h.obj a v m u f I;refine⟨b,x,s.β _ _ _ B,E,N,S,?_,h4,h5.mono s⟩;simp only[Cx.add];rw[RowKit.Below.heap_alloc _ _ _ (h.lt I B)];exact h3;intro R c1 g1 f1 l1 Q c2 g2 f2 l2 b s1 s2 B E P O
 by_cases F:R=o
 subst F
 by_cases A:Q=R
 exact A.symm;obtain⟨rfl,rfl,rfl,rfl⟩:=p _ _ _ _ B;obtain⟨rfl,rfl⟩:=l _ _ P;have:=h.lt (q _ _ _ _ _ A E) (j _ _ _ _ A O);omega
 by_cases A:Q=o
 subst A;obtain⟨rfl,rfl,rfl,rfl⟩:=p _ _ _ _ E;obtain⟨rfl,rfl⟩:=l _ _ O;have:=h.lt (q _ _ _ _ _ F B) (j _ _ _ _ F P);omega;exact h.inj _ _ _ _ _ _ _ _ _ _ _ _ _ (q _ _ _ _ _ F B) (q _ _ _ _ _ A E) (j _ _ _ _ F P) (j _ _ _ _ A O);intro b i y;have M:=h.safe b i y;refine⟨by simp only[Cx.add,World.size_alloc];omega,λa v m u f G d z=>?_⟩
 by_cases e:a=o
 subst e;obtain⟨rfl,rfl,rfl,rfl⟩:=p _ _ _ _ d;obtain⟨rfl,rfl⟩:=l _ _ z;omega;exact M.2 _ _ _ _ _ _ (q _ _ _ _ _ e d) (j _ _ _ _ e z);intro a;obtain⟨n,U⟩:=h.fin a;refine⟨max n (g+1),λm Y=>?_⟩;simp only[Cx.add];rw[if_neg zo];exact U m zo;have:=h.bw;simp only[Cx.add,World.size_alloc];omega;refine Uw (λa b r I=>.inr (.inr ⟨a,r,Zyc _ _ _ I⟩)) ?_;rintro b ⟨a,v,m,u,f,G,d,z⟩
 by_cases e:a=o
 subst e;obtain⟨rfl,rfl,rfl,rfl⟩:=p _ _ _ _ d;obtain⟨rfl,rfl⟩:=l _ _ z;exact .inl (Nat.le_refl _);exact .inr (.inl ⟨a,v,m,u,f,G,q _ _ _ _ _ e d,j _ _ _ _ e z⟩)
theorem Jb(h:Inv X H){o g fz:Nat}{c:Col}{cs:List V}(G:H o=.cells c g fz cs){b U:Nat}(J : X.β o g=some (b,U)){c1:Array Value}{t:TypeId}
  (hb:X.w.heap[b]?=some (Obj.cells c1 t (0,0))) (F:Array Value) (hsz:F.size=c1.size) (O:∀ i,i<U+fz->F[i]?=c1[i]?)
  (T:Col) (hcol:T=c\/T=.any) (A j D:Nat) (y:List V) (hg:A=g/\j=U\/X.β o A=none) (hfz:U+fz<=j+D) (hfit:j+y.length<=F.size)
  (hr:RelC X ((F.toList.drop j).take y.length) y):
  Goes X H (X.add o A b j (X.w.setRow b F)) (Ya H o (.cells T A D y)):=by
 have hblt:b<X.w.heap.size:=h.lt G J;have R:=setRow_heap X.w b c1 F t (0,0) hb
 have C:X.le (X.add o A b j (X.w.setRow b F)):=by
  refine⟨?_,λ_ _ h=>h,?_,rfl,?_,λu es n _ Q=>by
   by_cases e:u=b
   subst e;rw[hb]at Q;cases Q
   simp only[Cx.add];rw[setRow_other _ _ _ _ e];exact Q⟩
  intro f m p hp;simp only[Cx.add]
  split
  rename_i e;obtain⟨rfl,rfl⟩:=e
  rcases hg with ⟨rfl,rfl⟩|hg
  rw[<- hp,J];rw[hg]at hp;cases hp;exact hp;intro u i x K hc
  by_cases e:u=b
  subst e;have hi:=(h.safe _ _ K).2 _ _ _ _ _ _ G J
  have hc1:c1[i]?=some x:=by simpa[Cx.cell,World.cell?,hb]using hc
  simp[Cx.cell,Cx.add,World.cell?,R,O i hi,hc1];have:=setRow_other X.w b u F e;simpa[Cx.cell,Cx.add,World.cell?,this]using hc;intro u d t1 Q
  by_cases e:u=b
  subst e;rw[hb]at Q;cases Q;exact⟨F,by simpa[Cx.add]using R,hsz⟩;exact⟨d,by simp only[Cx.add];rw[setRow_other _ _ _ _ e];exact Q,rfl⟩
 have z:∀ f c1 m E B,f≠o->Ya H o (.cells T A D y) f=.cells c1 m E B->H f=.cells c1 m E B:=λf c1 m E B e a=>by rwa [Zp _ _ e]at a
 have l : ∀ f m p,f≠o->(X.add o A b j (X.w.setRow b F)).β f m=some p->X.β f m=some p:=by
  intro f m p e a;simp only[Cx.add]at a;rwa [if_neg (λa=>e a.1)]at a
 have v:∀ c1 m E B,Ya H o (.cells T A D y) o=.cells c1 m E B->c1=T/\m=A/\E=D/\B=y:=by
  intro c1 m E B a;simp at a;obtain⟨rfl,rfl,rfl,rfl⟩:=a;simp
 have q : ∀ u N,(X.add o A b j (X.w.setRow b F)).β o A=some (u,N)->u=b/\N=j:=by
  intro u N a;simp[Cx.add]at a;exact⟨a.1.symm,a.2.symm⟩
 have hkp:Keep (Xx X H) X.w (X.add o A b j (X.w.setRow b F)).w:=⟨rfl,rfl,rfl,by simp[Cx.add],λk hk hn=>setRow_other _ _ _ _ (λe=>hn (by subst e;exact .inl ⟨o,c,g,fz,cs,U,G,J⟩))⟩
 have Y:∀ M lo b ks vs,Ya H o (.cells T A D y) M=.mp lo b ks vs->H M=.mp lo b ks vs:=λM lo b ks vs a=>by
  by_cases e:M=o
  subst e;simp at a;rwa [Zp _ _ e]at a
 refine⟨⟨?_,?_,?_,?_,?_,h.thaw_le C λ_ _ K=>K,h.mps_tr C Y hkp λ_ _ K=>.inl K,h.lps_tr Zyc λu r L=>setRow_other _ _ _ _ (λe=>by subst e;rw[hb]at L;cases L)⟩,C,hkp,λ_ _ K=>.inl K,?_⟩;intro f d1 m E B a
 by_cases e:f=o
 subst e;obtain⟨rfl,rfl,rfl,rfl⟩:=v _ _ _ _ a;obtain⟨b',bs1,W,hok,_⟩:=h.obj f c g fz cs G;rw[J]at W;cases W;refine⟨b,j,by simp[Cx.add],?_,F,t,by simpa[Cx.add]using R,hfit,hr.mono C⟩
 rcases hcol with rfl|rfl
 exact hok
 trivial
 have ho1:=z _ _ _ _ _ e a;obtain⟨u,bs1,L,h2,c'',t',h3,h4,h5⟩:=h.obj f d1 m E B ho1;have hne:u≠b:=λa=>e (by subst a;exact h.inj _ _ _ _ _ _ _ _ _ _ _ _ _ ho1 G L J);exact⟨u,bs1,C.β _ _ _ L,h2,c'',t',by simp only[Cx.add];rw[setRow_other _ _ _ _ hne];exact h3,h4,h5.mono C⟩;intro f d1 m E B o2 d2 g2 f2 l2 u N s2 L h2 s I
 by_cases e1:f=o
 subst e1
 by_cases S:o2=f
 exact S.symm;obtain⟨rfl,rfl,rfl,rfl⟩:=v _ _ _ _ L;obtain⟨rfl,rfl⟩:=q _ _ s;exact h.inj _ _ _ _ _ _ _ _ _ _ _ _ _ G (z _ _ _ _ _ S h2) J (l _ _ _ S I)
 by_cases S:o2=o
 subst S;obtain⟨rfl,rfl,rfl,rfl⟩:=v _ _ _ _ h2;obtain⟨rfl,rfl⟩:=q _ _ I;exact h.inj _ _ _ _ _ _ _ _ _ _ _ _ _ (z _ _ _ _ _ e1 L) G (l _ _ _ e1 s) J;exact h.inj _ _ _ _ _ _ _ _ _ _ _ _ _ (z _ _ _ _ _ e1 L) (z _ _ _ _ _ S h2) (l _ _ _ e1 s) (l _ _ _ S I);intro u i K;have P:=h.safe u i K;refine⟨by simp only[Cx.add,setRow_size];exact P.1,λf d1 m E B N a s=>?_⟩
 by_cases e:f=o
 subst e;obtain⟨rfl,rfl,rfl,rfl⟩:=v _ _ _ _ a;obtain⟨rfl,rfl⟩:=q _ _ s;have:=P.2 _ _ _ _ _ _ G J;omega;exact P.2 _ _ _ _ _ _ (z _ _ _ _ _ e a) (l _ _ _ e s);intro M;obtain⟨n,hn⟩:=h.fin M;refine⟨max n (A+1),λm hg1=>?_⟩;simp only[Cx.add];rw[if_neg zo];exact hn m zo;have:=h.bw;simpa only[Cx.add,setRow_size]using this;refine Uw (λM b r G=>.inr (.inr ⟨M,r,Zyc _ _ _ G⟩)) ?_;rintro u ⟨f,d1,m,E,B,N,a,s⟩
 by_cases e:f=o
 subst e;obtain⟨rfl,rfl,rfl,rfl⟩:=v _ _ _ _ a;obtain⟨rfl,rfl⟩:=q _ _ s;exact .inr (.inl ⟨f,c,g,fz,cs,U,G,J⟩);exact .inr (.inl ⟨f,d1,m,E,B,N,z _ _ _ _ _ e a,l _ _ _ e s⟩)
end
section
variable{P:Program}{X:Cx}{H:Heap}
theorem RelC.get?{xs:List Value}{l:List V}(h:RelC X xs l){i:Nat}{v:V}(a:l[i]?=some v):∃ x,xs[i]?=some x/\Rel X x v/\x.oneCell'=true:=by
 rw[List.getElem?_eq_some_iff]at a;obtain⟨b,rfl⟩:=a;have c:=h.len;exact⟨xs[i]'zo,by grind,h.rel i _ b,h.one _ (List.getElem_mem _)⟩
theorem Inv.cells(h:Inv X H){o g fz:Nat}{c:Col}{cs:List V}(d:H o=.cells c g fz cs){b a:Nat}(f : X.β o g=some (b,a)):
  ∃ (c1:Array Value) (t:TypeId),X.w.heap[b]?=some (Obj.cells c1 t (0,0))/\a+cs.length<=c1.size/\RelC X ((c1.toList.drop a).take cs.length) cs:=by
 obtain⟨k,e,j,_,i⟩:=h.obj o c g fz cs d
 grind
theorem Ex{w:World}{b i:Nat}{c1:Array Value}{t:TypeId}{c:Nat×Nat}(a:w.heap[b]?=some (Obj.cells c1 t c)):w.cell? ⟨b,i,none⟩=c1[i]? := by
 simp[World.cell?,a]
theorem T0{c1:List Value}{a n i:Nat}(hi:i<n):((c1.drop a).take n)[i]?=c1[a+i]? := by
 grind
theorem Zvr{t:TypeId}{l:List V}{xs:List Value}{off:Nat}{v:V}(h:RelC X xs l)(a:Pr P t l off=some v){b o:Nat}
  (p:∀ i x,xs[i]?=some x->X.w.cell? ⟨b,o+i,none⟩=some x):∃ c,(loadVar t ⟨b,o+off,none⟩).run P X.w=.ok c X.w/\Rel X c v:=by
 unfold Pr at a
 cases g:S0 P t with
 |none=>grind
 |some bb=>
  cases m:Yw P t with
  |none=>grind
  |some n=>
   cases bb with
   |true=>
    simp only[g,m]at a
    split at a
    simp at a;subst a;have y:=h.len;have s:RelC X ((xs.drop off).take n) ((l.drop off).take n):=(h.drop off).take n
    have d:=run_loadCells_list (P:=P) X.w ⟨b,o+off,none⟩ ((xs.drop off).take n) (λj x e=>by
     rw[Addr.add_lit]
     have k:j<n:=by
      rw[List.getElem?_eq_some_iff]at e;obtain⟨e,_⟩:=e;simp at e;omega
     rw[T0 k]at e;rw[Nat.add_assoc]
     exact p _ _ e)
    have f:((xs.drop off).take n).length=n:=zO;rw[f]at d;exact⟨.agg _,by simp[loadVar,Qs g,Y0 m,d],s.toAgg⟩;simp at a
   |false=>
    simp only[g]at a
    split at a
    rename_i u z;simp at u;obtain⟨x,q,r,_⟩:=h.get? a;have:=p off x q;exact⟨x,by simp[loadVar,Qs g,this],r⟩;simp at a
def Wc(P:Program)(H:Heap)(t:TypeId)(a:V):Option V:=
 match a with
 |.ptr o g off=>match H o with
  |.cells _ g' _ cs=>if g=g' then Pr P t cs off else none
  |_=>none
 |a=>Vo P t a
theorem Zqa(h:Inv X H){t:TypeId}{a v:V}{x:Value}(f:Rel X x a)(d:Wc P H t a=some v):∃ c,(Instr.loadAt t x).run P X.w=.ok c X.w/\Rel X c v:=by
 unfold Wc at d
 split at d
 split at d
 rename_i c p q s k
 split at d
 .rename_i e
  subst e
  cases f with
  |ptr _ _ _ b bs hβ=>
   obtain⟨u,t1,l,g,m⟩:=h.cells k hβ
   obtain⟨r,j,hrel⟩:=Zvr m d (b:=b) (o:=bs) (λi x n=>by
    rw[Ex l]
    grind)
   exact⟨r,by simp[Instr.loadAt,Instr.sureAddr,j],hrel⟩
 grind
 grind
 exact Jj f rfl d
def Mm(P:Program)(H:Heap)(t:TypeId)(a v:V):Option Heap:=
 match a with
 |.ptr o g off=>match H o with
  |.cells c g' fz cs=>if g=g'/\v.solid=true/\Yw P t=some v.cells.length/\fz<=off/\off+v.cells.length<=cs.length then some (Ya H o (.cells c g fz (setAt cs off v.cells)))else none
  |_=>none
 |_=>none
theorem Zla:∀ (vs xs:List Value) (off:Nat),off+vs.length<=xs.length->Nj xs off vs=xs.take off++vs++xs.drop (off+vs.length)
 |[],xs,off,_=>by simp[Nj]
 |v::r,xs,off,h=>by
  have a:off<xs.length:=by grind
  rw[Nj,Zla r (xs.set off v) (off+1) (by grind)]
  have c:(xs.set off v).take (off+1)=xs.take off++[v]:=by
   rw[List.take_succ_eq_append_getElem (by grind),List.take_set_of_le (Nat.le_refl _)];simp
  have b:(xs.set off v).drop (off+1+r.length)=xs.drop (off+(v::r).length):=by
   rw[List.drop_set_of_lt zo];simp;omega
  grind
theorem G7(L vs:List Value)(a off n:Nat)(d:off+vs.length<=n)(c:a+n<=L.length):
  ((L.take (a+off)++vs++L.drop (a+off+vs.length)).drop a).take n=((L.drop a).take n).take off++vs++((L.drop a).take n).drop (off+vs.length):=by
 rw[List.append_assoc,List.drop_append_of_le_length (by grind),List.drop_take,List.take_append,List.take_append]
 have b:((L.drop a).take (a+off-a)).length=off:=by grind
 rw[b,List.take_take,List.take_take,List.drop_take,List.append_assoc,List.drop_drop];rw[show min n (a+off-a)=off by omega,show min off n=off by omega];have e:vs.take (n-off)=vs:=List.take_of_length_le zo
 grind
theorem I9(h:Inv X H){o g fz off:Nat}{c:Col}{cs:List V}(q:H o=.cells c g fz cs){b a:Nat}(n : X.β o g=some (b,a)){vs:List Value}{l:List V}(d:RelC X vs l)
  (u:fz<=off) (p:off+l.length<=cs.length):
  ∃ Y,(storeCells ⟨b,a+off,none⟩ vs).run P X.w=.ok () Y.w/\Goes X H Y (Ya H o (.cells c g fz (setAt cs off l))):=by
 obtain⟨e,t,s,r,v⟩:=h.cells q n;have x:=d.len;have f:=run_storeCells_at (P:=P) b (a+off) t vs 0 e X.w s zo d.one
 let k:Array Value:=(e.toList.take (a+off)++vs++e.toList.drop (a+off+vs.length)).toArray
 have j:k.size=e.size:=by grind
 have m:(k.toList.drop a).take cs.length=Nj ((e.toList.drop a).take cs.length) off vs:=by
  rw[Zla _ _ _ zO];exact G7 e.toList vs a off cs.length zo zo
 refine⟨X.add o g b a (X.w.setRow b k),f,?_⟩;refine Jb h q n s k j ?_ c (.inl rfl) g a fz _ (.inl ⟨rfl,rfl⟩) (Nat.le_refl _) (by rw[Qm];omega) ?_;intro i y;rw[List.getElem?_toArray,List.append_assoc,List.getElem?_append_left zO,List.getElem?_take_of_lt zo];simp;rw[Qm,m];exact Ja off v d
theorem Zrq(h:Inv X H){t:TypeId}{a v:V}{x y:Value}(j:Rel X x a)(i:Rel X y v){H':Heap}(e:Mm P H t a v=some H'):
  ∃ Y,(Instr.storeAt t x y).run P X.w=.ok () Y.w/\Goes X H Y H':=by
 unfold Mm at e
 split at e
 split at e
 rename_i c q r s k
 split at e
 .rename_i hc
  obtain⟨rfl,p,o,n,m⟩:=hc;simp at e;subst e
  cases j with
  |ptr _ _ _ b bs hβ=>
   have g:=i.toC p;obtain⟨Y,f,l⟩:=I9 (P:=P) h k hβ g n m;refine⟨Y,?_,l⟩;have d:=g.len;simp at d;simp[Instr.storeAt,Instr.sureAddr,storeVar,Y0 o,d,f]
 grind
 grind
 grind
theorem Z0x(h:Inv X H)(o:Nat)(t:TypeId){xs:Array Value}{cs:List V}(a:RelC X xs.toList cs){K:V->Heap->Prop}(mk:Nat->V)
  (c:∀ Y g,Y.β o g=some (X.w.heap.size,0)->Y.w.heap[X.w.heap.size]?=some (Obj.cells xs t (0,0))->Rel Y (.pointer (some ⟨X.w.heap.size,0,none⟩)) (.ptr o g 0))
  (e:∀ g,K (mk g) (Ya H o (.cells .new g 0 cs))):
  ∃ Y g,(newRow t xs).run P X.w=.ok ⟨X.w.heap.size,0,none⟩ Y.w/\Goes X H Y (Ya H o (.cells .new g 0 cs))/\Y.β o g=some (X.w.heap.size,0) /\
   Y.w.heap[X.w.heap.size]?=some (Obj.cells xs t (0,0))/\K (mk g) (Ya H o (.cells .new g 0 cs)):=by
 obtain⟨n,b⟩:=h.fin o;have d:=a.len;refine⟨X.add o n X.w.heap.size 0 (X.w.alloc (.cells xs t)),n,?_,Goes.alloc h (b n (Nat.le_refl _)) 0 .new (.inl rfl) xs t cs (by grind) ?_,by simp[Cx.add],?_,e n⟩;rfl;rw[<- d,List.take_length];exact a
 show(X.w.heap.push _)[X.w.heap.size]?=_
 simp
theorem Cm(h:Inv X H)(o:Nat)(t:TypeId){x:Value}{v:V}(a:Rel X x v)(b:v.solid=true){K:V->Heap->Prop}(e:∀ g,K (.ptr o g 0) (Ya H o (.cells .new g 0 v.cells))):
  ∃ c u Y H',(newVar t x).run P X.w=.ok c Y.w/\Goes X H Y H'/\Rel Y (.pointer (some c)) u/\K u H':=by
 obtain⟨Y,g,k,j,i,l,f⟩:=Z0x (P:=P) h o t (a.toC b) (K:=K) (λg=>.ptr o g 0) (λY g d _=>by simpa using Rel.ptr o g 0 _ 0 d) e;exact⟨_,_,Y,_,k,j,by simpa using Rel.ptr o g 0 _ 0 i,f⟩
end
end Go.Hs
