/- A part. No condition. -/
import Derived.Test.YtkennpiglkfalaaGreatDoorP5
import Derived.Laws.CopyRow
import Derived.Laws.Append
set_option linter.all false
open List renaming length->aa
open Option renaming some->ae,none->ah
open Go.Obj renaming cells->bC
open Go.RowKit.Below renaming heap_alloc->aV
open Go.World renaming cell?->bD
namespace Go.Hs
section
variable{P:Program}{X:Cx}{H:A'}
def BZ.lt{o}(h:BZ X H){c g fz cs}(d:H o=.cells c g fz cs){b bs}(f:X.β o g=ae (b,bs)):b<X.w.heap.size:=by obtain⟨k,e,a,_,j,t,i,_⟩:=h.DQ o c g fz cs d;grind
def BZ.thaw_le{Y}(h:BZ X H)(a:X.le Y)(g:∀ b i,Y.S b i->X.S b i):∀ b i,Y.S b i->Y.base<=b->(∃ c t,Y.w.heap[b]?=ae (bC c t (0,0)))\/(i=0/\∃ es n,Y.w.heap[b]?=ae (Obj.map es n)):=by intro b i e f;rw[a.base]at f;rcases h.IM b i (g b i e) f with ⟨c,t,d⟩|⟨rfl,es,n,d⟩;obtain⟨j,h2,_⟩:=a.blk b c t d;grind;exact .inr ⟨rfl,es,n,a.map b es n (g b 0 e) d⟩
def BZ.live_thaw(h:BZ X H){b}(e:∃ o c g fz cs bs,H o=.cells c g fz cs/\X.β o g=ae (b,bs)):∃ c t,X.w.heap[b]?=ae (bC c t (0,0)):=by obtain⟨o,c,g,fz,cs,bs,d,i⟩:=e;obtain⟨l,f,a,_,k,t,j,_⟩:=h.DQ o c g fz cs d;grind
def Ue{Q:Nat->Prop}(d:∀ o b r,H o=.lp b r->Q b)(e:∀ b,(∃ o c g fz cs bs,H o=.cells c g fz cs/\X.β o g=ae (b,bs))->Q b):∀ b,Wk X H b->Q b:=by rintro b (q|⟨o,r,a⟩);grind;grind
def UH{H:A'}{o c g fz cs}(o' b r)(a:Ye H o (.cells c g fz cs) o'=.lp b r):H o'=.lp b r:=by by_cases e:o'=o;simp_all;rwa [Zy _ _ e]at a
def BH.drew(h:BZ X H)(n):BH X H {X with w:={X.w with drawn:=n} } H:=by have a:X.le {X with w:={X.w with drawn:=n} }:=⟨λ_ _ _ h=>h,λ_ _ h=>h,λ_ _ _ _ h=>h,rfl,λ_ c _ h=>⟨c,h,rfl⟩,λ_ _ _ _ h=>h⟩;have d:E_ (Wk X H) X.w ({X.w with drawn:=n}:World):=⟨rfl,rfl,rfl,BO _,λ_ _ _=>rfl⟩;refine⟨⟨?_,h.inj,h.DD,h.CK,h.bw,h.IM,h.mps_tr a (λ_ _ _ _ _ h=>h) d λ_ _ e=>.inl e,h.lps_tr (λ_ _ _ h=>h) λ_ _ _=>rfl⟩,a,d,λ_ _ e=>.inl e,λ_ i=>.inr i⟩;intro o c g p q f;obtain⟨b,s,m,h2,r,t,l,k,j⟩:=h.DQ o c g p q f;exact⟨b,s,m,h2,r,t,l,k,j.mono a⟩
abbrev P':=@BH.drew
def BH.sub(h:BZ X H){H'}(k:∀ o,H' o=.AR\/H' o=H o):BH X H X H':=by
 have a:∀ o c g e f,H' o=.cells c g e f->H o=.cells c g e f:=by grind
 refine⟨⟨?_,?_,?_,h.CK,h.bw,h.IM,h.mps_tr (.refl X) (λo D b E C d=>by grind) (QA _ _) λ_ _ k=>.inl k,h.lps_tr (λo b r d=>by grind) λ_ _ _=>rfl⟩,Cx.le.refl X,QA _ _,λ_ _ k=>.inl k,?_⟩;exact λo c g e f d=>h.DQ o c g e f (a _ _ _ _ _ d);exact λq B x z t p A w y s b n m v h2=>h.inj q B x z t p A w y s b n m (a _ _ _ _ _ v) (a _ _ _ _ _ h2);exact λb i j=>⟨(h.DD b i j).1,λo c g e f l d=>(h.DD b i j).2 o c g e f l (a _ _ _ _ _ d)⟩;refine Ue (λo b r d=>.inr (.inr ⟨o,r,by grind⟩)) ?_;rintro b ⟨o,c,g,e,f,l,d,u⟩;exact .inr (.inl ⟨o,c,g,e,f,l,a _ _ _ _ _ d,u⟩)
abbrev TB:=@BH.sub
def Cx.add(X:Cx)(o g b bs:Nat)(w:World):Cx:={X with β:=λo' g'=>if o'=o/\g'=g then ae (b,bs)else X.β o' g',w:=w}
def ou(h:BZ X H){o g}(j:X.β o g=ah)(ob):X.le (X.add o g X.w.heap.size 0 (X.w.alloc ob)) where
 β:=λe k p f=>by simp only[Cx.add];grind
 S:=λ_ _ h=>h
 cell:=λb i x _ d=>by have:=World.block_lt_of_cell? _ _ d;exact(World.cell?_alloc_lt _ ob _ this).trans d
 base:=rfl
 blk:=λb c t a=>by have:b<X.w.heap.size:=zG;exact⟨c,by simp only[Cx.add];rw[aV _ _ _ this];exact a,rfl⟩
 map:=λb l n _ a=>by have:b<X.w.heap.size:=zG;simp only[Cx.add];rw[aV _ _ _ this];exact a
def BH.alloc(h:BZ X H){o g}(W:X.β o g=ah)(fz c)(Y:c=.new\/c=.any)(xs t cs)(hl:cs.length<=xs.size)(S:CI X (xs.toList.take cs.length) cs):BH X H (X.add o g X.w.heap.size 0 (X.w.alloc (.cells xs t))) (Ye H o (.cells c g fz cs)):=by
 have s:=ou h W (.cells xs t);have q:∀ a v m u f,a≠o->Ye H o (.cells c g fz cs) a=.cells v m u _->H a=.cells v m u f:=λa v m u f e d=>by rwa [Zy _ _ e]at d
 have j:∀ a m b x,a≠o->(X.add o g X.w.heap.size 0 (X.w.alloc (.cells xs t))).β a m=ae (b,x)->X.β a m=ae (b,x):=by intro a m b x e d;simp only[Cx.add]at d;rwa [AA (λd=>e d.1)]at d
 have p:∀ v m u f,Ye H o (.cells c g fz cs) o=.cells v m u f->v=c/\m=g/\u=fz/\f=cs:=by intro v m u f d;simp at d;obtain⟨rfl,rfl,rfl,rfl⟩:=d;simp
 have l:∀ b x,(X.add o g X.w.heap.size 0 (X.w.alloc (.cells xs t))).β o g=ae (b,x)->b=X.w.heap.size/\x=0:=by intro b x d;simp[Cx.add]at d;exact⟨d.1.symm,d.2.symm⟩
 have D:E_ (Wk X H) X.w (X.add o g X.w.heap.size 0 (X.w.alloc (.cells xs t))).w:=⟨rfl,rfl,rfl,by simp[Cx.add],λk U _=>aV _ _ _ U⟩;have C:∀ a J b K I,Ye H o (.cells c g fz cs) a=.mp J b K I->H a=.mp J b K I:=λa J b K I d=>by by_cases e:a=o;subst e;simp at d;rwa [Zy _ _ e]at d
 refine⟨⟨?_,?_,?_,?_,?_,h.thaw_le s λ_ _ y=>y,h.mps_tr s C D λ_ _ y=>.inl y,h.lps_tr UH λb r z=>aV _ _ _ (DB.1 z).1⟩,s,D,λ_ _ y=>.inl y,?_⟩;intro a v m u f d;by_cases e:a=o;subst e;obtain⟨rfl,rfl,rfl,rfl⟩:=p _ _ _ _ d;refine⟨X.w.heap.size,0,by simp[Cx.add],?_,xs,t,?_,zo,?_⟩;rcases Y with rfl|rfl;exact h.bw;trivial;show(X.w.heap.push _)[X.w.heap.size]?=_;simp;simpa using S.mono s;have G:=q _ _ _ _ _ e d;obtain⟨b,x,B,h2,M,R,h3,h4,h5⟩:=h.DQ a v m u _ G;refine⟨b,x,s.β _ _ _ B,h2,M,R,?_,h4,h5.mono s⟩;simp only[Cx.add];rw[aV _ _ _ (h.lt G B)];exact h3;intro Q c1 g1 f1 l1 P c2 g2 f2 l2 b s1 s2 B h2 O N;by_cases E:Q=o;subst E;by_cases A:P=Q;exact A.symm;obtain⟨rfl,rfl,rfl,rfl⟩:=p _ _ _ _ B;obtain⟨rfl,rfl⟩:=l _ _ O;have:=h.lt (q _ _ _ _ _ A h2) (j _ _ _ _ A N);omega;by_cases A:P=o;subst A;obtain⟨rfl,rfl,rfl,rfl⟩:=p _ _ _ _ h2;obtain⟨rfl,rfl⟩:=l _ _ N;have:=h.lt (q _ _ _ _ _ E B) (j _ _ _ _ E O);omega;exact h.inj _ _ _ _ _ _ _ _ _ _ _ _ _ (q _ _ _ _ _ E B) (q _ _ _ _ _ A h2) (j _ _ _ _ E O) (j _ _ _ _ A N);intro b i y;have L:=h.DD b i y;refine⟨by simp only[Cx.add,World.size_alloc];omega,λa v m u f F d z=>?_⟩;by_cases e:a=o;subst e;obtain⟨rfl,rfl,rfl,rfl⟩:=p _ _ _ _ d;obtain⟨rfl,rfl⟩:=l _ _ z;omega;exact L.2 _ _ _ _ _ _ (q _ _ _ _ _ e d) (j _ _ _ _ e z);intro a;obtain⟨n,T⟩:=h.CK a;refine⟨max n (g+1),λm V=>?_⟩;simp only[Cx.add];rw[AA zo];exact T m zo;have:=h.bw;simp only[Cx.add,World.size_alloc];omega;refine Ue (λa b r G=>.inr (.inr ⟨a,r,UH _ _ _ G⟩)) ?_;rintro b ⟨a,v,m,u,f,F,d,z⟩;by_cases e:a=o;subst e;obtain⟨rfl,rfl,rfl,rfl⟩:=p _ _ _ _ d;obtain⟨rfl,rfl⟩:=l _ _ z;exact .inl (BO _);exact .inr (.inl ⟨a,v,m,u,f,F,q _ _ _ _ _ e d,j _ _ _ _ e z⟩)
def Gt(h:BZ X H){o g fz c cs}(B:H o=.cells c g fz cs){b bs}(D:X.β o g=ae (b,bs)){c1 t}(U:X.w.heap[b]?=ae (bC c1 t (0,0)))(c2)(hsz:c2.size=c1.size)(J:∀ i,i<bs+fz->c2[i]?=c1[i]?)(c')(T:c'=c\/c'=.any)(g' bs' fz' cs')(hg:g'=g/\bs'=bs\/X.β o g'=ah)(hfz:bs+fz<=bs'+fz')(S:bs'+cs'.length<=c2.size)(hr:CI X ((c2.toList.drop bs').take cs'.length) cs'):BH X H (X.add o g' b bs' (X.w.setRow b c2)) (Ye H o (.cells c' g' fz' cs')):=by
 have hblt:=h.lt B D;have M:=setRow_heap _ b c1 c2 t _ U;have z:X.le (X.add o g' b bs' (X.w.setRow b c2)):=by
  refine⟨?_,λ_ _ h=>h,?_,rfl,?_,λs es n _ L=>by by_cases e:s=b;subst e;rw[U]at L;cases L;simp only[Cx.add];rw[setRow_other _ _ _ _ e];exact L⟩
  intro f l p hp;simp only[Cx.add];split;rename_i e;obtain⟨rfl,rfl⟩:=e;rcases hg with ⟨rfl,rfl⟩|hg;rw[<- hp,D];rw[hg]at hp;cases hp;exact hp;intro s i x E hc;by_cases e:s=b;subst e;have hi:=(h.DD _ _ E).2 _ _ _ _ _ _ B D;have hc1:c1[i]?=ae x:=by simpa[Cx.cell,bD,U]using hc
  simp[Cx.cell,Cx.add,bD,M,J i hi,hc1];have:=setRow_other X.w b s c2 e;simpa[Cx.cell,Cx.add,bD,this]using hc;intro s d t1 L;by_cases e:s=b;subst e;rw[U]at L;cases L;exact⟨c2,by simpa[Cx.add]using M,hsz⟩;exact⟨d,by simp only[Cx.add];rw[setRow_other _ _ _ _ e];exact L,rfl⟩
 have v:∀ f c1 l A y,f≠o->Ye H o (.cells c' g' fz' cs') f=.cells c1 l A y->H f=.cells c1 l A y:=λf c1 l A y e a=>by rwa [Zy _ _ e]at a
 have j:∀ f l p,f≠o->(X.add o g' b bs' (X.w.setRow b c2)).β f l=ae p->X.β f l=ae p:=by intro f l p e a;simp only[Cx.add]at a;rwa [AA (λa=>e a.1)]at a
 have u:∀ c1 l A y,Ye H o (.cells c' g' fz' cs') o=.cells c1 l A y->c1=c'/\l=g'/\A=fz'/\y=cs':=by intro c1 l A y a;simp at a;obtain⟨rfl,rfl,rfl,rfl⟩:=a;simp
 have m:∀ s I,(X.add o g' b bs' (X.w.setRow b c2)).β o g'=ae (s,I)->s=b/\I=bs':=by intro s I a;simp[Cx.add]at a;exact⟨a.1.symm,a.2.symm⟩
 have R:E_ (Wk X H) X.w (X.add o g' b bs' (X.w.setRow b c2)).w:=⟨rfl,rfl,rfl,by simp[Cx.add],λk hk hn=>setRow_other _ _ _ _ (λe=>hn (by subst e;exact .inl ⟨o,c,g,fz,cs,bs,B,D⟩))⟩;have P:∀ G lo b ks vs,Ye H o (.cells c' g' fz' cs') G=.mp lo b ks vs->H G=.mp lo b ks vs:=λG lo b ks vs a=>by by_cases e:G=o;subst e;simp at a;rwa [Zy _ _ e]at a
 refine⟨⟨?_,?_,?_,?_,?_,h.thaw_le z λ_ _ E=>E,h.mps_tr z P R λ_ _ E=>.inl E,h.lps_tr UH λs r F=>setRow_other _ _ _ _ (λe=>by subst e;rw[U]at F;cases F)⟩,z,R,λ_ _ E=>.inl E,?_⟩;intro f W l A y a;by_cases e:f=o;subst e;obtain⟨rfl,rfl,rfl,rfl⟩:=u _ _ _ _ a;obtain⟨b',Y,O,hok,_⟩:=h.DQ f c g fz cs B;rw[D]at O;cases O;refine⟨b,bs',by simp[Cx.add],?_,c2,t,by simpa[Cx.add]using M,S,hr.mono z⟩;rcases T with rfl|rfl;exact hok;trivial;have Q:=v _ _ _ _ _ e a;obtain⟨s,Y,F,h2,c'',t',h3,h4,h5⟩:=h.DQ f W l A y Q;have hne:s≠b:=λa=>e (by subst a;exact h.inj _ _ _ _ _ _ _ _ _ _ _ _ _ Q B F D);exact⟨s,Y,z.β _ _ _ F,h2,c'',t',by simp only[Cx.add];rw[setRow_other _ _ _ _ hne];exact h3,h4,h5.mono z⟩;intro f W l A y o2 d2 g2 f2 l2 s I s2 F h2 q C;by_cases V:f=o;subst V;by_cases N:o2=f;exact N.symm;obtain⟨rfl,rfl,rfl,rfl⟩:=u _ _ _ _ F;obtain⟨rfl,rfl⟩:=m _ _ q;exact h.inj _ _ _ _ _ _ _ _ _ _ _ _ _ B (v _ _ _ _ _ N h2) D (j _ _ _ N C);by_cases N:o2=o;subst N;obtain⟨rfl,rfl,rfl,rfl⟩:=u _ _ _ _ h2;obtain⟨rfl,rfl⟩:=m _ _ C;exact h.inj _ _ _ _ _ _ _ _ _ _ _ _ _ (v _ _ _ _ _ V F) B (j _ _ _ V q) D;exact h.inj _ _ _ _ _ _ _ _ _ _ _ _ _ (v _ _ _ _ _ V F) (v _ _ _ _ _ N h2) (j _ _ _ V q) (j _ _ _ N C);intro s i E;have K:=h.DD s i E;refine⟨by simp only[Cx.add,setRow_size];exact K.1,λf W l A y I a q=>?_⟩;by_cases e:f=o;subst e;obtain⟨rfl,rfl,rfl,rfl⟩:=u _ _ _ _ a;obtain⟨rfl,rfl⟩:=m _ _ q;have:=K.2 _ _ _ _ _ _ B D;omega;exact K.2 _ _ _ _ _ _ (v _ _ _ _ _ e a) (j _ _ _ e q);intro G;obtain⟨n,hn⟩:=h.CK G;refine⟨max n (g'+1),λl hg1=>?_⟩;simp only[Cx.add];rw[AA zo];exact hn l zo;have:=h.bw;simpa only[Cx.add,setRow_size]using this;refine Ue (λG b r B=>.inr (.inr ⟨G,r,UH _ _ _ B⟩)) ?_;rintro s ⟨f,W,l,A,y,I,a,q⟩;by_cases e:f=o;subst e;obtain⟨rfl,rfl,rfl,rfl⟩:=u _ _ _ _ a;obtain⟨rfl,rfl⟩:=m _ _ q;exact .inr (.inl ⟨f,c,g,fz,cs,bs,B,D⟩);exact .inr (.inl ⟨f,W,l,A,y,I,v _ _ _ _ _ e a,j _ _ _ e q⟩)
end
section
variable{P:Program}{X:Cx}{H:A'}
def CI.get?{xs l}(h:CI X xs l){i:Nat}{v}(a:l[i]?=ae v):∃ x,xs[i]?=ae x/\AI X x v/\x.oneCell'=true:=by rw[DG]at a;obtain⟨b,rfl⟩:=a;have c:=h.len;exact⟨xs[i]'zo,by grind,h.CV i _ b,h.one _ (BT _)⟩
def BZ.cells(h:BZ X H){o g fz c cs}(a:H o=.cells c g fz cs){b bs}(e:X.β o g=ae (b,bs)):∃ (c1:Array Value) (t:TypeId),X.w.heap[b]?=ae (bC c1 t (0,0))/\bs+cs.length<=c1.size/\CI X ((c1.toList.drop bs).take cs.length) cs:=by obtain⟨i,d,f,_,h2⟩:=h.DQ o c g fz cs a;grind
def Lw{w:World}{b i c1 t fr}(a:w.heap[b]?=ae (bC c1 t fr)):w.cell? ⟨b,i,ah⟩=c1[i]? := by simp[bD,a]
def Sx{c1:List Value}{bs n i}(hi:i<n):((c1.drop bs).take n)[i]?=c1[bs+i]? := by grind
def qH{t l xs off v}(h:CI X xs l)(a:O6 P t l off=ae v){b o}(p:∀ i x,xs[i]?=ae x->X.w.cell? ⟨b,o+i,ah⟩=ae x):∃ c,(loadVar t ⟨b,o+off,ah⟩).run P X.w=.ok c X.w/\AI X c v:=by
 unfold O6 at a;rcases g:R1 P t with _|bb;grind;rcases m:Y0 P t with _|n;grind;cases bb;simp only[g]at a;split at a;rename_i u h2;simp at u;obtain⟨x,q,r,_⟩:=h.get? a;have:=p _ x q;exact⟨x,by simp[loadVar,P6 g,this],r⟩;simp at a;simp only[g,m]at a;split at a;simp at a;subst a;have y:=h.len;have s:=(h.drop off).take n;have d:=run_loadCells_list (P:=P) _ _ ((xs.drop off).take n) (λj x e=>by
  rw[Addr.add_lit];have k:j<n:=by rw[DG]at e;obtain⟨e,_⟩:=e;simp at e;omega
  rw[Sx k]at e;rw[GM];exact p _ _ e)
 have f:aa ((xs.drop off).take n)=n:=zO;rw[f]at d;exact⟨.agg _,by simp[loadVar,P6 g,Y8 m,d],s.toAgg⟩;simp at a
def W0(P:Program)(H:A')(t:TypeId)(a:V):Option V:=
 match a with
 |.ptr o g off=>match H o with|.cells _ g' _ cs=>if g=g' then O6 P t cs off else ah|_=>ah
 |a=>Uc P t a
def hN(h:BZ X H){t a v x}(f:AI X x a)(d:W0 P H t a=ae v):∃ c,(Instr.loadAt t x).run P X.w=.ok c X.w/\AI X c v:=by
 unfold W0 at d;split at d;split at d;rename_i c p q s k;split at d
 .rename_i e;subst e;cases f with
  |ptr _ _ _ b bs hβ=>
   obtain⟨u,t1,l,g,m⟩:=h.cells k hβ;obtain⟨r,j,hrel⟩:=qH m d (o:=bs) (λi x n=>by rw[Lw l];grind)
   exact⟨r,by simp[Instr.loadAt,Instr.sureAddr,j],hrel⟩
 grind;grind;exact G5 f rfl d
def Kv(P:Program)(H:A')(t:TypeId)(a v:V):Option A':=
 match a with
 |.ptr o g off=>match H o with|.cells c g' fz cs=>if g=g'/\v.solid=true/\Y0 P t=ae (aa v.cells)/\fz<=off/\off+aa v.cells<=aa cs then ae (Ye H o (.cells c g fz (setAt cs off v.cells)))else ah|_=>ah
 |_=>ah
def eo:∀ vs xs off,off+aa vs<=aa xs->M8 xs off vs=xs.take off++vs++xs.drop (off+aa vs)
 |[],xs,off,_=>by simp[M8]|v::r,xs,off,h=>by
  have a:off<aa xs:=zG;rw[M8,eo r _ _ zG];have c:(xs.set off v).take (off+1)=xs.take off++[v]:=by rw[DO zG,List.take_set_of_le (BO _)];simp
  have b:(xs.set off v).drop (off+1+aa r)=xs.drop (off+aa (v::r)):=by rw[List.drop_set_of_lt zo];simp;omega
  grind
def Bi(L vs:List Value)(bs off n)(b:off+vs.length<=n)(h2:bs+n<=L.length):((L.take (bs+off)++vs++L.drop (bs+off+vs.length)).drop bs).take n=((L.drop bs).take n).take off++vs++((L.drop bs).take n).drop (off+vs.length):=by rw[DH,b9 zG,cA,List.take_append,List.take_append];have a:aa ((L.drop bs).take (bs+off-bs))=off:=zG;rw[a,OZ,OZ,cA,DH,NM];rw[show min n _=off by omega,show min _ n=off by omega];have c:vs.take (n-off)=vs:=HY zo;grind
def jz(h:BZ X H){o g fz off c cs}(n:H o=.cells c g fz cs){b bs}(l:X.β o g=ae (b,bs)){vs ms}(a:CI X vs ms)(r:fz<=off)(m:off+ms.length<=cs.length):∃ Y,(storeCells ⟨b,bs+off,ah⟩ vs).run P X.w=.ok () Y.w/\BH X H Y (Ye H o (.cells c g fz (setAt cs off ms))):=by
 obtain⟨f,t,q,p,s⟩:=h.cells n l;have u:=a.len;have d:=run_storeCells_at (P:=P) b (bs+off) t vs 0 f _ q zo a.one;let k:=(f.toList.take (bs+off)++vs++f.toList.drop (bs+off+aa vs)).toArray;have e:k.size=f.size:=zG;have j:(k.toList.drop bs).take (aa cs)=M8 ((f.toList.drop bs).take (aa cs)) off vs:=by rw[eo _ _ _ zO];exact Bi _ vs bs _ _ zo zo
 refine⟨X.add o g b bs _,d,?_⟩;refine Gt h n l q k e ?_ c (.inl rfl) g bs fz _ (.inl ⟨rfl,rfl⟩) (BO _) (by rw[Px];omega) ?_;intro i v;rw[LH,DH,KJ zO,QH zo];simp;rw[Px,j];exact Gs _ s a
def mD(h:BZ X H){t a v x y}(j:AI X x a)(i:AI X y v){H'}(e:Kv P H t a v=ae H'):∃ Y,(Instr.storeAt t x y).run P X.w=.ok () Y.w/\BH X H Y H':=by
 unfold Kv at e;split at e;split at e;rename_i c p q r k;split at e
 .rename_i hc;obtain⟨rfl,o,h2,n,m⟩:=hc;simp at e;subst e;cases j with|ptr _ _ _ b bs hβ=>have g:=i.toC o;obtain⟨Y,f,l⟩:=jz (P:=P) h k hβ g n m;refine⟨Y,?_,l⟩;have d:=g.len;simp at d;simp[Instr.storeAt,Instr.sureAddr,storeVar,Y8 h2,d,f]
 grind;grind;grind
def i_(h:BZ X H)(o t){xs cs}(a:CI X xs.toList cs){K:V->A'->Prop}(mk:Nat->V)(c:∀ Y g,Y.β o g=ae (X.w.heap.size,0)->Y.w.heap[X.w.heap.size]?=ae (bC xs t (0,0))->AI Y (.pointer (ae ⟨X.w.heap.size,0,ah⟩)) (.ptr o g 0))(e:∀ g,K (mk g) (Ye H o (.cells .new g 0 cs))):∃ Y g,(newRow t xs).run P X.w=.ok ⟨X.w.heap.size,0,ah⟩ Y.w/\BH X H Y (Ye H o (.cells .new g 0 cs))/\Y.β o g=ae (X.w.heap.size,0) /\
   Y.w.heap[X.w.heap.size]?=ae (bC xs t (0,0))/\K (mk g) (Ye H o (.cells .new g 0 cs)):=by
 obtain⟨n,b⟩:=h.CK o;have d:=a.len;refine⟨X.add o n _ 0 _,n,?_,BH.alloc h (b n (BO _)) 0 _ (.inl rfl) xs t cs zG ?_,by simp[Cx.add],?_,e n⟩;rfl;rw[<- d,B_];exact a;show(X.w.heap.push _)[X.w.heap.size]?=_;simp
def kT(h:BZ X H)(o t){x v}(a:AI X x v)(b:v.solid=true){K:V->A'->Prop}(e:∀ g,K (.ptr o g 0) (Ye H o (.cells .new g 0 v.cells))):∃ c u Y H',(newVar t x).run P X.w=.ok c Y.w/\BH X H Y H'/\AI Y (.pointer (ae c)) u/\K u H':=by obtain⟨Y,g,j,h2,i,k,f⟩:=i_ h o t (a.toC b) _ (λY g d _=>by simpa using AI.ptr o g 0 _ 0 d) e;exact⟨_,_,Y,_,j,h2,by simpa using AI.ptr o g 0 _ 0 i,f⟩
