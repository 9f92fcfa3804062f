/- A part. No condition. -/
import Derived.Test.YtkennpiglkfalaaGreatDoorP2
import Derived.Lib.Strings
set_option linter.all false
open List renaming length->aa
open Bool renaming true->ad
open Option renaming some->ae,none->ah
open Go.Addr renaming add_lit->aK
open Go.Instr renaming indexAt->aL,slice->aM,sliceAt->aN,sliceBound->aO,sliceBounds->aP
open Go.Result renaming andThen_ok->aB
open Go.Sem renaming run_bind->aC,run_pure->aD
namespace Go.Hs
section
variable{P:Program}{X:Cx}{w:World}
def AI.cells1{x v}(h:AI X x v)(a:x.oneCell'=ad):v.cells=[v]:=by cases h<;>simp_all [V.cells,Value.oneCell']
def jb{t xs l off v}(h:AI X (.agg xs) (.agg l))(a:O6 P t l off=ae v):∃ c,(part t xs off).run P w=.ok c w/\AI X c v:=by
 cases h with|agg _ _ hx ho hr=>
 unfold O6 at a;rcases d:R1 P t with _|b;grind;rcases f:Y0 P t with _|n;grind;cases b;simp only[d,f]at a;split at a;rename_i j h2;simp at j;rw[DG]at a;obtain⟨g,rfl⟩:=a;have:xs[off]?=ae (xs[off]'zo):=by simp[hx,g]
 exact⟨xs[off]'zo,by simp[part,P6 d,this],hr _ zo _⟩;simp at a;simp only[d,f]at a;split at a;simp at a;subst a;refine⟨.agg (xs.extract off (off+n)),by simp[part,P6 d,Y8 f],.agg _ _ ?_ ?_ ?_⟩;grind;intro x e;obtain⟨i,k,rfl⟩:=Array.getElem_of_mem e;rw[lP];exact ho _ (MB _);intro i j h2;rw[lP,cJ,cI];exact hr _ (by simp at j;omega) (by simp at h2;omega);simp at a
def YY(P:Program)(t:TypeId)(a:V)(f:Nat):Option V:=
 match P.underlying t,a with
 |some (.struct fs),.agg l=>match fs[f]? with|some fd=>O6 P fd.type l fd.offset|none=>ah
 |_,_=>ah
def xw{t a v x f}(b:AI X x a)(h:YY P t a f=ae v):∃ c,(Instr.field t x f).run P w=.ok c w/\AI X c v:=by
 unfold YY at h;split at h;rename_i i l d;split at h
 .rename_i fd hf;cases b with|agg xs _ h1 h2 h3=>obtain⟨c,g,e⟩:=jb (w:=w) (.agg xs l h1 h2 h3) h;exact⟨c,by simp[Instr.field,Zt d,hf,asAgg,g],e⟩
 grind;grind
def km{t l v c b off o n}(h:AI X (.pointer (ae ⟨b,off,ah⟩)) (.view c (.agg l)))(g:O6 P t l o=ae v)(j:Y0 P t=ae n):AI X (.pointer (ae ⟨b,off+o,ah⟩)) (.view c v):=by
 cases h with|view _ _ _ _ f hc hr=>
 simp only[V.cells]at hc hr;have a:∀ x∈l,x.cells=[x]:=by intro x e;obtain⟨i,d,rfl⟩:=TI e;exact(hr i d).cells1 (hc i d).2.2.2
 obtain⟨m,h2,k⟩:=yh g j a;refine .view c v b _ (λi=>f (o+i)) ?_ ?_;grind;grind
def S2(P:Program)(t:TypeId)(a:V)(f:Nat):Option V:=
 match P.underlying t with
 |some (.struct fs)=>match fs[f]? with
  |some fd=>match Y0 P fd.type with
   |some (_+1)=>match a with|.ptr o g off=>ae (.ptr o g (off+fd.offset))|.view c (.agg l)=>(O6 P fd.type l fd.offset).map (.view c)|_=>ah
   |_=>ah
  |none=>ah
 |_=>ah
def xC{t a v x f}(i:AI X x a)(h:S2 P t a f=ae v):∃ c,(Instr.fieldAt t x f).run P w=.ok c w/\AI X c v:=by
 unfold S2 at h;split at h;rename_i q k;split at h;rename_i p m;split at h;rename_i n j;have d:∀ b off,(Instr.fieldAt t (.pointer (ae ⟨b,off,ah⟩)) f).run P w=.ok (.pointer (ae ⟨b,off+p.offset,ah⟩)) w:=by simp[Instr.fieldAt,Zt k,m,Instr.sureAddr,fieldPlace,Y8 j,aK]
 split at h
 .simp at h;subst h;cases i with|ptr o g off b bs hβ => exact⟨_,d _ _,by rw[GM];exact .ptr _ _ _ _ _ hβ⟩
 .rename_i c l;simp only[I_]at h;obtain⟨u,e,rfl⟩:=h;cases i with|view _ _ b off fn hc hr=>exact⟨_,d _ _,km (.view c _ b off fn hc hr) e j⟩
 simp at h;simp at h;simp at h;simp at h
def V2{E}:∀ {l},(∀ v∈l,v.cells.length=E)->(flat l).length=l.length*E
 |[],_=>by simp[flat]|v::r,h=>by have b:=V2 (λx a=>h x (FR _ a));have c:=h v (GA ..);unfold flat at *;grind
def Mh{E}:∀ {l},(∀ v∈l,v.cells.length=E)->∀ n j hn,j<E->(flat l)[n*E+j]?=(l[n]).cells[j]?
 |[],_,n,j,hn,_=>by grind|v::r,h,n,j,hn,hj=>by
  have d:=h v (GA ..);have b:=λx a=>h x (FR _ a);have e:flat (v::r)=v.cells++flat r:=by rfl
  rw[e];rcases n with _|n;simp only[NS,EE,QJ];grind;have c:=Mh b n j zG hj;grind
def Vu(P:Program)(t:TypeId)(a i:V):Option V:=
 match P.underlying t,i with
 |some (.slice e),.int _ n=>match a with|.slice c _ E l=>if Y0 P e=ae E/\0<=n then(l[n.toNat]?).map (.view c)else ah|.A_ o g off len E=>if Y0 P e=ae E/\0<=n/\n<len then ae (.ptr o g (off+n.toNat*E))else ah|_=>ah
 |some (.array N e),.int _ n=>match a,Y0 P e with|.ptr o g off,ae m=>if 0<=n/\n<N then ae (.ptr o g (off+n.toNat*m))else ah|.view c (.agg l),ae m=>if 0<=n/\n<N then(O6 P e l (n.toNat*m)).map (.view c)else ah|_,_=>ah
 |_,_=>ah
def AAS{c clip E l b off n len cap v}(h:AI X (.slice (ae ⟨b,off,ah⟩) len cap) (.slice c clip E l))(e:l[n]?=ae v):AI X (.pointer (ae ⟨b,off+n*E,ah⟩)) (.view c v):=by
 cases h with|slice0=>grind|slice _ _ _ _ _ _ _ f hcap hclip hE hc hr=>
 rw[DG]at e;obtain⟨d,rfl⟩:=e;have g:=hE _ (BT d);have k:=V2 hE;have a:∀ i,i<E->n*E+i<aa (flat l):=by have:(n+1)*E<=aa l*E:=O' _ d;rw[QP]at this;omega
 refine .view c _ b _ (λi=>f (n*E+i)) ?_ ?_;grind;intro i j;have m:=hr _ (a i zo);have h2:=Mh hE n i d zo;rw[AY (a i zo),AY j]at h2;simp at h2;rw[<- h2];exact m
def qS{t a i v x y}(q:AI X x a)(C:AI X y i)(h:Vu P t a i=ae v):∃ c,(aL t x y).run P w=.ok c w/\AI X c v:=by
 unfold Vu at h;split at h;rename_i e k n r;cases C;split at h;rename_i c D E l;split at h
 .rename_i hc;obtain⟨j,B⟩:=hc;simp only[I_]at h;obtain⟨u,d,rfl⟩:=h;have A:n.toNat<aa l:=by rw[DG]at d;exact d.1
  have z:=q;cases q with|slice0=>simp at A|slice _ _ _ _ b p cap f hcap hclip hE hc hr'=>refine⟨_,?_,AAS z d⟩;have s:n<(aa l:Int):=zo;simp[aL,asIntOf,Zt r,Y8 j,B,s,aK]
 simp at h;rename_i o g p len E;split at h
 .rename_i hc;obtain⟨j,B,s⟩:=hc;simp at h;subst h;cases q with|A_ _ _ _ _ _ b bs cap hβ hcap hb=>refine⟨_,?_,.ptr o g _ b bs hβ⟩;simp[aL,asIntOf,Zt r,Y8 j,B,s,GM,aK]
 simp at h;simp at h;rename_i N e k n r;cases C;split at h;rename_i o g p m j;split at h
 .rename_i hc;simp at h;subst h;cases q with|ptr _ _ _ b bs hβ=>refine⟨_,?_,.ptr o g _ b bs hβ⟩;simp[aL,asIntOf,Zt r,Y8 j,hc,Instr.sureAddr,GM,aK]
 simp at h;rename_i c l m j;split at h
 .rename_i hc;simp only[I_]at h;obtain⟨u,d,rfl⟩:=h;have z:=q;cases q with|view _ _ b p fn s h2=>refine⟨_,?_,km z d j⟩;simp[aL,asIntOf,Zt r,Y8 j,hc,Instr.sureAddr,aK]
 simp at h;simp at h;simp at h
def Ok(P:Program)(t:TypeId)(a i:V):Option V:=
 match P.underlying t,a,i with
 |some .string,.AB s,.int _ n=>if 0<=n then(s[n.toNat]?).map λb=>.int .u8 b.toNat else ah|some (.array N e),.agg l,.int _ n=>if 0<=n/\n<N then match Y0 P e with|some m=>O6 P e l (n.toNat*m)|none=>ah else ah
 |_,_,_=>ah
def tA{t a i v x y}(o:AI X x a)(j:AI X y i)(h:Ok P t a i=ae v):∃ c,(Instr.index t x y).run P w=.ok c w/\AI X c v:=by
 unfold Ok at h;split at h;rename_i s k n f;obtain⟨q,rfl,rfl⟩:=o.str_inv;cases j;split at h;rename_i z;simp only[I_]at h;obtain⟨b,p,rfl⟩:=h;refine⟨_,?_,.int _ _⟩;have:q[n.toNat]?=ae b:=by
  rw[PU]at p;have h2:q[n.toNat]?=q.data[n.toNat]? := by by_cases d:n.toNat<q.size;rw[getElem?_pos q _ _,getElem?_pos q.data _ d];rfl;rw[getElem?_neg q _ d,getElem?_neg q.data _ d]
  rw[h2,p]
 simp[Instr.index,asIntOf,Zt f,z,this];simp at h;rename_i N e l k n f;cases j;split at h;rename_i u;split at h
 .rename_i m hs;cases o with|agg xs _ h1 h2 h3=>obtain⟨c,g,r⟩:=jb (w:=w) (.agg xs l h1 h2 h3) h;exact⟨c,by simp[Instr.index,asIntOf,Zt f,u,Y8 hs,g],r⟩
 simp at h;simp at h;simp at h
def Y5(d:Nat):Option V->Option Nat
 |none=>ae d|some (.int _ n)=>if 0<=n then ae n.toNat else ah|_=>ah
def Uz(P:Program)(t:TypeId)(a:V)(lo hi mx:Option V):Option V:=
 match P.underlying t,a with
 |some .string,.AB s=>match Y5 0 lo,Y5 (aa s) hi,mx with|some i,ae j,ah=>if i<=j/\j<=aa s then ae (.AB ((s.drop i).take (j-i)))else ah|_,_,_=>ah
 |some (.slice e),.slice c clip E l=>
  match Y5 0 lo,Y5 (aa l) hi,mx with
  |some i,ae j,ah=>if Y0 P e=ae E/\i<=j/\j<=aa l then ae (.slice c (clip&&j==aa l) E ((l.drop i).take (j-i)))else ah|some i,ae j,ae m=>match hi,Y5 0 (ae m)with|some _,ae k=>if Y0 P e=ae E/\i<=j/\j<=k/\k<=aa l then ae (.slice c (k==j) E ((l.drop i).take (j-i)))else ah|_,_=>ah
  |_,_,_=>ah
 |some (.slice e),.A_ o g off len E=>match Y5 0 lo,Y5 len hi,mx with|some i,ae j,ah=>if Y0 P e=ae E/\i<=j/\j<=len then ae (if i=0 then .A_ o g off j E else if i<j then .A_ o g (off+i*E) (j-i) E else .slice .any false E [])else ah|_,_,_=>ah
 |some (.slice e),.AG=>match Y5 0 lo,Y5 0 hi,Y5 0 mx,hi,mx with|some 0,ae 0,ae 0,_,ah=>if(Y0 P e).isSome then ae .AG else ah|some 0,ae 0,ae 0,ae _,ae _=>if(Y0 P e).isSome then ae .AG else ah|_,_,_,_,_=>ah
 |_,_=>ah
def Ck{y m n d}(a:AI X y m)(h:Y5 d (ae m)=ae n)(cap)(b:n<=cap)(code):(aO y cap code).run P w=.ok n w:=by cases a<;>simp only[Y5,reduceCtorEq]at h;split at h;rename_i k q c;simp at h;subst h;have:q<=(cap:Int):=zo;simp[aO,asIntOf,c,this];grind
def Gr(X:Cx):Option Value->Option V->Prop
 |none,ah=>True|some x,ae v=>AI X x v|_,_=>False
def Ul{isSlice len cap lo hi mx lo' hi' mx' i j k}(r:Gr X lo lo')(h2:Gr X hi hi')(q:Gr X mx mx')(f:Y5 0 lo'=ae i)(d:Y5 len hi'=ae j)(b:Y5 cap mx'=ae k)(m:mx'=ah\/hi'≠ah)(o:i<=j)(n:j<=k)(s:k<=cap):(aP isSlice len cap lo hi mx).run P w=.ok (i,j,k) w:=by
 have p:∀ v a,mx=ae v->mx'=ae a->∀ c,(aO v _ c).run P w=.ok k w:=λv a e g c=>by subst e;subst g;exact Ck q b _ s _
 have h:∀ v a,hi=ae v->hi'=ae a->∀ c,(aO v k c).run P w=.ok j w:=λv a e g c=>by subst e;subst g;exact Ck h2 d k n _
 have l:∀ v a,lo=ae v->lo'=ae a->∀ c,(aO v j c).run P w=.ok i w:=λv a e g c=>by subst e;subst g;exact Ck r f j o _
 cases lo<;>cases lo'<;>simp only[Gr]at r<;>cases hi<;>cases hi'<;>simp only[Gr]at h2<;>cases mx<;>cases mx'<;>simp only[Gr]at q <;>
  first
   |(exfalso;simp at m;done)|(simp only[aP,l _ _ _ _,h _ _ _ _,p _ _ _ _,aC,aD,aB];simp[Y5]at f d b;simp_all;done)|(simp only[aP,l _ _ _ _,h _ _ _ _,aC,aD,aB];simp[Y5]at f d b;simp_all;done)|(simp only[aP,h _ _ _ _,p _ _ _ _,aC,aD,aB];simp[Y5]at f d b;simp_all;done)|(simp only[aP,l _ _ _ _,aC,aD,aB];simp[Y5]at f d b;simp_all;done)|(simp only[aP,h _ _ _ _,aC,aD,aB];simp[Y5]at f d b;simp_all;done)|(simp only[aP,aC,aD,aB];simp[Y5]at f d b;simp_all;done)
def Jq{E l}(c:∀ v∈l,v.cells.length=E)(i j q hq):∃ h:i*E+q<(flat l).length,(flat ((l.drop i).take j))[q]=(flat l)[i*E+q]:=by
 have f:flat l=flat (l.take i)++flat (l.drop i):=by unfold flat;rw[<- HU,HX]
 have e:flat (l.drop i)=flat ((l.drop i).take j)++flat ((l.drop i).drop j):=by unfold flat;rw[<- HU,HX]
 by_cases b:i<=aa l;have d:aa (flat (l.take i))=i*E:=by rw[V2 (λv a=>c v (OX a)),CZ,MJ b]
 grind;rw[HT zo]at hq;simp[flat]at hq
def M7{c clip clip' E i j l b off len cap cap'}(h:AI X (.slice (ae ⟨b,off,ah⟩) len cap) (.slice c clip E l))(s:i<=j)(o:j<=l.length)(p:j-i<=cap')(a:clip'=ad->cap'=j-i)(off')(d:off'=off+i*E\/j=i):AI X (.slice (ae ⟨b,off',ah⟩) (j-i) cap') (.slice c clip' E ((l.drop i).take (j-i))):=by
 cases h with|slice0=>have t:i=0:=zG;have o:j=0:=zG;subst t o;exact .slice c _ E [] b _ _ (λ_=>undef) (CB _) zG zS (by simp[flat]) (by simp[flat])|slice _ _ _ _ _ _ _ f h1 h2 hE hc hr=>
 have g:aa ((l.drop i).take (j-i))=j-i:=zO;have n:∀ v∈(l.drop i).take (j-i),aa v.cells=E:=λv r=>hE v (OW (OX r));have m:AI X (.slice (ae ⟨b,off',ah⟩) (aa ((l.drop i).take (j-i))) cap') (.slice c clip' E ((l.drop i).take (j-i))):=by refine .slice c _ E _ b _ _ (λq=>f (i*E+q)) zo (λu=>by rw[a u];omega) n ?_ ?_;intro q k;obtain⟨e,_⟩:=Jq hE i _ q k;rcases d with rfl|rfl;have:=hc _ e;rwa [<- GM]at this;simp[flat]at k;intro q k;obtain⟨e,w⟩:=Jq hE i _ q k;rw[w];exact hr _ _
 rwa [g]at m
def rq{t a v x lo hi mx lo' hi' mx'}(O:AI X x a)(G:Gr X lo lo')(h2:Gr X hi hi')(F:Gr X mx mx')(h:Uz P t a lo' hi' mx'=ae v):∃ c,(aN t x lo hi mx).run P w=.ok c w/\AI X c v:=by
 unfold Uz at h;split at h;rename_i s C;obtain⟨q,rfl,rfl⟩:=O.str_inv;split at h;rename_i i j z u;split at h;rename_i L;simp at h;subst h;have R:q.size=aa q.data.toList:=(IW (xs:=q.data)).symm;rw[<- R]at u L;cases mx<;>simp only[Gr]at F;have B:=Ul (P:=P) (w:=w) (isSlice:=false) (cap:=q.size) (mx:=ah) (mx':=ah) G h2 trivial z u rfl (.inl rfl) L.1 L.2 (BO _);refine⟨.string (q.extract i j),?_,.AB _ _ ?_⟩;simp[aN,aM,Zt C,B];rw[Lib.extract_data];simp at h;simp at h
 .rename_i e c clip E l C;cases O with
  |slice0 _ _ _ a=>
   split at h;rename_i i j z u;split at h;rename_i r;obtain⟨y,d,K⟩:=r;simp at h;subst h;cases mx<;>simp only[Gr]at F;have I:j=0:=by simp at K;omega
   have A:i=0:=zo;subst I A;have u:Y5 0 hi'=ae 0:=u;have B:=Ul (P:=P) (w:=w) (isSlice:=ad) (cap:=0) (mx:=ah) (mx':=ah) G h2 trivial z u rfl (.inl rfl) d zo (BO _);refine⟨_,by simp only[aN,aM,Zt C,B,Y8 y,aC,aB,aD];rfl,?_⟩;simpa using AI.slice0 _ _ _ a;simp at h;rename_i i j m z u;split at h;rename_i q k N;split at h;rename_i r;obtain⟨y,d,H,hk⟩:=r;simp at h;subst h;have J:Y5 0 (ae m)=ae k:=by cases m<;>simp_all [Y5]
   have T:k=0:=by simp at hk;omega
   have I:j=0:=zo;have A:i=0:=zo;subst T I A;rw[show aa ([]:List V)=0 from rfl]at u;have B:=Ul (P:=P) (w:=w) (isSlice:=ad) (cap:=0) G h2 F z u J (.inr zS) d H zo;refine⟨_,by simp only[aN,aM,Zt C,B,Y8 y,aC,aB,aD];rfl,?_⟩;simpa using AI.slice0 _ _ _ a;simp at h;simp at h;simp at h
  |slice _ _ _ _ b off cap f hcap hclip hE L hr=>
  have Q:AI X (.slice (ae ⟨b,off,ah⟩) (aa l) cap) (.slice c clip E l):=.slice _ _ _ _ b off cap f hcap hclip hE L hr;split at h;rename_i i j z u;split at h;rename_i r;obtain⟨y,d,K⟩:=r;simp at h;subst h;cases mx<;>simp only[Gr]at F;have B:=Ul (P:=P) (w:=w) (isSlice:=ad) (cap:=cap) (mx:=ah) (mx':=ah) G h2 trivial z u rfl (.inl rfl) d zo (BO _);refine⟨_,by simp only[aN,aM,Zt C,B,Y8 y,aC,aB,aD];rfl,?_⟩;by_cases p:cap=i;simp only[p,EN];exact M7 Q d K zo (λD=>by simp at D;have:=hclip D.1;omega) off (.inr zo);simp only[p,HD,NT,aK];exact M7 Q d K zo (λD=>by simp at D;have:=hclip D.1;omega) _ (.inl rfl);simp at h;rename_i i j m z u;split at h;rename_i q k N;split at h;rename_i r;obtain⟨y,d,H,hk⟩:=r;simp at h;subst h;have J:Y5 cap (ae m)=ae k:=by cases m<;>simp_all [Y5]
  have B:=Ul (P:=P) (w:=w) (isSlice:=ad) (cap:=cap) G h2 F z u J (.inr zS) d H zo;refine⟨_,by simp only[aN,aM,Zt C,B,Y8 y,aC,aB,aD];rfl,?_⟩;by_cases p:k=i;simp only[p,EN];exact M7 Q d zo zo (λD=>by simp at D;omega) off (.inr zo);simp only[p,HD,NT,aK];exact M7 Q d zo zo (λD=>by simp at D;omega) _ (.inl rfl);simp at h;simp at h;simp at h
 .rename_i e o g off len E C;cases O with|A_ _ _ _ _ _ b bs cap hβ hcap B=>
  split at h;rename_i i j z u;split at h;rename_i r;obtain⟨y,d,K⟩:=r;simp at h;subst h;cases mx<;>simp only[Gr]at F;have W:=Ul (P:=P) (w:=w) (isSlice:=ad) (cap:=cap) (mx:=ah) (mx':=ah) G h2 trivial z u rfl (.inl rfl) d zo (BO _);refine⟨_,by simp only[aN,aM,Zt C,W,Y8 y,aC,aB,aD];rfl,?_⟩;obtain⟨c',t',M,Y⟩:=B;by_cases A:i=0;subst A;simp only[EN,IS];have:(if cap=0 then ae (⟨b,bs+off,ah⟩:Addr)else(ae (⟨b,bs+off,ah⟩:Addr)).map λx=>x.add (0*E))=ae ⟨b,bs+off,ah⟩:=by split<;>simp[aK]
  rw[this];exact .A_ o g off j E b bs cap hβ zo ⟨c',t',M,Y⟩;simp only[A,HD];by_cases S:i<j;have p:¬cap=i:=zo;simp only[S,p,EN,HD,NT,aK,GM];refine .A_ o g (off+i*E) (j-i) E b bs (cap-i) hβ zo ⟨c',t',M,?_⟩;have:i*E+(cap-i)*E=cap*E:=by rw[<- MH];congr 1;omega
  omega;have U:j=i:=zo;subst U;simp only[LM,HD,TQ];by_cases p:cap=j;simp only[p,EN];exact .slice .any false E [] b (bs+off) _ (λ_=>undef) zS zS zS (by simp[flat]) (by simp[flat]);simp only[p,HD,NT,aK];exact .slice .any false E [] b _ _ (λ_=>undef) zS zS zS (by simp[flat]) (by simp[flat]);simp at h;simp at h
 rename_i e C;cases O;have CK:∀ lo hi mx,(aP ad 0 0 lo hi mx).run P w=.ok (0,0,0) w->(Y0 P e).isSome=ad->(aN t (.slice ah 0 0) lo hi mx).run P w=.ok (.slice ah 0 0) w:=by intro lo hi mx B y;obtain⟨n,y⟩:=QR.1 y;simp[aN,aM,Zt C,B,Y8 y]
 split at h;rename_i z u N;split at h;rename_i y;simp at h;subst h;exact⟨_,CK _ _ _ (Ul G h2 F z u N (.inl rfl) (BO _) (BO _) (BO _)) y,.AG⟩;simp at h;rename_i z u N;split at h;rename_i y;simp at h;subst h;exact⟨_,CK _ _ _ (Ul G h2 F z u N (.inr zS) (BO _) (BO _) (BO _)) y,.AG⟩;simp at h;simp at h;simp at h
