/- A part. No condition. -/
import Derived.Test.YtkennpiglkfalaaGreatDoorP6
set_option linter.all false
open List renaming length->aa
open Bool renaming false->ab
open Option renaming some->ae,none->ah
open Go.Addr renaming add_lit->aK
open Go.Builtin renaming append_->bE,firstCells->bF,lenOf->bG,zeroCells->bh
open Go.Instr renaming buildSlice->bH
open Go.Result renaming andThen_ok->aB
open Go.Sem renaming run_bind->aC,run_pure->aD
namespace Go.Hs
section
variable{P:Program}{X:Cx}{H:A'}
def Tw(H:A')(E:Nat)(x:V):Option (Nat×List V):=
 match x with
 |.AG=>ae (0,[])|.slice _ _ E' l=>if E'=E then ae (aa l,flat l)else ah|.A_ o g off len E'=>match H o with|.cells _ g' _ cs=>if E'=E/\g=g'/\off+len*E<=aa cs then ae (len,(cs.drop off).take (len*E))else ah|_=>ah
 |.AB s=>if E=1 then ae (aa s,s.map λb=>.int .u8 b.toNat)else ah|_=>ah
def c8{c clip E l b off len cap}(h:AI X (.slice (ae ⟨b,off,ah⟩) len cap) (.slice c clip E l)):∃ xs,CI X xs (flat l)/\∀ i x,xs[i]?=ae x->X.w.cell? ⟨b,off+i,ah⟩=ae x:=by
 cases h with|slice0=>exact⟨[],LP,zS⟩|slice _ _ _ _ _ _ _ f hcap hclip hE hc hr=>
 refine⟨(List.range (aa (flat l))).map f,⟨zS,?_,?_⟩,?_⟩;grind;grind;intro i x a;rw[DG]at a;obtain⟨a,rfl⟩:=a;simp only[FG,LI];exact(hc i (zu a)).2.2.1
def M5(h:BZ X H){E n x v cs}(z:AI X x v)(d:Tw H E v=ae (n,cs)):cs.length=n*E/\(∀ w,(bG x).run P w=.ok n w) /\
   ∃ xs,CI X xs cs/\∀ w,(∀ a y,X.w.cell? a=ae y->w.cell? a=ae y)->(bF E n x).run P w=.ok xs.toArray w:=by
 unfold Tw at d;split at d;simp at d;obtain⟨rfl,rfl⟩:=d;cases z;exact⟨zS,λ_=>rfl,[],LP,λ_ _=>rfl⟩;rename_i c L u l;split at d
 .rename_i e;subst e;simp at d;obtain⟨rfl,rfl⟩:=d;have B:=z;cases z with|slice0 _ _ _ a=>exact⟨by simp[flat],λ_=>rfl,[],LP,λ_ _=>by simp[bF,loadCells];rfl⟩|slice _ _ _ _ b m cap f hcap hclip hE hc hr=>obtain⟨xs,J,h2⟩:=c8 B;have k:=V2 hE;refine⟨k,λ_=>rfl,xs,J,λw C=>?_⟩;have A:=run_loadCells_list (P:=P) w _ xs (λj y p=>by rw[aK];exact C _ _ (h2 j y p));rw[J.len,k]at A;simpa[bF]using A
 simp at d;rename_i o g m len u;split at d;rename_i c Q R r M;split at d
 .rename_i hc;obtain⟨rfl,rfl,K⟩:=hc;simp at d;obtain⟨rfl,rfl⟩:=d;cases z with
  |A_ _ _ _ _ _ b bs cap hβ hcap hb=>
   obtain⟨O,t,I,G,N⟩:=h.cells M hβ;have k:aa ((r.drop m).take (len*u))=len*u:=zO;have B:CI X _ ((r.drop m).take (len*u)):=(N.drop _).take _;refine⟨k,λ_=>rfl,_,B,λw C=>?_⟩;have A:=run_loadCells_list (P:=P) w _ ((((O.toList.drop bs).take (aa r)).drop m).take (len*u)) (λj y p=>by
    rw[aK];refine C _ _ ?_;rw[Lw I];have F:j<len*u:=by rw[DG]at p;obtain⟨p,_⟩:=p;simp at p;omega
    rw[Sx F,Sx zo]at p;rw[GM];simpa using p)
   rw[B.len,k]at A;simpa[bF]using A
 simp at d;simp at d;rename_i s;split at d;rename_i e;subst e;simp at d;obtain⟨rfl,rfl⟩:=d;obtain⟨q,rfl,rfl⟩:=z.str_inv;have D:q.size=aa q.data.toList:=(IW).symm;refine⟨zS,λ_=>by show Result.ok q.size _=_;rw[D],(q.data.toList.map λb=>.int .u8 b.toNat),⟨zS,by simp[Value.oneCell'],?_⟩,?_⟩;intro i J h2;simp only[FG];exact .int _ _;intro w _;have:(q.extract 0 (aa q.data.toList)).data.toList=q.data.toList:=by rw[Lib.extract_data,HB,IS,B_]
 simp only[bF,aD];congr 1;apply Array.ext';rw[Array.toList_map,this];simp at d;simp at d
def Tg(bytes need:Nat):Prop:=need*bytes<=140737488355328/\need<=4611686018427387904
instance(b n:Nat):Decidable (Tg b n):=by unfold Tg;exact inferInstance
def Nq(P:Program)(t:TypeId):Option Nat:=(P.info? t).map (·.bytes)
def AH.moved:AH->AH
 |.new=>.new|_=>.any
def Ly(H:A')(d E bytes:Nat)(a b:V)(K:V->A'->Prop):Prop:=
 match Tw H E b with
 |none=>False|some (n,xc)=>
  match a with
  |.AG=>Tg bytes n/\(n=0->K .AG H)/\(n≠0->∀ g,K (.A_ d g 0 n E) (Ye H d (.cells .new g 0 xc)))
  |.slice c clip E' l=>E'=E/\Tg bytes (aa l+n)/\(n=0->K (.slice c clip E l) H) /\
    (n≠0->clip=true/\∀ g,K (.A_ d g 0 (aa l+n) E) (Ye H d (.cells .new g 0 (flat l++xc))))
  |.A_ o g off len E'=>E'=E/\Tg bytes (len+n) /\
   match H o with
   |.cells c g' fz cs=>g=g'/\off+len*E<=aa cs/\fz<=off+len*E /\
     ∀ g2,K (.A_ o g2 0 (len+n) E) (Ye H o (.cells c.moved g2 (fz-off) ((cs.drop off).take (len*E)++xc)))
   |_=>False
  |_=>False
def Iz(P:Program)(H:A')(d:Nat)(ats:Array TypeId)(a b:V)(K:V->A'->Prop):Prop:=
 match ats.toList with
 |[t0,t1]=>
  match P.underlying t0,P.underlying t1 with
  |some (.slice _),ae (.int _)=>False|some (.slice e),ae _=>match Y0 P e,Nq P e,Tj P e with|some E,ae bytes,ae z=>z.solid=true/\aa z.cells=E/\Ly H d E bytes a b K|_,_,_=>False
  |_,_=>False
 |_=>False
section
variable{t0 t1 ty e:TypeId}{bt:TypeDesc}{i:TypeInfo}{sLen sCap n:Nat}{y:Value}{w w':World}{xs:Array Value}
def ABb(g:P.underlying t0=ae (.slice e))(f:P.underlying t1=ae bt)(a:∀ k,bt ≠ .int k)(hi:P.info? e=ae i)(c:(bG y).run P w=.ok 0 w)(d:(bF i.size 0 y).run P w=.ok xs w):(bE #[t0,t1] ty #[.slice ah 0 0,y]).run P w=.ok (.slice ah 0 0) w:=by
 have b:(match bt with|.int _=>true|_=>ab:Bool)=ab:=by cases bt<;>first|rfl|exact absurd rfl (a _)
 simp[bE,Zt g,Zt f,b,sizeOf,typeInfo,hi,c,d]
def Jy(l:P.underlying t0=ae (.slice e))(j:P.underlying t1=ae bt)(d:∀ k,bt ≠ .int k)(hi:P.info? e=ae i){a}(g:(bG y).run P w=.ok n w)(c:sLen+n<=sCap)(h:(bF i.size n y).run P w=.ok xs w)(b:(storeCells (a.add (sLen*i.size)) xs.toList).run P w=.ok () w'):(bE #[t0,t1] ty #[.slice (ae a) sLen sCap,y]).run P w=.ok (.slice (ae a) (sLen+n) sCap) w':=by
 have f:(match bt with|.int _=>true|_=>ab:Bool)=ab:=by cases bt<;>first|rfl|exact absurd rfl (d _)
 simp[bE,Zt l,Zt j,f,sizeOf,typeInfo,hi,g,h,c,b]
def P2(p:P.underlying t0=ae (.slice e))(o:P.underlying t1=ae bt)(f:∀ k,bt ≠ .int k)(hi:P.info? e=ae i){z}(j:i.zero=ae z){base olds}(l:∀ w,(bG y).run P w=.ok n w)(c:¬sLen+n<=sCap)(a:Tg i.bytes (sLen+n))(m:(bF i.size n y).run P w.drew=.ok xs w.drew)(d:(bF i.size sLen (.slice base sLen sCap)).run P w.drew=.ok olds w.drew):(bE #[t0,t1] ty #[.slice base sLen sCap,y]).run P w =
   .ok (.slice (ae ⟨w.heap.size,0,ah⟩) (sLen+n) (grownCap w (sLen+n) sCap e)) (w.drew.alloc (.cells (olds++xs++bh z.cells (grownCap w (sLen+n) sCap e-(sLen+n))) e)):=by
 have b:(match bt with|.int _=>true|_=>ab:Bool)=ab:=by cases bt<;>first|rfl|exact absurd rfl (f _)
 have g:¬((9223372036854775807:Int)<((sLen:Int)+(n:Int))):=by have:=a.2;omega
 have h:¬(281474976710656<Builtin.nextslicecap (sLen+n) sCap*i.bytes):=by have:=growslice_fits (old:=sCap) (bytes:=i.bytes) zo a.1;omega
 simp[bE,Zt p,Zt o,b,sizeOf,typeInfo,zeroValue,hi,j,l,c,g,h,Question.forced,m,d,newRow,grownCap]
end
def Ou(h:BZ X H)(o){E need cap xs cs}(j:CI X xs cs)(b:cs.length=need*E)(d:need<=cap)(e rest)(a:rest.size=(cap-need)*E)(c)(m:c=.new\/c=.any)(fz){K:V->A'->Prop}(p:∀ g,K (.A_ o g 0 need E) (Ye H o (.cells c g fz cs))):∃ v H' Y,Y.w=X.w.drew.alloc (.cells (xs.toArray++rest) e)/\BH X H Y H'/\AI Y (.slice (ae ⟨X.w.heap.size,0,ah⟩) need cap) v/\K v H':=by
 have f:=(P' h (X.w.drawn+1));obtain⟨n,k⟩:=h.CK o;have i:=j.len;have l:=BH.alloc f.BJ (k n (BO _)) fz c m (xs.toArray++rest) e cs zG (by rw[Array.toList_append,<- i,NR zS,HY zS];exact j.mono f.le)
 refine⟨.A_ o n 0 _ E,_,_,?_,f.trans l,?_,p n⟩;rfl;have:=AI.A_ (X:=Cx.add {X with w:={X.w with drawn:=X.w.drawn+1} } o n X.w.heap.size 0 (({X.w with drawn:=X.w.drawn+1}:World).alloc (.cells (xs.toArray++rest) e))) o n 0 _ E X.w.heap.size 0 _ (by simp[Cx.add]) d
  ⟨xs.toArray++rest,e,by show(X.w.heap.push _)[X.w.heap.size]?=_;simp,by simp only[bV,List.size_toArray,a,i,b,<- MH];have:need+(cap-need)=cap:=zo;rw[this];omega⟩
 grind
def mC(h:BZ X H)(d){ats ty x y a b}(hx:AI X x a)(hy:AI X y b){K}(s:Iz P H d ats a b K):∃ c v H' Y,(bE ats ty #[x,y]).run P X.w=.ok c Y.w/\BH X H Y H'/\AI Y c v/\K v H':=by
 unfold Iz at s;split at s
 case h_2=>exact s.elim
 rename_i t0 t1 S;have:ats = #[t0,t1]:=by cases ats;simp at S;rw[S]
 subst this;split at s;exact s.elim
 .rename_i e bt hne h0 h1;have u:=λk e=>hne k e;split at s
  .rename_i E bytes z hsz hby hzv;obtain⟨hsol,hzl,s⟩:=s;rcases B:P.info? e with _|i;simp[Y0,B]at hsz;have hE:i.size=E:=by simpa[Y0,B]using hsz
   have hB:i.bytes=bytes:=by simpa[Nq,B]using hby
   subst hE;subst hB;have hz0:∃ zc,i.zero=ae zc/\zc.cells.size=i.size:=by unfold Tj at hzv;simp only[B,IK]at hzv;rcases U:i.zero with _|zc;simp[U]at hzv;simp only[U,IK]at hzv;have:=((Dg X hzv).toC hsol).len;exact⟨zc,rfl,by simp at this;omega⟩
   obtain⟨zc,U,G⟩:=hz0;unfold Ly at s;split at s;exact s.elim
   .rename_i n xc hsrc;obtain⟨r,p,xs,Q,hf⟩:=M5 (P:=P) h hy hsrc;have M:=hf X.w (λ_ _ h=>h);have L:=hf X.w.drew (λ_ _ h=>zu h);split at s;obtain⟨q,O,D⟩:=s;cases hx;by_cases R:n=0;subst R;exact⟨_,_,H,X,ABb h0 h1 u B (p X.w) M,GF h,.AG,O rfl⟩;have m:=P2 (P:=P) (ty:=ty) h0 h1 u B U (base:=ah) (sLen:=0) (sCap:=0) (w:=X.w) (olds:=#[]) p zo (zu q) L rfl;simp only[EE,bT]at m;have A:=grownCap_ge X.w n 0 e;obtain⟨v,H',Y,h2,h3,h4,h5⟩:=Ou h d Q r A e (bh zc.cells (grownCap X.w n 0 e-n)) (by simp[bh,G]) .new (.inl rfl) 0 (D R);exact⟨_,v,H',Y,by rw[h2];exact m,h3,h4,h5⟩
    .rename_i c clip E' l;obtain⟨rfl,q,O,D⟩:=s;have hR:=hx;cases hx with
     |slice0 _ _ _ a0=>
      by_cases R:n=0;subst R;have W:xs=[]:=by have:=Q.len;simp[r]at this;exact this
      subst W;have m:=Jy (P:=P) (ty:=ty) (w':=X.w) h0 h1 u B (a:=a0) (sLen:=0) (sCap:=0) (p X.w) zo M rfl;exact⟨_,_,H,X,m,GF h,zu hR,O rfl⟩;obtain⟨hcl,D⟩:=D R;have C:(bF i.size 0 (.slice (ae a0) 0 0)).run P X.w.drew=.ok #[] X.w.drew:=by simp[bF,loadCells];rfl
      have m:=P2 (P:=P) (ty:=ty) h0 h1 u B U (base:=ae a0) (sLen:=0) (sCap:=0) (w:=X.w) (olds:=#[]) p zo (zu q) L C;simp only[EE,bT]at m;have A:=grownCap_ge X.w n 0 e;have hK':∀ g,K (.A_ d g 0 n i.size) (Ye H d (.cells .new g 0 xc)):=by simpa[flat]using D
      obtain⟨v,H',Y,h2,h3,h4,h5⟩:=Ou h d Q r A e (bh zc.cells (grownCap X.w n 0 e-n)) (by simp[bh,G]) .new (.inl rfl) 0 hK';exact⟨_,v,H',Y,by rw[h2];exact m,h3,h4,h5⟩
     |slice _ _ _ _ b' off cap f hcap hclip hEl hc hr=>
     obtain⟨ys,I,V⟩:=c8 hR;have hfl:=V2 hEl;have C:∀ w,(∀ a y,X.w.cell? a=ae y->w.cell? a=ae y)->(bF i.size (aa l) (.slice (ae ⟨b',off,ah⟩) (aa l) cap)).run P w=.ok ys.toArray w:=by intro w hw;have hl:=run_loadCells_list (P:=P) w ⟨b',off,ah⟩ ys (λj y hj=>by rw[aK];exact hw _ _ (V j y hj));rw[I.len,hfl]at hl;simpa[bF]using hl
     by_cases R:n=0;subst R;have W:xs=[]:=by have:=Q.len;simp[r]at this;exact this
     subst W;have m:=Jy (P:=P) (ty:=ty) (w':=X.w) h0 h1 u B (a:=⟨b',off,ah⟩) (sLen:=aa l) (sCap:=cap) (p X.w) zo M rfl;exact⟨_,_,H,X,m,GF h,zu hR,O rfl⟩;obtain⟨hcl,D⟩:=D R;have hce:=hclip hcl;have m:=P2 (P:=P) (ty:=ty) h0 h1 u B U (base:=ae ⟨b',off,ah⟩) (sLen:=aa l) (sCap:=cap) (w:=X.w) p zo q L (C X.w.drew (λ_ _ h=>zu h));have A:=grownCap_ge X.w (aa l+n) cap e;obtain⟨v,H',Y,h2,h3,h4,h5⟩:=Ou h d (E:=i.size) (need:=aa l+n) (I.append Q) (by simp[hfl,r,MH]) A e (bh zc.cells (grownCap X.w (aa l+n) cap e-(aa l+n)))
      (by simp[bh,G]) .new (.inl rfl) 0 D
     refine⟨_,v,H',Y,?_,h3,h4,h5⟩;rw[h2];simpa using m
    .rename_i o g off len E';obtain⟨rfl,q,s⟩:=s;split at s
     .rename_i c g' fz cs ho;obtain⟨rfl,hfit,hfz,D⟩:=s;cases hx with|A_ _ _ _ _ _ b' bs cap hβ hcap hb=>
      obtain⟨T,t,N,hfit1,hCo⟩:=h.cells ho hβ;have hsrc2:Tw H i.size (.A_ o g off len i.size)=ae (len,(cs.drop off).take (len*i.size)):=by simp[Tw,ho,hfit]
      obtain⟨hl2,_,ys,I,V⟩:=M5 (P:=P) h (.A_ o g off len i.size b' bs cap hβ hcap hb) hsrc2;obtain⟨c1',t',hb',hbfit⟩:=hb;rw[N]at hb';cases hb';obtain⟨ng,hng⟩:=h.CK o;have hxl:=Q.len;by_cases J:len+n<=cap;have hbound:bs+off+len*i.size+n*i.size<=T.size:=by have:(len+n)*i.size<=cap*i.size:=O' _ J;rw[MH]at this;omega
      have hst:=run_storeCells_at (P:=P) b' (bs+(off+len*i.size)) t xs 0 T X.w N zo Q.one;simp only[GN]at hst;have m:=Jy (P:=P) (ty:=ty) h0 h1 u B (a:=⟨b',bs+off,ah⟩) (sLen:=len) (sCap:=cap) (p X.w) J M (by rw[aK,GM];exact hst)
      let F:Array Value:=(T.toList.take (bs+(off+len*i.size))++xs++T.toList.drop (bs+(off+len*i.size)+aa xs)).toArray;have hg:=Gt h ho hβ N F (by simp[F];omega) (by
       intro j hj;simp only[F];rw[LH,DH,KJ zO,QH zo];simp) c.moved (by cases c<;>simp[AH.moved]) ng (bs+off) (fz-off) ((cs.drop off).take (len*i.size)++xc) (.inr (hng ng (BO _))) zo
       (by simp[F,r];omega) (by
        have e1:(F.toList.drop (bs+off)).take (aa ((cs.drop off).take (len*i.size)++xc))=((((T.toList.drop bs).take (aa cs)).drop off).take (len*i.size))++xs:=by
         have e0:aa ((cs.drop off).take (len*i.size)++xc)=len*i.size+n*i.size:=by simp[r];omega
         rw[e0];have e2:=Bi T.toList xs (bs+off) (len*i.size) (len*i.size+n*i.size) zo zO;simp only[F];rw[show bs+(off+len*i.size)=bs+off+len*i.size by omega];have e3:((T.toList.drop (bs+off)).take (len*i.size+n*i.size)).drop (len*i.size+aa xs)=[]:=HT zO;rw[e2,e3,DW];congr 1;rw[OZ,cA,OZ,NM];congr 1;omega
        rw[e1];exact((hCo.drop off).take _).append Q)
      refine⟨_,_,_,_,m,hg,?_,D ng⟩;have hb2:=setRow_heap X.w b' T F t (0,0) N;have:=AI.A_ (X:=Cx.add X o ng b' (bs+off) (X.w.setRow b' F)) o ng 0 (len+n) i.size b' (bs+off) cap (by simp[Cx.add]) J
       ⟨F,t,by simpa[Cx.add]using hb2,by simp[F];omega⟩
      simpa using this;have m:=P2 (P:=P) (ty:=ty) h0 h1 u B U (base:=ae ⟨b',bs+off,ah⟩) (sLen:=len) (sCap:=cap) (w:=X.w) p J q L
       (V X.w.drew (λ_ _ h=>zu h))
      have A:=grownCap_ge X.w (len+n) cap e;obtain⟨v,H',Y,h2,h3,h4,h5⟩:=Ou h o (E:=i.size) (need:=len+n) (I.append Q) (by simp only[BQ,hl2,r,MH]) A e (bh zc.cells (grownCap X.w (len+n) cap e-(len+n)))
       (by simp[bh,G]) c.moved (by cases c<;>simp[AH.moved]) (fz-off) D
      refine⟨_,v,H',Y,?_,h3,h4,h5⟩;rw[h2];simpa using m
     exact s.elim
    exact s.elim
  exact s.elim
 exact s.elim
end
section
variable{P:Program}{X:Cx}{H:A'}
def Tr(n:Nat)(z:List V):List V:=
 match n with|0=>[]|n+1=>z++Tr n z
def C6(z):∀ n,(Tr n z).length=n*z.length
 |0=>by simp[Tr]|n+1=>by simp[Tr,C6 z n,QP,WL]
def B3(n:Nat)(z:List Value):List Value:=
 match n with|0=>[]|n+1=>z++B3 n z
def WX{zs z}(h:CI X zs z):∀ n,CI X (B3 n zs) (Tr n z)
 |0=>LP|n+1=>h.append (WX h n)
def Q9(z):∀ n,(B3 n z).length=n*z.length
 |0=>by simp[B3]|n+1=>by simp[B3,Q9 z n,QP,WL]
def ko(z)(b:0<z.length):∀ n i,i<n*z.length->(B3 n z)[i]?=z[i%z.length]?
 |0,i,h=>by grind|n+1,i,h=>by simp only[B3];by_cases a:i<z.length;rw[KJ a,Nat.mod_eq_of_lt a];rw[JS zo,ko z b n _ zG];rw[<- Nat.mod_eq_sub_mod (Nat.le_of_not_lt a)]
def ju(a:Array Value)(n m)(c:m=n*a.size):((Array.range m).map λi=>a[i%a.size]!)=(B3 n a.toList).toArray:=by
 subst c;by_cases b:a.size=0;have d:n*a.size=0:=zG;have h2:aa (B3 n a.toList)=0:=by rw[Q9];simp[b]
 grind;apply Array.ext;simp[Q9];intro i d h2;simp only[List.getElem_toArray];have e:=ko a.toList zG n i zG;grind
def T2(P:Program)(H:A')(d:Nat)(t:TypeId)(len:Nat)(CC:List (Nat×V))(K:V->A'->Prop):Prop:=
 match P.underlying t with
 |some (.slice e)=>
  match Y0 P e,Tj P e with
  |some E,ae z=>
   z.solid=true/\aa z.cells=E/\len*E<=16777216 /\
   match Uo (λi=>ae (i*E,E)) (Tr len z.cells) CC with|some cs=>∀ g,K (.A_ d g 0 len E) (Ye H d (.cells .new g 0 cs))|none=>False
  |_,_=>False
 |_=>False
def Ed(place):∀ CC cells l,Uo place cells CC=ae l->l.length=cells.length
 |[],cells,l,h=>by simp[Uo]at h;rw[h]|(i,v)::r,cells,l,h=>by simp only[Uo]at h;split at h;grind;split at h;rw[Ed _ r _ _ h,Px];grind
def F3(h:BZ X H)(d e){xs cs}(i:CI X xs.toList cs)(len cap E)(a:len<=cap)(b:cap*E<=xs.size){K:V->A'->Prop}(f:∀ g,K (.A_ d g 0 len E) (Ye H d (.cells .new g 0 cs))):∃ v H' Y,(newRow e xs).run P X.w=.ok ⟨X.w.heap.size,0,ah⟩ Y.w/\BH X H Y H'/\AI Y (.slice (ae ⟨X.w.heap.size,0,ah⟩) len cap) v/\K v H':=by obtain⟨Y,g,m,h2,l,k,j⟩:=i_ h d e i _ (λY g c _=>by simpa using AI.ptr d g 0 _ 0 c) f;refine⟨_,_,Y,m,h2,?_,j⟩;have:=AI.A_ d g 0 _ E _ 0 _ l a ⟨xs,e,k,zo⟩;grind
def B6(h:BZ X H)(d){t len CC ps K}(G:ps.toList.length=CC.length)(F:∀ i h1 (h2:i<CC.length),ps.toList[i].1=CC[i].1/\AI X ps.toList[i].2 CC[i].2)(g:T2 P H d t len CC K):∃ c v H' Y,(bH t len ps).run P X.w=.ok c Y.w/\BH X H Y H'/\AI Y c v/\K v H':=by
 unfold T2 at g;split at g
 case h_2=>grind
 rename_i e y;split at g
 case h_2=>grind
 rename_i E z l D;obtain⟨m,s,A,g⟩:=g;split at g
 case h_2=>grind
 rename_i L a;obtain⟨zx,q,r⟩:=Qc (X:=X) (w:=X.w) D;have j:=r.toC m;have C:zx.cells.size=E:=by have:=j.len;simp at this;omega
 have n:=ju zx.cells len (len*E) zG;obtain⟨B,b,hrel⟩:=Is _ _ _ _ _ L G F (by simpa using WX j _) a;have x:B.size=len*E:=by have:=hrel.len;rw[Ed _ _ _ _ a,C6,s]at this;simpa using this
 obtain⟨v,H',Y,h1,h2,J,I⟩:=F3 (P:=P) h d e hrel len len E (BO _) zo g;refine⟨_,v,H',Y,?_,h2,J,I⟩;have f:¬(16777216<len*E):=zo;by_cases p:len*E=0;have u:(B3 len zx.cells.toList)=[]:=by grind
 rw[u]at b;have k:=b;have o:((Array.range (len*E)).map λi=>(#[]:Array Value)[i%(#[]:Array Value).size]!) = #[]:=by rw[p];simp
 rw[p]at o;simp only[bH,aC,Zt y,aB,Y8 l,p,o];rw[AA zS];simp only[aD,aB,aC,EN,o,k,h1];have o:=n;simp only[bH,aC,Zt y,aB,Y8 l];rw[AA (zu f)];rw[AA p];simp only[aC,q,aB,aD,o,b,h1]
def Ty(P:Program)(H:A')(d:Nat)(t:TypeId)(len cap:V)(K:V->A'->Prop):Prop:=
 match P.underlying t,len,cap with
 |some (.slice e),.int _ n,.int _ m=>
  match Y0 P e,Nq P e,Tj P e with
  |some E,ae bytes,ae z=>
   z.solid=true/\aa z.cells=E/\0<=n/\n<=m/\m<=4611686018427387904/\bytes*m<=281474976710656 /\
   ∀ g,K (.A_ d g 0 n.toNat E) (Ye H d (.cells .new g 0 (Tr m.toNat z.cells)))
  |_,_,_=>False
 |_,_,_=>False
def l4(h:BZ X H)(d){t len cap x y}(V:AI X x len)(U:AI X y cap){K}(g:Ty P H d t len cap K):∃ c v H' Y,(Instr.makeSlice t x y).run P X.w=.ok c Y.w/\BH X H Y H'/\AI Y c v/\K v H':=by
 unfold Ty at g;split at g
 case h_2=>exact g.elim
 rename_i e k1 n k2 m O;split at g
 case h_2=>exact g.elim
 rename_i E a z f I T;obtain⟨l,S,h0,W,Q,F,g⟩:=g;cases V;cases U;obtain⟨zx,C,D⟩:=Qc (X:=X) (w:=X.w) T;have k:=D.toC l;have j:zx.cells.size=E:=by have:=k.len;simp at this;omega
 have o:=ju _ _ (m.toNat*E) (by rw[j]);have hC:CI X ((B3 m.toNat zx.cells.toList).toArray).toList (Tr m.toNat z.cells):=by simpa using WX k _
 obtain⟨v,H',Y,B,h2,h3,h4⟩:=F3 h d e hC _ m.toNat E zo (by simp[Q9,j]) g;rcases p:P.info? e with _|i;simp[Y0,p]at f;have hE:i.size=E:=by simpa[Y0,p]using f
 have R:i.bytes=a:=by simpa[Nq,p]using I
 have L:IntKind.i64.wrap n=n:=by unfold IntKind.wrap;simp[IntKind.signed,IntKind.bits];omega
 have M:IntKind.i64.wrap m=m:=by unfold IntKind.wrap;simp[IntKind.signed,IntKind.bits];omega
 refine⟨_,v,H',Y,?_,h2,h3,h4⟩;have u:¬m<0:=zo;have s:¬(281474976710656:Int)<(a:Int)*m:=zo;have r:¬n<0:=zo;have q:¬m<n:=zo;subst hE;by_cases b:m.toNat*i.size=0;have G:(B3 m.toNat zx.cells.toList)=[]:=by rw[<- GL,Q9];simp[j];simpa using b
 rw[G]at B;have J:(newRow e #[]).run P X.w=.ok ⟨X.w.heap.size,0,ah⟩ Y.w:=B;have e1:((Array.range 0).map λi=>(#[]:Array Value)[i%(#[]:Array Value).size]!) = #[]:=zS;simp only[Instr.makeSlice,aC,Zt O,aB,asInt,asIntOf,aD,typeInfo,run_program,p,R,L,M];rw[AA (by simp[u,s,r,q])];simp only[aD,aB,aC,run_askRoom,Y8 f,b,EN,e1,J];rw[<- o]at B;have N:¬(m.toNat=0\/i.size=0):=by intro A;rcases A with A|A<;>simp[A]at b
 simp only[Instr.makeSlice,aC,Zt O,aB,asInt,asIntOf,aD,typeInfo,run_program,p,R,L,M];rw[AA (by simp[u,s,r,q])];simp only[aD,aB,aC,run_askRoom,Y8 f];rw[AA b];simp only[aC,C,aB,aD,B]
