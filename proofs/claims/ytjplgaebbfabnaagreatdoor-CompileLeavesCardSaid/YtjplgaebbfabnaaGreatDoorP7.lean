/- A part. No condition. -/
import Derived.Test.YtjplgaebbfabnaaGreatDoorP6
set_option linter.all false
namespace Go.Hs
section
variable{P:Program}{X:Cx}{H:Heap}
def U0(H:Heap)(E:Nat)(x:V):Option (Nat×List V):=
 match x with
 |.nils=>some (0,[])
 |.slice _ _ E' l=>if E'=E then some (l.length,flat l)else none
 |.msl o g off len E'=>match H o with
  |.cells _ g' _ cs=>if E'=E/\g=g'/\off+len*E<=cs.length then some (len,(cs.drop off).take (len*E))else none
  |_=>none
 |.str s=>if E=1 then some (s.length,s.map λb=>.int .u8 b.toNat)else none
 |_=>none
theorem Zpi{c:Col}{a:Bool}{E:Nat}{l:List V}{b off len cap:Nat}(h:Rel X (.slice (some ⟨b,off,none⟩) len cap) (.slice c a E l)):
  ∃ xs:List Value,RelC X xs (flat l)/\∀ i x,xs[i]?=some x->X.w.cell? ⟨b,off+i,none⟩=some x:=by
 cases h with
 |slice0=>exact⟨[],RelC.nil,zS⟩
 |slice _ _ _ _ _ _ _ f hcap hclip hE hc hr=>
 refine⟨(List.range (flat l).length).map f,⟨zS,?_,?_⟩,?_⟩
 grind
 grind
 intro i x d;rw[List.getElem?_eq_some_iff]at d;obtain⟨d,rfl⟩:=d;simp only[List.getElem_map,List.getElem_range];exact(hc i (zu d)).2.2.1
theorem Ng(h:Inv X H){E n:Nat}{x:Value}{v:V}{cs:List V}(z:Rel X x v)(d:U0 H E v=some (n,cs)):
  cs.length=n*E/\(∀ w,(Builtin.lenOf x).run P w=.ok n w) /\
   ∃ xs:List Value,RelC X xs cs/\∀ w,(∀ a y,X.w.cell? a=some y->w.cell? a=some y)->(Builtin.firstCells E n x).run P w=.ok xs.toArray w:=by
 unfold U0 at d
 split at d
 simp at d;obtain⟨rfl,rfl⟩:=d;cases z;exact⟨zS,λ_=>rfl,[],RelC.nil,λ_ _=>rfl⟩;rename_i c M u l
 split at d
 .rename_i e
  subst e;simp at d;obtain⟨rfl,rfl⟩:=d;have B:=z
  cases z with
  |slice0 _ _ _ a=>exact⟨by simp[flat],λ_=>rfl,[],RelC.nil,λ_ _=>by simp[Builtin.firstCells,loadCells];rfl⟩
  |slice _ _ _ _ b k cap f hcap hclip hE hc hr=>
   obtain⟨xs,J,L⟩:=Zpi B;have m:=V8 hE;refine⟨m,λ_=>rfl,xs,J,λw C=>?_⟩;have A:=run_loadCells_list (P:=P) w ⟨b,k,none⟩ xs (λj y r=>by rw[Addr.add_lit];exact C _ _ (L j y r));rw[J.len,m]at A;simpa[Builtin.firstCells]using A
 simp at d;rename_i o g k len u
 split at d
 rename_i c R S p O
 split at d
 .rename_i hc
  obtain⟨rfl,rfl,K⟩:=hc;simp at d;obtain⟨rfl,rfl⟩:=d
  cases z with
  |msl _ _ _ _ _ b bs cap hβ hcap hb=>
   obtain⟨N,t,I,G,Q⟩:=h.cells O hβ;have m:((p.drop k).take (len*u)).length=len*u:=zO;have B:RelC X ((((N.toList.drop bs).take p.length).drop k).take (len*u)) ((p.drop k).take (len*u)):=(Q.drop k).take _;refine⟨m,λ_=>rfl,_,B,λw C=>?_⟩
   have A:=run_loadCells_list (P:=P) w ⟨b,bs+k,none⟩ ((((N.toList.drop bs).take p.length).drop k).take (len*u)) (λj y r=>by
    rw[Addr.add_lit];refine C _ _ ?_;rw[Ex I]
    have F:j<len*u:=by
     rw[List.getElem?_eq_some_iff]at r;obtain⟨r,_⟩:=r;simp at r;omega
    rw[T0 F,T0 zo]at r;rw[Nat.add_assoc]
    simpa using r)
   rw[B.len,m]at A;simpa[Builtin.firstCells]using A
 simp at d;simp at d;rename_i s
 split at d
 rename_i e;subst e;simp at d;obtain⟨rfl,rfl⟩:=d;obtain⟨q,rfl,rfl⟩:=z.str_inv;have D:q.size=q.data.toList.length:=(Array.length_toList (xs:=q.data)).symm;refine⟨zS,λ_=>by show Result.ok q.size _=_;rw[D],(q.data.toList.map λb=>.int .u8 b.toNat),⟨zS,by simp[Value.oneCell'],?_⟩,?_⟩;intro i J L;simp only[List.getElem_map];exact .int _ _;intro w _
 have:(q.extract 0 q.data.toList.length).data.toList=q.data.toList:=by
  rw[Lib.extract_data,List.drop_zero,Nat.sub_zero,List.take_length]
 simp only[Builtin.firstCells,Sem.run_pure]
 congr 1
 apply Array.ext';rw[Array.toList_map,this];simp at d;simp at d
def U3(bytes need:Nat):Prop:=need*bytes<=140737488355328/\need<=4611686018427387904
instance(b n:Nat):Decidable (U3 b n):=by unfold U3;exact inferInstance
def P4(P:Program)(t:TypeId):Option Nat:=(P.info? t).map (·.bytes)
def Col.moved:Col->Col
 |.new=>.new
 |_=>.any
def N2(H:Heap)(d E bytes:Nat)(a b:V)(K:V->Heap->Prop):Prop:=
 match U0 H E b with
 |none=>False
 |some (n,xc)=>
  match a with
  |.nils=>U3 bytes n/\(n=0->K .nils H)/\(n≠0->∀ g,K (.msl d g 0 n E) (Ya H d (.cells .new g 0 xc)))
  |.slice c clip E' l=>E'=E/\U3 bytes (l.length+n)/\(n=0->K (.slice c clip E l) H) /\
    (n≠0->clip=true/\∀ g,K (.msl d g 0 (l.length+n) E) (Ya H d (.cells .new g 0 (flat l++xc))))
  |.msl o g off len E'=>E'=E/\U3 bytes (len+n) /\
   match H o with
   |.cells c g' fz cs=>g=g'/\off+len*E<=cs.length/\fz<=off+len*E /\
     ∀ g2,K (.msl o g2 0 (len+n) E) (Ya H o (.cells c.moved g2 (fz-off) ((cs.drop off).take (len*E)++xc)))
   |_=>False
  |_=>False
def Kb(P:Program)(H:Heap)(d:Nat)(ats:Array TypeId)(a b:V)(K:V->Heap->Prop):Prop:=
 match ats.toList with
 |[t0,t1]=>
  match P.underlying t0,P.underlying t1 with
  |some (.slice _),some (.int _)=>False
  |some (.slice e),some _=>
   match Yw P e,P4 P e,Uv P e with
   |some E,some bytes,some z=>z.solid=true/\z.cells.length=E/\N2 H d E bytes a b K
   |_,_,_=>False
  |_,_=>False
 |_=>False
section
variable{t0 t1 ty e:TypeId}{bt:TypeDesc}{i:TypeInfo}{sLen sCap n:Nat}{y:Value}{w w':World}{xs:Array Value}
theorem Z5k(g:P.underlying t0=some (.slice e))(f:P.underlying t1=some bt)(a:∀ k,bt ≠ .int k)(hi:P.info? e=some i)
  (c:(Builtin.lenOf y).run P w=.ok 0 w) (d:(Builtin.firstCells i.size 0 y).run P w=.ok xs w):
  (Builtin.append_ #[t0,t1] ty #[.slice none 0 0,y]).run P w=.ok (.slice none 0 0) w:=by
 have b:(match bt with|.int _=>true|_=>false:Bool)=false:=by
  cases bt<;>first|rfl|exact absurd rfl (a _)
 simp[Builtin.append_,Zk g,Zk f,b,sizeOf,typeInfo,hi,c,d]
theorem Lg(l:P.underlying t0=some (.slice e))(j:P.underlying t1=some bt)(d:∀ k,bt ≠ .int k)(hi:P.info? e=some i){a:Addr}
  (g:(Builtin.lenOf y).run P w=.ok n w) (c:sLen+n<=sCap) (h:(Builtin.firstCells i.size n y).run P w=.ok xs w)
  (b:(storeCells (a.add (sLen*i.size)) xs.toList).run P w=.ok () w'):
  (Builtin.append_ #[t0,t1] ty #[.slice (some a) sLen sCap,y]).run P w=.ok (.slice (some a) (sLen+n) sCap) w':=by
 have f:(match bt with|.int _=>true|_=>false:Bool)=false:=by
  cases bt<;>first|rfl|exact absurd rfl (d _)
 simp[Builtin.append_,Zk l,Zk j,f,sizeOf,typeInfo,hi,g,h,c,b]
theorem Qp(p:P.underlying t0=some (.slice e))(o:P.underlying t1=some bt)(f:∀ k,bt ≠ .int k)(hi:P.info? e=some i){z:Value}(j:i.zero=some z){base:Option Addr}
  {olds:Array Value} (l:∀ w,(Builtin.lenOf y).run P w=.ok n w) (c:¬ sLen+n<=sCap) (a:U3 i.bytes (sLen+n))
  (m:(Builtin.firstCells i.size n y).run P w.drew=.ok xs w.drew) (d:(Builtin.firstCells i.size sLen (.slice base sLen sCap)).run P w.drew=.ok olds w.drew):
  (Builtin.append_ #[t0,t1] ty #[.slice base sLen sCap,y]).run P w =
   .ok (.slice (some ⟨w.heap.size,0,none⟩) (sLen+n) (grownCap w (sLen+n) sCap e)) (w.drew.alloc (.cells (olds++xs++Builtin.zeroCells z.cells (grownCap w (sLen+n) sCap e-(sLen+n))) e)):=by
 have b:(match bt with|.int _=>true|_=>false:Bool)=false:=by
  cases bt<;>first|rfl|exact absurd rfl (f _)
 have g:¬ ((9223372036854775807:Int)<((sLen:Int)+(n:Int))):=by have:=a.2;omega
 have h:¬ (281474976710656<Builtin.nextslicecap (sLen+n) sCap*i.bytes):=by
  have:=growslice_fits (need:=sLen+n) (old:=sCap) (bytes:=i.bytes) zo a.1;omega
 simp[Builtin.append_,Zk p,Zk o,b,sizeOf,typeInfo,zeroValue,hi,j,l,c,g,h,Question.forced,m,d,newRow,grownCap]
end
theorem Pe(h:Inv X H)(o:Nat){E need cap:Nat}{xs:List Value}{cs:List V}(j:RelC X xs cs)(b:cs.length=need*E)(d:need<=cap)(e:TypeId)(rest:Array Value)(a:rest.size=(cap-need)*E)
  (c:Col) (m:c=.new\/c=.any) (fz:Nat) {K:V->Heap->Prop} (p:∀ g,K (.msl o g 0 need E) (Ya H o (.cells c g fz cs))):
  ∃ v H' Y,Y.w=X.w.drew.alloc (.cells (xs.toArray++rest) e)/\Goes X H Y H'/\Rel Y (.slice (some ⟨X.w.heap.size,0,none⟩) need cap) v/\K v H':=by
 have f:=(Goes.drew h (X.w.drawn+1));obtain⟨n,k⟩:=h.fin o;have i:=j.len
 have l:=Goes.alloc (X:={ X with w:={ X.w with drawn:=X.w.drawn+1 } }) f.inv (o:=o) (g:=n) (k n (Nat.le_refl _)) fz c m (xs.toArray++rest) e cs (by grind) (by
  rw[Array.toList_append,<- i,List.take_append_of_le_length zS,List.take_of_length_le zS]
  exact j.mono f.le)
 refine⟨.msl o n 0 need E,_,_,?_,f.trans l,?_,p n⟩;rfl
 have:=Rel.msl (X:=Cx.add { X with w:={ X.w with drawn:=X.w.drawn+1 } } o n X.w.heap.size 0 (({ X.w with drawn:=X.w.drawn+1 }:World).alloc (.cells (xs.toArray++rest) e))) o n 0 need E X.w.heap.size 0 cap (by simp[Cx.add]) d
  ⟨xs.toArray++rest,e,by show(X.w.heap.push _)[X.w.heap.size]?=_;simp,by
   simp only[Array.size_append,List.size_toArray,a,i,b,<- Nat.add_mul];have:need+(cap-need)=cap:=zo
   rw[this];omega⟩
 grind
theorem Z6k(h:Inv X H)(d:Nat){R:Array TypeId}{ty:TypeId}{x y:Value}{a b:V}(hx:Rel X x a)(hy:Rel X y b){K:V->Heap->Prop}(s:Kb P H d R a b K):
  ∃ c v H' Y,(Builtin.append_ R ty #[x,y]).run P X.w=.ok c Y.w/\Goes X H Y H'/\Rel Y c v/\K v H':=by
 unfold Kb at s
 split at s
 case h_2=>exact s.elim
 rename_i t0 t1 T
 have:R = #[t0,t1]:=by cases R;simp at T;rw[T]
 subst this
 split at s
 exact s.elim
 .rename_i e bt hne h0 h1
  have u:∀ k,bt ≠ .int k:=λk e=>hne k e
  split at s
  .rename_i E bytes z hsz hby hzv
   obtain⟨hsol,hzl,s⟩:=s
   cases B:P.info? e with
   |none=>simp[Yw,B]at hsz
   |some i=>
    have hE:i.size=E:=by simpa[Yw,B]using hsz
    have hB:i.bytes=bytes:=by simpa[P4,B]using hby
    subst hE;subst hB
    have hz0:∃ zc,i.zero=some zc/\zc.cells.size=i.size:=by
     unfold Uv at hzv;simp only[B,Option.bind_some]at hzv
     cases W:i.zero with
     |none=>simp[W]at hzv
     |some zc=>
      simp only[W,Option.bind_some]at hzv;have:=((Hl X hzv).toC hsol).len;exact⟨zc,rfl,by simp at this;omega⟩
    obtain⟨zc,W,G⟩:=hz0;unfold N2 at s
    split at s
    exact s.elim
    .rename_i n xc hsrc
     obtain⟨r,p,xs,Q,hf⟩:=Ng (P:=P) h hy hsrc;have M:=hf X.w (λ_ _ h=>h);have L:=hf X.w.drew (λ_ _ h=>zu h)
     split at s
     obtain⟨q,O,D⟩:=s;cases hx
     by_cases S:n=0
     subst S;exact⟨_,_,H,X,Z5k h0 h1 u B (p X.w) M,Goes.refl h,.nils,O rfl⟩;have m:=Qp (P:=P) (ty:=ty) h0 h1 u B W (base:=none) (sLen:=0) (sCap:=0) (w:=X.w) (olds := #[]) p zo (zu q) L rfl;simp only[Nat.zero_add,Array.empty_append]at m;have A:=grownCap_ge X.w n 0 e;obtain⟨v,H',Y,h2,h3,h4,h5⟩:=Pe h d Q r A e (Builtin.zeroCells zc.cells (grownCap X.w n 0 e-n)) (by simp[Builtin.zeroCells,G]) .new (.inl rfl) 0 (D S);exact⟨_,v,H',Y,by rw[h2];exact m,h3,h4,h5⟩
     .rename_i c clip E' l
      obtain⟨rfl,q,O,D⟩:=s;have hR:=hx
      cases hx with
      |slice0 _ _ _ a0=>
       by_cases S:n=0
       subst S
       have hx0:xs=[]:=by have:=Q.len;simp[r]at this;exact this
       subst hx0;have m:=Lg (P:=P) (ty:=ty) (w':=X.w) h0 h1 u B (a:=a0) (sLen:=0) (sCap:=0) (p X.w) zo M rfl;exact⟨_,_,H,X,m,Goes.refl h,zu hR,O rfl⟩;obtain⟨hcl,D⟩:=D S
       have C:(Builtin.firstCells i.size 0 (.slice (some a0) 0 0)).run P X.w.drew=.ok #[] X.w.drew:=by simp[Builtin.firstCells,loadCells];rfl
       have m:=Qp (P:=P) (ty:=ty) h0 h1 u B W (base:=some a0) (sLen:=0) (sCap:=0) (w:=X.w) (olds := #[]) p zo (zu q) L C;simp only[Nat.zero_add,Array.empty_append]at m;have A:=grownCap_ge X.w n 0 e
       have hK':∀ g,K (.msl d g 0 n i.size) (Ya H d (.cells .new g 0 xc)):=by simpa[flat]using D
       obtain⟨v,H',Y,h2,h3,h4,h5⟩:=Pe h d Q r A e (Builtin.zeroCells zc.cells (grownCap X.w n 0 e-n)) (by simp[Builtin.zeroCells,G]) .new (.inl rfl) 0 hK';exact⟨_,v,H',Y,by rw[h2];exact m,h3,h4,h5⟩
      |slice _ _ _ _ b' off cap f hcap hclip hEl hc hr=>
      obtain⟨ys,I,hy2⟩:=Zpi hR;have hfl:=V8 hEl
      have C:∀ w:World,(∀ a y,X.w.cell? a=some y->w.cell? a=some y)->(Builtin.firstCells i.size l.length (.slice (some ⟨b',off,none⟩) l.length cap)).run P w=.ok ys.toArray w:=by
       intro w hw;have hl:=run_loadCells_list (P:=P) w ⟨b',off,none⟩ ys (λj y hj=>by rw[Addr.add_lit];exact hw _ _ (hy2 j y hj));rw[I.len,hfl]at hl;simpa[Builtin.firstCells]using hl
      by_cases S:n=0
      subst S
      have hx0:xs=[]:=by have:=Q.len;simp[r]at this;exact this
      subst hx0;have m:=Lg (P:=P) (ty:=ty) (w':=X.w) h0 h1 u B (a:=⟨b',off,none⟩) (sLen:=l.length) (sCap:=cap) (p X.w) zo M rfl;exact⟨_,_,H,X,m,Goes.refl h,zu hR,O rfl⟩;obtain⟨hcl,D⟩:=D S;have hce:=hclip hcl;have m:=Qp (P:=P) (ty:=ty) h0 h1 u B W (base:=some ⟨b',off,none⟩) (sLen:=l.length) (sCap:=cap) (w:=X.w) p zo q L (C X.w.drew (λ_ _ h=>zu h));have A:=grownCap_ge X.w (l.length+n) cap e
      obtain⟨v,H',Y,h2,h3,h4,h5⟩:=Pe h d (E:=i.size) (need:=l.length+n) (I.append Q) (by simp[hfl,r,Nat.add_mul]) A e (Builtin.zeroCells zc.cells (grownCap X.w (l.length+n) cap e-(l.length+n)))
       (by simp[Builtin.zeroCells,G]) .new (.inl rfl) 0 D
      refine⟨_,v,H',Y,?_,h3,h4,h5⟩;rw[h2];simpa using m
     .rename_i o g off len E'
      obtain⟨rfl,q,s⟩:=s
      split at s
      .rename_i c g' fz cs ho
       obtain⟨rfl,hfit,hfz,D⟩:=s
       cases hx with
       |msl _ _ _ _ _ b' bs cap hβ hcap hb=>
       obtain⟨U,t,N,hfit1,hCo⟩:=h.cells ho hβ
       have hsrc2:U0 H i.size (.msl o g off len i.size)=some (len,(cs.drop off).take (len*i.size)):=by
        simp[U0,ho,hfit]
       obtain⟨hl2,_,ys,I,hy2⟩:=Ng (P:=P) h (.msl o g off len i.size b' bs cap hβ hcap hb) hsrc2;obtain⟨c1',t',hb',hbfit⟩:=hb;rw[N]at hb';cases hb';obtain⟨ng,hng⟩:=h.fin o;have hxl:=Q.len
       by_cases J:len+n<=cap
       have hbound:bs+off+len*i.size+n*i.size<=U.size:=by
        have:(len+n)*i.size<=cap*i.size:=Nat.mul_le_mul_right _ J;rw[Nat.add_mul]at this;omega
       have hst:=run_storeCells_at (P:=P) b' (bs+(off+len*i.size)) t xs 0 U X.w N zo Q.one;simp only[Nat.add_zero]at hst
       have m:=Lg (P:=P) (ty:=ty) h0 h1 u B (a:=⟨b',bs+off,none⟩) (sLen:=len) (sCap:=cap) (p X.w) J M (by
        rw[Addr.add_lit,Nat.add_assoc];exact hst)
       let F:Array Value:=(U.toList.take (bs+(off+len*i.size))++xs++U.toList.drop (bs+(off+len*i.size)+xs.length)).toArray
       have hg:=Jb h ho hβ N F (by simp[F];omega) (by
        intro j hj;simp only[F];rw[List.getElem?_toArray,List.append_assoc,List.getElem?_append_left zO,List.getElem?_take_of_lt zo]
        simp) c.moved (by cases c<;>simp[Col.moved]) ng (bs+off) (fz-off) ((cs.drop off).take (len*i.size)++xc) (.inr (hng ng (Nat.le_refl _))) zo
        (by simp[F,r];omega) (by
         have e1:(F.toList.drop (bs+off)).take ((cs.drop off).take (len*i.size)++xc).length=((((U.toList.drop bs).take cs.length).drop off).take (len*i.size))++xs:=by
          have e0:((cs.drop off).take (len*i.size)++xc).length=len*i.size+n*i.size:=by simp[r];omega
          rw[e0];have e2:=G7 U.toList xs (bs+off) (len*i.size) (len*i.size+n*i.size) zo zO;simp only[F];rw[show bs+(off+len*i.size)=bs+off+len*i.size by omega];have e3:((U.toList.drop (bs+off)).take (len*i.size+n*i.size)).drop (len*i.size+xs.length)=[]:=List.drop_eq_nil_of_le zO;rw[e2,e3,List.append_nil]
          congr 1
          rw[List.take_take,List.drop_take,List.take_take,List.drop_drop]
          congr 1
          omega
         rw[e1]
         exact((hCo.drop off).take _).append Q)
       refine⟨_,_,_,_,m,hg,?_,D ng⟩;have hb2:=setRow_heap X.w b' U F t (0,0) N
       have:=Rel.msl (X:=Cx.add X o ng b' (bs+off) (X.w.setRow b' F)) o ng 0 (len+n) i.size b' (bs+off) cap (by simp[Cx.add]) J
        ⟨F,t,by simpa[Cx.add]using hb2,by simp[F];omega⟩
       simpa using this
       have m:=Qp (P:=P) (ty:=ty) h0 h1 u B W (base:=some ⟨b',bs+off,none⟩) (sLen:=len) (sCap:=cap) (w:=X.w) p J q L
        (hy2 X.w.drew (λ_ _ h=>zu h))
       have A:=grownCap_ge X.w (len+n) cap e
       obtain⟨v,H',Y,h2,h3,h4,h5⟩:=Pe h o (E:=i.size) (need:=len+n) (I.append Q) (by simp only[List.length_append,hl2,r,Nat.add_mul]) A e (Builtin.zeroCells zc.cells (grownCap X.w (len+n) cap e-(len+n)))
        (by simp[Builtin.zeroCells,G]) c.moved (by cases c<;>simp[Col.moved]) (fz-off) D
       refine⟨_,v,H',Y,?_,h3,h4,h5⟩;rw[h2];simpa using m
      exact s.elim
     exact s.elim
  exact s.elim
 exact s.elim
end
section
variable{P:Program}{X:Cx}{H:Heap}
def V5(n:Nat)(z:List V):List V:=
 match n with
 |0=>[]
 |n+1=>z++V5 n z
theorem G1(z:List V):∀ n,(V5 n z).length=n*z.length
 |0=>by simp[V5]
 |n+1=>by simp[V5,G1 z n,Nat.succ_mul,Nat.add_comm]
def Ju(n:Nat)(z:List Value):List Value:=
 match n with
 |0=>[]
 |n+1=>z++Ju n z
theorem Dq{a:List Value}{z:List V}(h:RelC X a z):∀ n,RelC X (Ju n a) (V5 n z)
 |0=>RelC.nil
 |n+1=>h.append (Dq h n)
theorem Rv(z:List Value):∀ n,(Ju n z).length=n*z.length
 |0=>by simp[Ju]
 |n+1=>by simp[Ju,Rv z n,Nat.succ_mul,Nat.add_comm]
theorem Zoi(z:List Value)(b:0<z.length):∀ (n i:Nat),i<n*z.length->(Ju n z)[i]?=z[i%z.length]?
 |0,i,h=>by grind
 |n+1,i,h=>by
  simp only[Ju]
  by_cases a:i<z.length
  rw[List.getElem?_append_left a,Nat.mod_eq_of_lt a];rw[List.getElem?_append_right zo,Zoi z b n (i-z.length) (by grind)];rw[<- Nat.mod_eq_sub_mod (Nat.le_of_not_lt a)]
theorem Zx5(a:Array Value)(n m:Nat)(c:m=n*a.size):((Array.range m).map λi=>a[i%a.size]!)=(Ju n a.toList).toArray:=by
 subst c
 by_cases b:a.size=0
 have e:n*a.size=0:=by grind
 have d:(Ju n a.toList).length=0:=by rw[Rv];simp[b]
 grind
 apply Array.ext;simp[Rv];intro i e d;simp only[List.getElem_toArray];have f:=Zoi a.toList (by grind) n i (by grind)
 grind
def Tb(P:Program)(H:Heap)(d:Nat)(t:TypeId)(len:Nat)(parts:List (Nat×V))(K:V->Heap->Prop):Prop:=
 match P.underlying t with
 |some (.slice e)=>
  match Yw P e,Uv P e with
  |some E,some z=>
   z.solid=true/\z.cells.length=E/\len*E<=16777216 /\
   match Vk (λi=>some (i*E,E)) (V5 len z.cells) parts with
   |some cs=>∀ g,K (.msl d g 0 len E) (Ya H d (.cells .new g 0 cs))
   |none=>False
  |_,_=>False
 |_=>False
theorem Ii(a:Nat->Option (Nat×Nat)):∀ (parts:List (Nat×V)) (cells l:List V),Vk a cells parts=some l->l.length=cells.length
 |[],cells,l,h=>by simp[Vk]at h;rw[h]
 |(i,v)::r,cells,l,h=>by
  simp only[Vk]at h
  split at h
  grind
  split at h
  rw[Ii a r _ _ h,Qm]
  grind
theorem J2(h:Inv X H)(d:Nat)(e:TypeId){xs:Array Value}{cs:List V}(i:RelC X xs.toList cs)(len cap E:Nat)(a:len<=cap)(b:cap*E<=xs.size){K:V->Heap->Prop}
  (f:∀ g,K (.msl d g 0 len E) (Ya H d (.cells .new g 0 cs))):
  ∃ v H' Y,(newRow e xs).run P X.w=.ok ⟨X.w.heap.size,0,none⟩ Y.w/\Goes X H Y H'/\Rel Y (.slice (some ⟨X.w.heap.size,0,none⟩) len cap) v/\K v H':=by
 obtain⟨Y,g,n,m,l,k,j⟩:=Z0x (P:=P) h d e i (K:=K) (λg=>.msl d g 0 len E) (λY g c _=>by simpa using Rel.ptr d g 0 _ 0 c) f;refine⟨_,_,Y,n,m,?_,j⟩;have:=Rel.msl (X:=Y) d g 0 len E X.w.heap.size 0 cap l a ⟨xs,e,k,zo⟩
 grind
theorem F8(h:Inv X H)(d:Nat){t:TypeId}{len:Nat}{a:List (Nat×V)}{ps:Array (Nat×Value)}{K:V->Heap->Prop}(I:ps.toList.length=a.length)
  (G:∀ i (h1:i<ps.toList.length) (h2:i<a.length),ps.toList[i].1=a[i].1/\Rel X ps.toList[i].2 a[i].2) (j:Tb P H d t len a K):
  ∃ c v H' Y,(Instr.buildSlice t len ps).run P X.w=.ok c Y.w/\Goes X H Y H'/\Rel Y c v/\K v H':=by
 unfold Tb at j
 split at j
 case h_2=>grind
 rename_i e B
 split at j
 case h_2=>grind
 rename_i E z m F;obtain⟨n,u,C,j⟩:=j
 split at j
 case h_2=>grind
 rename_i M b;obtain⟨zx,r,s⟩:=Rc (X:=X) (w:=X.w) F;have k:=s.toC n
 have D:zx.cells.size=E:=by have:=k.len;simp at this;omega
 have o:=Zx5 zx.cells len (len*E) (by grind);obtain⟨y,f,hrel⟩:=Lz (X:=X) (λi=>some (i*E,E)) a ps.toList (V5 len z.cells) (Ju len zx.cells.toList).toArray M I G (by simpa using Dq k len) b
 have A:y.size=len*E:=by
  have:=hrel.len;rw[Ii _ _ _ _ b,G1,u]at this;simpa using this
 obtain⟨v,H',Y,h1,h2,L,J⟩:=J2 (P:=P) h d e hrel len len E (Nat.le_refl _) zo j;refine⟨_,v,H',Y,?_,h2,L,J⟩;have g:¬ (16777216<len*E):=zo
 by_cases q:len*E=0
 have x:(Ju len zx.cells.toList)=[]:=by
  grind
 rw[x]at f;have l:Instr.fill (λi=>some (i*E,E)) #[] ps.toList=some y:=f
 have p:((Array.range (len*E)).map λi=>(#[]:Array Value)[i%(#[]:Array Value).size]!) = #[]:=by rw[q];simp
 rw[q]at p;simp only[Instr.buildSlice,Sem.run_bind,Zk B,Result.andThen_ok,Y0 m,q,p];rw[if_neg zS];simp only[Sem.run_pure,Result.andThen_ok,Sem.run_bind,if_true,p,l,h1];have p:((Array.range (len*E)).map λi=>zx.cells[i%zx.cells.size]!)=(Ju len zx.cells.toList).toArray:=o;simp only[Instr.buildSlice,Sem.run_bind,Zk B,Result.andThen_ok,Y0 m];rw[if_neg (zu g)];rw[if_neg q];simp only[Sem.run_bind,r,Result.andThen_ok,Sem.run_pure,p,f,h1]
def U4(P:Program)(H:Heap)(d:Nat)(t:TypeId)(len cap:V)(K:V->Heap->Prop):Prop:=
 match P.underlying t,len,cap with
 |some (.slice e),.int _ n,.int _ m=>
  match Yw P e,P4 P e,Uv P e with
  |some E,some bytes,some z=>
   z.solid=true/\z.cells.length=E/\0<=n/\n<=m/\m<=4611686018427387904/\bytes*m<=281474976710656 /\
   ∀ g,K (.msl d g 0 n.toNat E) (Ya H d (.cells .new g 0 (V5 m.toNat z.cells)))
  |_,_,_=>False
 |_,_,_=>False
theorem Cq(h:Inv X H)(d:Nat){t:TypeId}{len cap:V}{x y:Value}(W:Rel X x len)(U:Rel X y cap){K:V->Heap->Prop}(g:U4 P H d t len cap K):
  ∃ c v H' Y,(Instr.makeSlice t x y).run P X.w=.ok c Y.w/\Goes X H Y H'/\Rel Y c v/\K v H':=by
 unfold U4 at g
 split at g
 case h_2=>exact g.elim
 rename_i e k1 n k2 m O
 split at g
 case h_2=>exact g.elim
 rename_i E a z f I T;obtain⟨l,S,h0,hnm,Q,F,g⟩:=g;cases W;cases U;obtain⟨zx,C,D⟩:=Rc (X:=X) (w:=X.w) T;have k:=D.toC l
 have j:zx.cells.size=E:=by have:=k.len;simp at this;omega
 have o:=Zx5 zx.cells m.toNat (m.toNat*E) (by rw[j])
 have hC:RelC X ((Ju m.toNat zx.cells.toList).toArray).toList (V5 m.toNat z.cells):=by simpa using Dq k m.toNat
 obtain⟨v,H',Y,B,h2,h3,h4⟩:=J2 (P:=P) h d e hC n.toNat m.toNat E zo (by simp[Rv,j]) g
 cases p:P.info? e with
 |none=>simp[Yw,p]at f
 |some i=>
  have hE:i.size=E:=by simpa[Yw,p]using f
  have R:i.bytes=a:=by simpa[P4,p]using I
  have L:IntKind.i64.wrap n=n:=by unfold IntKind.wrap;simp[IntKind.signed,IntKind.bits];omega
  have M:IntKind.i64.wrap m=m:=by unfold IntKind.wrap;simp[IntKind.signed,IntKind.bits];omega
  refine⟨_,v,H',Y,?_,h2,h3,h4⟩;have u:¬ m<0:=zo;have s:¬ (281474976710656:Int)<(a:Int)*m:=zo;have r:¬ n<0:=zo;have q:¬ m<n:=zo;subst hE
  by_cases b:m.toNat*i.size=0
  have G:(Ju m.toNat zx.cells.toList)=[]:=by
   rw[<- List.length_eq_zero_iff,Rv];simp[j];simpa using b
  rw[G]at B;have J:(newRow e #[]).run P X.w=.ok ⟨X.w.heap.size,0,none⟩ Y.w:=B;have e1:((Array.range 0).map λi=>(#[]:Array Value)[i%(#[]:Array Value).size]!) = #[]:=zS;simp only[Instr.makeSlice,Sem.run_bind,Zk O,Result.andThen_ok,asInt,asIntOf,Sem.run_pure,typeInfo,run_program,p,R,L,M];rw[if_neg (by simp[u,s,r,q])];simp only[Sem.run_pure,Result.andThen_ok,Sem.run_bind,run_askRoom,Y0 f,b,if_true,e1,J];rw[<- o]at B
  have N:¬ (m.toNat=0\/i.size=0):=by
   intro A
   rcases A with A|A<;>simp[A]at b
  simp only[Instr.makeSlice,Sem.run_bind,Zk O,Result.andThen_ok,asInt,asIntOf,Sem.run_pure,typeInfo,run_program,p,R,L,M];rw[if_neg (by simp[u,s,r,q])];simp only[Sem.run_pure,Result.andThen_ok,Sem.run_bind,run_askRoom,Y0 f];rw[if_neg b];simp only[Sem.run_bind,C,Result.andThen_ok,Sem.run_pure,B]
end
end Go.Hs
