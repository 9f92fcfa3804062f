/- A part. No condition. -/
import Derived.Test.YtoahejkahaimnaaGreatDoorP6
set_option linter.all false
namespace Go.Hs
section
variable{P:Program}{X:Cx}{H:Heap}
def Zbd(H:Heap)(E:Nat)(x:V):Option (Nat×List V):=
 match x with
 |.nils=>some (0,[])
 |.slice _ _ E' l=>if E'=E then some (l.length,flat l)else none
 |.msl o g off len E'=>match H o with
  |.cells _ g' _ cs=>if E'=E/\g=g'/\off+len*E<=cs.length then some (len,(cs.drop off).take (len*E))else none
  |_=>none
 |.str s=>if E=1 then some (s.length,s.map λb=>.int .u8 b.toNat)else none
 |_=>none
theorem Zx5{c:Col}{clip:Bool}{E:Nat}{l:List V}{b off len cap:Nat}(h:Rel X (.slice (some ⟨b,off,none⟩) len cap) (.slice c clip E l)):
  ∃ xs:List Value,RelC X xs (flat l)/\∀ i x,xs[i]?=some x->X.w.cell? ⟨b,off+i,none⟩=some x:=by
 cases h with
 |slice0=>exact⟨[],RelC.nil,zS⟩
 |slice _ _ _ _ _ _ _ f hcap hclip hE hc hr=>
 refine⟨(List.range (flat l).length).map f,⟨zS,?_,?_⟩,?_⟩;intro y hy;simp only[List.mem_map,List.mem_range]at hy;obtain⟨i,hi,rfl⟩:=hy;exact(hc i hi).2.2.2;intro i h1 h2;simp only[List.getElem_map,List.getElem_range];exact hr i h2;intro i x hi;rw[List.getElem?_eq_some_iff]at hi;obtain⟨hi,rfl⟩:=hi;simp at hi;simp only[List.getElem_map,List.getElem_range];exact(hc i (zu hi)).2.2.1
theorem Z1g(h:Inv X H){E n:Nat}{x:Value}{v:V}{cs:List V}(hx:Rel X x v)(hs:Zbd H E v=some (n,cs)):
  cs.length=n*E/\(∀ w,(Builtin.lenOf x).run P w=.ok n w) /\
   ∃ xs:List Value,RelC X xs cs/\∀ w,(∀ a y,X.w.cell? a=some y->w.cell? a=some y)->(Builtin.firstCells E n x).run P w=.ok xs.toArray w:=by
 unfold Zbd at hs
 split at hs
 simp at hs;obtain⟨rfl,rfl⟩:=hs;cases hx;exact⟨zS,λ_=>rfl,[],RelC.nil,λ_ _=>rfl⟩;rename_i c clip E' l
 split at hs
 .rename_i e
  subst e;simp at hs;obtain⟨rfl,rfl⟩:=hs;have hR:=hx
  cases hx with
  |slice0 _ _ _ a=>exact⟨by simp[flat],λ_=>rfl,[],RelC.nil,λ_ _=>by simp[Builtin.firstCells,loadCells];rfl⟩
  |slice _ _ _ _ b off cap f hcap hclip hE hc hr=>
   obtain⟨xs,h1,h2⟩:=Zx5 hR;have hlen:=Zsb hE;refine⟨hlen,λ_=>rfl,xs,h1,λw hw=>?_⟩;have hl:=run_loadCells_list (P:=P) w ⟨b,off,none⟩ xs (λj y hj=>by rw[Addr.add_lit];exact hw _ _ (h2 j y hj));rw[h1.len,hlen]at hl;simpa[Builtin.firstCells]using hl
 simp at hs;rename_i o g off len E'
 split at hs
 rename_i c g' fz cs' ho
 split at hs
 .rename_i hc
  obtain⟨rfl,rfl,hfit⟩:=hc;simp at hs;obtain⟨rfl,rfl⟩:=hs
  cases hx with
  |msl _ _ _ _ _ b bs cap hβ hcap hb=>
   obtain⟨c1,t,hb1,hfit1,hC⟩:=h.cells ho hβ;have hlen:((cs'.drop off).take (len*E')).length=len*E':=zO;have hR:RelC X ((((c1.toList.drop bs).take cs'.length).drop off).take (len*E')) ((cs'.drop off).take (len*E')):=(hC.drop off).take _;refine⟨hlen,λ_=>rfl,_,hR,λw hw=>?_⟩
   have hl:=run_loadCells_list (P:=P) w ⟨b,bs+off,none⟩ ((((c1.toList.drop bs).take cs'.length).drop off).take (len*E')) (λj y hj=>by
    rw[Addr.add_lit];refine hw _ _ ?_;rw[Zqh hb1]
    have hjn:j<len*E':=by
     rw[List.getElem?_eq_some_iff]at hj;obtain⟨hj,_⟩:=hj;simp at hj;omega
    rw[Zic hjn,Zic zo]at hj;rw[Nat.add_assoc]
    simpa using hj)
   rw[hR.len,hlen]at hl;simpa[Builtin.firstCells]using hl
 simp at hs;simp at hs;rename_i s
 split at hs
 rename_i e;subst e;simp at hs;obtain⟨rfl,rfl⟩:=hs;obtain⟨q,rfl,rfl⟩:=hx.str_inv;have hsz:q.size=q.data.toList.length:=(Array.length_toList (xs:=q.data)).symm;refine⟨zS,λ_=>by show Result.ok q.size _=_;rw[hsz],(q.data.toList.map λb=>.int .u8 b.toNat),⟨zS,by simp[Value.oneCell'],?_⟩,?_⟩;intro i h1 h2;simp only[List.getElem_map];exact .int _ _;intro w _
 have:(q.extract 0 q.data.toList.length).data.toList=q.data.toList:=by
  rw[Lib.extract_data,List.drop_zero,Nat.sub_zero,List.take_length]
 simp only[Builtin.firstCells,Sem.run_pure]
 congr 1
 apply Array.ext';rw[Array.toList_map,this];simp at hs;simp at hs
def Zhe(bytes need:Nat):Prop:=need*bytes<=140737488355328/\need<=4611686018427387904
instance(b n:Nat):Decidable (Zhe b n):=by unfold Zhe;exact inferInstance
def Zpi(P:Program)(t:TypeId):Option Nat:=(P.info? t).map (·.bytes)
def Col.moved:Col->Col
 |.new=>.new
 |_=>.any
def Z9i(H:Heap)(d E bytes:Nat)(a b:V)(K:V->Heap->Prop):Prop:=
 match Zbd H E b with
 |none=>False
 |some (n,xc)=>
  match a with
  |.nils=>Zhe bytes n/\(n=0->K .nils H)/\(n≠0->∀ g,K (.msl d g 0 n E) (upd H d (.cells .new g 0 xc)))
  |.slice c clip E' l=>E'=E/\Zhe bytes (l.length+n)/\(n=0->K (.slice c clip E l) H) /\
    (n≠0->clip=true/\∀ g,K (.msl d g 0 (l.length+n) E) (upd H d (.cells .new g 0 (flat l++xc))))
  |.msl o g off len E'=>E'=E/\Zhe bytes (len+n) /\
   match H o with
   |.cells c g' fz cs=>g=g'/\off+len*E<=cs.length/\fz<=off+len*E /\
     ∀ g2,K (.msl o g2 0 (len+n) E) (upd H o (.cells c.moved g2 (fz-off) ((cs.drop off).take (len*E)++xc)))
   |_=>False
  |_=>False
def Zil(P:Program)(H:Heap)(d:Nat)(ats:Array TypeId)(a b:V)(K:V->Heap->Prop):Prop:=
 match ats.toList with
 |[t0,t1]=>
  match P.underlying t0,P.underlying t1 with
  |some (.slice _),some (.int _)=>False
  |some (.slice e),some _=>
   match Z9a P e,Zpi P e,Zre P e with
   |some E,some bytes,some z=>z.solid=true/\z.cells.length=E/\Z9i H d E bytes a b K
   |_,_,_=>False
  |_,_=>False
 |_=>False
section
variable{t0 t1 ty e:TypeId}{bt:TypeDesc}{i:TypeInfo}{sLen sCap n:Nat}{y:Value}{w w':World}{xs:Array Value}
theorem Z80(h0:P.underlying t0=some (.slice e))(h1:P.underlying t1=some bt)(hbt:∀ k,bt ≠ .int k)(hi:P.info? e=some i)
  (hn:(Builtin.lenOf y).run P w=.ok 0 w) (hf:(Builtin.firstCells i.size 0 y).run P w=.ok xs w):
  (Builtin.append_ #[t0,t1] ty #[.slice none 0 0,y]).run P w=.ok (.slice none 0 0) w:=by
 have hz:(match bt with|.int _=>true|_=>false:Bool)=false:=by
  cases bt<;>first|rfl|exact absurd rfl (hbt _)
 simp[Builtin.append_,Zd h0,Zd h1,hz,sizeOf,typeInfo,hi,hn,hf]
theorem Z8i(h0:P.underlying t0=some (.slice e))(h1:P.underlying t1=some bt)(hbt:∀ k,bt ≠ .int k)(hi:P.info? e=some i){a:Addr}
  (hn:(Builtin.lenOf y).run P w=.ok n w) (hle:sLen+n<=sCap) (hf:(Builtin.firstCells i.size n y).run P w=.ok xs w)
  (hst:(storeCells (a.add (sLen*i.size)) xs.toList).run P w=.ok () w'):
  (Builtin.append_ #[t0,t1] ty #[.slice (some a) sLen sCap,y]).run P w=.ok (.slice (some a) (sLen+n) sCap) w':=by
 have hz:(match bt with|.int _=>true|_=>false:Bool)=false:=by
  cases bt<;>first|rfl|exact absurd rfl (hbt _)
 simp[Builtin.append_,Zd h0,Zd h1,hz,sizeOf,typeInfo,hi,hn,hf,hle,hst]
theorem Ztf(h0:P.underlying t0=some (.slice e))(h1:P.underlying t1=some bt)(hbt:∀ k,bt ≠ .int k)(hi:P.info? e=some i){z:Value}(hz:i.zero=some z){base:Option Addr}
  {olds:Array Value} (hn:∀ w,(Builtin.lenOf y).run P w=.ok n w) (hle:¬ sLen+n<=sCap) (hroom:Zhe i.bytes (sLen+n))
  (hf:(Builtin.firstCells i.size n y).run P w.drew=.ok xs w.drew) (hfo:(Builtin.firstCells i.size sLen (.slice base sLen sCap)).run P w.drew=.ok olds w.drew):
  (Builtin.append_ #[t0,t1] ty #[.slice base sLen sCap,y]).run P w =
   .ok (.slice (some ⟨w.heap.size,0,none⟩) (sLen+n) (grownCap w (sLen+n) sCap e)) (w.drew.alloc (.cells (olds++xs++Builtin.zeroCells z.cells (grownCap w (sLen+n) sCap e-(sLen+n))) e)):=by
 have hz':(match bt with|.int _=>true|_=>false:Bool)=false:=by
  cases bt<;>first|rfl|exact absurd rfl (hbt _)
 have h63:¬ ((9223372036854775807:Int)<((sLen:Int)+(n:Int))):=by have:=hroom.2;omega
 have h48:¬ (281474976710656<Builtin.nextslicecap (sLen+n) sCap*i.bytes):=by
  have:=growslice_fits (need:=sLen+n) (old:=sCap) (bytes:=i.bytes) zo hroom.1;omega
 simp[Builtin.append_,Zd h0,Zd h1,hz',sizeOf,typeInfo,zeroValue,hi,hz,hn,hle,h63,h48,Question.forced,hf,hfo,newRow,grownCap]
end
theorem Zfg(h:Inv X H)(o:Nat){E need cap:Nat}{xs:List Value}{cs:List V}(hC:RelC X xs cs)(hlen:cs.length=need*E)(hcap:need<=cap)(e:TypeId)(rest:Array Value)(hrest:rest.size=(cap-need)*E)
  (c:Col) (hc:c=.new\/c=.any) (fz:Nat) {K:V->Heap->Prop} (hK:∀ g,K (.msl o g 0 need E) (upd H o (.cells c g fz cs))):
  ∃ v H' Y,Y.w=X.w.drew.alloc (.cells (xs.toArray++rest) e)/\Goes X H Y H'/\Rel Y (.slice (some ⟨X.w.heap.size,0,none⟩) need cap) v/\K v H':=by
 have h':=(Goes.drew h (X.w.drawn+1));obtain⟨n,hn⟩:=h.fin o;have hl:=hC.len
 have hg:=Goes.alloc (X:={ X with w:={ X.w with drawn:=X.w.drawn+1 } }) h'.inv (o:=o) (g:=n) (hn n (Nat.le_refl _)) fz c hc (xs.toArray++rest) e cs zO (by
  rw[Array.toList_append,<- hl,List.take_append_of_le_length zS,List.take_of_length_le zS]
  exact hC.mono h'.le)
 refine⟨.msl o n 0 need E,_,_,?_,h'.trans hg,?_,hK n⟩;rfl
 have:=Rel.msl (X:=Cx.add { X with w:={ X.w with drawn:=X.w.drawn+1 } } o n X.w.heap.size 0 (({ X.w with drawn:=X.w.drawn+1 }:World).alloc (.cells (xs.toArray++rest) e))) o n 0 need E X.w.heap.size 0 cap (by simp[Cx.add]) hcap
  ⟨xs.toArray++rest,e,by show(X.w.heap.push _)[X.w.heap.size]?=_;simp,by
   simp only[Array.size_append,List.size_toArray,hrest,hl,hlen,<- Nat.add_mul];have:need+(cap-need)=cap:=zo
   rw[this];omega⟩
 simpa using this
theorem Z90(h:Inv X H)(d:Nat){ats:Array TypeId}{ty:TypeId}{x y:Value}{a b:V}(hx:Rel X x a)(hy:Rel X y b){K:V->Heap->Prop}(hA:Zil P H d ats a b K):
  ∃ c v H' Y,(Builtin.append_ ats ty #[x,y]).run P X.w=.ok c Y.w/\Goes X H Y H'/\Rel Y c v/\K v H':=by
 unfold Zil at hA
 split at hA
 case h_2=>exact hA.elim
 rename_i t0 t1 hats
 have:ats = #[t0,t1]:=by cases ats;simp at hats;rw[hats]
 subst this
 split at hA
 exact hA.elim
 .rename_i e bt hne h0 h1
  have hbt:∀ k,bt ≠ .int k:=λk e=>hne k e
  split at hA
  .rename_i E bytes z hsz hby hzv
   obtain⟨hsol,hzl,hA⟩:=hA
   cases hi:P.info? e with
   |none=>simp[Z9a,hi]at hsz
   |some i=>
    have hE:i.size=E:=by simpa[Z9a,hi]using hsz
    have hB:i.bytes=bytes:=by simpa[Zpi,hi]using hby
    subst hE;subst hB
    have hz0:∃ zc,i.zero=some zc/\zc.cells.size=i.size:=by
     unfold Zre at hzv;simp only[hi,Option.bind_some]at hzv
     cases hz:i.zero with
     |none=>simp[hz]at hzv
     |some zc=>
      simp only[hz,Option.bind_some]at hzv;have:=((Zrn X hzv).toC hsol).len;exact⟨zc,rfl,by simp at this;omega⟩
    obtain⟨zc,hz,hzs⟩:=hz0;unfold Z9i at hA
    split at hA
    exact hA.elim
    .rename_i n xc hsrc
     obtain⟨hlen,hlenOf,xs,hC,hf⟩:=Z1g (P:=P) h hy hsrc;have hf0:=hf X.w (λ_ _ h=>h);have hf1:=hf X.w.drew (λ_ _ h=>zu h)
     split at hA
     obtain⟨hroom,hK0,hK⟩:=hA;cases hx
     by_cases hn:n=0
     subst hn;exact⟨_,_,H,X,Z80 h0 h1 hbt hi (hlenOf X.w) hf0,Goes.refl h,.nils,hK0 rfl⟩;have hrun:=Ztf (P:=P) (ty:=ty) h0 h1 hbt hi hz (base:=none) (sLen:=0) (sCap:=0) (w:=X.w) (olds := #[]) hlenOf zo (zu hroom) hf1 rfl;simp only[Nat.zero_add,Array.empty_append]at hrun;have hge:=grownCap_ge X.w n 0 e;obtain⟨v,H',Y,h2,h3,h4,h5⟩:=Zfg h d hC hlen hge e (Builtin.zeroCells zc.cells (grownCap X.w n 0 e-n)) (by simp[Builtin.zeroCells,hzs]) .new (.inl rfl) 0 (hK hn);exact⟨_,v,H',Y,by rw[h2];exact hrun,h3,h4,h5⟩
     .rename_i c clip E' l
      obtain⟨rfl,hroom,hK0,hK⟩:=hA;have hR:=hx
      cases hx with
      |slice0 _ _ _ a0=>
       by_cases hn:n=0
       subst hn
       have hx0:xs=[]:=by have:=hC.len;simp[hlen]at this;exact this
       subst hx0;have hrun:=Z8i (P:=P) (ty:=ty) (w':=X.w) h0 h1 hbt hi (a:=a0) (sLen:=0) (sCap:=0) (hlenOf X.w) zo hf0 rfl;exact⟨_,_,H,X,hrun,Goes.refl h,zu hR,hK0 rfl⟩;obtain⟨hcl,hK⟩:=hK hn
       have hold:(Builtin.firstCells i.size 0 (.slice (some a0) 0 0)).run P X.w.drew=.ok #[] X.w.drew:=by simp[Builtin.firstCells,loadCells];rfl
       have hrun:=Ztf (P:=P) (ty:=ty) h0 h1 hbt hi hz (base:=some a0) (sLen:=0) (sCap:=0) (w:=X.w) (olds := #[]) hlenOf zo (zu hroom) hf1 hold;simp only[Nat.zero_add,Array.empty_append]at hrun;have hge:=grownCap_ge X.w n 0 e
       have hK':∀ g,K (.msl d g 0 n i.size) (upd H d (.cells .new g 0 xc)):=by simpa[flat]using hK
       obtain⟨v,H',Y,h2,h3,h4,h5⟩:=Zfg h d hC hlen hge e (Builtin.zeroCells zc.cells (grownCap X.w n 0 e-n)) (by simp[Builtin.zeroCells,hzs]) .new (.inl rfl) 0 hK';exact⟨_,v,H',Y,by rw[h2];exact hrun,h3,h4,h5⟩
      |slice _ _ _ _ b' off cap f hcap hclip hEl hc hr=>
      obtain⟨ys,hy1,hy2⟩:=Zx5 hR;have hfl:=Zsb hEl
      have hold:∀ w:World,(∀ a y,X.w.cell? a=some y->w.cell? a=some y)->(Builtin.firstCells i.size l.length (.slice (some ⟨b',off,none⟩) l.length cap)).run P w=.ok ys.toArray w:=by
       intro w hw;have hl:=run_loadCells_list (P:=P) w ⟨b',off,none⟩ ys (λj y hj=>by rw[Addr.add_lit];exact hw _ _ (hy2 j y hj));rw[hy1.len,hfl]at hl;simpa[Builtin.firstCells]using hl
      by_cases hn:n=0
      subst hn
      have hx0:xs=[]:=by have:=hC.len;simp[hlen]at this;exact this
      subst hx0;have hrun:=Z8i (P:=P) (ty:=ty) (w':=X.w) h0 h1 hbt hi (a:=⟨b',off,none⟩) (sLen:=l.length) (sCap:=cap) (hlenOf X.w) zo hf0 rfl;exact⟨_,_,H,X,hrun,Goes.refl h,zu hR,hK0 rfl⟩;obtain⟨hcl,hK⟩:=hK hn;have hce:=hclip hcl;have hrun:=Ztf (P:=P) (ty:=ty) h0 h1 hbt hi hz (base:=some ⟨b',off,none⟩) (sLen:=l.length) (sCap:=cap) (w:=X.w) hlenOf zo hroom hf1 (hold X.w.drew (λ_ _ h=>zu h));have hge:=grownCap_ge X.w (l.length+n) cap e
      obtain⟨v,H',Y,h2,h3,h4,h5⟩:=Zfg h d (E:=i.size) (need:=l.length+n) (hy1.append hC) (by simp[hfl,hlen,Nat.add_mul]) hge e (Builtin.zeroCells zc.cells (grownCap X.w (l.length+n) cap e-(l.length+n)))
       (by simp[Builtin.zeroCells,hzs]) .new (.inl rfl) 0 hK
      refine⟨_,v,H',Y,?_,h3,h4,h5⟩;rw[h2];simpa using hrun
     .rename_i o g off len E'
      obtain⟨rfl,hroom,hA⟩:=hA
      split at hA
      .rename_i c g' fz cs ho
       obtain⟨rfl,hfit,hfz,hK⟩:=hA
       cases hx with
       |msl _ _ _ _ _ b' bs cap hβ hcap hb=>
       obtain⟨c1,t,hb1,hfit1,hCo⟩:=h.cells ho hβ
       have hsrc2:Zbd H i.size (.msl o g off len i.size)=some (len,(cs.drop off).take (len*i.size)):=by
        simp[Zbd,ho,hfit]
       obtain⟨hl2,_,ys,hy1,hy2⟩:=Z1g (P:=P) h (.msl o g off len i.size b' bs cap hβ hcap hb) hsrc2;obtain⟨c1',t',hb',hbfit⟩:=hb;rw[hb1]at hb';cases hb';obtain⟨ng,hng⟩:=h.fin o;have hxl:=hC.len
       by_cases hle:len+n<=cap
       have hbound:bs+off+len*i.size+n*i.size<=c1.size:=by
        have:(len+n)*i.size<=cap*i.size:=Nat.mul_le_mul_right _ hle;rw[Nat.add_mul]at this;omega
       have hst:=run_storeCells_at (P:=P) b' (bs+(off+len*i.size)) t xs 0 c1 X.w hb1 zo hC.one;simp only[Nat.add_zero]at hst
       have hrun:=Z8i (P:=P) (ty:=ty) h0 h1 hbt hi (a:=⟨b',bs+off,none⟩) (sLen:=len) (sCap:=cap) (hlenOf X.w) hle hf0 (by
        rw[Addr.add_lit,Nat.add_assoc];exact hst)
       let c2:Array Value:=(c1.toList.take (bs+(off+len*i.size))++xs++c1.toList.drop (bs+(off+len*i.size)+xs.length)).toArray
       have hg:=Zml h ho hβ hb1 c2 (by simp[c2];omega) (by
        intro j hj;simp only[c2];rw[List.getElem?_toArray,List.append_assoc,List.getElem?_append_left zO,List.getElem?_take_of_lt zo]
        simp) c.moved (by cases c<;>simp[Col.moved]) ng (bs+off) (fz-off) ((cs.drop off).take (len*i.size)++xc) (.inr (hng ng (Nat.le_refl _))) zo
        (by simp[c2,hlen];omega) (by
         have e1:(c2.toList.drop (bs+off)).take ((cs.drop off).take (len*i.size)++xc).length=((((c1.toList.drop bs).take cs.length).drop off).take (len*i.size))++xs:=by
          have e0:((cs.drop off).take (len*i.size)++xc).length=len*i.size+n*i.size:=by simp[hlen];omega
          rw[e0];have e2:=Zdo c1.toList xs (bs+off) (len*i.size) (len*i.size+n*i.size) zo zO;simp only[c2];rw[show bs+(off+len*i.size)=bs+off+len*i.size by omega];have e3:((c1.toList.drop (bs+off)).take (len*i.size+n*i.size)).drop (len*i.size+xs.length)=[]:=List.drop_eq_nil_of_le zO;rw[e2,e3,List.append_nil]
          congr 1
          rw[List.take_take,List.drop_take,List.take_take,List.drop_drop]
          congr 1
          omega
         rw[e1]
         exact((hCo.drop off).take _).append hC)
       refine⟨_,_,_,_,hrun,hg,?_,hK ng⟩;have hb2:=setRow_heap X.w b' c1 c2 t (0,0) hb1
       have:=Rel.msl (X:=Cx.add X o ng b' (bs+off) (X.w.setRow b' c2)) o ng 0 (len+n) i.size b' (bs+off) cap (by simp[Cx.add]) hle
        ⟨c2,t,by simpa[Cx.add]using hb2,by simp[c2];omega⟩
       simpa using this
       have hrun:=Ztf (P:=P) (ty:=ty) h0 h1 hbt hi hz (base:=some ⟨b',bs+off,none⟩) (sLen:=len) (sCap:=cap) (w:=X.w) hlenOf hle hroom hf1
        (hy2 X.w.drew (λ_ _ h=>zu h))
       have hge:=grownCap_ge X.w (len+n) cap e
       obtain⟨v,H',Y,h2,h3,h4,h5⟩:=Zfg h o (E:=i.size) (need:=len+n) (hy1.append hC) (by simp only[List.length_append,hl2,hlen,Nat.add_mul]) hge e (Builtin.zeroCells zc.cells (grownCap X.w (len+n) cap e-(len+n)))
        (by simp[Builtin.zeroCells,hzs]) c.moved (by cases c<;>simp[Col.moved]) (fz-off) hK
       refine⟨_,v,H',Y,?_,h3,h4,h5⟩;rw[h2];simpa using hrun
      exact hA.elim
     exact hA.elim
  exact hA.elim
 exact hA.elim
end
section
variable{P:Program}{X:Cx}{H:Heap}
def Z7f(n:Nat)(z:List V):List V:=
 match n with
 |0=>[]
 |n+1=>z++Z7f n z
theorem Zqn(z:List V):∀ n,(Z7f n z).length=n*z.length
 |0=>by simp[Z7f]
 |n+1=>by simp[Z7f,Zqn z n,Nat.succ_mul,Nat.add_comm]
def Zv5(n:Nat)(z:List Value):List Value:=
 match n with
 |0=>[]
 |n+1=>z++Zv5 n z
theorem Zcs{zs:List Value}{z:List V}(h:RelC X zs z):∀ n,RelC X (Zv5 n zs) (Z7f n z)
 |0=>RelC.nil
 |n+1=>h.append (Zcs h n)
theorem Zwd(z:List Value):∀ n,(Zv5 n z).length=n*z.length
 |0=>by simp[Zv5]
 |n+1=>by simp[Zv5,Zwd z n,Nat.succ_mul,Nat.add_comm]
theorem Zu5(z:List Value)(hz:0<z.length):∀ (n i:Nat),i<n*z.length->(Zv5 n z)[i]?=z[i%z.length]?
 |0,i,h=>by simp at h
 |n+1,i,h=>by
  simp only[Zv5]
  by_cases hi:i<z.length
  rw[List.getElem?_append_left hi,Nat.mod_eq_of_lt hi];rw[List.getElem?_append_right zo,Zu5 z hz n (i-z.length) (by rw[Nat.succ_mul]at h;omega)];rw[<- Nat.mod_eq_sub_mod (Nat.le_of_not_lt hi)]
theorem Zdoa(zs:Array Value)(n m:Nat)(hm:m=n*zs.size):((Array.range m).map λi=>zs[i%zs.size]!)=(Zv5 n zs.toList).toArray:=by
 subst hm
 by_cases hz:zs.size=0
 apply Array.ext'
 have h1:n*zs.size=0:=by rw[hz];simp
 have h2:(Zv5 n zs.toList).length=0:=by rw[Zwd];simp[hz]
 rw[h1];simp only[List.length_eq_zero_iff]at h2;rw[h2];simp;apply Array.ext;simp[Zwd];intro i h1 h2;simp only[Array.getElem_map,Array.getElem_range,List.getElem_toArray];simp at h1;have h3:=Zu5 zs.toList zO n i (zu h1);have h4:i%zs.size<zs.size:=Nat.mod_lt _ zo;rw[List.getElem?_eq_getElem (zu h2)]at h3;simp only[Array.length_toList]at h3;rw[Array.getElem?_toList,Array.getElem?_eq_getElem h4]at h3;simp at h3;rw[h3];simp[h4]
def Zgd(P:Program)(H:Heap)(d:Nat)(t:TypeId)(len:Nat)(parts:List (Nat×V))(K:V->Heap->Prop):Prop:=
 match P.underlying t with
 |some (.slice e)=>
  match Z9a P e,Zre P e with
  |some E,some z=>
   z.solid=true/\z.cells.length=E/\len*E<=16777216 /\
   match Zsd (λi=>some (i*E,E)) (Z7f len z.cells) parts with
   |some cs=>∀ g,K (.msl d g 0 len E) (upd H d (.cells .new g 0 cs))
   |none=>False
  |_,_=>False
 |_=>False
theorem Zzl(place:Nat->Option (Nat×Nat)):∀ (parts:List (Nat×V)) (cells l:List V),Zsd place cells parts=some l->l.length=cells.length
 |[],cells,l,h=>by simp[Zsd]at h;rw[h]
 |(i,v)::r,cells,l,h=>by
  simp only[Zsd]at h
  split at h
  simp at h
  split at h
  rw[Zzl place r _ _ h,Zjf];simp at h
theorem Zul(h:Inv X H)(d:Nat)(e:TypeId){xs:Array Value}{cs:List V}(hC:RelC X xs.toList cs)(len cap E:Nat)(hle:len<=cap)(hsz:cap*E<=xs.size){K:V->Heap->Prop}
  (hK:∀ g,K (.msl d g 0 len E) (upd H d (.cells .new g 0 cs))):
  ∃ v H' Y,(newRow e xs).run P X.w=.ok ⟨X.w.heap.size,0,none⟩ Y.w/\Goes X H Y H'/\Rel Y (.slice (some ⟨X.w.heap.size,0,none⟩) len cap) v/\K v H':=by
 obtain⟨Y,g,h1,h2,h3,h4,h5⟩:=Zxfa (P:=P) h d e hC (K:=K) (λg=>.msl d g 0 len E) (λY g hb _=>by simpa using Rel.ptr d g 0 _ 0 hb) hK;refine⟨_,_,Y,h1,h2,?_,h5⟩;have:=Rel.msl (X:=Y) d g 0 len E X.w.heap.size 0 cap h3 hle ⟨xs,e,h4,zo⟩;simpa using this
theorem Z4o(h:Inv X H)(d:Nat){t:TypeId}{len:Nat}{parts:List (Nat×V)}{ps:Array (Nat×Value)}{K:V->Heap->Prop}(hl:ps.toList.length=parts.length)
  (hr:∀ i (h1:i<ps.toList.length) (h2:i<parts.length),ps.toList[i].1=parts[i].1/\Rel X ps.toList[i].2 parts[i].2) (hA:Zgd P H d t len parts K):
  ∃ c v H' Y,(Instr.buildSlice t len ps).run P X.w=.ok c Y.w/\Goes X H Y H'/\Rel Y c v/\K v H':=by
 unfold Zgd at hA
 split at hA
 case h_2=>exact hA.elim
 rename_i e hu
 split at hA
 case h_2=>exact hA.elim
 rename_i E z hsz hz;obtain⟨hsol,hzl,hlim,hA⟩:=hA
 split at hA
 case h_2=>exact hA.elim
 rename_i cs hfill;obtain⟨zx,hzx,hzr⟩:=Z0e (X:=X) (w:=X.w) hz;have hzC:=hzr.toC hsol
 have hzs:zx.cells.size=E:=by have:=hzC.len;simp at this;omega
 have hrep:=Zdoa zx.cells len (len*E) (by rw[hzs]);obtain⟨ys,hys,hrel⟩:=Zck (X:=X) (λi=>some (i*E,E)) parts ps.toList (Z7f len z.cells) (Zv5 len zx.cells.toList).toArray cs hl hr (by simpa using Zcs hzC len) hfill
 have hysz:ys.size=len*E:=by
  have:=hrel.len;rw[Zzl _ _ _ _ hfill,Zqn,hzl]at this;simpa using this
 obtain⟨v,H',Y,h1,h2,h3,h4⟩:=Zul (P:=P) h d e hrel len len E (Nat.le_refl _) zo hA;refine⟨_,v,H',Y,?_,h2,h3,h4⟩;have hlim':¬ (16777216<len*E):=zo
 by_cases h0:len*E=0
 have hr0:(Zv5 len zx.cells.toList)=[]:=by
  rw[<- List.length_eq_zero_iff,Zwd];simp[hzs];simpa using h0
 rw[hr0]at hys;have hys':Instr.fill (λi=>some (i*E,E)) #[] ps.toList=some ys:=hys
 have e1:((Array.range (len*E)).map λi=>(#[]:Array Value)[i%(#[]:Array Value).size]!) = #[]:=by rw[h0];simp
 rw[h0]at e1;simp only[Instr.buildSlice,Sem.run_bind,Zd hu,Result.andThen_ok,Zda hsz,h0,e1];rw[if_neg zS];simp only[Sem.run_pure,Result.andThen_ok,Sem.run_bind,if_true,e1,hys',h1];have e1:((Array.range (len*E)).map λi=>zx.cells[i%zx.cells.size]!)=(Zv5 len zx.cells.toList).toArray:=hrep
 have h0':¬ (len=0\/E=0):=by
  intro hh
  rcases hh with rfl|rfl<;>simp at h0
 simp only[Instr.buildSlice,Sem.run_bind,Zd hu,Result.andThen_ok,Zda hsz];rw[if_neg (zu hlim')];rw[if_neg h0];simp only[Sem.run_bind,hzx,Result.andThen_ok,Sem.run_pure,e1,hys,h1]
def Zid(P:Program)(H:Heap)(d:Nat)(t:TypeId)(len cap:V)(K:V->Heap->Prop):Prop:=
 match P.underlying t,len,cap with
 |some (.slice e),.int _ n,.int _ m=>
  match Z9a P e,Zpi P e,Zre P e with
  |some E,some bytes,some z=>
   z.solid=true/\z.cells.length=E/\0<=n/\n<=m/\m<=4611686018427387904/\bytes*m<=281474976710656 /\
   ∀ g,K (.msl d g 0 n.toNat E) (upd H d (.cells .new g 0 (Z7f m.toNat z.cells)))
  |_,_,_=>False
 |_,_,_=>False
theorem Z9p(h:Inv X H)(d:Nat){t:TypeId}{len cap:V}{x y:Value}(hx:Rel X x len)(hy:Rel X y cap){K:V->Heap->Prop}(hA:Zid P H d t len cap K):
  ∃ c v H' Y,(Instr.makeSlice t x y).run P X.w=.ok c Y.w/\Goes X H Y H'/\Rel Y c v/\K v H':=by
 unfold Zid at hA
 split at hA
 case h_2=>exact hA.elim
 rename_i e k1 n k2 m hu
 split at hA
 case h_2=>exact hA.elim
 rename_i E bytes z hsz hby hz;obtain⟨hsol,hzl,h0,hnm,hm62,hroom,hA⟩:=hA;cases hx;cases hy;obtain⟨zx,hzx,hzr⟩:=Z0e (X:=X) (w:=X.w) hz;have hzC:=hzr.toC hsol
 have hzs:zx.cells.size=E:=by have:=hzC.len;simp at this;omega
 have hrep:=Zdoa zx.cells m.toNat (m.toNat*E) (by rw[hzs])
 have hC:RelC X ((Zv5 m.toNat zx.cells.toList).toArray).toList (Z7f m.toNat z.cells):=by simpa using Zcs hzC m.toNat
 obtain⟨v,H',Y,h1,h2,h3,h4⟩:=Zul (P:=P) h d e hC n.toNat m.toNat E zo (by simp[Zwd,hzs]) hA
 cases hi:P.info? e with
 |none=>simp[Z9a,hi]at hsz
 |some i=>
  have hE:i.size=E:=by simpa[Z9a,hi]using hsz
  have hB:i.bytes=bytes:=by simpa[Zpi,hi]using hby
  have wn:IntKind.i64.wrap n=n:=by unfold IntKind.wrap;simp[IntKind.signed,IntKind.bits];omega
  have wm:IntKind.i64.wrap m=m:=by unfold IntKind.wrap;simp[IntKind.signed,IntKind.bits];omega
  refine⟨_,v,H',Y,?_,h2,h3,h4⟩;have hc1:¬ m<0:=zo;have hc2:¬ (281474976710656:Int)<(bytes:Int)*m:=zo;have hc3:¬ n<0:=zo;have hc4:¬ m<n:=zo;subst hE
  by_cases hz0:m.toNat*i.size=0
  have hr0:(Zv5 m.toNat zx.cells.toList)=[]:=by
   rw[<- List.length_eq_zero_iff,Zwd];simp[hzs];simpa using hz0
  rw[hr0]at h1;have h1':(newRow e #[]).run P X.w=.ok ⟨X.w.heap.size,0,none⟩ Y.w:=h1;have e1:((Array.range 0).map λi=>(#[]:Array Value)[i%(#[]:Array Value).size]!) = #[]:=zS;simp only[Instr.makeSlice,Sem.run_bind,Zd hu,Result.andThen_ok,asInt,asIntOf,Sem.run_pure,typeInfo,run_program,hi,hB,wn,wm];rw[if_neg (by simp[hc1,hc2,hc3,hc4])];simp only[Sem.run_pure,Result.andThen_ok,Sem.run_bind,run_askRoom,Zda hsz,hz0,if_true,e1,h1'];rw[<- hrep]at h1
  have hz0':¬ (m.toNat=0\/i.size=0):=by
   intro hh
   rcases hh with hh|hh<;>simp[hh]at hz0
  simp only[Instr.makeSlice,Sem.run_bind,Zd hu,Result.andThen_ok,asInt,asIntOf,Sem.run_pure,typeInfo,run_program,hi,hB,wn,wm];rw[if_neg (by simp[hc1,hc2,hc3,hc4])];simp only[Sem.run_pure,Result.andThen_ok,Sem.run_bind,run_askRoom,Zda hsz];rw[if_neg hz0];simp only[Sem.run_bind,hzx,Result.andThen_ok,Sem.run_pure,h1]
end
end Go.Hs
