/- Part 44 of the proof of a statement of seat YtnjcehngoajnnaaGreatDoor: HsGNumRef6 HsGNumRef7 HsGNumRef8 HsGEvR HsGEvS HsGEvT HsExprGram HsExprPrn HsExprP HsExprBkLaw HsGEvU HsExprNm HsGExprFr HsGExprPa HsGEvF HsGTypR HsGTypK. -/
import Derived.Test.YtnjcehngoajnnaaGreatDoorPart43
import Derived.Test.YtnjcehngoajnnaaGreatDoorPart34
import Derived.Test.YtnjcehngoajnnaaGreatDoorPart39
import Derived.Test.YtnjcehngoajnnaaGreatDoorPart38
import Derived.Test.YtnjcehngoajnnaaGreatDoorPart40
set_option linter.unusedSimpArgs false
set_option linter.unusedVariables false
section
namespace Go.Hs
open Go.Proofs
set_option maxRecDepth 10000
theorem Z9l (k:Nat):Zll k [V.int .i64 0]=(Zsd (List.replicate k 0)).map (V.int .i64):=by
 induction k with
 | zero=>rfl
 | succ k ih=>rw [Zll,ih]<;>rfl
theorem Zzm (k:IntKind) (l:List Int):flat (l.map (V.int k))=l.map (V.int k):=by
 induction l with
 | nil=>rfl
 | cons x r ih =>
  rw [List.map_cons]
  show [V.int k x]++flat (r.map (V.int k))=_
  rw [ih]<;>rfl
theorem Z30 (k:Nat) (la:List Nat):(Zll k [V.int .i64 0]).take (k * 1)++flat ((Zsd la).map (V.int .i64))=flat ((Zsd (List.replicate k 0++la)).map (V.int .i64)):=by
 rw [Z9l,Zzm,Zzm,Zcg,List.map_append,Nat.mul_one,List.take_of_length_le (by simp)]
theorem Zd0:∀ (k:Nat) (l:List Nat),val (List.replicate k 0++l)=10 ^ k * val l
 | 0,l=>by simp
 | k+1,l=>by
  rw [List.replicate_succ,List.cons_append,val,Zd0 k l,Nat.pow_succ,Nat.zero_add,Nat.mul_comm (10 ^ k) 10,Nat.mul_assoc]
theorem dig_rep {k:Nat} {l:List Nat} (h:Dig l):Dig (List.replicate k 0++l):=Dig.app.2 ⟨fun d hd=>by have:=List.eq_of_mem_replicate hd;omega,h⟩
theorem Zep {l:List Nat} {k:Nat} (h:k<l.length):val (l.take (k+1))=val (l.take k)+10 ^ k * l.getD k 0:=by
 rw [List.take_succ_eq_append_getElem h,Z2f,List.length_take,Nat.min_eq_left (by omega),List.getD_eq_getElem?_getD,List.getElem?_eq_getElem h];simp [val]
theorem Zhu (l:List Nat) (k:Nat):val (l.take k)≤val l:=by
 have:val l=val (l.take k)+10 ^ (l.take k).length * val (l.drop k):=by rw [← Z2f,List.take_append_drop]
 omega
theorem Zzu (G:Nat→V) (hG:GOk G) (c1 c2:Col) (n1 n2 b1 b2:Bool) (a b:Nat) (h1:n1=true→dg a=[]) (h2:n2=true→dg b=[]) (ha:a≤10000000000000000000) (hb:b≤10000000000000000000) :
  Spec Tryz.prog G 137 [Z9 c1 n1 (dg a) b1,Z9 c2 n2 (dg b) b2] Zu (fun v _=>∃ nl,v=Z9 .any nl (dg (a * b)) (b1 != b2)∧(nl=true→dg (a * b)=[])):=by
 have hla:=Zrj (n:=a) (k:=20) (by omega);have hlb:=Zrj (n:=b) (k:=20) (by omega);have hab:a * b≤100000000000000000000000000000000000000:=Nat.mul_le_mul ha hb;have s1:=Z5i h1;have s2:=Z5i h2;refine Zo 0 41 [.cell 4 204] Tryz.func137 fun X=>?_;simp only [Z9];refine Z1 ?_;intro g2 g3 g4;refine Z1 ?_;refine Z1 ?_;refine AW.block ?_
 refine Z0a (dg b).length (fun k (nl:Bool)=>st [(2,.ptr 2 g2 0),(3,.ptr 3 g3 0),(4,.ptr 4 g4 0),(5,Zb .any 1 (V.int .i64) (slD nl (dg (a * val ((dg b).take k))))),(6,.int .i64 k)] [(2,.cells .new g2 0 [Zb c1 1 (V.int .i64) (slD n1 (dg a)),.bool b1]),(3,.cells .new g3 0 [Zb c2 1 (V.int .i64) (slD n2 (dg b)),.bool b2]),(4,.cells .new g4 0 [.nils,.bool false])]) (fun k nl=>nl=true→dg (a * val ((dg b).take k))=[]) 0 true (Nat.zero_le _) (fun _=>by simp [val,Z2e])
  (Zg (by simp -implicitDefEqProofs only[go_sem,seval,↓reduceIte];first | rfl | exact ⟨rfl,rfl⟩) zp) ?_
 intro k nl hk hR L2 hL2;refine Z1f (zi s2 @Z1c) ?_;refine Zd rfl (fun h4=>?_) (fun h4=>?_)
 ·have hk1:k<(dg b).length:=by have:=of_decide_eq_true h4;omega
  have gk:=Zoc hk1;have h5:=Zlf (Zbd b) k;have hts:=Zep hk1;have htl:=Zhu (dg b) (k+1);rw [Zhc] at htl;generalize hd:(dg b).getD k 0=d at gk h5 hts;obtain ⟨W,hW⟩:∃ W,W=a * val ((dg b).take k):=⟨_,rfl⟩;rw [← hW] at hR ⊢
  have hWd:W+d * (10 ^ k * a)=a * val ((dg b).take (k+1)):=by rw [hts,hW,Nat.mul_add,Nat.mul_comm (10 ^ k) d,Nat.mul_left_comm a d,Nat.mul_comm a (10 ^ k)]
  have hWl:W+d * (10 ^ k * a)≤a * b:=by rw [hWd];exact Nat.mul_le_mul_left a htl
  refine Z1 ?_;refine AW.block ?_
  refine Z0a d (fun t (nl:Bool)=>st [(2,.ptr 2 g2 0),(3,.ptr 3 g3 0),(4,.ptr 4 g4 0),(5,Zb .any 1 (V.int .i64) (slD nl (dg (W+t * (10 ^ k * a))))),(6,.int .i64 k),(7,.int .i64 t)] [(2,.cells .new g2 0 [Zb c1 1 (V.int .i64) (slD n1 (dg a)),.bool b1]),(3,.cells .new g3 0 [Zb c2 1 (V.int .i64) (slD n2 (dg b)),.bool b2]),(4,.cells .new g4 0 [.nils,.bool false])]) (fun t nl=>nl=true→dg (W+t * (10 ^ k * a))=[]) 0 nl (Nat.zero_le _) (by rw [Nat.zero_mul,Nat.add_zero];exact hR)
   (Zg (zpf @Nat.zero_mul) zp) ?_
  intro t nl2 ht hR2 L6 hL6;refine Z1f (zi s2 gk) ?_;refine Zd rfl (fun h8=>?_) (fun h8=>?_)
  ·have ht1:t<d:=by have:=of_decide_eq_true h8;omega
   refine Z1 ?_;refine ⟨⟨by omega,by omega,by omega⟩,fun g26=>?_⟩;refine Z1f (zi s1 @Z1c) ?_;refine ⟨Zab (by omega) (by omega),by rw [Z9l];simp,by omega,fun g31=>?_⟩;rw [Z30];have hmono:t * (10 ^ k * a)≤d * (10 ^ k * a):=Nat.mul_le_mul_right _ (by omega);have hlen:(dg (W+t * (10 ^ k * a))).length<1000000:=Zqm (by omega);have hrow:=dig_rep (k:=k) (Zbd a)
   have hrl:(List.replicate k 0++dg a).length<1000000:=by simp;omega
   have hrv:=Zd0 k (dg a);rw [Zhc] at hrv
   have hll:k+(dg a).length=(Zsd (List.replicate k 0++dg a)).length:=by simp
   rw [hll];generalize hrw:List.replicate k 0++dg a=row at hrow hrl hrv;refine Zoe (fun o=>o==26) [Zb .any 1 (V.int .i64) (slD nl2 (dg (W+t * (10 ^ k * a)))),Zb .new 1 (V.int .i64) (.mk false (Zsd row))] [(2,.cells .new g2 0 [Zb c1 1 (V.int .i64) (slD n1 (dg a)),.bool b1]),(3,.cells .new g3 0 [Zb c2 1 (V.int .i64) (slD n2 (dg b)),.bool b2]),(4,.cells .new g4 0 [.nils,.bool false])] ⟨Zl _,Zog rfl rfl (fun _=>rfl),trivial⟩ ⟨FzO.keep rfl zp,FzO.keep rfl zp,FzO.keep rfl zp,trivial⟩ ?_;refine Zn hG ?_ (s:=(Zgs G hG _ _ _ _ (dg (W+t * (10 ^ k * a))) row (Z5i hR2) rfl (Zbd _) hrow hlen hrl));rw [Zhc,hrv];refine Zs ?_;refine Z1 ?_
   have hnx:W+t * (10 ^ k * a)+10 ^ k * a=W+(t+1) * (10 ^ k * a):=by rw [Nat.succ_mul];omega
   refine hL6 _ ⟨ht1,decide (dg (W+t * (10 ^ k * a))=[]∧row=[]),fun h=>?_,Zg (by simp -implicitDefEqProofs only[go_sem,seval,↓reduceIte,hnx];exact congrArg _ (w64 (by omega) (by omega))) zp⟩;have h:=of_decide_eq_true h
   have hr0:10 ^ k * a=0:=by rw [← hrv,h.2]<;>rfl
   rw [← hnx,show W+t * (10 ^ k * a)+10 ^ k * a=W+t * (10 ^ k * a) by omega];exact h.1
  ·have ht1:t=d:=by have:=of_decide_eq_false h8;omega
   subst ht1;refine Z1 ?_;rw [hWd] at hR2 ⊢;refine hL2 _ ⟨hk1,nl2,hR2,Zg zw zp⟩
 ·have hk1:k=(dg b).length:=by have:=of_decide_eq_false h4;omega
  rw [hk1,List.take_length,Zhc] at hR ⊢;refine Z0 ?_
  have p1:Zng Tryz.prog G 164 [Zb .any 1 (V.int .i64) (slD nl (dg (a * b)))] (Zb .any 1 (V.int .i64) (slD nl (dg (a * b)))):=⟨by kernel_rfl,by
   refine Zs ?_;refine (Zrg G hG _ nl (dg (a * b)) hR (by have:=Zqm (m:=a * b) (by omega);omega)).mono ?_;rintro _ _ rfl;rw [Zgh _ _ (Nat.le_refl _) (Zbd _),Zhc]
   simp -implicitDefEqProofs only[go_sem,seval,↓reduceIte]⟩
  refine Zv <| Zx ⟨fun i=>if i=1 then Zb .any 1 (V.int .i64) (slD nl (dg (a * b))) else .top,fun _ => .pure⟩ (by kernel_rfl) hG (by kernel_rfl) (by kernel_rfl) ?_
  refine Zs ?_;refine ⟨p1,?_⟩;refine Z ?_;exact ⟨nl,rfl,hR⟩
theorem Zgy (G:Nat→V) (hG:GOk G) (a b:Int) (ha:InK .i64 a) (hb:InK .i64 b):Spec Tryz.prog G 99 [.int .i64 a,.int .i64 b] Zu (fun v _=>v=Zpg (told (a * b))):=by
 have ha':=(Zgb a).1 ha;have hb':=(Zgb b).1 hb;refine Zo 0 14 [.tmp 4,.tmp 5] Tryz.func99 fun X=>?_;refine Z1 ?_;refine Z1 ?_;refine Zn hG ?_ (s:=(Zgd G hG a ha));simp -implicitDefEqProofs only[go_sem,seval,↓reduceIte,Z9];refine Zn hG ?_ (s:=(Zgd G hG b hb));simp -implicitDefEqProofs only[go_sem,seval,↓reduceIte,Z9];refine CallA.pure hG (by kernel_rfl) ?_;refine Zs ?_;rw [← Z9,← Z9];refine (Zzu G hG _ _ _ _ _ _ a.natAbs b.natAbs Zxg Zxg (by omega) (by omega)).mono ?_;rintro _ _ ⟨nl,rfl,hnl⟩
 have hm:sgn (decide (a<0) != decide (b<0)) (a.natAbs * b.natAbs)=a * b:=by
  rw [← Int.natAbs_mul];unfold sgn
  by_cases h4:a<0<;>by_cases h5:b<0<;>simp only [h4,h5,decide_true,decide_false,bne_self_eq_false,Zfn,Zgn,if_true,Bool.false_eq_true,if_false]
  ·have:=Int.mul_pos_of_neg_of_neg h4 h5;omega
  ·have:=Int.mul_nonpos_of_nonpos_of_nonneg (Int.le_of_lt h4) (Int.not_lt.1 h5);omega
  ·have:=Int.mul_nonpos_of_nonneg_of_nonpos (Int.not_lt.1 h4) (Int.le_of_lt h5);omega
  ·have:=Int.mul_nonneg (Int.not_lt.1 h4) (Int.not_lt.1 h5);omega
 have hlen:(dg (a.natAbs * b.natAbs)).length<1000000:=Zqm (by have:a.natAbs * b.natAbs≤10000000000000000000 * 10000000000000000000:=Nat.mul_le_mul (by omega) (by omega);omega);simp -implicitDefEqProofs only[go_sem,seval,↓reduceIte,Z9];refine CallA.pure hG (by kernel_rfl) ?_;refine Zs ?_;rw [← Z9];refine (Zle G hG _ _ _ _ hnl (Zbd _) hlen).mono ?_;rintro _ _ rfl;rw [Zhc,hm];simp -implicitDefEqProofs only[go_sem,seval,↓reduceIte,Zpg];exact Zr
end Go.Hs
end

section
namespace Go.Hs
open Go.Proofs
set_option maxRecDepth 10000
structure PartI (a b:Nat) (l:List Nat) (k:Nat) (q:List Nat) (rest:Nat):Prop where
 len:q.length=l.length
 dig:Dig q
 zero:∀ j,j<l.length-k→q.getD j 0=0
 v:val (q.drop (l.length-k)) * b+rest=val (l.drop (l.length-k))
 lt:rest<b
theorem Zvz {a b:Nat} {l:List Nat} (hb:0<b):PartI a b l 0 (List.replicate l.length 0) 0:=by
 refine ⟨by simp,fun d hd=>by have:=List.eq_of_mem_replicate hd;omega,fun j hj=>by rw [List.getD_eq_getElem?_getD,List.getElem?_replicate];split<;>rfl,?_,hb⟩;rw [List.drop_eq_nil_of_le (by simp),List.drop_eq_nil_of_le (by omega)];simp [val]
theorem PartI.step {a b:Nat} {l:List Nat} {k:Nat} {q:List Nat} {rest:Nat} (h:PartI a b l k q rest) (hk:k<l.length) {t r:Nat} (ht:r+t * b=l.getD (l.length-1-k) 0+10 * rest) (hr:r<b) (hd:Dig l) :
  PartI a b l (k+1) (q.set (l.length-1-k) t) r:=by
 have hi:l.length-(k+1)=l.length-1-k:=by omega
 have hi2:l.length-k=l.length-1-k+1:=by omega
 have h9:=Zlf hd (l.length-1-k)
 have ht10:t<10:=by
  have h1:=h.lt
  rcases Nat.lt_or_ge t 10 with h2 | h2
  ·exact h2
  ·have:10 * b≤t * b:=Nat.mul_le_mul_right b h2
   omega
 refine ⟨by simp [h.len],?_,?_,?_,hr⟩
 ·intro d hd'
  rcases List.mem_or_eq_of_mem_set hd' with h1 | h1
  ·exact h.dig d h1
  ·omega
 ·intro j hj
  have:=h.zero j (by omega);rw [List.getD_eq_getElem?_getD,List.getElem?_set_ne (by omega),← List.getD_eq_getElem?_getD];exact this
 ·have hv:=h.v
  rw [hi2] at hv;rw [hi,Zaf (q.set _ t),Zaf l (l.length-1-k)]
  have e1:(q.set (l.length-1-k) t).getD (l.length-1-k) 0=t:=by
   rw [List.getD_eq_getElem?_getD,List.getElem?_set_self (by rw [h.len];omega)]
   try rfl
  have e2:(q.set (l.length-1-k) t).drop (l.length-1-k+1)=q.drop (l.length-1-k+1):=by
   rw [List.drop_set_of_lt (by omega)]
  rw [e1,e2,← hv,Nat.add_mul,Nat.mul_assoc];generalize val (q.drop (l.length-1-k+1)) * b=z at *;omega
theorem PartI.done {a b:Nat} {q:List Nat} {rest:Nat} (h:PartI a b (dg a) (dg a).length q rest):val q=a / b∧rest=a % b:=by
 have hv:=h.v;rw [Nat.sub_self,List.drop_zero,List.drop_zero,Zhc] at hv;have hlt:=h.lt
 have hdm:(val q * b+rest) / b=val q:=by
  rw [Nat.add_comm,Nat.add_mul_div_right _ _ (by omega),Nat.div_eq_of_lt hlt,Nat.zero_add]
 have hmm:(val q * b+rest) % b=rest:=by
  rw [Nat.add_comm,Nat.add_mul_mod_self_right,Nat.mod_eq_of_lt hlt]
 rw [hv] at hdm hmm;exact ⟨hdm.symm,hmm.symm⟩
theorem Zfm (G:Nat→V) (hG:GOk G) (c1 c2:Col) (n1 n2:Bool) (a b:Nat) (h1:n1=true→dg a=[]) (h2:n2=true→dg b=[]) (ha:a≤10000000000000000000) (hb:b≤10000000000000000000) (hb0:0<b) :
  Spec Tryz.prog G 138 [Zb c1 1 (V.int .i64) (slD n1 (dg a)),Zb c2 1 (V.int .i64) (slD n2 (dg b))] Zu (fun v _=>∃ nr,v = .tuple [Zb .any 1 (V.int .i64) (slD false (dg (a / b))),Zb .any 1 (V.int .i64) (slD nr (dg (a % b)))]∧(nr=true→dg (a % b)=[])):=by
 have hla:=Zrj (n:=a) (k:=20) (by omega);have hlb:=Zrj (n:=b) (k:=20) (by omega);have s1:=Z5i h1;have s2:=Z5i h2;refine Zo 0 45 [.tmp 4,.tmp 5] Tryz.func138 fun X=>?_;refine Z1 ?_;refine Z1f (zi s1 @Z1c) ?_;refine ⟨⟨by omega,by omega,by omega⟩,fun g12=>?_⟩;rw [Z9l];refine Z1 ?_;refine Z1f (zi s1 @Z1c) ?_;refine AW.block ?_
 refine Z0a (dg a).length (fun k (x:(Nat × Bool) × List Nat × Nat)=>st [(0,Zb c1 1 (V.int .i64) (slD n1 (dg a))),(1,Zb c2 1 (V.int .i64) (slD n2 (dg b))),(6,.msl 12 x.1.1 0 (dg a).length 1),(7,Zb .any 1 (V.int .i64) (slD x.1.2 (dg x.2.2))),(8,.int .i64 (((dg a).length:Int)-1-k))] [(12,.cells .new x.1.1 0 ((Zsd x.2.1).map (V.int .i64)))])
  (fun k x=>PartI a b (dg a) k x.2.1 x.2.2∧(x.1.2=true→dg x.2.2=[])) 0 ((g12,true),List.replicate (dg a).length 0,0) (Nat.zero_le _) ⟨Zvz hb0,fun _=>rfl⟩
  (Zg (by simp -implicitDefEqProofs only[go_sem,seval,↓reduceIte];exact ⟨rfl,congrArg _ (by rw [w64 (by omega) (by omega)];omega)⟩) zp) ?_
 rintro k ⟨⟨gq,nr⟩,q,rest⟩ hk ⟨hI,hnr⟩ L2 hL2;have hI:PartI a b (dg a) k q rest:=hI;have hnr:nr=true→dg rest=[]:=hnr;have hql:=hI.len;have hrl:=hI.lt;refine Z1 ?_;refine Zd rfl (fun h4=>?_) (fun h4=>?_)
 ·have hk1:k<(dg a).length:=by have:=of_decide_eq_true h4;omega
  refine Z0 ?_;obtain ⟨i,hi⟩:∃ i,i=(dg a).length-1-k:=⟨_,rfl⟩
  have e0:(((dg a).length:Int)-1-k)=(i:Int):=by omega
  have gi:=Zoc (l:=dg a) (k:=i) (by omega);have h5:=Zlf (Zbd a) i;have hstep:=fun t r=>hI.step hk1 (t:=t) (r:=r);rw [← hi] at hstep;rw [e0];generalize hd:(dg a).getD i 0=d at gi h5 hstep;refine Z1f (zi s1 gi) ?_;intro g24;have s3:=Z5i hnr;have hrd:=Zrj (n:=rest) (k:=20) (by omega);refine Z1f (zi s3 @Z1c) ?_;refine ⟨Zab (by omega) (by omega),fun g27=>?_⟩;rw [show V.int .i64 (d:Int)::flat ((Zsd (dg rest)).map (V.int .i64))=flat ((Zsd (d::dg rest)).map (V.int .i64)) from rfl,show 1+(dg rest).length=(Zsd (d::dg rest)).length by simp;omega];refine Zoe (fun o=>o==24) [Zb .new 1 (V.int .i64) (.mk false (Zsd (d::dg rest)))] [(12,.cells .new gq 0 ((Zsd q).map (V.int .i64)))] ⟨Zog rfl rfl (fun _=>rfl),trivial⟩ ⟨FzO.keep rfl zp,trivial⟩ ?_;refine Zn hG ?_ (s:=(Zrg G hG _ false (d::dg rest) (by simp) (by simp;omega)));rw [Zgh _ _ (Nat.le_refl _) (by intro x hx;rcases List.mem_cons.1 hx with rfl | hx;exact h5;exact Zbd _ x hx),val,Zhc];refine Zs ?_
  have hqi:i<q.length:=by omega
  have hq0:q.set i 0=q:=by
   have h0:=hI.zero i (by omega);rw [List.getD_eq_getElem?_getD,List.getElem?_eq_getElem hqi] at h0;have h0:q[i]=0:=h0
   conv=>rhs;rw [← List.set_getElem_self hqi,h0]
  refine AW.block ?_
  refine Zig (fun (x:(Nat × Bool) × Nat × Nat)=>st [(0,Zb c1 1 (V.int .i64) (slD n1 (dg a))),(1,Zb c2 1 (V.int .i64) (slD n2 (dg b))),(6,.msl 12 x.1.1 0 (dg a).length 1),(7,Zb .any 1 (V.int .i64) (slD x.1.2 (dg x.2.2))),(8,.int .i64 i)] [(12,.cells .new x.1.1 0 ((Zsd (q.set i x.2.1)).map (V.int .i64)))])
   (fun x=>x.2.2+x.2.1 * b=d+10 * rest∧(x.1.2=true→dg x.2.2=[])) (fun x=>x.2.2) ((gq,false),0,d+10 * rest) ⟨by show d+10 * rest+0 * b=_;omega,by simp⟩
   (Zg zp (zpf hq0)) ?_
  rintro ⟨⟨gq2,nr2⟩,t,r⟩ ⟨ht,hnr2⟩ L6 hL6;have ht:r+t * b=d+10 * rest:=ht;have hnr2:nr2=true→dg r=[]:=hnr2;have hrr:=Zrj (n:=r) (k:=21) (by omega);refine Z1 ?_;refine Zc hG ?_ (s:=(Zoo G hG _ _ _ _ r b (Z5i hnr2) s2 (by omega) (by omega)));refine Zd rfl (fun h7=>?_) (fun h7=>?_)
  ·have h7':b≤r:=by simpa using h7
   refine Z1 ?_;refine CallA.pure hG (by kernel_rfl) ((Z0l G hG _ _ _ _ r b hnr2 h2 (by omega) h7').2.mono ?_);rintro v _ hv;rw [hv];refine Zs ?_
   have gc:((Zsd (q.set i t)).map (V.int .i64))[i]? = some (V.int .i64 (t:Int)):=by
    rw [List.getElem?_map,Zrl,List.getElem?_set_self hqi]
    try rfl
   have hil:(i:Int)<((dg a).length:Int):=by omega
   have hcl:i+1≤((Zsd (q.set i t)).map (V.int .i64)).length:=by simp;omega
   have ht9:t<10:=by
    rcases Nat.lt_or_ge t 10 with h | h
    ·exact h
    ·have:10 * b≤t * b:=Nat.mul_le_mul_right b h
     omega
   have hw:IntKind.i64.wrap ((t:Int)+1)=((t+1:Nat):Int):=by rw [w64 (by omega) (by omega)];omega
   have hset:((Zsd (q.set i t)).map (V.int .i64)).set i (V.int .i64 ((t+1:Nat):Int))=(Zsd (q.set i (t+1))).map (V.int .i64):=by
    rw [Zsd,Zsd,List.map_map,List.map_map,List.map_set,List.map_set,List.set_set]
    try rfl
   refine Z1f (zi gc (zi hil (zi @Nat.mul_one (zi hcl (zi hw hset))))) ?_;refine hL6 _ ⟨((gq2,decide (dg r=[])),t+1,r-b),by show r-b<r;omega,⟨?_,?_⟩,Zg zp zp⟩
   ·show r-b+(t+1) * b=d+10 * rest
    rw [Nat.succ_mul];omega
   ·intro h
    have h:=of_decide_eq_true h;rw [Z9y] at h;omega
  ·have h7':r<b:=by simpa using h7
   refine Z1 ?_;refine hL2 _ ⟨hk1,((gq2,nr2),q.set i t,r),⟨hstep t r ht h7' (Zbd a),hnr2⟩,Zg (by simp -implicitDefEqProofs only[go_sem,seval,↓reduceIte];exact congrArg _ (by rw [w64 (by omega) (by omega)];omega)) zp⟩
 ·have hk1:k=(dg a).length:=by have:=of_decide_eq_false h4;omega
  subst hk1;obtain ⟨hq1,hr1⟩:=hI.done;have hqd:=hI.dig;subst hr1;refine Z1 ?_;rw [show (dg a).length=(Zsd q).length by simp [hql]];refine Zoe (fun o=>o==12) [Zb .new 1 (V.int .i64) (.mk false (Zsd q))] [] ⟨Zog (fz:=0) (c := .new) (f:=V.int .i64) rfl (zpf @Zzm) (fun _=>rfl),trivial⟩ trivial ?_;refine Zn hG ?_ (s:=(Zrg G hG _ false q (by simp) (by omega)));rw [Zgh _ _ (Nat.le_refl _) hqd,hq1];refine Zs ?_;refine Z ?_;exact ⟨nr,rfl,hnr⟩
end Go.Hs
end

section
namespace Go.Hs
open Go.Proofs
set_option maxRecDepth 10000
theorem Zjy (G:Nat→V) (hG:GOk G) (a b:Int) (ha:InK .i64 a) (hb:InK .i64 b):Spec Tryz.prog G 100 [.int .i64 a,.int .i64 b] Zu (fun v _=>v=Zpg (Zs3 a b)):=by
 have ha':=(Zgb a).1 ha;have hb':=(Zgb b).1 hb;refine Zo 0 30 [.tmp 4,.tmp 5] Tryz.func100 fun X=>?_;refine Z1 ?_;refine Z1 ?_;refine Zd rfl (fun h2=>?_) (fun h2=>?_)
 ·have h3:b=0:=by simpa using h2
  refine Z ?_;rw [Zs3,if_pos h3]
  try rfl
 ·have h3:¬ b=0:=by simpa using h2
  refine Z1 ?_;refine Zn hG ?_ (s:=(Zgd G hG a ha));simp -implicitDefEqProofs only[go_sem,seval,↓reduceIte,Z9];refine Zn hG ?_ (s:=(Zgd G hG b hb));simp -implicitDefEqProofs only[go_sem,seval,↓reduceIte,Z9];refine CallA.pure hG (by kernel_rfl) ?_;refine Zs ?_;refine (Zfm G hG _ _ _ _ a.natAbs b.natAbs Zxg Zxg (by omega) (by omega) (by omega)).mono ?_;rintro _ _ ⟨nr,rfl,hnr⟩;refine Zs ?_;refine Z1 ?_;have hq:a.natAbs / b.natAbs≤a.natAbs:=Nat.div_le_self _ _;refine CallA.pure hG (by kernel_rfl) ?_;refine Zs ?_;rw [← Z9];refine (Zle G hG _ _ _ _ (show false=true→dg (a.natAbs / b.natAbs)=[] from fun h=>by cases h) (Zbd _) (Zqm (m:=a.natAbs / b.natAbs) (by omega))).mono ?_;rintro _ _ rfl
  have hm:sgn (decide (a<0) != decide (b<0)) (a.natAbs / b.natAbs)=a.tdiv b:=by rw [Zil]<;>rfl
  rw [Zhc,hm];simp -implicitDefEqProofs only[go_sem,seval,↓reduceIte,Zpg];refine Z ?_;rw [Zs3,if_neg h3]
  try rfl
theorem Zhy (G:Nat→V) (hG:GOk G) (a b:Int) (ha:InK .i64 a) (hb:InK .i64 b):Spec Tryz.prog G 101 [.int .i64 a,.int .i64 b] Zu (fun v _=>v=Zpg (Zp3 a b)):=by
 have ha':=(Zgb a).1 ha;have hb':=(Zgb b).1 hb;refine Zo 0 27 [.tmp 4,.tmp 5] Tryz.func101 fun X=>?_;refine Z1 ?_;refine Z1 ?_;refine Zd rfl (fun h2=>?_) (fun h2=>?_)
 ·have h3:b=0:=by simpa using h2
  refine Z ?_;rw [Zp3,if_pos h3]
  try rfl
 ·have h3:¬ b=0:=by simpa using h2
  refine Z1 ?_;refine Zn hG ?_ (s:=(Zgd G hG a ha));simp -implicitDefEqProofs only[go_sem,seval,↓reduceIte,Z9];refine Zn hG ?_ (s:=(Zgd G hG b hb));simp -implicitDefEqProofs only[go_sem,seval,↓reduceIte,Z9];refine CallA.pure hG (by kernel_rfl) ?_;refine Zs ?_;refine (Zfm G hG _ _ _ _ a.natAbs b.natAbs Zxg Zxg (by omega) (by omega) (by omega)).mono ?_;rintro _ _ ⟨nr,rfl,hnr⟩;refine Zs ?_;refine Z1 ?_;have hq:a.natAbs % b.natAbs≤a.natAbs:=Nat.mod_le _ _;refine CallA.pure hG (by kernel_rfl) ?_;refine Zs ?_;rw [← Z9];refine (Zle G hG _ _ _ _ hnr (Zbd _) (Zqm (m:=a.natAbs % b.natAbs) (by omega))).mono ?_;rintro _ _ rfl
  have hm:sgn (decide (a<0)) (a.natAbs % b.natAbs)=a.tmod b:=by rw [Zhp]<;>rfl
  rw [Zhc,hm];simp -implicitDefEqProofs only[go_sem,seval,↓reduceIte,Zpg];refine Z ?_;rw [Zp3,if_neg h3]
  try rfl
end Go.Hs
end

section
namespace Go.Hs
open Go.Proofs
set_option maxRecDepth 10000
set_option maxHeartbeats 1000000
def Z5p (r:EV):V := .tuple [.int .i64 r.nm,.int .i64 r.er]
def Zxh (r:EV):V := .tuple [.bool r.tr,.int .i64 r.er]
theorem Z6b (G:Nat→V) (n e:Int):Spec Tryz.prog G 70 [.int .i64 n,.int .i64 e] Zu (fun v _=>v=Zpa (.ofR (n,e))):=by
 refine Zo 0 12 [.cell 4 43,.tmp 5] Tryz.func70 fun X=>?_
 by_cases h:e=0
 ·subst h
  refine Z1 ?_;intro g4;exact Zr
 ·have h1:(e != 0)=true:=by simpa using h
  have h2:EV.ofR (n,e) = .err e:=if_neg h;refine Z1 ?_;intro g4;refine Zf h1 ?_;rw [h2]
  try rfl
theorem Zla (G:Nat→V) (b:Bool) (e:Int):Spec Tryz.prog G 71 [.bool b,.int .i64 e] Zu (fun v _=>v=Zpa (if e=0 then .tru b else .err e)):=by
 refine Zo 0 12 [.cell 4 43,.tmp 5] Tryz.func71 fun X=>?_
 by_cases h:e=0
 ·subst h
  refine Z1 ?_;intro g4;exact Zr
 ·have h1:(e != 0)=true:=by simpa using h
  rw [if_neg h];refine Z1 ?_;intro g4;exact Zq h1
def Zfc (c1 c2:Col) (sl:Sl XN) (env:Sl (List UInt8 × Int)):V := .agg [Zb c1 6 Zw sl,Zb c2 2 Zea env]
def RC (G:Nat→V) (sl:Sl XN) (env:Sl (List UInt8 × Int)) (a:Int) (x:EV):Prop:=∀ c1 c2,Spec Tryz.prog G 46 [Zfc c1 c2 sl env,.int .i64 a] Zu (fun v _=>v=Zpa x)
theorem Zqc {x:EV} (h:x.fine) {e:Int} (hx:x = .err e):e≠0:=by
 subst hx
 rcases h with h | h | h<;>omega
theorem Zol (G:Nat→V) (hG:GOk G) (c1 c2:Col) (sl:Sl XN) (env:Sl (List UInt8 × Int)) (a:Int) (x:EV) (h:RC G sl env a x) (hf:x.fine):Spec Tryz.prog G 47 [Zfc c1 c2 sl env,.int .i64 a] Zu (fun v _=>v=Z5p (x.need 1)):=by
 refine Zo 0 24 [.tmp 4,.tmp 5] Tryz.func47 fun X=>?_;refine Z4 (by kernel_rfl) ?_;simp -implicitDefEqProofs only[go_sem,seval,↓reduceIte,Zfc];intro g2;refine Z4 (by kernel_rfl) ?_;simp -implicitDefEqProofs only[go_sem,seval,↓reduceIte,Zfc];refine CallA.pure hG (by kernel_rfl) ?_;simp -implicitDefEqProofs only[go_sem,seval,↓reduceIte,Za,Zfc];refine (h c1.ent c2.ent).mono ?_;rintro _ _ rfl;simp -implicitDefEqProofs only[go_sem,seval,↓reduceIte,Zpa,Zka];intro g6
 cases x with
 | err e =>
  have he:(e==0)=false:=by simpa using Zqc hf rfl
  repeat first
   | (refine Z4 (by kernel_rfl) ?_;simp -implicitDefEqProofs only[go_sem,seval,↓reduceIte,he,EV.er,EV.nm,EV.kind])
   | (refine AW.region (by kernel_rfl) ?_;simp -implicitDefEqProofs only[go_sem,seval,↓reduceIte,he,EV.er,EV.nm,EV.kind])
   | refine Zv ?_
   | refine AW.block ?_
   | refine Zfa rfl ?_
   | refine Z8 rfl ?_
   | (refine AW.skip ?_;simp -implicitDefEqProofs only[go_sem,seval,↓reduceIte,he,EV.er,EV.nm,EV.kind])
   | (refine AW.exit ?_;simp -implicitDefEqProofs only[go_sem,seval,↓reduceIte,he,EV.er,EV.nm,EV.kind])
   | (refine AW.ret ?_;simp -implicitDefEqProofs only[go_sem,seval,↓reduceIte,he,EV.er,EV.nm,EV.kind];refine Zk ?_)
  rfl
 | num n =>
  repeat first
   | (refine Z4 (by kernel_rfl) ?_;simp -implicitDefEqProofs only[go_sem,seval,↓reduceIte,EV.er,EV.nm,EV.kind])
   | (refine AW.region (by kernel_rfl) ?_;simp -implicitDefEqProofs only[go_sem,seval,↓reduceIte,EV.er,EV.nm,EV.kind])
   | refine Zv ?_
   | refine AW.block ?_
   | refine Zfa rfl ?_
   | refine Z8 rfl ?_
   | (refine AW.skip ?_;simp -implicitDefEqProofs only[go_sem,seval,↓reduceIte,EV.er,EV.nm,EV.kind])
   | (refine AW.exit ?_;simp -implicitDefEqProofs only[go_sem,seval,↓reduceIte,EV.er,EV.nm,EV.kind])
   | (refine AW.ret ?_;simp -implicitDefEqProofs only[go_sem,seval,↓reduceIte,EV.er,EV.nm,EV.kind];refine Zk ?_)
  rfl
 | tru b =>
  repeat first
   | (refine Z4 (by kernel_rfl) ?_;simp -implicitDefEqProofs only[go_sem,seval,↓reduceIte,EV.er,EV.nm,EV.kind])
   | (refine AW.region (by kernel_rfl) ?_;simp -implicitDefEqProofs only[go_sem,seval,↓reduceIte,EV.er,EV.nm,EV.kind])
   | refine Zv ?_
   | refine AW.block ?_
   | refine Zfa rfl ?_
   | refine Z8 rfl ?_
   | (refine AW.skip ?_;simp -implicitDefEqProofs only[go_sem,seval,↓reduceIte,EV.er,EV.nm,EV.kind])
   | (refine AW.exit ?_;simp -implicitDefEqProofs only[go_sem,seval,↓reduceIte,EV.er,EV.nm,EV.kind])
   | (refine AW.ret ?_;simp -implicitDefEqProofs only[go_sem,seval,↓reduceIte,EV.er,EV.nm,EV.kind];refine Zk ?_)
  rfl
theorem Z3f (G:Nat→V) (hG:GOk G) (c1 c2:Col) (sl:Sl XN) (env:Sl (List UInt8 × Int)) (a:Int) (x:EV) (h:RC G sl env a x) (hf:x.fine):Spec Tryz.prog G 48 [Zfc c1 c2 sl env,.int .i64 a] Zu (fun v _=>v=Zxh (x.need 2)):=by
 refine Zo 0 24 [.tmp 4,.tmp 5] Tryz.func48 fun X=>?_;refine Z4 (by kernel_rfl) ?_;simp -implicitDefEqProofs only[go_sem,seval,↓reduceIte,Zfc];intro g2;refine Z4 (by kernel_rfl) ?_;simp -implicitDefEqProofs only[go_sem,seval,↓reduceIte,Zfc];refine CallA.pure hG (by kernel_rfl) ?_;simp -implicitDefEqProofs only[go_sem,seval,↓reduceIte,Za,Zfc];refine (h c1.ent c2.ent).mono ?_;rintro _ _ rfl;simp -implicitDefEqProofs only[go_sem,seval,↓reduceIte,Zpa,Zka];intro g6
 cases x with
 | err e =>
  have he:(e==0)=false:=by simpa using Zqc hf rfl
  repeat first
   | (refine Z4 (by kernel_rfl) ?_;simp -implicitDefEqProofs only[go_sem,seval,↓reduceIte,he,EV.er,EV.nm,EV.kind])
   | (refine AW.region (by kernel_rfl) ?_;simp -implicitDefEqProofs only[go_sem,seval,↓reduceIte,he,EV.er,EV.nm,EV.kind])
   | refine Zv ?_
   | refine AW.block ?_
   | refine Zfa rfl ?_
   | refine Z8 rfl ?_
   | (refine AW.skip ?_;simp -implicitDefEqProofs only[go_sem,seval,↓reduceIte,he,EV.er,EV.nm,EV.kind])
   | (refine AW.exit ?_;simp -implicitDefEqProofs only[go_sem,seval,↓reduceIte,he,EV.er,EV.nm,EV.kind])
   | (refine AW.ret ?_;simp -implicitDefEqProofs only[go_sem,seval,↓reduceIte,he,EV.er,EV.nm,EV.kind];refine Zk ?_)
  rfl
 | num n =>
  repeat first
   | (refine Z4 (by kernel_rfl) ?_;simp -implicitDefEqProofs only[go_sem,seval,↓reduceIte,EV.er,EV.nm,EV.kind])
   | (refine AW.region (by kernel_rfl) ?_;simp -implicitDefEqProofs only[go_sem,seval,↓reduceIte,EV.er,EV.nm,EV.kind])
   | refine Zv ?_
   | refine AW.block ?_
   | refine Zfa rfl ?_
   | refine Z8 rfl ?_
   | (refine AW.skip ?_;simp -implicitDefEqProofs only[go_sem,seval,↓reduceIte,EV.er,EV.nm,EV.kind])
   | (refine AW.exit ?_;simp -implicitDefEqProofs only[go_sem,seval,↓reduceIte,EV.er,EV.nm,EV.kind])
   | (refine AW.ret ?_;simp -implicitDefEqProofs only[go_sem,seval,↓reduceIte,EV.er,EV.nm,EV.kind];refine Zk ?_)
  rfl
 | tru b =>
  repeat first
   | (refine Z4 (by kernel_rfl) ?_;simp -implicitDefEqProofs only[go_sem,seval,↓reduceIte,EV.er,EV.nm,EV.kind])
   | (refine AW.region (by kernel_rfl) ?_;simp -implicitDefEqProofs only[go_sem,seval,↓reduceIte,EV.er,EV.nm,EV.kind])
   | refine Zv ?_
   | refine AW.block ?_
   | refine Zfa rfl ?_
   | refine Z8 rfl ?_
   | (refine AW.skip ?_;simp -implicitDefEqProofs only[go_sem,seval,↓reduceIte,EV.er,EV.nm,EV.kind])
   | (refine AW.exit ?_;simp -implicitDefEqProofs only[go_sem,seval,↓reduceIte,EV.er,EV.nm,EV.kind])
   | (refine AW.ret ?_;simp -implicitDefEqProofs only[go_sem,seval,↓reduceIte,EV.er,EV.nm,EV.kind];refine Zk ?_)
  rfl
end Go.Hs
end

section
namespace Go.Hs
open Go.Proofs
set_option maxRecDepth 10000
set_option maxHeartbeats 1000000
theorem two10 (G:Nat→V) (hG:GOk G) (c1 c2:Col) (sl:Sl XN) (env:Sl (List UInt8 × Int)) (n:XN) (A B:EV) (ho:7≤n.op∧n.op≤15) (hA:RC G sl env n.a A) (hB:RC G sl env n.b B) (fA:A.fine) (fB:B.fine) :
  Spec Tryz.prog G 73 [Zfc c1 c2 sl env,Zw n] Zu (fun v _=>v=Zpa (Zud n.op A B)):=by
 obtain ⟨op,num,name,na,nb,nc⟩:=n;simp only at ho hA hB ⊢;refine Zo 0 113 [.cell 4 43,.tmp 5] Tryz.func73 fun X=>?_;refine Z4 (by kernel_rfl) ?_;simp -implicitDefEqProofs only[go_sem,seval,↓reduceIte,Zfc,Zj];intro g2 g3 g4;refine Z ?_;refine CallA.pure hG (by kernel_rfl) ?_;simp -implicitDefEqProofs only[go_sem,seval,↓reduceIte,Za,Ze,Zfc,Zj];refine (Zol G hG c1.ent c2.ent sl env na A hA fA).mono ?_;rintro _ _ rfl;simp -implicitDefEqProofs only[go_sem,seval,↓reduceIte,Z5p]
 have hE:∀ e,A.need 1 = .err e→Zud op A B = .err e:=by
  intro e he;unfold Zud
  by_cases h11:op≤11
  ·rw [if_pos h11];exact Zzc _ he
  ·rw [if_neg h11,if_pos ho.2];exact Zzc _ he
 by_cases hAe:∃ e,A.need 1 = .err e
 ·obtain ⟨e,he⟩:=hAe
  have h0:(e != 0)=true:=by
   cases A with
   | err e'=>cases he;simpa using Zqc fA rfl
   | num a=>cases he
   | tru a=>cases he;rfl
  rw [hE e he,he]
  repeat first
   | (refine Z4 (by kernel_rfl) ?_;simp -implicitDefEqProofs only[go_sem,seval,↓reduceIte,h0,EV.er,EV.nm])
   | (refine AW.region (by kernel_rfl) ?_;simp -implicitDefEqProofs only[go_sem,seval,↓reduceIte,h0,EV.er,EV.nm])
   | refine Zv ?_
   | refine AW.block ?_
   | refine Zfa rfl ?_
   | refine Z8 rfl ?_
   | (refine AW.skip ?_;simp -implicitDefEqProofs only[go_sem,seval,↓reduceIte,h0,EV.er,EV.nm])
   | (refine AW.exit ?_;simp -implicitDefEqProofs only[go_sem,seval,↓reduceIte,h0,EV.er,EV.nm])
   | (refine AW.ret ?_;simp -implicitDefEqProofs only[go_sem,seval,↓reduceIte,h0,EV.er,EV.nm];refine Zk ?_)
  rfl
 obtain ⟨a,rfl⟩:=Zef fun e he=>hAe ⟨e,he⟩
 try clear hE hAe
 rw [Z9d];simp -implicitDefEqProofs only[go_sem,seval,↓reduceIte,EV.er,EV.nm];refine Z ?_;refine CallA.pure hG (by kernel_rfl) ?_;simp -implicitDefEqProofs only[go_sem,seval,↓reduceIte,Za,Ze,Zfc,Zj];refine (Zol G hG c1.ent c2.ent sl env nb B hB fB).mono ?_;rintro _ _ rfl;simp -implicitDefEqProofs only[go_sem,seval,↓reduceIte,Z5p]
 have hE:∀ e,B.need 1 = .err e→Zud op (.num a) B = .err e:=by
  intro e he;unfold Zud
  by_cases h11:op≤11
  ·rw [if_pos h11];exact Zzc (x:=B) (fun b => .ofR (Zti op a b)) he
  ·rw [if_neg h11,if_pos ho.2];exact Zzc (x:=B) (fun b => .tru (cmpV op a b)) he
 by_cases hBe:∃ e,B.need 1 = .err e
 ·obtain ⟨e,he⟩:=hBe
  have h0:(e != 0)=true:=by
   cases B with
   | err e'=>cases he;simpa using Zqc fB rfl
   | num a=>cases he
   | tru a=>cases he;rfl
  rw [hE e he,he]
  repeat first
   | (refine Z4 (by kernel_rfl) ?_;simp -implicitDefEqProofs only[go_sem,seval,↓reduceIte,h0,EV.er,EV.nm])
   | (refine AW.region (by kernel_rfl) ?_;simp -implicitDefEqProofs only[go_sem,seval,↓reduceIte,h0,EV.er,EV.nm])
   | refine Zv ?_
   | refine AW.block ?_
   | refine Zfa rfl ?_
   | refine Z8 rfl ?_
   | (refine AW.skip ?_;simp -implicitDefEqProofs only[go_sem,seval,↓reduceIte,h0,EV.er,EV.nm])
   | (refine AW.exit ?_;simp -implicitDefEqProofs only[go_sem,seval,↓reduceIte,h0,EV.er,EV.nm])
   | (refine AW.ret ?_;simp -implicitDefEqProofs only[go_sem,seval,↓reduceIte,h0,EV.er,EV.nm];refine Zk ?_)
  rfl
 obtain ⟨b,rfl⟩:=Zef fun e he=>hBe ⟨e,he⟩
 try clear hE hBe hA hB
 rw [Z9d];simp -implicitDefEqProofs only[go_sem,seval,↓reduceIte,EV.er,EV.nm];refine AW.weak (Zg (l:=[(3,.ptr 3 g3 0),(4,.ptr 4 g4 0),(6,.int .i64 a),(8,.int .i64 b),(7,.int .i64 0)]) (m:=[(3,.cells .new g3 0 [.int .u8 op,.int .i64 num,.str name,.int .i64 na,.int .i64 nb,.int .i64 nc]),(4,.cells .new g4 0 [.int .u8 0,.int .i64 0,.bool false])]) zp zp) ?_
 obtain rfl | rfl | rfl | rfl | rfl | rfl | rfl | rfl | rfl:op=7∨op=8∨op=9∨op=10∨op=11∨op=12∨op=13∨op=14∨op=15:=by omega
 ·refine Z ?_
  refine CallA.pure hG (by kernel_rfl) ?_;simp -implicitDefEqProofs only[go_sem,seval,↓reduceIte,Za,Ze,Zfc,Zj];refine (Zgy G hG a b (Zza fA) (Zza fB)).mono ?_;rintro _ _ rfl;simp -implicitDefEqProofs only[go_sem,seval,↓reduceIte,Zpg];refine CallA.pure hG (by kernel_rfl) ?_;simp -implicitDefEqProofs only[go_sem,seval,↓reduceIte,Za,Ze,Zfc,Zj];refine (Z6b G _ _).mono ?_;rintro _ _ rfl;simp -implicitDefEqProofs only[go_sem,seval,↓reduceIte,Zpa,Zka];exact Zr
 ·refine Z ?_
  refine CallA.pure hG (by kernel_rfl) ?_;simp -implicitDefEqProofs only[go_sem,seval,↓reduceIte,Za,Ze,Zfc,Zj];refine (Zjy G hG a b (Zza fA) (Zza fB)).mono ?_;rintro _ _ rfl;simp -implicitDefEqProofs only[go_sem,seval,↓reduceIte,Zpg];refine CallA.pure hG (by kernel_rfl) ?_;simp -implicitDefEqProofs only[go_sem,seval,↓reduceIte,Za,Ze,Zfc,Zj];refine (Z6b G _ _).mono ?_;rintro _ _ rfl;simp -implicitDefEqProofs only[go_sem,seval,↓reduceIte,Zpa,Zka];exact Zr
 ·refine Z ?_
  refine CallA.pure hG (by kernel_rfl) ?_;simp -implicitDefEqProofs only[go_sem,seval,↓reduceIte,Za,Ze,Zfc,Zj];refine (Zhy G hG a b (Zza fA) (Zza fB)).mono ?_;rintro _ _ rfl;simp -implicitDefEqProofs only[go_sem,seval,↓reduceIte,Zpg];refine CallA.pure hG (by kernel_rfl) ?_;simp -implicitDefEqProofs only[go_sem,seval,↓reduceIte,Za,Ze,Zfc,Zj];refine (Z6b G _ _).mono ?_;rintro _ _ rfl;simp -implicitDefEqProofs only[go_sem,seval,↓reduceIte,Zpa,Zka];exact Zr
 ·refine Z ?_
  refine CallA.pure hG (by kernel_rfl) ?_;simp -implicitDefEqProofs only[go_sem,seval,↓reduceIte,Za,Ze,Zfc,Zj];refine (Zky G hG a b (Zza fA) (Zza fB)).mono ?_;rintro _ _ rfl;simp -implicitDefEqProofs only[go_sem,seval,↓reduceIte,Zpg];refine CallA.pure hG (by kernel_rfl) ?_;simp -implicitDefEqProofs only[go_sem,seval,↓reduceIte,Za,Ze,Zfc,Zj];refine (Z6b G _ _).mono ?_;rintro _ _ rfl;simp -implicitDefEqProofs only[go_sem,seval,↓reduceIte,Zpa,Zka];exact Zr
 ·refine Z ?_
  refine CallA.pure hG (by kernel_rfl) ?_;simp -implicitDefEqProofs only[go_sem,seval,↓reduceIte,Za,Ze,Zfc,Zj];refine (Zey G hG a b (Zza fA) (Zza fB)).mono ?_;rintro _ _ rfl;simp -implicitDefEqProofs only[go_sem,seval,↓reduceIte,Zpg];refine CallA.pure hG (by kernel_rfl) ?_;simp -implicitDefEqProofs only[go_sem,seval,↓reduceIte,Za,Ze,Zfc,Zj];refine (Z6b G _ _).mono ?_;rintro _ _ rfl;simp -implicitDefEqProofs only[go_sem,seval,↓reduceIte,Zpa,Zka];exact Zr
 ·refine Z ?_
  refine CallA.pure hG (by kernel_rfl) ?_;simp -implicitDefEqProofs only[go_sem,seval,↓reduceIte,Za,Ze,Zfc,Zj];refine (Zla G _ 0).mono ?_;rintro _ _ rfl;simp -implicitDefEqProofs only[go_sem,seval,↓reduceIte,Zpa,Zka];exact Zr
 ·refine Z ?_
  refine CallA.pure hG (by kernel_rfl) ?_;simp -implicitDefEqProofs only[go_sem,seval,↓reduceIte,Za,Ze,Zfc,Zj];refine (Zla G _ 0).mono ?_;rintro _ _ rfl;simp -implicitDefEqProofs only[go_sem,seval,↓reduceIte,Zpa,Zka];exact Zr
 ·refine Z ?_
  refine CallA.pure hG (by kernel_rfl) ?_;simp -implicitDefEqProofs only[go_sem,seval,↓reduceIte,Za,Ze,Zfc,Zj];refine (Zla G _ 0).mono ?_;rintro _ _ rfl;simp -implicitDefEqProofs only[go_sem,seval,↓reduceIte,Zpa,Zka];exact Zr
 ·refine Z ?_
  refine CallA.pure hG (by kernel_rfl) ?_;simp -implicitDefEqProofs only[go_sem,seval,↓reduceIte,Za,Ze,Zfc,Zj];refine (Zla G _ 0).mono ?_;rintro _ _ rfl;simp -implicitDefEqProofs only[go_sem,seval,↓reduceIte,Zpa,Zka];exact Zr
theorem Zeo (G:Nat→V) (b:Bool):Zng Tryz.prog G 71 [.bool b,.int .i64 0] (Zpa (.tru b)):=⟨by kernel_rfl,(Zla G b 0).mono fun v _ hv=>by subst hv;rfl⟩
theorem alike10 (G:Nat→V) (hG:GOk G) (c1 c2:Col) (sl:Sl XN) (env:Sl (List UInt8 × Int)) (n:XN) (A B:EV) (ho:16≤n.op∧n.op≤17) (hA:RC G sl env n.a A) (hB:RC G sl env n.b B) (fA:A.fine) (fB:B.fine) :
  Spec Tryz.prog G 74 [Zfc c1 c2 sl env,Zw n] Zu (fun v _=>v=Zpa (Zud n.op A B)):=by
 have hN:Zud n.op A B=Zvj n.op A B:=by
  unfold Zud;rw [if_neg (by omega),if_neg (by omega),if_pos ho.2]
 rw [hN]
 try clear hN
 obtain ⟨op,num,name,na,nb,nc⟩:=n;simp only at ho hA hB ⊢;refine Zo 0 47 [.cell 4 43,.tmp 5] Tryz.func74 fun X=>?_;refine Z4 (by kernel_rfl) ?_;simp -implicitDefEqProofs only[go_sem,seval,↓reduceIte,Zfc,Zj];intro g2 g3 g4;refine Z ?_;refine CallA.pure hG (by kernel_rfl) ?_;simp -implicitDefEqProofs only[go_sem,seval,↓reduceIte,Za,Ze,Zfc,Zj];refine (hA c1.ent c2.ent).mono ?_;rintro _ _ rfl;simp -implicitDefEqProofs only[go_sem,seval,↓reduceIte,Zpa,Zka];intro g6
 by_cases hAe:∃ e,A = .err e
 ·obtain ⟨e,rfl⟩:=hAe
  have h0:(e != 0)=true:=by simpa using Zqc fA rfl
  repeat first
   | (refine Z4 (by kernel_rfl) ?_;simp -implicitDefEqProofs only[go_sem,seval,↓reduceIte,h0,EV.er,EV.nm])
   | (refine AW.region (by kernel_rfl) ?_;simp -implicitDefEqProofs only[go_sem,seval,↓reduceIte,h0,EV.er,EV.nm])
   | refine Zv ?_
   | refine AW.block ?_
   | refine Zfa rfl ?_
   | refine Z8 rfl ?_
   | (refine AW.skip ?_;simp -implicitDefEqProofs only[go_sem,seval,↓reduceIte,h0,EV.er,EV.nm])
   | (refine AW.exit ?_;simp -implicitDefEqProofs only[go_sem,seval,↓reduceIte,h0,EV.er,EV.nm])
   | (refine AW.ret ?_;simp -implicitDefEqProofs only[go_sem,seval,↓reduceIte,h0,EV.er,EV.nm];refine Zk ?_)
  rfl
 have hA0:A.er=0:=by cases A<;>first | rfl | exact absurd ⟨_,rfl⟩ hAe
 rw [hA0];refine Z ?_;refine CallA.pure hG (by kernel_rfl) ?_;simp -implicitDefEqProofs only[go_sem,seval,↓reduceIte,Za,Ze,Zfc,Zj];refine (hB c1.ent c2.ent).mono ?_;rintro _ _ rfl;simp -implicitDefEqProofs only[go_sem,seval,↓reduceIte,Zpa,Zka];intro g8
 by_cases hBe:∃ e,B = .err e
 ·obtain ⟨e,rfl⟩:=hBe
  have h0:(e != 0)=true:=by simpa using Zqc fB rfl
  have hR:Zvj op A (.err e) = .err e:=by cases A<;>first | rfl | exact absurd ⟨_,rfl⟩ hAe
  rw [hR]
  repeat first
   | (refine Z4 (by kernel_rfl) ?_;simp -implicitDefEqProofs only[go_sem,seval,↓reduceIte,h0,EV.er,EV.nm])
   | (refine AW.region (by kernel_rfl) ?_;simp -implicitDefEqProofs only[go_sem,seval,↓reduceIte,h0,EV.er,EV.nm])
   | refine Zv ?_
   | refine AW.block ?_
   | refine Zfa rfl ?_
   | refine Z8 rfl ?_
   | (refine AW.skip ?_;simp -implicitDefEqProofs only[go_sem,seval,↓reduceIte,h0,EV.er,EV.nm])
   | (refine AW.exit ?_;simp -implicitDefEqProofs only[go_sem,seval,↓reduceIte,h0,EV.er,EV.nm])
   | (refine AW.ret ?_;simp -implicitDefEqProofs only[go_sem,seval,↓reduceIte,h0,EV.er,EV.nm];refine Zk ?_)
  rfl
 have hB0:B.er=0:=by cases B<;>first | rfl | exact absurd ⟨_,rfl⟩ hBe
 rw [hB0];refine AW.weak (Zg (l:=[(3,.ptr 3 g3 0),(4,.ptr 4 g4 0),(6,.ptr 6 g6 0),(8,.ptr 8 g8 0),(7,.int .i64 0)]) (m:=[(3,.cells .new g3 0 [.int .u8 op,.int .i64 num,.str name,.int .i64 na,.int .i64 nb,.int .i64 nc]),(4,.cells .new g4 0 [.int .u8 0,.int .i64 0,.bool false]),(6,.cells .new g6 0 [.int .u8 A.kind,.int .i64 A.nm,.bool A.tr]),(8,.cells .new g8 0 [.int .u8 B.kind,.int .i64 B.nm,.bool B.tr])]) zp zp) ?_;refine AW.weak (Z7 (fun o=>o==3 || o==6 || o==8) (l:=[(3,.view .new (.agg [.int .u8 op,.int .i64 num,.str name,.int .i64 na,.int .i64 nb,.int .i64 nc])),(4,.ptr 4 g4 0),(6,.view .new (.agg [.int .u8 A.kind,.int .i64 A.nm,.bool A.tr])),(8,.view .new (.agg [.int .u8 B.kind,.int .i64 B.nm,.bool B.tr])),(7,.int .i64 0)]) (m:=[(4,.cells .new g4 0 [.int .u8 0,.int .i64 0,.bool false])]) ?_ ?_) ?_
 ·refine Zs ?_
  refine ⟨?_,Zl _,?_,?_,Zl _⟩
  ·exact Fz.ptr (v := .agg [.int .u8 op,.int .i64 num,.str name,.int .i64 na,.int .i64 nb,.int .i64 nc]) (c := .new) (fz:=0) rfl zp
  ·exact Fz.ptr (v := .agg [.int .u8 A.kind,.int .i64 A.nm,.bool A.tr]) (c := .new) (fz:=0) rfl zp
  ·exact Fz.ptr (v := .agg [.int .u8 B.kind,.int .i64 B.nm,.bool B.tr]) (c := .new) (fz:=0) rfl zp
 ·simp only [Zy,Z2,and_true]
  exact FzO.keep rfl zp
 try clear hA hB
 cases A with
 | err e'=>exact absurd ⟨_,rfl⟩ hAe
 | num a =>
  cases B with
  | err e'=>exact absurd ⟨_,rfl⟩ hBe
  | num b =>
   rw [Znn];simp only [EV.kind,EV.nm,EV.tr];refine Z ?_;refine Zx ⟨fun i=>if i=7 then Zpa (.tru ((a==b)==(op==16))) else .top,fun i=>if i=0 then .lend else if i=1 then .lend else if i=4 then .lend else .pure⟩ (by kernel_rfl) hG (by kernel_rfl) (by kernel_rfl) ?_;simp -implicitDefEqProofs only[go_sem,seval,↓reduceIte,Zpa,Zka,EV.kind,EV.nm,EV.tr,EV.er];refine ⟨by simp only [Bool.true_and,Bool.and_true];exact Zeo G _,?_⟩;exact Zr
  | tru b =>
   simp only [EV.kind,EV.nm,EV.tr];exact Zr
 | tru a =>
  cases B with
  | err e'=>exact absurd ⟨_,rfl⟩ hBe
  | num b =>
   simp only [EV.kind,EV.nm,EV.tr];exact Zr
  | tru b =>
   rw [Zmn];simp only [EV.kind,EV.nm,EV.tr];refine Z ?_;refine Zx ⟨fun i=>if i=7 then Zpa (.tru ((a==b)==(op==16))) else .top,fun i=>if i=0 then .lend else if i=1 then .lend else if i=4 then .lend else .pure⟩ (by kernel_rfl) hG (by kernel_rfl) (by kernel_rfl) ?_;simp -implicitDefEqProofs only[go_sem,seval,↓reduceIte,Zpa,Zka,EV.kind,EV.nm,EV.tr,EV.er];refine ⟨by simp only [Bool.true_and,Bool.and_true];exact Zeo G _,?_⟩;exact Zr
theorem logic10 (G:Nat→V) (hG:GOk G) (c1 c2:Col) (sl:Sl XN) (env:Sl (List UInt8 × Int)) (n:XN) (A B:EV) (ho:18≤n.op∧n.op≤21) (hA:RC G sl env n.a A) (hB:RC G sl env n.b B) (fA:A.fine) (fB:B.fine) :
  Spec Tryz.prog G 75 [Zfc c1 c2 sl env,Zw n] Zu (fun v _=>v=Zpa (Zud n.op A B)):=by
 have hN:Zud n.op A B=Zge n.op A B:=by
  unfold Zud;rw [if_neg (by omega),if_neg (by omega),if_neg (by omega)]
 rw [hN]
 try clear hN
 obtain ⟨op,num,name,na,nb,nc⟩:=n;simp only at ho hA hB ⊢;refine Zo 0 70 [.cell 4 43,.tmp 5] Tryz.func75 fun X=>?_;refine Z4 (by kernel_rfl) ?_;simp -implicitDefEqProofs only[go_sem,seval,↓reduceIte,Zfc,Zj];intro g2 g3 g4;refine Z ?_;refine CallA.pure hG (by kernel_rfl) ?_;simp -implicitDefEqProofs only[go_sem,seval,↓reduceIte,Za,Ze,Zfc,Zj];refine (Z3f G hG c1.ent c2.ent sl env na A hA fA).mono ?_;rintro _ _ rfl;simp -implicitDefEqProofs only[go_sem,seval,↓reduceIte,Zxh]
 by_cases hAe:∃ e,A.need 2 = .err e
 ·obtain ⟨e,he⟩:=hAe
  have h0:(e != 0)=true:=by
   cases A with
   | err e'=>cases he;simpa using Zqc fA rfl
   | tru a=>cases he
   | num a=>cases he;rfl
  have hE:Zge op A B = .err e:=Z6a _ he;rw [hE,he]
  repeat first
   | (refine Z4 (by kernel_rfl) ?_;simp -implicitDefEqProofs only[go_sem,seval,↓reduceIte,h0,EV.er,EV.nm])
   | (refine AW.region (by kernel_rfl) ?_;simp -implicitDefEqProofs only[go_sem,seval,↓reduceIte,h0,EV.er,EV.nm])
   | refine Zv ?_
   | refine AW.block ?_
   | refine Zfa rfl ?_
   | refine Z8 rfl ?_
   | (refine AW.skip ?_;simp -implicitDefEqProofs only[go_sem,seval,↓reduceIte,h0,EV.er,EV.nm])
   | (refine AW.exit ?_;simp -implicitDefEqProofs only[go_sem,seval,↓reduceIte,h0,EV.er,EV.nm])
   | (refine AW.ret ?_;simp -implicitDefEqProofs only[go_sem,seval,↓reduceIte,h0,EV.er,EV.nm];refine Zk ?_)
  rfl
 obtain ⟨a,rfl⟩:=Zkb fun e he=>hAe ⟨e,he⟩
 try clear hAe
 rw [Zxa];simp -implicitDefEqProofs only[go_sem,seval,↓reduceIte,EV.er,EV.tr]
 have hEr:∀ e,B.need 2 = .err e→(e != 0)=true∧(e==0)=false:=by
  intro e he
  cases B with
  | err e'=>cases he;exact ⟨by simpa using Zqc fB rfl,by simpa using Zqc fB rfl⟩
  | tru a=>cases he
  | num a=>cases he;exact ⟨rfl,rfl⟩
 have hX:∀ op a,Zge op (.tru a) B=if op=18∧a=false then .tru false else if op=19∧a=true∨op=21∧a=false then .tru true else B.onB fun b => .tru (if op=20 then a != b else b):=fun _ _=>rfl
 obtain rfl | rfl | rfl | rfl:op=18∨op=19∨op=20∨op=21:=by omega
 ·cases a
  ·refine Z ?_
   refine CallA.pure hG (by kernel_rfl) ?_;simp -implicitDefEqProofs only[go_sem,seval,↓reduceIte,Za,Ze,Zfc,Zj];refine (Zla G _ 0).mono ?_;rintro _ _ rfl;simp -implicitDefEqProofs only[go_sem,seval,↓reduceIte,Zpa,Zka];exact Zr
  ·refine Z ?_
   refine CallA.pure hG (by kernel_rfl) ?_;simp -implicitDefEqProofs only[go_sem,seval,↓reduceIte,Za,Ze,Zfc,Zj];refine (Z3f G hG c1.ent c2.ent sl env nb B hB fB).mono ?_;rintro _ _ rfl;simp -implicitDefEqProofs only[go_sem,seval,↓reduceIte,Zxh]
   by_cases hBe:∃ e,B.need 2 = .err e
   ·obtain ⟨e,he⟩:=hBe
    have h00:¬ e=0:=by simpa using (hEr e he).1
    rw [hX,if_neg (by decide),if_neg (by decide),Z6a _ he,he]
    repeat first
     | (refine Z4 (by kernel_rfl) ?_;simp -implicitDefEqProofs only[go_sem,seval,↓reduceIte,EV.er,EV.tr])
     | (refine AW.region (by kernel_rfl) ?_;simp -implicitDefEqProofs only[go_sem,seval,↓reduceIte,EV.er,EV.tr])
     | refine Zv ?_
     | refine AW.block ?_
     | refine Zfa rfl ?_
     | refine Z8 rfl ?_
     | (refine AW.skip ?_;simp -implicitDefEqProofs only[go_sem,seval,↓reduceIte,EV.er,EV.tr])
     | (refine AW.exit ?_;simp -implicitDefEqProofs only[go_sem,seval,↓reduceIte,EV.er,EV.tr])
     | (refine AW.ret ?_;simp -implicitDefEqProofs only[go_sem,seval,↓reduceIte,EV.er,EV.tr];refine Zk ?_)
    refine CallA.pure hG (by kernel_rfl) ?_;simp -implicitDefEqProofs only[go_sem,seval,↓reduceIte,Za,Ze,Zfc,Zj];refine (Zla G _ _).mono ?_;rintro _ _ rfl;simp -implicitDefEqProofs only[go_sem,seval,↓reduceIte,if_neg h00,Zpa,Zka];exact Zr
   obtain ⟨b,rfl⟩:=Zkb fun e he=>hBe ⟨e,he⟩;rw [Zxa];simp -implicitDefEqProofs only[go_sem,seval,↓reduceIte,EV.er,EV.tr];refine Z ?_;refine CallA.pure hG (by kernel_rfl) ?_;simp -implicitDefEqProofs only[go_sem,seval,↓reduceIte,Za,Ze,Zfc,Zj];refine (Zla G _ 0).mono ?_;rintro _ _ rfl;simp -implicitDefEqProofs only[go_sem,seval,↓reduceIte,Zpa,Zka];exact Zr
 ·cases a
  ·refine Z ?_
   refine CallA.pure hG (by kernel_rfl) ?_;simp -implicitDefEqProofs only[go_sem,seval,↓reduceIte,Za,Ze,Zfc,Zj];refine (Z3f G hG c1.ent c2.ent sl env nb B hB fB).mono ?_;rintro _ _ rfl;simp -implicitDefEqProofs only[go_sem,seval,↓reduceIte,Zxh]
   by_cases hBe:∃ e,B.need 2 = .err e
   ·obtain ⟨e,he⟩:=hBe
    have h00:¬ e=0:=by simpa using (hEr e he).1
    rw [hX,if_neg (by decide),if_neg (by decide),Z6a _ he,he]
    repeat first
     | (refine Z4 (by kernel_rfl) ?_;simp -implicitDefEqProofs only[go_sem,seval,↓reduceIte,EV.er,EV.tr])
     | (refine AW.region (by kernel_rfl) ?_;simp -implicitDefEqProofs only[go_sem,seval,↓reduceIte,EV.er,EV.tr])
     | refine Zv ?_
     | refine AW.block ?_
     | refine Zfa rfl ?_
     | refine Z8 rfl ?_
     | (refine AW.skip ?_;simp -implicitDefEqProofs only[go_sem,seval,↓reduceIte,EV.er,EV.tr])
     | (refine AW.exit ?_;simp -implicitDefEqProofs only[go_sem,seval,↓reduceIte,EV.er,EV.tr])
     | (refine AW.ret ?_;simp -implicitDefEqProofs only[go_sem,seval,↓reduceIte,EV.er,EV.tr];refine Zk ?_)
    refine CallA.pure hG (by kernel_rfl) ?_;simp -implicitDefEqProofs only[go_sem,seval,↓reduceIte,Za,Ze,Zfc,Zj];refine (Zla G _ _).mono ?_;rintro _ _ rfl;simp -implicitDefEqProofs only[go_sem,seval,↓reduceIte,if_neg h00,Zpa,Zka];exact Zr
   obtain ⟨b,rfl⟩:=Zkb fun e he=>hBe ⟨e,he⟩;rw [Zxa];simp -implicitDefEqProofs only[go_sem,seval,↓reduceIte,EV.er,EV.tr];refine Z ?_;refine CallA.pure hG (by kernel_rfl) ?_;simp -implicitDefEqProofs only[go_sem,seval,↓reduceIte,Za,Ze,Zfc,Zj];refine (Zla G _ 0).mono ?_;rintro _ _ rfl;simp -implicitDefEqProofs only[go_sem,seval,↓reduceIte,Zpa,Zka];exact Zr
  ·refine Z ?_
   refine CallA.pure hG (by kernel_rfl) ?_;simp -implicitDefEqProofs only[go_sem,seval,↓reduceIte,Za,Ze,Zfc,Zj];refine (Zla G _ 0).mono ?_;rintro _ _ rfl;simp -implicitDefEqProofs only[go_sem,seval,↓reduceIte,Zpa,Zka];exact Zr
 ·cases a
  ·refine Z ?_
   refine CallA.pure hG (by kernel_rfl) ?_;simp -implicitDefEqProofs only[go_sem,seval,↓reduceIte,Za,Ze,Zfc,Zj];refine (Z3f G hG c1.ent c2.ent sl env nb B hB fB).mono ?_;rintro _ _ rfl;simp -implicitDefEqProofs only[go_sem,seval,↓reduceIte,Zxh]
   by_cases hBe:∃ e,B.need 2 = .err e
   ·obtain ⟨e,he⟩:=hBe
    have h00:¬ e=0:=by simpa using (hEr e he).1
    rw [hX,if_neg (by decide),if_neg (by decide),Z6a _ he,he]
    repeat first
     | (refine Z4 (by kernel_rfl) ?_;simp -implicitDefEqProofs only[go_sem,seval,↓reduceIte,EV.er,EV.tr])
     | (refine AW.region (by kernel_rfl) ?_;simp -implicitDefEqProofs only[go_sem,seval,↓reduceIte,EV.er,EV.tr])
     | refine Zv ?_
     | refine AW.block ?_
     | refine Zfa rfl ?_
     | refine Z8 rfl ?_
     | (refine AW.skip ?_;simp -implicitDefEqProofs only[go_sem,seval,↓reduceIte,EV.er,EV.tr])
     | (refine AW.exit ?_;simp -implicitDefEqProofs only[go_sem,seval,↓reduceIte,EV.er,EV.tr])
     | (refine AW.ret ?_;simp -implicitDefEqProofs only[go_sem,seval,↓reduceIte,EV.er,EV.tr];refine Zk ?_)
    refine CallA.pure hG (by kernel_rfl) ?_;simp -implicitDefEqProofs only[go_sem,seval,↓reduceIte,Za,Ze,Zfc,Zj];refine (Zla G _ _).mono ?_;rintro _ _ rfl;simp -implicitDefEqProofs only[go_sem,seval,↓reduceIte,if_neg h00,Zpa,Zka];exact Zr
   obtain ⟨b,rfl⟩:=Zkb fun e he=>hBe ⟨e,he⟩;rw [Zxa];simp -implicitDefEqProofs only[go_sem,seval,↓reduceIte,EV.er,EV.tr];refine Z ?_;refine CallA.pure hG (by kernel_rfl) ?_;simp -implicitDefEqProofs only[go_sem,seval,↓reduceIte,Za,Ze,Zfc,Zj];refine (Zla G _ 0).mono ?_;rintro _ _ rfl;simp -implicitDefEqProofs only[go_sem,seval,↓reduceIte,Zpa,Zka];exact Zr
  ·refine Z ?_
   refine CallA.pure hG (by kernel_rfl) ?_;simp -implicitDefEqProofs only[go_sem,seval,↓reduceIte,Za,Ze,Zfc,Zj];refine (Z3f G hG c1.ent c2.ent sl env nb B hB fB).mono ?_;rintro _ _ rfl;simp -implicitDefEqProofs only[go_sem,seval,↓reduceIte,Zxh]
   by_cases hBe:∃ e,B.need 2 = .err e
   ·obtain ⟨e,he⟩:=hBe
    have h00:¬ e=0:=by simpa using (hEr e he).1
    rw [hX,if_neg (by decide),if_neg (by decide),Z6a _ he,he]
    repeat first
     | (refine Z4 (by kernel_rfl) ?_;simp -implicitDefEqProofs only[go_sem,seval,↓reduceIte,EV.er,EV.tr])
     | (refine AW.region (by kernel_rfl) ?_;simp -implicitDefEqProofs only[go_sem,seval,↓reduceIte,EV.er,EV.tr])
     | refine Zv ?_
     | refine AW.block ?_
     | refine Zfa rfl ?_
     | refine Z8 rfl ?_
     | (refine AW.skip ?_;simp -implicitDefEqProofs only[go_sem,seval,↓reduceIte,EV.er,EV.tr])
     | (refine AW.exit ?_;simp -implicitDefEqProofs only[go_sem,seval,↓reduceIte,EV.er,EV.tr])
     | (refine AW.ret ?_;simp -implicitDefEqProofs only[go_sem,seval,↓reduceIte,EV.er,EV.tr];refine Zk ?_)
    refine CallA.pure hG (by kernel_rfl) ?_;simp -implicitDefEqProofs only[go_sem,seval,↓reduceIte,Za,Ze,Zfc,Zj];refine (Zla G _ _).mono ?_;rintro _ _ rfl;simp -implicitDefEqProofs only[go_sem,seval,↓reduceIte,if_neg h00,Zpa,Zka];exact Zr
   obtain ⟨b,rfl⟩:=Zkb fun e he=>hBe ⟨e,he⟩;rw [Zxa];simp -implicitDefEqProofs only[go_sem,seval,↓reduceIte,EV.er,EV.tr];refine Z ?_;refine CallA.pure hG (by kernel_rfl) ?_;simp -implicitDefEqProofs only[go_sem,seval,↓reduceIte,Za,Ze,Zfc,Zj];refine (Zla G _ 0).mono ?_;rintro _ _ rfl;simp -implicitDefEqProofs only[go_sem,seval,↓reduceIte,Zpa,Zka];exact Zr
 ·cases a
  ·refine Z ?_
   refine CallA.pure hG (by kernel_rfl) ?_;simp -implicitDefEqProofs only[go_sem,seval,↓reduceIte,Za,Ze,Zfc,Zj];refine (Zla G _ 0).mono ?_;rintro _ _ rfl;simp -implicitDefEqProofs only[go_sem,seval,↓reduceIte,Zpa,Zka];exact Zr
  ·refine Z ?_
   refine CallA.pure hG (by kernel_rfl) ?_;simp -implicitDefEqProofs only[go_sem,seval,↓reduceIte,Za,Ze,Zfc,Zj];refine (Z3f G hG c1.ent c2.ent sl env nb B hB fB).mono ?_;rintro _ _ rfl;simp -implicitDefEqProofs only[go_sem,seval,↓reduceIte,Zxh]
   by_cases hBe:∃ e,B.need 2 = .err e
   ·obtain ⟨e,he⟩:=hBe
    have h00:¬ e=0:=by simpa using (hEr e he).1
    rw [hX,if_neg (by decide),if_neg (by decide),Z6a _ he,he]
    repeat first
     | (refine Z4 (by kernel_rfl) ?_;simp -implicitDefEqProofs only[go_sem,seval,↓reduceIte,EV.er,EV.tr])
     | (refine AW.region (by kernel_rfl) ?_;simp -implicitDefEqProofs only[go_sem,seval,↓reduceIte,EV.er,EV.tr])
     | refine Zv ?_
     | refine AW.block ?_
     | refine Zfa rfl ?_
     | refine Z8 rfl ?_
     | (refine AW.skip ?_;simp -implicitDefEqProofs only[go_sem,seval,↓reduceIte,EV.er,EV.tr])
     | (refine AW.exit ?_;simp -implicitDefEqProofs only[go_sem,seval,↓reduceIte,EV.er,EV.tr])
     | (refine AW.ret ?_;simp -implicitDefEqProofs only[go_sem,seval,↓reduceIte,EV.er,EV.tr];refine Zk ?_)
    refine CallA.pure hG (by kernel_rfl) ?_;simp -implicitDefEqProofs only[go_sem,seval,↓reduceIte,Za,Ze,Zfc,Zj];refine (Zla G _ _).mono ?_;rintro _ _ rfl;simp -implicitDefEqProofs only[go_sem,seval,↓reduceIte,if_neg h00,Zpa,Zka];exact Zr
   obtain ⟨b,rfl⟩:=Zkb fun e he=>hBe ⟨e,he⟩;rw [Zxa];simp -implicitDefEqProofs only[go_sem,seval,↓reduceIte,EV.er,EV.tr];refine Z ?_;refine CallA.pure hG (by kernel_rfl) ?_;simp -implicitDefEqProofs only[go_sem,seval,↓reduceIte,Za,Ze,Zfc,Zj];refine (Zla G _ 0).mono ?_;rintro _ _ rfl;simp -implicitDefEqProofs only[go_sem,seval,↓reduceIte,Zpa,Zka];exact Zr
end Go.Hs
end

section
namespace Go.Hs
open Go.Proofs
set_option maxRecDepth 10000
set_option maxHeartbeats 1000000
theorem leaf10 (G:Nat→V) (hG:GOk G) (sl:Sl XN) (hs:sl.l.length<1000000) (env:Sl (List UInt8 × Int)) (hv:env.l.length<1000000) (i:Nat) (n:XN) (hn:sl.l[i]? = some n) (ho:1≤n.op∧n.op≤4):RC G sl env i (Zvd env.l n.op n.num n.name):=by
 intro c1 c2;have hil:i<sl.l.length:=(List.getElem?_eq_some_iff.1 hn).1;obtain ⟨op,num,name,na,nb,nc⟩:=n;refine Zo 0 163 [.cell 4 43,.tmp 5] Tryz.func46 fun X=>?_;refine Z4 (by kernel_rfl) ?_;simp -implicitDefEqProofs only[go_sem,seval,↓reduceIte,Zfc];intro g2 g4;refine Z1f (zi hn (zi @Int.natCast_nonneg (zi @Int.ofNat_lt (zi hil @Zj)))) ?_;intro g6;refine AW.weak (Z7 (fun o=>o==2 || o==6) (l:=[(2,.view .new (.agg [Zb c1 6 Zw sl,Zb c2 2 Zea env])),(4,.ptr 4 g4 0),(5,.int .i64 0),(6,.view .new (.agg [.int .u8 op,.int .i64 num,.str name,.int .i64 na,.int .i64 nb,.int .i64 nc]))]) (m:=[(4,.cells .new g4 0 [.int .u8 0,.int .i64 0,.bool false])]) ?_ ?_) ?_
 ·refine Zs ?_
  refine ⟨?_,Zl _,Zl _,?_⟩
  ·exact Fz.ptr (v := .agg [Zb c1 6 Zw sl,Zb c2 2 Zea env]) (c := .new) (fz:=0) rfl zp
  ·exact Fz.ptr (v := .agg [.int .u8 op,.int .i64 num,.str name,.int .i64 na,.int .i64 nb,.int .i64 nc]) (c := .new) (fz:=0) rfl zp
 ·simp only [Zy,Z2,and_true]
  exact FzO.keep rfl zp
 simp only at ho ⊢
 obtain rfl | rfl | rfl | rfl:op=1∨op=2∨op=3∨op=4:=by omega
 ·refine Z ?_
  refine CallA.pure hG (by kernel_rfl) ?_;simp -implicitDefEqProofs only[go_sem,seval,↓reduceIte,Za,Ze,Zfc,Zj];refine (Z6b G _ 0).mono ?_;rintro _ _ rfl;simp -implicitDefEqProofs only[go_sem,seval,↓reduceIte,Zpa,Zka];exact Zr
 rotate_left
 ·refine Z ?_
  refine CallA.pure hG (by kernel_rfl) ?_;simp -implicitDefEqProofs only[go_sem,seval,↓reduceIte,Za,Ze,Zfc,Zj];refine (Zla G _ 0).mono ?_;rintro _ _ rfl;simp -implicitDefEqProofs only[go_sem,seval,↓reduceIte,Zpa,Zka];exact Zr
 ·refine Z ?_
  refine CallA.pure hG (by kernel_rfl) ?_;simp -implicitDefEqProofs only[go_sem,seval,↓reduceIte,Za,Ze,Zfc,Zj];refine (Zla G _ 0).mono ?_;rintro _ _ rfl;simp -implicitDefEqProofs only[go_sem,seval,↓reduceIte,Zpa,Zka];exact Zr
 ·refine Zi fun K1 hK1=>?_
  try clear hK1
  refine Z1 ?_;refine Z1 ?_;refine Zfa rfl ?_;refine Zi fun K2 hK2=>?_;refine Z ?_
  refine Z0a env.l.length (fun j (_:Unit)=>st [(2,.view .new (.agg [Zb c1 6 Zw sl,Zb c2 2 Zea env])),(4,.ptr 4 g4 0),(5,.int .i64 0),(6,.view .new (.agg [.int .u8 2,.int .i64 num,.str name,.int .i64 na,.int .i64 nb,.int .i64 nc])),(7,.int .i64 j)] [(4,.cells .new g4 0 [.int .u8 0,.int .i64 0,.bool false])]) (fun j _=>Zvc env.l name=Zvc (env.l.drop j) name) 0 () (Nat.zero_le _) rfl
   (Zg zp zp) ?_
  rintro j _ hj hR L hL
  by_cases hjl:j<env.l.length
  ·have hlt:decide ((j:Int)<(env.l.length:Int))=true:=by simpa using hjl
   have hg:env.l[j]? = some env.l[j]:=List.getElem?_eq_getElem hjl;have hd:env.l.drop j=env.l[j]::env.l.drop (j+1):=List.drop_eq_getElem_cons hjl;generalize env.l[j]=p at hg hd;rw [hd] at hR;refine Zf hlt ?_
   by_cases hnm:p.1=name
   ·have hq:(p.1==name)=true:=by simpa using hnm
    refine Zx ⟨fun _ => .top,fun i=>if i=1 then .lend else if i=7 then .lend else .pure⟩ (by kernel_rfl) hG (by kernel_rfl) (by kernel_rfl) ?_;refine Zsf (zi hg (zi @Z5g (zi hjl (zi @Int.natCast_nonneg (zi @Int.ofNat_lt hq))))) ?_;refine Zf (zi hg (zi @Z5g (zi hjl (zi @Int.natCast_nonneg @Int.ofNat_lt)))) ?_;refine CallA.pure hG (by kernel_rfl) ?_;simp -implicitDefEqProofs only[go_sem,seval,↓reduceIte,Za,Ze,Zfc,Zj];refine (Z6b G _ 0).mono ?_;rintro _ _ rfl;simp -implicitDefEqProofs only[go_sem,seval,↓reduceIte,Zpa,Zka]
    have hV:Zvd env.l 2 num name = .num p.2:=by
     unfold Zvd;rw [if_neg (by decide),if_pos rfl,hR];unfold Zvc;rw [List.find?_cons_of_pos (by simpa using hnm)]
     try rfl
    rw [hV];exact Zr
   ·have hq:(p.1==name)=false:=by simpa using hnm
    have w1:IntKind.i64.wrap ((j:Int)+1)=(j:Int)+1:=w64 (by omega) (by omega);refine Zx ⟨fun _ => .top,fun i=>if i=1 then .lend else if i=7 then .lend else .pure⟩ (by kernel_rfl) hG (by kernel_rfl) (by kernel_rfl) ?_;refine Zsf (zi hg (zi @Z5g (zi hjl (zi @Int.natCast_nonneg (zi @Int.ofNat_lt hq))))) ?_;refine Zf w1 ?_;refine hL _ ⟨hjl,(),?_,Zg zp zp⟩;rw [hR];unfold Zvc;rw [List.find?_cons_of_neg (by simpa using hnm)]
  ·have hje:j=env.l.length:=by omega
   have hlt:decide ((env.l.length:Int)<(env.l.length:Int))=false:=by simp
   subst hje;rw [List.drop_length] at hR
   have hV:Zvd env.l 2 num name = .err 90:=by
    unfold Zvd;rw [if_neg (by decide),if_pos rfl,hR]
    try rfl
   refine Zf hlt ?_;refine hK2 _ ?_;rw [hV];exact Zr
theorem neg10 (G:Nat→V) (hG:GOk G) (sl:Sl XN) (hs:sl.l.length<1000000) (env:Sl (List UInt8 × Int)) (i:Nat) (n:XN) (hn:sl.l[i]? = some n) (A:EV) (ho:n.op=5) (hA:RC G sl env n.a A) (fA:A.fine):RC G sl env i (Zbu n.op A):=by
 intro c1 c2;have hil:i<sl.l.length:=(List.getElem?_eq_some_iff.1 hn).1;obtain ⟨op,num,name,na,nb,nc⟩:=n;refine Zo 0 163 [.cell 4 43,.tmp 5] Tryz.func46 fun X=>?_;refine Z4 (by kernel_rfl) ?_;simp -implicitDefEqProofs only[go_sem,seval,↓reduceIte,Zfc];intro g2 g4;refine Z1f (zi hn (zi @Int.natCast_nonneg (zi @Int.ofNat_lt (zi hil @Zj)))) ?_;intro g6;refine AW.weak (Z7 (fun o=>o==2 || o==6) (l:=[(2,.view .new (.agg [Zb c1 6 Zw sl,Zb c2 2 Zea env])),(4,.ptr 4 g4 0),(5,.int .i64 0),(6,.view .new (.agg [.int .u8 op,.int .i64 num,.str name,.int .i64 na,.int .i64 nb,.int .i64 nc]))]) (m:=[(4,.cells .new g4 0 [.int .u8 0,.int .i64 0,.bool false])]) ?_ ?_) ?_
 ·refine Zs ?_
  refine ⟨?_,Zl _,Zl _,?_⟩
  ·exact Fz.ptr (v := .agg [Zb c1 6 Zw sl,Zb c2 2 Zea env]) (c := .new) (fz:=0) rfl zp
  ·exact Fz.ptr (v := .agg [.int .u8 op,.int .i64 num,.str name,.int .i64 na,.int .i64 nb,.int .i64 nc]) (c := .new) (fz:=0) rfl zp
 ·simp only [Zy,Z2,and_true]
  exact FzO.keep rfl zp
 simp only at ho hA ⊢;subst ho;have hU:Zbu 5 A=A.onN fun a => .ofR (Go.Hs.told (-a)):=rfl;rw [hU];refine Z ?_;refine CallA.pure hG (by kernel_rfl) ?_;simp -implicitDefEqProofs only[go_sem,seval,↓reduceIte,Za,Ze,Zfc,Zj];refine (Zol G hG c1.ent c2.ent sl env na A hA fA).mono ?_;rintro _ _ rfl;simp -implicitDefEqProofs only[go_sem,seval,↓reduceIte,Z5p]
 by_cases hAe:∃ e,A.need 1 = .err e
 ·obtain ⟨e,he⟩:=hAe
  have h0:(e != 0)=true:=by
   cases A with
   | err e'=>cases he;simpa using Zqc fA rfl
   | num a=>cases he
   | tru a=>cases he;rfl
  rw [Zzc _ he,he]
  repeat first
   | (refine Z4 (by kernel_rfl) ?_;simp -implicitDefEqProofs only[go_sem,seval,↓reduceIte,h0,EV.er,EV.nm])
   | (refine AW.region (by kernel_rfl) ?_;simp -implicitDefEqProofs only[go_sem,seval,↓reduceIte,h0,EV.er,EV.nm])
   | refine Zv ?_
   | refine AW.block ?_
   | refine Zfa rfl ?_
   | refine Z8 rfl ?_
   | (refine AW.skip ?_;simp -implicitDefEqProofs only[go_sem,seval,↓reduceIte,h0,EV.er,EV.nm])
   | (refine AW.exit ?_;simp -implicitDefEqProofs only[go_sem,seval,↓reduceIte,h0,EV.er,EV.nm])
   | (refine AW.ret ?_;simp -implicitDefEqProofs only[go_sem,seval,↓reduceIte,h0,EV.er,EV.nm];refine Zk ?_)
  rfl
 obtain ⟨a,rfl⟩:=Zef fun e he=>hAe ⟨e,he⟩;rw [Z9d];simp -implicitDefEqProofs only[go_sem,seval,↓reduceIte,EV.er,EV.nm];refine Z ?_;refine CallA.pure hG (by kernel_rfl) ?_;simp -implicitDefEqProofs only[go_sem,seval,↓reduceIte,Za,Ze,Zfc,Zj];refine (Zfy G hG a (Zza fA)).mono ?_;rintro _ _ rfl;simp -implicitDefEqProofs only[go_sem,seval,↓reduceIte,Zpg];refine CallA.pure hG (by kernel_rfl) ?_;simp -implicitDefEqProofs only[go_sem,seval,↓reduceIte,Za,Ze,Zfc,Zj];refine (Z6b G _ _).mono ?_;rintro _ _ rfl;simp -implicitDefEqProofs only[go_sem,seval,↓reduceIte,Zpa,Zka];exact Zr
theorem not10 (G:Nat→V) (hG:GOk G) (sl:Sl XN) (hs:sl.l.length<1000000) (env:Sl (List UInt8 × Int)) (i:Nat) (n:XN) (hn:sl.l[i]? = some n) (A:EV) (ho:n.op=6) (hA:RC G sl env n.a A) (fA:A.fine):RC G sl env i (Zbu n.op A):=by
 intro c1 c2;have hil:i<sl.l.length:=(List.getElem?_eq_some_iff.1 hn).1;obtain ⟨op,num,name,na,nb,nc⟩:=n;refine Zo 0 163 [.cell 4 43,.tmp 5] Tryz.func46 fun X=>?_;refine Z4 (by kernel_rfl) ?_;simp -implicitDefEqProofs only[go_sem,seval,↓reduceIte,Zfc];intro g2 g4;refine Z1f (zi hn (zi @Int.natCast_nonneg (zi @Int.ofNat_lt (zi hil @Zj)))) ?_;intro g6;refine AW.weak (Z7 (fun o=>o==2 || o==6) (l:=[(2,.view .new (.agg [Zb c1 6 Zw sl,Zb c2 2 Zea env])),(4,.ptr 4 g4 0),(5,.int .i64 0),(6,.view .new (.agg [.int .u8 op,.int .i64 num,.str name,.int .i64 na,.int .i64 nb,.int .i64 nc]))]) (m:=[(4,.cells .new g4 0 [.int .u8 0,.int .i64 0,.bool false])]) ?_ ?_) ?_
 ·refine Zs ?_
  refine ⟨?_,Zl _,Zl _,?_⟩
  ·exact Fz.ptr (v := .agg [Zb c1 6 Zw sl,Zb c2 2 Zea env]) (c := .new) (fz:=0) rfl zp
  ·exact Fz.ptr (v := .agg [.int .u8 op,.int .i64 num,.str name,.int .i64 na,.int .i64 nb,.int .i64 nc]) (c := .new) (fz:=0) rfl zp
 ·simp only [Zy,Z2,and_true]
  exact FzO.keep rfl zp
 simp only at ho hA ⊢;subst ho;have hU:Zbu 6 A=A.onB fun b => .tru (!b):=rfl;rw [hU];refine Z ?_;refine CallA.pure hG (by kernel_rfl) ?_;simp -implicitDefEqProofs only[go_sem,seval,↓reduceIte,Za,Ze,Zfc,Zj];refine (Z3f G hG c1.ent c2.ent sl env na A hA fA).mono ?_;rintro _ _ rfl;simp -implicitDefEqProofs only[go_sem,seval,↓reduceIte,Zxh]
 by_cases hAe:∃ e,A.need 2 = .err e
 ·obtain ⟨e,he⟩:=hAe
  have h00:¬ e=0:=by
   cases A with
   | err e'=>cases he;exact Zqc fA rfl
   | tru a=>cases he
   | num a=>cases he;decide
  rw [Z6a _ he,he]
  repeat first
   | (refine Z4 (by kernel_rfl) ?_;simp -implicitDefEqProofs only[go_sem,seval,↓reduceIte,EV.er,EV.tr])
   | (refine AW.region (by kernel_rfl) ?_;simp -implicitDefEqProofs only[go_sem,seval,↓reduceIte,EV.er,EV.tr])
   | refine Zv ?_
   | refine AW.block ?_
   | refine Zfa rfl ?_
   | refine Z8 rfl ?_
   | (refine AW.skip ?_;simp -implicitDefEqProofs only[go_sem,seval,↓reduceIte,EV.er,EV.tr])
   | (refine AW.exit ?_;simp -implicitDefEqProofs only[go_sem,seval,↓reduceIte,EV.er,EV.tr])
   | (refine AW.ret ?_;simp -implicitDefEqProofs only[go_sem,seval,↓reduceIte,EV.er,EV.tr];refine Zk ?_)
  refine CallA.pure hG (by kernel_rfl) ?_;simp -implicitDefEqProofs only[go_sem,seval,↓reduceIte,Za,Ze,Zfc,Zj];refine (Zla G _ _).mono ?_;rintro _ _ rfl;simp -implicitDefEqProofs only[go_sem,seval,↓reduceIte,if_neg h00,Zpa,Zka];exact Zr
 obtain ⟨b,rfl⟩:=Zkb fun e he=>hAe ⟨e,he⟩;rw [Zxa];simp -implicitDefEqProofs only[go_sem,seval,↓reduceIte,EV.er,EV.tr];refine Z ?_;refine CallA.pure hG (by kernel_rfl) ?_;simp -implicitDefEqProofs only[go_sem,seval,↓reduceIte,Za,Ze,Zfc,Zj];refine (Zla G _ 0).mono ?_;rintro _ _ rfl;simp -implicitDefEqProofs only[go_sem,seval,↓reduceIte,Zpa,Zka];exact Zr
theorem ite10 (G:Nat→V) (hG:GOk G) (sl:Sl XN) (hs:sl.l.length<1000000) (env:Sl (List UInt8 × Int)) (i:Nat) (n:XN) (hn:sl.l[i]? = some n) (A B C:EV) (ho:n.op=22) (hA:RC G sl env n.a A) (hB:RC G sl env n.b B) (hC:RC G sl env n.c C) (fA:A.fine):RC G sl env i (A.onB fun t=>if t=true then B else C):=by
 intro c1 c2;have hil:i<sl.l.length:=(List.getElem?_eq_some_iff.1 hn).1;obtain ⟨op,num,name,na,nb,nc⟩:=n;refine Zo 0 163 [.cell 4 43,.tmp 5] Tryz.func46 fun X=>?_;refine Z4 (by kernel_rfl) ?_;simp -implicitDefEqProofs only[go_sem,seval,↓reduceIte,Zfc];intro g2 g4;refine Z1f (zi hn (zi @Int.natCast_nonneg (zi @Int.ofNat_lt (zi hil @Zj)))) ?_;intro g6;refine AW.weak (Z7 (fun o=>o==2 || o==6) (l:=[(2,.view .new (.agg [Zb c1 6 Zw sl,Zb c2 2 Zea env])),(4,.ptr 4 g4 0),(5,.int .i64 0),(6,.view .new (.agg [.int .u8 op,.int .i64 num,.str name,.int .i64 na,.int .i64 nb,.int .i64 nc]))]) (m:=[(4,.cells .new g4 0 [.int .u8 0,.int .i64 0,.bool false])]) ?_ ?_) ?_
 ·refine Zs ?_
  refine ⟨?_,Zl _,Zl _,?_⟩
  ·exact Fz.ptr (v := .agg [Zb c1 6 Zw sl,Zb c2 2 Zea env]) (c := .new) (fz:=0) rfl zp
  ·exact Fz.ptr (v := .agg [.int .u8 op,.int .i64 num,.str name,.int .i64 na,.int .i64 nb,.int .i64 nc]) (c := .new) (fz:=0) rfl zp
 ·simp only [Zy,Z2,and_true]
  exact FzO.keep rfl zp
 simp only at ho hA hB hC ⊢;subst ho;refine Z ?_;refine CallA.pure hG (by kernel_rfl) ?_;simp -implicitDefEqProofs only[go_sem,seval,↓reduceIte,Za,Ze,Zfc,Zj];refine (Z3f G hG c1.ent c2.ent sl env na A hA fA).mono ?_;rintro _ _ rfl;simp -implicitDefEqProofs only[go_sem,seval,↓reduceIte,Zxh]
 by_cases hAe:∃ e,A.need 2 = .err e
 ·obtain ⟨e,he⟩:=hAe
  have h0:(e != 0)=true:=by
   cases A with
   | err e'=>cases he;simpa using Zqc fA rfl
   | tru a=>cases he
   | num a=>cases he;rfl
  rw [Z6a _ he,he]
  repeat first
   | (refine Z4 (by kernel_rfl) ?_;simp -implicitDefEqProofs only[go_sem,seval,↓reduceIte,h0,EV.er,EV.tr])
   | (refine AW.region (by kernel_rfl) ?_;simp -implicitDefEqProofs only[go_sem,seval,↓reduceIte,h0,EV.er,EV.tr])
   | refine Zv ?_
   | refine AW.block ?_
   | refine Zfa rfl ?_
   | refine Z8 rfl ?_
   | (refine AW.skip ?_;simp -implicitDefEqProofs only[go_sem,seval,↓reduceIte,h0,EV.er,EV.tr])
   | (refine AW.exit ?_;simp -implicitDefEqProofs only[go_sem,seval,↓reduceIte,h0,EV.er,EV.tr])
   | (refine AW.ret ?_;simp -implicitDefEqProofs only[go_sem,seval,↓reduceIte,h0,EV.er,EV.tr];refine Zk ?_)
  rfl
 obtain ⟨b,rfl⟩:=Zkb fun e he=>hAe ⟨e,he⟩;rw [Zxa];simp -implicitDefEqProofs only[go_sem,seval,↓reduceIte,EV.er,EV.tr];cases b
 ·have hR:(EV.tru false).onB (fun t=>if t=true then B else C)=C:=rfl
  rw [hR];refine Z ?_;refine CallA.pure hG (by kernel_rfl) ?_;simp -implicitDefEqProofs only[go_sem,seval,↓reduceIte,Za,Ze,Zfc,Zj];refine (hC c1.ent c2.ent).mono ?_;rintro _ _ rfl;simp -implicitDefEqProofs only[go_sem,seval,↓reduceIte,Zpa,Zka];exact Zr
 ·have hR:(EV.tru true).onB (fun t=>if t=true then B else C)=B:=rfl
  rw [hR];refine Z ?_;refine CallA.pure hG (by kernel_rfl) ?_;simp -implicitDefEqProofs only[go_sem,seval,↓reduceIte,Za,Ze,Zfc,Zj];refine (hB c1.ent c2.ent).mono ?_;rintro _ _ rfl;simp -implicitDefEqProofs only[go_sem,seval,↓reduceIte,Zpa,Zka];exact Zr
theorem bin10 (G:Nat→V) (hG:GOk G) (sl:Sl XN) (hs:sl.l.length<1000000) (env:Sl (List UInt8 × Int)) (i:Nat) (n:XN) (hn:sl.l[i]? = some n) (A B:EV) (ho:7≤n.op∧n.op≤21) (hA:RC G sl env n.a A) (hB:RC G sl env n.b B) (fA:A.fine) (fB:B.fine):RC G sl env i (Zud n.op A B):=by
 intro c1 c2;have hil:i<sl.l.length:=(List.getElem?_eq_some_iff.1 hn).1;obtain ⟨op,num,name,na,nb,nc⟩:=n;refine Zo 0 163 [.cell 4 43,.tmp 5] Tryz.func46 fun X=>?_;refine Z4 (by kernel_rfl) ?_;simp -implicitDefEqProofs only[go_sem,seval,↓reduceIte,Zfc];intro g2 g4;refine Z1f (zi hn (zi @Int.natCast_nonneg (zi @Int.ofNat_lt (zi hil @Zj)))) ?_;intro g6;refine AW.weak (Z7 (fun o=>o==2 || o==6) (l:=[(2,.view .new (.agg [Zb c1 6 Zw sl,Zb c2 2 Zea env])),(4,.ptr 4 g4 0),(5,.int .i64 0),(6,.view .new (.agg [.int .u8 op,.int .i64 num,.str name,.int .i64 na,.int .i64 nb,.int .i64 nc]))]) (m:=[(4,.cells .new g4 0 [.int .u8 0,.int .i64 0,.bool false])]) ?_ ?_) ?_
 ·refine Zs ?_
  refine ⟨?_,Zl _,Zl _,?_⟩
  ·exact Fz.ptr (v := .agg [Zb c1 6 Zw sl,Zb c2 2 Zea env]) (c := .new) (fz:=0) rfl zp
  ·exact Fz.ptr (v := .agg [.int .u8 op,.int .i64 num,.str name,.int .i64 na,.int .i64 nb,.int .i64 nc]) (c := .new) (fz:=0) rfl zp
 ·simp only [Zy,Z2,and_true]
  exact FzO.keep rfl zp
 simp only at ho hA hB ⊢
 have n1:(op==1)=false:=by simp;omega
 have n2:(op==2)=false:=by simp;omega
 have n3:(op==3)=false:=by simp;omega
 have n4:(op==4)=false:=by simp;omega
 have n5:(op==5)=false:=by simp;omega
 have n6:(op==6)=false:=by simp;omega
 have o21:decide (op≤21)=true:=by simp;omega
 by_cases h15:op≤15
 ·have o15:decide (op≤15)=true:=by simp;omega
  refine Zf (zi n1 (zi n2 (zi n3 (zi n4 (zi n5 (zi n6 o15)))))) ?_;refine CallA.pure hG (by kernel_rfl) ?_;simp -implicitDefEqProofs only[go_sem,seval,↓reduceIte,Za,Ze,Zfc,Zj];refine (two10 G hG c1.ent c2.ent sl env ⟨op,num,name,na,nb,nc⟩ A B ⟨ho.1,h15⟩ hA hB fA fB).mono ?_;rintro _ _ rfl;simp -implicitDefEqProofs only[go_sem,seval,↓reduceIte,Zpa,Zka];exact Zr
 have o15:decide (op≤15)=false:=by simp;omega
 by_cases h17:op≤17
 ·have o17:decide (op≤17)=true:=by simp;omega
  refine Zf (zi n1 (zi n2 (zi n3 (zi n4 (zi n5 (zi n6 (zi o15 o17))))))) ?_;refine CallA.pure hG (by kernel_rfl) ?_;simp -implicitDefEqProofs only[go_sem,seval,↓reduceIte,Za,Ze,Zfc,Zj];refine (alike10 G hG c1.ent c2.ent sl env ⟨op,num,name,na,nb,nc⟩ A B ⟨show 16≤op by omega,h17⟩ hA hB fA fB).mono ?_;rintro _ _ rfl;simp -implicitDefEqProofs only[go_sem,seval,↓reduceIte,Zpa,Zka];exact Zr
 have o17:decide (op≤17)=false:=by simp;omega
 refine Zf (zi n1 (zi n2 (zi n3 (zi n4 (zi n5 (zi n6 (zi o15 (zi o17 o21)))))))) ?_;refine CallA.pure hG (by kernel_rfl) ?_;simp -implicitDefEqProofs only[go_sem,seval,↓reduceIte,Za,Ze,Zfc,Zj];refine (logic10 G hG c1.ent c2.ent sl env ⟨op,num,name,na,nb,nc⟩ A B ⟨show 18≤op by omega,ho.2⟩ hA hB fA fB).mono ?_;rintro _ _ rfl;simp -implicitDefEqProofs only[go_sem,seval,↓reduceIte,Zpa,Zka];exact Zr
theorem Zfu (G:Nat→V) (hG:GOk G) (sl:Sl XN) (hs:sl.l.length<1000000) (env:Sl (List UInt8 × Int)) (hv:env.l.length<1000000) (hm:∀ p∈env.l,Z0b p.2=true) (x:X) :
  ∀ b:Nat,x.ok=true→Zwd x→At sl.l x b→RC G sl env ((b+x.size-1:Nat):Int) (evX env.l x):=by
 induction x with
 | leaf op num name =>
  intro b h hn hat;simp only [X.ok,Bool.and_eq_true,decide_eq_true_eq] at h;have hr:=(Zxd h.1).1;exact leaf10 G hG sl hs env hv _ _ hat.get ⟨hr,h.2⟩
 | un op a ih =>
  intro b h hn hat;have hsz:=a.size_pos;simp only [X.ok,Bool.and_eq_true,decide_eq_true_eq] at h;have na:Zwd a:=fun o n nm hm=>hn o n nm (by simp [Zcc,hm]);have hA:=ih b h.2 na hat.un;rw [show ((b+a.size-1:Nat):Int)=(b:Int)+a.size-1 by omega] at hA
  obtain h5 | h6:op=5∨op=6:=by omega
  ·exact neg10 G hG sl hs env _ _ hat.get (evX env.l a) h5 hA (Zac hm a h.2 na)
  ·exact not10 G hG sl hs env _ _ hat.get (evX env.l a) h6 hA (Zac hm a h.2 na)
 | bin op a c iha ihc =>
  intro b h hn hat;have hsz:=a.size_pos;have hsc:=c.size_pos;simp only [X.ok,Bool.and_eq_true,decide_eq_true_eq] at h;have na:Zwd a:=fun o n nm hm=>hn o n nm (by simp [Zcc,hm]);have nc:Zwd c:=fun o n nm hm=>hn o n nm (by simp [Zcc,hm]);have hA:=iha b h.1.2 na hat.bin.1;have hC:=ihc (b+a.size) h.2 nc hat.bin.2;rw [show ((b+a.size-1:Nat):Int)=(b:Int)+a.size-1 by omega] at hA;rw [show ((b+a.size+c.size-1:Nat):Int)=(b:Int)+a.size+c.size-1 by omega] at hC;exact bin10 G hG sl hs env _ _ hat.get (evX env.l a) (evX env.l c) h.1.1 hA hC (Zac hm a h.1.2 na) (Zac hm c h.2 nc)
 | ite a c d iha ihc ihd =>
  intro b h hn hat;have hsz:=a.size_pos;have hsc:=c.size_pos;have hsd:=d.size_pos;simp only [X.ok,Bool.and_eq_true] at h;have na:Zwd a:=fun o n nm hm=>hn o n nm (by simp [Zcc,hm]);have nc:Zwd c:=fun o n nm hm=>hn o n nm (by simp [Zcc,hm]);have nd:Zwd d:=fun o n nm hm=>hn o n nm (by simp [Zcc,hm]);have hA:=iha b h.1.1 na hat.ite.1;have hC:=ihc (b+a.size) h.1.2 nc hat.ite.2.1;have hD:=ihd (b+a.size+c.size) h.2 nd hat.ite.2.2;rw [show ((b+a.size-1:Nat):Int)=(b:Int)+a.size-1 by omega] at hA;rw [show ((b+a.size+c.size-1:Nat):Int)=(b:Int)+a.size+c.size-1 by omega] at hC;rw [show ((b+a.size+c.size+d.size-1:Nat):Int)=(b:Int)+a.size+c.size+d.size-1 by omega] at hD;exact ite10 G hG sl hs env _ _ hat.get (evX env.l a) (evX env.l c) (evX env.l d) rfl hA hC hD (Zac hm a h.1.1 na)
end Go.Hs
end

section
namespace Go.Hs
def sgT (op:Nat):List UInt8:=(tabL.getD op ⟨[],0,0⟩).text
def wNot:List UInt8:=[110,111,116]
def wTrue:List UInt8:=[116,114,117,101]
def wFalse:List UInt8:=[102,97,108,115,101]
inductive Gr:Int→List (List UInt8)→X→Prop where
 | num {n:Int} {t:List UInt8} {v:Int}:isP t=1→Zyc (Zjf t)=(v,0)→Gr n [t] (.leaf 1 v [])
 | name {n:Int} {t:List UInt8}:isP t=2→Gr n [t] (.leaf 2 0 t)
 | tr {n:Int}:Gr n [wTrue] (.leaf 3 0 [])
 | fa {n:Int}:Gr n [wFalse] (.leaf 4 0 [])
 | neg {n:Int} {ts:List (List UInt8)} {a:X}:n≤9→Gr 9 ts a→Gr n ([45]::ts) (.un 5 a)
 | not {n:Int} {ts:List (List UInt8)} {a:X}:n≤9→Gr 9 ts a→Gr n (wNot::ts) (.un 6 a)
 | par {n:Int} {ts:List (List UInt8)} {a:X}:Gr 1 ts a→Gr n ([40]::(ts++[[41]])) a
 | bin {n:Int} {op:Nat} {ta tb:List (List UInt8)} {a b:X}:7≤op→op≤21→n≤lvl op→Gr (lvl op) ta a→Gr (lvl op+1) tb b→Gr n (ta++sgT op::tb) (.bin op a b)
 | ite {n:Int} {ta tb tc:List (List UInt8)} {a b c:X}:Gr 1 ta a→Gr 1 tb b→Gr 1 tc c→Gr n (wIf::(ta++Zbp::(tb++Zcp::(tc++[Zuk])))) (.ite a b c)
theorem Gr.mono {n m:Int} {ts:List (List UInt8)} {x:X} (h:Gr n ts x) (hm:m≤n):Gr m ts x:=by
 cases h with
 | num h1 h2=>exact .num h1 h2
 | name h1=>exact .name h1
 | tr=>exact .tr
 | fa=>exact .fa
 | neg h1 h2=>exact .neg (by omega) h2
 | not h1 h2=>exact .not (by omega) h2
 | par h1=>exact .par h1
 | bin h1 h2 h3 h4 h5=>exact .bin h1 h2 (by omega) h4 h5
 | ite h1 h2 h3=>exact .ite h1 h2 h3
theorem Gr.pos {n:Int} {ts:List (List UInt8)} {x:X} (h:Gr n ts x):0<ts.length:=by
 cases h<;>simp<;>omega
def Zw3 (t:Tk):List UInt8:=if (isP t.text:Int)=t.kind then t.text else []
theorem next_wd {l:List Tk} {i:Nat} {w:List UInt8} (h:(l.map Zw3)[i]? = some w):(Zda l i).text=w∧(Zda l i).kind=isP w:=by
 have hk:=Zql l i
 have:(Zda l i).text=w:=by
  rw [List.getElem?_map] at h;unfold Zda
  cases hg:l[i]? with
  | none=>rw [hg] at h;cases h
  | some t =>
   rw [hg] at h;simp only [Option.map_some,Option.some.injEq] at h;simp only;rw [← h];unfold Zw3
   split<;>rfl
 exact ⟨this,by rw [← hk,this]⟩
theorem Zj1 {l:List Tk} {i:Nat} (h:i<l.length):(l.map Zw3)[i]? = some (Zda l i).text:=by
 have hg:(l.map Zw3)[i]? = some (Zw3 l[i]):=by rw [List.getElem?_map,List.getElem?_eq_getElem h];rfl
 rw [hg,(next_wd hg).1]
def Seg (l:List Tk) (i:Nat) (ts:List (List UInt8)):Prop:=∃ pre post,l.map Zw3=pre++(ts++post)∧pre.length=i
theorem Seg.le {l:List Tk} {i:Nat} {b:List (List UInt8)} (h:Seg l i b):i+b.length≤l.length:=by
 obtain ⟨pre,post,e,hp⟩:=h;have:=congrArg List.length e;simp only [List.length_map,List.length_append] at this;omega
theorem Seg.app {l:List Tk} {i:Nat} {a b:List (List UInt8)} (h:Seg l i a) (h2:Seg l (i+a.length) b):Seg l i (a++b):=by
 obtain ⟨pre,post,e,hp⟩:=h;obtain ⟨pre2,post2,e2,hp2⟩:=h2;refine ⟨pre,post2,?_,hp⟩;rw [e] at e2
 have h1:pre++(a++post)=(pre++a)++post:=by simp
 rw [h1] at e2;obtain ⟨q1,q2⟩:=List.append_inj e2 (by simp [hp,hp2]);rw [e,q2];simp
theorem Seg.one {l:List Tk} {i:Nat} {w:List UInt8} (hi:i<l.length) (h:(Zda l i).text=w):Seg l i [w]:=by
 have hg:=Zj1 hi;rw [h] at hg;obtain ⟨q1,q2⟩:=List.getElem?_eq_some_iff.1 hg;refine ⟨(l.map Zw3).take i,(l.map Zw3).drop (i+1),?_,?_⟩
 ·rw [← q2,List.singleton_append,← List.drop_eq_getElem_cons q1,List.take_append_drop]
 ·rw [List.length_take];omega
def after (r:RS) (k:Nat) (x:X):RS:=⟨r.i+k,r.nodes++x.row r.nodes.length,r.e⟩
theorem Zth (r:RS) (k:Nat) (x:X):(after r k x).last=(r.nodes.length:Int)+x.size-1:=by
 show (((r.nodes++x.row r.nodes.length).length:Nat):Int)-1=_
 rw [List.length_append,X.row_len];omega
theorem Zb1 {t:List UInt8} (h:isP t=1):0≤(Zyc (Zjf t)).1:=by
 have hd:=(isP_dig h).2
 have h1:(Zjf t).all Zya=true∧Zjf t≠[]:=by
  unfold Zjf
  split
  ·exact ⟨by decide,by simp⟩
  ·rename_i hn
   refine ⟨?_,hn⟩;rw [List.all_eq_true] at hd ⊢;exact fun x hx=>hd x ((List.dropWhile_sublist _).mem hx)
 obtain ⟨h1,h2⟩:=h1;generalize Zjf t=s at h1 h2
 have hh':(s.head? == some 45)=false:=by
  cases s with
  | nil=>exact absurd rfl h2
  | cons c r =>
   rw [beq_eq_false_iff_ne];intro hc
   have hc:c=45:=by simpa using hc
   subst hc;rw [List.all_cons] at h1
   revert h1
   simp [Zya]
 unfold Zyc;rw [hh'];simp only [Bool.false_eq_true,if_false,or_false]
 split
 ·exact Int.le_refl _
 ·unfold told
  split
  ·exact Int.natCast_nonneg _
  ·exact Int.le_refl _
theorem Gr.ok {n:Int} {ts:List (List UInt8)} {x:X} (h:Gr n ts x):x.ok=true:=by
 induction h with
 | @num n t v h1 h2 =>
  have hp:=Zb1 h1;rw [h2] at hp;have hp:0≤v:=hp
  have:Zxc ⟨1,v,[],-1,-1,-1⟩=true:=by
   unfold Zxc;rw [if_neg (by simp;omega),if_neg (by simp)];rfl
  simp only [X.ok,this,Bool.true_and];rfl
 | @name n t h1 =>
  have:Zxc ⟨2,0,t,-1,-1,-1⟩=true:=by
   unfold Zxc;rw [if_neg (by simp),if_pos rfl,h1];rfl
  simp only [X.ok,this,Bool.true_and];rfl
 | tr=>rfl
 | fa=>rfl
 | neg _ _ ih=>simp only [X.ok,ih,Bool.and_true];rfl
 | not _ _ ih=>simp only [X.ok,ih,Bool.and_true];rfl
 | par _ ih=>exact ih
 | bin h1 h2 _ _ _ ih1 ih2 =>
  simp only [X.ok,ih1,ih2,Bool.and_true,Bool.and_eq_true,decide_eq_true_eq];omega
 | ite _ _ _ i1 i2 i3=>simp only [X.ok,i1,i2,i3];rfl
def Z4o (l:List Tk) (n:Int) (r r':RS):Prop:=∃ ts x,Gr n ts x∧Seg l r.i ts∧r'=after r ts.length x
theorem Z5m {l:List Tk} {w:List UInt8} {r:RS} (h:(Zeg l w r).1=true):Zeg l w r=(true,r.adv)∧Seg l r.i [w]:=by
 unfold Zeg at h ⊢
 split at h
 ·cases h
 ·rename_i hn
  rw [if_neg hn];simp only [not_or,Decidable.not_not] at hn;exact ⟨rfl,Seg.one (Zdf hn.1) hn.2⟩
theorem Zed {x:Bool × RS} {k:RS→Bool × RS} (h:(andThen x k).1=true):x.1=true∧(k x.2).1=true∧andThen x k=k x.2:=by
 obtain ⟨b,r⟩:=x;cases b
 ·cases h
 ·exact ⟨rfl,h,rfl⟩
theorem Zhs (r:RS) (k:Nat) (x:X) (n:XN):(after r k x).put n=⟨r.i+k,r.nodes++(x.row r.nodes.length++[n]),r.e⟩:=by
 show RS.mk _ _ _=_
 congr 1
 show r.nodes++_++[n]=_
 rw [List.append_assoc]
theorem sgT_of {t:List UInt8} {op:Nat} (h:ofI t 2=some op):sgT op=t:=by
 obtain ⟨s,h1,h2,_⟩:=Znl h;unfold sgT;rw [List.getD_eq_getElem?_getD,h1];exact h2
theorem Z52 {l:List Tk} {inner:Inner} (hin:∀ n r,n=1∨n=9→(inner n r).1=true→Z4o l n r (inner n r).2) {r:RS} (h:(Zdd l inner r).1=true):Z4o l 9 r (Zdd l inner r).2:=by
 have hk:=Zql l r.i;have hlt:(Zda l r.i).kind≠0→r.i<l.length:=Zdf
 have hP:Zdd l inner r=if (Zda l r.i).kind=1 then Zhd r (Zda l r.i).text
  else if (Zda l r.i).kind=2 then Zfl r 2 0 (Zda l r.i).text
  else if (Zda l r.i).kind=0 then (false,r.err 80)
  else if (ofP (Zda l r.i).text 1).2 then andThen (inner 9 r.adv) fun a=>(true,a.put ⟨(ofP (Zda l r.i).text 1).1,0,[],a.last,-1,-1⟩)
  else if (Zda l r.i).text=[40] then andThen (inner 1 r.adv) (Zeg l [41])
  else if (Zda l r.i).text=wIf then Zjb l inner r
  else if (ofP (Zda l r.i).text 0).2∧(Zda l r.i).kind=3 then Zfl r (ofP (Zda l r.i).text 0).1 0 []
  else (false,r.err 80):=rfl
 generalize Zdd l inner r=res at h hP ⊢
 by_cases k0:(Zda l r.i).kind=0
 ·rw [k0] at hP
  rw [if_neg (by decide),if_neg (by decide),if_pos rfl] at hP;rw [hP] at h;cases h
 have hone:=Seg.one (l:=l) (i:=r.i) (hlt k0) rfl;generalize Zda l r.i=t at hP hk hone k0;obtain ⟨k,t,p⟩:=t;simp only at hP hk hone k0
 by_cases k1:k=1
 ·rw [if_pos k1] at hP
  have ht:isP t=1:=by omega
  unfold Zhd at hP
  by_cases he:(Zyc (Zjf t)).2=0
  ·rw [if_neg (by simpa using he)] at hP
   refine ⟨[t],.leaf 1 (Zyc (Zjf t)).1 [],.num ht (by rw [← he]),hone,by rw [hP];rfl⟩
  ·rw [if_pos he] at hP
   rw [hP] at h;cases h
 rw [if_neg k1] at hP
 by_cases k2:k=2
 ·rw [if_pos k2] at hP
  exact ⟨[t],.leaf 2 0 t,.name (by omega),hone,by rw [hP];rfl⟩
 rw [if_neg k2,if_neg k0] at hP
 cases h1:ofI t 1 with
 | some op =>
  have e1:ofP t 1=(op,true):=by unfold ofP;rw [h1]
  rw [e1,if_pos rfl] at hP;rw [hP] at h;obtain ⟨q1,_,q3⟩:=Zed h;obtain ⟨ts,x,g1,g2,g3⟩:=hin 9 r.adv (.inr rfl) q1;rw [q3] at hP;simp only at hP;rw [g3] at hP;have hs:Seg l r.i (t::ts):=hone.app (b:=ts) g2
  have hres:res.2=after r (ts.length+1) (.un op x):=by
   rw [hP,Zth];simp only [Zhs]
   show RS.mk _ _ _=RS.mk _ _ _
   congr 1
   show r.i+1+ts.length=_
   omega
  rcases ofI_one h1 with ⟨rfl,rfl⟩ | ⟨rfl,rfl⟩
  ·exact ⟨_,_,.neg (Int.le_refl _) g1,hs,hres⟩
  ·exact ⟨_,_,.not (Int.le_refl _) g1,hs,hres⟩
 | none =>
 have e1:(ofP t 1).2=false:=by unfold ofP;rw [h1]
 rw [e1,if_neg (by simp)] at hP
 by_cases h2:t=[40]
 ·rw [if_pos h2] at hP
  subst h2;rw [hP] at h;obtain ⟨q1,q2,q3⟩:=Zed h;obtain ⟨ts,x,g1,g2,g3⟩:=hin 1 r.adv (.inl rfl) q1;rw [q3,g3] at hP;rw [g3] at q2;obtain ⟨q4,q5⟩:=Z5m q2;rw [q4] at hP;refine ⟨_,_,.par g1,hone.app (b:=ts++[[41]]) (g2.app q5),?_⟩;rw [hP]
  show RS.mk _ _ _=RS.mk _ _ _
  congr 1
  show r.i+1+ts.length+1=_
  simp only [List.length_cons,List.length_append,List.length_nil];omega
 rw [if_neg h2] at hP
 by_cases h3:t=wIf
 ·rw [if_pos h3] at hP
  subst h3;unfold Zjb at hP;rw [hP] at h;obtain ⟨a1,a2,a3⟩:=Zed h;obtain ⟨b1,b2⟩:=Z5m a1;rw [a3] at hP;rw [b1] at hP a2;simp only at hP a2;obtain ⟨c1,c2,c3⟩:=Zed a2;obtain ⟨ta,xa,ga,sa,ra⟩:=hin 1 r.adv (.inl rfl) c1;rw [c3,ra] at hP;rw [ra] at c2;obtain ⟨d1,d2,d3⟩:=Zed c2;obtain ⟨e1,e2⟩:=Z5m d1;rw [d3,e1] at hP;rw [e1] at d2;simp only at hP d2;obtain ⟨f1,f2,f3⟩:=Zed d2;obtain ⟨tb,xb,gb,sb,rb⟩:=hin 1 _ (.inl rfl) f1;rw [f3,rb] at hP;rw [rb] at f2;obtain ⟨i1,i2,i3⟩:=Zed f2;obtain ⟨j1,j2⟩:=Z5m i1;rw [i3,j1] at hP;rw [j1] at i2;simp only at hP i2;obtain ⟨k1,k2,k3⟩:=Zed i2;obtain ⟨tc,xc,gc,sc,rc⟩:=hin 1 _ (.inl rfl) k1;rw [k3,rc] at hP;rw [rc] at k2;obtain ⟨m1,m2,m3⟩:=Zed k2;obtain ⟨n1,n2⟩:=Z5m m1;rw [m3,n1] at hP;simp only [Zth] at hP;refine ⟨_,_,.ite ga gb gc,?_,?_⟩
  ·exact hone.app (b:=_) (sa.app (e2.app (b:=_) (sb.app (j2.app (b:=_) (sc.app n2)))))
  ·rw [hP]
   show RS.mk _ _ _=RS.mk _ _ _
   congr 1
   ·show r.i+1+ta.length+1+tb.length+1+tc.length+1=_
    simp only [List.length_append,List.length_cons,List.length_nil];omega
   ·have q1:(after r.adv ta.length xa).adv.nodes=r.nodes++xa.row r.nodes.length:=rfl
    have q2:(after (after r.adv ta.length xa).adv tb.length xb).adv.nodes=(after r.adv ta.length xa).adv.nodes++xb.row ((after r.adv ta.length xa).adv.nodes.length:Nat):=rfl
    show (after (after r.adv ta.length xa).adv tb.length xb).adv.nodes++xc.row ((after (after r.adv ta.length xa).adv tb.length xb).adv.nodes.length:Nat)++[_]=_
    have q3:r.adv.nodes=r.nodes:=rfl;simp only [q2,q1,q3,List.length_append,X.row_len,X.row,List.append_assoc,Int.natCast_add,Int.add_assoc]
 rw [if_neg h3] at hP
 cases h4:ofI t 0 with
 | none =>
  have e0:(ofP t 0).2=false:=by unfold ofP;rw [h4]
  rw [e0,if_neg (by simp)] at hP;rw [hP] at h;cases h
 | some op =>
  have e0:ofP t 0=(op,true):=by unfold ofP;rw [h4]
  rw [e0] at hP
  have hk3:k=3:=by
   rcases Zxp h4 with ⟨rfl,_⟩ | ⟨rfl,_⟩
   ·rw [← hk];decide +kernel
   ·rw [← hk];decide +kernel
  rw [if_pos ⟨rfl,hk3⟩] at hP
  rcases Zxp h4 with ⟨rfl,rfl⟩ | ⟨rfl,rfl⟩
  ·exact ⟨_,_,.tr,hone,by rw [hP];rfl⟩
  ·exact ⟨_,_,.fa,hone,by rw [hP];rfl⟩
theorem Z8w {l:List Tk} {inner:Inner} (hin:∀ n r,1≤n→n≤9→(inner n r).1=true→Z4o l n r (inner n r).2∧Ends l n (inner n r).2.i) {n:Int} {r0:RS} :
  ∀ (m:Nat) (r:RS) (k:Int) (ts:List (List UInt8)) (x:X),Gr k ts x→Seg l r0.i ts→r=after r0 ts.length x→n≤k→(∀ op,Zqo l r.i=some op→lvl op≤k)→(Zkf l inner n m r).1=true→Z4o l n r0 (Zkf l inner n m r).2
 | 0,r,k,ts,x,g,s,e,hk,_,_=>⟨ts,x,g.mono hk,s,e⟩
 | m+1,r,k,ts,x,g,s,e,hk,ho,h=>by
  rw [Zkf] at h ⊢
  cases hop:Zqo l r.i with
  | none=>exact ⟨ts,x,g.mono hk,s,e⟩
  | some op =>
   rw [hop] at h;simp only at h ⊢
   by_cases hl:lvl op<n
   ·rw [if_pos hl];exact ⟨ts,x,g.mono hk,s,e⟩
   rw [if_neg hl] at h ⊢;obtain ⟨p1,p2,p3,p4⟩:=Zf1 hop;obtain ⟨q1,q2,q3⟩:=Zed h;obtain ⟨⟨tb,b,gb,sb,rb⟩,hend⟩:=hin (lvl op+1) r.adv (by omega) (by omega) q1;rw [q3];have hw:sgT op=(Zda l r.i).text:=sgT_of (by rw [← Z3w];exact hop);have hg2:Gr (lvl op) (ts++sgT op::tb) (.bin op x b) := .bin p1 p2 (Int.le_refl _) (g.mono (ho op hop)) gb
   have hri:r.i=r0.i+ts.length:=by rw [e];rfl
   have hone:Seg l r.i [sgT op]:=Seg.one (Zmm hop) hw.symm;have hs2:Seg l r0.i (ts++sgT op::tb):=s.app (by rw [← hri];exact hone.app (b:=tb) sb);rw [rb] at q2 hend ⊢
   have he2:(after r.adv tb.length b).put ⟨(op:Int),0,[],r.last,(after r.adv tb.length b).last,-1⟩=after r0 (ts++sgT op::tb).length (.bin op x b):=by
    rw [Zth,Zhs,e,Zth]
    show RS.mk _ _ _=RS.mk _ _ _
    congr 1
    ·show r0.i+ts.length+1+tb.length=_
     simp only [List.length_append,List.length_cons];omega
    ·have q1:(after r0 ts.length x).adv.nodes=r0.nodes++x.row r0.nodes.length:=rfl
     simp only [q1,List.length_append,X.row_len,X.row,List.append_assoc,Int.natCast_add]
   refine Z8w hin m _ (lvl op) _ _ hg2 hs2 he2 (by omega) ?_ q2;intro op' ho';have:=hend op' ho';omega
theorem Z7s {l:List Tk}:∀ (f:Nat) (n:Int) (r:RS),1≤n→n≤9→(Zba l f n r).1=true→Z4o l n r (Zba l f n r).2
 | 0,n,r,_,_,h=>by cases h
 | f+1,n,r,h1,h9,h=>by
  rw [Zba] at h ⊢;obtain ⟨q1,q2,q3⟩:=Zed h;have hin:∀ n r,1≤n→n≤9→(Zba l f n r).1=true→Z4o l n r (Zba l f n r).2:=fun n r a b c=>Z7s f n r a b c;obtain ⟨ts,x,g,s,e⟩:=Z52 (fun n r hn hb=>hin n r (by omega) (by omega) hb) q1;rw [q3];exact Z8w (fun n r a b c=>⟨hin n r a b c,Zkv c⟩) _ _ 9 ts x g s e h9 (fun op ho=>by have:=Zf1 ho;omega) q2
end Go.Hs
end

section
namespace Go.Hs
def parW (b:Bool) (ts:List (List UInt8)):List (List UInt8):=if b then [40]::(ts++[[41]]) else ts
def X.W:X→Int→List (List UInt8)
 | .leaf op num name,_=>[if op=1 then putR num else if op=2 then name else sgT op.toNat]
 | .un op a,k=>parW (9<k) (sgT op.toNat::a.W 9)
 | .bin op a b,k=>parW (lvl op.toNat<k) (a.W (lvl op.toNat)++sgT op.toNat::b.W (lvl op.toNat+1))
 | .ite a b c,_=>wIf::(a.W 0++Zbp::(b.W 0++Zcp::(c.W 0++[Zuk])))
def X.fit:X→Prop
 | .leaf _ num _=>num≤9223372036854775807
 | .un _ a=>a.fit
 | .bin _ a b=>a.fit∧b.fit
 | .ite a b c=>a.fit∧b.fit∧c.fit
theorem Zzy {op num:Int} {name:List UInt8} (h:(X.leaf op num name).ok=true):(op=1∧0≤num∧name=[])∨(op=2∧num=0∧isP name=2)∨(op=3∧num=0∧name=[])∨(op=4∧num=0∧name=[]):=by
 simp only [X.ok,Bool.and_eq_true,decide_eq_true_eq] at h;obtain ⟨h1,h2⟩:=h;unfold Zxc at h1
 split at h1
 ·cases h1
 rename_i h0;simp only [not_or,Int.not_lt] at h0
 split at h1
 ·simp only [Bool.and_eq_true,beq_iff_eq] at h1
  rename_i q;exact .inr (.inl ⟨q,h1⟩)
 ·rename_i q
  simp only [Bool.and_eq_true,beq_iff_eq,Bool.or_eq_true] at h1 q h0
  rcases h1.2 with q1 | q1
  ·exact .inl ⟨q1,h0.2.2,h1.1⟩
  ·by_cases o1:op=1
   ·exact .inl ⟨o1,h0.2.2,h1.1⟩
   ·by_cases o3:op=3
    ·exact .inr (.inr (.inl ⟨o3,q1,h1.1⟩))
    ·exact .inr (.inr (.inr ⟨by omega,q1,h1.1⟩))
theorem row_inj:∀ (x y:X) (k:Int),x.ok=true→y.ok=true→x.row k=y.row k→x=y:=by
 have last:∀ {a b:List XN} {m n:XN},a++[m]=b++[n]→a=b∧m=n:=by
  intro a b m n h;obtain ⟨q1,q2⟩:=List.append_inj' h rfl;exact ⟨q1,by simpa using q2⟩
 have body:∀ (x:X) (k:Int),∃ b,x.row k=b++[x.top k]:=fun x k=>by obtain ⟨b,h,_⟩:=x.row_top k;exact ⟨b,h⟩
 have opr:∀ (x:X) (k:Int),x.ok=true→match x with
   | .leaf op _ _=>1≤op∧op≤4
   | .un op _=>5≤op∧op≤6
   | .bin op _ _=>7≤op∧op≤21
   | .ite .. => True:=by
  intro x k h
  cases x with
  | leaf op num name=>rcases Zzy h with ⟨h,_⟩ | ⟨h,_⟩ | ⟨h,_⟩ | ⟨h,_⟩<;>(show 1≤op∧op≤4;omega)
  | un op a=>simp only [X.ok,Bool.and_eq_true,decide_eq_true_eq] at h;exact h.1
  | bin op a b=>simp only [X.ok,Bool.and_eq_true,decide_eq_true_eq] at h;exact h.1.1
  | ite=>trivial
 intro x
 induction x with
 | leaf op num name =>
  intro y k hx hy h;have o1:=opr _ k hx;have o2:=opr y k hy;obtain ⟨b,hb⟩:=body y k;rw [hb] at h;obtain ⟨_,ht⟩:=last (a:=[]) h
  cases y with
  | leaf op' num' name'=>simp only [X.top,XN.mk.injEq] at ht;obtain ⟨rfl,rfl,rfl,_⟩:=ht;rfl
  | un op' a'=>simp only [X.top,XN.mk.injEq] at ht o1 o2;omega
  | bin op' a' b'=>simp only [X.top,XN.mk.injEq] at ht o1 o2;omega
  | ite a' b' c'=>simp only [X.top,XN.mk.injEq] at ht o1 o2;omega
 | un op a iha =>
  intro y k hx hy h;have o1:=opr _ k hx;have o2:=opr y k hy
  cases y with
  | leaf op' num' name' =>
   have ht:=(last (b:=[]) h).2;simp only [XN.mk.injEq] at ht o1 o2;omega
  | un op' a' =>
   obtain ⟨hr,ht⟩:=last h;simp only [XN.mk.injEq] at ht;simp only [X.ok,Bool.and_eq_true] at hx hy;rw [iha a' k hx.2 hy.2 hr,ht.1]
  | bin op' a' b' =>
   have ht:=(last h).2;simp only [XN.mk.injEq] at ht o1 o2;omega
  | ite a' b' c' =>
   have ht:=(last h).2;simp only [XN.mk.injEq] at ht o1 o2;omega
 | bin op a b iha ihb =>
  intro y k hx hy h;have o1:=opr _ k hx;have o2:=opr y k hy
  cases y with
  | leaf op' num' name' =>
   have ht:=(last (b:=[]) h).2;simp only [XN.mk.injEq] at ht o1 o2;omega
  | un op' a' =>
   have ht:=(last h).2;simp only [XN.mk.injEq] at ht o1 o2;omega
  | bin op' a' b' =>
   obtain ⟨hr,ht⟩:=last h;simp only [XN.mk.injEq] at ht;simp only [X.ok,Bool.and_eq_true] at hx hy
   have hs:a.size=a'.size:=by omega
   obtain ⟨q1,q2⟩:=List.append_inj hr (by rw [X.row_len,X.row_len];exact hs);rw [← hs] at q2;rw [iha a' k hx.1.2 hy.1.2 q1,ihb b' _ hx.2 hy.2 q2,ht.1]
  | ite a' b' c' =>
   have ht:=(last h).2;simp only [XN.mk.injEq] at ht o1 o2;omega
 | ite a b c iha ihb ihc =>
  intro y k hx hy h;have o2:=opr y k hy
  cases y with
  | leaf op' num' name' =>
   have ht:=(last (b:=[]) h).2;simp only [XN.mk.injEq] at ht o2;omega
  | un op' a' =>
   have ht:=(last h).2;simp only [XN.mk.injEq] at ht o2;omega
  | bin op' a' b' =>
   have ht:=(last h).2;simp only [XN.mk.injEq] at ht o2;omega
  | ite a' b' c' =>
   obtain ⟨hr,ht⟩:=last h;simp only [XN.mk.injEq] at ht;simp only [X.ok,Bool.and_eq_true] at hx hy
   have hs:a.size=a'.size:=by omega
   have hs2:b.size=b'.size:=by omega
   obtain ⟨q1,q2⟩:=List.append_inj hr (by rw [List.length_append,List.length_append,X.row_len,X.row_len,X.row_len,X.row_len];omega);obtain ⟨q3,q4⟩:=List.append_inj q1 (by rw [X.row_len,X.row_len];exact hs);rw [← hs] at q4 q2;rw [← hs2] at q2;rw [iha a' k hx.1.1 hy.1.1 q3,ihb b' _ hx.1.2 hy.1.2 q4,ihc c' _ hx.2 hy.2 q2]
end Go.Hs
end

section
namespace Go.Hs
def Zjd (l:List Tk):List XN × Int × Int:=if (Zba l (l.length+1) 1 ⟨0,[],0⟩).1=false then ([],(Zba l (l.length+1) 1 ⟨0,[],0⟩).2.i,(Zba l (l.length+1) 1 ⟨0,[],0⟩).2.e)
 else if Zia (Zba l (l.length+1) 1 ⟨0,[],0⟩).2.nodes > 64 then ([],0,3) else ((Zba l (l.length+1) 1 ⟨0,[],0⟩).2.nodes,(Zba l (l.length+1) 1 ⟨0,[],0⟩).2.i,0)
def Zni (s:List UInt8):List XN × Int × Int :=
 if (Z1b s).2.2≠0 then ([],(Z1b s).2.1,(Z1b s).2.2)
 else if (Zjd (Z1b s).1).2.2=3 then ([],0,3)
 else if (Zjd (Z1b s).1).2.2=0∧(Zjd (Z1b s).1).2.1=((Z1b s).1.length:Nat) then ((Zjd (Z1b s).1).1,0,0)
 else ([],if (Zjd (Z1b s).1).2.1=((Z1b s).1.length:Nat) then (s.length:Int) else ((Z1b s).1.getD (Zjd (Z1b s).1).2.1.toNat ⟨0,[],0⟩).pos,if (Zjd (Z1b s).1).2.2=0 then 80 else (Zjd (Z1b s).1).2.2)
theorem Za2 {l:List Tk}:0≤(Zjd l).2.1∧(Zjd l).2.1≤(l.length:Nat):=by
 have hok:=((Z1d l (l.length+1) 1 ⟨0,[],0⟩).ok ⟨Nat.zero_le _,Nat.le_refl _⟩).1;unfold Zjd
 split
 ·exact ⟨Int.natCast_nonneg _,Int.ofNat_le.2 hok⟩
 ·split
  ·exact ⟨Int.le_refl _,Int.natCast_nonneg _⟩
  ·exact ⟨Int.natCast_nonneg _,Int.ofNat_le.2 hok⟩
end Go.Hs
end

section
namespace Go.Hs
def ErrS (x:Bool × RS):Prop:=x.1=false→x.2.e≠0
theorem Zmc {x:Bool × RS} {k:RS→Bool × RS} (h1:ErrS x) (h2:x.1=true→ErrS (k x.2)):ErrS (andThen x k):=by
 obtain ⟨b,r⟩:=x;cases b
 ·exact h1
 ·exact h2 rfl
theorem ErrS.ok {x:RS}:ErrS (true,x):=fun h=>by cases h
theorem Z6m (l:List Tk) (w:List UInt8) (r:RS):ErrS (Zeg l w r):=by
 unfold Zeg
 split
 ·intro _;show (80:Int)≠0;decide
 ·exact .ok
theorem Z8s {l:List Tk}:∀ (f:Nat) (n:Int) (r:RS),l.length<f+r.i→r.i≤l.length→ErrS (Zba l f n r)
 | 0,n,r,h,h2=>by omega
 | f+1,n,r,h,h2=>by
  have hin:∀ n (r':RS),r.i<r'.i→r'.i≤l.length→ErrS (Zba l f n r'):=fun n r' a b=>Z8s f n r' (by omega) b;have hbs:=Z1d l f;rw [Zba];refine Zmc ?_ fun _=>?_
  ·have hkl:(Zda l r.i).kind≠0→r.i+1≤l.length:=fun q=>Zdf q
   unfold Zdd
   split
   ·unfold Zhd
    split
    ·rename_i q;intro _;exact q
    ·exact .ok
   split
   ·exact .ok
   split
   ·intro _;show (80:Int)≠0;decide
   rename_i k0;have hlt:=hkl k0
   split
   ·exact Zmc (hin 9 r.adv (Nat.lt_succ_self _) hlt) fun _ => .ok
   split
   ·exact Zmc (hin 1 r.adv (Nat.lt_succ_self _) hlt) fun _=>Z6m _ _ _
   split
   ·unfold Zjb
    have b0:=Z5d l wIf r;refine Zmc (Z6m _ _ _) fun q1=>?_;have m1:=b0.2 q1
    have u1:r.i+1≤(Zeg l wIf r).2.i:=by
     unfold Zeg at q1 ⊢
     split at q1
     ·cases q1
     ·rename_i qq;rw [if_neg qq];exact Nat.le_refl _
    have i1:=m1.inn h2;generalize (Zeg l wIf r).2=r1 at u1 i1 ⊢;have b1:=hbs 1 r1;refine Zmc (hin 1 r1 u1 i1) fun _=>?_;have u2:=b1.up;have i2:=b1.inn i1;generalize (Zba l f 1 r1).2=a at u2 i2 ⊢;have b2:=(Z5d l Zbp a).1;refine Zmc (Z6m _ _ _) fun _=>?_;have u3:=b2.up;have i3:=b2.inn i2;generalize (Zeg l Zbp a).2=r2 at u3 i3 ⊢;have b3:=hbs 1 r2;refine Zmc (hin 1 r2 (by omega) i3) fun _=>?_;have u4:=b3.up;have i4:=b3.inn i3;generalize (Zba l f 1 r2).2=b at u4 i4 ⊢;have b4:=(Z5d l Zcp b).1;refine Zmc (Z6m _ _ _) fun _=>?_;have u5:=b4.up;have i5:=b4.inn i4;generalize (Zeg l Zcp b).2=r3 at u5 i5 ⊢;refine Zmc (hin 1 r3 (by omega) i5) fun _=>?_;exact Zmc (Z6m _ _ _) fun _ => .ok
   split
   ·exact .ok
   ·intro _;show (80:Int)≠0;decide
  ·have hb:=Zqk hbs r
   have u0:=hb.up;have i0:=hb.inn h2;generalize (Zdd l (Zba l f) r).2=q at u0 i0 ⊢
   have key:∀ (m:Nat) (q:RS),r.i≤q.i→q.i≤l.length→ErrS (Zkf l (Zba l f) n m q):=by
    intro m
    induction m with
    | zero=>intro q _ _;exact .ok
    | succ m ih =>
     intro q hq hl;rw [Zkf]
     split
     ·exact .ok
     ·rename_i op ho
      split
      ·exact .ok
      ·have hb:=hbs (lvl op+1) q.adv
       have hlt:=Zmm ho;refine Zmc (hin _ q.adv (by show r.i<q.i+1;omega) hlt) fun _=>?_;refine ih _ ?_ ?_
       ·have:=hb.up
        show r.i≤_
        have h3:q.i+1≤_:=this;simp only [Zsr];omega
       ·simp only [Zsr];exact hb.inn hlt
   exact key _ q u0 i0
theorem Gr.size {n:Int} {ts:List (List UInt8)} {x:X} (h:Gr n ts x):x.size≤ts.length:=by
 induction h<;>simp only [X.size,List.length_cons,List.length_append,List.length_nil]<;>omega
theorem Gr.fit {n:Int} {ts:List (List UInt8)} {x:X} (h:Gr n ts x):x.fit:=by
 induction h with
 | @num n t v h1 h2 =>
  show v≤9223372036854775807
  have hp:(Zyc (Zjf t)).1≤9223372036854775807:=by
   have ht:∀ z:Int,(told z).1≤9223372036854775807:=by
    intro z;unfold told
    split
    ·rename_i q
     simp only [Z0b,decide_eq_true_eq] at q;exact q.2
    ·show (0:Int)≤_;decide
   generalize Zjf t=u;unfold Zyc;generalize (u.head? == some 45)=bl;cases bl
   ·simp only [Bool.false_eq_true,if_false]
    split
    ·show (0:Int)≤_;decide
    ·exact ht _
   ·simp only [if_true]
    split
    ·show (0:Int)≤_;decide
    ·exact ht _
  rw [h2] at hp;exact hp
 | name=>show (0:Int)≤_;decide
 | tr=>show (0:Int)≤_;decide
 | fa=>show (0:Int)≤_;decide
 | neg _ _ ih=>exact ih
 | not _ _ ih=>exact ih
 | par _ ih=>exact ih
 | bin _ _ _ _ _ i1 i2=>exact ⟨i1,i2⟩
 | ite _ _ _ i1 i2 i3=>exact ⟨i1,i2,i3⟩
end Go.Hs
end

section
namespace Go.Hs
open Go.Proofs
set_option maxRecDepth 10000
set_option maxHeartbeats 1000000
structure EvIn (s:Sl XN) (env:Sl (List UInt8 × Int)):Prop where
 hs:s.l.length<1000000
 hnm:∀ n∈s.l,n.name.length<100000
 hnum:∀ n∈s.l,Z0b n.num=true
 hv:env.l.length<1000000
 hf:∀ p∈env.l,Z0b p.2=true
theorem Zwf {x:X} (h:∀ n∈x.row 0,Z0b n.num=true):Zwd x:=by
 intro op num name hm;obtain ⟨b,hb⟩:=Zyp hm;have ht:=hb.top;have:=h _ (List.mem_of_getElem? ht);exact this
theorem Zsc {l:List XN} (h:Zaa l=0):∃ x:X,x.ok=true∧l=x.row 0:=by
 refine Z9j.1 ?_;rw [Zfi];unfold Zaa at h
 split at h
 ·cases h
 ·rename_i h0;simpa using h0
open Classical in
noncomputable def evL (env:List (List UInt8 × Int)) (l:List XN):EV :=
 if h:Zaa l=0 then evX env (Zsc h).choose else .err (Zaa l)
theorem Zoi {env:List (List UInt8 × Int)} {l:List XN} (h:Zaa l≠0):evL env l = .err (Zaa l):=dif_neg h
theorem Zkd {env:List (List UInt8 × Int)} {x:X} (hx:x.ok=true) (h:Zaa (x.row 0)=0):evL env (x.row 0)=evX env x:=by
 unfold evL;rw [dif_pos h];have hc:=(Zsc h).choose_spec;exact congrArg (evX env) (row_inj _ _ 0 hc.1 hx hc.2.symm)
theorem Zki {env:List (List UInt8 × Int)} {l:List XN} {k:Int} (hnum:∀ n∈l,Z0b n.num=true):Z92 env l k ((evL env l).need k):=by
 by_cases h:Zaa l=0
 ·right
  obtain ⟨x,hx,rfl⟩:=Zsc h;exact ⟨h,x,hx,Zwf hnum,rfl,by rw [Zkd hx h]⟩
 ·left
  exact ⟨h,by rw [Zoi h]<;>rfl⟩
theorem Zh2 {s:Sl XN} {env:Sl (List UInt8 × Int)} (h:EvIn s env):∀ e,evL env.l s.l = .err e→e≠0:=by
 intro e he
 by_cases hc:Zaa s.l=0
 ·obtain ⟨x,hx,hl⟩:=Zsc hc
  rw [hl,Zkd hx (hl ▸ hc)] at he;exact Zqc (Zac h.hf x hx (Zwf (hl ▸ h.hnum))) he
 ·rw [Zoi hc] at he
  cases he;exact hc
theorem Zbe (G:Nat→V) (hE:GExp G) (c c2:Col) (s:Sl XN) (env:Sl (List UInt8 × Int)) (h:EvIn s env):Spec Tryz.prog G 17 [.agg [Zb c 6 Zw s],Zb c2 2 Zea env] Zu (fun v _=>v=Zpa (evL env.l s.l)):=by
 have hG:=hE.ok;refine Zo 0 11 [.cell 4 34,.tmp 5] Tryz.func17 fun X=>?_;refine Z1 ?_;intro g2 g4;refine Z ?_;refine Znf (zi @Za @Ze) hG ?_ (s:=(Zgk G hE c.ent c2.ent s h.hs h.hnm env h.hv h.hf 0 (by decide) _ (Zki h.hnum)));simp -implicitDefEqProofs only[go_sem,seval,↓reduceIte,Zpa,Zka];refine Z ?_;rw [Zek]
theorem Z7u (G:Nat→V) (hE:GExp G) (c c2:Col) (s:Sl XN) (env:Sl (List UInt8 × Int)) (h:EvIn s env):Spec Tryz.prog G 22 [.agg [Zb c 6 Zw s],Zb c2 2 Zea env] Zu (fun v _=>v=Z5p ((evL env.l s.l).need 1)):=by
 have hG:=hE.ok;refine Zo 0 17 [.tmp 4,.tmp 5] Tryz.func22 fun X=>?_;refine Z1 ?_;intro g2;refine Z ?_;refine Znf (zi @Za @Ze) hG ?_ (s:=(Zgk G hE c.ent c2.ent s h.hs h.hnm env h.hv h.hf 1 (by decide) _ (Zki h.hnum)));simp -implicitDefEqProofs only[go_sem,seval,↓reduceIte,Zpa,Zka];intro g6;exact Zr
theorem Zfp (G:Nat→V) (hE:GExp G) (c c2:Col) (s:Sl XN) (env:Sl (List UInt8 × Int)) (h:EvIn s env):Spec Tryz.prog G 16 [.agg [Zb c 6 Zw s],Zb c2 2 Zea env] Zu (fun v _=>v=Zxh ((evL env.l s.l).need 2)):=by
 have hG:=hE.ok;refine Zo 0 17 [.tmp 4,.tmp 5] Tryz.func16 fun X=>?_;refine Z1 ?_;intro g2;refine Z ?_;refine Znf (zi @Za @Ze) hG ?_ (s:=(Zgk G hE c.ent c2.ent s h.hs h.hnm env h.hv h.hf 2 (by decide) _ (Zki h.hnum)));simp -implicitDefEqProofs only[go_sem,seval,↓reduceIte,Zpa,Zka];intro g6;exact Zr
theorem eval10 (G:Nat→V) (hG:GOk G) (c c2:Col) (s:Sl XN) (env:Sl (List UInt8 × Int)) (h:EvIn s env):Spec Tryz.prog G 21 [Zb c 6 Zw s,Zb c2 2 Zea env] Zu (fun v _=>v=Zpa (evL env.l s.l)):=by
 refine Zo 0 22 [.cell 4 43,.tmp 5] Tryz.func21 fun X=>?_;refine Z1 ?_;intro g4
 have hc0:(Zaa s.l != 0)=false∨(Zaa s.l != 0)=true:=by cases (Zaa s.l != 0)<;>simp
 refine Z ?_;refine Zcf @Za hG ?_ (s:=(Zgi G hG c.ent s h.hs h.hnm))
 by_cases hc:Zaa s.l=0
 rotate_left
 ·have hcb:(Zaa s.l != 0)=true:=by simpa using hc
  rw [Zoi hc];exact Zq hcb
 obtain ⟨x,hx,hl⟩:=Zsc hc
 have hsz:((0+x.size-1:Nat):Int)=(s.l.length:Int)-1:=by
  have:=x.size_pos;rw [hl,Go.Hs.X.row_len];omega
 have hn:=Zwf (hl ▸ h.hnum);have hW:=Zfu G hG s h.hs env h.hv h.hf x 0 hx hn (hl ▸ Zif x);have hF:=Zac h.hf x hx hn
 have hLx:evL env.l s.l=evX env.l x:=by rw [hl,Zkd hx (hl ▸ hc)]
 rw [hsz] at hW;rw [hLx];have hw3:IntKind.i64.wrap ((s.l.length:Int)-1)=(s.l.length:Int)-1:=w64 (by have:=h.hs;omega) (by have:=h.hs;omega);rw [hc];refine Zf hw3 ?_;refine Znf (zi @Za (zi @Ze @Zj)) hG ?_ (s:=(hW c.ent c2.ent));simp -implicitDefEqProofs only[go_sem,seval,↓reduceIte,Zpa,Zka];exact Zr
theorem num10 (G:Nat→V) (hG:GOk G) (c c2:Col) (s:Sl XN) (env:Sl (List UInt8 × Int)) (h:EvIn s env):Spec Tryz.prog G 23 [Zb c 6 Zw s,Zb c2 2 Zea env] Zu (fun v _=>v=Z5p ((evL env.l s.l).need 1)):=by
 refine Zo 0 21 [.tmp 4,.tmp 5] Tryz.func23 fun X=>?_;refine Z1 ?_
 have hc0:(Zaa s.l != 0)=false∨(Zaa s.l != 0)=true:=by cases (Zaa s.l != 0)<;>simp
 refine Z ?_;refine Zcf @Za hG ?_ (s:=(Zgi G hG c.ent s h.hs h.hnm))
 by_cases hc:Zaa s.l=0
 rotate_left
 ·have hcb:(Zaa s.l != 0)=true:=by simpa using hc
  rw [Zoi hc];exact Zq hcb
 obtain ⟨x,hx,hl⟩:=Zsc hc
 have hsz:((0+x.size-1:Nat):Int)=(s.l.length:Int)-1:=by
  have:=x.size_pos;rw [hl,Go.Hs.X.row_len];omega
 have hn:=Zwf (hl ▸ h.hnum);have hW:=Zfu G hG s h.hs env h.hv h.hf x 0 hx hn (hl ▸ Zif x);have hF:=Zac h.hf x hx hn
 have hLx:evL env.l s.l=evX env.l x:=by rw [hl,Zkd hx (hl ▸ hc)]
 rw [hsz] at hW;rw [hLx];have hw3:IntKind.i64.wrap ((s.l.length:Int)-1)=(s.l.length:Int)-1:=w64 (by have:=h.hs;omega) (by have:=h.hs;omega);rw [hc];refine Zf hw3 ?_;refine Znf (zi @Za (zi @Ze @Zj)) hG ?_ (s:=(Zol G hG c.ent c2.ent s env _ (evX env.l x) hW hF));simp -implicitDefEqProofs only[go_sem,seval,↓reduceIte,Z5p];exact Zr
theorem tru10 (G:Nat→V) (hG:GOk G) (c c2:Col) (s:Sl XN) (env:Sl (List UInt8 × Int)) (h:EvIn s env):Spec Tryz.prog G 24 [Zb c 6 Zw s,Zb c2 2 Zea env] Zu (fun v _=>v=Zxh ((evL env.l s.l).need 2)):=by
 refine Zo 0 21 [.tmp 4,.tmp 5] Tryz.func24 fun X=>?_;refine Z1 ?_
 have hc0:(Zaa s.l != 0)=false∨(Zaa s.l != 0)=true:=by cases (Zaa s.l != 0)<;>simp
 refine Z ?_;refine Zcf @Za hG ?_ (s:=(Zgi G hG c.ent s h.hs h.hnm))
 by_cases hc:Zaa s.l=0
 rotate_left
 ·have hcb:(Zaa s.l != 0)=true:=by simpa using hc
  rw [Zoi hc];exact Zq hcb
 obtain ⟨x,hx,hl⟩:=Zsc hc
 have hsz:((0+x.size-1:Nat):Int)=(s.l.length:Int)-1:=by
  have:=x.size_pos;rw [hl,Go.Hs.X.row_len];omega
 have hn:=Zwf (hl ▸ h.hnum);have hW:=Zfu G hG s h.hs env h.hv h.hf x 0 hx hn (hl ▸ Zif x);have hF:=Zac h.hf x hx hn
 have hLx:evL env.l s.l=evX env.l x:=by rw [hl,Zkd hx (hl ▸ hc)]
 rw [hsz] at hW;rw [hLx];have hw3:IntKind.i64.wrap ((s.l.length:Int)-1)=(s.l.length:Int)-1:=w64 (by have:=h.hs;omega) (by have:=h.hs;omega);rw [hc];refine Zf hw3 ?_;refine Znf (zi @Za (zi @Ze @Zj)) hG ?_ (s:=(Z3f G hG c.ent c2.ent s env _ (evX env.l x) hW hF));simp -implicitDefEqProofs only[go_sem,seval,↓reduceIte,Zxh];exact Zr
end Go.Hs
end

section
namespace Go.Hs
def NmQ (Q:List UInt8→Prop) (r:RS):Prop:=∀ n∈r.nodes,Q n.name
def NmI (Q:List UInt8→Prop) (inner:Inner):Prop:=∀ n r,NmQ Q r→NmQ Q (inner n r).2
theorem NmQ.put {Q:List UInt8→Prop} {r:RS} {n:XN} (h:NmQ Q r) (hn:Q n.name):NmQ Q (r.put n):=by
 intro m hm
 rcases List.mem_append.1 hm with h1 | h1
 ·exact h m h1
 ·rw [List.mem_singleton.1 h1];exact hn
theorem Z3b {Q:List UInt8→Prop} {x:Bool × RS} {k:RS→Bool × RS} (h:NmQ Q x.2) (hk:∀ r,NmQ Q r→NmQ Q (k r).2):NmQ Q (andThen x k).2:=by
 obtain ⟨b,r⟩:=x;cases b
 ·exact h
 ·exact hk r h
theorem Z7m {Q:List UInt8→Prop} (l:List Tk) (w:List UInt8) {r:RS} (h:NmQ Q r):NmQ Q (Zeg l w r).2:=by
 unfold Zeg;split<;>exact h
theorem Zqy {Q:List UInt8→Prop} (h0:Q []) (t:List UInt8) {r:RS} (h:NmQ Q r):NmQ Q (Zhd r t).2:=by
 unfold Zhd;split
 ·exact h
 ·exact NmQ.put (n:=⟨1,_,[],-1,-1,-1⟩) h h0
theorem Z9s {Q:List UInt8→Prop} {l:List Tk} {inner:Inner} (h0:Q []) (hi:NmI Q inner) {r:RS} (h:NmQ Q r):NmQ Q (Zjb l inner r).2:=by
 unfold Zjb;refine Z3b (Z7m _ _ h) fun r1 h1=>Z3b (hi _ _ h1) fun a h2=>Z3b (Z7m _ _ h2) fun r2 h3=>Z3b (hi _ _ h3) fun b h4=>Z3b (Z7m _ _ h4) fun r3 h5=>Z3b (hi _ _ h5) fun c h6=>Z3b (Z7m _ _ h6) fun r4 h7=>?_;exact NmQ.put h7 h0
theorem Z62 {Q:List UInt8→Prop} {l:List Tk} {inner:Inner} (h0:Q []) (hq:∀ i,(Zda l i).kind=2→Q (Zda l i).text) (hi:NmI Q inner) {r:RS} (h:NmQ Q r):NmQ Q (Zdd l inner r).2:=by
 unfold Zdd
 split
 ·exact Zqy h0 _ h
 split
 ·rename_i hk;exact NmQ.put (n:=⟨2,0,(Zda l r.i).text,-1,-1,-1⟩) h (hq _ hk)
 split
 ·exact h
 split
 ·exact Z3b (hi _ _ h) fun a ha=>NmQ.put ha h0
 split
 ·exact Z3b (hi _ _ h) fun a ha=>Z7m _ _ ha
 split
 ·exact Z9s h0 hi h
 split
 ·exact NmQ.put (n:=⟨_,0,[],-1,-1,-1⟩) h h0
 ·exact h
theorem Z9w {Q:List UInt8→Prop} {l:List Tk} {inner:Inner} (h0:Q []) (hi:NmI Q inner) (n:Int):∀ (m:Nat) (r:RS),NmQ Q r→NmQ Q (Zkf l inner n m r).2
 | 0,r,h=>h
 | m+1,r,h=>by
  rw [Zkf]
  split
  ·exact h
  ·split
   ·exact h
   ·exact Z3b (hi _ r.adv h) fun a ha=>Z9w h0 hi n m (a.put _) (NmQ.put ha h0)
theorem Zbn {Q:List UInt8→Prop} (l:List Tk) (h0:Q []) (hq:∀ i,(Zda l i).kind=2→Q (Zda l i).text):∀ f,NmI Q (Zba l f)
 | 0=>fun _ _ h=>h
 | f+1=>fun n r h=>by
  rw [Zba];exact Z3b (Z62 h0 hq (Zbn l h0 hq f) h) fun a ha=>Z9w h0 (Zbn l h0 hq f) n _ a ha
end Go.Hs
end

section
namespace Go.Hs
open Go.Proofs
set_option maxRecDepth 10000
theorem Z82 {NO:Nat} {tl:List V} {G:Nat→V} (hG:GOk G) {f:FuncId} {args args':List V} {sl:Sl Tk} {g:Nat} {r r':RS} {v:V} (h:RdS NO tl G f args' sl g r v r') {H:Heap} {K:V→Heap→Prop}
  (hen:Zga Tryz.prog f=true) (htl:∀ F:Col→Col,tl.map (V.recol F)=tl) (hargs:args.map (V.recol Col.ent)=args') (hv:v.recol Col.bk=v) (hr:r.nodes=[])
  (cs:List V) (h8:H 8 = .cells .new g 0 cs) (hcs:Zqa Col.ent cs=(Zb .any 3 Zke sl :: .int .i64 r.i :: .nils :: .int .i64 r.e::tl)) (hN:H NO = .dead)
  (hk:∀ gx',K v (Zrb H [(8,.cells .new g 0 (Zb .any 3 Zke sl :: .int .i64 r'.i::grown NO gx' 6 r'.nodes :: .int .i64 r'.e::tl)),(NO,Zfb gx' Zw r'.nodes)])) :
  CallA Tryz.prog G f (.ptr 8 g 0::args) H K:=by
 refine Zhw hG [(8,rdO NO tl sl g 0 r),(NO,ndO 0 r.nodes)] hen ?_ ?_ ?_
 ·intro p hp
  simp only [List.mem_cons,List.not_mem_nil,or_false] at hp
  rcases hp with rfl | rfl
  ·simp only [h8,AObj.toAny,hcs,Zzd,hr];rfl
  ·simp only [hN,AObj.toAny,hr];rfl
 ·intro p hp c g' fz cs' ho
  simp only [List.mem_cons,List.not_mem_nil,or_false] at hp
  rcases hp with rfl | rfl
  ·simp only [h8,AObj.cells.injEq] at ho;exact ho.1.symm
  ·simp only [hN] at ho;cases ho
 ·have ha:(V.ptr 8 g 0::args).map (V.recol Col.ent) = .ptr 8 g 0::args':=by rw [List.map_cons,Zas,hargs]
  rw [ha];refine (h 0).mono ?_;rintro _ H' ⟨rfl,gx',q8,qN⟩
  have b8:(rdO NO tl sl g gx' r').backNew = .cells .new g 0 (Zb .any 3 Zke sl :: .int .i64 r'.i::grown NO gx' 6 r'.nodes :: .int .i64 r'.e::tl):=by
   simp only [Zzd,AObj.backNew,Zz,List.map_cons,Ztf,Zuf,Zbm,htl];rfl
  have bN:(ndO gx' r'.nodes).backNew=Zfb gx' Zw r'.nodes:=by
   unfold ndO
   cases hn:r'.nodes with
   | nil=>rfl
   | cons x t =>
    rw [Zoj _ _ _ (by simp),Z9b _ _ (by simp)];simp only [AObj.backNew,Zz];rw [← Zne,List.map_map];have he:(x::t).map (V.recol Col.bk ∘ Zw)=(x::t).map Zw:=List.map_congr_left fun y _=>Zih _ y
    first | done | rw [he]
  simp only [List.map_cons,List.map_nil,q8,qN,b8,bN,hv];exact hk gx'
def Ztd (c:Col) (l:List XN):V:=Zb c 6 Zw (Znb l)
def Z3s (c:Col) (p:List XN × Int × Int):V := .tuple [.agg [Ztd c p.1],.int .i64 p.2.1,.int .i64 p.2.2]
theorem Zan {l:List Tk} (hT:TkOk l):∀ n∈(Zba l (l.length+1) 1 ⟨0,[],0⟩).2.nodes,n.name.length<100000 :=
 Zbn (Q:=fun s=>s.length<100000) l (Nat.zero_lt_succ _) (fun i _=>Znm hT i) _ _ _ (fun n hn=>by cases hn)
theorem Ztx (G:Nat→V) (hE:GExp G) (c:Col) (sl:Sl Tk) (hT:TkOk sl.l):Spec Tryz.prog G 50 [Zb c 3 Zke sl] Zu (fun v _=>v=Z3s .new (Zjd sl.l)):=by
 have hG:=hE.ok;have hTl:=hT.len;refine Zo 0 44 [.cell 2 24,.tmp 3,.tmp 4] Tryz.func50 fun X=>?_
 have hP:Zjd sl.l=if (Zba sl.l (sl.l.length+1) 1 ⟨0,[],0⟩).1=false then (([]:List XN),((Zba sl.l (sl.l.length+1) 1 ⟨0,[],0⟩).2.i:Int),(Zba sl.l (sl.l.length+1) 1 ⟨0,[],0⟩).2.e)
  else if Zia (Zba sl.l (sl.l.length+1) 1 ⟨0,[],0⟩).2.nodes > 64 then ([],0,3) else ((Zba sl.l (sl.l.length+1) 1 ⟨0,[],0⟩).2.nodes,((Zba sl.l (sl.l.length+1) 1 ⟨0,[],0⟩).2.i:Int),(0:Int)):=rfl
 have hr0:Zpx sl.l ⟨0,[],0⟩:=⟨Nat.zero_le _,Nat.le_refl _⟩;have hcl:=fun g=>Zdu G hE sl hT g (sl.l.length+1) 1 ⟨0,[],0⟩ (by decide) (by decide) (Nat.lt_succ_self _) hr0;have hnm2:=Zan hT;have hok:=(Z1d sl.l (sl.l.length+1) 1 ⟨0,[],0⟩);generalize Zjd sl.l=res at hP ⊢;generalize Zba sl.l (sl.l.length+1) 1 ⟨0,[],0⟩=y at hP hcl hok hnm2;obtain ⟨b,r⟩:=y;simp only at hP hcl hok hnm2;refine Z1 ?_;intro g2;refine Z1 ?_;intro g8;refine Zv ?_;refine AW.block ?_;refine AW.weak (Z7 (fun _=>false) (l:=[(5,.ptr 8 g8 0),(2,.ptr 2 g2 0)]) (m:=[(2,.cells .new g2 0 [.nils]),(8,.cells .new g8 0 [Zb .any 3 Zke sl,.int .i64 0,.nils,.int .i64 0,.func (.func 78) [] []])]) ?_ ?_) ?_
 ·refine Zs ?_
  exact ⟨Zl _,Zl _⟩
 ·simp only [Zy,Z2,and_true]
  exact ⟨FzO.keep rfl zp,Zqx (c := .new) (fz:=0) (cs:=[Zb c 3 Zke sl,.int .i64 0,.nils,.int .i64 0,.func (.func 78) [] []]) rfl zp ⟨Fz.any (Ztf _ _ _),Zl _,Zl _,Zl _,Zl _,trivial⟩⟩
 refine Z1 ?_;refine Z82 hG (hcl g8) (by kernel_rfl) (fun F=>rfl) rfl rfl rfl _ zp (by simp only [Zz,List.map_cons,List.map_nil,Ztf];rfl) zp fun gx=>?_;simp -implicitDefEqProofs only[go_sem,seval,↓reduceIte,Zrb]
 cases b with
 | false =>
  refine Zfa rfl ?_;refine AW.weak (Z7 (fun o=>o==8) (l:=[(5,.view .new (.agg [Zb .any 3 Zke sl,.int .i64 r.i,grown 1031 gx 6 r.nodes,.int .i64 r.e,.func (.func 78) [] []])),(2,.ptr 2 g2 0)]) (m:=[(2,.cells .new g2 0 [.nils])]) ?_ ?_) ?_
  ·refine Zs ?_
   exact ⟨Fz.ptr (v := .agg [Zb .any 3 Zke sl,.int .i64 r.i,grown 1031 gx 6 r.nodes,.int .i64 r.e,.func (.func 78) [] []]) (c := .new) (fz:=0) rfl zp,Zl _⟩
  ·simp only [Zy,Z2,and_true]
   exact FzO.keep rfl zp
  refine Zv ?_;refine Zx ⟨fun _ => .top,fun i=>if i=4 then .lend else if i=8 then .lend else .pure⟩ (by kernel_rfl) hG (by kernel_rfl) (by kernel_rfl) ?_;refine Zs ?_;refine Z ?_
  rw [hP]<;>rfl
 | true =>
 refine Z8 rfl ?_;refine AW.weak (Z7 (fun o=>o==1031) (l:=[(5,.ptr 8 g8 0),(2,.ptr 2 g2 0)]) (m:=[(2,.cells .new g2 0 [.nils]),(8,.cells .new g8 0 [Zb .any 3 Zke sl,.int .i64 r.i,Ztd .new r.nodes,.int .i64 r.e,.func (.func 78) [] []])]) ?_ ?_) ?_
 ·refine Zs ?_
  exact ⟨Zl _,Zl _⟩
 ·simp only [Zy,Z2,and_true]
  exact ⟨FzO.keep rfl zp,Zqx (c := .new) (fz:=0) (cs:=[Zb .any 3 Zke sl,.int .i64 r.i,grown 1031 gx 6 r.nodes,.int .i64 r.e,.func (.func 78) [] []]) rfl zp ⟨Zl _,Zl _,Zpd rfl zp Zkc,Zl _,Zl _,trivial⟩⟩
 have hrl:r.nodes.length<1000000:=by have:=(hok.ok hr0);have h1:=this.1;have h2:=this.2;omega
 rw [if_neg (by simp)] at hP;refine Z4 (by kernel_rfl) ?_;simp -implicitDefEqProofs only[go_sem,seval,↓reduceIte,Ztd];refine Zcf @Za hG ?_ (s:=(Zre G hE Col.new.ent (Znb r.nodes) (by rw [Zma];exact hrl) (by rw [Zma];exact hnm2)));refine Zd rfl (fun h26=>?_) (fun h26=>?_)
 ·have h26:Zia r.nodes > 64:=by simpa using h26
  rw [if_pos h26] at hP;refine Z ?_
  rw [hP]<;>rfl
 have h26:¬ Zia r.nodes > 64:=by simpa using h26
 rw [if_neg h26] at hP;refine Z0 ?_;refine AW.weak (Z7 (fun o=>o==8) (l:=[(5,.view .new (.agg [Zb .any 3 Zke sl,.int .i64 r.i,Ztd .new r.nodes,.int .i64 r.e,.func (.func 78) [] []])),(2,.ptr 2 g2 0)]) (m:=[(2,.cells .new g2 0 [.nils])]) ?_ ?_) ?_
 ·refine Zs ?_
  exact ⟨Fz.ptr (v := .agg [Zb .any 3 Zke sl,.int .i64 r.i,Ztd .new r.nodes,.int .i64 r.e,.func (.func 78) [] []]) (c := .new) (fz:=0) rfl zp,Zl _⟩
 ·simp only [Zy,Z2,and_true]
  exact FzO.keep rfl zp
 refine Zv ?_;refine Zx ⟨fun _ => .top,fun i=>if i=3 then .lend else if i=8 then .lend else .pure⟩ (by kernel_rfl) hG (by kernel_rfl) (by kernel_rfl) ?_;simp -implicitDefEqProofs only[go_sem,seval,↓reduceIte,Ztd];refine Z ?_
 rw [hP]<;>rfl
end Go.Hs
end

section
namespace Go.Hs
open Go.Proofs
set_option maxRecDepth 10000
theorem Zfo:∀ (f:Nat) (s:List UInt8) (i:Nat) (acc:List Tk),(∀ t∈acc,t.text.length≤s.length)→∀ t∈(Zee f s i acc).1,t.text.length≤s.length
 | 0,s,i,acc,h=>by rw [Zee];exact h
 | f+1,s,i,acc,h=>by
  rw [Zee]
  split
  ·split
   ·intro t ht;cases ht
   ·refine Zfo f s _ _ ?_
    intro t ht
    rcases List.mem_append.1 ht with h1 | h1
    ·exact h t h1
    ·rw [List.mem_singleton.1 h1]
     show ((s.drop i).take _).length≤s.length
     rw [List.length_take,List.length_drop];omega
  ·exact h
theorem Zl0 {s:List UInt8} (hs:s.length<100000):TkOk (Z1b s).1:=by
 unfold Z1b
 split
 ·exact ⟨Nat.zero_lt_succ _,fun t ht=>by cases ht⟩
 refine ⟨?_,?_⟩
 ·have:=Z1r (s.length+1) s (blk s) []
  have h0:([]:List Tk).length=0:=rfl;omega
 ·intro t ht
  have:=Zfo (s.length+1) s (blk s) [] (fun t ht=>by cases ht) t ht;omega
theorem Zqe (G:Nat→V) (hE:GExp G) (s:List UInt8) (hs:s.length<100000):Spec Tryz.prog G 25 [.str s] Zu (fun v _=>v=Z3s .new (Zni s)):=by
 have hG:=hE.ok;refine Zo 0 60 [.cell 2 24,.tmp 3,.tmp 4] Tryz.func25 fun X=>?_
 have hP:Zni s=if (Z1b s).2.2≠0 then (([]:List XN),(Z1b s).2.1,(Z1b s).2.2)
  else if (Zjd (Z1b s).1).2.2=3 then ([],0,3)
  else if (Zjd (Z1b s).1).2.2=0∧(Zjd (Z1b s).1).2.1=((Z1b s).1.length:Nat) then ((Zjd (Z1b s).1).1,0,0)
  else ([],if (Zjd (Z1b s).1).2.1=((Z1b s).1.length:Nat) then (s.length:Int) else ((Z1b s).1.getD (Zjd (Z1b s).1).2.1.toNat ⟨0,[],0⟩).pos,if (Zjd (Z1b s).1).2.2=0 then 80 else (Zjd (Z1b s).1).2.2):=rfl
 generalize Zni s=res at hP ⊢;have hT:=Zl0 hs;have hl:=Zts G hE s hs;have hfr:=fun c=>Ztx G hE c (Znb (Z1b s).1) (by rw [Zma];exact hT);simp only [Zma] at hfr;have hb:=Za2 (l:=(Z1b s).1);generalize Z1b s=t at hP hT hl hfr hb;generalize Zjd t.1=p at hP hfr hb;obtain ⟨l,at0,e0⟩:=t;obtain ⟨ns,i,e⟩:=p;simp only at hP hT hfr hb;refine Z1 ?_;intro g2;refine Z1 ?_;refine Zn hG ?_ (s:=hl);simp -implicitDefEqProofs only[go_sem,seval,↓reduceIte,Zo6,Zo2,Ztf];refine Z1 ?_
 by_cases he0:e0=0
 rotate_left
 ·have q1:(e0 != 0)=true:=by simpa using he0
  rw [if_pos he0] at hP;refine Zd rfl (fun h17=>?_) (fun h17=>?_)
  ·refine Z ?_
   rw [hP]<;>rfl
  ·rw [q1] at h17;cases h17
 have q1:(e0 != 0)=false:=by simpa using he0
 rw [if_neg (by simpa using he0)] at hP;refine Zd rfl (fun h17=>?_) (fun h17=>?_)
 ·rw [q1] at h17;cases h17
 refine Z1 ?_;refine Znf @Ztf hG ?_ (s:=(hfr _));simp -implicitDefEqProofs only[go_sem,seval,↓reduceIte,Z3s,Ztd,Za];intro g8;refine Z1 ?_
 by_cases he3:e=3
 ·have q3:(e==3)=true:=by simpa using he3
  rw [if_pos he3] at hP;refine Zd rfl (fun h27=>?_) (fun h27=>?_)
  ·refine Z ?_
   rw [hP,he3]<;>rfl
  ·rw [q3] at h27;cases h27
 have q3:(e==3)=false:=by simpa using he3
 rw [if_neg he3] at hP;refine Zd rfl (fun h27=>?_) (fun h27=>?_)
 ·rw [q3] at h27;cases h27
 by_cases he:e=0
 ·have q4:(e==0)=true:=by simpa using he
  by_cases hi:i=(l.length:Nat)
  ·have q5:(i==((l.length:Nat):Int))=true:=by simpa using hi
   rw [if_pos ⟨he,hi⟩] at hP;refine Z1f (zi q4 q5) ?_;refine Zd rfl (fun h32=>?_) (fun h32=>?_)
   ·refine Z ?_
    rw [hP]<;>rfl
   ·cases h32
  have q5:(i==((l.length:Nat):Int))=false:=by simpa using hi
  rw [if_neg (fun h=>hi h.2),if_neg hi,if_pos he] at hP;obtain ⟨m,rfl⟩:∃ m:Nat,i=m:=⟨i.toNat,by omega⟩
  have hml:m<l.length:=by omega
  obtain ⟨tk,htk⟩:∃ tk,l[m]? = some tk:=⟨_,List.getElem?_eq_getElem hml⟩
  have hgd:(l.getD ((m:Nat):Int).toNat ⟨0,[],0⟩)=tk:=by rw [Int.toNat_natCast,List.getD_eq_getElem?_getD,htk]<;>rfl
  rw [hgd] at hP;refine Z1f (zi q4 q5) ?_;refine Z1f q4 ?_;refine Z1 ?_;refine Z1f q5 ?_;refine Z0 ?_;refine Zv ?_;refine Zx ⟨fun _ => .top,fun i=>if i=5 then .lend else .pure⟩ (by kernel_rfl) hG (by kernel_rfl) (by kernel_rfl) ?_;refine Zsf (zi htk @Zdg) ?_;refine Z ?_
  rw [hP]<;>rfl
 have q4:(e==0)=false:=by simpa using he
 rw [if_neg (fun h=>he h.1),if_neg he] at hP;refine Z1f q4 ?_;refine Z1f q4 ?_;refine Z0 ?_;refine Zv ?_
 by_cases hi:i=(l.length:Nat)
 ·have q5:(i==((l.length:Nat):Int))=true:=by simpa using hi
  rw [if_pos hi] at hP;refine Z1f q5 ?_;refine Zd rfl (fun h48=>?_) (fun h48=>?_)
  ·refine Z ?_
   rw [hP]<;>rfl
  ·cases h48
 have q5:(i==((l.length:Nat):Int))=false:=by simpa using hi
 rw [if_neg hi] at hP;obtain ⟨m,rfl⟩:∃ m:Nat,i=m:=⟨i.toNat,by omega⟩
 have hml:m<l.length:=by omega
 obtain ⟨tk,htk⟩:∃ tk,l[m]? = some tk:=⟨_,List.getElem?_eq_getElem hml⟩
 have hgd:(l.getD ((m:Nat):Int).toNat ⟨0,[],0⟩)=tk:=by rw [Int.toNat_natCast,List.getD_eq_getElem?_getD,htk]<;>rfl
 rw [hgd] at hP;refine Z1f q5 ?_;refine Z0 ?_;refine Zv ?_;refine Zx ⟨fun _ => .top,fun i=>if i=5 then .lend else .pure⟩ (by kernel_rfl) hG (by kernel_rfl) (by kernel_rfl) ?_;refine Zsf (zi htk @Zdg) ?_;refine Z ?_
 rw [hP]<;>rfl
end Go.Hs
end

section
namespace Go.Hs
open Go.Proofs
set_option maxRecDepth 10000
set_option maxHeartbeats 1000000
theorem Zb0 (G:Nat→V) (hG:GOk G) (c:Col) (s:Sl XN) (hs:s.l.length<1000000) :
  Spec Tryz.prog G 19 [.agg [Zb c 6 Zw s]] Zu (fun v _=>v=Ztd .new s.l):=by
 refine Zo 0 35 [.tmp 2] Tryz.func19 fun X=>?_;refine Z1 ?_;intro g1;refine Z1 ?_;refine Z1 ?_;refine AW.block ?_
 refine Z0a s.l.length (fun k (gx:Nat)=>st [(1,.ptr 1 g1 0),(3,grown 33 gx 6 (s.l.take k)),(4,.int .i64 k)] [(1,.cells .new g1 0 [Zb c 6 Zw s]),(33,Zfb gx Zw (s.l.take k))])
  (fun k _=>True) 0 0 (Nat.zero_le _) trivial
  (Zg zp zp) ?_
 intro k gx hk _ L3 hL3;refine Z1 ?_;refine Zd rfl (fun h10=>?_) (fun h10=>?_)
 ·have hk1:k<s.l.length:=by simpa using h10
  have hg:=List.getElem?_eq_getElem hk1
  have htk:s.l.take (k+1)=s.l.take k++[s.l[k]]:=by rw [List.take_succ_eq_append_getElem hk1]
  have hlt:(s.l.take k).length=k:=by rw [List.length_take];omega
  generalize s.l[k]=n at hg htk;generalize s.l.take k=ns at htk hlt ⊢;refine Z1f (zi hg @Zj) ?_;intro g5;refine Z1 ?_;intro g32;refine Zlc (f:=Zw) (l:=ns) (l2:=[n]) (g:=gx) Zkc rfl rfl rfl zp (Zab (by omega) (by simp;omega)) fun g2=>?_;refine Zs ?_;refine Z1 ?_;refine hL3 _ ⟨hk1,g2,trivial,Zg (by simp -implicitDefEqProofs only[go_sem,seval,↓reduceIte];exact ⟨by rw [htk],congrArg _ (w64 (by omega) (by omega))⟩) (by simp -implicitDefEqProofs only[go_sem,seval,↓reduceIte];rw [htk];try rfl)⟩
 ·have hk1:k=s.l.length:=by simp at h10;omega
  refine Z0 ?_;rw [hk1,List.take_length];refine AW.weak (Z7 (fun o=>o==33) (l:=[(3,Ztd .new s.l)]) (m:=[]) ?_ trivial) ?_
  ·refine Zs ?_
   exact Zpd rfl rfl Zkc
  exact Zr
theorem Z4m (p:List UInt8 × Int):(Zea p).cells.length=2:=rfl
theorem Zgu (G:Nat→V) (hG:GOk G) (c:Col) (s:Sl (List UInt8 × Int)) (hs:s.l.length<1000000) :
  Spec Tryz.prog G 20 [Zb c 2 Zea s] Zu (fun v _=>v=Zb .new 2 Zea (Znb s.l)):=by
 refine Zo 0 26 [.tmp 2] Tryz.func20 fun X=>?_;refine Z1 ?_;refine Z1 ?_;refine Z1 ?_;refine AW.block ?_
 refine Z0a s.l.length (fun k (gx:Nat)=>st [(0,Zb c 2 Zea s),(3,grown 24 gx 2 (s.l.take k)),(4,.int .i64 k)] [(24,Zfb gx Zea (s.l.take k))])
  (fun k _=>True) 0 0 (Nat.zero_le _) trivial
  (Zg zp zp) ?_
 intro k gx hk _ L3 hL3;refine Z1 ?_;refine Zd rfl (fun h10=>?_) (fun h10=>?_)
 ·have hk1:k<s.l.length:=by simpa using h10
  have hg:=List.getElem?_eq_getElem hk1
  have htk:s.l.take (k+1)=s.l.take k++[s.l[k]]:=by rw [List.take_succ_eq_append_getElem hk1]
  have hlt:(s.l.take k).length=k:=by rw [List.length_take];omega
  generalize s.l[k]=n at hg htk;generalize s.l.take k=ns at htk hlt ⊢;refine Z0 ?_;refine ZTf (zi hg (zi @Z5g (zi hk1 (zi @Int.natCast_nonneg @Int.ofNat_lt)))) hG ?_;intro g32;refine Zlc (f:=Zea) (l:=ns) (l2:=[n]) (g:=gx) Z4m rfl rfl rfl zp (Zab (by omega) (by simp;omega)) fun g2=>?_;refine Zs ?_;refine Z1 ?_;refine hL3 _ ⟨hk1,g2,trivial,Zg (by simp -implicitDefEqProofs only[go_sem,seval,↓reduceIte];exact ⟨by rw [htk],congrArg _ (w64 (by omega) (by omega))⟩) (by simp -implicitDefEqProofs only[go_sem,seval,↓reduceIte];rw [htk];try rfl)⟩
 ·have hk1:k=s.l.length:=by simp at h10;omega
  refine Z0 ?_;rw [hk1,List.take_length];refine AW.weak (Z7 (fun o=>o==24) (l:=[(3,Zb .new 2 Zea (Znb s.l))]) (m:=[]) ?_ trivial) ?_
  ·refine Zs ?_
   exact Zpd rfl rfl Z4m
  exact Zr
def Few10 (l:List XN) (env:List (List UInt8 × Int)):Prop:=l.length≤200∧env.length≤20∧(∀ n∈l,n.name.length≤70)∧∀ p∈env,p.1.length≤70
theorem Zqg (G:Nat→V) (hG:GOk G) (c c2:Col) (s:Sl XN) (env:Sl (List UInt8 × Int)) :
  Spec Tryz.prog G 13 [.agg [Zb c 6 Zw s],Zb c2 2 Zea env] Zu (fun v _=>∃ b,v = .bool b∧(b=true→Few10 s.l env.l)):=by
 refine Zo 0 44 [.tmp 4] Tryz.func13 fun X=>?_;refine Z1 ?_;intro g2;refine Zi fun K1 hK1=>?_
 by_cases hl:s.l.length > 200∨env.l.length > 20
 ·have q1:(decide (((s.l.length:Nat):Int) > 200) || decide (((env.l.length:Nat):Int) > 20))=true:=by simp;omega
  by_cases h1:s.l.length > 200
  ·have q:decide (((s.l.length:Nat):Int) > 200)=true:=zT
   refine Zf q ?_;exact ⟨false,rfl,fun h=>by cases h⟩
  ·have q:decide (((s.l.length:Nat):Int) > 200)=false:=zF
   have q2:decide (((env.l.length:Nat):Int) > 20)=true:=zT;refine Zf (zi q q2) ?_;exact ⟨false,rfl,fun h=>by cases h⟩
 have q1:decide (((s.l.length:Nat):Int) > 200)=false:=zF;have q2:decide (((env.l.length:Nat):Int) > 20)=false:=zF;refine Zf (zi q1 q2) ?_;refine hK1 _ ?_
 try clear hK1 K1
 refine Zi fun K2 hK2=>?_;refine Z ?_
 refine Z0a s.l.length (fun k (_:Unit)=>st [(1,Zb c2 2 Zea env),(2,.ptr 2 g2 0),(5,.int .i64 k)] [(2,.cells .new g2 0 [Zb c 6 Zw s])]) (fun k _=>∀ n∈s.l.take k,n.name.length≤70) 0 () (Nat.zero_le _) (fun n h=>by cases h)
  (Zg zp zp) ?_
 intro k _ hk hR L3 hL3
 by_cases hk1:k<s.l.length
 ·have hlt:decide ((k:Int)<(s.l.length:Int))=true:=by simpa using hk1
  have hg:=List.getElem?_eq_getElem hk1
  have htk:s.l.take (k+1)=s.l.take k++[s.l[k]]:=by rw [List.take_succ_eq_append_getElem hk1]
  generalize s.l[k]=n at hg htk;have w1:IntKind.i64.wrap ((k:Int)+1)=(k:Int)+1:=w64 (by omega) (by omega)
  by_cases hn:n.name.length > 70
  ·have q3:decide (((n.name.length:Nat):Int) > 70)=true:=zT
   refine Zf (zi hlt (zi hg (zi @Zj (zi q3 (zi hk1 (zi @Int.natCast_nonneg @Int.ofNat_lt)))))) ?_;exact ⟨false,rfl,fun h=>by cases h⟩
  ·have q3:decide (((n.name.length:Nat):Int) > 70)=false:=zF
   refine Zf (zi hlt (zi hg (zi @Zj (zi q3 (zi hk1 (zi @Int.natCast_nonneg (zi @Int.ofNat_lt w1))))))) ?_;refine hL3 _ ⟨hk1,(),?_,Zg zp zp⟩;intro n' hn';rw [htk,List.mem_append] at hn'
   rcases hn' with hn' | hn'
   ·exact hR n' hn'
   ·simp at hn';subst hn';omega
 have hke:k=s.l.length:=by omega
 subst hke
 have hlt:decide ((s.l.length:Int)<(s.l.length:Int))=false:=by simp
 refine Zf hlt ?_;refine hK2 _ ?_
 try clear hK2 hL3 K2 L3
 rw [List.take_length] at hR;have hS:=hR
 try clear hR hk hk1 hlt
 refine Zi fun K2 hK2=>?_;refine Z ?_
 refine Z0a env.l.length (fun k (_:Unit)=>st [(1,Zb c2 2 Zea env),(6,.int .i64 k)] []) (fun k _=>∀ n∈env.l.take k,n.1.length≤70) 0 () (Nat.zero_le _) (fun n h=>by cases h)
  (Zg zp zp) ?_
 intro k _ hk hR L3 hL3
 by_cases hk1:k<env.l.length
 ·have hlt:decide ((k:Int)<(env.l.length:Int))=true:=by simpa using hk1
  have hg:=List.getElem?_eq_getElem hk1
  have htk:env.l.take (k+1)=env.l.take k++[env.l[k]]:=by rw [List.take_succ_eq_append_getElem hk1]
  generalize env.l[k]=n at hg htk;have w1:IntKind.i64.wrap ((k:Int)+1)=(k:Int)+1:=w64 (by omega) (by omega)
  by_cases hn:n.1.length > 70
  ·have q3:decide (((n.1.length:Nat):Int) > 70)=true:=zT
   refine Zf (zi hlt (zi hg (zi @Z5g (zi q3 (zi hk1 (zi @Int.natCast_nonneg @Int.ofNat_lt)))))) ?_;exact ⟨false,rfl,fun h=>by cases h⟩
  ·have q3:decide (((n.1.length:Nat):Int) > 70)=false:=zF
   refine Zf (zi hlt (zi hg (zi @Z5g (zi q3 (zi hk1 (zi @Int.natCast_nonneg (zi @Int.ofNat_lt w1))))))) ?_;refine hL3 _ ⟨hk1,(),?_,Zg zp zp⟩;intro n' hn';rw [htk,List.mem_append] at hn'
   rcases hn' with hn' | hn'
   ·exact hR n' hn'
   ·simp at hn';subst hn';omega
 have hke:k=env.l.length:=by omega
 subst hke
 have hlt:decide ((env.l.length:Int)<(env.l.length:Int))=false:=by simp
 rw [List.take_length] at hR;refine Zf hlt ?_;refine hK2 _ ?_;refine Z ?_;exact ⟨true,rfl,fun _=>⟨by omega,by omega,hS,hR⟩⟩
end Go.Hs
end

section
namespace Go.Hs
open Go.Proofs
set_option maxRecDepth 10000
def ruleC:List V := .int .u8 0 :: .int .u8 0 :: .int .u8 0 :: .int .u8 0 :: .int .u8 0 :: .int .u8 0 :: .int .u8 0 :: .int .u8 1 :: .int .u8 0 :: .int .u8 0 :: .int .u8 0 :: .int .u8 1 :: .int .u8 0 :: .int .u8 0 :: .int .u8 0 :: .int .u8 2 :: .int .u8 0 :: .int .u8 0 :: .int .u8 0 :: .int .u8 2 :: .int .u8 1 :: .int .u8 0 :: .int .u8 0 :: .int .u8 1 :: .int .u8 2 :: .int .u8 0 :: .int .u8 0 :: .int .u8 2 :: .int .u8 1 :: .int .u8 1 :: .int .u8 0 :: .int .u8 1 :: .int .u8 1 :: .int .u8 1 :: .int .u8 0 :: .int .u8 1 :: .int .u8 1 :: .int .u8 1 :: .int .u8 0 :: .int .u8 1 :: .int .u8 1 :: .int .u8 1 :: .int .u8 0 :: .int .u8 1 :: .int .u8 1 :: .int .u8 1 :: .int .u8 0 :: .int .u8 1 :: .int .u8 1 :: .int .u8 1 :: .int .u8 0 :: .int .u8 2 :: .int .u8 1 :: .int .u8 1 :: .int .u8 0 :: .int .u8 2 :: .int .u8 1 :: .int .u8 1 :: .int .u8 0 :: .int .u8 2 :: .int .u8 1 :: .int .u8 1 :: .int .u8 0 :: .int .u8 2 :: .int .u8 3 :: .int .u8 3 :: .int .u8 0 :: .int .u8 2 :: .int .u8 3 :: .int .u8 3 :: .int .u8 0 :: .int .u8 2 :: .int .u8 2 :: .int .u8 2 :: .int .u8 0 :: .int .u8 2 :: .int .u8 2 :: .int .u8 2 :: .int .u8 0 :: .int .u8 2 :: .int .u8 2 :: .int .u8 2 :: .int .u8 0 :: .int .u8 2 :: .int .u8 2 :: .int .u8 2 :: .int .u8 0 :: .int .u8 2 :: .int .u8 2 :: .int .u8 3 :: .int .u8 3 :: .int .u8 3::[]
def Zwu (op:Nat):Int:=if op≤4 then 0 else if op=5∨(7≤op∧op≤15) then 1 else if op=16∨op=17 then 3 else 2
def Z20 (op:Nat):Int:=if op≤6 then 0 else if op≤15 then 1 else if op≤17∨op=22 then 3 else 2
def Zuu (op:Nat):Int:=if op=22 then 3 else 0
def Za4 (op:Nat):Int:=if op=0 then 0 else if op≤2 then 1 else if op=22 then 3 else if op=5∨(7≤op∧op≤11) then 1 else 2
theorem Z10 (op:Nat) (h:op<23):(ruleC.drop (op * 4)).take 4=[.int .u8 (Zwu op),.int .u8 (Z20 op),.int .u8 (Zuu op),.int .u8 (Za4 op)]:=by
 match op,h with
 | 0,_=>rfl
 | 1,_=>rfl
 | 2,_=>rfl
 | 3,_=>rfl
 | 4,_=>rfl
 | 5,_=>rfl
 | 6,_=>rfl
 | 7,_=>rfl
 | 8,_=>rfl
 | 9,_=>rfl
 | 10,_=>rfl
 | 11,_=>rfl
 | 12,_=>rfl
 | 13,_=>rfl
 | 14,_=>rfl
 | 15,_=>rfl
 | 16,_=>rfl
 | 17,_=>rfl
 | 18,_=>rfl
 | 19,_=>rfl
 | 20,_=>rfl
 | 21,_=>rfl
 | 22,_=>rfl
 | n+23,h=>omega
theorem Zlu (G:Nat→V) (hG:GOk G):Spec Tryz.prog G 79 [] Zu (fun v _=>v = .agg ruleC):=by
 refine Zo 0 39 [.cell 0 176] Tryz.func79 fun X=>?_;refine Z1 ?_;intro g0;refine Z1 ?_;intro g1 g2;refine Z1 ?_;intro g3 g4;exact Zr
end Go.Hs
end

section
namespace Go.Hs
open Go.Proofs
set_option maxRecDepth 10000
theorem Z7r (G:Nat→V) (hG:GOk G) (c:Col) (t:List UInt8) (s:Sl (List UInt8)) (hs:s.l.length<1000000) :
  Spec Tryz.prog G 88 [Zb c 1 V.str s,.str t] Zu (fun v _=>∃ i:Int,v = .int .i64 i∧decide (i≥0)=s.l.contains t):=by
 refine Zo 0 19 [.tmp 4] Tryz.func88 fun X=>?_;refine Z1 ?_;refine Z1 ?_;refine AW.block ?_
 refine Z0a s.l.length (fun k (_:Unit)=>st [(0,Zb c 1 V.str s),(1,.str t),(7,.int .i64 s.l.length),(8,.int .i64 k)] []) (fun k _=>(s.l.take k).contains t=false) 0 () (Nat.zero_le _) rfl
  (Zg zp zp) ?_
 intro k _ hk hR L2 hL2;refine Z1 ?_;refine Zv ?_;refine Zd rfl (fun h4=>?_) (fun h4=>?_)
 ·have hk1:k<s.l.length:=by simpa using h4
  have hg:=List.getElem?_eq_getElem hk1
  have htk:s.l.take (k+1)=s.l.take k++[s.l[k]]:=by rw [List.take_succ_eq_append_getElem hk1]
  have hmem:=List.getElem_mem hk1;generalize s.l[k]=x at hg htk hmem;refine Z1 ?_;refine Z1f hg ?_;refine Zd rfl (fun h6=>?_) (fun h6=>?_)
  ·have h6:t=x:=by simpa using h6
   refine Z ?_
   have:s.l.contains t=true:=by rw [h6];simpa using hmem
   rw [this];exact ⟨_,rfl,by rw [decide_eq_true_iff];omega⟩
  ·have h6:¬ t=x:=by simpa using h6
   refine Z1 ?_;refine hL2 _ ⟨hk1,(),?_,Zg zw zp⟩;rw [htk];simp only [List.contains_eq_mem,decide_eq_false_iff_not] at hR ⊢;intro hm
   rcases List.mem_append.1 hm with h | h
   ·exact hR h
   ·exact h6 (List.mem_singleton.1 h)
 ·have hk1:k=s.l.length:=by simp at h4;omega
  refine Z ?_;rw [hk1,List.take_length] at hR;rw [hR];exact ⟨_,rfl,rfl⟩
theorem Z4n (G:Nat→V) (hG:GOk G) (c:Col) (t:List UInt8) (s:Sl (List UInt8)) (hs:s.l.length<1000000) :
  Spec Tryz.prog G 62 [Zb c 1 V.str s,.str t] Zu (fun v _=>v = .bool (s.l.contains t)):=by
 refine Zo 0 9 [.tmp 4] Tryz.func62 fun X=>?_;refine Z1 ?_;refine Z1 ?_;refine CallA.pure hG (by kernel_rfl) ?_;refine Zs ?_;refine (Z7r G hG _ t s hs).mono ?_;rintro _ _ ⟨i,rfl,hi⟩;refine Zs ?_;refine Z ?_;rw [hi]
theorem Z43 (G:Nat→V) (hG:GOk G) (c:Col) (s:Sl Int) (hs:s.l.length<1000000) (i:Int) (hi:i<0∨0≤i∧i<s.l.length) :
  Spec Tryz.prog G 119 [.int .i64 i,.view .old (Zb c 1 (V.int .u8) s)] Zu (fun v _=>v = .int .u8 (plc s.l i)):=by
 refine Zo 0 10 [.tmp 3] Tryz.func119 fun X=>?_
 have hP:plc s.l i=if i<0 then 0 else s.l.getD i.toNat 0:=rfl
 generalize plc s.l i=res at hP ⊢;refine Z1 ?_;refine Z1 ?_;refine Zd rfl (fun h2=>?_) (fun h2=>?_)
 ·have h2:i<0:=by simpa using h2
  rw [if_pos h2] at hP;refine Z ?_;rw [hP]
 ·have h2:¬ i<0:=by simpa using h2
  rw [if_neg h2] at hP;obtain ⟨m,rfl⟩:∃ m:Nat,i=m:=⟨i.toNat,by omega⟩
  have hm:m<s.l.length:=by omega
  have hg:=List.getElem?_eq_getElem hm
  have hgd:s.l.getD ((m:Nat):Int).toNat 0=s.l[m]:=by rw [Int.toNat_natCast,List.getD_eq_getElem?_getD,hg]<;>rfl
  rw [hgd] at hP;generalize s.l[m]=x at hg hP;refine Zf hg ?_;rw [hP]
end Go.Hs
end
