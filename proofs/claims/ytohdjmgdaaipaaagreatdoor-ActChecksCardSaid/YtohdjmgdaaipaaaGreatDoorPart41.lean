/- Part 41 of the proof of a statement of seat YtohdjmgdaaipaaaGreatDoor: HsHPrtL HsHActS HsHActS2 HsHActS3 HsHActP HsExprSub HsTypLaw HsHTypR HsHTypK. -/
import Derived.Test.YtohdjmgdaaipaaaGreatDoorPart40
import Derived.Test.YtohdjmgdaaipaaaGreatDoorPart39
import Derived.Test.YtohdjmgdaaipaaaGreatDoorPart37
set_option linter.unusedSimpArgs false
set_option linter.unusedVariables false
section
namespace Go.Hs
open Go.Proofs
set_option maxRecDepth 10000
theorem xn_eqV (n m:XN):(n.op==m.op && (n.num==m.num && (n.name==m.name && (n.a==m.a && (n.b==m.b && (n.c==m.c && true))))))=(n==m):=by
 obtain ⟨a1,a2,a3,a4,a5,a6⟩:=n;obtain ⟨b1,b2,b3,b4,b5,b6⟩:=m;rw [Bool.eq_iff_iff];simp [and_assoc]
theorem sEqualX_spec (G:Nat→V) (hG:GOk G) (c c1:Col) (s t:Sl XN) (hs:s.l.length<1000000) :
  Spec Tryz.prog G 104 [encSl c 6 encXN s,encSl c1 6 encXN t] hNone (fun v _=>v = .bool (s.l==t.l)):=by
 refine Spec.of_code' 0 26 [.tmp 4] Tryz.func104 rfl rfl rfl rfl fun X=>?_;refine AW.seq_k fun K hK=>AW.region (by kernel_rfl) ?_;simp -implicitDefEqProofs only[go_sem,seval,↓reduceIte];refine hK _ ?_;clear hK K;refine AW.seq_k fun K1 hK1=>?_;refine AW.seq_k fun K hK=>AW.region (by kernel_rfl) ?_;simp -implicitDefEqProofs only[go_sem,seval,↓reduceIte];refine hK _ ?_;clear hK K
 by_cases hl:s.l.length=t.l.length
 rotate_left
 ·have q1:(((s.l.length:Nat):Int) != ((t.l.length:Nat):Int))=true:=by simp;omega
  have hne:(s.l==t.l)=false:=by rw [beq_eq_false_iff_ne];exact fun h=>hl (by rw [h])
  rw [q1];refine AW.condS (by simp -implicitDefEqProofs only[go_sem,seval,↓reduceIte];rfl) (fun h10=>?_) (fun h10=>?_)
  ·refine AW.seq_k fun K hK=>AW.region (by kernel_rfl) ?_
   simp -implicitDefEqProofs only[go_sem,seval,↓reduceIte];refine hK _ ?_;clear hK K;refine AW.ret ?_;simp -implicitDefEqProofs only[go_sem,seval,↓reduceIte];refine endK_some ?_;rw [hne]
  ·cases h10
 have q1:(((s.l.length:Nat):Int) != ((t.l.length:Nat):Int))=false:=by simp;omega
 rw [q1];refine AW.condS (by simp -implicitDefEqProofs only[go_sem,seval,↓reduceIte];rfl) (fun h10=>?_) (fun h10=>?_)
 ·cases h10
 refine AW.skip ?_;simp -implicitDefEqProofs only[go_sem,seval,↓reduceIte];refine hK1 _ ?_;refine AW.seq_k fun K2 hK2=>?_;refine AW.seq_k fun K hK=>AW.region (by kernel_rfl) ?_;simp -implicitDefEqProofs only[go_sem,seval,↓reduceIte];refine hK _ ?_;clear hK K;refine AW.block ?_
 refine AW.for s.l.length (fun k (_:Unit)=>st [(0,encSl c 6 encXN s),(1,encSl c1 6 encXN t),(12,.int .i64 s.l.length),(13,.int .i64 k)] []) (fun k _=>s.l.take k=t.l.take k) 0 () (Nat.zero_le _) rfl
  (Weak.st (by simp -implicitDefEqProofs only[go_sem,seval,↓reduceIte];try rfl) (by simp -implicitDefEqProofs only[go_sem,seval,↓reduceIte])) ?_
 intro k _ hk hR L3 hL3;refine AW.seq_k fun K hK=>AW.region (by kernel_rfl) ?_;simp -implicitDefEqProofs only[go_sem,seval,↓reduceIte];refine hK _ ?_;clear hK K;refine AW.seq_k fun K4 hK4=>?_;refine AW.condS (by simp -implicitDefEqProofs only[go_sem,seval,↓reduceIte];rfl) (fun h14=>?_) (fun h14=>?_)
 ·have hk1:k<s.l.length:=by simpa using h14
  have hk2:k<t.l.length:=by omega
  have hg:=List.getElem?_eq_getElem hk1;have hg2:=List.getElem?_eq_getElem hk2
  have htk:s.l.take (k+1)=s.l.take k++[s.l[k]]:=by rw [List.take_succ_eq_append_getElem hk1]
  have htk2:t.l.take (k+1)=t.l.take k++[t.l[k]]:=by rw [List.take_succ_eq_append_getElem hk2]
  generalize s.l[k]=x at hg htk;generalize t.l[k]=y at hg2 htk2;refine AW.skip ?_;simp -implicitDefEqProofs only[go_sem,seval,↓reduceIte];refine hK4 _ ?_;refine AW.seq_k fun K5 hK5=>?_;refine AW.block ?_;refine AW.seq_k fun K hK=>AW.region (by kernel_rfl) ?_;simp -implicitDefEqProofs only[go_sem,seval,↓reduceIte];refine hK _ ?_;clear hK K
  by_cases hxy:x=y
  rotate_left
  ·have q2:(x==y)=false:=by simpa using hxy
   have hne:(s.l==t.l)=false:=by
    rw [beq_eq_false_iff_ne];intro h;rw [h,hg2] at hg;exact hxy (Option.some.inj hg).symm
   refine AW.seq_k fun K hK=>AW.regionT ⟨fun _ => .top,fun _ => .pure⟩ (by kernel_rfl) hG (by kernel_rfl) (by kernel_rfl) ?_;simp -implicitDefEqProofs only[go_sem,seval,↓reduceIte,hg,hg2,encXN_K,xn_eqV,q2];refine hK _ ?_;clear hK K;refine AW.condS (by simp -implicitDefEqProofs only[go_sem,seval,↓reduceIte];rfl) (fun h25=>?_) (fun h25=>?_)
   ·refine AW.seq_k fun K hK=>AW.region (by kernel_rfl) ?_
    simp -implicitDefEqProofs only[go_sem,seval,↓reduceIte];refine hK _ ?_;clear hK K;refine AW.ret ?_;simp -implicitDefEqProofs only[go_sem,seval,↓reduceIte];refine endK_some ?_;rw [hne]
   ·cases h25
  have q2:(x==y)=true:=by simpa using hxy
  refine AW.seq_k fun K hK=>AW.regionT ⟨fun _ => .top,fun _ => .pure⟩ (by kernel_rfl) hG (by kernel_rfl) (by kernel_rfl) ?_;simp -implicitDefEqProofs only[go_sem,seval,↓reduceIte,hg,hg2,encXN_K,xn_eqV,q2];refine hK _ ?_;clear hK K;refine AW.condS (by simp -implicitDefEqProofs only[go_sem,seval,↓reduceIte];rfl) (fun h25=>?_) (fun h25=>?_)
  ·cases h25
  refine AW.skip ?_;simp -implicitDefEqProofs only[go_sem,seval,↓reduceIte];refine hK5 _ ?_;refine AW.region (by kernel_rfl) ?_;simp -implicitDefEqProofs only[go_sem,seval,↓reduceIte];exact hL3 _ ⟨hk1,(),by rw [htk,htk2,hR,hxy],Weak.st (by simp -implicitDefEqProofs only[go_sem,seval,↓reduceIte];exact congrArg _ (w64 (by omega) (by omega))) (by simp -implicitDefEqProofs only[go_sem,seval,↓reduceIte])⟩
 ·have hk1:k=s.l.length:=by simp at h14;omega
  refine AW.exit ?_;simp -implicitDefEqProofs only[go_sem,seval,↓reduceIte];refine hK2 _ ?_;rw [hk1,List.take_length,hl,List.take_length] at hR;refine AW.seq_k fun K hK=>AW.region (by kernel_rfl) ?_;simp -implicitDefEqProofs only[go_sem,seval,↓reduceIte];refine hK _ ?_;clear hK K;refine AW.ret ?_;simp -implicitDefEqProofs only[go_sem,seval,↓reduceIte];refine endK_some ?_;rw [hR];simp
theorem xSame_spec (G:Nat→V) (hG:GOk G) (c c1:Col) (s t:Sl XN) (hs:s.l.length<1000000) :
  Spec Tryz.prog G 57 [.agg [encSl c 6 encXN s],.agg [encSl c1 6 encXN t]] hNone (fun v _=>v = .bool (s.l==t.l)):=by
 refine Spec.of_code' 0 10 [.tmp 4] Tryz.func57 rfl rfl rfl rfl fun X=>?_;refine AW.seq_k fun K hK=>AW.region (by kernel_rfl) ?_;simp -implicitDefEqProofs only[go_sem,seval,↓reduceIte];intro g2 g3;refine hK _ ?_;clear hK K;refine AW.seq_k fun K hK=>AW.region (by kernel_rfl) ?_;simp -implicitDefEqProofs only[go_sem,seval,↓reduceIte];refine CallA.pure hG (by kernel_rfl) ?_;simp -implicitDefEqProofs only[go_sem,seval,↓reduceIte,recol_xns];refine (sEqualX_spec G hG _ _ s t hs).mono ?_;rintro _ _ rfl;simp -implicitDefEqProofs only[go_sem,seval,↓reduceIte];refine hK _ ?_;clear hK K;refine AW.ret ?_;simp -implicitDefEqProofs only[go_sem,seval,↓reduceIte];refine endK_some ?_;rfl
end Go.Hs
end

section
namespace Go.Hs
open Go.Proofs
set_option maxRecDepth 10000
structure AM where
 kind:Int
 name:List UInt8
 x:Sl XN
def AM.v (s:AM):ASt:=⟨s.kind,s.name,s.x.l⟩
def encAM (c:Col) (s:AM):V := .agg [.int .u8 s.kind,.str s.name,encSl c 6 encXN s.x]
theorem encAM_K (c:Col) (s:AM):encAM c s = .agg [.int .u8 s.kind,.str s.name,encSl c 6 encXN s.x]:=rfl
theorem recol_am (f:Col→Col) (c:Col) (s:AM):(encAM c s).recol f=encAM (f c) s:=by simp only [encAM_K,recol_agg,List.map_cons,List.map_nil,recol_int,recol_str,recol_xns]
@[go_sem] theorem recol_ams (g:Col→Col) (c c1:Col) (s:Sl AM):(encSl c 3 (encAM c1) s).recol g=encSl (g c) 3 (encAM (g c1)) s:=recol_enc g c 3 (recol_am g c1) s
theorem ne_at {a b:List AM} {k:Nat} {x y:AM} (hx:a[k]? = some x) (hy:b[k]? = some y) (h:x.v≠y.v):(a.map AM.v==b.map AM.v)=false:=by
 rw [beq_eq_false_iff_ne];intro he;have:=congrArg (fun l:List ASt=>l[k]?) he;simp only [List.getElem?_map,hx,hy,Option.map_some,Option.some.injEq] at this;exact h this
theorem aSame_spec (G:Nat→V) (hG:GOk G) (c c1 d d1:Col) (s t:Sl AM) (hs:s.l.length<1000000) (hx:∀ x∈s.l,x.x.l.length<1000000) :
  Spec Tryz.prog G 15 [encSl c 3 (encAM c1) s,encSl d 3 (encAM d1) t] hNone (fun v _=>v = .bool (s.l.map AM.v==t.l.map AM.v)):=by
 refine Spec.of_code' 0 84 [.tmp 4] Tryz.func15 rfl rfl rfl rfl fun X=>?_;refine AW.seq_k fun K hK=>AW.region (by kernel_rfl) ?_;simp -implicitDefEqProofs only[go_sem,seval,↓reduceIte];refine hK _ ?_;clear hK K;refine AW.seq_k fun K1 hK1=>?_;refine AW.seq_k fun K hK=>AW.region (by kernel_rfl) ?_;simp -implicitDefEqProofs only[go_sem,seval,↓reduceIte];refine hK _ ?_;clear hK K
 by_cases hl:s.l.length=t.l.length
 rotate_left
 ·have q1:(((s.l.length:Nat):Int) != ((t.l.length:Nat):Int))=true:=by simp;omega
  have hne:(s.l.map AM.v==t.l.map AM.v)=false:=by rw [beq_eq_false_iff_ne];exact fun h=>hl (by have:=congrArg List.length h;simpa using this)
  rw [q1];refine AW.condS (by simp -implicitDefEqProofs only[go_sem,seval,↓reduceIte];rfl) (fun h11=>?_) (fun h11=>?_)
  ·refine AW.seq_k fun K hK=>AW.region (by kernel_rfl) ?_
   simp -implicitDefEqProofs only[go_sem,seval,↓reduceIte];refine hK _ ?_;clear hK K;refine AW.ret ?_;simp -implicitDefEqProofs only[go_sem,seval,↓reduceIte];refine endK_some ?_;rw [hne]
  ·cases h11
 have q1:(((s.l.length:Nat):Int) != ((t.l.length:Nat):Int))=false:=by simp;omega
 rw [q1];refine AW.condS (by simp -implicitDefEqProofs only[go_sem,seval,↓reduceIte];rfl) (fun h11=>?_) (fun h11=>?_)
 ·cases h11
 refine AW.skip ?_;simp -implicitDefEqProofs only[go_sem,seval,↓reduceIte];refine hK1 _ ?_;refine AW.seq_k fun K2 hK2=>?_;refine AW.seq_k fun K hK=>AW.region (by kernel_rfl) ?_;simp -implicitDefEqProofs only[go_sem,seval,↓reduceIte];refine hK _ ?_;clear hK K;refine AW.block ?_
 refine AW.for s.l.length (fun k (_:Unit)=>st [(0,encSl c 3 (encAM c1) s),(1,encSl d 3 (encAM d1) t),(5,.int .i64 k)] []) (fun k _=>(s.l.take k).map AM.v=(t.l.take k).map AM.v) 0 () (Nat.zero_le _) rfl
  (Weak.st (by simp -implicitDefEqProofs only[go_sem,seval,↓reduceIte];try rfl) (by simp -implicitDefEqProofs only[go_sem,seval,↓reduceIte])) ?_
 intro k _ hk hR L3 hL3;refine AW.seq_k fun K4 hK4=>?_;refine AW.seq_k fun K hK=>AW.region (by kernel_rfl) ?_;simp -implicitDefEqProofs only[go_sem,seval,↓reduceIte];refine hK _ ?_;clear hK K;refine AW.condS (by simp -implicitDefEqProofs only[go_sem,seval,↓reduceIte];rfl) (fun h15=>?_) (fun h15=>?_);rotate_left
 ·have hk1:k=s.l.length:=by have h15:decide ((k:Int)<s.l.length)=false:=h15;simp at h15;omega
  refine AW.exit ?_;simp -implicitDefEqProofs only[go_sem,seval,↓reduceIte];refine hK2 _ ?_;rw [hk1,List.take_length,hl,List.take_length] at hR;refine AW.seq_k fun K hK=>AW.region (by kernel_rfl) ?_;simp -implicitDefEqProofs only[go_sem,seval,↓reduceIte];refine hK _ ?_;clear hK K;refine AW.ret ?_;simp -implicitDefEqProofs only[go_sem,seval,↓reduceIte];refine endK_some ?_;rw [hR];simp
 have hk1:k<s.l.length:=by have h15:decide ((k:Int)<s.l.length)=true:=h15;simp at h15;omega
 have hk2:k<t.l.length:=by omega
 have hg:=List.getElem?_eq_getElem hk1;have hg2:=List.getElem?_eq_getElem hk2;have hxx:=hx _ (List.getElem_mem hk1)
 have htk:s.l.take (k+1)=s.l.take k++[s.l[k]]:=by rw [List.take_succ_eq_append_getElem hk1]
 have htk2:t.l.take (k+1)=t.l.take k++[t.l[k]]:=by rw [List.take_succ_eq_append_getElem hk2]
 generalize s.l[k]=a at hg htk hxx;generalize t.l[k]=b at hg2 htk2;refine AW.skip ?_;simp -implicitDefEqProofs only[go_sem,seval,↓reduceIte];refine hK4 _ ?_;refine AW.seqJ (fun (_:Unit)=>st [(0,encSl c 3 (encAM c1) s),(1,encSl d 3 (encAM d1) t),(5,.int .i64 k)] []) (fun _=>a.v=b.v) (fun K5 hK5=>?_) ?_;rotate_left
 ·intro _ hab
  refine AW.region (by kernel_rfl) ?_;simp -implicitDefEqProofs only[go_sem,seval,↓reduceIte];exact hL3 _ ⟨hk1,(),by rw [htk,htk2,List.map_append,List.map_append,hR];show _++[a.v]=_++[b.v];rw [hab],Weak.st (by simp -implicitDefEqProofs only[go_sem,seval,↓reduceIte];exact congrArg _ (w64 (by omega) (by omega))) (by simp -implicitDefEqProofs only[go_sem,seval,↓reduceIte])⟩
 refine AW.block ?_;refine AW.seq_k fun K6 hK6=>?_
 by_cases e1:a.kind=b.kind
 rotate_left
 ·have q1:(a.kind==b.kind)=false:=by simpa using e1
  refine AW.seq_k fun K hK=>AW.regionT ⟨fun _ => .top,fun _ => .pure⟩ (by kernel_rfl) hG (by kernel_rfl) (by kernel_rfl) ?_;simp -implicitDefEqProofs only[go_sem,seval,↓reduceIte,hg,hg2,encAM_K,bne,q1];refine hK _ ?_;clear hK K;refine AW.condS (by simp -implicitDefEqProofs only[go_sem,seval,↓reduceIte];rfl) (fun h56=>?_) (fun h56=>?_);rotate_left
  ·cases h56
  refine AW.seq_k fun K hK=>AW.region (by kernel_rfl) ?_;simp -implicitDefEqProofs only[go_sem,seval,↓reduceIte];refine hK _ ?_;clear hK K;refine AW.ret ?_;simp -implicitDefEqProofs only[go_sem,seval,↓reduceIte];refine endK_some ?_;rw [ne_at hg hg2 (fun h=>e1 (congrArg ASt.kind h))]
 by_cases e2:a.name=b.name
 rotate_left
 ·have q1:(a.kind==b.kind)=true:=by simpa using e1
  have q2:(a.name==b.name)=false:=by simpa using e2
  refine AW.seq_k fun K hK=>AW.regionT ⟨fun _ => .top,fun _ => .pure⟩ (by kernel_rfl) hG (by kernel_rfl) (by kernel_rfl) ?_;simp -implicitDefEqProofs only[go_sem,seval,↓reduceIte,hg,hg2,encAM_K,bne,q1,q2];refine hK _ ?_;clear hK K;refine AW.condS (by simp -implicitDefEqProofs only[go_sem,seval,↓reduceIte];rfl) (fun h56=>?_) (fun h56=>?_);rotate_left
  ·cases h56
  refine AW.seq_k fun K hK=>AW.region (by kernel_rfl) ?_;simp -implicitDefEqProofs only[go_sem,seval,↓reduceIte];refine hK _ ?_;clear hK K;refine AW.ret ?_;simp -implicitDefEqProofs only[go_sem,seval,↓reduceIte];refine endK_some ?_;rw [ne_at hg hg2 (fun h=>e2 (congrArg ASt.name h))]
 have q1:(a.kind==b.kind)=true:=by simpa using e1
 have q2:(a.name==b.name)=true:=by simpa using e2
 by_cases e3:a.x.l.length=b.x.l.length
 rotate_left
 ·have q3:((a.x.l.length:Int)==b.x.l.length)=false:=by rw [beq_eq_false_iff_ne];omega
  refine AW.seq_k fun K hK=>AW.regionT ⟨fun _ => .top,fun _ => .pure⟩ (by kernel_rfl) hG (by kernel_rfl) (by kernel_rfl) ?_;simp -implicitDefEqProofs only[go_sem,seval,↓reduceIte,hg,hg2,encAM_K,bne,q1,q2,q3];refine hK _ ?_;clear hK K;refine AW.condS (by simp -implicitDefEqProofs only[go_sem,seval,↓reduceIte];rfl) (fun h56=>?_) (fun h56=>?_);rotate_left
  ·cases h56
  refine AW.seq_k fun K hK=>AW.region (by kernel_rfl) ?_;simp -implicitDefEqProofs only[go_sem,seval,↓reduceIte];refine hK _ ?_;clear hK K;refine AW.ret ?_;simp -implicitDefEqProofs only[go_sem,seval,↓reduceIte];refine endK_some ?_;rw [ne_at hg hg2 (fun h=>e3 (congrArg (fun z:ASt=>z.x.length) h))]
 have q3:((a.x.l.length:Int)==b.x.l.length)=true:=by rw [beq_iff_eq];omega
 refine AW.seq_k fun K hK=>AW.regionT ⟨fun _ => .top,fun _ => .pure⟩ (by kernel_rfl) hG (by kernel_rfl) (by kernel_rfl) ?_;simp -implicitDefEqProofs only[go_sem,seval,↓reduceIte,hg,hg2,encAM_K,bne,q1,q2,q3];refine hK _ ?_;clear hK K;refine AW.condS (by simp -implicitDefEqProofs only[go_sem,seval,↓reduceIte];rfl) (fun h56=>?_) (fun h56=>?_)
 ·cases h56
 refine AW.skip ?_;simp -implicitDefEqProofs only[go_sem,seval,↓reduceIte];refine hK6 _ ?_;refine AW.seq_k fun K hK=>AW.region (by kernel_rfl) ?_;simp -implicitDefEqProofs only[go_sem,seval,↓reduceIte];refine hK _ ?_;clear hK K;refine AW.block ?_
 refine AW.for a.x.l.length (fun m (_:Unit)=>st [(0,encSl c 3 (encAM c1) s),(1,encSl d 3 (encAM d1) t),(5,.int .i64 k),(6,.int .i64 m)] []) (fun m _=>a.x.l.take m=b.x.l.take m) 0 () (Nat.zero_le _) rfl
  (Weak.st (by simp -implicitDefEqProofs only[go_sem,seval,↓reduceIte];try rfl) (by simp -implicitDefEqProofs only[go_sem,seval,↓reduceIte])) ?_
 intro m _ hm hR2 L7 hL7;refine AW.seq_k fun K8 hK8=>?_;refine AW.seq_k fun K hK=>AW.region (by kernel_rfl) ?_;simp -implicitDefEqProofs only[go_sem,seval,↓reduceIte,hg,encAM_K];refine hK _ ?_;clear hK K;refine AW.condS (by simp -implicitDefEqProofs only[go_sem,seval,↓reduceIte];rfl) (fun h64=>?_) (fun h64=>?_);rotate_left
 ·have hm1:m=a.x.l.length:=by have h64:decide ((m:Int)<a.x.l.length)=false:=h64;simp at h64;omega
  refine AW.exit ?_;simp -implicitDefEqProofs only[go_sem,seval,↓reduceIte];rw [hm1,List.take_length,e3,List.take_length] at hR2;exact hK5 _ () (by unfold AM.v;rw [e1,e2,hR2]) (Weak.st (by simp -implicitDefEqProofs only[go_sem,seval,↓reduceIte];try rfl) (by simp -implicitDefEqProofs only[go_sem,seval,↓reduceIte];try rfl))
 have hm1:m<a.x.l.length:=by have h64:decide ((m:Int)<a.x.l.length)=true:=h64;simp at h64;omega
 have hm2:m<b.x.l.length:=by omega
 have hg3:=List.getElem?_eq_getElem hm1;have hg4:=List.getElem?_eq_getElem hm2
 have htk3:a.x.l.take (m+1)=a.x.l.take m++[a.x.l[m]]:=by rw [List.take_succ_eq_append_getElem hm1]
 have htk4:b.x.l.take (m+1)=b.x.l.take m++[b.x.l[m]]:=by rw [List.take_succ_eq_append_getElem hm2]
 generalize a.x.l[m]=x at hg3 htk3;generalize b.x.l[m]=y at hg4 htk4;refine AW.skip ?_;simp -implicitDefEqProofs only[go_sem,seval,↓reduceIte];refine hK8 _ ?_;refine AW.seq_k fun K9 hK9=>?_;refine AW.block ?_
 by_cases hxy:x=y
 rotate_left
 ·have q4:(x==y)=false:=by simpa using hxy
  refine AW.seq_k fun K hK=>AW.regionT ⟨fun _ => .top,fun _ => .pure⟩ (by kernel_rfl) hG (by kernel_rfl) (by kernel_rfl) ?_;simp -implicitDefEqProofs only[go_sem,seval,↓reduceIte,hg,hg2,encAM_K,hg3,hg4,encXN_K,xn_eqV,q4];refine hK _ ?_;clear hK K;refine AW.condS (by simp -implicitDefEqProofs only[go_sem,seval,↓reduceIte];rfl) (fun h83=>?_) (fun h83=>?_);rotate_left
  ·cases h83
  refine AW.seq_k fun K hK=>AW.region (by kernel_rfl) ?_;simp -implicitDefEqProofs only[go_sem,seval,↓reduceIte];refine hK _ ?_;clear hK K;refine AW.ret ?_;simp -implicitDefEqProofs only[go_sem,seval,↓reduceIte];refine endK_some ?_;rw [ne_at hg hg2 (fun h=>hxy ?_)];have:=congrArg (fun z:ASt=>z.x[m]?) h;simp only [AM.v,hg3,hg4,Option.some.injEq] at this;exact this
 have q4:(x==y)=true:=by simpa using hxy
 refine AW.seq_k fun K hK=>AW.regionT ⟨fun _ => .top,fun _ => .pure⟩ (by kernel_rfl) hG (by kernel_rfl) (by kernel_rfl) ?_;simp -implicitDefEqProofs only[go_sem,seval,↓reduceIte,hg,hg2,encAM_K,hg3,hg4,encXN_K,xn_eqV,q4];refine hK _ ?_;clear hK K;refine AW.condS (by simp -implicitDefEqProofs only[go_sem,seval,↓reduceIte];rfl) (fun h83=>?_) (fun h83=>?_)
 ·cases h83
 refine AW.skip ?_;simp -implicitDefEqProofs only[go_sem,seval,↓reduceIte];refine hK9 _ ?_;refine AW.region (by kernel_rfl) ?_;simp -implicitDefEqProofs only[go_sem,seval,↓reduceIte];exact hL7 _ ⟨hm1,(),by rw [htk3,htk4,hR2,hxy],Weak.st (by simp -implicitDefEqProofs only[go_sem,seval,↓reduceIte];exact congrArg _ (w64 (by omega) (by omega))) (by simp -implicitDefEqProofs only[go_sem,seval,↓reduceIte])⟩
end Go.Hs
end

section
namespace Go.Hs
open Go.Proofs
set_option maxRecDepth 10000
def stOk (s:ASt):Bool:=(s.kind==1 || s.kind==2) && isP s.name==2 && ((s.kind==2 && s.x.isEmpty) || checkP s.x==0)
def checkA (l:List ASt):Int:=if l.length > 512 then 2 else if l.all stOk=true then 0 else 2
structure AmOk (l:List AM):Prop where
 len:l.length<1000000
 row:∀ a∈l,a.name.length<100000∧a.x.l.length<1000000∧∀ n∈a.x.l,n.name.length<100000
theorem all_take {l:List AM} {k:Nat} {a:AM} (h:l[k]? = some a) (h1:(l.take k).all (fun a=>stOk a.v)=true) (h2:stOk a.v=true):(l.take (k+1)).all (fun a=>stOk a.v)=true:=by
 rw [List.take_add_one,h,List.all_append,h1];simpa using h2
theorem all_bad {l:List AM} {k:Nat} {a:AM} (h:l[k]? = some a) (h2:stOk a.v=false):(l.map AM.v).all stOk=false:=by
 rw [Bool.eq_false_iff];intro h3;rw [List.all_eq_true] at h3;have:=h3 a.v (List.mem_map_of_mem (List.mem_of_getElem? h));rw [h2] at this;cases this
theorem aCheck_spec (G:Nat→V) (hG:GOk G) (c c1:Col) (s:Sl AM) (hA:AmOk s.l) :
  Spec Tryz.prog G 25 [encSl c 3 (encAM c1) s] hNone (fun v _=>v = .int .i64 (checkA (s.l.map AM.v))):=by
 have hs:=hA.len;refine Spec.of_code' 0 47 [.tmp 2] Tryz.func25 rfl rfl rfl rfl fun X=>?_
 have hP:checkA (s.l.map AM.v)=if s.l.length > 512 then 2 else if (s.l.map AM.v).all stOk=true then 0 else 2:=by unfold checkA;rw [List.length_map]
 generalize checkA (s.l.map AM.v)=res at hP ⊢;refine AW.seq_k fun K hK=>AW.region (by kernel_rfl) ?_;simp -implicitDefEqProofs only[go_sem,seval,↓reduceIte];refine hK _ ?_;clear hK K;refine AW.seq_k fun K1 hK1=>?_
 by_cases hl:s.l.length > 512
 ·rw [if_pos hl] at hP
  have q1:decide ((s.l.length:Int) > 512)=true:=by rw [decide_eq_true_iff];omega
  refine AW.seq_k fun K hK=>AW.region (by kernel_rfl) ?_;simp -implicitDefEqProofs only[go_sem,seval,↓reduceIte,q1];refine hK _ ?_;clear hK K;refine AW.condS (by simp -implicitDefEqProofs only[go_sem,seval,↓reduceIte];rfl) (fun h7=>?_) (fun h7=>?_);rotate_left
  ·cases h7
  refine AW.seq_k fun K hK=>AW.region (by kernel_rfl) ?_;simp -implicitDefEqProofs only[go_sem,seval,↓reduceIte];refine hK _ ?_;clear hK K;refine AW.ret ?_;simp -implicitDefEqProofs only[go_sem,seval,↓reduceIte];refine endK_some ?_;rw [hP]
 rw [if_neg hl] at hP
 have q1:decide ((s.l.length:Int) > 512)=false:=by rw [decide_eq_false_iff_not];omega
 refine AW.seq_k fun K hK=>AW.region (by kernel_rfl) ?_;simp -implicitDefEqProofs only[go_sem,seval,↓reduceIte,q1];refine hK _ ?_;clear hK K;refine AW.condS (by simp -implicitDefEqProofs only[go_sem,seval,↓reduceIte];rfl) (fun h7=>?_) (fun h7=>?_)
 ·cases h7
 refine AW.skip ?_;simp -implicitDefEqProofs only[go_sem,seval,↓reduceIte];refine hK1 _ ?_;refine AW.seq_k fun K2 hK2=>?_;refine AW.seq_k fun K hK=>AW.region (by kernel_rfl) ?_;simp -implicitDefEqProofs only[go_sem,seval,↓reduceIte];refine hK _ ?_;clear hK K;refine AW.block ?_
 refine AW.for s.l.length (fun k (_:Unit)=>st [(0,encSl c 3 (encAM c1) s),(3,.int .i64 k)] []) (fun k _=>(s.l.take k).all (fun a=>stOk a.v)=true) 0 () (Nat.zero_le _) rfl
  (Weak.st (by simp -implicitDefEqProofs only[go_sem,seval,↓reduceIte];try rfl) (by simp -implicitDefEqProofs only[go_sem,seval,↓reduceIte];try rfl)) ?_
 intro k _ hk hR L3 hL3;refine AW.seq_k fun K4 hK4=>?_;refine AW.seq_k fun K hK=>AW.region (by kernel_rfl) ?_;simp -implicitDefEqProofs only[go_sem,seval,↓reduceIte];refine hK _ ?_;clear hK K;refine AW.condS (by simp -implicitDefEqProofs only[go_sem,seval,↓reduceIte];rfl) (fun h11=>?_) (fun h11=>?_);rotate_left
 ·have hk1:k=s.l.length:=by have h11:decide ((k:Int)<s.l.length)=false:=h11;simp at h11;omega
  refine AW.exit ?_;simp -implicitDefEqProofs only[go_sem,seval,↓reduceIte];refine hK2 _ ?_;rw [hk1,List.take_length] at hR;rw [if_pos (by rw [List.all_map];exact hR)] at hP;refine AW.seq_k fun K hK=>AW.region (by kernel_rfl) ?_;simp -implicitDefEqProofs only[go_sem,seval,↓reduceIte];refine hK _ ?_;clear hK K;refine AW.ret ?_;simp -implicitDefEqProofs only[go_sem,seval,↓reduceIte];refine endK_some ?_;rw [hP]
 have hk1:k<s.l.length:=by have h11:decide ((k:Int)<s.l.length)=true:=h11;simp at h11;omega
 have hg:=List.getElem?_eq_getElem hk1;obtain ⟨r1,r2,r3⟩:=hA.row _ (List.getElem_mem hk1);generalize s.l[k]=a at hg r1 r2 r3;have hbad:=fun h=>if_neg (c:=((s.l.map AM.v).all stOk=true)) (by rw [all_bad hg h];decide) ▸ hP;refine AW.skip ?_;simp -implicitDefEqProofs only[go_sem,seval,↓reduceIte];refine hK4 _ ?_;refine AW.seqJ (fun (_:Unit)=>st [(0,encSl c 3 (encAM c1) s),(3,.int .i64 k)] []) (fun _=>stOk a.v=true) (fun K5 hK5=>?_) ?_;rotate_left
 ·intro _ hab
  refine AW.region (by kernel_rfl) ?_;simp -implicitDefEqProofs only[go_sem,seval,↓reduceIte];exact hL3 _ ⟨hk1,(),all_take hg hR hab,Weak.st (by simp -implicitDefEqProofs only[go_sem,seval,↓reduceIte];exact congrArg _ (w64 (by omega) (by omega))) (by simp -implicitDefEqProofs only[go_sem,seval,↓reduceIte])⟩
 refine AW.block ?_;refine AW.seq_k fun K hK=>AW.region (by kernel_rfl) ?_;simp -implicitDefEqProofs only[go_sem,seval,↓reduceIte,hg,encAM_K];intro g4;refine hK _ ?_;clear hK K;refine AW.seqJ (fun (_:Unit)=>st [(0,encSl c 3 (encAM c1) s),(3,.int .i64 k),(4,.ptr 4 g4 0)] [(4,.cells .new g4 0 [.int .u8 a.kind,.str a.name,encSl c1 6 encXN a.x])]) (fun _=>(a.kind=1∨a.kind=2)∧isP a.name=2) (fun K6 hK6=>?_) ?_
 ·by_cases hk12:a.kind=1∨a.kind=2
  rotate_left
  ·have q2:(a.kind==1)=false:=by rw [beq_eq_false_iff_ne];exact fun h=>hk12 (.inl h)
   have q3:(a.kind==2)=false:=by rw [beq_eq_false_iff_ne];exact fun h=>hk12 (.inr h)
   refine AW.seq_k fun K hK=>AW.region (by kernel_rfl) ?_;simp -implicitDefEqProofs only[go_sem,seval,↓reduceIte,bne,q2,q3];refine hK _ ?_;clear hK K;refine AW.condS (by simp -implicitDefEqProofs only[go_sem,seval,↓reduceIte];rfl) (fun h31=>?_) (fun h31=>?_);rotate_left
   ·cases h31
   refine AW.seq_k fun K hK=>AW.region (by kernel_rfl) ?_;simp -implicitDefEqProofs only[go_sem,seval,↓reduceIte];refine hK _ ?_;clear hK K;refine AW.ret ?_;simp -implicitDefEqProofs only[go_sem,seval,↓reduceIte];refine endK_some ?_;rw [hbad (by unfold stOk AM.v;rw [show ((a.kind==1)=false) from q2,show ((a.kind==2)=false) from q3];rfl)]
  by_cases hi:isP a.name=2
  rotate_left
  ·have q4:((isP a.name:Int)==2)=false:=by rw [beq_eq_false_iff_ne];omega
   have q5:(isP a.name==2)=false:=by simpa using hi
   rcases hk12 with e1 | e1
   ·have q2:(a.kind==1)=true:=by simpa using e1
    refine AW.seq_k fun K hK=>AW.region (by kernel_rfl) ?_;simp -implicitDefEqProofs only[go_sem,seval,↓reduceIte,bne,q2];refine CallA.pure hG (by kernel_rfl) ?_;simp -implicitDefEqProofs only[go_sem,seval,↓reduceIte];refine (rIs_spec G hG a.name (by omega)).mono ?_;rintro _ _ rfl;simp -implicitDefEqProofs only[go_sem,seval,↓reduceIte,bne,q4];refine hK _ ?_;clear hK K;refine AW.condS (by simp -implicitDefEqProofs only[go_sem,seval,↓reduceIte];rfl) (fun h31=>?_) (fun h31=>?_);rotate_left
    ·cases h31
    refine AW.seq_k fun K hK=>AW.region (by kernel_rfl) ?_;simp -implicitDefEqProofs only[go_sem,seval,↓reduceIte];refine hK _ ?_;clear hK K;refine AW.ret ?_;simp -implicitDefEqProofs only[go_sem,seval,↓reduceIte];refine endK_some ?_;rw [hbad (by unfold stOk AM.v;simp only [q5,Bool.and_false,Bool.false_and])]
   ·have q2:(a.kind==1)=false:=by rw [beq_eq_false_iff_ne];omega
    have q3:(a.kind==2)=true:=by simpa using e1
    refine AW.seq_k fun K hK=>AW.region (by kernel_rfl) ?_;simp -implicitDefEqProofs only[go_sem,seval,↓reduceIte,bne,q2,q3];refine CallA.pure hG (by kernel_rfl) ?_;simp -implicitDefEqProofs only[go_sem,seval,↓reduceIte];refine (rIs_spec G hG a.name (by omega)).mono ?_;rintro _ _ rfl;simp -implicitDefEqProofs only[go_sem,seval,↓reduceIte,bne,q4];refine hK _ ?_;clear hK K;refine AW.condS (by simp -implicitDefEqProofs only[go_sem,seval,↓reduceIte];rfl) (fun h31=>?_) (fun h31=>?_);rotate_left
    ·cases h31
    refine AW.seq_k fun K hK=>AW.region (by kernel_rfl) ?_;simp -implicitDefEqProofs only[go_sem,seval,↓reduceIte];refine hK _ ?_;clear hK K;refine AW.ret ?_;simp -implicitDefEqProofs only[go_sem,seval,↓reduceIte];refine endK_some ?_;rw [hbad (by unfold stOk AM.v;simp only [q5,Bool.and_false,Bool.false_and])]
  have q4:((isP a.name:Int)==2)=true:=by rw [beq_iff_eq];omega
  rcases hk12 with e1 | e1
  ·have q2:(a.kind==1)=true:=by simpa using e1
   refine AW.seq_k fun K hK=>AW.region (by kernel_rfl) ?_;simp -implicitDefEqProofs only[go_sem,seval,↓reduceIte,bne,q2];refine CallA.pure hG (by kernel_rfl) ?_;simp -implicitDefEqProofs only[go_sem,seval,↓reduceIte];refine (rIs_spec G hG a.name (by omega)).mono ?_;rintro _ _ rfl;simp -implicitDefEqProofs only[go_sem,seval,↓reduceIte,bne,q4];refine hK _ ?_;clear hK K;refine AW.condS (by simp -implicitDefEqProofs only[go_sem,seval,↓reduceIte];rfl) (fun h31=>?_) (fun h31=>?_)
   ·cases h31
   refine AW.skip ?_;simp -implicitDefEqProofs only[go_sem,seval,↓reduceIte];exact hK6 _ () ⟨.inl e1,hi⟩ (Weak.st (by simp -implicitDefEqProofs only[go_sem,seval,↓reduceIte];try rfl) (by simp -implicitDefEqProofs only[go_sem,seval,↓reduceIte];try rfl))
  ·have q2:(a.kind==1)=false:=by rw [beq_eq_false_iff_ne];omega
   have q3:(a.kind==2)=true:=by simpa using e1
   refine AW.seq_k fun K hK=>AW.region (by kernel_rfl) ?_;simp -implicitDefEqProofs only[go_sem,seval,↓reduceIte,bne,q2,q3];refine CallA.pure hG (by kernel_rfl) ?_;simp -implicitDefEqProofs only[go_sem,seval,↓reduceIte];refine (rIs_spec G hG a.name (by omega)).mono ?_;rintro _ _ rfl;simp -implicitDefEqProofs only[go_sem,seval,↓reduceIte,bne,q4];refine hK _ ?_;clear hK K;refine AW.condS (by simp -implicitDefEqProofs only[go_sem,seval,↓reduceIte];rfl) (fun h31=>?_) (fun h31=>?_)
   ·cases h31
   refine AW.skip ?_;simp -implicitDefEqProofs only[go_sem,seval,↓reduceIte];exact hK6 _ () ⟨.inr e1,hi⟩ (Weak.st (by simp -implicitDefEqProofs only[go_sem,seval,↓reduceIte];try rfl) (by simp -implicitDefEqProofs only[go_sem,seval,↓reduceIte];try rfl))
 rintro _ ⟨hk12,hi⟩
 have q5:(isP a.name==2)=true:=by simpa using hi
 have q6:(a.kind==1 || a.kind==2)=true:=by simpa using hk12
 have hst:stOk a.v=((a.kind==2 && a.x.l.isEmpty) || checkP a.x.l==0):=by
  unfold stOk AM.v;simp only [q5,q6,Bool.true_and]
 by_cases hbare:a.kind=2∧a.x.l.length=0
 ·have q2:(a.kind==1)=false:=by rw [beq_eq_false_iff_ne];omega
  have q3:(a.kind==2)=true:=by simpa using hbare.1
  have q7:decide ((a.x.l.length:Int) > 0)=false:=by rw [decide_eq_false_iff_not];omega
  refine AW.seq_k fun K hK=>AW.region (by kernel_rfl) ?_;simp -implicitDefEqProofs only[go_sem,seval,↓reduceIte,q2,q7];refine hK _ ?_;clear hK K;refine AW.condS (by simp -implicitDefEqProofs only[go_sem,seval,↓reduceIte];rfl) (fun h46=>?_) (fun h46=>?_)
  ·cases h46
  refine AW.skip ?_;simp -implicitDefEqProofs only[go_sem,seval,↓reduceIte];exact hK5 _ () (by rw [hst,q3,List.isEmpty_iff_length_eq_zero.2 hbare.2];rfl) (Weak.st (by simp -implicitDefEqProofs only[go_sem,seval,↓reduceIte];try rfl) (by simp -implicitDefEqProofs only[go_sem,seval,↓reduceIte];try rfl))
 have hst2:stOk a.v=(checkP a.x.l==0):=by
  rw [hst]
  have:(a.kind==2 && a.x.l.isEmpty)=false:=by
   rw [Bool.eq_false_iff];intro h;rw [Bool.and_eq_true] at h;exact hbare ⟨by simpa using h.1,List.isEmpty_iff_length_eq_zero.1 h.2⟩
  rw [this,Bool.false_or]
 have hck:=fun c=>rCheck_spec G hG c a.x r2 r3;generalize checkP a.x.l=ck at hst2 hck;refine AW.seqJ (fun (b:Bool)=>st [(0,encSl c 3 (encAM c1) s),(3,.int .i64 k),(46,.bool b)] []) (fun b=>b = !(ck==0)) (fun K7 hK7=>?_) ?_
 ·refine AW.region (by kernel_rfl) ?_
  by_cases e1:a.kind=1
  ·have q2:(a.kind==1)=true:=by simpa using e1
   simp -implicitDefEqProofs only[go_sem,seval,↓reduceIte,q2,bne];refine CallA.pure hG (by kernel_rfl) ?_;simp -implicitDefEqProofs only[go_sem,seval,↓reduceIte,recol_xns];refine (hck _).mono ?_;rintro _ _ rfl;simp -implicitDefEqProofs only[go_sem,seval,↓reduceIte,q2,bne];exact hK7 _ _ rfl (Weak.st (by simp -implicitDefEqProofs only[go_sem,seval,↓reduceIte];try rfl) (by simp -implicitDefEqProofs only[go_sem,seval,↓reduceIte];try rfl))
  ·have q2:(a.kind==1)=false:=by simpa using e1
   have q7:decide ((a.x.l.length:Int) > 0)=true:=by rw [decide_eq_true_iff];omega
   simp -implicitDefEqProofs only[go_sem,seval,↓reduceIte,q2,q7,bne];refine CallA.pure hG (by kernel_rfl) ?_;simp -implicitDefEqProofs only[go_sem,seval,↓reduceIte,recol_xns];refine (hck _).mono ?_;rintro _ _ rfl;simp -implicitDefEqProofs only[go_sem,seval,↓reduceIte,q2,q7,bne];exact hK7 _ _ rfl (Weak.st (by simp -implicitDefEqProofs only[go_sem,seval,↓reduceIte];try rfl) (by simp -implicitDefEqProofs only[go_sem,seval,↓reduceIte];try rfl))
 rintro b rfl
 cases hck0:(ck==0) with
 | false =>
  refine AW.condS (by simp -implicitDefEqProofs only[go_sem,seval,↓reduceIte];rfl) (fun h46=>?_) (fun h46=>?_);rotate_left
  ·cases h46
  refine AW.seq_k fun K hK=>AW.region (by kernel_rfl) ?_;simp -implicitDefEqProofs only[go_sem,seval,↓reduceIte];refine hK _ ?_;clear hK K;refine AW.ret ?_;simp -implicitDefEqProofs only[go_sem,seval,↓reduceIte];refine endK_some ?_;rw [hbad (by rw [hst2,hck0])]
 | true =>
  refine AW.condS (by simp -implicitDefEqProofs only[go_sem,seval,↓reduceIte];rfl) (fun h46=>?_) (fun h46=>?_)
  ·cases h46
  refine AW.skip ?_;simp -implicitDefEqProofs only[go_sem,seval,↓reduceIte];exact hK5 _ () (by rw [hst2,hck0]) (Weak.st (by simp -implicitDefEqProofs only[go_sem,seval,↓reduceIte];try rfl) (by simp -implicitDefEqProofs only[go_sem,seval,↓reduceIte];try rfl))
end Go.Hs
end

section
namespace Go.Hs
open Go.Proofs
set_option maxRecDepth 10000
theorem aRight_spec (G:Nat→V) (hE:GExp G) (c:Col) (a:AM) (r1:a.name.length<100000) (r2:a.x.l.length<1000000) (r3:∀ n∈a.x.l,n.name.length<100000) :
  Spec Tryz.prog G 52 [encAM c a] hNone (fun v _=>v = .bool (stOk a.v)):=by
 have hG:=hE.ok;refine Spec.of_code' 0 37 [.tmp 2] Tryz.func52 rfl rfl rfl rfl fun X=>?_;have hst:stOk a.v=((a.kind==1 || a.kind==2) && isP a.name==2 && ((a.kind==2 && a.x.l.isEmpty) || checkP a.x.l==0)):=rfl;generalize stOk a.v=res at hst ⊢
 have hem:a.x.l.isEmpty=((a.x.l.length:Int)==0):=by
  rw [Bool.eq_iff_iff,List.isEmpty_iff_length_eq_zero,beq_iff_eq];omega
 have hip:(isP a.name==2)=((isP a.name:Int)==2):=by
  rw [Bool.eq_iff_iff,beq_iff_eq,beq_iff_eq];omega
 rw [hem,hip] at hst;simp only [encAM_K];refine AW.seq_k fun K hK=>AW.region (by kernel_rfl) ?_;simp -implicitDefEqProofs only[go_sem,seval,↓reduceIte];intro g1;refine hK _ ?_;clear hK K;refine AW.seqJ (fun (_:Unit)=>st [(1,.ptr 1 g1 0),(3,.bool (a.kind==2 && ((a.x.l.length:Int)==0)))] [(1,.cells .new g1 0 [.int .u8 a.kind,.str a.name,encSl c 6 encXN a.x])]) (fun _=>True) (fun K1 hK1=>?_) ?_
 ·refine AW.region (by kernel_rfl) ?_
  cases q3:(a.kind==2) with
  | false =>
   rw [q3] at hK1;simp -implicitDefEqProofs only[go_sem,seval,↓reduceIte,q3];exact hK1 _ () trivial (Weak.st (by simp -implicitDefEqProofs only[go_sem,seval,↓reduceIte];try rfl) (by simp -implicitDefEqProofs only[go_sem,seval,↓reduceIte];try rfl))
  | true =>
   rw [q3] at hK1;simp -implicitDefEqProofs only[go_sem,seval,↓reduceIte,q3];exact hK1 _ () trivial (Weak.st (by simp -implicitDefEqProofs only[go_sem,seval,↓reduceIte];try rfl) (by simp -implicitDefEqProofs only[go_sem,seval,↓reduceIte];try rfl))
 intro _ _;refine AW.seqJ (fun (_:Unit)=>st [(2,.bool res)] []) (fun _=>True) (fun K2 hK2=>?_) ?_;rotate_left
 ·intro _ _
  refine AW.ret ?_;simp -implicitDefEqProofs only[go_sem,seval,↓reduceIte];refine endK_some ?_;rfl
 refine AW.region (by kernel_rfl) ?_
 cases q2:(a.kind==1) with
 | true =>
  have q3:(a.kind==2)=false:=by
   rw [beq_iff_eq] at q2;rw [beq_eq_false_iff_ne,q2];decide
  rw [q3];simp -implicitDefEqProofs only[go_sem,seval,↓reduceIte,q2];refine CallA.pure hG (by kernel_rfl) ?_;simp -implicitDefEqProofs only[go_sem,seval,↓reduceIte];refine (lIs_spec G hE a.name r1).mono ?_;rintro _ _ rfl
  cases q4:((isP a.name:Int)==2) with
  | false =>
   simp -implicitDefEqProofs only[go_sem,seval,↓reduceIte,q4];refine hK2 _ () trivial (Weak.st (by rw [hst,q2,q3,q4];simp -implicitDefEqProofs only[go_sem,seval,↓reduceIte];try rfl) (by simp -implicitDefEqProofs only[go_sem,seval,↓reduceIte];try rfl))
  | true =>
   simp -implicitDefEqProofs only[go_sem,seval,↓reduceIte,q4];refine CallA.pure hG (by kernel_rfl) ?_;simp -implicitDefEqProofs only[go_sem,seval,↓reduceIte,recol_xns];refine (xCheck_spec G hE _ a.x r2 r3).mono ?_;rintro _ _ rfl;simp -implicitDefEqProofs only[go_sem,seval,↓reduceIte];refine hK2 _ () trivial (Weak.st (by rw [hst,q2,q3,q4];simp -implicitDefEqProofs only[go_sem,seval,↓reduceIte];try rfl) (by simp -implicitDefEqProofs only[go_sem,seval,↓reduceIte];try rfl))
 | false =>
 cases q3:(a.kind==2) with
 | false =>
  simp -implicitDefEqProofs only[go_sem,seval,↓reduceIte,q2,q3];refine hK2 _ () trivial (Weak.st (by rw [hst,q2,q3];simp -implicitDefEqProofs only[go_sem,seval,↓reduceIte];try rfl) (by simp -implicitDefEqProofs only[go_sem,seval,↓reduceIte];try rfl))
 | true =>
 simp -implicitDefEqProofs only[go_sem,seval,↓reduceIte,q2,q3];refine CallA.pure hG (by kernel_rfl) ?_;simp -implicitDefEqProofs only[go_sem,seval,↓reduceIte];refine (lIs_spec G hE a.name r1).mono ?_;rintro _ _ rfl
 cases q4:((isP a.name:Int)==2) with
 | false =>
  simp -implicitDefEqProofs only[go_sem,seval,↓reduceIte,q4];refine hK2 _ () trivial (Weak.st (by rw [hst,q2,q3,q4];simp -implicitDefEqProofs only[go_sem,seval,↓reduceIte];try rfl) (by simp -implicitDefEqProofs only[go_sem,seval,↓reduceIte];try rfl))
 | true =>
 cases q5:((a.x.l.length:Int)==0) with
 | true =>
  simp -implicitDefEqProofs only[go_sem,seval,↓reduceIte,q4,q5];refine hK2 _ () trivial (Weak.st (by rw [hst,q2,q3,q4,q5];simp -implicitDefEqProofs only[go_sem,seval,↓reduceIte];try rfl) (by simp -implicitDefEqProofs only[go_sem,seval,↓reduceIte];try rfl))
 | false =>
  simp -implicitDefEqProofs only[go_sem,seval,↓reduceIte,q4,q5];refine CallA.pure hG (by kernel_rfl) ?_;simp -implicitDefEqProofs only[go_sem,seval,↓reduceIte,recol_xns];refine (xCheck_spec G hE _ a.x r2 r3).mono ?_;rintro _ _ rfl;simp -implicitDefEqProofs only[go_sem,seval,↓reduceIte];refine hK2 _ () trivial (Weak.st (by rw [hst,q2,q3,q4,q5];simp -implicitDefEqProofs only[go_sem,seval,↓reduceIte];try rfl) (by simp -implicitDefEqProofs only[go_sem,seval,↓reduceIte];try rfl))
structure AmB (a:AM):Prop where
 n:a.name.length<100000
 l:a.x.l.length<1000000
 x:∀ n∈a.x.l,n.name.length<100000
theorem aCheck1_spec (G:Nat→V) (hE:GExp G) (c:Col) (a:AM) (hb:AmB a) :
  Spec Tryz.prog G 51 [encAM c a] hNone (fun v _=>v = .bool (!stOk a.v)):=by
 have hG:=hE.ok;refine Spec.of_code' 0 6 [.tmp 2] Tryz.func51 rfl rfl rfl rfl fun X=>?_;simp only [encAM_K];refine AW.seq_k fun K hK=>AW.region (by kernel_rfl) ?_;simp -implicitDefEqProofs only[go_sem,seval,↓reduceIte];intro g1;refine hK _ ?_;clear hK K;refine AW.seq_k fun K hK=>AW.region (by kernel_rfl) ?_;simp -implicitDefEqProofs only[go_sem,seval,↓reduceIte];refine CallA.pure hG (by kernel_rfl) ?_;simp only [List.map_cons,List.map_nil,← encAM_K,recol_am];refine (aRight_spec G hE _ a hb.n hb.l hb.x).mono ?_;rintro _ _ rfl;simp -implicitDefEqProofs only[go_sem,seval,↓reduceIte];refine hK _ ?_;clear hK K;refine AW.ret ?_;simp -implicitDefEqProofs only[go_sem,seval,↓reduceIte];refine endK_some ?_;rfl
theorem aIndex_spec (G:Nat→V) (hE:GExp G) (c c1:Col) (s:Sl AM) (hs:s.l.length<1000000) (hb:∀ a∈s.l,AmB a) :
  Spec Tryz.prog G 100 [encSl c 3 (encAM c1) s,.func (.func 51) [] []] hNone (fun v _=>v = .int .i64 (idxP (fun a:AM => !stOk a.v) s.l)):=by
 have hG:=hE.ok;refine Spec.of_code' 0 19 [.tmp 4] Tryz.func100 rfl rfl rfl rfl fun X=>?_;refine AW.seq_k fun K hK=>AW.region (by kernel_rfl) ?_;simp -implicitDefEqProofs only[go_sem,seval,↓reduceIte];refine hK _ ?_;clear hK K;refine AW.seq_k fun K1 hK1=>?_;refine AW.seq_k fun K hK=>AW.region (by kernel_rfl) ?_;simp -implicitDefEqProofs only[go_sem,seval,↓reduceIte];refine hK _ ?_;clear hK K;refine AW.block ?_
 refine AW.for s.l.length (fun k (_:Unit)=>st [(0,encSl c 3 (encAM c1) s),(1,.func (.func 51) [] []),(7,.int .i64 s.l.length),(8,.int .i64 k)] []) (fun k _=>∀ y∈s.l.take k,(!stOk y.v)=false) 0 () (Nat.zero_le _) (by simp)
  (Weak.st (by simp -implicitDefEqProofs only[go_sem,seval,↓reduceIte];try rfl) (by simp -implicitDefEqProofs only[go_sem,seval,↓reduceIte])) ?_
 intro k _ hk hR L2 hL2;refine AW.seq_k fun K hK=>AW.region (by kernel_rfl) ?_;simp -implicitDefEqProofs only[go_sem,seval,↓reduceIte];refine hK _ ?_;clear hK K;refine AW.seq_k fun K3 hK3=>?_;refine AW.condS (by simp -implicitDefEqProofs only[go_sem,seval,↓reduceIte];rfl) (fun h4=>?_) (fun h4=>?_)
 ·have hk1:k<s.l.length:=by simpa using h4
  have hg:=List.getElem?_eq_getElem hk1;have hbx:=hb _ (List.getElem_mem hk1);generalize s.l[k]=x at hg hbx;refine AW.skip ?_;simp -implicitDefEqProofs only[go_sem,seval,↓reduceIte];refine hK3 _ ?_;refine AW.seq_k fun K5 hK5=>?_;refine AW.block ?_;refine AW.seq_k fun K hK=>AW.region (by kernel_rfl) ?_;simp -implicitDefEqProofs only[go_sem,seval,↓reduceIte];refine hK _ ?_;clear hK K;refine AW.seq_k fun K hK=>AW.region (by kernel_rfl) ?_;simp -implicitDefEqProofs only[go_sem,seval,↓reduceIte,hg,encAM_K];refine CallA.pure hG (by kernel_rfl) ?_;simp only [List.map_cons,List.map_nil,← encAM_K,recol_am];refine (aCheck1_spec G hE _ x hbx).mono ?_;rintro _ _ rfl;simp -implicitDefEqProofs only[go_sem,seval,↓reduceIte];refine hK _ ?_;clear hK K;refine AW.condS (by simp -implicitDefEqProofs only[go_sem,seval,↓reduceIte];rfl) (fun h6=>?_) (fun h6=>?_)
  ·refine AW.seq_k fun K hK=>AW.region (by kernel_rfl) ?_
   simp -implicitDefEqProofs only[go_sem,seval,↓reduceIte];refine hK _ ?_;clear hK K;refine AW.ret ?_;simp -implicitDefEqProofs only[go_sem,seval,↓reduceIte];refine endK_some ?_;rw [idxP_take (p:=fun a:AM => !stOk a.v) hg hR h6]
  ·refine AW.skip ?_
   simp -implicitDefEqProofs only[go_sem,seval,↓reduceIte];refine hK5 _ ?_;refine AW.region (by kernel_rfl) ?_;simp -implicitDefEqProofs only[go_sem,seval,↓reduceIte];refine hL2 _ ⟨hk1,(),take_all hg hR h6,Weak.st (by simp -implicitDefEqProofs only[go_sem,seval,↓reduceIte];exact congrArg _ (w64 (by omega) (by omega))) (by simp -implicitDefEqProofs only[go_sem,seval,↓reduceIte])⟩
 ·have hk1:k=s.l.length:=by simp at h4;omega
  refine AW.exit ?_;simp -implicitDefEqProofs only[go_sem,seval,↓reduceIte];refine hK1 _ ?_;refine AW.seq_k fun K hK=>AW.region (by kernel_rfl) ?_;simp -implicitDefEqProofs only[go_sem,seval,↓reduceIte];refine hK _ ?_;clear hK K;refine AW.ret ?_;simp -implicitDefEqProofs only[go_sem,seval,↓reduceIte];refine endK_some ?_;rw [hk1,List.take_length] at hR;rw [idxP_none (p:=fun a:AM => !stOk a.v) hR]
theorem idxP_ge {α : Type} (p : α → Bool) (l:List α):decide (idxP p l≥0)=l.any p:=by
 unfold idxP
 cases h:l.findIdx? p with
 | none =>
  rw [List.findIdx?_eq_none_iff] at h
  have:l.any p=false:=by rw [List.any_eq_false];intro x hx;simp [h x hx]
  rw [this];rfl
 | some i =>
  have:l.any p=true:=by
   rw [List.any_eq_true];obtain ⟨hi,hp,_⟩:=List.findIdx?_eq_some_iff_getElem.1 h;exact ⟨_,List.getElem_mem hi,hp⟩
  rw [this,decide_eq_true_iff];exact Int.natCast_nonneg _
theorem aContains_spec (G:Nat→V) (hE:GExp G) (c c1:Col) (s:Sl AM) (hs:s.l.length<1000000) (hb:∀ a∈s.l,AmB a) :
  Spec Tryz.prog G 50 [encSl c 3 (encAM c1) s,.func (.func 51) [] []] hNone (fun v _=>v = .bool (s.l.any (fun a:AM => !stOk a.v))):=by
 have hG:=hE.ok;refine Spec.of_code' 0 9 [.tmp 4] Tryz.func50 rfl rfl rfl rfl fun X=>?_;refine AW.seq_k fun K hK=>AW.region (by kernel_rfl) ?_;simp -implicitDefEqProofs only[go_sem,seval,↓reduceIte];refine hK _ ?_;clear hK K;refine AW.seq_k fun K hK=>AW.region (by kernel_rfl) ?_;simp -implicitDefEqProofs only[go_sem,seval,↓reduceIte];refine CallA.pure hG (by kernel_rfl) ?_;simp -implicitDefEqProofs only[go_sem,seval,↓reduceIte,recol_ams];refine (aIndex_spec G hE _ _ s hs hb).mono ?_;rintro _ _ rfl;simp -implicitDefEqProofs only[go_sem,seval,↓reduceIte];refine hK _ ?_;clear hK K;refine AW.ret ?_;simp -implicitDefEqProofs only[go_sem,seval,↓reduceIte];refine endK_some ?_;rw [idxP_ge]
theorem bCheck_spec (G:Nat→V) (hE:GExp G) (c c1:Col) (s:Sl AM) (hs:s.l.length<1000000) (hb:∀ a∈s.l,AmB a) :
  Spec Tryz.prog G 24 [.agg [encSl c 3 (encAM c1) s]] hNone (fun v _=>v = .int .i64 (checkA (s.l.map AM.v))):=by
 have hG:=hE.ok;refine Spec.of_code' 0 12 [.tmp 2] Tryz.func24 rfl rfl rfl rfl fun X=>?_
 have hP:checkA (s.l.map AM.v)=if s.l.length > 512 then 2 else if (s.l.map AM.v).all stOk=true then 0 else 2:=by unfold checkA;rw [List.length_map]
 generalize checkA (s.l.map AM.v)=res at hP ⊢
 have hall:s.l.any (fun a:AM => !stOk a.v) = !(s.l.map AM.v).all stOk:=by
  rw [List.all_map,List.not_all_eq_any_not];rfl
 refine AW.seq_k fun K hK=>AW.region (by kernel_rfl) ?_;simp -implicitDefEqProofs only[go_sem,seval,↓reduceIte];intro g1;refine hK _ ?_;clear hK K;refine AW.seq_k fun K1 hK1=>?_
 by_cases hl:s.l.length > 512
 ·rw [if_pos hl] at hP
  have q1:decide ((s.l.length:Int) > 512)=true:=by rw [decide_eq_true_iff];omega
  refine AW.seq_k fun K hK=>AW.region (by kernel_rfl) ?_;simp -implicitDefEqProofs only[go_sem,seval,↓reduceIte,q1];refine hK _ ?_;clear hK K;refine AW.condS (by simp -implicitDefEqProofs only[go_sem,seval,↓reduceIte];rfl) (fun h11=>?_) (fun h11=>?_);rotate_left
  ·cases h11
  refine AW.seq_k fun K hK=>AW.region (by kernel_rfl) ?_;simp -implicitDefEqProofs only[go_sem,seval,↓reduceIte];refine hK _ ?_;clear hK K;refine AW.ret ?_;simp -implicitDefEqProofs only[go_sem,seval,↓reduceIte];refine endK_some ?_;rw [hP]
 rw [if_neg hl] at hP
 have q1:decide ((s.l.length:Int) > 512)=false:=by rw [decide_eq_false_iff_not];omega
 refine AW.seq_k fun K hK=>AW.region (by kernel_rfl) ?_;simp -implicitDefEqProofs only[go_sem,seval,↓reduceIte,q1];refine CallA.pure hG (by kernel_rfl) ?_;simp -implicitDefEqProofs only[go_sem,seval,↓reduceIte,recol_ams];refine (aContains_spec G hE _ _ s hs hb).mono ?_;rintro _ _ rfl;simp -implicitDefEqProofs only[go_sem,seval,↓reduceIte,q1];refine hK _ ?_;clear hK K;rw [hall]
 cases hok:(s.l.map AM.v).all stOk with
 | true =>
  rw [if_pos hok] at hP;refine AW.condS (by simp -implicitDefEqProofs only[go_sem,seval,↓reduceIte];rfl) (fun h11=>?_) (fun h11=>?_)
  ·cases h11
  refine AW.skip ?_;simp -implicitDefEqProofs only[go_sem,seval,↓reduceIte];refine hK1 _ ?_;refine AW.seq_k fun K hK=>AW.region (by kernel_rfl) ?_;simp -implicitDefEqProofs only[go_sem,seval,↓reduceIte];refine hK _ ?_;clear hK K;refine AW.ret ?_;simp -implicitDefEqProofs only[go_sem,seval,↓reduceIte];refine endK_some ?_;rw [hP]
 | false =>
  rw [if_neg (by rw [hok];decide)] at hP;refine AW.condS (by simp -implicitDefEqProofs only[go_sem,seval,↓reduceIte];rfl) (fun h11=>?_) (fun h11=>?_);rotate_left
  ·cases h11
  refine AW.seq_k fun K hK=>AW.region (by kernel_rfl) ?_;simp -implicitDefEqProofs only[go_sem,seval,↓reduceIte];refine hK _ ?_;clear hK K;refine AW.ret ?_;simp -implicitDefEqProofs only[go_sem,seval,↓reduceIte];refine endK_some ?_;rw [hP]
end Go.Hs
end

section
namespace Go.Hs
open Go.Proofs
set_option maxRecDepth 10000
open Classical in
noncomputable def prP (l:List XN):List UInt8 × Int:=if h:checkP l=0 then (joinW ((Classical.choose (checkP_ok h)).W 0),0) else ([],checkP l)
theorem prP_of {l:List XN} {r:List UInt8 × Int} (h:PrintS l r):r=prP l:=by
 unfold prP
 by_cases hc:checkP l=0
 ·rw [dif_pos hc]
  have hs:=Classical.choose_spec (checkP_ok hc);exact h.2 _ hs.1 hs.2.1 hc
 ·rw [dif_neg hc]
  exact h.1 hc
theorem prP_len {l:List XN} (hn:∀ n∈l,n.num≤9223372036854775807):(prP l).1.length≤66 * l.length:=by
 unfold prP
 by_cases hc:checkP l=0
 ·rw [dif_pos hc]
  have hs:=Classical.choose_spec (checkP_ok hc);generalize Classical.choose (checkP_ok hc)=x at hs ⊢;have hf:=fit_of x 0 (by rw [← hs.2.1];exact hn);have:=print_len hs.1 hf
  have hsz:l.length=x.size:=by rw [hs.2.1,X.row_len]
  rw [hsz];exact this
 ·rw [dif_neg hc];exact Nat.zero_le _
noncomputable def xsT (l:List XN):List UInt8:=if l=[] then [] else (prP l).1++[32]
noncomputable def sT (s:ASt):List UInt8 :=
 if s.kind=1 then s.name++[32,58,61,32]++xsT s.x++[59] else [101,109,105,116,32]++s.name++[32,40,32]++xsT s.x++[41,32,59]
noncomputable def printA (l:List ASt):List UInt8 × Int:=if checkA l=0 then (joinW (l.map sT),0) else ([],2)
structure AmP (a:AM):Prop where
 n:a.name.length<100000
 l:a.x.l.length<1000
 x:∀ n∈a.x.l,n.name.length<100000
 m:∀ n∈a.x.l,n.num≤9223372036854775807
theorem checkA_02 (l:List ASt):checkA l=0∨checkA l=2:=by
 unfold checkA
 split
 ·exact .inr rfl
 ·split
  ·exact .inl rfl
  ·exact .inr rfl
theorem lenOk2 {n:Nat} (h:n<1000000000000):¬ ((n:Int) > IntKind.i64.max):=by rw [show IntKind.i64.max=9223372036854775807 from rfl];omega
theorem aPrint_spec (G:Nat→V) (hG:GOk G) (c c1:Col) (s:Sl AM) (hs:s.l.length<1000000) (hb:∀ a∈s.l,AmP a) :
  Spec Tryz.prog G 22 [encSl c 3 (encAM c1) s] hNone (fun v _=>v=encPr (printA (s.l.map AM.v))):=by
 refine Spec.of_code' 0 68 [.tmp 2,.tmp 3] Tryz.func22 rfl rfl rfl rfl fun X=>?_
 have hP:printA (s.l.map AM.v)=if checkA (s.l.map AM.v)=0 then (joinW ((s.l.map AM.v).map sT),0) else ([],2):=rfl
 generalize printA (s.l.map AM.v)=res at hP ⊢;have hck:=fun c=>aCheck_spec G hG c c1.ent s ⟨hs,fun a ha=>⟨(hb a ha).n,by have:=(hb a ha).l;omega,(hb a ha).x⟩⟩
 have hlen:checkA (s.l.map AM.v)=0→s.l.length≤512∧∀ a∈s.l,stOk a.v=true:=by
  intro h;unfold checkA at h
  split at h
  ·cases h
  ·rename_i h1
   rw [List.length_map] at h1
   split at h
   ·rename_i h2
    rw [List.all_eq_true] at h2;exact ⟨by omega,fun a ha=>h2 a.v (List.mem_map_of_mem ha)⟩
   ·cases h
 have h02:=checkA_02 (s.l.map AM.v);generalize checkA (s.l.map AM.v)=ck at hP hck hlen h02;refine AW.seq_k fun K hK=>AW.region (by kernel_rfl) ?_;simp -implicitDefEqProofs only[go_sem,seval,↓reduceIte];refine hK _ ?_;clear hK K;refine AW.seq_k fun K1 hK1=>?_;refine AW.seq_k fun K hK=>AW.region (by kernel_rfl) ?_;simp -implicitDefEqProofs only[go_sem,seval,↓reduceIte];refine CallA.pure hG (by kernel_rfl) ?_;simp -implicitDefEqProofs only[go_sem,seval,↓reduceIte,recol_ams];refine (hck _).mono ?_;rintro _ _ rfl
 rcases h02 with rfl | rfl
 rotate_left
 ·simp -implicitDefEqProofs only[go_sem,seval,↓reduceIte]
  refine hK _ ?_;clear hK K;refine AW.condS (by simp -implicitDefEqProofs only[go_sem,seval,↓reduceIte];rfl) (fun h9=>?_) (fun h9=>?_);rotate_left
  ·cases h9
  refine AW.seq_k fun K hK=>AW.region (by kernel_rfl) ?_;simp -implicitDefEqProofs only[go_sem,seval,↓reduceIte];refine hK _ ?_;clear hK K;refine AW.ret ?_;simp -implicitDefEqProofs only[go_sem,seval,↓reduceIte];refine endK_some ?_;rw [hP];rfl
 simp -implicitDefEqProofs only[go_sem,seval,↓reduceIte];refine hK _ ?_;clear hK K;refine AW.condS (by simp -implicitDefEqProofs only[go_sem,seval,↓reduceIte];rfl) (fun h9=>?_) (fun h9=>?_)
 ·cases h9
 refine AW.skip ?_;simp -implicitDefEqProofs only[go_sem,seval,↓reduceIte];refine hK1 _ ?_;obtain ⟨hl5,hall⟩:=hlen rfl;rw [if_pos rfl,List.map_map] at hP;refine AW.seq_k fun K hK=>AW.region (by kernel_rfl) ?_;simp -implicitDefEqProofs only[go_sem,seval,↓reduceIte];refine hK _ ?_;clear hK K;refine AW.seq_k fun K2 hK2=>?_;refine AW.seq_k fun K hK=>AW.region (by kernel_rfl) ?_;simp -implicitDefEqProofs only[go_sem,seval,↓reduceIte];refine hK _ ?_;clear hK K;refine AW.block ?_
 refine AW.for s.l.length (fun k (o:List UInt8)=>st [(0,encSl c 3 (encAM c1) s),(4,.str o),(5,.int .i64 k)] []) (fun k o=>o=joinW ((s.l.take k).map (sT ∘ AM.v))∧o.length≤k * 300000) 0 [] (Nat.zero_le _) ⟨rfl,Nat.zero_le _⟩
  (Weak.st (by simp -implicitDefEqProofs only[go_sem,seval,↓reduceIte];try rfl) (by simp -implicitDefEqProofs only[go_sem,seval,↓reduceIte];try rfl)) ?_
 rintro k o hk ⟨hR,hol⟩ L3 hL3;refine AW.seq_k fun K4 hK4=>?_;refine AW.seq_k fun K hK=>AW.region (by kernel_rfl) ?_;simp -implicitDefEqProofs only[go_sem,seval,↓reduceIte];refine hK _ ?_;clear hK K;refine AW.condS (by simp -implicitDefEqProofs only[go_sem,seval,↓reduceIte];rfl) (fun h13=>?_) (fun h13=>?_);rotate_left
 ·have hk1:k=s.l.length:=by have h13:decide ((k:Int)<s.l.length)=false:=h13;simp at h13;omega
  refine AW.exit ?_;simp -implicitDefEqProofs only[go_sem,seval,↓reduceIte];refine hK2 _ ?_;rw [hk1,List.take_length] at hR;refine AW.seq_k fun K hK=>AW.region (by kernel_rfl) ?_;simp -implicitDefEqProofs only[go_sem,seval,↓reduceIte];refine hK _ ?_;clear hK K;refine AW.ret ?_;simp -implicitDefEqProofs only[go_sem,seval,↓reduceIte];refine endK_some ?_;rw [hP,hR];rfl
 have hk1:k<s.l.length:=by have h13:decide ((k:Int)<s.l.length)=true:=h13;simp at h13;omega
 have hg:=List.getElem?_eq_getElem hk1;have hok:=hall _ (List.getElem_mem hk1);have hba:=hb _ (List.getElem_mem hk1)
 have htk:s.l.take (k+1)=s.l.take k++[s.l[k]]:=by rw [List.take_succ_eq_append_getElem hk1]
 generalize s.l[k]=a at hg hok hba htk;refine AW.skip ?_;simp -implicitDefEqProofs only[go_sem,seval,↓reduceIte];refine hK4 _ ?_;refine AW.seqJ (fun (_:Unit)=>st [(0,encSl c 3 (encAM c1) s),(4,.str (joinW ((s.l.take (k+1)).map (sT ∘ AM.v)))),(5,.int .i64 k)] []) (fun _=>(joinW ((s.l.take (k+1)).map (sT ∘ AM.v))).length≤(k+1) * 300000) (fun K5 hK5=>?_) ?_;rotate_left
 ·intro _ hlq
  refine AW.region (by kernel_rfl) ?_;simp -implicitDefEqProofs only[go_sem,seval,↓reduceIte];exact hL3 _ ⟨hk1,_,⟨rfl,hlq⟩,Weak.st (by simp -implicitDefEqProofs only[go_sem,seval,↓reduceIte];exact congrArg _ (w64 (by omega) (by omega))) (by simp -implicitDefEqProofs only[go_sem,seval,↓reduceIte])⟩
 refine AW.block ?_;refine AW.seqJ (fun (o1:List UInt8)=>st [(0,encSl c 3 (encAM c1) s),(4,.str o1),(5,.int .i64 k)] []) (fun o1=>o1++sT a.v=joinW ((s.l.take (k+1)).map (sT ∘ AM.v))∧o1.length≤k * 300000+1) (fun K6 hK6=>?_) ?_
 ·by_cases hk0:k=0
  ·have q1:decide ((k:Int) > 0)=false:=by rw [decide_eq_false_iff_not];omega
   refine AW.seq_k fun K hK=>AW.region (by kernel_rfl) ?_;simp -implicitDefEqProofs only[go_sem,seval,↓reduceIte,q1];refine hK _ ?_;clear hK K;refine AW.condS (by simp -implicitDefEqProofs only[go_sem,seval,↓reduceIte];rfl) (fun h17=>?_) (fun h17=>?_)
   ·cases h17
   refine AW.skip ?_;simp -implicitDefEqProofs only[go_sem,seval,↓reduceIte];refine hK6 _ o ⟨?_,Nat.le_succ_of_le hol⟩ (Weak.st (by simp -implicitDefEqProofs only[go_sem,seval,↓reduceIte];try rfl) (by simp -implicitDefEqProofs only[go_sem,seval,↓reduceIte];try rfl));rw [htk,hR,hk0,List.take_zero,List.map_append];rfl
  ·have q1:decide ((k:Int) > 0)=true:=by rw [decide_eq_true_iff];omega
   refine AW.seq_k fun K hK=>AW.region (by kernel_rfl) ?_;simp -implicitDefEqProofs only[go_sem,seval,↓reduceIte,q1];refine hK _ ?_;clear hK K;refine AW.condS (by simp -implicitDefEqProofs only[go_sem,seval,↓reduceIte];rfl) (fun h17=>?_) (fun h17=>?_);rotate_left
   ·cases h17
   have l1:¬ (((o.length+1:Nat):Int) > IntKind.i64.max):=lenOk2 (by omega);refine AW.region (by kernel_rfl) ?_;simp -implicitDefEqProofs only[go_sem,seval,↓reduceIte,l1];refine hK6 _ (o++[32]) ⟨?_,by simp only [List.length_append,List.length_cons,List.length_nil];omega⟩ (Weak.st (by simp -implicitDefEqProofs only[go_sem,seval,↓reduceIte];try rfl) (by simp -implicitDefEqProofs only[go_sem,seval,↓reduceIte];try rfl))
   rw [htk,List.map_append,joinW_app (by
    intro h;have:=congrArg List.length h;rw [List.length_map,List.length_take] at this;simp only [List.length_nil] at this
    omega) (by simp),← hR,List.append_assoc]
   rfl
 rintro o1 ⟨ho1,hol1⟩
 have hxl:(xsT a.x.l).length≤66 * 1000+1:=by
  unfold xsT
  split
  ·exact Nat.zero_le _
  ·rw [List.length_append]
   have:=prP_len hba.m;have:=hba.l
   show (prP a.x.l).1.length+1≤_
   omega
 have hnl:=hba.n;refine AW.seq_k fun K hK=>AW.region (by kernel_rfl) ?_;simp -implicitDefEqProofs only[go_sem,seval,↓reduceIte];refine hK _ ?_;clear hK K;refine AW.seqJ (fun (_:Unit)=>st [(0,encSl c 3 (encAM c1) s),(4,.str o1),(5,.int .i64 k),(6,.str (xsT a.x.l))] []) (fun _=>True) (fun K7 hK7=>?_) ?_
 ·by_cases hx0:a.x.l.length=0
  ·have q1:decide ((a.x.l.length:Int) > 0)=false:=by rw [decide_eq_false_iff_not];omega
   have hxs:xsT a.x.l=[]:=by unfold xsT;rw [if_pos (List.length_eq_zero_iff.1 hx0)]
   rw [hxs] at hK7;refine AW.seq_k fun K hK=>AW.region (by kernel_rfl) ?_;simp -implicitDefEqProofs only[go_sem,seval,↓reduceIte,hg,encAM_K,q1];refine hK _ ?_;clear hK K;refine AW.condS (by simp -implicitDefEqProofs only[go_sem,seval,↓reduceIte];rfl) (fun h26=>?_) (fun h26=>?_)
   ·cases h26
   refine AW.skip ?_;simp -implicitDefEqProofs only[go_sem,seval,↓reduceIte];exact hK7 _ () trivial (Weak.st (by simp -implicitDefEqProofs only[go_sem,seval,↓reduceIte];try rfl) (by simp -implicitDefEqProofs only[go_sem,seval,↓reduceIte];try rfl))
  ·have q1:decide ((a.x.l.length:Int) > 0)=true:=by rw [decide_eq_true_iff];omega
   have hxs:xsT a.x.l=(prP a.x.l).1++[32]:=by unfold xsT;rw [if_neg (fun h=>hx0 (by rw [h];rfl))]
   have hpl:=prP_len hba.m;have hal:=hba.l;refine AW.seq_k fun K hK=>AW.region (by kernel_rfl) ?_;simp -implicitDefEqProofs only[go_sem,seval,↓reduceIte,hg,encAM_K,q1];refine hK _ ?_;clear hK K;refine AW.condS (by simp -implicitDefEqProofs only[go_sem,seval,↓reduceIte];rfl) (fun h26=>?_) (fun h26=>?_);rotate_left
   ·cases h26
   refine AW.seq_k fun K hK=>AW.region (by kernel_rfl) ?_;simp -implicitDefEqProofs only[go_sem,seval,↓reduceIte,hg,encAM_K];refine CallA.pure hG (by kernel_rfl) ?_;simp -implicitDefEqProofs only[go_sem,seval,↓reduceIte,recol_xns];refine (rPrintA_spec G hG _ a.x hba.l hba.x hba.m).mono ?_;rintro _ _ ⟨r,rfl,hr⟩;obtain rfl:=prP_of hr;generalize prP a.x.l=r at hxs hpl;obtain ⟨t,e⟩:=r;simp only at hxs hpl;rw [hxs] at hK7;simp -implicitDefEqProofs only[go_sem,seval,↓reduceIte,encPr];refine hK _ ?_;clear hK K;have l1:¬ (((t.length+1:Nat):Int) > IntKind.i64.max):=lenOk2 (by omega);refine AW.region (by kernel_rfl) ?_;simp -implicitDefEqProofs only[go_sem,seval,↓reduceIte,l1];exact hK7 _ () trivial (Weak.st (by simp -implicitDefEqProofs only[go_sem,seval,↓reduceIte];try rfl) (by simp -implicitDefEqProofs only[go_sem,seval,↓reduceIte];try rfl))
 intro _ _;have hkz:stOk a.v=true:=hok;generalize hxsg:xsT a.x.l=xs at hxl
 have hsT:sT a.v=if a.kind=1 then a.name++[32,58,61,32]++xs++[59] else [101,109,105,116,32]++a.name++[32,40,32]++xs++[41,32,59]:=by rw [← hxsg];rfl
 by_cases h1:a.kind=1
 ·have q1:(a.kind==1)=true:=by simpa using h1
  rw [if_pos h1] at hsT;refine AW.seq_k fun K hK=>AW.region (by kernel_rfl) ?_;simp -implicitDefEqProofs only[go_sem,seval,↓reduceIte,hg,encAM_K,q1];refine hK _ ?_;clear hK K;refine AW.condS (by simp -implicitDefEqProofs only[go_sem,seval,↓reduceIte];rfl) (fun h43=>?_) (fun h43=>?_);rotate_left
  ·cases h43
  have l1:¬ (((o1.length+a.name.length:Nat):Int) > IntKind.i64.max):=lenOk2 (by omega);have l2:¬ ((((o1++a.name).length+4:Nat):Int) > IntKind.i64.max):=lenOk2 (by rw [List.length_append];omega);have l3:¬ ((((o1++a.name++[32,58,61,32]).length+xs.length:Nat):Int) > IntKind.i64.max):=lenOk2 (by simp only [List.length_append,List.length_cons,List.length_nil];omega);have l4:¬ ((((o1++a.name++[32,58,61,32]++xs).length+1:Nat):Int) > IntKind.i64.max):=lenOk2 (by simp only [List.length_append,List.length_cons,List.length_nil];omega)
  have hfin:o1++a.name++[32,58,61,32]++xs++[59]=joinW ((s.l.take (k+1)).map (sT ∘ AM.v)):=by rw [← ho1,hsT];simp only [List.append_assoc]
  have hfl:=congrArg List.length hfin;simp only [List.length_append,List.length_cons,List.length_nil] at hfl;refine AW.region (by kernel_rfl) ?_;simp -implicitDefEqProofs only[go_sem,seval,↓reduceIte,hg,encAM_K,l1,l2,l3,l4];exact hK5 _ () (by rw [← hfl];omega) (Weak.st (by simp -implicitDefEqProofs only[go_sem,seval,↓reduceIte];exact congrArg V.str hfin) (by simp -implicitDefEqProofs only[go_sem,seval,↓reduceIte];try rfl))
 ·have q1:(a.kind==1)=false:=by simpa using h1
  rw [if_neg h1] at hsT;refine AW.seq_k fun K hK=>AW.region (by kernel_rfl) ?_;simp -implicitDefEqProofs only[go_sem,seval,↓reduceIte,hg,encAM_K,q1];refine hK _ ?_;clear hK K;refine AW.condS (by simp -implicitDefEqProofs only[go_sem,seval,↓reduceIte];rfl) (fun h43=>?_) (fun h43=>?_)
  ·cases h43
  have l1:¬ (((o1.length+5:Nat):Int) > IntKind.i64.max):=lenOk2 (by omega);have l2:¬ ((((o1++[101,109,105,116,32]).length+a.name.length:Nat):Int) > IntKind.i64.max):=lenOk2 (by simp only [List.length_append,List.length_cons,List.length_nil];omega);have l3:¬ ((((o1++[101,109,105,116,32]++a.name).length+3:Nat):Int) > IntKind.i64.max):=lenOk2 (by simp only [List.length_append,List.length_cons,List.length_nil];omega);have l4:¬ ((((o1++[101,109,105,116,32]++a.name++[32,40,32]).length+xs.length:Nat):Int) > IntKind.i64.max):=lenOk2 (by simp only [List.length_append,List.length_cons,List.length_nil];omega);have l5:¬ ((((o1++[101,109,105,116,32]++a.name++[32,40,32]++xs).length+3:Nat):Int) > IntKind.i64.max):=lenOk2 (by simp only [List.length_append,List.length_cons,List.length_nil];omega)
  have hfin:o1++[101,109,105,116,32]++a.name++[32,40,32]++xs++[41,32,59]=joinW ((s.l.take (k+1)).map (sT ∘ AM.v)):=by rw [← ho1,hsT];simp only [List.append_assoc]
  have hfl:=congrArg List.length hfin;simp only [List.length_append,List.length_cons,List.length_nil] at hfl;refine AW.region (by kernel_rfl) ?_;simp -implicitDefEqProofs only[go_sem,seval,↓reduceIte,hg,encAM_K,l1,l2,l3,l4,l5];exact hK5 _ () (by rw [← hfl];omega) (Weak.st (by simp -implicitDefEqProofs only[go_sem,seval,↓reduceIte];exact congrArg V.str hfin) (by simp -implicitDefEqProofs only[go_sem,seval,↓reduceIte];try rfl))
end Go.Hs
end

section
namespace Go.Hs
inductive Sub:X→X→Nat→Prop where
 | refl (x:X):Sub x x 0
 | un {op:Int} {a y:X} {b:Nat}:Sub a y b→Sub (.un op a) y b
 | bin1 {op:Int} {a c y:X} {b:Nat}:Sub a y b→Sub (.bin op a c) y b
 | bin2 {op:Int} {a c y:X} {b:Nat}:Sub c y b→Sub (.bin op a c) y (a.size+b)
 | ite1 {a c d y:X} {b:Nat}:Sub a y b→Sub (.ite a c d) y b
 | ite2 {a c d y:X} {b:Nat}:Sub c y b→Sub (.ite a c d) y (a.size+b)
 | ite3 {a c d y:X} {b:Nat}:Sub d y b→Sub (.ite a c d) y (a.size+c.size+b)
def subs:X→List X
 | .leaf op num name=>[.leaf op num name]
 | .un op a=>subs a++[.un op a]
 | .bin op a c=>subs a++subs c++[.bin op a c]
 | .ite a c d=>subs a++subs c++subs d++[.ite a c d]
theorem subs_len:∀ x:X,(subs x).length=x.size
 | .leaf .. => rfl
 | .un _ a=>by simp [subs,X.size,subs_len a]
 | .bin _ a b=>by simp [subs,X.size,subs_len a,subs_len b];omega
 | .ite a b c=>by simp [subs,X.size,subs_len a,subs_len b,subs_len c];omega
theorem Sub.trans {x y z:X} {b c:Nat} (h:Sub x y b) (h2:Sub y z c):Sub x z (b+c):=by
 induction h with
 | refl=>simpa using h2
 | un _ ih=>exact .un (ih h2)
 | bin1 _ ih=>exact .bin1 (ih h2)
 | bin2 _ ih=>rw [Nat.add_assoc];exact .bin2 (ih h2)
 | ite1 _ ih=>exact .ite1 (ih h2)
 | ite2 _ ih=>rw [Nat.add_assoc];exact .ite2 (ih h2)
 | ite3 _ ih=>rw [Nat.add_assoc];exact .ite3 (ih h2)
theorem Sub.ok {x y:X} {b:Nat} (h:Sub x y b):x.ok=true→y.ok=true:=by
 induction h with
 | refl=>exact id
 | un _ ih=>intro h;simp [X.ok] at h;exact ih h.2
 | bin1 _ ih=>intro h;simp [X.ok] at h;exact ih h.1.2
 | bin2 _ ih=>intro h;simp [X.ok] at h;exact ih h.2
 | ite1 _ ih=>intro h;simp [X.ok] at h;exact ih h.1.1
 | ite2 _ ih=>intro h;simp [X.ok] at h;exact ih h.1.2
 | ite3 _ ih=>intro h;simp [X.ok] at h;exact ih h.2
theorem Sub.size {x y:X} {b:Nat} (h:Sub x y b):b+y.size≤x.size:=by
 induction h with
 | refl=>simp
 | un _ ih=>simp only [X.size];omega
 | bin1 _ ih=>simp only [X.size];omega
 | bin2 _ ih=>simp only [X.size];omega
 | ite1 _ ih=>simp only [X.size];omega
 | ite2 _ ih=>simp only [X.size];omega
 | ite3 _ ih=>simp only [X.size];omega
theorem Sub.depth {x y:X} {b:Nat} (h:Sub x y b):y.depth≤x.depth:=by
 induction h with
 | refl=>simp
 | un _ ih=>simp only [X.depth];omega
 | bin1 _ ih=>simp only [X.depth];omega
 | bin2 _ ih=>simp only [X.depth];omega
 | ite1 _ ih=>simp only [X.depth];omega
 | ite2 _ ih=>simp only [X.depth];omega
 | ite3 _ ih=>simp only [X.depth];omega
theorem Sub.at {x y:X} {b:Nat} (h:Sub x y b):∀ {l:List XN} {k:Nat},At l x k→At l y (k+b):=by
 induction h with
 | refl=>exact id
 | un _ ih=>intro l k h;exact ih h.un
 | bin1 _ ih=>intro l k h;exact ih h.bin.1
 | bin2 _ ih=>intro l k h;rw [← Nat.add_assoc];exact ih h.bin.2
 | ite1 _ ih=>intro l k h;exact ih h.ite.1
 | ite2 _ ih=>intro l k h;rw [← Nat.add_assoc];exact ih h.ite.2.1
 | ite3 _ ih=>intro l k h;rw [← Nat.add_assoc,← Nat.add_assoc];exact ih h.ite.2.2
theorem subs_top (x:X):(subs x)[x.size-1]? = some x:=by
 have:∃ l,subs x=l++[x]:=by
  cases x with
  | leaf=>exact ⟨[],rfl⟩
  | un=>exact ⟨_,rfl⟩
  | bin=>exact ⟨_,rfl⟩
  | ite=>exact ⟨_,rfl⟩
 obtain ⟨l,h⟩:=this;have hl:=subs_len x;rw [h,List.length_append,List.length_singleton] at hl;rw [h,List.getElem?_append_right (by omega),show x.size-1-l.length=0 by omega];rfl
theorem Sub.get {x y:X} {b:Nat} (h:Sub x y b):(subs x)[b+y.size-1]? = some y:=by
 have hy:=y.size_pos
 induction h with
 | refl x=>rw [Nat.zero_add];exact subs_top x
 | @un op a y b h ih =>
  have:=h.size;have hl:=subs_len a;rw [subs,List.getElem?_append_left (by omega)];exact ih hy
 | @bin1 op a c y b h ih =>
  have:=h.size;have hl:=subs_len a;rw [subs,List.append_assoc,List.getElem?_append_left (by omega)];exact ih hy
 | @bin2 op a c y b h ih =>
  have:=h.size;have hl:=subs_len a;have hl2:=subs_len c;rw [subs,List.append_assoc,List.getElem?_append_right (by omega),List.getElem?_append_left (by omega),← ih hy]
  congr 1;omega
 | @ite1 a c d y b h ih =>
  have:=h.size;have hl:=subs_len a;rw [subs,List.append_assoc,List.append_assoc,List.getElem?_append_left (by omega)];exact ih hy
 | @ite2 a c d y b h ih =>
  have:=h.size;have hl:=subs_len a;have hl2:=subs_len c;rw [subs,List.append_assoc,List.append_assoc,List.getElem?_append_right (by omega),List.getElem?_append_left (by omega),← ih hy]
  congr 1;omega
 | @ite3 a c d y b h ih =>
  have:=h.size;have hl:=subs_len a;have hl2:=subs_len c;have hl3:=subs_len d;rw [subs,List.append_assoc,List.append_assoc,List.getElem?_append_right (by omega),List.getElem?_append_right (by omega),List.getElem?_append_left (by omega),← ih hy]
  congr 1;omega
theorem sub_all:∀ (x:X) (i:Nat),i<x.size→∃ y b,Sub x y b∧b+y.size=i+1
 | .leaf op num name,i,h=>⟨_,0,.refl _,by simp only [X.size] at h ⊢;omega⟩
 | .un op a,i,h=>by
  by_cases h1:i<a.size
  ·obtain ⟨y,b,h2,h3⟩:=sub_all a i h1
   exact ⟨y,b,.un h2,h3⟩
  ·exact ⟨_,0,.refl _,by simp only [X.size] at h ⊢;omega⟩
 | .bin op a c,i,h=>by
  by_cases h1:i<a.size
  ·obtain ⟨y,b,h2,h3⟩:=sub_all a i h1
   exact ⟨y,b,.bin1 h2,h3⟩
  by_cases h1':i-a.size<c.size
  ·obtain ⟨y,b,h2,h3⟩:=sub_all c (i-a.size) h1'
   exact ⟨y,_,.bin2 h2,by omega⟩
  ·exact ⟨_,0,.refl _,by simp only [X.size] at h ⊢;omega⟩
 | .ite a c d,i,h=>by
  by_cases h1:i<a.size
  ·obtain ⟨y,b,h2,h3⟩:=sub_all a i h1
   exact ⟨y,b,.ite1 h2,h3⟩
  by_cases h1':i-a.size<c.size
  ·obtain ⟨y,b,h2,h3⟩:=sub_all c (i-a.size) h1'
   exact ⟨y,_,.ite2 h2,by omega⟩
  by_cases h1'':i-a.size-c.size<d.size
  ·obtain ⟨y,b,h2,h3⟩:=sub_all d (i-a.size-c.size) h1''
   exact ⟨y,_,.ite3 h2,by omega⟩
  ·exact ⟨_,0,.refl _,by simp only [X.size] at h ⊢;omega⟩
theorem Sub.top {x y:X} {b:Nat} (h:Sub x y b):(x.row 0)[b+y.size-1]? = some (y.top b):=by
 have:=(h.at (At.whole x)).get;rw [Nat.zero_add] at this;exact this
theorem sub_at (x:X) (i:Nat) (h:i<x.size):∃ y b,Sub x y b∧b+y.size=i+1∧(subs x)[i]? = some y∧(x.row 0)[i]? = some (y.top b):=by
 obtain ⟨y,b,h1,h2⟩:=sub_all x i h
 have e:i=b+y.size-1:=by omega
 exact ⟨y,b,h1,h2,e ▸ h1.get,e ▸ h1.top⟩
end Go.Hs
end

section
namespace Go.Hs
def kd (op:Int) (named:Bool) (a b c:Int):Int :=
 if op=1∨op=2∧named=true then 1
 else if op=3∨op=4 then 2
 else if op=5∧a=1∨7≤op∧op≤11∧a=1∧b=1 then 1
 else if 12≤op∧op≤15∧a=1∧b=1∨(op=16∨op=17)∧a=b∧a≠0 then 2
 else if op=6∧a=2∨18≤op∧op≤21∧a=2∧b=2 then 2
 else if op=22∧a=2∧b=c then b else 0
theorem kd_range {op:Int} {nm:Bool} {a b c:Int} (hb:0≤b∧b≤2):0≤kd op nm a b c∧kd op nm a b c≤2:=by
 unfold kd
 repeat' split
 all_goals omega
def kindX (names:List (List UInt8)):X→Int
 | .leaf op _ name=>kd op (names.contains name) 0 0 0
 | .un op a=>kd op (names.contains []) (kindX names a) 0 0
 | .bin op a b=>kd op (names.contains []) (kindX names a) (kindX names b) 0
 | .ite a b c=>kd 22 (names.contains []) (kindX names a) (kindX names b) (kindX names c)
theorem kindX_range (names:List (List UInt8)):∀ x,0≤kindX names x∧kindX names x≤2
 | .leaf .. => kd_range (by decide)
 | .un .. => kd_range (by decide)
 | .bin _ a b=>kd_range (kindX_range names b)
 | .ite a b c=>kd_range (kindX_range names b)
def goX (names:List (List UInt8)):List X→Int→List Int→List Int × Int × Int
 | [],_,acc=>(acc,0,0)
 | y::r,i,acc=>if kindX names y=0 then ([],i,90) else goX names r (i+1) (acc++[kindX names y])
def plc (ks:List Int) (i:Int):Int:=if i<0 then 0 else ks.getD i.toNat 0
def kindN (names:List (List UInt8)) (n:XN) (ks:List Int):Int:=kd n.op (names.contains n.name) (plc ks n.a) (plc ks n.b) (plc ks n.c)
def goN (names:List (List UInt8)):List XN→Int→List Int→List Int × Int × Int
 | [],_,acc=>(acc,0,0)
 | n::r,i,acc=>if kindN names n acc=0 then ([],i,90) else goN names r (i+1) (acc++[kindN names n acc])
theorem plc_neg (ks:List Int):plc ks (-1)=0:=rfl
theorem plc_sub {names:List (List UInt8)} {x y:X} {b i:Nat} (h:Sub x y b) (hi:b+y.size≤i):plc (((subs x).take i).map (kindX names)) ((b:Int)+y.size-1)=kindX names y:=by
 have hp:=y.size_pos;unfold plc;rw [if_neg (by omega),show ((b:Int)+y.size-1).toNat=b+y.size-1 by omega];rw [List.getD_eq_getElem?_getD,List.getElem?_map,List.getElem?_take,if_pos (by omega),h.get];rfl
theorem kindN_sub {names:List (List UInt8)} {x y:X} {b i:Nat} (h:Sub x y b) (hi:b+y.size=i+1):kindN names (y.top b) (((subs x).take i).map (kindX names))=kindX names y:=by
 cases y with
 | leaf op num name=>rfl
 | un op a =>
  have h1:Sub x a b:=h.trans (.un (.refl a));simp only [X.size] at hi;simp only [kindN,X.top,plc_neg,kindX];rw [plc_sub h1 (by omega)]
 | bin op a c =>
  have h1:Sub x a b:=h.trans (.bin1 (.refl a));have h2:Sub x c (b+(a.size+0)):=h.trans (.bin2 (.refl c));rw [Nat.add_zero] at h2;simp only [X.size] at hi;simp only [kindN,X.top,plc_neg,kindX];have:=plc_sub (names:=names) h2 (i:=i) (by omega);rw [show ((b+a.size:Nat):Int)+c.size-1=(b:Int)+a.size+c.size-1 by omega] at this;rw [plc_sub h1 (by omega),this]
 | ite a c d =>
  have h1:Sub x a b:=h.trans (.ite1 (.refl a));have h2:Sub x c (b+(a.size+0)):=h.trans (.ite2 (.refl c));have h3:Sub x d (b+(a.size+c.size+0)):=h.trans (.ite3 (.refl d));rw [Nat.add_zero] at h2 h3;simp only [X.size] at hi;simp only [kindN,X.top,plc_neg,kindX];have q2:=plc_sub (names:=names) h2 (i:=i) (by omega);rw [show ((b+a.size:Nat):Int)+c.size-1=(b:Int)+a.size+c.size-1 by omega] at q2;have q3:=plc_sub (names:=names) h3 (i:=i) (by omega);rw [show ((b+(a.size+c.size):Nat):Int)+d.size-1=(b:Int)+a.size+c.size+d.size-1 by omega] at q3;rw [plc_sub h1 (by omega),q2,q3]
theorem goN_goX {names:List (List UInt8)} (x:X):∀ (m i:Nat),i+m=x.size→goN names ((x.row 0).drop i) i (((subs x).take i).map (kindX names))=goX names ((subs x).drop i) i (((subs x).take i).map (kindX names))
 | 0,i,h=>by
  rw [List.drop_of_length_le (by rw [X.row_len];omega),List.drop_of_length_le (by rw [subs_len];omega)];rfl
 | m+1,i,h=>by
  obtain ⟨y,b,h1,h2,h3,h4⟩:=sub_at x i (by omega);obtain ⟨q1,e1⟩:=List.getElem?_eq_some_iff.1 h3;obtain ⟨q2,e2⟩:=List.getElem?_eq_some_iff.1 h4;rw [List.drop_eq_getElem_cons q2,List.drop_eq_getElem_cons q1,e1,e2,goN,goX,kindN_sub h1 h2];have ih:=goN_goX (names:=names) x m (i+1) (by omega)
  have ht:((subs x).take (i+1)).map (kindX names)=((subs x).take i).map (kindX names)++[kindX names y]:=by
   rw [List.take_add_one,h3];simp
  rw [ht] at ih
  split
  ·rfl
  ·exact ih
def PlOk (k:Nat) (n:XN):Prop:=wellP n=true∧(0<partsOf n.op→0≤n.a∧n.a<k)∧(1<partsOf n.op→0≤n.b∧n.b<k)∧(2<partsOf n.op→0≤n.c∧n.c<k) ∧
 (¬ 0<partsOf n.op→n.a = -1)∧(¬ 1<partsOf n.op→n.b = -1)∧(¬ 2<partsOf n.op→n.c = -1)
theorem plOk_sub {x y:X} {b i:Nat} (hx:x.ok=true) (h:Sub x y b) (hi:b+y.size=i+1):PlOk i (y.top b):=by
 have hy:=h.ok hx
 cases y with
 | leaf op num name =>
  simp only [X.ok,Bool.and_eq_true,decide_eq_true_eq] at hy
  have hp:partsOf op=0:=by unfold partsOf;rw [if_pos hy.2]
  refine ⟨hy.1,?_⟩;simp only [X.top,hp];exact ⟨fun h=>absurd h (by decide),fun h=>absurd h (by decide),fun h=>absurd h (by decide),fun _=>trivial,fun _=>trivial,fun _=>trivial⟩
 | un op a =>
  simp only [X.ok,Bool.and_eq_true,decide_eq_true_eq] at hy
  have hp:partsOf op=1:=by unfold partsOf;rw [if_neg (by omega),if_pos (by omega)]
  have hs:=a.size_pos;simp only [X.size] at hi;refine ⟨well_op (by omega) _ _ _,?_⟩;simp only [X.top,hp];exact ⟨fun _=>by omega,fun h=>absurd h (by decide),fun h=>absurd h (by decide),fun h=>absurd (by decide) h,fun _=>trivial,fun _=>trivial⟩
 | bin op a c =>
  simp only [X.ok,Bool.and_eq_true,decide_eq_true_eq] at hy
  have hp:partsOf op=2:=by unfold partsOf;rw [if_neg (by omega),if_neg (by omega),if_pos (by omega)]
  have hs:=a.size_pos;have hs2:=c.size_pos;simp only [X.size] at hi;refine ⟨well_op (by omega) _ _ _,?_⟩;simp only [X.top,hp];exact ⟨fun _=>by omega,fun _=>by omega,fun h=>absurd h (by decide),fun h=>absurd (by decide) h,fun h=>absurd (by decide) h,fun _=>trivial⟩
 | ite a c d =>
  have hp:partsOf 22=3:=by decide
  have hs:=a.size_pos;have hs2:=c.size_pos;have hs3:=d.size_pos;simp only [X.size] at hi;refine ⟨well_op (by decide) _ _ _,?_⟩;simp only [X.top,hp];exact ⟨fun _=>by omega,fun _=>by omega,fun _=>by omega,fun h=>absurd (by decide) h,fun h=>absurd (by decide) h,fun h=>absurd (by decide) h⟩
theorem plOk_get {l:List XN} (h:depthP l≠0) {i:Nat} {n:XN} (hg:l[i]? = some n):PlOk i n:=by
 obtain ⟨x,hx,rfl⟩:=depth_none h
 have hi:i<x.size:=by rw [← X.row_len x 0];exact (List.getElem?_eq_some_iff.1 hg).1
 obtain ⟨y,b,h1,h2,h3,h4⟩:=sub_at x i hi;rw [h4] at hg;cases hg;exact plOk_sub hx h1 h2
end Go.Hs
end

section
namespace Go.Hs
open Go.Proofs
set_option maxRecDepth 10000
def ruleC:List V := .int .u8 0 :: .int .u8 0 :: .int .u8 0 :: .int .u8 0 :: .int .u8 0 :: .int .u8 0 :: .int .u8 0 :: .int .u8 1 :: .int .u8 0 :: .int .u8 0 :: .int .u8 0 :: .int .u8 1 :: .int .u8 0 :: .int .u8 0 :: .int .u8 0 :: .int .u8 2 :: .int .u8 0 :: .int .u8 0 :: .int .u8 0 :: .int .u8 2 :: .int .u8 1 :: .int .u8 0 :: .int .u8 0 :: .int .u8 1 :: .int .u8 2 :: .int .u8 0 :: .int .u8 0 :: .int .u8 2 :: .int .u8 1 :: .int .u8 1 :: .int .u8 0 :: .int .u8 1 :: .int .u8 1 :: .int .u8 1 :: .int .u8 0 :: .int .u8 1 :: .int .u8 1 :: .int .u8 1 :: .int .u8 0 :: .int .u8 1 :: .int .u8 1 :: .int .u8 1 :: .int .u8 0 :: .int .u8 1 :: .int .u8 1 :: .int .u8 1 :: .int .u8 0 :: .int .u8 1 :: .int .u8 1 :: .int .u8 1 :: .int .u8 0 :: .int .u8 2 :: .int .u8 1 :: .int .u8 1 :: .int .u8 0 :: .int .u8 2 :: .int .u8 1 :: .int .u8 1 :: .int .u8 0 :: .int .u8 2 :: .int .u8 1 :: .int .u8 1 :: .int .u8 0 :: .int .u8 2 :: .int .u8 3 :: .int .u8 3 :: .int .u8 0 :: .int .u8 2 :: .int .u8 3 :: .int .u8 3 :: .int .u8 0 :: .int .u8 2 :: .int .u8 2 :: .int .u8 2 :: .int .u8 0 :: .int .u8 2 :: .int .u8 2 :: .int .u8 2 :: .int .u8 0 :: .int .u8 2 :: .int .u8 2 :: .int .u8 2 :: .int .u8 0 :: .int .u8 2 :: .int .u8 2 :: .int .u8 2 :: .int .u8 0 :: .int .u8 2 :: .int .u8 2 :: .int .u8 3 :: .int .u8 3 :: .int .u8 3::[]
def ruleA (op:Nat):Int:=if op≤4 then 0 else if op=5∨(7≤op∧op≤15) then 1 else if op=16∨op=17 then 3 else 2
def ruleB (op:Nat):Int:=if op≤6 then 0 else if op≤15 then 1 else if op≤17∨op=22 then 3 else 2
def ruleD (op:Nat):Int:=if op=22 then 3 else 0
def ruleI (op:Nat):Int:=if op=0 then 0 else if op≤2 then 1 else if op=22 then 3 else if op=5∨(7≤op∧op≤11) then 1 else 2
theorem ruleC_get (op:Nat) (h:op<23):(ruleC.drop (op * 4)).take 4=[.int .u8 (ruleA op),.int .u8 (ruleB op),.int .u8 (ruleD op),.int .u8 (ruleI op)]:=by
 match op,h with
 | 0,_=>rfl
 | 1,_=>rfl
 | 2,_=>rfl
 | 3,_=>rfl
 | 4,_=>rfl
 | 5,_=>rfl
 | 6,_=>rfl
 | 7,_=>rfl
 | 8,_=>rfl
 | 9,_=>rfl
 | 10,_=>rfl
 | 11,_=>rfl
 | 12,_=>rfl
 | 13,_=>rfl
 | 14,_=>rfl
 | 15,_=>rfl
 | 16,_=>rfl
 | 17,_=>rfl
 | 18,_=>rfl
 | 19,_=>rfl
 | 20,_=>rfl
 | 21,_=>rfl
 | 22,_=>rfl
 | n+23,h=>omega
theorem tRules_spec (G:Nat→V) (hG:GOk G):Spec Tryz.prog G 156 [] hNone (fun v _=>v = .agg ruleC):=by
 refine Spec.of_code' 0 39 [.cell 0 217] Tryz.func156 rfl rfl rfl rfl fun X=>?_;refine AW.seq_k fun K hK=>AW.region (by kernel_rfl) ?_;simp -implicitDefEqProofs only[go_sem,seval,↓reduceIte];intro g0;refine hK _ ?_;clear hK K;refine AW.seq_k fun K hK=>AW.region (by kernel_rfl) ?_;simp -implicitDefEqProofs only[go_sem,seval,↓reduceIte];intro g1 g2;refine hK _ ?_;clear hK K;refine AW.seq_k fun K hK=>AW.region (by kernel_rfl) ?_;simp -implicitDefEqProofs only[go_sem,seval,↓reduceIte];intro g3 g4;refine hK _ ?_;clear hK K;refine AW.seq_k fun K hK=>AW.region (by kernel_rfl) ?_;simp -implicitDefEqProofs only[go_sem,seval,↓reduceIte];refine hK _ ?_;clear hK K;refine AW.ret ?_;simp -implicitDefEqProofs only[go_sem,seval,↓reduceIte];refine endK_some ?_;rfl
end Go.Hs
end

section
namespace Go.Hs
open Go.Proofs
set_option maxRecDepth 10000
theorem r9Among_spec (G:Nat→V) (hG:GOk G) (c:Col) (t:List UInt8) (s:Sl (List UInt8)) (hs:s.l.length<1000000) :
  Spec Tryz.prog G 236 [.str t,encSl c 1 V.str s] hNone (fun v _=>v = .bool (s.l.contains t)):=by
 refine Spec.of_code' 0 18 [.tmp 4] Tryz.func236 rfl rfl rfl rfl fun X=>?_;refine AW.seq_k fun K hK=>AW.region (by kernel_rfl) ?_;simp -implicitDefEqProofs only[go_sem,seval,↓reduceIte];refine hK _ ?_;clear hK K;refine AW.seq_k fun K1 hK1=>?_;refine AW.seq_k fun K hK=>AW.region (by kernel_rfl) ?_;simp -implicitDefEqProofs only[go_sem,seval,↓reduceIte];refine hK _ ?_;clear hK K;refine AW.block ?_
 refine AW.for s.l.length (fun k (_:Unit)=>st [(0,.str t),(1,encSl c 1 V.str s),(5,.int .i64 k)] []) (fun k _=>(s.l.take k).contains t=false) 0 () (Nat.zero_le _) rfl
  (Weak.st (by simp -implicitDefEqProofs only[go_sem,seval,↓reduceIte];try rfl) (by simp -implicitDefEqProofs only[go_sem,seval,↓reduceIte])) ?_
 intro k _ hk hR L2 hL2;refine AW.seq_k fun K3 hK3=>?_;refine AW.seq_k fun K hK=>AW.region (by kernel_rfl) ?_;simp -implicitDefEqProofs only[go_sem,seval,↓reduceIte];refine hK _ ?_;clear hK K;refine AW.condS (by simp -implicitDefEqProofs only[go_sem,seval,↓reduceIte];rfl) (fun h4=>?_) (fun h4=>?_)
 ·have hk1:k<s.l.length:=by simpa using h4
  have hg:=List.getElem?_eq_getElem hk1
  have htk:s.l.take (k+1)=s.l.take k++[s.l[k]]:=by rw [List.take_succ_eq_append_getElem hk1]
  have hmem:=List.getElem_mem hk1;generalize s.l[k]=x at hg htk hmem;refine AW.skip ?_;simp -implicitDefEqProofs only[go_sem,seval,↓reduceIte];refine hK3 _ ?_;refine AW.seq_k fun K5 hK5=>?_;refine AW.block ?_;refine AW.seq_k fun K hK=>AW.region (by kernel_rfl) ?_;simp -implicitDefEqProofs only[go_sem,seval,↓reduceIte,hg];refine hK _ ?_;clear hK K;refine AW.condS (by simp -implicitDefEqProofs only[go_sem,seval,↓reduceIte];rfl) (fun h6=>?_) (fun h6=>?_)
  ·have h6:x=t:=by simpa using h6
   refine AW.seq_k fun K hK=>AW.region (by kernel_rfl) ?_;simp -implicitDefEqProofs only[go_sem,seval,↓reduceIte];refine hK _ ?_;clear hK K;refine AW.ret ?_;simp -implicitDefEqProofs only[go_sem,seval,↓reduceIte];refine endK_some ?_
   have:s.l.contains t=true:=by rw [← h6];simpa using hmem
   rw [this]
  ·have h6:¬ x=t:=by simpa using h6
   refine AW.skip ?_;simp -implicitDefEqProofs only[go_sem,seval,↓reduceIte];refine hK5 _ ?_;refine AW.region (by kernel_rfl) ?_;simp -implicitDefEqProofs only[go_sem,seval,↓reduceIte];refine hL2 _ ⟨hk1,(),?_,Weak.st (by simp -implicitDefEqProofs only[go_sem,seval,↓reduceIte];exact congrArg _ (w64 (by omega) (by omega))) (by simp -implicitDefEqProofs only[go_sem,seval,↓reduceIte])⟩;rw [htk];simp only [List.contains_eq_mem,decide_eq_false_iff_not] at hR ⊢;intro hm
   rcases List.mem_append.1 hm with h | h
   ·exact hR h
   ·exact h6 ((List.mem_singleton.1 h).symm)
 ·have hk1:k=s.l.length:=by simp at h4;omega
  refine AW.exit ?_;simp -implicitDefEqProofs only[go_sem,seval,↓reduceIte];refine hK1 _ ?_;refine AW.seq_k fun K hK=>AW.region (by kernel_rfl) ?_;simp -implicitDefEqProofs only[go_sem,seval,↓reduceIte];refine hK _ ?_;clear hK K;refine AW.ret ?_;simp -implicitDefEqProofs only[go_sem,seval,↓reduceIte];refine endK_some ?_;rw [hk1,List.take_length] at hR;rw [hR]
theorem sIndexS_spec (G:Nat→V) (hG:GOk G) (c:Col) (t:List UInt8) (s:Sl (List UInt8)) (hs:s.l.length<1000000) :
  Spec Tryz.prog G 92 [encSl c 1 V.str s,.str t] hNone (fun v _=>∃ i:Int,v = .int .i64 i∧decide (i≥0)=s.l.contains t):=by
 refine Spec.of_code' 0 19 [.tmp 4] Tryz.func92 rfl rfl rfl rfl fun X=>?_;refine AW.seq_k fun K hK=>AW.region (by kernel_rfl) ?_;simp -implicitDefEqProofs only[go_sem,seval,↓reduceIte];refine hK _ ?_;clear hK K;refine AW.seq_k fun K1 hK1=>?_;refine AW.seq_k fun K hK=>AW.region (by kernel_rfl) ?_;simp -implicitDefEqProofs only[go_sem,seval,↓reduceIte];refine hK _ ?_;clear hK K;refine AW.block ?_
 refine AW.for s.l.length (fun k (_:Unit)=>st [(0,encSl c 1 V.str s),(1,.str t),(7,.int .i64 s.l.length),(8,.int .i64 k)] []) (fun k _=>(s.l.take k).contains t=false) 0 () (Nat.zero_le _) rfl
  (Weak.st (by simp -implicitDefEqProofs only[go_sem,seval,↓reduceIte];try rfl) (by simp -implicitDefEqProofs only[go_sem,seval,↓reduceIte])) ?_
 intro k _ hk hR L2 hL2;refine AW.seq_k fun K hK=>AW.region (by kernel_rfl) ?_;simp -implicitDefEqProofs only[go_sem,seval,↓reduceIte];refine hK _ ?_;clear hK K;refine AW.seq_k fun K3 hK3=>?_;refine AW.condS (by simp -implicitDefEqProofs only[go_sem,seval,↓reduceIte];rfl) (fun h4=>?_) (fun h4=>?_)
 ·have hk1:k<s.l.length:=by simpa using h4
  have hg:=List.getElem?_eq_getElem hk1
  have htk:s.l.take (k+1)=s.l.take k++[s.l[k]]:=by rw [List.take_succ_eq_append_getElem hk1]
  have hmem:=List.getElem_mem hk1;generalize s.l[k]=x at hg htk hmem;refine AW.skip ?_;simp -implicitDefEqProofs only[go_sem,seval,↓reduceIte];refine hK3 _ ?_;refine AW.seq_k fun K5 hK5=>?_;refine AW.block ?_;refine AW.seq_k fun K hK=>AW.region (by kernel_rfl) ?_;simp -implicitDefEqProofs only[go_sem,seval,↓reduceIte];refine hK _ ?_;clear hK K;refine AW.seq_k fun K hK=>AW.region (by kernel_rfl) ?_;simp -implicitDefEqProofs only[go_sem,seval,↓reduceIte,hg];refine hK _ ?_;clear hK K;refine AW.condS (by simp -implicitDefEqProofs only[go_sem,seval,↓reduceIte];rfl) (fun h6=>?_) (fun h6=>?_)
  ·have h6:t=x:=by simpa using h6
   refine AW.seq_k fun K hK=>AW.region (by kernel_rfl) ?_;simp -implicitDefEqProofs only[go_sem,seval,↓reduceIte];refine hK _ ?_;clear hK K;refine AW.ret ?_;simp -implicitDefEqProofs only[go_sem,seval,↓reduceIte];refine endK_some ?_
   have:s.l.contains t=true:=by rw [h6];simpa using hmem
   rw [this];exact ⟨_,rfl,by rw [decide_eq_true_iff];omega⟩
  ·have h6:¬ t=x:=by simpa using h6
   refine AW.skip ?_;simp -implicitDefEqProofs only[go_sem,seval,↓reduceIte];refine hK5 _ ?_;refine AW.region (by kernel_rfl) ?_;simp -implicitDefEqProofs only[go_sem,seval,↓reduceIte];refine hL2 _ ⟨hk1,(),?_,Weak.st (by simp -implicitDefEqProofs only[go_sem,seval,↓reduceIte];exact congrArg _ (w64 (by omega) (by omega))) (by simp -implicitDefEqProofs only[go_sem,seval,↓reduceIte])⟩;rw [htk];simp only [List.contains_eq_mem,decide_eq_false_iff_not] at hR ⊢;intro hm
   rcases List.mem_append.1 hm with h | h
   ·exact hR h
   ·exact h6 (List.mem_singleton.1 h)
 ·have hk1:k=s.l.length:=by simp at h4;omega
  refine AW.exit ?_;simp -implicitDefEqProofs only[go_sem,seval,↓reduceIte];refine hK1 _ ?_;refine AW.seq_k fun K hK=>AW.region (by kernel_rfl) ?_;simp -implicitDefEqProofs only[go_sem,seval,↓reduceIte];refine hK _ ?_;clear hK K;refine AW.ret ?_;simp -implicitDefEqProofs only[go_sem,seval,↓reduceIte];refine endK_some ?_;rw [hk1,List.take_length] at hR;rw [hR];exact ⟨_,rfl,rfl⟩
theorem sContains_spec (G:Nat→V) (hG:GOk G) (c:Col) (t:List UInt8) (s:Sl (List UInt8)) (hs:s.l.length<1000000) :
  Spec Tryz.prog G 44 [encSl c 1 V.str s,.str t] hNone (fun v _=>v = .bool (s.l.contains t)):=by
 refine Spec.of_code' 0 9 [.tmp 4] Tryz.func44 rfl rfl rfl rfl fun X=>?_;refine AW.seq_k fun K hK=>AW.region (by kernel_rfl) ?_;simp -implicitDefEqProofs only[go_sem,seval,↓reduceIte];refine hK _ ?_;clear hK K;refine AW.seq_k fun K hK=>AW.region (by kernel_rfl) ?_;simp -implicitDefEqProofs only[go_sem,seval,↓reduceIte];refine CallA.pure hG (by kernel_rfl) ?_;simp -implicitDefEqProofs only[go_sem,seval,↓reduceIte];refine (sIndexS_spec G hG _ t s hs).mono ?_;rintro _ _ ⟨i,rfl,hi⟩;simp -implicitDefEqProofs only[go_sem,seval,↓reduceIte];refine hK _ ?_;clear hK K;refine AW.ret ?_;simp -implicitDefEqProofs only[go_sem,seval,↓reduceIte];refine endK_some ?_;rw [hi]
theorem tAt_spec (G:Nat→V) (hG:GOk G) (c:Col) (s:Sl Int) (hs:s.l.length<1000000) (i:Int) (hi:i<0∨0≤i∧i<s.l.length) :
  Spec Tryz.prog G 228 [.int .i64 i,.view .old (encSl c 1 (V.int .u8) s)] hNone (fun v _=>v = .int .u8 (plc s.l i)):=by
 refine Spec.of_code' 0 10 [.tmp 3] Tryz.func228 rfl rfl rfl rfl fun X=>?_
 have hP:plc s.l i=if i<0 then 0 else s.l.getD i.toNat 0:=rfl
 generalize plc s.l i=res at hP ⊢;refine AW.seq_k fun K hK=>AW.region (by kernel_rfl) ?_;simp -implicitDefEqProofs only[go_sem,seval,↓reduceIte];refine hK _ ?_;clear hK K;refine AW.seq_k fun K1 hK1=>?_;refine AW.seq_k fun K hK=>AW.region (by kernel_rfl) ?_;simp -implicitDefEqProofs only[go_sem,seval,↓reduceIte];refine hK _ ?_;clear hK K;refine AW.condS (by simp -implicitDefEqProofs only[go_sem,seval,↓reduceIte];rfl) (fun h2=>?_) (fun h2=>?_)
 ·have h2:i<0:=by simpa using h2
  rw [if_pos h2] at hP;refine AW.seq_k fun K hK=>AW.region (by kernel_rfl) ?_;simp -implicitDefEqProofs only[go_sem,seval,↓reduceIte];refine hK _ ?_;clear hK K;refine AW.ret ?_;simp -implicitDefEqProofs only[go_sem,seval,↓reduceIte];refine endK_some ?_;rw [hP]
 ·have h2:¬ i<0:=by simpa using h2
  rw [if_neg h2] at hP;obtain ⟨m,rfl⟩:∃ m:Nat,i=m:=⟨i.toNat,by omega⟩
  have hm:m<s.l.length:=by omega
  have hg:=List.getElem?_eq_getElem hm
  have hgd:s.l.getD ((m:Nat):Int).toNat 0=s.l[m]:=by rw [Int.toNat_natCast,List.getD_eq_getElem?_getD,hg];rfl
  rw [hgd] at hP;generalize s.l[m]=x at hg hP;refine AW.skip ?_;simp -implicitDefEqProofs only[go_sem,seval,↓reduceIte];refine hK1 _ ?_;refine AW.seq_k fun K hK=>AW.region (by kernel_rfl) ?_;simp -implicitDefEqProofs only[go_sem,seval,↓reduceIte,hg];refine hK _ ?_;clear hK K;refine AW.ret ?_;simp -implicitDefEqProofs only[go_sem,seval,↓reduceIte];refine endK_some ?_;rw [hP]
end Go.Hs
end
