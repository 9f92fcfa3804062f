/- Part 41 of the proof of a statement of seat YtohdjmgdaaipaaaGreatDoor: HsHPrtL HsHActS HsHActS2 HsHActS3 HsHActP HsExprSub HsTypLaw HsHTypR HsHTypK. -/
import Derived.Test.YtohdjmgdaaipaaaGreatDoorPart40
import Derived.Test.YtohdjmgdaaipaaaGreatDoorPart39
import Derived.Test.YtohdjmgdaaipaaaGreatDoorPart37
set_option linter.unusedSimpArgs false
set_option linter.unusedVariables false
section
namespace Go.Hs
open Go.Proofs
set_option maxRecDepth 10000
theorem Z20 (n m:XN):(n.op==m.op && (n.num==m.num && (n.name==m.name && (n.a==m.a && (n.b==m.b && (n.c==m.c && true))))))=(n==m):=by
 obtain ⟨a1,a2,a3,a4,a5,a6⟩:=n;obtain ⟨b1,b2,b3,b4,b5,b6⟩:=m;rw [Bool.eq_iff_iff];simp [and_assoc]
theorem Z2v (G:Nat→V) (hG:GOk G) (c c1:Col) (s t:Sl XN) (hs:s.l.length<1000000) :
  Spec Tryz.prog G 104 [Zd c 6 Zca s,Zd c1 6 Zca t] Zl (fun v _=>v = .bool (s.l==t.l)):=by
 refine Zo 0 26 [.tmp 4] Tryz.func104 fun X=>?_;refine Z1 ?_;refine Z1 ?_
 by_cases hl:s.l.length=t.l.length
 rotate_left
 ·have q1:(((s.l.length:Nat):Int) != ((t.l.length:Nat):Int))=true:=by simp;omega
  have hne:(s.l==t.l)=false:=by rw [beq_eq_false_iff_ne];exact fun h=>hl (by rw [h])
  rw [q1];refine Za rfl (fun h10=>?_) (fun h10=>?_)
  ·refine Z ?_
   rw [hne]
  ·cases h10
 have q1:(((s.l.length:Nat):Int) != ((t.l.length:Nat):Int))=false:=by simp;omega
 rw [q1];refine Z1 ?_;refine AW.block ?_
 refine Zua s.l.length (fun k (_:Unit)=>st [(0,Zd c 6 Zca s),(1,Zd c1 6 Zca t),(12,.int .i64 s.l.length),(13,.int .i64 k)] []) (fun k _=>s.l.take k=t.l.take k) 0 () (Nat.zero_le _) rfl
  (Zb zp zp) ?_
 intro k _ hk hR L3 hL3;refine Z1 ?_;refine Zy ?_;refine Za rfl (fun h14=>?_) (fun h14=>?_)
 ·have hk1:k<s.l.length:=by simpa using h14
  have hk2:k<t.l.length:=by omega
  have hg:=List.getElem?_eq_getElem hk1;have hg2:=List.getElem?_eq_getElem hk2
  have htk:s.l.take (k+1)=s.l.take k++[s.l[k]]:=by rw [List.take_succ_eq_append_getElem hk1]
  have htk2:t.l.take (k+1)=t.l.take k++[t.l[k]]:=by rw [List.take_succ_eq_append_getElem hk2]
  generalize s.l[k]=x at hg htk;generalize t.l[k]=y at hg2 htk2;refine Z1 ?_
  by_cases hxy:x=y
  rotate_left
  ·have q2:(x==y)=false:=by simpa using hxy
   have hne:(s.l==t.l)=false:=by
    rw [beq_eq_false_iff_ne];intro h;rw [h,hg2] at hg;exact hxy (Option.some.inj hg).symm
   refine ZTf (zi hg (zi hg2 (zi @Zt (zi @Z20 q2)))) hG ?_;refine Za rfl (fun h25=>?_) (fun h25=>?_)
   ·refine Z ?_
    rw [hne]
   ·cases h25
  have q2:(x==y)=true:=by simpa using hxy
  refine ZTf (zi hg (zi hg2 (zi @Zt (zi @Z20 q2)))) hG ?_;refine Z1 ?_;exact hL3 _ ⟨hk1,(),by rw [htk,htk2,hR,hxy],Zb zw zp⟩
 ·have hk1:k=s.l.length:=by simp at h14;omega
  refine Z0 ?_;rw [hk1,List.take_length,hl,List.take_length] at hR;refine Z ?_;rw [hR];simp
theorem Z22 (G:Nat→V) (hG:GOk G) (c c1:Col) (s t:Sl XN) (hs:s.l.length<1000000) :
  Spec Tryz.prog G 57 [.agg [Zd c 6 Zca s],.agg [Zd c1 6 Zca t]] Zl (fun v _=>v = .bool (s.l==t.l)):=by
 refine Zo 0 10 [.tmp 4] Tryz.func57 fun X=>?_;refine Z1 ?_;intro g2 g3;refine Z1 ?_;refine Zcf @Z4 hG ?_ (s:=(Z2v G hG _ _ s t hs));exact Zr
end Go.Hs
end

section
namespace Go.Hs
open Go.Proofs
set_option maxRecDepth 10000
structure AM where
 kind:Int
 name:List UInt8
 x:Sl XN
def AM.v (s:AM):ASt:=⟨s.kind,s.name,s.x.l⟩
def Z6 (c:Col) (s:AM):V := .agg [.int .u8 s.kind,.str s.name,Zd c 6 Zca s.x]
theorem Zpa (c:Col) (s:AM):Z6 c s = .agg [.int .u8 s.kind,.str s.name,Zd c 6 Zca s.x]:=rfl
theorem Zon (f:Col→Col) (c:Col) (s:AM):(Z6 c s).recol f=Z6 (f c) s:=by simp only [Zpa,Zme,List.map_cons,List.map_nil,Zxd,Zlg,Z4]
@[go_sem] theorem Zw (g:Col→Col) (c c1:Col) (s:Sl AM):(Zd c 3 (Z6 c1) s).recol g=Zd (g c) 3 (Z6 (g c1)) s:=Z1b g c 3 (Zon g c1) s
theorem Zq6 {a b:List AM} {k:Nat} {x y:AM} (hx:a[k]? = some x) (hy:b[k]? = some y) (h:x.v≠y.v):(a.map AM.v==b.map AM.v)=false:=by
 rw [beq_eq_false_iff_ne];intro he;have:=congrArg (fun l:List ASt=>l[k]?) he;simp only [List.getElem?_map,hx,hy,Option.map_some,Option.some.injEq] at this;exact h this
theorem Z9i (G:Nat→V) (hG:GOk G) (c c1 d d1:Col) (s t:Sl AM) (hs:s.l.length<1000000) (hx:∀ x∈s.l,x.x.l.length<1000000) :
  Spec Tryz.prog G 15 [Zd c 3 (Z6 c1) s,Zd d 3 (Z6 d1) t] Zl (fun v _=>v = .bool (s.l.map AM.v==t.l.map AM.v)):=by
 refine Zo 0 84 [.tmp 4] Tryz.func15 fun X=>?_;refine Z1 ?_;refine Z1 ?_
 by_cases hl:s.l.length=t.l.length
 rotate_left
 ·have q1:(((s.l.length:Nat):Int) != ((t.l.length:Nat):Int))=true:=by simp;omega
  have hne:(s.l.map AM.v==t.l.map AM.v)=false:=by rw [beq_eq_false_iff_ne];exact fun h=>hl (by have:=congrArg List.length h;simpa using this)
  rw [q1];refine Za rfl (fun h11=>?_) (fun h11=>?_)
  ·refine Z ?_
   rw [hne]
  ·cases h11
 have q1:(((s.l.length:Nat):Int) != ((t.l.length:Nat):Int))=false:=by simp;omega
 rw [q1];refine Z1 ?_;refine AW.block ?_
 refine Zua s.l.length (fun k (_:Unit)=>st [(0,Zd c 3 (Z6 c1) s),(1,Zd d 3 (Z6 d1) t),(5,.int .i64 k)] []) (fun k _=>(s.l.take k).map AM.v=(t.l.take k).map AM.v) 0 () (Nat.zero_le _) rfl
  (Zb zp zp) ?_
 intro k _ hk hR L3 hL3;refine Z1 ?_;refine Za rfl (fun h15=>?_) (fun h15=>?_);rotate_left
 ·have hk1:k=s.l.length:=by have:=zN h15;omega
  refine Z0 ?_;rw [hk1,List.take_length,hl,List.take_length] at hR;refine Z ?_;rw [hR];simp
 have hk1:k<s.l.length:=zL h15
 have hk2:k<t.l.length:=by omega
 have hg:=List.getElem?_eq_getElem hk1;have hg2:=List.getElem?_eq_getElem hk2;have hxx:=hx _ (List.getElem_mem hk1)
 have htk:s.l.take (k+1)=s.l.take k++[s.l[k]]:=by rw [List.take_succ_eq_append_getElem hk1]
 have htk2:t.l.take (k+1)=t.l.take k++[t.l[k]]:=by rw [List.take_succ_eq_append_getElem hk2]
 generalize s.l[k]=a at hg htk hxx;generalize t.l[k]=b at hg2 htk2;refine Z0 ?_;refine Z9 (fun (_:Unit)=>st [(0,Zd c 3 (Z6 c1) s),(1,Zd d 3 (Z6 d1) t),(5,.int .i64 k)] []) (fun _=>a.v=b.v) (fun K5 hK5=>?_) ?_;rotate_left
 ·intro _ hab
  refine Z1 ?_;exact hL3 _ ⟨hk1,(),by rw [htk,htk2,List.map_append,List.map_append,hR];show _++[a.v]=_++[b.v];rw [hab],Zb zw zp⟩
 refine AW.block ?_;refine Zy ?_
 by_cases e1:a.kind=b.kind
 rotate_left
 ·have q1:(a.kind==b.kind)=false:=by simpa using e1
  refine Zy <| Z5 ⟨fun _ => .top,fun _ => .pure⟩ (by kernel_rfl) hG (by kernel_rfl) (by kernel_rfl) ?_
  simp -implicitDefEqProofs only[go_sem,seval,↓reduceIte,hg,hg2,Zpa,bne,q1];refine Z ?_;rw [Zq6 hg hg2 (fun h=>e1 (congrArg ASt.kind h))]
 by_cases e2:a.name=b.name
 rotate_left
 ·have q1:(a.kind==b.kind)=true:=by simpa using e1
  have q2:(a.name==b.name)=false:=by simpa using e2
  refine Zy <| Z5 ⟨fun _ => .top,fun _ => .pure⟩ (by kernel_rfl) hG (by kernel_rfl) (by kernel_rfl) ?_
  simp -implicitDefEqProofs only[go_sem,seval,↓reduceIte,hg,hg2,Zpa,bne,q1,q2];refine Z ?_;rw [Zq6 hg hg2 (fun h=>e2 (congrArg ASt.name h))]
 have q1:(a.kind==b.kind)=true:=by simpa using e1
 have q2:(a.name==b.name)=true:=by simpa using e2
 by_cases e3:a.x.l.length=b.x.l.length
 rotate_left
 ·have q3:((a.x.l.length:Int)==b.x.l.length)=false:=by rw [beq_eq_false_iff_ne];omega
  refine Zy <| Z5 ⟨fun _ => .top,fun _ => .pure⟩ (by kernel_rfl) hG (by kernel_rfl) (by kernel_rfl) ?_
  simp -implicitDefEqProofs only[go_sem,seval,↓reduceIte,hg,hg2,Zpa,bne,q1,q2,q3];refine Z ?_;rw [Zq6 hg hg2 (fun h=>e3 (congrArg (fun z:ASt=>z.x.length) h))]
 have q3:((a.x.l.length:Int)==b.x.l.length)=true:=by rw [beq_iff_eq];omega
 refine Zy <| Z5 ⟨fun _ => .top,fun _ => .pure⟩ (by kernel_rfl) hG (by kernel_rfl) (by kernel_rfl) ?_
 simp -implicitDefEqProofs only[go_sem,seval,↓reduceIte,hg,hg2,Zpa,bne,q1,q2,q3];refine Z1 ?_;refine AW.block ?_
 refine Zua a.x.l.length (fun m (_:Unit)=>st [(0,Zd c 3 (Z6 c1) s),(1,Zd d 3 (Z6 d1) t),(5,.int .i64 k),(6,.int .i64 m)] []) (fun m _=>a.x.l.take m=b.x.l.take m) 0 () (Nat.zero_le _) rfl
  (Zb zp zp) ?_
 intro m _ hm hR2 L7 hL7;refine Z1f (zi hg @Zpa) ?_;refine Za rfl (fun h64=>?_) (fun h64=>?_);rotate_left
 ·have hm1:m=a.x.l.length:=by have:=zN h64;omega
  refine Z0 ?_;rw [hm1,List.take_length,e3,List.take_length] at hR2;exact hK5 _ () (by unfold AM.v;rw [e1,e2,hR2]) (Zb zp zp)
 have hm1:m<a.x.l.length:=zL h64
 have hm2:m<b.x.l.length:=by omega
 have hg3:=List.getElem?_eq_getElem hm1;have hg4:=List.getElem?_eq_getElem hm2
 have htk3:a.x.l.take (m+1)=a.x.l.take m++[a.x.l[m]]:=by rw [List.take_succ_eq_append_getElem hm1]
 have htk4:b.x.l.take (m+1)=b.x.l.take m++[b.x.l[m]]:=by rw [List.take_succ_eq_append_getElem hm2]
 generalize a.x.l[m]=x at hg3 htk3;generalize b.x.l[m]=y at hg4 htk4;refine Z0 ?_;refine Zy ?_;refine AW.block ?_
 by_cases hxy:x=y
 rotate_left
 ·have q4:(x==y)=false:=by simpa using hxy
  refine ZTf (zi hg (zi hg2 (zi @Zpa (zi hg3 (zi hg4 (zi @Zt (zi @Z20 q4))))))) hG ?_;refine Z ?_;rw [Zq6 hg hg2 (fun h=>hxy ?_)];have:=congrArg (fun z:ASt=>z.x[m]?) h;simp only [AM.v,hg3,hg4,Option.some.injEq] at this;exact this
 have q4:(x==y)=true:=by simpa using hxy
 refine ZTf (zi hg (zi hg2 (zi @Zpa (zi hg3 (zi hg4 (zi @Zt (zi @Z20 q4))))))) hG ?_;refine Z1 ?_;exact hL7 _ ⟨hm1,(),by rw [htk3,htk4,hR2,hxy],Zb zw zp⟩
end Go.Hs
end

section
namespace Go.Hs
open Go.Proofs
set_option maxRecDepth 10000
def Zyf (s:ASt):Bool:=(s.kind==1 || s.kind==2) && isP s.name==2 && ((s.kind==2 && s.x.isEmpty) || Zma s.x==0)
def Zab (l:List ASt):Int:=if l.length > 512 then 2 else if l.all Zyf=true then 0 else 2
structure AmOk (l:List AM):Prop where
 len:l.length<1000000
 row:∀ a∈l,a.name.length<100000∧a.x.l.length<1000000∧∀ n∈a.x.l,n.name.length<100000
theorem Z2aa {l:List AM} {k:Nat} {a:AM} (h:l[k]? = some a) (h1:(l.take k).all (fun a=>Zyf a.v)=true) (h2:Zyf a.v=true):(l.take (k+1)).all (fun a=>Zyf a.v)=true:=by
 rw [List.take_add_one,h,List.all_append,h1];simpa using h2
theorem all_bad {l:List AM} {k:Nat} {a:AM} (h:l[k]? = some a) (h2:Zyf a.v=false):(l.map AM.v).all Zyf=false:=by
 rw [Bool.eq_false_iff];intro h3;rw [List.all_eq_true] at h3;have:=h3 a.v (List.mem_map_of_mem (List.mem_of_getElem? h));rw [h2] at this;cases this
theorem Zck (G:Nat→V) (hG:GOk G) (c c1:Col) (s:Sl AM) (hA:AmOk s.l) :
  Spec Tryz.prog G 25 [Zd c 3 (Z6 c1) s] Zl (fun v _=>v = .int .i64 (Zab (s.l.map AM.v))):=by
 have hs:=hA.len;refine Zo 0 47 [.tmp 2] Tryz.func25 fun X=>?_
 have hP:Zab (s.l.map AM.v)=if s.l.length > 512 then 2 else if (s.l.map AM.v).all Zyf=true then 0 else 2:=by unfold Zab;rw [List.length_map]
 generalize Zab (s.l.map AM.v)=res at hP ⊢;refine Z1 ?_;refine Zy ?_
 by_cases hl:s.l.length > 512
 ·rw [if_pos hl] at hP
  have q1:decide ((s.l.length:Int) > 512)=true:=zT;refine Zf q1 ?_;rw [hP]
 rw [if_neg hl] at hP;have q1:decide ((s.l.length:Int) > 512)=false:=zF;refine Z1f q1 ?_;refine Z1 ?_;refine AW.block ?_
 refine Zua s.l.length (fun k (_:Unit)=>st [(0,Zd c 3 (Z6 c1) s),(3,.int .i64 k)] []) (fun k _=>(s.l.take k).all (fun a=>Zyf a.v)=true) 0 () (Nat.zero_le _) rfl
  (Zb zp zp) ?_
 intro k _ hk hR L3 hL3;refine Z1 ?_;refine Za rfl (fun h11=>?_) (fun h11=>?_);rotate_left
 ·have hk1:k=s.l.length:=by have:=zN h11;omega
  refine Z0 ?_;rw [hk1,List.take_length] at hR;rw [if_pos (by rw [List.all_map];exact hR)] at hP;refine Z ?_;rw [hP]
 have hk1:k<s.l.length:=zL h11;have hg:=List.getElem?_eq_getElem hk1;obtain ⟨r1,r2,r3⟩:=hA.row _ (List.getElem_mem hk1);generalize s.l[k]=a at hg r1 r2 r3;have hbad:=fun h=>if_neg (c:=((s.l.map AM.v).all Zyf=true)) (by rw [all_bad hg h];decide) ▸ hP;refine Z0 ?_;refine Z9 (fun (_:Unit)=>st [(0,Zd c 3 (Z6 c1) s),(3,.int .i64 k)] []) (fun _=>Zyf a.v=true) (fun K5 hK5=>?_) ?_;rotate_left
 ·intro _ hab
  refine Z1 ?_;exact hL3 _ ⟨hk1,(),Z2aa hg hR hab,Zb zw zp⟩
 refine Z1f (zi hg @Zpa) ?_;intro g4;refine Z9 (fun (_:Unit)=>st [(0,Zd c 3 (Z6 c1) s),(3,.int .i64 k),(4,.ptr 4 g4 0)] [(4,.cells .new g4 0 [.int .u8 a.kind,.str a.name,Zd c1 6 Zca a.x])]) (fun _=>(a.kind=1∨a.kind=2)∧isP a.name=2) (fun K6 hK6=>?_) ?_
 ·by_cases hk12:a.kind=1∨a.kind=2
  rotate_left
  ·have q2:(a.kind==1)=false:=by rw [beq_eq_false_iff_ne];exact fun h=>hk12 (.inl h)
   have q3:(a.kind==2)=false:=by rw [beq_eq_false_iff_ne];exact fun h=>hk12 (.inr h)
   refine Zdc (by kernel_rfl) ?_;simp -implicitDefEqProofs only[go_sem,seval,↓reduceIte,bne,q2,q3];refine Z ?_;rw [hbad (by unfold Zyf AM.v;rw [show ((a.kind==1)=false) from q2,show ((a.kind==2)=false) from q3]<;>rfl)]
  by_cases hi:isP a.name=2
  rotate_left
  ·have q4:((isP a.name:Int)==2)=false:=by rw [beq_eq_false_iff_ne];omega
   have q5:(isP a.name==2)=false:=by simpa using hi
   rcases hk12 with e1 | e1
   ·have q2:(a.kind==1)=true:=by simpa using e1
    refine Zdc (by kernel_rfl) ?_;simp -implicitDefEqProofs only[go_sem,seval,↓reduceIte,bne,q2];refine Zn hG ?_ (s:=(Zyi G hG a.name (by omega)));simp -implicitDefEqProofs only[go_sem,seval,↓reduceIte,bne,q4];refine Z ?_;rw [hbad (by unfold Zyf AM.v;simp only [q5,Bool.and_false,Bool.false_and])]
   ·have q2:(a.kind==1)=false:=by rw [beq_eq_false_iff_ne];omega
    have q3:(a.kind==2)=true:=by simpa using e1
    refine Zdc (by kernel_rfl) ?_;simp -implicitDefEqProofs only[go_sem,seval,↓reduceIte,bne,q2,q3];refine Zn hG ?_ (s:=(Zyi G hG a.name (by omega)));simp -implicitDefEqProofs only[go_sem,seval,↓reduceIte,bne,q4];refine Z ?_;rw [hbad (by unfold Zyf AM.v;simp only [q5,Bool.and_false,Bool.false_and])]
  have q4:((isP a.name:Int)==2)=true:=by rw [beq_iff_eq];omega
  rcases hk12 with e1 | e1
  ·have q2:(a.kind==1)=true:=by simpa using e1
   refine Zdc (by kernel_rfl) ?_;simp -implicitDefEqProofs only[go_sem,seval,↓reduceIte,bne,q2];refine Zn hG ?_ (s:=(Zyi G hG a.name (by omega)));simp -implicitDefEqProofs only[go_sem,seval,↓reduceIte,bne,q4];refine Z0 ?_;exact hK6 _ () ⟨.inl e1,hi⟩ (Zb zp zp)
  ·have q2:(a.kind==1)=false:=by rw [beq_eq_false_iff_ne];omega
   have q3:(a.kind==2)=true:=by simpa using e1
   refine Zdc (by kernel_rfl) ?_;simp -implicitDefEqProofs only[go_sem,seval,↓reduceIte,bne,q2,q3];refine Zn hG ?_ (s:=(Zyi G hG a.name (by omega)));simp -implicitDefEqProofs only[go_sem,seval,↓reduceIte,bne,q4];refine Z0 ?_;exact hK6 _ () ⟨.inr e1,hi⟩ (Zb zp zp)
 rintro _ ⟨hk12,hi⟩
 have q5:(isP a.name==2)=true:=by simpa using hi
 have q6:(a.kind==1 || a.kind==2)=true:=by simpa using hk12
 have hst:Zyf a.v=((a.kind==2 && a.x.l.isEmpty) || Zma a.x.l==0):=by
  unfold Zyf AM.v;simp only [q5,q6,Bool.true_and]
 by_cases hbare:a.kind=2∧a.x.l.length=0
 ·have q2:(a.kind==1)=false:=by rw [beq_eq_false_iff_ne];omega
  have q3:(a.kind==2)=true:=by simpa using hbare.1
  have q7:decide ((a.x.l.length:Int) > 0)=false:=zF;refine Z1f (zi q2 q7) ?_;refine Z0 ?_;exact hK5 _ () (by rw [hst,q3,List.isEmpty_iff_length_eq_zero.2 hbare.2]<;>rfl) (Zb zp zp)
 have hst2:Zyf a.v=(Zma a.x.l==0):=by
  rw [hst]
  have:(a.kind==2 && a.x.l.isEmpty)=false:=by
   rw [Bool.eq_false_iff];intro h;rw [Bool.and_eq_true] at h;exact hbare ⟨by simpa using h.1,List.isEmpty_iff_length_eq_zero.1 h.2⟩
  rw [this,Bool.false_or]
 have hck:=fun c=>Zqj G hG c a.x r2 r3;generalize Zma a.x.l=ck at hst2 hck;refine Z9 (fun (b:Bool)=>st [(0,Zd c 3 (Z6 c1) s),(3,.int .i64 k),(46,.bool b)] []) (fun b=>b = !(ck==0)) (fun K7 hK7=>?_) ?_
 ·refine AW.region (by kernel_rfl) ?_
  by_cases e1:a.kind=1
  ·have q2:(a.kind==1)=true:=by simpa using e1
   simp -implicitDefEqProofs only[go_sem,seval,↓reduceIte,q2,bne];refine Znf @Z4 hG ?_ (s:=(hck _));simp -implicitDefEqProofs only[go_sem,seval,↓reduceIte,q2,bne];exact hK7 _ _ rfl (Zb zp zp)
  ·have q2:(a.kind==1)=false:=by simpa using e1
   have q7:decide ((a.x.l.length:Int) > 0)=true:=zT;simp -implicitDefEqProofs only[go_sem,seval,↓reduceIte,q2,q7,bne];refine Znf @Z4 hG ?_ (s:=(hck _));simp -implicitDefEqProofs only[go_sem,seval,↓reduceIte,q2,q7,bne];exact hK7 _ _ rfl (Zb zp zp)
 rintro b rfl
 cases hck0:(ck==0) with
 | false =>
  refine Z ?_;rw [hbad (by rw [hst2,hck0])]
 | true =>
  refine Z0 ?_;exact hK5 _ () (by rw [hst2,hck0]) (Zb zp zp)
end Go.Hs
end

section
namespace Go.Hs
open Go.Proofs
set_option maxRecDepth 10000
theorem Zb0 (G:Nat→V) (hE:GExp G) (c:Col) (a:AM) (r1:a.name.length<100000) (r2:a.x.l.length<1000000) (r3:∀ n∈a.x.l,n.name.length<100000) :
  Spec Tryz.prog G 52 [Z6 c a] Zl (fun v _=>v = .bool (Zyf a.v)):=by
 have hG:=hE.ok;refine Zo 0 37 [.tmp 2] Tryz.func52 fun X=>?_;have hst:Zyf a.v=((a.kind==1 || a.kind==2) && isP a.name==2 && ((a.kind==2 && a.x.l.isEmpty) || Zma a.x.l==0)):=rfl;generalize Zyf a.v=res at hst ⊢
 have hem:a.x.l.isEmpty=((a.x.l.length:Int)==0):=by
  rw [Bool.eq_iff_iff,List.isEmpty_iff_length_eq_zero,beq_iff_eq];omega
 have hip:(isP a.name==2)=((isP a.name:Int)==2):=by
  rw [Bool.eq_iff_iff,beq_iff_eq,beq_iff_eq];omega
 rw [hem,hip] at hst;simp only [Zpa];refine Z1 ?_;intro g1;refine Z9 (fun (_:Unit)=>st [(1,.ptr 1 g1 0),(3,.bool (a.kind==2 && ((a.x.l.length:Int)==0)))] [(1,.cells .new g1 0 [.int .u8 a.kind,.str a.name,Zd c 6 Zca a.x])]) (fun _=>True) (fun K1 hK1=>?_) ?_
 ·refine AW.region (by kernel_rfl) ?_
  cases q3:(a.kind==2) with
  | false =>
   rw [q3] at hK1;refine Zsf q3 ?_;exact hK1 _ () trivial (Zb zp zp)
  | true =>
   rw [q3] at hK1;refine Zsf q3 ?_;exact hK1 _ () trivial (Zb zp zp)
 intro _ _;refine Z9 (fun (_:Unit)=>st [(2,.bool res)] []) (fun _=>True) (fun K2 hK2=>?_) ?_;rotate_left
 ·intro _ _
  exact Zr
 refine AW.region (by kernel_rfl) ?_
 cases q2:(a.kind==1) with
 | true =>
  have q3:(a.kind==2)=false:=by
   rw [beq_iff_eq] at q2;rw [beq_eq_false_iff_ne,q2];decide
  rw [q3];refine Zsf q2 ?_;refine Zn hG ?_ (s:=(Zrn G hE a.name (by omega)))
  cases q4:((isP a.name:Int)==2) with
  | false =>
   refine Zsf q4 ?_;refine hK2 _ () trivial (Zb (by rw [hst,q2,q3,q4];simp -implicitDefEqProofs only[go_sem,seval,↓reduceIte];try rfl) zp)
  | true =>
   refine Zsf q4 ?_;refine Zcf @Z4 hG ?_ (s:=(Zyg G hE _ a.x r2 r3));refine hK2 _ () trivial (Zb (by rw [hst,q2,q3,q4];simp -implicitDefEqProofs only[go_sem,seval,↓reduceIte];try rfl) zp)
 | false =>
 cases q3:(a.kind==2) with
 | false =>
  refine Zsf (zi q2 q3) ?_;refine hK2 _ () trivial (Zb (by rw [hst,q2,q3];simp -implicitDefEqProofs only[go_sem,seval,↓reduceIte];try rfl) zp)
 | true =>
 refine Zsf (zi q2 q3) ?_;refine Zn hG ?_ (s:=(Zrn G hE a.name (by omega)))
 cases q4:((isP a.name:Int)==2) with
 | false =>
  refine Zsf q4 ?_;refine hK2 _ () trivial (Zb (by rw [hst,q2,q3,q4];simp -implicitDefEqProofs only[go_sem,seval,↓reduceIte];try rfl) zp)
 | true =>
 cases q5:((a.x.l.length:Int)==0) with
 | true =>
  refine Zsf (zi q4 q5) ?_;refine hK2 _ () trivial (Zb (by rw [hst,q2,q3,q4,q5];simp -implicitDefEqProofs only[go_sem,seval,↓reduceIte];try rfl) zp)
 | false =>
  refine Zsf (zi q4 q5) ?_;refine Zcf @Z4 hG ?_ (s:=(Zyg G hE _ a.x r2 r3));refine hK2 _ () trivial (Zb (by rw [hst,q2,q3,q4,q5];simp -implicitDefEqProofs only[go_sem,seval,↓reduceIte];try rfl) zp)
structure AmB (a:AM):Prop where
 n:a.name.length<100000
 l:a.x.l.length<1000000
 x:∀ n∈a.x.l,n.name.length<100000
theorem Zqx (G:Nat→V) (hE:GExp G) (c:Col) (a:AM) (hb:AmB a) :
  Spec Tryz.prog G 51 [Z6 c a] Zl (fun v _=>v = .bool (!Zyf a.v)):=by
 have hG:=hE.ok;refine Zo 0 6 [.tmp 2] Tryz.func51 fun X=>?_;simp only [Zpa];refine Z1 ?_;intro g1;refine Z1 ?_;refine CallA.pure hG (by kernel_rfl) ?_;simp only [List.map_cons,List.map_nil,← Zpa,Zon];refine (Zb0 G hE _ a hb.n hb.l hb.x).mono ?_;rintro _ _ rfl;refine Zs ?_;exact Zr
theorem Ze0 (G:Nat→V) (hE:GExp G) (c c1:Col) (s:Sl AM) (hs:s.l.length<1000000) (hb:∀ a∈s.l,AmB a) :
  Spec Tryz.prog G 100 [Zd c 3 (Z6 c1) s,.func (.func 51) [] []] Zl (fun v _=>v = .int .i64 (Z34 (fun a:AM => !Zyf a.v) s.l)):=by
 have hG:=hE.ok;refine Zo 0 19 [.tmp 4] Tryz.func100 fun X=>?_;refine Z1 ?_;refine Z1 ?_;refine AW.block ?_
 refine Zua s.l.length (fun k (_:Unit)=>st [(0,Zd c 3 (Z6 c1) s),(1,.func (.func 51) [] []),(7,.int .i64 s.l.length),(8,.int .i64 k)] []) (fun k _=>∀ y∈s.l.take k,(!Zyf y.v)=false) 0 () (Nat.zero_le _) (by simp)
  (Zb zp zp) ?_
 intro k _ hk hR L2 hL2;refine Z1 ?_;refine Zy ?_;refine Za rfl (fun h4=>?_) (fun h4=>?_)
 ·have hk1:k<s.l.length:=by simpa using h4
  have hg:=List.getElem?_eq_getElem hk1;have hbx:=hb _ (List.getElem_mem hk1);generalize s.l[k]=x at hg hbx;refine Z1 ?_;refine Z1f (zi hg @Zpa) ?_;refine CallA.pure hG (by kernel_rfl) ?_;simp only [List.map_cons,List.map_nil,← Zpa,Zon];refine (Zqx G hE _ x hbx).mono ?_;rintro _ _ rfl;refine Zs ?_;refine Za rfl (fun h6=>?_) (fun h6=>?_)
  ·refine Z ?_
   rw [Z6o (p:=fun a:AM => !Zyf a.v) hg hR h6]
  ·refine Z1 ?_
   refine hL2 _ ⟨hk1,(),Zcs hg hR h6,Zb zw zp⟩
 ·have hk1:k=s.l.length:=by simp at h4;omega
  refine Z ?_;rw [hk1,List.take_length] at hR;rw [Z7o (p:=fun a:AM => !Zyf a.v) hR]
theorem idxP_ge {α : Type} (p : α → Bool) (l:List α):decide (Z34 p l≥0)=l.any p:=by
 unfold Z34
 cases h:l.findIdx? p with
 | none =>
  rw [List.findIdx?_eq_none_iff] at h
  have:l.any p=false:=by rw [List.any_eq_false];intro x hx;simp [h x hx]
  rw [this]<;>rfl
 | some i =>
  have:l.any p=true:=by
   rw [List.any_eq_true];obtain ⟨hi,hp,_⟩:=List.findIdx?_eq_some_iff_getElem.1 h;exact ⟨_,List.getElem_mem hi,hp⟩
  rw [this,decide_eq_true_iff];exact Int.natCast_nonneg _
theorem Znq (G:Nat→V) (hE:GExp G) (c c1:Col) (s:Sl AM) (hs:s.l.length<1000000) (hb:∀ a∈s.l,AmB a) :
  Spec Tryz.prog G 50 [Zd c 3 (Z6 c1) s,.func (.func 51) [] []] Zl (fun v _=>v = .bool (s.l.any (fun a:AM => !Zyf a.v))):=by
 have hG:=hE.ok;refine Zo 0 9 [.tmp 4] Tryz.func50 fun X=>?_;refine Z1 ?_;refine Z1 ?_;refine Zcf @Zw hG ?_ (s:=(Ze0 G hE _ _ s hs hb));refine Z ?_;rw [idxP_ge]
theorem Zge (G:Nat→V) (hE:GExp G) (c c1:Col) (s:Sl AM) (hs:s.l.length<1000000) (hb:∀ a∈s.l,AmB a) :
  Spec Tryz.prog G 24 [.agg [Zd c 3 (Z6 c1) s]] Zl (fun v _=>v = .int .i64 (Zab (s.l.map AM.v))):=by
 have hG:=hE.ok;refine Zo 0 12 [.tmp 2] Tryz.func24 fun X=>?_
 have hP:Zab (s.l.map AM.v)=if s.l.length > 512 then 2 else if (s.l.map AM.v).all Zyf=true then 0 else 2:=by unfold Zab;rw [List.length_map]
 generalize Zab (s.l.map AM.v)=res at hP ⊢
 have hall:s.l.any (fun a:AM => !Zyf a.v) = !(s.l.map AM.v).all Zyf:=by
  rw [List.all_map,List.not_all_eq_any_not]<;>rfl
 refine Z1 ?_;intro g1;refine Zy ?_
 by_cases hl:s.l.length > 512
 ·rw [if_pos hl] at hP
  have q1:decide ((s.l.length:Int) > 512)=true:=zT;refine Zf q1 ?_;rw [hP]
 rw [if_neg hl] at hP;have q1:decide ((s.l.length:Int) > 512)=false:=zF;refine Z1f q1 ?_;refine Znf @Zw hG ?_ (s:=(Znq G hE _ _ s hs hb));refine Zsf q1 ?_;rw [hall]
 cases hok:(s.l.map AM.v).all Zyf with
 | true =>
  rw [if_pos hok] at hP;refine Z ?_;rw [hP]
 | false =>
  rw [if_neg (by rw [hok];decide)] at hP;refine Z ?_;rw [hP]
end Go.Hs
end

section
namespace Go.Hs
open Go.Proofs
set_option maxRecDepth 10000
open Classical in
noncomputable def prP (l:List XN):List UInt8 × Int:=if h:Zma l=0 then (Zha ((Classical.choose (Zfd h)).W 0),0) else ([],Zma l)
theorem Zoba {l:List XN} {r:List UInt8 × Int} (h:Zi8 l r):r=prP l:=by
 unfold prP
 by_cases hc:Zma l=0
 ·rw [dif_pos hc]
  have hs:=Classical.choose_spec (Zfd hc);exact h.2 _ hs.1 hs.2.1 hc
 ·rw [dif_neg hc]
  exact h.1 hc
theorem Z85 {l:List XN} (hn:∀ n∈l,n.num≤9223372036854775807):(prP l).1.length≤66 * l.length:=by
 unfold prP
 by_cases hc:Zma l=0
 ·rw [dif_pos hc]
  have hs:=Classical.choose_spec (Zfd hc);generalize Classical.choose (Zfd hc)=x at hs ⊢;have hf:=Z6h x 0 (by rw [← hs.2.1];exact hn);have:=Zpo hs.1 hf
  have hsz:l.length=x.size:=by rw [hs.2.1,X.row_len]
  rw [hsz];exact this
 ·rw [dif_neg hc];exact Nat.zero_le _
noncomputable def xsT (l:List XN):List UInt8:=if l=[] then [] else (prP l).1++[32]
noncomputable def sT (s:ASt):List UInt8 :=
 if s.kind=1 then s.name++[32,58,61,32]++xsT s.x++[59] else [101,109,105,116,32]++s.name++[32,40,32]++xsT s.x++[41,32,59]
noncomputable def printA (l:List ASt):List UInt8 × Int:=if Zab l=0 then (Zha (l.map sT),0) else ([],2)
structure AmP (a:AM):Prop where
 n:a.name.length<100000
 l:a.x.l.length<1000
 x:∀ n∈a.x.l,n.name.length<100000
 m:∀ n∈a.x.l,n.num≤9223372036854775807
theorem Zel (l:List ASt):Zab l=0∨Zab l=2:=by
 unfold Zab
 split
 ·exact .inr rfl
 ·split
  ·exact .inl rfl
  ·exact .inr rfl
theorem Zog {n:Nat} (h:n<1000000000000):¬ ((n:Int) > IntKind.i64.max):=by rw [show IntKind.i64.max=9223372036854775807 from rfl];omega
theorem Zc0 (G:Nat→V) (hG:GOk G) (c c1:Col) (s:Sl AM) (hs:s.l.length<1000000) (hb:∀ a∈s.l,AmP a) :
  Spec Tryz.prog G 22 [Zd c 3 (Z6 c1) s] Zl (fun v _=>v=encPr (printA (s.l.map AM.v))):=by
 refine Zo 0 68 [.tmp 2,.tmp 3] Tryz.func22 fun X=>?_
 have hP:printA (s.l.map AM.v)=if Zab (s.l.map AM.v)=0 then (Zha ((s.l.map AM.v).map sT),0) else ([],2):=rfl
 generalize printA (s.l.map AM.v)=res at hP ⊢;have hck:=fun c=>Zck G hG c c1.ent s ⟨hs,fun a ha=>⟨(hb a ha).n,by have:=(hb a ha).l;omega,(hb a ha).x⟩⟩
 have hlen:Zab (s.l.map AM.v)=0→s.l.length≤512∧∀ a∈s.l,Zyf a.v=true:=by
  intro h;unfold Zab at h
  split at h
  ·cases h
  ·rename_i h1
   rw [List.length_map] at h1
   split at h
   ·rename_i h2
    rw [List.all_eq_true] at h2;exact ⟨by omega,fun a ha=>h2 a.v (List.mem_map_of_mem ha)⟩
   ·cases h
 have h02:=Zel (s.l.map AM.v);generalize Zab (s.l.map AM.v)=ck at hP hck hlen h02;refine Z1 ?_;refine Z1 ?_;refine Znf @Zw hG ?_ (s:=(hck _))
 rcases h02 with rfl | rfl
 rotate_left
 ·refine Zs ?_
  refine Z ?_
  rw [hP]<;>rfl
 refine Zs ?_;refine Z0 ?_;obtain ⟨hl5,hall⟩:=hlen rfl;rw [if_pos rfl,List.map_map] at hP;refine Z1 ?_;refine Z1 ?_;refine AW.block ?_
 refine Zua s.l.length (fun k (o:List UInt8)=>st [(0,Zd c 3 (Z6 c1) s),(4,.str o),(5,.int .i64 k)] []) (fun k o=>o=Zha ((s.l.take k).map (sT ∘ AM.v))∧o.length≤k * 300000) 0 [] (Nat.zero_le _) ⟨rfl,Nat.zero_le _⟩
  (Zb zp zp) ?_
 rintro k o hk ⟨hR,hol⟩ L3 hL3;refine Z1 ?_;refine Za rfl (fun h13=>?_) (fun h13=>?_);rotate_left
 ·have hk1:k=s.l.length:=by have:=zN h13;omega
  refine Z0 ?_;rw [hk1,List.take_length] at hR;refine Z ?_
  rw [hP,hR]<;>rfl
 have hk1:k<s.l.length:=zL h13;have hg:=List.getElem?_eq_getElem hk1;have hok:=hall _ (List.getElem_mem hk1);have hba:=hb _ (List.getElem_mem hk1)
 have htk:s.l.take (k+1)=s.l.take k++[s.l[k]]:=by rw [List.take_succ_eq_append_getElem hk1]
 generalize s.l[k]=a at hg hok hba htk;refine Z0 ?_;refine Z9 (fun (_:Unit)=>st [(0,Zd c 3 (Z6 c1) s),(4,.str (Zha ((s.l.take (k+1)).map (sT ∘ AM.v)))),(5,.int .i64 k)] []) (fun _=>(Zha ((s.l.take (k+1)).map (sT ∘ AM.v))).length≤(k+1) * 300000) (fun K5 hK5=>?_) ?_;rotate_left
 ·intro _ hlq
  refine Z1 ?_;exact hL3 _ ⟨hk1,_,⟨rfl,hlq⟩,Zb zw zp⟩
 refine AW.block ?_;refine Z9 (fun (o1:List UInt8)=>st [(0,Zd c 3 (Z6 c1) s),(4,.str o1),(5,.int .i64 k)] []) (fun o1=>o1++sT a.v=Zha ((s.l.take (k+1)).map (sT ∘ AM.v))∧o1.length≤k * 300000+1) (fun K6 hK6=>?_) ?_
 ·by_cases hk0:k=0
  ·have q1:decide ((k:Int) > 0)=false:=zF
   refine Z1f q1 ?_;refine Z0 ?_;refine hK6 _ o ⟨?_,Nat.le_succ_of_le hol⟩ (Zb zp zp);rw [htk,hR,hk0,List.take_zero,List.map_append]
   try rfl
  ·have q1:decide ((k:Int) > 0)=true:=zT
   refine Z1f q1 ?_;refine Zpe rfl ?_;have l1:¬ (((o.length+1:Nat):Int) > IntKind.i64.max):=Zog (by omega);refine Z1f l1 ?_;refine hK6 _ (o++[32]) ⟨?_,by simp only [List.length_append,List.length_cons,List.length_nil];omega⟩ (Zb zp zp)
   rw [htk,List.map_append,Zcd (by
    intro h;have:=congrArg List.length h;rw [List.length_map,List.length_take] at this;simp only [List.length_nil] at this
    omega) (by simp),← hR,List.append_assoc]
   rfl
 rintro o1 ⟨ho1,hol1⟩
 have hxl:(xsT a.x.l).length≤66 * 1000+1:=by
  unfold xsT
  split
  ·exact Nat.zero_le _
  ·rw [List.length_append]
   have:=Z85 hba.m;have:=hba.l
   show (prP a.x.l).1.length+1≤_
   omega
 have hnl:=hba.n;refine Z1 ?_;refine Z9 (fun (_:Unit)=>st [(0,Zd c 3 (Z6 c1) s),(4,.str o1),(5,.int .i64 k),(6,.str (xsT a.x.l))] []) (fun _=>True) (fun K7 hK7=>?_) ?_
 ·by_cases hx0:a.x.l.length=0
  ·have q1:decide ((a.x.l.length:Int) > 0)=false:=zF
   have hxs:xsT a.x.l=[]:=by unfold xsT;rw [if_pos (List.length_eq_zero_iff.1 hx0)]
   rw [hxs] at hK7;refine Z1f (zi hg (zi @Zpa q1)) ?_;refine Z0 ?_;exact hK7 _ () trivial (Zb zp zp)
  ·have q1:decide ((a.x.l.length:Int) > 0)=true:=zT
   have hxs:xsT a.x.l=(prP a.x.l).1++[32]:=by unfold xsT;rw [if_neg (fun h=>hx0 (by rw [h]<;>rfl))]
   have hpl:=Z85 hba.m;have hal:=hba.l;refine Z1f (zi hg (zi @Zpa q1)) ?_;refine Z1f (zi hg @Zpa) ?_;refine CallA.pure hG (by kernel_rfl) ?_;refine Zsf @Z4 ?_;refine (Zaw G hG _ a.x hba.l hba.x hba.m).mono ?_;rintro _ _ ⟨r,rfl,hr⟩;obtain rfl:=Zoba hr;generalize prP a.x.l=r at hxs hpl;obtain ⟨t,e⟩:=r;simp only at hxs hpl;rw [hxs] at hK7;refine Zsf @encPr.eq_1 ?_;have l1:¬ (((t.length+1:Nat):Int) > IntKind.i64.max):=Zog (by omega);refine Z1f l1 ?_;exact hK7 _ () trivial (Zb zp zp)
 intro _ _;have hkz:Zyf a.v=true:=hok;generalize hxsg:xsT a.x.l=xs at hxl
 have hsT:sT a.v=if a.kind=1 then a.name++[32,58,61,32]++xs++[59] else [101,109,105,116,32]++a.name++[32,40,32]++xs++[41,32,59]:=by rw [← hxsg]<;>rfl
 by_cases h1:a.kind=1
 ·have q1:(a.kind==1)=true:=by simpa using h1
  rw [if_pos h1] at hsT;refine Z1f (zi hg (zi @Zpa q1)) ?_;refine Zpe rfl ?_;have l1:¬ (((o1.length+a.name.length:Nat):Int) > IntKind.i64.max):=Zog (by omega);have l2:¬ ((((o1++a.name).length+4:Nat):Int) > IntKind.i64.max):=Zog (by rw [List.length_append];omega);have l3:¬ ((((o1++a.name++[32,58,61,32]).length+xs.length:Nat):Int) > IntKind.i64.max):=Zog (by simp only [List.length_append,List.length_cons,List.length_nil];omega);have l4:¬ ((((o1++a.name++[32,58,61,32]++xs).length+1:Nat):Int) > IntKind.i64.max):=Zog (by simp only [List.length_append,List.length_cons,List.length_nil];omega)
  have hfin:o1++a.name++[32,58,61,32]++xs++[59]=Zha ((s.l.take (k+1)).map (sT ∘ AM.v)):=by rw [← ho1,hsT];simp only [List.append_assoc]
  have hfl:=congrArg List.length hfin;simp only [List.length_append,List.length_cons,List.length_nil] at hfl;refine Z1f (zi hg (zi @Zpa (zi l1 (zi l2 (zi l3 l4))))) ?_;exact hK5 _ () (by rw [← hfl];omega) (Zb (by simp -implicitDefEqProofs only[go_sem,seval,↓reduceIte];exact congrArg V.str hfin) zp)
 ·have q1:(a.kind==1)=false:=by simpa using h1
  rw [if_neg h1] at hsT;refine Z1f (zi hg (zi @Zpa q1)) ?_;refine Zta rfl ?_;have l1:¬ (((o1.length+5:Nat):Int) > IntKind.i64.max):=Zog (by omega);have l2:¬ ((((o1++[101,109,105,116,32]).length+a.name.length:Nat):Int) > IntKind.i64.max):=Zog (by simp only [List.length_append,List.length_cons,List.length_nil];omega);have l3:¬ ((((o1++[101,109,105,116,32]++a.name).length+3:Nat):Int) > IntKind.i64.max):=Zog (by simp only [List.length_append,List.length_cons,List.length_nil];omega);have l4:¬ ((((o1++[101,109,105,116,32]++a.name++[32,40,32]).length+xs.length:Nat):Int) > IntKind.i64.max):=Zog (by simp only [List.length_append,List.length_cons,List.length_nil];omega);have l5:¬ ((((o1++[101,109,105,116,32]++a.name++[32,40,32]++xs).length+3:Nat):Int) > IntKind.i64.max):=Zog (by simp only [List.length_append,List.length_cons,List.length_nil];omega)
  have hfin:o1++[101,109,105,116,32]++a.name++[32,40,32]++xs++[41,32,59]=Zha ((s.l.take (k+1)).map (sT ∘ AM.v)):=by rw [← ho1,hsT];simp only [List.append_assoc]
  have hfl:=congrArg List.length hfin;simp only [List.length_append,List.length_cons,List.length_nil] at hfl;refine Z1f (zi hg (zi @Zpa (zi l1 (zi l2 (zi l3 (zi l4 l5)))))) ?_;exact hK5 _ () (by rw [← hfl];omega) (Zb (by simp -implicitDefEqProofs only[go_sem,seval,↓reduceIte];exact congrArg V.str hfin) zp)
end Go.Hs
end

section
namespace Go.Hs
inductive Sub:X→X→Nat→Prop where
 | refl (x:X):Sub x x 0
 | un {op:Int} {a y:X} {b:Nat}:Sub a y b→Sub (.un op a) y b
 | bin1 {op:Int} {a c y:X} {b:Nat}:Sub a y b→Sub (.bin op a c) y b
 | bin2 {op:Int} {a c y:X} {b:Nat}:Sub c y b→Sub (.bin op a c) y (a.size+b)
 | ite1 {a c d y:X} {b:Nat}:Sub a y b→Sub (.ite a c d) y b
 | ite2 {a c d y:X} {b:Nat}:Sub c y b→Sub (.ite a c d) y (a.size+b)
 | ite3 {a c d y:X} {b:Nat}:Sub d y b→Sub (.ite a c d) y (a.size+c.size+b)
def Zhe:X→List X
 | .leaf op num name=>[.leaf op num name]
 | .un op a=>Zhe a++[.un op a]
 | .bin op a c=>Zhe a++Zhe c++[.bin op a c]
 | .ite a c d=>Zhe a++Zhe c++Zhe d++[.ite a c d]
theorem Zmb:∀ x:X,(Zhe x).length=x.size
 | .leaf .. => rfl
 | .un _ a=>by simp [Zhe,X.size,Zmb a]
 | .bin _ a b=>by simp [Zhe,X.size,Zmb a,Zmb b];omega
 | .ite a b c=>by simp [Zhe,X.size,Zmb a,Zmb b,Zmb c];omega
theorem Sub.trans {x y z:X} {b c:Nat} (h:Sub x y b) (h2:Sub y z c):Sub x z (b+c):=by
 induction h with
 | refl=>simpa using h2
 | un _ ih=>exact .un (ih h2)
 | bin1 _ ih=>exact .bin1 (ih h2)
 | bin2 _ ih=>rw [Nat.add_assoc];exact .bin2 (ih h2)
 | ite1 _ ih=>exact .ite1 (ih h2)
 | ite2 _ ih=>rw [Nat.add_assoc];exact .ite2 (ih h2)
 | ite3 _ ih=>rw [Nat.add_assoc];exact .ite3 (ih h2)
theorem Sub.ok {x y:X} {b:Nat} (h:Sub x y b):x.ok=true→y.ok=true:=by
 induction h with
 | refl=>exact id
 | un _ ih=>intro h;simp [X.ok] at h;exact ih h.2
 | bin1 _ ih=>intro h;simp [X.ok] at h;exact ih h.1.2
 | bin2 _ ih=>intro h;simp [X.ok] at h;exact ih h.2
 | ite1 _ ih=>intro h;simp [X.ok] at h;exact ih h.1.1
 | ite2 _ ih=>intro h;simp [X.ok] at h;exact ih h.1.2
 | ite3 _ ih=>intro h;simp [X.ok] at h;exact ih h.2
theorem Sub.size {x y:X} {b:Nat} (h:Sub x y b):b+y.size≤x.size:=by
 induction h with
 | refl=>simp
 | un _ ih=>simp only [X.size];omega
 | bin1 _ ih=>simp only [X.size];omega
 | bin2 _ ih=>simp only [X.size];omega
 | ite1 _ ih=>simp only [X.size];omega
 | ite2 _ ih=>simp only [X.size];omega
 | ite3 _ ih=>simp only [X.size];omega
theorem Sub.depth {x y:X} {b:Nat} (h:Sub x y b):y.depth≤x.depth:=by
 induction h with
 | refl=>simp
 | un _ ih=>simp only [X.depth];omega
 | bin1 _ ih=>simp only [X.depth];omega
 | bin2 _ ih=>simp only [X.depth];omega
 | ite1 _ ih=>simp only [X.depth];omega
 | ite2 _ ih=>simp only [X.depth];omega
 | ite3 _ ih=>simp only [X.depth];omega
theorem Sub.at {x y:X} {b:Nat} (h:Sub x y b):∀ {l:List XN} {k:Nat},At l x k→At l y (k+b):=by
 induction h with
 | refl=>exact id
 | un _ ih=>intro l k h;exact ih h.un
 | bin1 _ ih=>intro l k h;exact ih h.bin.1
 | bin2 _ ih=>intro l k h;rw [← Nat.add_assoc];exact ih h.bin.2
 | ite1 _ ih=>intro l k h;exact ih h.ite.1
 | ite2 _ ih=>intro l k h;rw [← Nat.add_assoc];exact ih h.ite.2.1
 | ite3 _ ih=>intro l k h;rw [← Nat.add_assoc,← Nat.add_assoc];exact ih h.ite.2.2
theorem Ze1 (x:X):(Zhe x)[x.size-1]? = some x:=by
 have:∃ l,Zhe x=l++[x]:=by
  cases x with
  | leaf=>exact ⟨[],rfl⟩
  | un=>exact ⟨_,rfl⟩
  | bin=>exact ⟨_,rfl⟩
  | ite=>exact ⟨_,rfl⟩
 obtain ⟨l,h⟩:=this;have hl:=Zmb x;rw [h,List.length_append,List.length_singleton] at hl;rw [h,List.getElem?_append_right (by omega),show x.size-1-l.length=0 by omega];rfl
theorem Sub.get {x y:X} {b:Nat} (h:Sub x y b):(Zhe x)[b+y.size-1]? = some y:=by
 have hy:=y.size_pos
 induction h with
 | refl x=>rw [Nat.zero_add];exact Ze1 x
 | @un op a y b h ih =>
  have:=h.size;have hl:=Zmb a;rw [Zhe,List.getElem?_append_left (by omega)];exact ih hy
 | @bin1 op a c y b h ih =>
  have:=h.size;have hl:=Zmb a;rw [Zhe,List.append_assoc,List.getElem?_append_left (by omega)];exact ih hy
 | @bin2 op a c y b h ih =>
  have:=h.size;have hl:=Zmb a;have hl2:=Zmb c;rw [Zhe,List.append_assoc,List.getElem?_append_right (by omega),List.getElem?_append_left (by omega),← ih hy]
  congr 1;omega
 | @ite1 a c d y b h ih =>
  have:=h.size;have hl:=Zmb a;rw [Zhe,List.append_assoc,List.append_assoc,List.getElem?_append_left (by omega)];exact ih hy
 | @ite2 a c d y b h ih =>
  have:=h.size;have hl:=Zmb a;have hl2:=Zmb c;rw [Zhe,List.append_assoc,List.append_assoc,List.getElem?_append_right (by omega),List.getElem?_append_left (by omega),← ih hy]
  congr 1;omega
 | @ite3 a c d y b h ih =>
  have:=h.size;have hl:=Zmb a;have hl2:=Zmb c;have hl3:=Zmb d;rw [Zhe,List.append_assoc,List.append_assoc,List.getElem?_append_right (by omega),List.getElem?_append_right (by omega),List.getElem?_append_left (by omega),← ih hy]
  congr 1;omega
theorem Zoj:∀ (x:X) (i:Nat),i<x.size→∃ y b,Sub x y b∧b+y.size=i+1
 | .leaf op num name,i,h=>⟨_,0,.refl _,by simp only [X.size] at h ⊢;omega⟩
 | .un op a,i,h=>by
  by_cases h1:i<a.size
  ·obtain ⟨y,b,h2,h3⟩:=Zoj a i h1
   exact ⟨y,b,.un h2,h3⟩
  ·exact ⟨_,0,.refl _,by simp only [X.size] at h ⊢;omega⟩
 | .bin op a c,i,h=>by
  by_cases h1:i<a.size
  ·obtain ⟨y,b,h2,h3⟩:=Zoj a i h1
   exact ⟨y,b,.bin1 h2,h3⟩
  by_cases h1':i-a.size<c.size
  ·obtain ⟨y,b,h2,h3⟩:=Zoj c (i-a.size) h1'
   exact ⟨y,_,.bin2 h2,by omega⟩
  ·exact ⟨_,0,.refl _,by simp only [X.size] at h ⊢;omega⟩
 | .ite a c d,i,h=>by
  by_cases h1:i<a.size
  ·obtain ⟨y,b,h2,h3⟩:=Zoj a i h1
   exact ⟨y,b,.ite1 h2,h3⟩
  by_cases h1':i-a.size<c.size
  ·obtain ⟨y,b,h2,h3⟩:=Zoj c (i-a.size) h1'
   exact ⟨y,_,.ite2 h2,by omega⟩
  by_cases h1'':i-a.size-c.size<d.size
  ·obtain ⟨y,b,h2,h3⟩:=Zoj d (i-a.size-c.size) h1''
   exact ⟨y,_,.ite3 h2,by omega⟩
  ·exact ⟨_,0,.refl _,by simp only [X.size] at h ⊢;omega⟩
theorem Sub.top {x y:X} {b:Nat} (h:Sub x y b):(x.row 0)[b+y.size-1]? = some (y.top b):=by
 have:=(h.at (Zlh x)).get;rw [Nat.zero_add] at this;exact this
theorem Zf1 (x:X) (i:Nat) (h:i<x.size):∃ y b,Sub x y b∧b+y.size=i+1∧(Zhe x)[i]? = some y∧(x.row 0)[i]? = some (y.top b):=by
 obtain ⟨y,b,h1,h2⟩:=Zoj x i h
 have e:i=b+y.size-1:=by omega
 exact ⟨y,b,h1,h2,e ▸ h1.get,e ▸ h1.top⟩
end Go.Hs
end

section
namespace Go.Hs
def kd (op:Int) (named:Bool) (a b c:Int):Int :=
 if op=1∨op=2∧named=true then 1
 else if op=3∨op=4 then 2
 else if op=5∧a=1∨7≤op∧op≤11∧a=1∧b=1 then 1
 else if 12≤op∧op≤15∧a=1∧b=1∨(op=16∨op=17)∧a=b∧a≠0 then 2
 else if op=6∧a=2∨18≤op∧op≤21∧a=2∧b=2 then 2
 else if op=22∧a=2∧b=c then b else 0
theorem Z5k {op:Int} {nm:Bool} {a b c:Int} (hb:0≤b∧b≤2):0≤kd op nm a b c∧kd op nm a b c≤2:=by
 unfold kd
 repeat' split
 all_goals omega
def Zgb (names:List (List UInt8)):X→Int
 | .leaf op _ name=>kd op (names.contains name) 0 0 0
 | .un op a=>kd op (names.contains []) (Zgb names a) 0 0
 | .bin op a b=>kd op (names.contains []) (Zgb names a) (Zgb names b) 0
 | .ite a b c=>kd 22 (names.contains []) (Zgb names a) (Zgb names b) (Zgb names c)
theorem Zxj (names:List (List UInt8)):∀ x,0≤Zgb names x∧Zgb names x≤2
 | .leaf .. => Z5k (by decide)
 | .un .. => Z5k (by decide)
 | .bin _ a b=>Z5k (Zxj names b)
 | .ite a b c=>Z5k (Zxj names b)
def goX (names:List (List UInt8)):List X→Int→List Int→List Int × Int × Int
 | [],_,acc=>(acc,0,0)
 | y::r,i,acc=>if Zgb names y=0 then ([],i,90) else goX names r (i+1) (acc++[Zgb names y])
def plc (ks:List Int) (i:Int):Int:=if i<0 then 0 else ks.getD i.toNat 0
def Z0h (names:List (List UInt8)) (n:XN) (ks:List Int):Int:=kd n.op (names.contains n.name) (plc ks n.a) (plc ks n.b) (plc ks n.c)
def goN (names:List (List UInt8)):List XN→Int→List Int→List Int × Int × Int
 | [],_,acc=>(acc,0,0)
 | n::r,i,acc=>if Z0h names n acc=0 then ([],i,90) else goN names r (i+1) (acc++[Z0h names n acc])
theorem Zez (ks:List Int):plc ks (-1)=0:=rfl
theorem Zzl {names:List (List UInt8)} {x y:X} {b i:Nat} (h:Sub x y b) (hi:b+y.size≤i):plc (((Zhe x).take i).map (Zgb names)) ((b:Int)+y.size-1)=Zgb names y:=by
 have hp:=y.size_pos;unfold plc;rw [if_neg (by omega),show ((b:Int)+y.size-1).toNat=b+y.size-1 by omega];rw [List.getD_eq_getElem?_getD,List.getElem?_map,List.getElem?_take,if_pos (by omega),h.get];rfl
theorem Z76 {names:List (List UInt8)} {x y:X} {b i:Nat} (h:Sub x y b) (hi:b+y.size=i+1):Z0h names (y.top b) (((Zhe x).take i).map (Zgb names))=Zgb names y:=by
 cases y with
 | leaf op num name=>rfl
 | un op a =>
  have h1:Sub x a b:=h.trans (.un (.refl a));simp only [X.size] at hi;simp only [Z0h,X.top,Zez,Zgb];rw [Zzl h1 (by omega)]
 | bin op a c =>
  have h1:Sub x a b:=h.trans (.bin1 (.refl a));have h2:Sub x c (b+(a.size+0)):=h.trans (.bin2 (.refl c));rw [Nat.add_zero] at h2;simp only [X.size] at hi;simp only [Z0h,X.top,Zez,Zgb];have:=Zzl (names:=names) h2 (i:=i) (by omega);rw [show ((b+a.size:Nat):Int)+c.size-1=(b:Int)+a.size+c.size-1 by omega] at this;rw [Zzl h1 (by omega),this]
 | ite a c d =>
  have h1:Sub x a b:=h.trans (.ite1 (.refl a));have h2:Sub x c (b+(a.size+0)):=h.trans (.ite2 (.refl c));have h3:Sub x d (b+(a.size+c.size+0)):=h.trans (.ite3 (.refl d));rw [Nat.add_zero] at h2 h3;simp only [X.size] at hi;simp only [Z0h,X.top,Zez,Zgb];have q2:=Zzl (names:=names) h2 (i:=i) (by omega);rw [show ((b+a.size:Nat):Int)+c.size-1=(b:Int)+a.size+c.size-1 by omega] at q2;have q3:=Zzl (names:=names) h3 (i:=i) (by omega);rw [show ((b+(a.size+c.size):Nat):Int)+d.size-1=(b:Int)+a.size+c.size+d.size-1 by omega] at q3;rw [Zzl h1 (by omega),q2,q3]
theorem Ztz {names:List (List UInt8)} (x:X):∀ (m i:Nat),i+m=x.size→goN names ((x.row 0).drop i) i (((Zhe x).take i).map (Zgb names))=goX names ((Zhe x).drop i) i (((Zhe x).take i).map (Zgb names))
 | 0,i,h=>by
  rw [List.drop_of_length_le (by rw [X.row_len];omega),List.drop_of_length_le (by rw [Zmb];omega)];rfl
 | m+1,i,h=>by
  obtain ⟨y,b,h1,h2,h3,h4⟩:=Zf1 x i (by omega);obtain ⟨q1,e1⟩:=List.getElem?_eq_some_iff.1 h3;obtain ⟨q2,e2⟩:=List.getElem?_eq_some_iff.1 h4;rw [List.drop_eq_getElem_cons q2,List.drop_eq_getElem_cons q1,e1,e2,goN,goX,Z76 h1 h2];have ih:=Ztz (names:=names) x m (i+1) (by omega)
  have ht:((Zhe x).take (i+1)).map (Zgb names)=((Zhe x).take i).map (Zgb names)++[Zgb names y]:=by
   rw [List.take_add_one,h3];simp
  rw [ht] at ih
  split
  ·rfl
  ·exact ih
def PlOk (k:Nat) (n:XN):Prop:=Ztd n=true∧(0<Zi n.op→0≤n.a∧n.a<k)∧(1<Zi n.op→0≤n.b∧n.b<k)∧(2<Zi n.op→0≤n.c∧n.c<k) ∧
 (¬ 0<Zi n.op→n.a = -1)∧(¬ 1<Zi n.op→n.b = -1)∧(¬ 2<Zi n.op→n.c = -1)
theorem Zw9 {x y:X} {b i:Nat} (hx:x.ok=true) (h:Sub x y b) (hi:b+y.size=i+1):PlOk i (y.top b):=by
 have hy:=h.ok hx
 cases y with
 | leaf op num name =>
  simp only [X.ok,Bool.and_eq_true,decide_eq_true_eq] at hy
  have hp:Zi op=0:=by unfold Zi;rw [if_pos hy.2]
  refine ⟨hy.1,?_⟩;simp only [X.top,hp];exact ⟨fun h=>absurd h (by decide),fun h=>absurd h (by decide),fun h=>absurd h (by decide),fun _=>trivial,fun _=>trivial,fun _=>trivial⟩
 | un op a =>
  simp only [X.ok,Bool.and_eq_true,decide_eq_true_eq] at hy
  have hp:Zi op=1:=by unfold Zi;rw [if_neg (by omega),if_pos (by omega)]
  have hs:=a.size_pos;simp only [X.size] at hi;refine ⟨Z0g (by omega) _ _ _,?_⟩;simp only [X.top,hp];exact ⟨fun _=>by omega,fun h=>absurd h (by decide),fun h=>absurd h (by decide),fun h=>absurd (by decide) h,fun _=>trivial,fun _=>trivial⟩
 | bin op a c =>
  simp only [X.ok,Bool.and_eq_true,decide_eq_true_eq] at hy
  have hp:Zi op=2:=by unfold Zi;rw [if_neg (by omega),if_neg (by omega),if_pos (by omega)]
  have hs:=a.size_pos;have hs2:=c.size_pos;simp only [X.size] at hi;refine ⟨Z0g (by omega) _ _ _,?_⟩;simp only [X.top,hp];exact ⟨fun _=>by omega,fun _=>by omega,fun h=>absurd h (by decide),fun h=>absurd (by decide) h,fun h=>absurd (by decide) h,fun _=>trivial⟩
 | ite a c d =>
  have hp:Zi 22=3:=by decide
  have hs:=a.size_pos;have hs2:=c.size_pos;have hs3:=d.size_pos;simp only [X.size] at hi;refine ⟨Z0g (by decide) _ _ _,?_⟩;simp only [X.top,hp];exact ⟨fun _=>by omega,fun _=>by omega,fun _=>by omega,fun h=>absurd (by decide) h,fun h=>absurd (by decide) h,fun h=>absurd (by decide) h⟩
theorem Zx9 {l:List XN} (h:Zdb l≠0) {i:Nat} {n:XN} (hg:l[i]? = some n):PlOk i n:=by
 obtain ⟨x,hx,rfl⟩:=Zsg h
 have hi:i<x.size:=by rw [← X.row_len x 0];exact (List.getElem?_eq_some_iff.1 hg).1
 obtain ⟨y,b,h1,h2,h3,h4⟩:=Zf1 x i hi;rw [h4] at hg;cases hg;exact Zw9 hx h1 h2
end Go.Hs
end

section
namespace Go.Hs
open Go.Proofs
set_option maxRecDepth 10000
def ruleC:List V := .int .u8 0 :: .int .u8 0 :: .int .u8 0 :: .int .u8 0 :: .int .u8 0 :: .int .u8 0 :: .int .u8 0 :: .int .u8 1 :: .int .u8 0 :: .int .u8 0 :: .int .u8 0 :: .int .u8 1 :: .int .u8 0 :: .int .u8 0 :: .int .u8 0 :: .int .u8 2 :: .int .u8 0 :: .int .u8 0 :: .int .u8 0 :: .int .u8 2 :: .int .u8 1 :: .int .u8 0 :: .int .u8 0 :: .int .u8 1 :: .int .u8 2 :: .int .u8 0 :: .int .u8 0 :: .int .u8 2 :: .int .u8 1 :: .int .u8 1 :: .int .u8 0 :: .int .u8 1 :: .int .u8 1 :: .int .u8 1 :: .int .u8 0 :: .int .u8 1 :: .int .u8 1 :: .int .u8 1 :: .int .u8 0 :: .int .u8 1 :: .int .u8 1 :: .int .u8 1 :: .int .u8 0 :: .int .u8 1 :: .int .u8 1 :: .int .u8 1 :: .int .u8 0 :: .int .u8 1 :: .int .u8 1 :: .int .u8 1 :: .int .u8 0 :: .int .u8 2 :: .int .u8 1 :: .int .u8 1 :: .int .u8 0 :: .int .u8 2 :: .int .u8 1 :: .int .u8 1 :: .int .u8 0 :: .int .u8 2 :: .int .u8 1 :: .int .u8 1 :: .int .u8 0 :: .int .u8 2 :: .int .u8 3 :: .int .u8 3 :: .int .u8 0 :: .int .u8 2 :: .int .u8 3 :: .int .u8 3 :: .int .u8 0 :: .int .u8 2 :: .int .u8 2 :: .int .u8 2 :: .int .u8 0 :: .int .u8 2 :: .int .u8 2 :: .int .u8 2 :: .int .u8 0 :: .int .u8 2 :: .int .u8 2 :: .int .u8 2 :: .int .u8 0 :: .int .u8 2 :: .int .u8 2 :: .int .u8 2 :: .int .u8 0 :: .int .u8 2 :: .int .u8 2 :: .int .u8 3 :: .int .u8 3 :: .int .u8 3::[]
def Z6y (op:Nat):Int:=if op≤4 then 0 else if op=5∨(7≤op∧op≤15) then 1 else if op=16∨op=17 then 3 else 2
def Z15 (op:Nat):Int:=if op≤6 then 0 else if op≤15 then 1 else if op≤17∨op=22 then 3 else 2
def Z4y (op:Nat):Int:=if op=22 then 3 else 0
def Zt9 (op:Nat):Int:=if op=0 then 0 else if op≤2 then 1 else if op=22 then 3 else if op=5∨(7≤op∧op≤11) then 1 else 2
theorem Z05 (op:Nat) (h:op<23):(ruleC.drop (op * 4)).take 4=[.int .u8 (Z6y op),.int .u8 (Z15 op),.int .u8 (Z4y op),.int .u8 (Zt9 op)]:=by
 match op,h with
 | 0,_=>rfl
 | 1,_=>rfl
 | 2,_=>rfl
 | 3,_=>rfl
 | 4,_=>rfl
 | 5,_=>rfl
 | 6,_=>rfl
 | 7,_=>rfl
 | 8,_=>rfl
 | 9,_=>rfl
 | 10,_=>rfl
 | 11,_=>rfl
 | 12,_=>rfl
 | 13,_=>rfl
 | 14,_=>rfl
 | 15,_=>rfl
 | 16,_=>rfl
 | 17,_=>rfl
 | 18,_=>rfl
 | 19,_=>rfl
 | 20,_=>rfl
 | 21,_=>rfl
 | 22,_=>rfl
 | n+23,h=>omega
theorem Zwy (G:Nat→V) (hG:GOk G):Spec Tryz.prog G 156 [] Zl (fun v _=>v = .agg ruleC):=by
 refine Zo 0 39 [.cell 0 217] Tryz.func156 fun X=>?_;refine Z1 ?_;intro g0;refine Z1 ?_;intro g1 g2;refine Z1 ?_;intro g3 g4;exact Zr
end Go.Hs
end

section
namespace Go.Hs
open Go.Proofs
set_option maxRecDepth 10000
theorem Zew (G:Nat→V) (hG:GOk G) (c:Col) (t:List UInt8) (s:Sl (List UInt8)) (hs:s.l.length<1000000) :
  Spec Tryz.prog G 236 [.str t,Zd c 1 V.str s] Zl (fun v _=>v = .bool (s.l.contains t)):=by
 refine Zo 0 18 [.tmp 4] Tryz.func236 fun X=>?_;refine Z1 ?_;refine Z1 ?_;refine AW.block ?_
 refine Zua s.l.length (fun k (_:Unit)=>st [(0,.str t),(1,Zd c 1 V.str s),(5,.int .i64 k)] []) (fun k _=>(s.l.take k).contains t=false) 0 () (Nat.zero_le _) rfl
  (Zb zp zp) ?_
 intro k _ hk hR L2 hL2;refine Z1 ?_;refine Za rfl (fun h4=>?_) (fun h4=>?_)
 ·have hk1:k<s.l.length:=by simpa using h4
  have hg:=List.getElem?_eq_getElem hk1
  have htk:s.l.take (k+1)=s.l.take k++[s.l[k]]:=by rw [List.take_succ_eq_append_getElem hk1]
  have hmem:=List.getElem_mem hk1;generalize s.l[k]=x at hg htk hmem;refine Z1f hg ?_;refine Za rfl (fun h6=>?_) (fun h6=>?_)
  ·have h6:x=t:=by simpa using h6
   refine Z ?_
   have:s.l.contains t=true:=by rw [← h6];simpa using hmem
   rw [this]
  ·have h6:¬ x=t:=by simpa using h6
   refine Z1 ?_;refine hL2 _ ⟨hk1,(),?_,Zb zw zp⟩;rw [htk];simp only [List.contains_eq_mem,decide_eq_false_iff_not] at hR ⊢;intro hm
   rcases List.mem_append.1 hm with h | h
   ·exact hR h
   ·exact h6 ((List.mem_singleton.1 h).symm)
 ·have hk1:k=s.l.length:=by simp at h4;omega
  refine Z ?_;rw [hk1,List.take_length] at hR;rw [hR]
theorem Z1v (G:Nat→V) (hG:GOk G) (c:Col) (t:List UInt8) (s:Sl (List UInt8)) (hs:s.l.length<1000000) :
  Spec Tryz.prog G 92 [Zd c 1 V.str s,.str t] Zl (fun v _=>∃ i:Int,v = .int .i64 i∧decide (i≥0)=s.l.contains t):=by
 refine Zo 0 19 [.tmp 4] Tryz.func92 fun X=>?_;refine Z1 ?_;refine Z1 ?_;refine AW.block ?_
 refine Zua s.l.length (fun k (_:Unit)=>st [(0,Zd c 1 V.str s),(1,.str t),(7,.int .i64 s.l.length),(8,.int .i64 k)] []) (fun k _=>(s.l.take k).contains t=false) 0 () (Nat.zero_le _) rfl
  (Zb zp zp) ?_
 intro k _ hk hR L2 hL2;refine Z1 ?_;refine Zy ?_;refine Za rfl (fun h4=>?_) (fun h4=>?_)
 ·have hk1:k<s.l.length:=by simpa using h4
  have hg:=List.getElem?_eq_getElem hk1
  have htk:s.l.take (k+1)=s.l.take k++[s.l[k]]:=by rw [List.take_succ_eq_append_getElem hk1]
  have hmem:=List.getElem_mem hk1;generalize s.l[k]=x at hg htk hmem;refine Z1 ?_;refine Z1f hg ?_;refine Za rfl (fun h6=>?_) (fun h6=>?_)
  ·have h6:t=x:=by simpa using h6
   refine Z ?_
   have:s.l.contains t=true:=by rw [h6];simpa using hmem
   rw [this];exact ⟨_,rfl,by rw [decide_eq_true_iff];omega⟩
  ·have h6:¬ t=x:=by simpa using h6
   refine Z1 ?_;refine hL2 _ ⟨hk1,(),?_,Zb zw zp⟩;rw [htk];simp only [List.contains_eq_mem,decide_eq_false_iff_not] at hR ⊢;intro hm
   rcases List.mem_append.1 hm with h | h
   ·exact hR h
   ·exact h6 (List.mem_singleton.1 h)
 ·have hk1:k=s.l.length:=by simp at h4;omega
  refine Z ?_;rw [hk1,List.take_length] at hR;rw [hR];exact ⟨_,rfl,rfl⟩
theorem Zdj (G:Nat→V) (hG:GOk G) (c:Col) (t:List UInt8) (s:Sl (List UInt8)) (hs:s.l.length<1000000) :
  Spec Tryz.prog G 44 [Zd c 1 V.str s,.str t] Zl (fun v _=>v = .bool (s.l.contains t)):=by
 refine Zo 0 9 [.tmp 4] Tryz.func44 fun X=>?_;refine Z1 ?_;refine Z1 ?_;refine CallA.pure hG (by kernel_rfl) ?_;refine Zs ?_;refine (Z1v G hG _ t s hs).mono ?_;rintro _ _ ⟨i,rfl,hi⟩;refine Zs ?_;refine Z ?_;rw [hi]
theorem Zg9 (G:Nat→V) (hG:GOk G) (c:Col) (s:Sl Int) (hs:s.l.length<1000000) (i:Int) (hi:i<0∨0≤i∧i<s.l.length) :
  Spec Tryz.prog G 228 [.int .i64 i,.view .old (Zd c 1 (V.int .u8) s)] Zl (fun v _=>v = .int .u8 (plc s.l i)):=by
 refine Zo 0 10 [.tmp 3] Tryz.func228 fun X=>?_
 have hP:plc s.l i=if i<0 then 0 else s.l.getD i.toNat 0:=rfl
 generalize plc s.l i=res at hP ⊢;refine Z1 ?_;refine Z1 ?_;refine Za rfl (fun h2=>?_) (fun h2=>?_)
 ·have h2:i<0:=by simpa using h2
  rw [if_pos h2] at hP;refine Z ?_;rw [hP]
 ·have h2:¬ i<0:=by simpa using h2
  rw [if_neg h2] at hP;obtain ⟨m,rfl⟩:∃ m:Nat,i=m:=⟨i.toNat,by omega⟩
  have hm:m<s.l.length:=by omega
  have hg:=List.getElem?_eq_getElem hm
  have hgd:s.l.getD ((m:Nat):Int).toNat 0=s.l[m]:=by rw [Int.toNat_natCast,List.getD_eq_getElem?_getD,hg]<;>rfl
  rw [hgd] at hP;generalize s.l[m]=x at hg hP;refine Zf hg ?_;rw [hP]
end Go.Hs
end
