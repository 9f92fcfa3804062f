/- Part 49 of the proof of a statement of seat YtohdjmgdaaipaaaGreatDoor: HsHActL4 HsHActFn HsActKnL. -/
import Derived.Test.YtohdjmgdaaipaaaGreatDoorPart47
import Derived.Test.YtohdjmgdaaipaaaGreatDoorPart48
import Derived.Test.YtohdjmgdaaipaaaGreatDoorPart43
set_option linter.unusedSimpArgs false
set_option linter.unusedVariables false
section
namespace Go.Hs
open Go.Proofs
set_option maxRecDepth 10000
@[go_sem] theorem noMp_gwn {α : Type} (g:Nat) (f : α → V) (l:List α):(Zjb g f l).noMp=Zjb g f l:=by cases l<;>rfl
theorem flat_am (c:Col) (l:List ASt):flat ((amS l).l.map (Z6 c))=flat (l.map (Zsa c)):=by
 rw [Zug,List.map_map]<;>rfl
theorem Z1y (H:Heap) (c:Col) (l:List ASt):Z3a H 3 (Zd c 3 (Z6 c) (amS l))=some (l.length,flat (l.map (Zsa c))):=by
 rw [← flat_am]
 have hl:l.length=(amS l).l.length:=by rw [Zug,List.length_map]
 rw [hl]
 cases amS l with
 | nil=>rfl
 | mk b m=>simp [Zd,Z3a,Sl.l]
theorem Zre (H:Heap) (c:Col) (s:Sl (List UInt8)):Z3a H 1 (Zd c 1 V.str s)=some (s.l.length,flat (s.l.map V.str)):=by
 cases s with
 | nil=>rfl
 | mk b l=>simp [Zd,Z3a,Sl.l]
theorem Zgn {b:List ASt} {vars events:List (List UInt8)} (h:Zab b=0):((Zxf b vars events).2==0)=b.all (stT vars events):=by
 unfold Zxf;rw [if_neg (by rw [h];decide),Bool.eq_iff_iff,beq_iff_eq];exact Zrq b 0
theorem Z3aa {b:List ASt} {vars events more:List (List UInt8)} (hb:∀ s∈b,s.x=[]∨∃ x:X,x.ok=true∧x.depth≤64∧x.fit∧s.x=x.row 0) (h:b.all (stT vars events)=true):b.all (stT (more++vars) (more++events))=true:=by
 rw [List.all_eq_true] at h ⊢;exact fun s hs=>Zk9 (hb s hs) (h s hs)
theorem Zlp {s:List UInt8} (h:(Z0b s).2.2=0):∀ t∈(Z0b s).1,t.x=[]∨∃ x:X,x.ok=true∧x.depth≤64∧x.fit∧t.x=x.row 0:=by
 obtain ⟨l,b,_,g,_,e⟩:=Zdi h;rw [e];exact fun t ht=>(g.right t ht).2
theorem Z36 (G:Nat→V) (hE:GExp G) (a b:List UInt8) (vars events more:Sl (List UInt8)) (hv:vars.l.length≤9223372036854775807) (hev:events.l.length≤9223372036854775807) (hmo:more.l.length≤9223372036854775807) (c2 c3 c4:Col) :
  Spec Tryz.prog G 4 [.str a,.str b,Zd c2 1 V.str vars,Zd c3 1 V.str events,Zd c4 1 V.str more] Zl (fun v _=>v = .bool true):=by
 have hG:=hE.ok;refine Zkh 0 164 [.tmp 10] Tryz.func4 rfl rfl rfl rfl fun X0=>?_;refine Zh fun K hK=>AW.region (by kernel_rfl) ?_;simp -implicitDefEqProofs only[go_sem,seval,↓reduceIte];refine hK _ ?_;clear hK K;refine Zh fun K1 hK1=>?_
 by_cases hla:a.length > 300
 ·have q1:decide (((a.length:Nat):Int) > 300)=true:=by rw [decide_eq_true_iff];omega
  refine Zh fun K hK=>AW.region (by kernel_rfl) ?_;simp -implicitDefEqProofs only[go_sem,seval,↓reduceIte,q1];refine hK _ ?_;clear hK K;refine Za (by simp -implicitDefEqProofs only[go_sem,seval,↓reduceIte];rfl) (fun h53=>?_) (fun h53=>?_);rotate_left
  ·cases h53
  refine Zh fun K hK=>AW.region (by kernel_rfl) ?_;simp -implicitDefEqProofs only[go_sem,seval,↓reduceIte];refine CallA.pure hG (by kernel_rfl) ?_;simp -implicitDefEqProofs only[go_sem,seval,↓reduceIte,List.map_nil];refine (Zaa G hE).mono ?_;rintro _ _ rfl;simp -implicitDefEqProofs only[go_sem,seval,↓reduceIte];refine hK _ ?_;clear hK K;refine AW.ret ?_;simp -implicitDefEqProofs only[go_sem,seval,↓reduceIte];refine Zia ?_;rfl
 have q1:decide (((a.length:Nat):Int) > 300)=false:=by rw [decide_eq_false_iff_not];omega
 by_cases hlb:b.length > 300
 ·have q2:decide (((b.length:Nat):Int) > 300)=true:=by rw [decide_eq_true_iff];omega
  refine Zh fun K hK=>AW.region (by kernel_rfl) ?_;simp -implicitDefEqProofs only[go_sem,seval,↓reduceIte,q1,q2];refine hK _ ?_;clear hK K;refine Za (by simp -implicitDefEqProofs only[go_sem,seval,↓reduceIte];rfl) (fun h53=>?_) (fun h53=>?_);rotate_left
  ·cases h53
  refine Zh fun K hK=>AW.region (by kernel_rfl) ?_;simp -implicitDefEqProofs only[go_sem,seval,↓reduceIte];refine CallA.pure hG (by kernel_rfl) ?_;simp -implicitDefEqProofs only[go_sem,seval,↓reduceIte,List.map_nil];refine (Zaa G hE).mono ?_;rintro _ _ rfl;simp -implicitDefEqProofs only[go_sem,seval,↓reduceIte];refine hK _ ?_;clear hK K;refine AW.ret ?_;simp -implicitDefEqProofs only[go_sem,seval,↓reduceIte];refine Zia ?_;rfl
 have q2:decide (((b.length:Nat):Int) > 300)=false:=by rw [decide_eq_false_iff_not];omega
 refine Zh fun K hK=>AW.region (by kernel_rfl) ?_;simp -implicitDefEqProofs only[go_sem,seval,↓reduceIte,q1,q2];refine CallA.pure hG (by kernel_rfl) ?_;simp -implicitDefEqProofs only[go_sem,seval,↓reduceIte];refine (Zud G hG _ vars hv).mono ?_;rintro _ _ rfl
 cases q3:Zx8 vars.l with
 | false =>
  simp -implicitDefEqProofs only[go_sem,seval,↓reduceIte,q3];refine hK _ ?_;clear hK K;refine Za (by simp -implicitDefEqProofs only[go_sem,seval,↓reduceIte];rfl) (fun h53=>?_) (fun h53=>?_);rotate_left
  ·cases h53
  refine Zh fun K hK=>AW.region (by kernel_rfl) ?_;simp -implicitDefEqProofs only[go_sem,seval,↓reduceIte];refine CallA.pure hG (by kernel_rfl) ?_;simp -implicitDefEqProofs only[go_sem,seval,↓reduceIte,List.map_nil];refine (Zaa G hE).mono ?_;rintro _ _ rfl;simp -implicitDefEqProofs only[go_sem,seval,↓reduceIte];refine hK _ ?_;clear hK K;refine AW.ret ?_;simp -implicitDefEqProofs only[go_sem,seval,↓reduceIte];refine Zia ?_;rfl
 | true =>
 simp -implicitDefEqProofs only[go_sem,seval,↓reduceIte,q3];refine CallA.pure hG (by kernel_rfl) ?_;simp -implicitDefEqProofs only[go_sem,seval,↓reduceIte];refine (Zud G hG _ events hev).mono ?_;rintro _ _ rfl
 cases q4:Zx8 events.l with
 | false =>
  simp -implicitDefEqProofs only[go_sem,seval,↓reduceIte,q4];refine hK _ ?_;clear hK K;refine Za (by simp -implicitDefEqProofs only[go_sem,seval,↓reduceIte];rfl) (fun h53=>?_) (fun h53=>?_);rotate_left
  ·cases h53
  refine Zh fun K hK=>AW.region (by kernel_rfl) ?_;simp -implicitDefEqProofs only[go_sem,seval,↓reduceIte];refine CallA.pure hG (by kernel_rfl) ?_;simp -implicitDefEqProofs only[go_sem,seval,↓reduceIte,List.map_nil];refine (Zaa G hE).mono ?_;rintro _ _ rfl;simp -implicitDefEqProofs only[go_sem,seval,↓reduceIte];refine hK _ ?_;clear hK K;refine AW.ret ?_;simp -implicitDefEqProofs only[go_sem,seval,↓reduceIte];refine Zia ?_;rfl
 | true =>
 simp -implicitDefEqProofs only[go_sem,seval,↓reduceIte,q4];refine CallA.pure hG (by kernel_rfl) ?_;simp -implicitDefEqProofs only[go_sem,seval,↓reduceIte];refine (Zud G hG _ more hmo).mono ?_;rintro _ _ rfl
 cases q5:Zx8 more.l with
 | false =>
  simp -implicitDefEqProofs only[go_sem,seval,↓reduceIte,q5];refine hK _ ?_;clear hK K;refine Za (by simp -implicitDefEqProofs only[go_sem,seval,↓reduceIte];rfl) (fun h53=>?_) (fun h53=>?_);rotate_left
  ·cases h53
  refine Zh fun K hK=>AW.region (by kernel_rfl) ?_;simp -implicitDefEqProofs only[go_sem,seval,↓reduceIte];refine CallA.pure hG (by kernel_rfl) ?_;simp -implicitDefEqProofs only[go_sem,seval,↓reduceIte,List.map_nil];refine (Zaa G hE).mono ?_;rintro _ _ rfl;simp -implicitDefEqProofs only[go_sem,seval,↓reduceIte];refine hK _ ?_;clear hK K;refine AW.ret ?_;simp -implicitDefEqProofs only[go_sem,seval,↓reduceIte];refine Zia ?_;rfl
 | true =>
 simp -implicitDefEqProofs only[go_sem,seval,↓reduceIte,q5];refine hK _ ?_;clear hK K;refine Za (by simp -implicitDefEqProofs only[go_sem,seval,↓reduceIte];rfl) (fun h53=>?_) (fun h53=>?_)
 ·cases h53
 refine AW.skip ?_;simp -implicitDefEqProofs only[go_sem,seval,↓reduceIte];refine hK1 _ ?_;have hvl:=(Zbl q3).1;have hel:=(Zbl q4).1;have hml:=(Zbl q5).1;clear q1 q2 q3 q4 q5 hv hev hmo;have hbX:=Ztf (s:=a) (by omega);have hbY:=Ztf (s:=b) (by omega);have hjn:=fun ha hb=>Z47 (a:=a) (b:=b) ha hb (by omega);have hrX := @Zlp a;have hrY := @Zlp b;have hcX := @Zrf a;have hcY := @Zrf b;have hpX:Z0b a=Z0b a:=rfl;have hbZ:=Ztf (s:=a++10::b) (by simp only [List.length_append,List.length_cons];omega);have hcZ := @Zrf (a++10::b);generalize hxe:Z0b a=px at hbX hjn hrX hcX;generalize hye:Z0b b=py at hbY hjn hrY hcY;obtain ⟨xl,xw,xe⟩:=px;obtain ⟨yl,yw,ye⟩:=py;simp only at hbX hbY hjn hrX hrY hcX hcY;refine Zh fun K hK=>AW.region (by kernel_rfl) ?_;simp -implicitDefEqProofs only[go_sem,seval,↓reduceIte,hxe];refine CallA.pure hG (by kernel_rfl) ?_;simp -implicitDefEqProofs only[go_sem,seval,↓reduceIte];refine (Zeb G hE a (by omega)).mono ?_;rintro _ _ rfl;rw [hxe];simp -implicitDefEqProofs only[go_sem,seval,↓reduceIte,encBP,encABs,Zob,Zw];intro g11;refine hK _ ?_;clear hK K;refine Zh fun K hK=>AW.region (by kernel_rfl) ?_;simp -implicitDefEqProofs only[go_sem,seval,↓reduceIte,hye];refine CallA.pure hG (by kernel_rfl) ?_;simp -implicitDefEqProofs only[go_sem,seval,↓reduceIte];refine (Zeb G hE b (by omega)).mono ?_;rintro _ _ rfl;rw [hye];simp -implicitDefEqProofs only[go_sem,seval,↓reduceIte,encBP,encABs,Zob,Zw]
 intro g14;refine hK _ ?_;clear hK K;refine Zh fun K2 hK2=>?_
 by_cases hx0:xe=0
 rotate_left
 ·have q:(xe==0)=false:=by simpa using hx0
  refine Zh fun K hK=>AW.region (by kernel_rfl) ?_;simp -implicitDefEqProofs only[go_sem,seval,↓reduceIte,bne,q];refine hK _ ?_;clear hK K;refine Za (by simp -implicitDefEqProofs only[go_sem,seval,↓reduceIte];rfl) (fun h72=>?_) (fun h72=>?_);rotate_left
  ·cases h72
  refine Zh fun K hK=>AW.region (by kernel_rfl) ?_;simp -implicitDefEqProofs only[go_sem,seval,↓reduceIte];refine CallA.pure hG (by kernel_rfl) ?_;simp -implicitDefEqProofs only[go_sem,seval,↓reduceIte,List.map_nil];refine (Zaa G hE).mono ?_;rintro _ _ rfl;simp -implicitDefEqProofs only[go_sem,seval,↓reduceIte];refine hK _ ?_;clear hK K;refine AW.ret ?_;simp -implicitDefEqProofs only[go_sem,seval,↓reduceIte];refine Zia ?_;rfl
 by_cases hy0:ye=0
 rotate_left
 ·have q:(xe==0)=true:=by simpa using hx0
  have q':(ye==0)=false:=by simpa using hy0
  refine Zh fun K hK=>AW.region (by kernel_rfl) ?_;simp -implicitDefEqProofs only[go_sem,seval,↓reduceIte,bne,q,q'];refine hK _ ?_;clear hK K;refine Za (by simp -implicitDefEqProofs only[go_sem,seval,↓reduceIte];rfl) (fun h72=>?_) (fun h72=>?_);rotate_left
  ·cases h72
  refine Zh fun K hK=>AW.region (by kernel_rfl) ?_;simp -implicitDefEqProofs only[go_sem,seval,↓reduceIte];refine CallA.pure hG (by kernel_rfl) ?_;simp -implicitDefEqProofs only[go_sem,seval,↓reduceIte,List.map_nil];refine (Zaa G hE).mono ?_;rintro _ _ rfl;simp -implicitDefEqProofs only[go_sem,seval,↓reduceIte];refine hK _ ?_;clear hK K;refine AW.ret ?_;simp -implicitDefEqProofs only[go_sem,seval,↓reduceIte];refine Zia ?_;rfl
 have qx:(xe==0)=true:=by simpa using hx0
 have qy:(ye==0)=true:=by simpa using hy0
 refine Zh fun K hK=>AW.region (by kernel_rfl) ?_;simp -implicitDefEqProofs only[go_sem,seval,↓reduceIte,bne,qx,qy];refine hK _ ?_;clear hK K;refine Za (by simp -implicitDefEqProofs only[go_sem,seval,↓reduceIte];rfl) (fun h72=>?_) (fun h72=>?_)
 ·cases h72
 refine AW.skip ?_;simp -implicitDefEqProofs only[go_sem,seval,↓reduceIte];refine hK2 _ ?_;have hz:=hjn hx0 hy0;rw [hz] at hbZ hcZ;simp only at hbZ hcZ;have hcZ:=hcZ trivial;have hcX:=hcX hx0;have hcY:=hcY hy0;have hrX:=hrX hx0;have hrY:=hrY hy0
 refine AW.weak (Z2 (fun _=>false) (l:=[(0,.str a),(1,.str b),(2,Zd c2 1 V.str vars),(3,Zd c3 1 V.str events),(4,Zd c4 1 V.str more),(11,.ptr 11 g11 0),(14,.ptr 14 g14 0)])
  (m:=[(11,.cells .new g11 0 [Zd .new 3 (Z6 .new) (amS xl)]),(14,.cells .new g14 0 [Zd .new 3 (Z6 .new) (amS yl)])]) ?_ ?_) ?_
 ·simp -implicitDefEqProofs only[go_sem,seval,↓reduceIte]
  repeat' apply And.intro
  all_goals exact Ze _
 ·simp only [Zp,Zz,and_true]
  exact ⟨FzO.keep rfl (by simp -implicitDefEqProofs only[go_sem,seval,↓reduceIte];try rfl),FzO.keep rfl (by simp -implicitDefEqProofs only[go_sem,seval,↓reduceIte];try rfl)⟩
 have t1:¬ (((a.length+1:Nat):Int) > IntKind.i64.max):=Zog (by omega);have t2:¬ ((((a++[10]).length+b.length:Nat):Int) > IntKind.i64.max):=Zog (by rw [List.length_append];simp only [List.length_cons,List.length_nil];omega)
 have hab:a++[10]++b=a++10::b:=by simp
 refine Zh fun K hK=>AW.region (by kernel_rfl) ?_;simp -implicitDefEqProofs only[go_sem,seval,↓reduceIte,t1,t2];refine CallA.pure hG (by kernel_rfl) ?_;simp -implicitDefEqProofs only[go_sem,seval,↓reduceIte];refine (Zeb G hE (a++[10]++b) (by simp only [List.length_append,List.length_cons,List.length_nil];omega)).mono ?_;rintro _ _ rfl;rw [hab,hz];simp -implicitDefEqProofs only[go_sem,seval,↓reduceIte,encBP,encABs,Zob,Zw];intro g17;refine hK _ ?_;clear hK K;refine Zh fun K3 hK3=>?_
 have hlx:(amS xl).l.length=xl.length:=by rw [Zug,List.length_map]
 have hly:(amS yl).l.length=yl.length:=by rw [Zug,List.length_map]
 have hlz:(amS (xl++yl)).l.length=xl.length+yl.length:=by rw [Zug,List.length_map,List.length_append]
 have hxk:=hbX.k;have hyk:=hbY.k
 have qlen:(((amS (xl++yl)).l.length:Int)==IntKind.i64.wrap (((amS xl).l.length:Int)+((amS yl).l.length:Int)))=true:=by
  rw [beq_iff_eq,hlx,hly,hlz,w64 (by omega) (by omega)];omega
 refine Zh fun K hK=>AW.region (by kernel_rfl) ?_;simp -implicitDefEqProofs only[go_sem,seval,↓reduceIte,bne,qlen];refine hK _ ?_;clear hK K;refine Za (by simp -implicitDefEqProofs only[go_sem,seval,↓reduceIte];rfl) (fun h97=>?_) (fun h97=>?_)
 ·cases h97
 refine AW.skip ?_;simp -implicitDefEqProofs only[go_sem,seval,↓reduceIte];refine hK3 _ ?_;have hxx:∀ y∈(amS xl).l,y.x.l.length<1000000:=fun y hy=>(hbX.amb y hy).l;have hyx:∀ y∈(amS yl).l,y.x.l.length<1000000:=fun y hy=>(hbY.amb y hy).l;have hzx:∀ y∈(amS (xl++yl)).l,y.x.l.length<1000000:=fun y hy=>(hbZ.amb y hy).l
 refine Z9 (fun (_:Unit)=>st [(2,Zd c2 1 V.str vars),(3,Zd c3 1 V.str events),(4,Zd c4 1 V.str more),(11,.ptr 11 g11 0),(14,.ptr 14 g14 0),(17,.ptr 17 g17 0),(20,Zd .new 3 (Z6 .new) (amS (xl++yl)))]
  [(11,.cells .new g11 0 [Zd .new 3 (Z6 .new) (amS xl)]),(14,.cells .new g14 0 [Zd .new 3 (Z6 .new) (amS yl)]),(17,.cells .new g17 0 [Zd .new 3 (Z6 .new) (amS (xl++yl))])]) (fun _=>True) (fun K4 hK4=>?_) ?_
 ·refine Zy4 [0,2,1,3,4,5] [(29,.ptr 14 g14 0,.agg [Zd .new 3 (Z6 .new) (amS yl)])] ⟨fun i=>if i=2 then .agg [Zd .new 3 (Z6 .new) (amS yl)] else if i=3 then Zd .new 3 (Z6 .new) (amS yl) else .top,fun i=>if i=1 then .any else if i=2 then .keep else .pure⟩ (by kernel_rfl) hG (by kernel_rfl) (by kernel_rfl) (by kernel_rfl) (by kernel_rfl) ?_
  simp -implicitDefEqProofs only[go_sem,seval,↓reduceIte,List.getElem?_cons_zero,List.getElem?_cons_succ];refine CallA.inl [(7061,.dead)] (by kernel_rfl) ?_ ?_
  ·intro p hp
   rw [List.mem_singleton] at hp;subst hp;simp -implicitDefEqProofs only[go_sem,seval,↓reduceIte]
  refine (Zlv G hG _ _ (amS xl) hbX.len hxx).mono ?_;rintro _ H' ⟨g61,rfl,q⟩;rw [Zqh] at q ⊢;simp only [List.map_cons,List.map_nil,q];simp -implicitDefEqProofs only[go_sem,seval,↓reduceIte,Zub,Z1y];refine ⟨⟨by kernel_rfl,?_⟩,?_⟩
  ·simp -implicitDefEqProofs only[go_sem,seval,↓reduceIte,Zw,List.map_cons,List.map_nil]
   exact (Zmc G hG _ _ (amS yl) hbY.len hyx).mono fun v _ e=>by rw [e,Zqh,Ztm]
  refine Z7e (f:=Zsa .new) (l:=xl) (l2:=yl) (o:=7061) (g:=g61) (Zxa _) rfl rfl rfl (by simp -implicitDefEqProofs only[go_sem,seval,↓reduceIte];try rfl) (Zda (by omega) (by omega)) fun o2 g2 ho2=>?_;have ho2:o2=7061∨o2=102:=ho2
  rcases ho2 with rfl | rfl
  ·simp -implicitDefEqProofs only[go_sem,seval,↓reduceIte]
   refine hK4 _ () trivial (Z2 (fun o=>o==7061) ?_ ?_)
   ·simp -implicitDefEqProofs only[go_sem,seval,↓reduceIte]
    refine ⟨Ze _,Ze _,Ze _,Ze _,Ze _,Ze _,?_⟩;rw [← Zob .new (xl++yl)];exact Zyb rfl (by simp -implicitDefEqProofs only[go_sem,seval,↓reduceIte];try rfl) (Zxa _)
   ·simp only [Zp,Zz,and_true]
    exact ⟨FzO.keep rfl (by simp -implicitDefEqProofs only[go_sem,seval,↓reduceIte];try rfl),FzO.keep rfl (by simp -implicitDefEqProofs only[go_sem,seval,↓reduceIte];try rfl),FzO.keep rfl (by simp -implicitDefEqProofs only[go_sem,seval,↓reduceIte];try rfl)⟩
  ·simp -implicitDefEqProofs only[go_sem,seval,↓reduceIte]
   refine hK4 _ () trivial (Z2 (fun o=>o==102) ?_ ?_)
   ·simp -implicitDefEqProofs only[go_sem,seval,↓reduceIte]
    refine ⟨Ze _,Ze _,Ze _,Ze _,Ze _,Ze _,?_⟩;rw [← Zob .new (xl++yl)];exact Zyb rfl (by simp -implicitDefEqProofs only[go_sem,seval,↓reduceIte];try rfl) (Zxa _)
   ·simp only [Zp,Zz,and_true]
    exact ⟨FzO.keep rfl (by simp -implicitDefEqProofs only[go_sem,seval,↓reduceIte];try rfl),FzO.keep rfl (by simp -implicitDefEqProofs only[go_sem,seval,↓reduceIte];try rfl),FzO.keep rfl (by simp -implicitDefEqProofs only[go_sem,seval,↓reduceIte];try rfl)⟩
 intro _ _;refine Zh fun K5 hK5=>?_;refine Zh fun K hK=>AW.region (by kernel_rfl) ?_;simp -implicitDefEqProofs only[go_sem,seval,↓reduceIte];refine CallA.pure hG (by kernel_rfl) ?_;simp -implicitDefEqProofs only[go_sem,seval,↓reduceIte,Zw];refine (Zmc G hG _ _ (amS (xl++yl)) hbZ.len hzx).mono ?_;rintro _ _ rfl;rw [Zqh,Ztm];refine CallA.pure hG (by kernel_rfl) ?_;simp -implicitDefEqProofs only[go_sem,seval,↓reduceIte,Zw];refine (Z9i G hG _ _ _ _ (amS (xl++yl)) (amS (xl++yl)) hbZ.len hzx).mono ?_;rintro _ _ rfl
 have ezz:((amS (xl++yl)).l.map AM.v==(amS (xl++yl)).l.map AM.v)=true:=by simp
 rw [ezz];simp -implicitDefEqProofs only[go_sem,seval,↓reduceIte];refine hK _ ?_;clear hK K;refine Za (by simp -implicitDefEqProofs only[go_sem,seval,↓reduceIte];rfl) (fun h107=>?_) (fun h107=>?_)
 ·cases h107
 refine AW.skip ?_;simp -implicitDefEqProofs only[go_sem,seval,↓reduceIte];refine hK5 _ ?_;have tz:=Zgn (vars:=vars.l) (events:=events.l) hcZ;have tx:=Zgn (vars:=vars.l) (events:=events.l) hcX;have ty:=Zgn (vars:=vars.l) (events:=events.l) hcY;have tm:=Zgn (vars:=more.l++vars.l) (events:=more.l++events.l) hcZ
 have hmore:=Z3aa (b:=xl++yl) (vars:=vars.l) (events:=events.l) (more:=more.l) (fun t ht=>by
  rcases List.mem_append.1 ht with ht | ht
  ·exact hrX t ht
  ·exact hrY t ht)
 rw [List.all_append] at tz hmore;generalize hA:xl.all (stT vars.l events.l)=A at tz tx hmore;generalize hB:yl.all (stT vars.l events.l)=B at tz ty hmore;generalize hzt:Zxf (xl++yl) vars.l events.l=rz at tz;generalize hxt:Zxf xl vars.l events.l=rx at tx;generalize hyt:Zxf yl vars.l events.l=ry at ty;obtain ⟨zn,ze⟩:=rz;obtain ⟨xn,xe2⟩:=rx;obtain ⟨yn,ye2⟩:=ry;simp only at tz tx ty;refine Zh fun K hK=>AW.region (by kernel_rfl) ?_;simp -implicitDefEqProofs only[go_sem,seval,↓reduceIte];refine CallA.pure hG (by kernel_rfl) ?_;simp -implicitDefEqProofs only[go_sem,seval,↓reduceIte,Zw];refine (Zfe G hE _ _ _ _ (amS (xl++yl)) vars events hbZ.len hbZ.amb (by omega) (by omega)).mono ?_;rintro _ _ rfl;rw [Zqh,hzt];simp -implicitDefEqProofs only[go_sem,seval,↓reduceIte,encTy];refine hK _ ?_;clear hK K;refine Zh fun K hK=>AW.region (by kernel_rfl) ?_;simp -implicitDefEqProofs only[go_sem,seval,↓reduceIte];refine CallA.pure hG (by kernel_rfl) ?_;simp -implicitDefEqProofs only[go_sem,seval,↓reduceIte,Zw];refine (Zfe G hE _ _ _ _ (amS xl) vars events hbX.len hbX.amb (by omega) (by omega)).mono ?_;rintro _ _ rfl;rw [Zqh,hxt];simp -implicitDefEqProofs only[go_sem,seval,↓reduceIte,encTy];refine hK _ ?_;clear hK K;refine Zh fun K hK=>AW.region (by kernel_rfl) ?_;simp -implicitDefEqProofs only[go_sem,seval,↓reduceIte];refine CallA.pure hG (by kernel_rfl) ?_;simp -implicitDefEqProofs only[go_sem,seval,↓reduceIte,Zw];refine (Zfe G hE _ _ _ _ (amS yl) vars events hbY.len hbY.amb (by omega) (by omega)).mono ?_
 rintro _ _ rfl;rw [Zqh,hyt];simp -implicitDefEqProofs only[go_sem,seval,↓reduceIte,encTy];refine hK _ ?_;clear hK K;refine Z9 (fun (_:Unit)=>st [(2,Zd c2 1 V.str vars),(3,Zd c3 1 V.str events),(4,Zd c4 1 V.str more),(17,.ptr 17 g17 0),(22,.int .i64 ze)] [(17,.cells .new g17 0 [Zd .new 3 (Z6 .new) (amS (xl++yl))])]) (fun _=>True) (fun K7 hK7=>?_) ?_
 ·cases A with
  | false =>
   have tz:(ze==0)=false:=tz;refine Zh fun K hK=>AW.region (by kernel_rfl) ?_;simp -implicitDefEqProofs only[go_sem,seval,↓reduceIte,tz,tx,ty];refine hK _ ?_;clear hK K;refine Za (by simp -implicitDefEqProofs only[go_sem,seval,↓reduceIte];rfl) (fun h137=>?_) (fun h137=>?_)
   ·cases h137
   refine AW.skip ?_;simp -implicitDefEqProofs only[go_sem,seval,↓reduceIte];exact hK7 _ () trivial (Zb (by simp -implicitDefEqProofs only[go_sem,seval,↓reduceIte];try rfl) (by simp -implicitDefEqProofs only[go_sem,seval,↓reduceIte];try rfl))
  | true =>
  cases B with
  | false =>
   have tz:(ze==0)=false:=tz;refine Zh fun K hK=>AW.region (by kernel_rfl) ?_;simp -implicitDefEqProofs only[go_sem,seval,↓reduceIte,tz,tx,ty];refine hK _ ?_;clear hK K;refine Za (by simp -implicitDefEqProofs only[go_sem,seval,↓reduceIte];rfl) (fun h137=>?_) (fun h137=>?_)
   ·cases h137
   refine AW.skip ?_;simp -implicitDefEqProofs only[go_sem,seval,↓reduceIte];exact hK7 _ () trivial (Zb (by simp -implicitDefEqProofs only[go_sem,seval,↓reduceIte];try rfl) (by simp -implicitDefEqProofs only[go_sem,seval,↓reduceIte];try rfl))
  | true =>
   have tz:(ze==0)=true:=tz;refine Zh fun K hK=>AW.region (by kernel_rfl) ?_;simp -implicitDefEqProofs only[go_sem,seval,↓reduceIte,tz,tx,ty];refine hK _ ?_;clear hK K;refine Za (by simp -implicitDefEqProofs only[go_sem,seval,↓reduceIte];rfl) (fun h137=>?_) (fun h137=>?_)
   ·cases h137
   refine AW.skip ?_;simp -implicitDefEqProofs only[go_sem,seval,↓reduceIte];exact hK7 _ () trivial (Zb (by simp -implicitDefEqProofs only[go_sem,seval,↓reduceIte];try rfl) (by simp -implicitDefEqProofs only[go_sem,seval,↓reduceIte];try rfl))
 intro _ _
 have hF:∀ o2:Nat,(o2=140∨o2=142∨o2=145∨o2=147)→o2≠17:=by intro o2 h;omega
 refine Zh fun K hK=>AW.region (by kernel_rfl) ?_;simp -implicitDefEqProofs only[go_sem,seval,↓reduceIte];refine hK _ ?_;clear hK K;refine Z9 (fun (N:Sl (List UInt8))=>st [(3,Zd c3 1 V.str events),(4,Zd c4 1 V.str more),(17,.ptr 17 g17 0),(22,.int .i64 ze),(27,Zd .new 1 V.str N),(28,.nils)] [(17,.cells .new g17 0 [Zd .new 3 (Z6 .new) (amS (xl++yl))])]) (fun N=>N.l=more.l++vars.l) (fun K8 hK8=>?_) ?_
 ·refine AW.region (by kernel_rfl) ?_
  simp -implicitDefEqProofs only[go_sem,seval,↓reduceIte,Zre];refine Zpb (f:=V.str) (l:=([]:List (List UInt8))) (l2:=more.l) (g:=0) (fun _=>rfl) rfl rfl rfl (by simp -implicitDefEqProofs only[go_sem,seval,↓reduceIte];try rfl) (Zda (by omega) (by simp;omega)) fun ga=>?_;rw [List.nil_append];simp -implicitDefEqProofs only[go_sem,seval,↓reduceIte,Zre];refine Z7e (f:=V.str) (l:=more.l) (l2:=vars.l) (o:=140) (g:=ga) (fun _=>rfl) rfl rfl rfl (by simp -implicitDefEqProofs only[go_sem,seval,↓reduceIte];try rfl) (Zda (by omega) (by omega)) fun o2 gb ho2=>?_;have ho2:o2=140∨o2=142:=ho2;have hne:=hF o2 (by omega);simp -implicitDefEqProofs only[go_sem,seval,↓reduceIte];refine hK8 _ (Zea (more.l++vars.l)) (Zza _) (Z2 (fun o=>decide (o2=o)) ?_ ?_)
  ·simp -implicitDefEqProofs only[go_sem,seval,↓reduceIte]
   refine ⟨Ze _,Ze _,Ze _,Ze _,?_,Ze _⟩;exact Zyb (by simp) (by simp -implicitDefEqProofs only[go_sem,seval,↓reduceIte];try rfl) (fun _=>rfl)
  ·simp only [Zp,Zz,and_true]
   exact FzO.keep (by simpa using hne) (by simp -implicitDefEqProofs only[go_sem,seval,↓reduceIte,hne,hne.symm];try rfl)
 intro N1 hN1;refine Z9 (fun (N:Sl (List UInt8))=>st [(17,.ptr 17 g17 0),(22,.int .i64 ze),(27,Zd .new 1 V.str N1),(28,Zd .new 1 V.str N)] [(17,.cells .new g17 0 [Zd .new 3 (Z6 .new) (amS (xl++yl))])]) (fun N=>N.l=more.l++events.l) (fun K8 hK8=>?_) ?_
 ·refine AW.region (by kernel_rfl) ?_
  simp -implicitDefEqProofs only[go_sem,seval,↓reduceIte,Zre];refine Zpb (f:=V.str) (l:=([]:List (List UInt8))) (l2:=more.l) (g:=0) (fun _=>rfl) rfl rfl rfl (by simp -implicitDefEqProofs only[go_sem,seval,↓reduceIte];try rfl) (Zda (by omega) (by simp;omega)) fun ga=>?_;rw [List.nil_append];simp -implicitDefEqProofs only[go_sem,seval,↓reduceIte,Zre];refine Z7e (f:=V.str) (l:=more.l) (l2:=events.l) (o:=145) (g:=ga) (fun _=>rfl) rfl rfl rfl (by simp -implicitDefEqProofs only[go_sem,seval,↓reduceIte];try rfl) (Zda (by omega) (by omega)) fun o2 gb ho2=>?_;have ho2:o2=145∨o2=147:=ho2;have hne:=hF o2 (by omega);simp -implicitDefEqProofs only[go_sem,seval,↓reduceIte];refine hK8 _ (Zea (more.l++events.l)) (Zza _) (Z2 (fun o=>decide (o2=o)) ?_ ?_)
  ·simp -implicitDefEqProofs only[go_sem,seval,↓reduceIte]
   refine ⟨Ze _,Ze _,Ze _,?_⟩;exact Zyb (by simp) (by simp -implicitDefEqProofs only[go_sem,seval,↓reduceIte];try rfl) (fun _=>rfl)
  ·simp only [Zp,Zz,and_true]
   exact FzO.keep (by simpa using hne) (by simp -implicitDefEqProofs only[go_sem,seval,↓reduceIte,hne,hne.symm];try rfl)
 intro N2 hN2;rw [← hN1,← hN2] at tm hmore
 have hN1l:N1.l.length<100000:=by rw [hN1,List.length_append];omega
 have hN2l:N2.l.length<100000:=by rw [hN2,List.length_append];omega
 generalize hmt:Zxf (xl++yl) N1.l N2.l=rm at tm;obtain ⟨mn,me⟩:=rm;simp only at tm;refine Zh fun K hK=>AW.region (by kernel_rfl) ?_;simp -implicitDefEqProofs only[go_sem,seval,↓reduceIte];refine CallA.pure hG (by kernel_rfl) ?_;simp -implicitDefEqProofs only[go_sem,seval,↓reduceIte,Zw];refine (Zfe G hE _ _ _ _ (amS (xl++yl)) N1 N2 hbZ.len hbZ.amb (by omega) (by omega)).mono ?_;rintro _ _ rfl;rw [Zqh,hmt];simp -implicitDefEqProofs only[go_sem,seval,↓reduceIte,encTy];refine hK _ ?_;clear hK K
 cases qz:(ze==0) with
 | false =>
  refine Zh fun K hK=>AW.region (by kernel_rfl) ?_;simp -implicitDefEqProofs only[go_sem,seval,↓reduceIte,bne,qz];refine CallA.pure hG (by kernel_rfl) ?_;simp -implicitDefEqProofs only[go_sem,seval,↓reduceIte,List.map_nil];refine (Zaa G hE).mono ?_;rintro _ _ rfl;simp -implicitDefEqProofs only[go_sem,seval,↓reduceIte];refine hK _ ?_;clear hK K;refine AW.ret ?_;simp -implicitDefEqProofs only[go_sem,seval,↓reduceIte];refine Zia ?_;rfl
 | true =>
  have qm:(me==0)=true:=by rw [tm];exact hmore (by rw [← tz,qz])
  refine Zh fun K hK=>AW.region (by kernel_rfl) ?_;simp -implicitDefEqProofs only[go_sem,seval,↓reduceIte,bne,qz,qm];refine CallA.pure hG (by kernel_rfl) ?_;simp -implicitDefEqProofs only[go_sem,seval,↓reduceIte,List.map_nil];refine (Zaa G hE).mono ?_;rintro _ _ rfl;simp -implicitDefEqProofs only[go_sem,seval,↓reduceIte];refine hK _ ?_;clear hK K;refine AW.ret ?_;simp -implicitDefEqProofs only[go_sem,seval,↓reduceIte];refine Zia ?_;rfl
end Go.Hs
end

section
namespace Go.Hs
open Go.Proofs
set_option maxRecDepth 10000
theorem Z45 {l:List Tk} {i:Nat} {acc:List ASt} (h:(rdS l i acc).1=false):(rdS l i acc).2.1.e≠0:=by
 unfold rdS at h ⊢
 by_cases h5:acc.length=512
 ·rw [if_pos h5];show (3:Int)≠0;decide
 rw [if_neg h5] at h ⊢;simpa using h
theorem Z4m (G:Nat→V) (hE:GExp G) (s:List UInt8) (hs:s.length<100000) {b:List ASt} (hb:Z0b s=(b,0,0)) :
  InSp Tryz.prog G 14 [.str s] (Zub Zl [(1038,.dead)]) (fun v H'=>∃ g,v = .tuple [.agg [grown 1038 g 3 b],.int .i64 0,.int .i64 0]∧H' 1038=sdO g b):=by
 have hG:=hE.ok;refine Zye 0 69 [.cell 2 29,.tmp 3,.tmp 4] Tryz.func14 rfl rfl rfl rfl fun X=>?_
 have hP:Z0b s=if (Zbb s).2.2≠0 then (([]:List ASt),(Zbb s).2.1,(Zbb s).2.2) else Z1d (Zbb s).1 s.length ((Zbb s).1.length+1) 0 []:=rfl
 rw [hb] at hP;have hT:=Zvy hs;have hl:=Zym G hE s hs;generalize Zbb s=p at hP hT hl;obtain ⟨l,at0,e0⟩:=p;simp only at hP hT;have hTl:=hT.len;refine Z1 ?_;intro g2;refine Z1 ?_;refine Zn hG ?_ (s:=hl);refine Zsf (zi @encTok.eq_1 (zi @encTks.eq_1 @Z2a)) ?_;have hS:(Zea l).l=l:=Zza l;generalize Zea l=S at hS;subst hS;refine Zy ?_
 by_cases he:e0=0
 rotate_left
 ·rw [if_pos he] at hP
  exact absurd (Prod.mk.inj (Prod.mk.inj hP).2).2.symm he
 rw [if_neg (by simpa using he)] at hP
 have q1:(e0==0)=true:=by simpa using he
 refine Zdc (by kernel_rfl) ?_;simp -implicitDefEqProofs only[go_sem,seval,↓reduceIte,bne,q1];refine Z1 ?_;intro g21;refine AW.weak (Z2 (fun _=>false) (l:=[(0,.str s),(2,.ptr 2 g2 0),(5,Zd .new 3 Z8a S),(6,.ptr 21 g21 0)]) (m:=[(2,.cells .new g2 0 [.nils]),(21,cuO S g21 .nils ⟨0,0⟩)]) ?_ ?_) ?_
 ·refine Zs ?_
  exact ⟨Ze _,Ze _,Ze _,Ze _⟩
 ·simp only [Zp,Zz,and_true]
  exact ⟨FzO.keep rfl zp,Zjy (c := .new) (fz:=0) (cs:=[Zd .new 3 Z8a S,.int .i64 0,.int .i64 0,.nils]) rfl zp ⟨Fz.any (zpf @Z2a),Ze _,Ze _,Ze _,trivial⟩⟩
 refine Zy ?_;refine AW.block ?_
 refine Zwc (fun (x:(Nat × Nat) × List ASt)=>st [(0,.str s),(2,.ptr 2 g2 0),(5,Zd .new 3 Z8a S),(6,.ptr 21 g21 0)] [(2,.cells .new g2 0 [.nils]),(21,cuO S g21 (grown 1038 x.1.1 3 x.2) ⟨x.1.2,0⟩),(1038,sdO x.1.1 x.2)])
  (fun x=>x.1.2≤S.l.length∧x.2.length≤512∧∃ f,S.l.length<f+x.1.2∧Z1d S.l s.length f x.1.2 x.2=(b,0,0)) (fun x=>S.l.length-x.1.2) ((0,0),[]) ⟨Nat.zero_le _,Nat.zero_le _,S.l.length+1,Nat.lt_succ_self _,hP.symm⟩
  (Zb zp (by simp -implicitDefEqProofs only[go_sem,seval,↓reduceIte];first | rfl | exact ⟨rfl,rfl⟩)) ?_
 rintro ⟨⟨gx,i⟩,acc⟩ ⟨hi,hac,f,hf,hR⟩ L3 hL3;simp only at hi hac hf hR;refine Zy ?_
 cases f with
 | zero=>omega
 | succ f =>
 refine Z1f @Zph ?_;refine Za rfl (fun h29=>?_) (fun h29=>?_);rotate_left
 ·have hil:S.l.length≤i:=by have:=zN h29;omega
  rw [Z1d,if_pos hil] at hR;refine Z ?_;have hb2:=(Prod.mk.inj hR).1;subst hb2;exact ⟨gx,by simp -implicitDefEqProofs only[go_sem,seval,↓reduceIte];try rfl,by simp -implicitDefEqProofs only[go_sem,seval,↓reduceIte];try rfl⟩
 have hil:i<S.l.length:=zL h29;rw [Zq2 hil] at hR;refine Z0 ?_;refine AW.block ?_;have hst:=Zii G hE S hT g21 i hil acc hac gx;have hrt := @Zt1 S.l i acc;have hrf := @Z45 S.l i acc;generalize rdS S.l i acc=q at hR hst hrt hrf;obtain ⟨b,⟨j,e⟩,acc'⟩:=q;simp only at hR hst hrt hrf;refine Z1 ?_;refine CallA.inl [(21,cuO S g21 (grown 1038 gx 3 acc) ⟨i,0⟩),(1038,sdO gx acc)] (by kernel_rfl) ?_ ?_
 ·intro p hp
  simp only [List.mem_cons,List.not_mem_nil,or_false] at hp
  rcases hp with rfl | rfl
  ·simp -implicitDefEqProofs only[go_sem,seval,↓reduceIte];try rfl
  ·simp -implicitDefEqProofs only[go_sem,seval,↓reduceIte];try rfl
 refine hst.mono ?_;rintro _ H' ⟨rfl,gx',q21,q1038⟩;simp only [List.map_cons,List.map_nil,q21,q1038]
 cases b with
 | true =>
  obtain ⟨rfl,hj,hjl,hal,ha5⟩:=hrt rfl;rw [if_neg (by decide)] at hR;refine Zu ?_;refine Z0 ?_;refine hL3 _ ⟨((gx',j),acc'),?_,⟨?_,?_,f,?_,hR⟩,Zb zp zp⟩
  ·show S.l.length-j<S.l.length-i;omega
  ·show j≤_;omega
  ·show acc'.length≤_;omega
  ·show S.l.length<f+j;omega
 | false =>
  rw [if_pos rfl] at hR;exact absurd (Prod.mk.inj (Prod.mk.inj hR).2).2 (hrf rfl)
end Go.Hs
end

section
namespace Go.Hs
set_option maxRecDepth 10000
theorem Z1g {S u:List UInt8} {i k kd b:Nat} {acc:List Tk} (hd:S.drop i=u) (hi:i<S.length) (hf:Zba u=(k,kd)) (hk:k≠0) (hk2:k≤64) (hb:blk (u.drop k)=b) :
  Z3b (S.length+1) S i acc=Z3b (S.length+1) S (i+k+b) (acc++[⟨kd,u.take k,i⟩]):=by
 rw [Zgg hi (by omega) (by rw [hd,hf];simp only;omega),hd,hf];simp only;rw [← List.drop_drop,hd,hb]
def Z52:List UInt8:=[101,109,105,116,32,101,40,41,59]
def tkU (i:Nat):List Tk:=[⟨3,Zmd,i⟩,⟨2,[101],((i+5:Nat):Int)⟩,⟨4,[40],((i+6:Nat):Int)⟩,⟨4,[41],((i+7:Nat):Int)⟩,⟨4,[59],((i+8:Nat):Int)⟩]
theorem f_emit (r:List UInt8):Zba (101::109::105::116::32::r)=(4,3):=by rfl
theorem f_e (r:List UInt8):Zba (101::40::r)=(1,2):=by rfl
theorem f_op (r:List UInt8):Zba (40::r)=(1,4):=by rfl
theorem f_cl (r:List UInt8):Zba (41::r)=(1,4):=by rfl
theorem f_sc (r:List UInt8):Zba (59::r)=(1,4):=by rfl
theorem Za5 {S r:List UInt8} {i:Nat} {acc:List Tk} (hd:S.drop i=Z52++r) :
  Z3b (S.length+1) S (i+blk (S.drop i)) acc=Z3b (S.length+1) S (i+9+blk (S.drop (i+9))) (acc++tkU i):=by
 have hl:S.length-i=r.length+9:=by rw [← List.length_drop,hd,List.length_append];simp only [Z52,List.length_cons,List.length_nil];omega
 have d0:S.drop i=101::109::105::116::32::101::40::41::59::r:=hd
 have d5:S.drop (i+5)=101::40::41::59::r:=by rw [← List.drop_drop,d0];rfl
 have d6:S.drop (i+6)=40::41::59::r:=by rw [← List.drop_drop,d0];rfl
 have d7:S.drop (i+7)=41::59::r:=by rw [← List.drop_drop,d0];rfl
 have d8:S.drop (i+8)=59::r:=by rw [← List.drop_drop,d0];rfl
 have d9:S.drop (i+9)=r:=by rw [← List.drop_drop,d0];rfl
 have b0:blk (S.drop i)=0:=by rw [d0];rfl
 rw [show i+blk (S.drop i)=i by rw [b0];rfl,Z1g d0 (by omega) (f_emit _) (by decide) (by decide) (b:=1) rfl];rw [show i+4+1=i+5 by omega,Z1g d5 (by omega) (f_e _) (by decide) (by decide) (b:=0) rfl];rw [show i+5+1+0=i+6 by omega,Z1g d6 (by omega) (f_op _) (by decide) (by decide) (b:=0) rfl];rw [show i+6+1+0=i+7 by omega,Z1g d7 (by omega) (f_cl _) (by decide) (by decide) (b:=0) rfl];rw [show i+7+1+0=i+8 by omega,Z1g d8 (by omega) (f_sc _) (by decide) (by decide) (b:=blk r) rfl];rw [show i+8+1+blk r=i+9+blk (S.drop (i+9)) by rw [d9]];simp only [List.append_assoc];rfl
def Z9g:Nat→List UInt8
 | 0=>[]
 | n+1=>Z9g n++Z52
theorem Zvj:∀ n,Z9g (n+1)=Z52++Z9g n
 | 0=>rfl
 | n+1=>by rw [show Z9g (n+1+1)=Z9g (n+1)++Z52 from rfl,Zvj n,List.append_assoc];rw [← Zvj n];rfl
theorem Zxh:∀ n,(Z9g n).length=9 * n
 | 0=>rfl
 | n+1=>by rw [Z9g,List.length_append,Zxh n];rfl
def Zq8:Nat→Nat→List Tk
 | 0,_=>[]
 | n+1,i=>tkU i++Zq8 n (i+9)
theorem Za1:∀ n i,(Zq8 n i).length=5 * n
 | 0,_=>rfl
 | n+1,i=>by rw [Zq8,List.length_append,Za1 n];simp only [tkU,List.length_cons,List.length_nil];omega
theorem Zxo {S r:List UInt8}:∀ (n i:Nat) (acc:List Tk),S.drop i=Z9g n++r →
  Z3b (S.length+1) S (i+blk (S.drop i)) acc=Z3b (S.length+1) S (i+9 * n+blk (S.drop (i+9 * n))) (acc++Zq8 n i)
 | 0,i,acc,_=>by simp [Zq8]
 | n+1,i,acc,h=>by
  have h2:S.drop i=Z52++(Z9g n++r):=by rw [h,Zvj,List.append_assoc]
  have h3:S.drop (i+9)=Z9g n++r:=by rw [← List.drop_drop,h2];rfl
  rw [Za5 h2,Zxo n (i+9) _ h3,Zq8,List.append_assoc,show i+9+9 * n=i+9 * (n+1) by omega]
def wdsK:Nat→List (List UInt8)
 | 0=>[]
 | n+1=>Zmd::[101]::[40]::[41]::[59]::wdsK n
theorem wd_emit (p:Int):Z4d ⟨3,Zmd,p⟩=Zmd:=rfl
theorem wd_e (p:Int):Z4d ⟨2,[101],p⟩=[101]:=rfl
theorem wd_op (p:Int):Z4d ⟨4,[40],p⟩=[40]:=rfl
theorem wd_cl (p:Int):Z4d ⟨4,[41],p⟩=[41]:=rfl
theorem wd_sc (p:Int):Z4d ⟨4,[59],p⟩=[59]:=rfl
theorem Zbs:∀ n i,(Zq8 n i).map Z4d=wdsK n
 | 0,_=>rfl
 | n+1,i=>by rw [Zq8,List.map_append,Zbs n];simp only [tkU,List.map_cons,List.map_nil,wd_emit,wd_e,wd_op,wd_cl,wd_sc];rfl
def Zd8 (n:Nat):List ASt:=List.replicate n ⟨2,[101],[]⟩
theorem isP_e:isP [101]=2:=rfl
theorem Zg7:∀ n,GB (wdsK n) (Zd8 n)
 | 0 => .nil
 | n+1=>by rw [Zd8,List.replicate_succ];exact GB.bare isP_e (Zg7 n)
theorem Zkx (n:Nat):(Zd8 n).length=n:=List.length_replicate
theorem Zw6:Z0b (Z9g 512)=(Zd8 512,0,0):=by
 have hl:=Zxh 512;refine Zet (l:=Zq8 512 0) ?_ (by rw [Zbs];exact Zg7 512) (by rw [Zkx];exact Nat.le_refl _);unfold Zbb;rw [if_neg (by omega)];have:=Zxo (S:=Z9g 512) (r:=[]) 512 0 [] (by rw [List.drop_zero,List.append_nil]);rw [Nat.zero_add,List.drop_zero,List.nil_append] at this;rw [this,Nat.zero_add,← hl,List.drop_length,Zft,Nat.add_zero,Zaf (by omega)]
theorem Zl5 {l:List Tk} {j:Nat} {w:List UInt8} {ws:List (List UInt8)} (h:Znb l j=w):Zwb l (w::ws) j=Zwb l ws (j+1):=by
 rw [Zwb,if_pos h]
theorem Zc8 {l:List Tk} {i:Nat} {r:List (List UInt8)} (hd:(l.map Z4d).drop i=Zmd::[101]::[40]::[41]::[59]::r) :
  i<l.length∧Zoc l i=(⟨2,[101],[]⟩,((i+5:Nat):Int),0)∧(l.map Z4d).drop (i+5)=r:=by
 obtain ⟨i0,t0,_,d0⟩:=Zsc hd (by decide);obtain ⟨i1,t1,n1,d1⟩:=Zsc d0 (by decide);obtain ⟨i2,t2,_,d2⟩:=Zsc d1 (by decide);obtain ⟨i3,t3,_,d3⟩:=Zsc d2 (by decide);obtain ⟨i4,t4,_,d4⟩:=Zsc d3 (by decide);refine ⟨i0,?_,d4⟩;unfold Zoc Z5d Z3g
 have q:Zwb l [[41],[59]] (i+1+2)=(true,i+1+2+1+1):=by
  have t3:Znb l (i+1+2)=[41]:=t3;have t4:Znb l (i+1+2+1)=[59]:=t4;rw [Zl5 t3,Zl5 t4];rfl
 have t3:Znb l (i+1+2)=[41]:=t3;rw [if_pos t0,n1,isP_e,t1,t2,t3];simp only [q];simp;omega
theorem Zgx {l:List Tk} {w:List UInt8} {r:List (List UInt8)} {n:Nat}:∀ (m f i:Nat) (acc:List ASt),(l.map Z4d).drop i=wdsK m++w::r→l.length<f+i→acc.length+m=512 →
  Z1d l n f i acc=([],Zxk l n ((i+5 * m:Nat):Int),3)
 | 0,f,i,acc,hd,hf,ha=>by
  have hi:i<l.length:=by
   have:=congrArg List.length hd;rw [List.length_drop,List.length_map] at this;simp only [wdsK,List.nil_append,List.length_cons] at this;omega
  obtain ⟨f,rfl⟩:∃ m,f=m+1:=⟨f-1,by omega⟩;rw [Z1d,if_neg (by omega),if_pos (by omega)];simp
 | m+1,f,i,acc,hd,hf,ha=>by
  obtain ⟨hi,hs,hd2⟩:=Zc8 (r:=wdsK m++w::r) hd;obtain ⟨f,rfl⟩:∃ m,f=m+1:=⟨f-1,by omega⟩;rw [Z1d,if_neg (by omega),if_neg (by omega),hs];simp only [ne_eq,not_true_eq_false,if_false,Int.toNat_natCast];rw [Zgx m f (i+5) _ hd2 (by omega) (by rw [List.length_append];simp only [List.length_cons,List.length_nil];omega)];rw [show i+5+5 * m=i+5 * (m+1) by omega]
def Ztv:List UInt8:=[32,120,32,58,61,32,49,59]
def tkT (i:Nat):List Tk:=[⟨2,[120],((i+1:Nat):Int)⟩,⟨4,[58,61],((i+3:Nat):Int)⟩,⟨1,[49],((i+6:Nat):Int)⟩,⟨4,[59],((i+7:Nat):Int)⟩]
theorem Zm5 {S:List UInt8} {i:Nat} {acc:List Tk} (d0:S.drop i=Ztv):Z3b (S.length+1) S (i+blk (S.drop i)) acc=(acc++tkT i,0,0):=by
 have hl:S.length-i=8:=by rw [← List.length_drop,d0];rfl
 have d1:S.drop (i+1)=[120,32,58,61,32,49,59]:=by rw [← List.drop_drop,d0];rfl
 have d3:S.drop (i+3)=[58,61,32,49,59]:=by rw [← List.drop_drop,d0];rfl
 have d6:S.drop (i+6)=[49,59]:=by rw [← List.drop_drop,d0];rfl
 have d7:S.drop (i+7)=[59]:=by rw [← List.drop_drop,d0];rfl
 have b0:blk (S.drop i)=1:=by rw [d0];rfl
 rw [b0,Z1g (k:=1) (kd:=2) d1 (by omega) rfl (by decide) (by decide) (b:=1) rfl];rw [show i+1+1+1=i+3 by omega,Z1g (k:=2) (kd:=4) d3 (by omega) rfl (by decide) (by decide) (b:=1) rfl];rw [show i+3+2+1=i+6 by omega,Z1g (k:=1) (kd:=1) d6 (by omega) rfl (by decide) (by decide) (b:=0) rfl];rw [show i+6+1+0=i+7 by omega,Z1g (k:=1) (kd:=4) d7 (by omega) rfl (by decide) (by decide) (b:=0) rfl];rw [Zaf (by omega)];simp only [List.append_assoc];rfl
theorem Zv6:Z0b (Z9g 512++Ztv)=([],4609,3):=by
 have hl:=Zxh 512
 have hl2:(Z9g 512++Ztv).length=4616:=by rw [List.length_append,hl];rfl
 have ht:Zbb (Z9g 512++Ztv)=(Zq8 512 0++tkT 4608,0,0):=by
  unfold Zbb;rw [if_neg (by omega)];have:=Zxo (S:=Z9g 512++Ztv) (r:=Ztv) 512 0 [] (by rw [List.drop_zero]);rw [Nat.zero_add,List.drop_zero,List.nil_append] at this;rw [this];exact Zm5 (by rw [List.drop_left' (by omega)])
 unfold Z0b;rw [ht];simp only [ne_eq,not_true_eq_false,if_false];have hk:=Za1 512 0;rw [Zgx 512 _ 0 [] (w:=[120]) (r:=[[58,61],[49],[59]]) (by rw [List.drop_zero,List.map_append,Zbs];rfl) (by omega) rfl];unfold Zxk;rw [if_pos (by rw [List.length_append,hk];decide)];rw [List.getD_eq_getElem?_getD,List.getElem?_append_right (by omega),hk];rfl
def knT11:List UInt8:=[120,32,58,61,32,49,59,32,101,109,105,116,32,101,40,41,59,32,101,109,105,116,32,101,40,120,32,60,32,49,41,59]
def knB11:List ASt:=[⟨1,[120],[⟨1,1,[],-1,-1,-1⟩]⟩,⟨2,[101],[]⟩,⟨2,[101],[⟨2,0,[120],-1,-1,-1⟩,⟨1,1,[],-1,-1,-1⟩,⟨12,0,[],0,1,-1⟩]⟩]
theorem Zdr:Z0b knT11=(knB11,0,0):=by decide +kernel
end Go.Hs
end
