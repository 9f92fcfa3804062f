/- Part 52 of the proof of a statement of seat YtohdjmgdaaipaaaGreatDoor: HsHActKn1 HsHExpLaid HsHExpLaidG HsHExpArgs HsHSeatF. -/
import Derived.Test.YtohdjmgdaaipaaaGreatDoorPart47
import Derived.Test.YtohdjmgdaaipaaaGreatDoorPart49
import Derived.Test.YtohdjmgdaaipaaaGreatDoorPart50
import Derived.Test.YtohdjmgdaaipaaaGreatDoorPart51
import Derived.Test.YtohdjmgdaaipaaaGreatDoorPart43
import Derived.Test.YtohdjmgdaaipaaaGreatDoorPart30
import Derived.Test.YtohdjmgdaaipaaaGreatDoorPart31
import Derived.Test.YtohdjmgdaaipaaaGreatDoorRows
import Derived.ProofKit
import Derived.OpenShut
import Derived.LaidLaws
import Derived.Stop.LaidErr
import Derived.Lib.LaidTab
import Derived.Handed
import Derived.ChangeMaps5
import Derived.Test.YtohdjmgdaaipaaaGreatDoorCards
set_option linter.unusedSimpArgs false
set_option linter.unusedVariables false
section
namespace Go.Hs
open Go.Proofs
set_option maxRecDepth 10000
def partsA:List (List UInt8):=[[120],[58,61],[49],[59],[101,109,105,116],[40],[41],[43],[116,114,117,101],[105,102],[97,114,103]]
theorem Z1l:∀ a∈partsA,a.length≤4:=by decide
theorem Zjf {n:Nat} (h:n<100000):¬ ((n:Int) > IntKind.i64.max):=by rw [show IntKind.i64.max=9223372036854775807 from rfl];omega
theorem Rd.ams0 {H:Heap}:Rd H (.agg [.nils]) (.agg [Zd .old 3 (Z6 .old) .nil]):=Znl (.agg _ fun x hx=>by rw [List.mem_singleton.1 hx];exact .nils) rfl
theorem Zfk {H:Heap} {o g:Nat} {n:Nat} {l:List (List UInt8)} (hH:H o = .cells .new g 0 (flat (l.map V.str))) (hl:l.length=n):Rd H (.msl o g 0 n 1) (Zd .old 1 V.str (.mk false l)):=by
 subst hl;have:=Rd.msl (H:=H) (o:=o) (g:=g) (fz:=0) (c := .new) (off:=0) (n:=l.length) (m:=1) (f:=V.str) (f':=V.str) (l:=l) hH (fun _=>rfl) (fun x y hy=>by simp [V.cells] at hy;subst hy;exact .str _) (fun _=>rfl) (by omega);rw [List.drop_zero,List.take_length] at this;simpa [Zd] using this
theorem set_as0 {z:Int} {l:List ASt} {t:ASt}:∀ {i:Nat},l[i]? = some t→(flat (l.map (Zsa .new))).set (i * 3) (.int .u8 z)=flat ((l.set i ⟨z,t.name,t.x⟩).map (Zsa .new)):=by
 induction l with
 | nil=>intro i h;simp at h
 | cons x r ih =>
  intro i h
  cases i with
  | zero =>
   simp only [List.getElem?_cons_zero,Option.some.injEq] at h;subst h;rfl
  | succ j =>
   have:=ih (i:=j) (by simpa using h);rw [List.map_cons,List.set_cons_succ,List.map_cons,show (j+1) * 3=(j * 3)+1+1+1 by omega]
   show (Zsa .new x).cells++(flat (r.map (Zsa .new))).set (j * 3) _=_
   rw [this]
   try rfl
theorem set_as1 {nm:List UInt8} {l:List ASt} {t:ASt}:∀ {i:Nat},l[i]? = some t→(flat (l.map (Zsa .new))).set (i * 3+1) (.str nm)=flat ((l.set i ⟨t.kind,nm,t.x⟩).map (Zsa .new)):=by
 induction l with
 | nil=>intro i h;simp at h
 | cons x r ih =>
  intro i h
  cases i with
  | zero =>
   simp only [List.getElem?_cons_zero,Option.some.injEq] at h;subst h;rfl
  | succ j =>
   have:=ih (i:=j) (by simpa using h);rw [List.map_cons,List.set_cons_succ,List.map_cons,show (j+1) * 3+1=(j * 3+1)+1+1+1 by omega]
   show (Zsa .new x).cells++(flat (r.map (Zsa .new))).set (j * 3+1) _=_
   rw [this]
   try rfl
theorem Im.asc (c:Col) (t:ASt):∀ y∈(Zsa c t).cells,y.Im:=by
 intro y hy;have h:=Zl8 c [t];rw [Zcg] at hy;simp only [V.cells,List.mem_cons,List.not_mem_nil,or_false] at hy
 rcases hy with rfl | rfl | rfl
 ·exact .int _ _
 ·exact .str _
 ·exact Ziy (fun n y hy=>by
   have:=Im.xn n
   cases this with
   | agg _ h=>exact h y hy) _
theorem Zz2 {H:Heap} {o g n:Nat} {l:List ASt} (hH:H o = .cells .new g 0 (flat (l.map (Zsa .new)))) (hn:l.length=n) (h0:l≠[]):Rd H (.agg [.msl o g 0 n 3]) (.agg [Zd .old 3 (Z6 .old) (amS l)]):=by
 refine Cv.agg _ _ rfl fun i h1 h2=>?_
 have hi:i=0:=by simp only [List.length_cons,List.length_nil] at h1;omega
 subst hi;subst hn;have:=Rd.msl (H:=H) (o:=o) (g:=g) (fz:=0) (c := .new) (off:=0) (n:=l.length) (m:=3) (f:=Zsa .new) (f':=Zsa .old) (l:=l) hH (Zxa _) (Im.asc .new) (fun t=>Zs1 _ _ _) (by omega);rw [List.drop_zero,List.take_length,Nat.zero_mul] at this
 show Rd H (.msl o g 0 l.length 3) (Zd .old 3 (Z6 .old) (amS l))
 rw [← Zob]
 cases l with
 | nil=>exact absurd rfl h0
 | cons x r=>exact this
theorem Ztw:∀ a∈knB11,∀ n∈a.x,n.num=0∨n.num=1:=by decide
theorem Zgi {l:List ASt} (h:∀ a∈l,∀ n∈a.x,n.num=0∨n.num=1):∀ x∈(amS l).l,∀ n∈x.x.l,InK .i64 n.num:=by
 intro x hx n hn;rw [Zug] at hx;obtain ⟨a,ha,rfl⟩:=List.mem_map.1 hx
 have hn2:n∈a.x:=by simpa [toAM,Zza] using hn
 rw [Zyj]
 rcases h a ha n hn2 with q | q<;>rw [q]<;>decide
theorem Zxv {l:List ASt} {i:Nat} {z:Int} {nm:List UInt8} {t:ASt} (h:∀ a∈l,∀ n∈a.x,n.num=0∨n.num=1) (hi:l[i]? = some t):∀ a∈l.set i ⟨z,nm,t.x⟩,∀ n∈a.x,n.num=0∨n.num=1:=by
 intro a ha
 rcases List.mem_or_eq_of_mem_set ha with q | rfl
 ·exact h a q
 ·exact h t (List.mem_of_getElem? hi)
theorem Zs2 {l:List ASt} {n:Nat} (h:∀ a∈l,a=⟨2,[101],[]⟩):∀ a∈(amS l).l,AmB a:=by
 intro x hx;rw [Zug] at hx;obtain ⟨a,ha,rfl⟩:=List.mem_map.1 hx;rw [h a ha];exact ⟨by decide,by decide,by decide⟩
theorem Z26 (G:Nat→V) (hE:GExp G) (hGo:∀ g,(G g).Old):Spec Tryz.prog G 7 [] Zl (fun v _=>v = .bool true):=by
 have hG:=hE.ok;refine Zo 0 232 [.tmp 0] Tryz.func7 fun X=>?_;have hPa:=fun s=>Z16 G hE hGo s;have hpl:(Sl.mk false partsA).l=partsA:=rfl;have hpl6:((partsA.length:Nat):Int)=11:=rfl;refine Z1 ?_;refine Z1 ?_;intro g23;refine AW.weak (Z2 (fun o=>o==23) (l:=[(1,Zd .new 1 V.str (.mk false partsA))]) (m:=[]) ?_ trivial) ?_
 ·refine Zs ?_
  exact Fz.sl (f:=V.str) (l:=partsA) (m:=1) (g:=g23) (fz:=0) (c := .new) rfl zp (fun _=>rfl)
 refine Z9 (fun (_:Unit)=>st [] []) (fun _=>True) (fun K1 hK1=>?_) ?_
 ·refine Z1 ?_
  refine AW.block ?_;refine Zua 11 (fun i (_:Unit)=>st [(1,Zd .new 1 V.str (.mk false partsA)),(2,.int .i64 i)] []) (fun _ _=>True) 0 () (Nat.zero_le _) trivial (Zb zp zp) ?_;intro i _ hi _ L2 hL2;refine Z1f (zi hpl hpl6) ?_;refine Za rfl (fun h27=>?_) (fun h27=>?_);rotate_left
  ·refine Z0 ?_
   exact hK1 _ () trivial (Zb zp zp)
  have hi6:i<11:=by have h27:decide ((i:Int)<11)=true:=h27;simp at h27;omega
  have hgi:partsA[i]? = some partsA[i]:=List.getElem?_eq_getElem hi6;have hmi:=List.getElem_mem (l:=partsA) hi6;generalize partsA[i]=a at hgi hmi;have hal:=Z1l a hmi;refine Z0 ?_;refine Z9 (fun (_:Unit)=>st [(1,Zd .new 1 V.str (.mk false partsA)),(2,.int .i64 i)] []) (fun _=>True) (fun K4 hK4=>?_) ?_;rotate_left
  ·intro _ _
   refine Z1 ?_;refine hL2 _ ⟨hi6,(),trivial,Zb (by simp -implicitDefEqProofs only[go_sem,seval,↓reduceIte];exact congrArg _ (by rw [w64 (by omega) (by omega)];omega)) zp⟩
  refine Z1 ?_;refine AW.block ?_;refine Zua 11 (fun k (_:Unit)=>st [(1,Zd .new 1 V.str (.mk false partsA)),(2,.int .i64 i),(3,.int .i64 k)] []) (fun _ _=>True) 0 () (Nat.zero_le _) trivial (Zb zp zp) ?_;intro k _ hk _ L6 hL6;refine Z1f (zi hpl hpl6) ?_;refine Za rfl (fun h33=>?_) (fun h33=>?_);rotate_left
  ·refine Z0 ?_
   exact hK4 _ () trivial (Zb zp zp)
  have hk6:k<11:=by have h33:decide ((k:Int)<11)=true:=h33;simp at h33;omega
  have hgk:partsA[k]? = some partsA[k]:=List.getElem?_eq_getElem hk6;have hmk:=List.getElem_mem (l:=partsA) hk6;generalize partsA[k]=b at hgk hmk;have hbl:=Z1l b hmk;refine Z0 ?_;refine Z9 (fun (_:Unit)=>st [(1,Zd .new 1 V.str (.mk false partsA)),(2,.int .i64 i),(3,.int .i64 k)] []) (fun _=>True) (fun K8 hK8=>?_) ?_;rotate_left
  ·intro _ _
   refine Z1 ?_;refine hL6 _ ⟨hk6,(),trivial,Zb (by simp -implicitDefEqProofs only[go_sem,seval,↓reduceIte];exact congrArg _ (by rw [w64 (by omega) (by omega)];omega)) zp⟩
  refine AW.block ?_;refine Z9 (fun (_:Unit)=>st [(1,Zd .new 1 V.str (.mk false partsA)),(2,.int .i64 i),(3,.int .i64 k)] []) (fun _=>True) (fun K9 hK9=>?_) ?_
  ·refine Z1 ?_
   refine AW.block ?_;refine Zua 11 (fun n (_:Unit)=>st [(1,Zd .new 1 V.str (.mk false partsA)),(2,.int .i64 i),(3,.int .i64 k),(4,.int .i64 n)] []) (fun _ _=>True) 0 () (Nat.zero_le _) trivial (Zb zp zp) ?_;intro n _ hn _ L10 hL10;refine Z1f (zi hpl hpl6) ?_;refine Za rfl (fun h39=>?_) (fun h39=>?_);rotate_left
   ·refine Z0 ?_
    exact hK9 _ () trivial (Zb zp zp)
   have hn6:n<11:=by have h39:decide ((n:Int)<11)=true:=h39;simp at h39;omega
   have hgn:partsA[n]? = some partsA[n]:=List.getElem?_eq_getElem hn6;have hmn:=List.getElem_mem (l:=partsA) hn6;generalize partsA[n]=c at hgn hmn;have hcl:=Z1l c hmn;refine Z0 ?_;refine Z9 (fun (_:Unit)=>st [(1,Zd .new 1 V.str (.mk false partsA)),(2,.int .i64 i),(3,.int .i64 k),(4,.int .i64 n)] []) (fun _=>True) (fun K12 hK12=>?_) ?_;rotate_left
   ·intro _ _
    refine Z1 ?_;refine hL10 _ ⟨hn6,(),trivial,Zb (by simp -implicitDefEqProofs only[go_sem,seval,↓reduceIte];exact congrArg _ (by rw [w64 (by omega) (by omega)];omega)) zp⟩
   refine AW.block ?_;have l1:¬ (((a.length+1:Nat):Int) > IntKind.i64.max):=Zjf (by omega);have l2:¬ ((((a++[32]).length+b.length:Nat):Int) > IntKind.i64.max):=Zjf (by simp only [List.length_append,List.length_cons,List.length_nil];omega);have l3:¬ ((((a++[32]++b).length+1:Nat):Int) > IntKind.i64.max):=Zjf (by simp only [List.length_append,List.length_cons,List.length_nil];omega);have l4:¬ ((((a++[32]++b++[32]).length+c.length:Nat):Int) > IntKind.i64.max):=Zjf (by simp only [List.length_append,List.length_cons,List.length_nil];omega)
   have hsl:(a++[32]++b++[32]++c).length<20:=by simp only [List.length_append,List.length_cons,List.length_nil];omega
   generalize htx:a++[32]++b++[32]++c=s at hsl;refine ZTf (zi hpl (zi hgi (zi hgk (zi hgn (zi l1 (zi l2 (zi l3 (zi l4 htx)))))))) hG ?_;have m1:¬ (((8+s.length:Nat):Int) > IntKind.i64.max):=Zjf (by omega);have m2:¬ (((s.length+2:Nat):Int) > IntKind.i64.max):=Zjf (by omega);have m3:¬ (((s.length+1+1+1+1+1+1+1+1+3:Nat):Int) > IntKind.i64.max):=Zjf (by omega);refine Z1f (zi m1 (zi m2 m3)) ?_;refine Zn hG ?_ (s:=(hPa _));refine Zsf (zi m1 (zi m2 m3)) ?_;refine Zn hG ?_ (s:=(hPa _));refine Zsf (zi m1 (zi m2 m3)) ?_;refine Z8c hG [.agg [Zd .old 3 (Z6 .old) .nil],.str _] (by kernel_rfl) ⟨Rd.ams0,Znl (.str _) rfl,trivial⟩ ?_;refine (Za2 G hE .nil (by intro x hx;cases hx) _ .old .old).mono ?_;rintro _ _ rfl;refine ⟨.bool _,?_⟩;refine Zs ?_;refine Z0 ?_;exact hK12 _ () trivial (Zb zp zp)
  intro _ _;have n1:¬ (((5+a.length:Nat):Int) > IntKind.i64.max):=Zjf (by omega);have n2:¬ (((a.length+1+1+1+1+1+1:Nat):Int) > IntKind.i64.max):=Zjf (by omega);have n3:¬ ((((a++[32]).length+1+1+1+1+1+b.length:Nat):Int) > IntKind.i64.max):=Zjf (by simp only [List.length_append,List.length_cons,List.length_nil];omega);have n4:¬ ((((a++[32]++b).length+1+1+1+1+1+3:Nat):Int) > IntKind.i64.max):=Zjf (by simp only [List.length_append,List.length_cons,List.length_nil];omega);have n6:¬ (((7+b.length:Nat):Int) > IntKind.i64.max):=Zjf (by omega);have n7:¬ (((b.length+1+1+1+1+1+1+1+2:Nat):Int) > IntKind.i64.max):=Zjf (by omega)
  refine Zy <| Z5 ⟨fun i=>if i=12 then .bool true else if i=30 then .bool true else .top,fun i=>if i=30 then .lend else .pure⟩ (by kernel_rfl) hG (by kernel_rfl) (by kernel_rfl) ?_
  refine Zsf (zi hpl (zi hgi (zi hgk (zi n1 (zi n2 (zi n3 (zi n4 (zi n6 n7)))))))) ?_
  refine ⟨⟨by kernel_rfl,by simp -implicitDefEqProofs only[go_sem,seval,↓reduceIte];exact (hPa _).mono (by rintro _ _ rfl;rfl)⟩,fun g103 g104 g105=>⟨BorC.of [.str _,.str _,Zd .old 1 V.str (.mk false [[120]]),Zd .old 1 V.str (.mk false [[101]]),Zd .old 1 V.str (.mk false [[121]])] (by kernel_rfl)
   ⟨Znl (.str _) rfl,Znl (.str _) rfl,Zfk zp rfl,Zfk zp rfl,Zfk zp rfl,trivial⟩ ((Z36 G hE _ _ _ _ _ (by decide) (by decide) (by decide) .old .old .old).mono ?_),?_⟩⟩
  ·rintro _ _ rfl
   exact ⟨.bool _,rfl⟩
  refine Z0 ?_;exact hK8 _ () trivial (Zb zp zp)
 intro _ _;have hx:=Zeb G hE knT11 (by decide);have hxN:=Z4m G hE knT11 (by decide) Zdr;rw [Zdr] at hx;refine Z1 ?_;refine Zn hG ?_ (s:=hx);refine Zsf (zi @encBP.eq_1 (zi @encABs.eq_1 @Zgf)) ?_;intro g6;have hkn3:(Zea knB11).l.length=3:=rfl;have hk3:(((Zea knB11).l.length:Nat):Int)=3:=rfl;have hgr:∀ g,grown 1038 g 3 knB11 = .msl 1038 g 0 3 3:=fun _=>rfl;have hso:∀ g,sdO g knB11 = .cells .new g 0 (flat (knB11.map (Zsa .new))):=fun _=>rfl;refine Z9 (fun (_:Unit)=>st [(6,.ptr 6 g6 0)] [(6,.cells .new g6 0 [Zd .new 3 (Zsa .new) (Zea knB11)])]) (fun _=>True) (fun K2 hK2=>?_) ?_
 ·refine Z1 ?_
  refine AW.block ?_;refine Zua 3 (fun i (_:Unit)=>st ((9,.int .i64 i)::[(6,.ptr 6 g6 0)]) [(6,.cells .new g6 0 [Zd .new 3 (Zsa .new) (Zea knB11)])]) (fun _ _=>True) 0 () (Nat.zero_le _) trivial (Zb zp zp) ?_;intro i _ hi _ L2 hL2;refine Z1f hk3 ?_;refine Za rfl (fun h118=>?_) (fun h118=>?_);rotate_left
  ·refine Z0 ?_
   exact hK2 _ () trivial (Zb zp zp)
  have hi3:i<3:=by have h118:decide ((i:Int)<3)=true:=h118;simp at h118;omega
  have hgi:knB11[i]? = some knB11[i]:=List.getElem?_eq_getElem hi3;generalize knB11[i]=a at hgi;refine Z0 ?_;refine Z9 (fun (_:Unit)=>st ((9,.int .i64 i)::[(6,.ptr 6 g6 0)]) [(6,.cells .new g6 0 [Zd .new 3 (Zsa .new) (Zea knB11)])]) (fun _=>True) (fun K4 hK4=>?_) ?_;rotate_left
  ·intro _ _
   refine Z1 ?_;refine hL2 _ ⟨hi3,(),trivial,Zb (by simp -implicitDefEqProofs only[go_sem,seval,↓reduceIte];exact congrArg _ (by rw [w64 (by omega) (by omega)];omega)) zp⟩
  refine Z1 ?_;refine AW.block ?_;refine Zua 4 (fun k (_:Unit)=>st ((10,.int .u8 k)::(9,.int .i64 i)::[(6,.ptr 6 g6 0)]) [(6,.cells .new g6 0 [Zd .new 3 (Zsa .new) (Zea knB11)])]) (fun _ _=>True) 0 () (Nat.zero_le _) trivial (Zb zp zp) ?_;intro k _ hk _ L6 hL6;refine Z1 ?_;refine Za rfl (fun h122=>?_) (fun h122=>?_);rotate_left
  ·refine Z0 ?_
   exact hK4 _ () trivial (Zb zp zp)
  have hk4:k<4:=by have h122:decide ((k:Int)<4)=true:=h122;simp at h122;omega
  refine Z0 ?_;refine Z9 (fun (_:Unit)=>st ((10,.int .u8 k)::(9,.int .i64 i)::[(6,.ptr 6 g6 0)]) [(6,.cells .new g6 0 [Zd .new 3 (Zsa .new) (Zea knB11)])]) (fun _=>True) (fun K8 hK8=>?_) ?_;rotate_left
  ·intro _ _
   refine Z1 ?_;refine hL6 _ ⟨hk4,(),trivial,Zb (by simp -implicitDefEqProofs only[go_sem,seval,↓reduceIte];exact congrArg _ (by rw [wu8R (by omega) (by omega)];omega)) zp⟩
  refine Z1 ?_;refine CallA.inl [(1038,.dead)] (by kernel_rfl) ?_ ?_
  ·intro p hp
   rw [List.mem_singleton] at hp;subst hp;exact zp
  refine hxN.mono ?_;rintro _ H' ⟨g38,rfl,q⟩;simp only [List.map_cons,List.map_nil,q,hgr,hso];refine Zu ?_;intro g11;refine Zh fun K9 hK9=>?_;have hq:decide ((3:Int)≤(i:Int))=false:=zF;refine Z1f hq ?_;refine Z0 ?_;refine hK9 _ ?_;refine AW.weak (Zb (l:=(11,.ptr 11 g11 0)::(10,.int .u8 k)::(9,.int .i64 i)::[(6,.ptr 6 g6 0)]) (m:=(1038,.cells .new g38 0 (flat (knB11.map (Zsa .new))))::(11,.cells .new g11 0 [.msl 1038 g38 0 3 3])::[(6,.cells .new g6 0 [Zd .new 3 (Zsa .new) (Zea knB11)])]) zp zp) ?_
  have hf0:i * 3+1≤(flat (knB11.map (Zsa .new))).length:=by rw [Z9b (Zxa _)];show i * 3+1≤3 * 3;omega
  have hz:=Nat.zero_le (i * 3)
  have hi3':(i:Int)<3:=by omega
  have hk4':(k:Int)<4:=by omega
  refine Zdc (by kernel_rfl) ?_;simp -implicitDefEqProofs only[go_sem,seval,↓reduceIte,hf0,hz,and_self,hi3']
  have hl1:(knB11.set i ⟨(k:Int),a.name,a.x⟩).length=3:=by rw [List.length_set]<;>rfl
  have hs1:=Zxv (z:=(k:Int)) (nm:=a.name) Ztw hgi
  have hg1:(knB11.set i ⟨(k:Int),a.name,a.x⟩)[i]? = some ⟨(k:Int),a.name,a.x⟩:=by rw [List.getElem?_set_self hi3]
  have hst1:=set_as0 (z:=(k:Int)) hgi;generalize knB11.set i ⟨(k:Int),a.name,a.x⟩=l1 at hl1 hs1 hg1 hst1;rw [hst1];refine AW.weak (Zb (l:=(11,.ptr 11 g11 0)::(10,.int .u8 k)::(9,.int .i64 i)::[(6,.ptr 6 g6 0)]) (m:=(1038,.cells .new g38 0 (flat (l1.map (Zsa .new))))::(11,.cells .new g11 0 [.msl 1038 g38 0 3 3])::[(6,.cells .new g6 0 [Zd .new 3 (Zsa .new) (Zea knB11)])]) zp zp) ?_;refine Zy ?_
  have h10:l1≠[]:=by intro q;rw [q] at hl1;cases hl1
  refine Z1 ?_;intro g143 g144
  refine Z8c hG [.agg [Zd .old 3 (Z6 .old) (amS l1)],.agg [Zd .old 3 (Z6 .old) (amS knB11)],Zd .old 1 V.str (.mk false [[120]]),Zd .old 1 V.str (.mk false [[101]])] (by kernel_rfl)
   ⟨Zz2 zp hl1 h10,Znl (Zl8 .new knB11) (by simp only [Zme,List.map_cons,List.map_nil,Zgf,Zob];rfl),Zfk zp rfl,Zfk zp rfl,trivial⟩ ?_
  refine (Zcr G hE _ _ (Zgi hs1) (Zgi Ztw) _ _ (by decide) (by decide) .old .old .old .old .old .old).mono ?_;rintro _ _ rfl;refine ⟨.bool _,?_⟩;refine Zs ?_;refine Z8c hG [.agg [Zd .old 3 (Z6 .old) (amS l1)],.str _] (by kernel_rfl) ⟨Zz2 zp hl1 h10,Znl (.str _) rfl,trivial⟩ ?_;refine (Za2 G hE _ (Zgi hs1) _ .old .old).mono ?_;rintro _ _ rfl;refine ⟨.bool _,?_⟩;refine Zs ?_;refine Z0 ?_
  have hf1:i * 3+1+1≤(flat (l1.map (Zsa .new))).length:=by rw [Z9b (Zxa _),hl1];omega
  have hz1:=Nat.zero_le (i * 3+1)
  obtain ⟨nm,hgk⟩:∃ nm,([V.str [],V.str [105,102],V.str [122],V.str [120]]:List V)[k * 1]? = some (.str nm):=by
   rcases (show k=0∨k=1∨k=2∨k=3 by omega) with rfl | rfl | rfl | rfl<;>exact ⟨_,rfl⟩
  refine Zy <| Z5 ⟨fun _ => .top,fun _ => .pure⟩ (by kernel_rfl) hG (by kernel_rfl) (by kernel_rfl) ?_
  simp -implicitDefEqProofs only[go_sem,seval,↓reduceIte,hf1,hz1,and_self,hi3',hk4',hgk];intro g155
  have hl2:(l1.set i ⟨(k:Int),nm,a.x⟩).length=3:=by rw [List.length_set];exact hl1
  have hs2:=Zxv (z:=(k:Int)) (nm:=nm) hs1 hg1;have hst2:=set_as1 (nm:=nm) hg1;simp only at hs2 hst2;generalize l1.set i ⟨(k:Int),nm,a.x⟩=l2 at hl2 hs2 hst2;rw [hst2];refine AW.weak (Zb (l:=(11,.ptr 11 g11 0)::(10,.int .u8 k)::(9,.int .i64 i)::[(6,.ptr 6 g6 0)]) (m:=(1038,.cells .new g38 0 (flat (l2.map (Zsa .new))))::(11,.cells .new g11 0 [.msl 1038 g38 0 3 3])::[(6,.cells .new g6 0 [Zd .new 3 (Zsa .new) (Zea knB11)])]) zp zp) ?_
  have h20:l2≠[]:=by intro q;rw [q] at hl2;cases hl2
  refine Z1 ?_;intro g163 g164
  refine Z8c hG [.agg [Zd .old 3 (Z6 .old) (amS l2)],.agg [Zd .old 3 (Z6 .old) (amS l2)],Zd .old 1 V.str (.mk false [[120],[101]]),Zd .old 1 V.str (.mk false [[101],[120]])] (by kernel_rfl)
   ⟨Zz2 zp hl2 h20,Zz2 zp hl2 h20,Zfk zp rfl,Zfk zp rfl,trivial⟩ ?_
  refine (Zcr G hE _ _ (Zgi hs2) (Zgi hs2) _ _ (by decide) (by decide) .old .old .old .old .old .old).mono ?_;rintro _ _ rfl;refine ⟨.bool _,?_⟩;refine Zs ?_;refine Z0 ?_;exact hK8 _ () trivial (Zb zp zp)
 intro _ _;obtain ⟨L,hL⟩:∃ L,L=Z9g 512:=⟨_,rfl⟩
 have hLl:L.length=4608:=by rw [hL,Zxh]
 obtain ⟨B,hBd⟩:∃ B,B=Zd8 512:=⟨_,rfl⟩
 have hBl:B.length=512:=by rw [hBd,Zkx]
 have hb1:Z0b L=(B,0,0):=by rw [hL,hBd];exact Zw6
 have hb2:Z0b (L++Ztv)=([],4609,3):=by rw [hL];exact Zv6
 refine Z1 ?_;refine Z9 (fun (_:Unit)=>st [(14,.str L)] []) (fun _=>True) (fun K2 hK2=>?_) ?_
 ·refine Z1 ?_
  refine AW.block ?_;refine Zua 512 (fun i (_:Unit)=>st [(14,.str (Z9g i)),(15,.int .i64 i)] []) (fun _ _=>True) 0 () (Nat.zero_le _) trivial (Zb zp zp) ?_;intro i _ hi _ L2 hL2;refine Z1 ?_;refine Za rfl (fun h168=>?_) (fun h168=>?_);rotate_left
  ·have hi5:i=512:=by have h168:decide ((i:Int)<512)=false:=h168;simp at h168;omega
   subst hi5;refine Z0 ?_;exact hK2 _ () trivial (Zb (by simp -implicitDefEqProofs only[go_sem,seval,↓reduceIte];rw [hL]) zp)
  have hi5:i<512:=by have h168:decide ((i:Int)<512)=true:=h168;simp at h168;omega
  refine Z0 ?_;have hln:¬ ((((Z9g i).length+9:Nat):Int) > IntKind.i64.max):=Zjf (by rw [Zxh];omega);refine Zh fun K4 hK4=>?_;refine Z1f hln ?_;refine hK4 _ ?_;refine Z1 ?_;exact hL2 _ ⟨hi5,(),trivial,Zb (by simp -implicitDefEqProofs only[go_sem,seval,↓reduceIte];exact ⟨rfl,congrArg _ (by rw [w64 (by omega) (by omega)];omega)⟩) zp⟩
 intro _ _;have hxN2:=Z4m G hE L (by omega) hb1;have hx2:=Zeb G hE (L++Ztv) (by rw [List.length_append,hLl];decide);rw [hb2] at hx2
 have hB0:B≠[]:=by intro q;rw [q] at hBl;cases hBl
 have hgr2:∀ g,grown 1038 g 3 B = .msl 1038 g 0 512 3:=fun g=>by rw [Z8b _ _ _ hB0,hBl]
 have hso2:∀ g,sdO g B = .cells .new g 0 (flat (B.map (Zsa .new))):=fun g=>by unfold sdO;rw [Zic _ _ hB0]
 have hfl:(flat (B.map (Zsa .new))).length=1536:=by rw [Z9b (Zxa _),hBl]
 have hn0:encABs .new [] = .nils:=rfl;have hn1:∀ F,V.nils.recol F=V.nils:=fun _=>rfl;have hLt:¬ (((L.length+8:Nat):Int) > IntKind.i64.max):=Zjf (by omega);refine Z1 ?_;refine CallA.inl [(1038,.dead)] (by kernel_rfl) ?_ ?_
 ·intro p hp
  rw [List.mem_singleton] at hp;subst hp;exact zp
 refine hxN2.mono ?_;rintro _ H' ⟨g38,rfl,q⟩;simp only [List.map_cons,List.map_nil,q,hgr2,hso2];refine Zu ?_;intro g16;refine AW.weak (Zb (l:=[(14,.str L),(16,.ptr 16 g16 0),(18,.int .i64 0)]) (m:=[(16,.cells .new g16 0 [.msl 1038 g38 0 512 3]),(1038,.cells .new g38 0 (flat (B.map (Zsa .new))))]) zp zp) ?_;refine Z1f hLt ?_;refine Zn hG ?_ (s:=hx2);refine Zsf (zi @encBP.eq_1 (zi hn0 hn1)) ?_;intro g19;refine AW.weak (Zb (l:=[(14,.str L),(16,.ptr 16 g16 0),(18,.int .i64 0),(20,.int .i64 4609),(21,.int .i64 3)]) (m:=[(16,.cells .new g16 0 [.msl 1038 g38 0 512 3]),(1038,.cells .new g38 0 (flat (B.map (Zsa .new))))]) zp zp) ?_;refine Zcba 1038 (g:=g38) (cs:=flat (B.map (Zsa .new))) zp fun X1 H1 hSt=>?_;rw [hfl];refine AW.weak (Zb (l:=[(14,.str L),(16,.ptr 16 g16 0),(18,.int .i64 0),(20,.int .i64 4609),(21,.int .i64 3)]) (m:=[(16,.cells .new g16 0 [.msl 1038 g38 0 512 3]),(1038,.cells .new g38 1536 (flat (B.map (Zsa .new))))]) zp zp) ?_;obtain ⟨C,hCd⟩:∃ C,C=B++B.take 1:=⟨_,rfl⟩
 have hCl:C.length=513:=by rw [hCd,List.length_append,List.length_take,hBl]<;>rfl
 have hcat:(flat (B.map (Zsa .new))).take 1536++(flat (B.map (Zsa .new))).take 3=flat (C.map (Zsa .new)):=by
  rw [hCd,List.map_append,Zte,List.take_of_length_le (by omega)]
  congr 1
  cases B with
  | nil=>rfl
  | cons x r=>rfl
 refine Z9 (fun (x:Nat × Nat)=>st [(14,.str L),(16,.ptr 16 g16 0),(18,.int .i64 0),(20,.int .i64 4609),(21,.int .i64 3),(22,.ptr 22 x.2 0)]
  [(16,.cells .new g16 0 [.msl 1038 g38 0 512 3]),(1038,.cells .new x.1 1536 (flat (C.map (Zsa .new)))),(22,.cells .new x.2 0 [.msl 1038 x.1 0 C.length 3])]) (fun _=>True) (fun K5 hK5=>?_) ?_
 ·refine Zx4 11 9 [11,0,1,2,3,4,5,6,7,8,9,10,12] [0,1,2,3,4,5,6,7,8,9,10,11,12] [] ⟨fun _ => .top,fun _ => .pure⟩ (by kernel_rfl) hG (by kernel_rfl) (by kernel_rfl) (by kernel_rfl) (by kernel_rfl) (by kernel_rfl) (by kernel_rfl) (by kernel_rfl) (by kernel_rfl) ?_ ?_
  ·simp -implicitDefEqProofs only[go_sem,seval,↓reduceIte,hfl,List.getElem?_cons_zero,List.getElem?_cons_succ]
   intro g22;refine ⟨Zda (by decide) (by decide),fun g2=>?_⟩;exact hK5 _ (g2,g22) trivial (Zb zp (zpf (zi hcat hCl)))
  ·simp -implicitDefEqProofs only[go_sem,seval,↓reduceIte,hfl,List.getElem?_cons_zero,List.getElem?_cons_succ]
   refine ⟨Zda (by decide) (by decide),fun g2 g22=>?_⟩;exact hK5 _ (g2,g22) trivial (Zb zp (zpf (zi hcat hCl)))
 rintro ⟨g2,g22⟩ _;have hcn:=hSt.sl (f:=Zsa .new) (l:=B) (Zxa _);rw [hBl] at hcn
 have hBs:V.slice .new false 3 (B.map (Zsa .new))=Zd .new 3 (Z6 .new) (amS B):=by
  rw [← Zob]
  cases B with
  | nil=>exact absurd rfl hB0
  | cons x r=>rfl
 have hC0:C≠[]:=by intro q;rw [q] at hCl;cases hCl
 have hCs:V.slice .new false 3 (C.map (Zsa .new))=Zd .new 3 (Z6 .new) (amS C):=by
  rw [← Zob]
  cases C with
  | nil=>exact absurd rfl hC0
  | cons x r=>rfl
 rw [hBs] at hcn;refine AW.weak (Z5aa 16 (c := .new) (g:=g16) (fz:=0) (v := .msl 1038 g38 0 512 3) (v':=Zd .new 3 (Z6 .new) (amS B)) zp hcn) ?_
 refine AW.weak (Z2 (fun o=>o==1038) (l:=[(14,.str L),(16,.ptr 16 g16 0),(18,.int .i64 0),(20,.int .i64 4609),(21,.int .i64 3),(22,.ptr 22 g22 0)])
  (m:=[(16,.cells .new g16 0 [Zd .new 3 (Z6 .new) (amS B)]),(22,.cells .new g22 0 [Zd .new 3 (Z6 .new) (amS C)])]) ?_ ?_) ?_
 ·refine Zs ?_
  exact ⟨Ze _,Ze _,Ze _,Ze _,Ze _,Ze _⟩
 ·simp only [Zp,Zz,and_true]
  refine ⟨FzO.keep rfl zp,Zol (c := .new) (fz:=0) (cs:=[.msl 1038 g2 0 C.length 3]) rfl zp ⟨?_,trivial⟩⟩;rw [← hCs];exact Fz.sl (f:=Zsa .new) (l:=C) (m:=3) (g:=g2) (fz:=1536) (c := .new) rfl zp (Zxa _)
 have hBa:∀ a∈B,a=⟨2,[101],[]⟩:=fun a ha=>by rw [hBd] at ha;exact List.eq_of_mem_replicate ha
 have hCa:∀ a∈C,a=⟨2,[101],[]⟩:=fun a ha=>by
  rw [hCd,List.mem_append] at ha
  rcases ha with q | q
  ·exact hBa a q
  ·exact hBa a (List.mem_of_mem_take q)
 have hkB:Zab B=0:=by
  have := @Zrf L;rw [hb1] at this;exact this rfl
 have hkC:Zab C=2:=by unfold Zab;rw [if_pos (by omega)]
 have hBL:(((amS B).l.length:Nat):Int)=512:=by rw [Zug,List.length_map,hBl]<;>rfl
 have hLi:((L.length:Nat):Int)=4608:=by rw [hLl]<;>rfl
 have hwr:IntKind.i64.wrap ((4608:Int)+1)=4609:=rfl;refine Zdc (by kernel_rfl) ?_;simp -implicitDefEqProofs only[go_sem,seval,↓reduceIte,hBL,hLi,hwr,beq_self_eq_true];refine Znf @Zw hG ?_ (s:=(Zge G hE _ _ (amS B) (by rw [Zug,List.length_map];omega) (Zs2 (n:=0) hBa)));rw [Zqh,hkB];simp -implicitDefEqProofs only[go_sem,seval,↓reduceIte,beq_self_eq_true];refine Znf @Zw hG ?_ (s:=(Zge G hE _ _ (amS C) (by rw [Zug,List.length_map];omega) (Zs2 (n:=0) hCa)));rw [Zqh,hkC];simp -implicitDefEqProofs only[go_sem,seval,↓reduceIte,beq_self_eq_true];refine Zc hG ?_ (s:=(hPa _));refine Zc hG ?_ (s:=(Zaa G hE));exact Zr
end Go.Hs
end

section
namespace Go.Proofs.YtohdjmgdaaipaaaGreatDoor
open Go.RowKit Go.Hs
set_option maxRecDepth 100000
def Zyh:List (String × DataW Unit):=[("math/bits.deBruijn32tab",Rows.laid_math_bits_deBruijn32tab),("math/bits.deBruijn64tab",Rows.laid_math_bits_deBruijn64tab),("internal/strconv.uint64pow10",Rows.laid_internal_strconv_uint64pow10),("unicode/utf8.acceptRanges",Rows.laid_unicode_utf8_acceptRanges),("strconv.ErrRange",Rows.laid_strconv_ErrRange),("strconv.ErrSyntax",Rows.laid_strconv_ErrSyntax),("hopscotch/lex.signs",Rows.laid_hopscotch_lex_signs),("unicode/utf8.first",Rows.laid_unicode_utf8_first)]
noncomputable def low:Nat:=(World.holding Tryz.prog default ⟨#[],#[],[]⟩).heap.size
def b32:List Int:=[0,1,28,2,29,14,24,3,30,22,20,15,25,17,4,8,31,27,13,23,21,19,16,7,26,12,18,6,11,5,10,9]
def b64:List Int:=0::1::56::2::57::49::28::3::61::58::42::50::38::29::17::4::62::47::59::36::45::43::51::22::53::39::33::30::24::18::12::5::63::55::48::27::60::41::37::16::46::35::44::21::52::32::23::11::54::26::40::15::34::20::31::10::25::14::19::9::13::8::7::6::[]
def acR:List Int:=[128,191,160,191,128,159,144,191,128,143]++List.replicate 22 0
def errR:ByteArray:={ data := #[118,97,108,117,101,32,111,117,116,32,111,102,32,114,97,110,103,101] }
def errS:ByteArray:={ data := #[105,110,118,97,108,105,100,32,115,121,110,116,97,120] }
def Zke (cs:Array Value):Obj→Obj
 | .cells _ t frozen => .cells cs t frozen
 | o=>o
noncomputable def laidWorld (os:Os):World :=
 let w0:=World.holding Tryz.prog os ⟨#[.cells #[.string errR] 375,.cells #[.string errS] 375],#[],[]⟩
 { w0 with heap:=(((((((w0.heap.modify 3 (Zke #[.iface 373 (.pointer (some ⟨low,0,none⟩))])).modify 8 (Zke #[.iface 373 (.pointer (some ⟨low+1,0,none⟩))])).modify 2
   (Zke (Lib.pow10Tab.map (Value.int .u64)).toArray)).modify 4 (Zke (b32.map (Value.int .u8)).toArray)).modify 5 (Zke (b64.map (Value.int .u8)).toArray)).modify 7 (Zke (acR.map (Value.int .u8)).toArray)).modify
   0 (Zke (signsL.map fun s=>Value.string ⟨s.toArray⟩).toArray)).modify 6 (Zke (Pinned.utf8FirstZ.map fun (n:Nat)=>Value.int .u8 (n:Int)).toArray) }
theorem Zws (os:Os) (args:Array Value):laidMet Tryz.prog Zyh ((laidWorld os).forCall (fun _ _=>0) ⟨#[],args,[]⟩).memory :=
 laidMet_of_run' 8 (by kernel_rfl) (by kernel_rfl)
end Go.Proofs.YtohdjmgdaaipaaaGreatDoor
end

section
namespace Go.Proofs.YtohdjmgdaaipaaaGreatDoor
open Go.RowKit Go.Hs
set_option maxRecDepth 100000
theorem Zhb {P:Program} {W:World} {x:String × DataW Unit} {r:List (String × DataW Unit)} (h:laidMet P (x::r) W):laidMet P r W:=by
 obtain ⟨n,d⟩:=x;obtain ⟨ps,⟨g0,t0,cs0,f0,p0,q0,hg0,ht0,hv0,hd0,hq,e0⟩,hnd,hrows⟩:=h;subst e0;exact ⟨q0,hq,(List.nodup_append.1 hnd).2.1,fun b off hm=>hrows b off (List.mem_append.2 (.inr hm))⟩
noncomputable def gE (m:Int):Nat→V:=fun g=>if g=3 then .view .old (.iface 373 (.view .old (.agg []))) else if g=2 then .view .old (.agg (Lib.pow10Tab.map (V.int .u64)))
 else if g=0 then .view .old (.agg (signsL.map V.str)) else if g=1 then .view .old (.int .i64 m) else .top
theorem Zko (f:Col→Col):∀ l:List Int,Z4a f (l.map (V.int .u64))=l.map (V.int .u64)
 | []=>rfl
 | x::r=>by simp only [List.map_cons,Z4a];rw [Zko f r]<;>rfl
theorem Zjo (f:Col→Col):∀ l:List (List UInt8),Z4a f (l.map V.str)=l.map V.str
 | []=>rfl
 | x::r=>by simp only [List.map_cons,Z4a];rw [Zjo f r]<;>rfl
theorem gE_ok (m:Int):GExp (gE m) where
 ok:=fun g=>by
  unfold gE
  split
  ·exact ⟨rfl,.view _ _ fun x hx=>by simp [V.cells] at hx;subst hx;exact .iface _ _ (.view _ _ fun x hx=>by simp [V.cells] at hx)⟩
  ·split
   ·refine ⟨by simp only [V.recol,Col.ent,Zko],.view _ _ fun x hx=>?_⟩
    obtain ⟨n,_,rfl⟩:=List.mem_map.1 hx;exact .int _ _
   ·split
    ·refine ⟨by simp only [V.recol,Col.ent,Zjo],.view _ _ fun x hx=>?_⟩
     obtain ⟨n,_,rfl⟩:=List.mem_map.1 hx;exact .str _
    ·split
     ·exact ⟨rfl,.view _ _ fun x hx=>by simp [V.cells] at hx;subst hx;exact .int _ _⟩
     ·exact ⟨rfl,.top⟩
 er:=⟨_,_,_,rfl⟩
 tab:=⟨_,rfl⟩
 sg:=⟨_,rfl⟩
 ml:=⟨_,m,rfl⟩
theorem gE_old (m:Int) (g:Nat):(gE m g).Old:=by
 unfold gE
 split
 ·exact .view _ fun x hx=>by simp [V.cells] at hx;subst hx;exact .iface _ _ (.view _ fun x hx=>by simp [V.cells] at hx)
 ·split
  ·refine .view _ fun x hx=>?_
   obtain ⟨n,_,rfl⟩:=List.mem_map.1 hx;exact .int _ _
  ·split
   ·refine .view _ fun x hx=>?_
    obtain ⟨n,_,rfl⟩:=List.mem_map.1 hx;exact .str _
   ·split
    ·exact .view _ fun x hx=>by simp [V.cells] at hx;subst hx;exact .int _ _
    ·exact .top
theorem gER:Tryz.prog.globalNamed "strconv.ErrRange" = some 3:=by kernel_rfl
theorem gERType:(Tryz.prog.globals[3]?).map (·.type)=some 177:=by kernel_rfl
theorem Zxaa:Tryz.prog.cellsOf 375=1:=by kernel_rfl
theorem Z6ba:Tryz.prog.cellsOf 9=1:=by kernel_rfl
theorem star : "*" ++ "errors.errorString" = "*errors.errorString" := by decide
theorem row109 (u:TypeId) (h:Tryz.prog.typeName? 3 u=some "*errors.errorString"):u=373 :=
 typeName_ptr_named (nm := "errors.errorString") (by rw [star];kernel_rfl) (by kernel_rfl) (by decide) u (by rw [star];exact h)
theorem gTab:Tryz.prog.globalNamed "internal/strconv.uint64pow10" = some 2:=by kernel_rfl
theorem Ztaa:∃ t n,(Tryz.prog.globals[2]?).map (·.type)=some t∧Tryz.prog.underlying t=some (.array n 303)∧Tryz.prog.cellsOf t=n∧n=20:=by
 refine ⟨(((Tryz.prog.globals[2]?).map (·.type)).getD 0),20,by kernel_rfl,by kernel_rfl,by kernel_rfl,rfl⟩
theorem Zhaa {W:World} (h:laidMet Tryz.prog Zyh W):Lib.TabIs Tryz.prog W "internal/strconv.uint64pow10" .u64 Lib.pow10Tab:=by
 obtain ⟨t,n,h1,h2,h3,rfl⟩:=Ztaa
 have e:(Rows.laid_internal_strconv_uint64pow10:DataW Unit)=Lib.tabData .u64 Lib.pow10Tab:=by rfl
 have h4:=Zhb (Zhb h);rw [e] at h4;exact Lib.tabIs_of_head gTab h1 h2 Tryz.underlying303 (by kernel_rfl) h3 h4
theorem Ziaa {W:World} (h:laidMet Tryz.prog Zyh W):∃ b off,W.cell? ⟨3,0,none⟩=some (.iface 373 (.pointer (some ⟨b,off,none⟩))):=by
 obtain ⟨a,s,h1,h2,_,_⟩:=laid_sentinel (Zhb (Zhb (Zhb (Zhb h)))) gER gERType Tryz.underlying177 row109 Tryz.underlying373 Tryz.underlying375 rfl rfl Tryz.underlying9 Zxaa Z6ba;have h0:=World.var?_cell gER h1 0;have hs:=World.cell?_spot h2;obtain ⟨b,off,sp⟩:=a;have hs:sp=none:=hs;subst hs;exact ⟨b,off,by simpa using h0⟩
def Zyy {H:Type} (zs:List (List UInt8)):DataW H := .agg (zs.map fun z => .lit (.string z))
theorem Zat {H:Type} {enc:TypeId × Value→H} {P:Program} {w:World} {base:Nat} {sp:Nat→Bool} {held:Bool} {fuel:Nat} {t e:TypeId} {n:Nat} {cs:List Value} {zs:List (List UInt8)} {p:List MemPlace}
  (ht:P.underlying t=some (.array n e)) (he:P.underlying e=some .string) (hce:P.cellsOf e=1) (hct:P.cellsOf t=n)
  (h:DataW.trod enc P w base sp held fuel t cs=some (Zyy zs,p)):cs.length=zs.length∧∀ i (hi:i<zs.length),∃ s:ByteArray,cs[i]? = some (.string s)∧s.data.toList=zs[i]:=by
 cases fuel with
 | zero=>simp [DataW.trod] at h
 | succ fuel =>
  simp only [DataW.trod,ht,hce,hct,Nat.mul_one] at h
  split at h
  ·rename_i hl
   obtain ⟨xs,hm,hx⟩:=Option.map_eq_some_iff.1 h
   have hxs:xs.map (·.1)=zs.map fun z=>(DataW.lit (.string z):DataW H):=by
    have:=congrArg Prod.fst hx;simpa [Zyy] using this
   have hxl:xs.length=n:=by simpa using Lib.mapM_length hm
   have hzl:zs.length=n:=by
    have:=congrArg List.length hxs;simp at this;omega
   refine ⟨by omega,fun i hi=>?_⟩
   have hin:i<n:=by omega
   obtain ⟨b,hb,hf⟩:=Lib.mapM_at hm i i (by simp [hin]);obtain ⟨z,hc,rfl,_⟩:=DataW.trod_string he hf
   have h1:cs[i]? = some (.string z):=by
    have:=congrArg (·[0]?) hc;simpa [List.getElem?_take,List.getElem?_drop] using this
   have h2:(xs.map (·.1))[i]? = some (DataW.lit (.string z.data.toList):DataW H):=by simp [hb]
   rw [hxs,List.getElem?_map,List.getElem?_eq_getElem hi] at h2;refine ⟨z,h1,?_⟩;have h3:(DataW.lit (.string zs[i]):DataW H) = .lit (.string z.data.toList):=Option.some.inj h2
   injection h3 with h3
   injection h3 with h3
   exact h3.symm
  ·cases h
theorem gSg:Tryz.prog.globalNamed "hopscotch/lex.signs" = some 0:=by kernel_rfl
theorem gSgType:(Tryz.prog.globals[0]?).map (·.type)=some 206:=by kernel_rfl
theorem Z03 {W:World} (h:laidMet Tryz.prog Zyh W):∃ cs:Array Value,W.var? Tryz.prog "hopscotch/lex.signs" = some cs∧cs.size=14∧∀ i (hi:i<signsL.length),∃ s:ByteArray,cs[i]? = some (.string s)∧s.data.toList=signsL[i]:=by
 have e:(Rows.laid_hopscotch_lex_signs:DataW Unit)=Zyy signsL:=by rfl
 have h4:=Zhb (Zhb (Zhb (Zhb (Zhb (Zhb h)))));rw [e] at h4;obtain ⟨ps,⟨g',t',cs,fuel,p,q,hg',ht',hvar,hd,_,_⟩,_⟩:=h4;obtain rfl:=Option.some.inj (gSg.symm.trans hg');obtain rfl:=Option.some.inj (gSgType.symm.trans ht');obtain ⟨h1,h2⟩:=Zat Tryz.underlying206 Tryz.underlying9 Z6ba (by kernel_rfl) hd;refine ⟨_,hvar,(by simpa using h1:cs.size=signsL.length).trans rfl,fun i hi=>?_⟩;obtain ⟨s,h3,h4⟩:=h2 i hi;exact ⟨s,by simpa using h3,h4⟩
theorem Zt6 {W:World} (h:W.ShapedOpen Tryz.prog):∃ m,W.cell? ⟨1,0,none⟩=some (.int .i64 m):=by
 obtain ⟨cs,hh,hs,hr⟩:=h.1 1 #[.int .i64 0] 3 (of_decide_eq_true (by kernel_rfl)) (by kernel_rfl);obtain ⟨ts,hts,_,hall⟩:=hr (by kernel_rfl);rw [show Tryz.prog.cellTypes Tryz.prog.depth 3=some [3] by kernel_rfl] at hts;cases hts
 have h1:0<cs.size:=by rw [hs];decide
 obtain ⟨u,hu',hok⟩:=hall 0 cs[0] (by simp [h1])
 have:u=3:=by simpa using hu'.symm
 subst this
 have hcell:W.cell? ⟨1,0,none⟩=some cs[0]:=by simp [World.cell?,hh,h1]
 rw [hcell];unfold Cell.ok at hok;rw [Tryz.underlying3] at hok
 cases hv:cs[0]<;>rw [hv] at hok<;>first | (obtain ⟨rfl,_⟩:=hok;exact ⟨_,rfl⟩) | simp at hok
theorem laid_G {W:World} (h:laidMet Tryz.prog Zyh W) (hS:W.ShapedOpen Tryz.prog):∃ m,∀ g,RelG (Zqe W) g (gE m g):=by
 obtain ⟨m,hml⟩:=Zt6 hS;refine ⟨m,fun g=>?_⟩;unfold gE
 split
 ·rename_i hg
  subst hg;obtain ⟨b,off,h1⟩:=Ziaa h;refine ⟨?_,trivial⟩;refine .view .old _ 3 0 (fun _ => .iface 373 (.pointer (some ⟨b,off,none⟩))) (fun i hi=>?_) (fun i hi=>?_)
  ·have:i=0:=by simpa [V.cells] using hi
   subst this;refine ⟨by show (W.cell? _).isSome=true;rw [h1]<;>rfl,World.block_lt_of_cell? _ _ h1,h1,rfl⟩
  ·have:i=0:=by simpa [V.cells] using hi
   subst this;exact .iface _ _ _ (.view .old _ b off (fun _ => .nilIface) (fun i hi=>by simp [V.cells] at hi) (fun i hi=>by simp [V.cells] at hi))
 ·split
  ·rename_i hg
   subst hg;have ht:=Zhaa h;have hc:∀ i (hi:i<Lib.pow10Tab.length),W.cell? ⟨2,i,none⟩=some (.int .u64 (Lib.pow10Tab.getD i 0)):=fun i hi=>ht.cell gTab i hi;have hlen:Lib.pow10Tab.length=20:=Lib.pow10Tab_length;have hlt:2<W.heap.size:=World.block_lt_of_cell? _ _ (hc 0 (by omega))
   have hv:W.var? Tryz.prog "internal/strconv.uint64pow10" = some (Lib.pow10Tab.map fun z=>Value.int .u64 z).toArray:=ht
   refine ⟨?_,?_⟩
   ·refine .view .old _ 2 0 (fun i => .int .u64 (Lib.pow10Tab.getD i 0)) (fun i hi=>?_) (fun i hi=>?_)
    ·have hi:i<Lib.pow10Tab.length:=by simpa [V.cells] using hi
     rw [Nat.zero_add];exact ⟨by show (W.cell? _).isSome=true;rw [hc i hi]<;>rfl,hlt,hc i hi,rfl⟩
    ·have hi':i<Lib.pow10Tab.length:=by simpa [V.cells] using hi
     have key:∀ v,v=V.int .u64 (Lib.pow10Tab.getD i 0)→Rel (Zqe W) (Value.int .u64 (Lib.pow10Tab.getD i 0)) v:=fun v e=>by rw [e];exact .int _ _
     exact key _ (by simp [V.cells,List.getD,hi'])
   ·refine ⟨hlt,?_⟩
    unfold World.var? at hv;rw [gTab] at hv;have hv:(match W.heap[2]? with | some (Obj.cells cs _ _)=>some cs | _=>none)=some (Lib.pow10Tab.map fun z=>Value.int .u64 z).toArray:=hv
    split at hv
    ·rename_i cs t fr hh
     cases hv;exact ⟨_,t,fr,hh,by simp⟩
    ·cases hv
  ·split
   ·rename_i hg
    subst hg;obtain ⟨cs,hv,hsz,hcs⟩:=Z03 h;have h0:=fun i=>World.var?_cell gSg hv i
    have hc:∀ i (hi:i<signsL.length),∃ s:ByteArray,W.cell? ⟨0,i,none⟩=some (.string s)∧s.data.toList=signsL[i]:=fun i hi=>by
     obtain ⟨s,h1,h2⟩:=hcs i hi;exact ⟨s,by rw [h0 i];exact h1,h2⟩
    have hlt:0<W.heap.size:=by
     obtain ⟨s,h1,_⟩:=hc 0 (by decide);exact World.block_lt_of_cell? _ _ h1
    refine ⟨?_,?_⟩
    ·refine .view .old _ 0 0 (fun i=>(cs[i]?).getD undef) (fun i hi=>?_) (fun i hi=>?_)
     ·have hi:i<signsL.length:=by simpa [V.cells] using hi
      obtain ⟨s,h1,_⟩:=hcs i hi;rw [Nat.zero_add,h1]
      have h2:W.cell? ⟨0,i,none⟩=some (.string s):=by rw [h0 i];exact h1
      exact ⟨by show (W.cell? _).isSome=true;rw [h2]<;>rfl,hlt,h2,rfl⟩
     ·have hi':i<signsL.length:=by simpa [V.cells] using hi
      obtain ⟨s,h1,h2⟩:=hcs i hi';rw [h1]
      have key:∀ v,v=V.str signsL[i]→Rel (Zqe W) (Value.string s) v:=fun v e=>by rw [e];exact .str _ _ h2
      exact key _ (by simp [V.cells])
    ·refine ⟨hlt,?_⟩
     unfold World.var? at hv;rw [gSg] at hv;have hv:(match W.heap[0]? with | some (Obj.cells cs _ _)=>some cs | _=>none)=some cs:=hv
     split at hv
     ·rename_i cs' t fr hh
      cases hv;exact ⟨_,t,fr,hh,by rw [hsz]<;>rfl⟩
     ·cases hv
   ·split
    ·rename_i hg
     subst hg;refine ⟨?_,trivial⟩;refine .view .old _ 1 0 (fun _ => .int .i64 m) (fun i hi=>?_) (fun i hi=>?_)
     ·have:i=0:=by simpa [V.cells] using hi
      subst this;refine ⟨by show (W.cell? _).isSome=true;rw [hml]<;>rfl,World.block_lt_of_cell? _ _ hml,hml,rfl⟩
     ·have:i=0:=by simpa [V.cells] using hi
      subst this;exact .int _ _
    ·exact ⟨.top _,trivial⟩
end Go.Proofs.YtohdjmgdaaipaaaGreatDoor
end

section
namespace Go.Proofs.YtohdjmgdaaipaaaGreatDoor
open Go.RowKit Go.Hs Go.ChangeShapes Go.WideShapes Go.ChangeAt
open Go.ChangeMaps (open_string shut_string)
set_option maxRecDepth 100000
variable {W:World} {H:Type} {enc:TypeId × Value→H} {b0:Nat} {v:Value} {d:DataW H} {ps:List MemPlace}
theorem own:ownKnob Tryz.prog.godebug=none:=by kernel_rfl
theorem laidOut:laidOutB Tryz.prog=true:=by kernel_rfl
theorem Zoz {a:Assume} {C:Checked} {os:Os} {f:FuncId} {fn:Func} {H:Type} {enc:TypeId × Value→H} {s:ChangeSpec} {conds:List PathCond} {apart fresh handsOn again:Bool} {X:World→Array Value→Prop}
  (hX:∀ (w w':World) (args:Array Value),w.heap=w'.heap→X w args→X w' args)
  (ownk:ownKnob C.prog.godebug=none) (started:os.Started) (noInit:C.prog.inits.idxOf? f=none) (hfn:C.prog.funcs[f]? = some fn)
  (witness:∃ (w:World) (tape:Tape) (i:Input),w.os=os∧(w.forCall tape i).Shaped C.prog∧i.vars=[]∧Input.okWide C.prog (w.forCall tape i) .any w.heap.size f i ∧
   ((s.pre enc C.prog fn conds apart (w.forCall tape i).memory i.args∧X (w.forCall tape i).memory i.args)∧sizedMet enc C.prog fn (OpenSpec.ofChange s) apart (w.forCall tape i).memory i.args)∧a.holds C.prog (lone (Frame.enter C.prog f i.args .normal) [] (w.forCall tape i)))
  (contract:∀ (W:World) (base:Nat) (args:Array Value) (ds gs:List (DataW H)) (before:List MemPlace),W.ShapedOpen C.prog →
   (∀ (j:Nat) t v,fn.params[j]? = some t→args[j]? = some v→Value.okWide C.prog W .any base t v) →
   DataW.Whole enc C.prog fn.params.toList s.vars apart W args.toList ds gs before→X W args →
   Calls C.prog f args W fun e W'=>∃ v,e = .returned v∧s.post enc C.prog fn apart fresh handsOn again W args v W') :
  ReturnsInHanded a C os f .any (fun w args=>(s.pre enc C.prog fn conds apart w args∧X w args)∧sizedMet enc C.prog fn (OpenSpec.ofChange s) apart w args) (s.post enc C.prog fn apart fresh handsOn again):=by
 refine returnsInHanded_of_calls ownk started noInit witness ?_;intro w tape i _ hsh _ hok hpre _;obtain ⟨_,_,_,fn',hfn',_,_,_,_,hval⟩:=hok;have e:fn'=fn:=Option.some.inj (hfn'.symm.trans hfn);subst e;obtain ⟨⟨⟨ds,gs,before,hw,_⟩,hx⟩,_⟩:=hpre;have hw':=DataW.Whole.of_heap (w':=w.forCall tape i) (by rfl) hw;refine (contract (w.forCall tape i) w.heap.size i.args ds gs before hsh hval hw' (hX _ _ _ (by rfl) hx)).mono fun e W' ⟨v,he,hp⟩=>?_;subst he;exact ChangeSpec.post_blind hp
end Go.Proofs.YtohdjmgdaaipaaaGreatDoor
end

section
namespace Go.Proofs.YtohdjmgdaaipaaaGreatDoor
open Go.RowKit Go.Hs Go.ChangeShapes Go.WideShapes Go.ChangeAt
set_option maxRecDepth 100000
set_option maxHeartbeats 4000000
theorem sfMaps:mapsRowed Tryz.prog=true:=by kernel_rfl
theorem sfStops:(Tryz.prog.stops==[])=true:=by kernel_rfl
theorem sfKnobs:(Tryz.prog.stopKnobs==[])=true:=by kernel_rfl
theorem sfKeys:(Rows.actParseRow.plainKeys==Tryz.prog.plainKeys)=true:=by kernel_rfl
theorem sfHeard:Tryz.prog.stopsHeard=true:=by kernel_rfl
theorem sfEnter:Tryz.prog.mayEnter=true:=by kernel_rfl
theorem Zr9:(Rows.actParseRow.lifted==Tryz.prog.liftsFinal)=true:=by kernel_rfl
theorem sfMake:(Tryz.prog.make==some Rows.actParseRow.make)=true:=by kernel_rfl
end Go.Proofs.YtohdjmgdaaipaaaGreatDoor
end
