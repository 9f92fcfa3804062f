/- Part 41 of the proof of a statement of seat YtnjcehngoajnnaaGreatDoor: HsGExprFr HsGExprPa HsGRedR5 HsActLaw HsGActR HsExprSub HsTypLaw HsGActS HsGActS2 HsGActS3. -/
import Derived.Test.YtnjcehngoajnnaaGreatDoorPart40
import Derived.Test.YtnjcehngoajnnaaGreatDoorPart39
import Derived.Test.YtnjcehngoajnnaaGreatDoorPart38
import Derived.Test.YtnjcehngoajnnaaGreatDoorPart37
import Derived.Laws.StructEq
set_option linter.unusedSimpArgs false
set_option linter.unusedVariables false
section
namespace Go.Hs
open Go.Proofs
set_option maxRecDepth 10000
theorem Zrz {NO:Nat} {tl:List V} {G:Nat→V} (hG:GOk G) {f:FuncId} {args args':List V} {sl:Sl Tk} {g:Nat} {r r':RS} {v:V} (h:RdS NO tl G f args' sl g r v r') {H:Heap} {K:V→Heap→Prop}
  (hen:Zda Tryz.prog f=true) (htl:∀ F:Col→Col,tl.map (V.recol F)=tl) (hargs:args.map (V.recol Col.ent)=args') (hv:v.recol Col.bk=v) (hr:r.nodes=[])
  (cs:List V) (h8:H 8 = .cells .new g 0 cs) (hcs:Z3a Col.ent cs=(Za .any 3 Zib sl :: .int .i64 r.i :: .nils :: .int .i64 r.e::tl)) (hN:H NO = .dead)
  (hk:∀ gx',K v (Zba H [(8,.cells .new g 0 (Za .any 3 Zib sl :: .int .i64 r'.i::grown NO gx' 6 r'.nodes :: .int .i64 r'.e::tl)),(NO,Zta gx' Z6 r'.nodes)])) :
  CallA Tryz.prog G f (.ptr 8 g 0::args) H K:=by
 refine Z61 hG [(8,rdO NO tl sl g 0 r),(NO,ndO 0 r.nodes)] hen ?_ ?_ ?_
 ·intro p hp
  simp only [List.mem_cons,List.not_mem_nil,or_false] at hp
  rcases hp with rfl | rfl
  ·simp only [h8,AObj.toAny,hcs,Zxa,hr];rfl
  ·simp only [hN,AObj.toAny,hr];rfl
 ·intro p hp c g' fz cs' ho
  simp only [List.mem_cons,List.not_mem_nil,or_false] at hp
  rcases hp with rfl | rfl
  ·simp only [h8,AObj.cells.injEq] at ho;exact ho.1.symm
  ·simp only [hN] at ho;cases ho
 ·have ha:(V.ptr 8 g 0::args).map (V.recol Col.ent) = .ptr 8 g 0::args':=by rw [List.map_cons,Zgl,hargs]
  rw [ha];refine (h 0).mono ?_;rintro _ H' ⟨rfl,gx',q8,qN⟩
  have b8:(rdO NO tl sl g gx' r').backNew = .cells .new g 0 (Za .any 3 Zib sl :: .int .i64 r'.i::grown NO gx' 6 r'.nodes :: .int .i64 r'.e::tl):=by
   simp only [Zxa,AObj.backNew,Zy,List.map_cons,Zeb,Zye,Zwf,htl];rfl
  have bN:(ndO gx' r'.nodes).backNew=Zta gx' Z6 r'.nodes:=by
   unfold ndO
   cases hn:r'.nodes with
   | nil=>rfl
   | cons x t =>
    rw [Zwl _ _ _ (by simp),Z7b _ _ (by simp)];simp only [AObj.backNew,Zy];rw [← Zjf,List.map_map];have he:(x::t).map (V.recol Col.bk ∘ Z6)=(x::t).map Z6:=List.map_congr_left fun y _=>Zfl _ y
    first | done | rw [he]
  simp only [List.map_cons,List.map_nil,q8,qN,b8,bN,hv];exact hk gx'
def Zuh (c:Col) (l:List XN):V:=Za c 6 Z6 (Zu l)
def encFr (c:Col) (p:List XN × Int × Int):V := .tuple [.agg [Zuh c p.1],.int .i64 p.2.1,.int .i64 p.2.2]
theorem Zaq {l:List Tk} (hT:TkOk l):∀ n∈(Zw l (l.length+1) 1 ⟨0,[],0⟩).2.nodes,n.name.length<100000 :=
 Zbq (Q:=fun s=>s.length<100000) l (Nat.zero_lt_succ _) (fun i _=>Znp hT i) _ _ _ (fun n hn=>by cases hn)
theorem Zu3 (G:Nat→V) (hE:GExp G) (c:Col) (sl:Sl Tk) (hT:TkOk sl.l):Spec Tryz.prog G 50 [Za c 3 Zib sl] Zp (fun v _=>v=encFr .new (Zjd sl.l)):=by
 have hG:=hE.ok;have hTl:=hT.len;refine Zo 0 44 [.cell 2 24,.tmp 3,.tmp 4] Tryz.func50 fun X=>?_
 have hP:Zjd sl.l=if (Zw sl.l (sl.l.length+1) 1 ⟨0,[],0⟩).1=false then (([]:List XN),((Zw sl.l (sl.l.length+1) 1 ⟨0,[],0⟩).2.i:Int),(Zw sl.l (sl.l.length+1) 1 ⟨0,[],0⟩).2.e)
  else if Zwb (Zw sl.l (sl.l.length+1) 1 ⟨0,[],0⟩).2.nodes > 64 then ([],0,3) else ((Zw sl.l (sl.l.length+1) 1 ⟨0,[],0⟩).2.nodes,((Zw sl.l (sl.l.length+1) 1 ⟨0,[],0⟩).2.i:Int),(0:Int)):=rfl
 have hr0:Zcm sl.l ⟨0,[],0⟩:=⟨Nat.zero_le _,Nat.le_refl _⟩;have hcl:=fun g=>Zyz G hE sl hT g (sl.l.length+1) 1 ⟨0,[],0⟩ (by decide) (by decide) (Nat.lt_succ_self _) hr0;have hnm2:=Zaq hT;have hok:=(Znc sl.l (sl.l.length+1) 1 ⟨0,[],0⟩);generalize Zjd sl.l=res at hP ⊢;generalize Zw sl.l (sl.l.length+1) 1 ⟨0,[],0⟩=y at hP hcl hok hnm2;obtain ⟨b,r⟩:=y;simp only at hP hcl hok hnm2;refine Z1 ?_;intro g2;refine Z1 ?_;intro g8;refine Z2 ?_;refine AW.block ?_;refine AW.weak (Zz (fun _=>false) (l:=[(5,.ptr 8 g8 0),(2,.ptr 2 g2 0)]) (m:=[(2,.cells .new g2 0 [.nils]),(8,.cells .new g8 0 [Za .any 3 Zib sl,.int .i64 0,.nils,.int .i64 0,.func (.func 78) [] []])]) ?_ ?_) ?_
 ·refine Zs ?_
  exact ⟨Zb _,Zb _⟩
 ·simp only [Zm,Zt,and_true]
  exact ⟨FzO.keep rfl zp,Zch (c := .new) (fz:=0) (cs:=[Za c 3 Zib sl,.int .i64 0,.nils,.int .i64 0,.func (.func 78) [] []]) rfl zp ⟨Fz.any (Zeb _ _ _),Zb _,Zb _,Zb _,Zb _,trivial⟩⟩
 refine Z1 ?_;refine Zrz hG (hcl g8) (by kernel_rfl) (fun F=>rfl) rfl rfl rfl _ zp (by simp only [Zy,List.map_cons,List.map_nil,Zeb];rfl) zp fun gx=>?_;simp -implicitDefEqProofs only[go_sem,seval,↓reduceIte,Zba]
 cases b with
 | false =>
  refine Zrc rfl ?_;refine AW.weak (Zz (fun o=>o==8) (l:=[(5,.view .new (.agg [Za .any 3 Zib sl,.int .i64 r.i,grown 1031 gx 6 r.nodes,.int .i64 r.e,.func (.func 78) [] []])),(2,.ptr 2 g2 0)]) (m:=[(2,.cells .new g2 0 [.nils])]) ?_ ?_) ?_
  ·refine Zs ?_
   exact ⟨Fz.ptr (v := .agg [Za .any 3 Zib sl,.int .i64 r.i,grown 1031 gx 6 r.nodes,.int .i64 r.e,.func (.func 78) [] []]) (c := .new) (fz:=0) rfl zp,Zb _⟩
  ·simp only [Zm,Zt,and_true]
   exact FzO.keep rfl zp
  refine Z2 ?_;refine Zv ⟨fun _ => .top,fun i=>if i=4 then .lend else if i=8 then .lend else .pure⟩ (by kernel_rfl) hG (by kernel_rfl) (by kernel_rfl) ?_;refine Zs ?_;refine Z ?_
  rw [hP]<;>rfl
 | true =>
 refine Z9a rfl ?_;refine AW.weak (Zz (fun o=>o==1031) (l:=[(5,.ptr 8 g8 0),(2,.ptr 2 g2 0)]) (m:=[(2,.cells .new g2 0 [.nils]),(8,.cells .new g8 0 [Za .any 3 Zib sl,.int .i64 r.i,Zuh .new r.nodes,.int .i64 r.e,.func (.func 78) [] []])]) ?_ ?_) ?_
 ·refine Zs ?_
  exact ⟨Zb _,Zb _⟩
 ·simp only [Zm,Zt,and_true]
  exact ⟨FzO.keep rfl zp,Zch (c := .new) (fz:=0) (cs:=[Za .any 3 Zib sl,.int .i64 r.i,grown 1031 gx 6 r.nodes,.int .i64 r.e,.func (.func 78) [] []]) rfl zp ⟨Zb _,Zb _,Z4a rfl zp Zre,Zb _,Zb _,trivial⟩⟩
 have hrl:r.nodes.length<1000000:=by have:=(hok.ok hr0);have h1:=this.1;have h2:=this.2;omega
 rw [if_neg (by simp)] at hP;refine Zwa (by kernel_rfl) ?_;simp -implicitDefEqProofs only[go_sem,seval,↓reduceIte,Zuh];refine Zcf @Zl hG ?_ (s:=(Zmo G hE Col.new.ent (Zu r.nodes) (by rw [Zha];exact hrl) (by rw [Zha];exact hnm2)));refine Zd rfl (fun h26=>?_) (fun h26=>?_)
 ·have h26:Zwb r.nodes > 64:=by simpa using h26
  rw [if_pos h26] at hP;refine Z ?_
  rw [hP]<;>rfl
 have h26:¬ Zwb r.nodes > 64:=by simpa using h26
 rw [if_neg h26] at hP;refine Z0 ?_;refine AW.weak (Zz (fun o=>o==8) (l:=[(5,.view .new (.agg [Za .any 3 Zib sl,.int .i64 r.i,Zuh .new r.nodes,.int .i64 r.e,.func (.func 78) [] []])),(2,.ptr 2 g2 0)]) (m:=[(2,.cells .new g2 0 [.nils])]) ?_ ?_) ?_
 ·refine Zs ?_
  exact ⟨Fz.ptr (v := .agg [Za .any 3 Zib sl,.int .i64 r.i,Zuh .new r.nodes,.int .i64 r.e,.func (.func 78) [] []]) (c := .new) (fz:=0) rfl zp,Zb _⟩
 ·simp only [Zm,Zt,and_true]
  exact FzO.keep rfl zp
 refine Z2 ?_;refine Zv ⟨fun _ => .top,fun i=>if i=3 then .lend else if i=8 then .lend else .pure⟩ (by kernel_rfl) hG (by kernel_rfl) (by kernel_rfl) ?_;simp -implicitDefEqProofs only[go_sem,seval,↓reduceIte,Zuh];refine Z ?_
 rw [hP]<;>rfl
end Go.Hs
end

section
namespace Go.Hs
open Go.Proofs
set_option maxRecDepth 10000
theorem Zzr:∀ (f:Nat) (s:List UInt8) (i:Nat) (acc:List Tk),(∀ t∈acc,t.text.length≤s.length)→∀ t∈(Z1c f s i acc).1,t.text.length≤s.length
 | 0,s,i,acc,h=>by rw [Z1c];exact h
 | f+1,s,i,acc,h=>by
  rw [Z1c]
  split
  ·split
   ·intro t ht;cases ht
   ·refine Zzr f s _ _ ?_
    intro t ht
    rcases List.mem_append.1 ht with h1 | h1
    ·exact h t h1
    ·rw [List.mem_singleton.1 h1]
     show ((s.drop i).take _).length≤s.length
     rw [List.length_take,List.length_drop];omega
  ·exact h
theorem Zr6 {s:List UInt8} (hs:s.length<100000):TkOk (Zac s).1:=by
 unfold Zac
 split
 ·exact ⟨Nat.zero_lt_succ _,fun t ht=>by cases ht⟩
 refine ⟨?_,?_⟩
 ·have:=Zlw (s.length+1) s (blk s) []
  have h0:([]:List Tk).length=0:=rfl;omega
 ·intro t ht
  have:=Zzr (s.length+1) s (blk s) [] (fun t ht=>by cases ht) t ht;omega
end Go.Hs
end

section
namespace Go.Hs
open Go.Proofs
set_option maxRecDepth 10000
def encRr (c:Col) (p:List XN × Int × Int):V := .tuple [Zuh c p.1,.int .i64 p.2.1,.int .i64 p.2.2]
theorem Zm4 (G:Nat→V) (hG:GOk G) (c:Col) (sl:Sl Tk) (hT:TkOk sl.l):Spec Tryz.prog G 125 [Za c 3 Zib sl] Zp (fun v _=>v=encRr .new (Zjd sl.l)):=by
 have hTl:=hT.len;refine Zo 0 34 [.tmp 2,.tmp 3,.tmp 4] Tryz.func125 fun X=>?_
 have hP:Zjd sl.l=if (Zw sl.l (sl.l.length+1) 1 ⟨0,[],0⟩).1=false then (([]:List XN),((Zw sl.l (sl.l.length+1) 1 ⟨0,[],0⟩).2.i:Int),(Zw sl.l (sl.l.length+1) 1 ⟨0,[],0⟩).2.e)
  else if Zwb (Zw sl.l (sl.l.length+1) 1 ⟨0,[],0⟩).2.nodes > 64 then ([],0,3) else ((Zw sl.l (sl.l.length+1) 1 ⟨0,[],0⟩).2.nodes,((Zw sl.l (sl.l.length+1) 1 ⟨0,[],0⟩).2.i:Int),(0:Int)):=rfl
 have hr0:Zcm sl.l ⟨0,[],0⟩:=⟨Nat.zero_le _,Nat.le_refl _⟩;have hcl:=fun g=>(Zm0 G hG sl hT g (sl.l.length+1) ⟨0,[],0⟩ (Nat.lt_succ_self _) hr0).1 1 (by decide) (by decide);have hnm2:=Zaq hT;have hok:=(Znc sl.l (sl.l.length+1) 1 ⟨0,[],0⟩);generalize Zjd sl.l=res at hP ⊢;generalize Zw sl.l (sl.l.length+1) 1 ⟨0,[],0⟩=y at hP hcl hok hnm2;obtain ⟨b,r⟩:=y;simp only at hP hcl hok hnm2
 have hrl:r.nodes.length<1000000:=by have:=(hok.ok hr0);have h1:=this.1;have h2:=this.2;omega
 refine Z1 ?_;refine Z1 ?_;intro g8;refine AW.weak (Zz (fun _=>false) (l:=[(5,.ptr 8 g8 0)]) (m:=[(8,.cells .new g8 0 [Za .any 3 Zib sl,.int .i64 0,.nils,.int .i64 0])]) ?_ ?_) ?_
 ·refine Zs ?_
  exact Zb _
 ·simp only [Zm,Zt,and_true]
  exact Zch (c := .new) (fz:=0) (cs:=[Za c 3 Zib sl,.int .i64 0,.nils,.int .i64 0]) rfl zp ⟨Fz.any (Zeb _ _ _),Zb _,Zb _,Zb _,trivial⟩
 refine Z1 ?_;refine Zrz hG (hcl g8) (by kernel_rfl) (fun F=>rfl) rfl rfl rfl _ zp (by simp only [Zy,List.map_cons,List.map_nil,Zeb];rfl) zp fun gx=>?_;simp -implicitDefEqProofs only[go_sem,seval,↓reduceIte,Zba]
 cases b with
 | false =>
  refine Zrc rfl ?_;refine AW.weak (Zz (fun o=>o==8) (l:=[(5,.view .new (.agg [Za .any 3 Zib sl,.int .i64 r.i,grown 1012 gx 6 r.nodes,.int .i64 r.e]))]) (m:=[]) ?_ trivial) ?_
  ·refine Zs ?_
   exact Fz.ptr (v := .agg [Za .any 3 Zib sl,.int .i64 r.i,grown 1012 gx 6 r.nodes,.int .i64 r.e]) (c := .new) (fz:=0) rfl zp
  refine ZT hG ?_;refine Z ?_
  rw [hP]<;>rfl
 | true =>
 refine Z0 ?_;refine AW.weak (Zz (fun o=>o==1012) (l:=[(5,.ptr 8 g8 0)]) (m:=[(8,.cells .new g8 0 [Za .any 3 Zib sl,.int .i64 r.i,Zuh .new r.nodes,.int .i64 r.e])]) ?_ ?_) ?_
 ·refine Zs ?_
  exact Zb _
 ·simp only [Zm,Zt,and_true]
  exact Zch (c := .new) (fz:=0) (cs:=[Za .any 3 Zib sl,.int .i64 r.i,grown 1012 gx 6 r.nodes,.int .i64 r.e]) rfl zp ⟨Zb _,Zb _,Z4a rfl zp Zre,Zb _,trivial⟩
 rw [if_neg (by simp)] at hP;refine Z2 ?_;refine Zwa (by kernel_rfl) ?_;simp -implicitDefEqProofs only[go_sem,seval,↓reduceIte,Zuh];refine Znf @Zl hG ?_ (s:=(Zfn G hG _ (Zu r.nodes) (by rw [Zha];exact hrl) (by rw [Zha];exact hnm2)));rw [Zha];refine Zs ?_;refine Zd rfl (fun h26=>?_) (fun h26=>?_)
 ·have h26:Zwb r.nodes > 64:=by simpa using h26
  rw [if_pos h26] at hP;refine Z ?_
  rw [hP]<;>rfl
 have h26:¬ Zwb r.nodes > 64:=by simpa using h26
 rw [if_neg h26] at hP;refine Z0 ?_;refine AW.weak (Zz (fun o=>o==8) (l:=[(5,.view .new (.agg [Za .any 3 Zib sl,.int .i64 r.i,Zuh .new r.nodes,.int .i64 r.e]))]) (m:=[]) ?_ trivial) ?_
 ·refine Zs ?_
  exact Fz.ptr (v := .agg [Za .any 3 Zib sl,.int .i64 r.i,Zuh .new r.nodes,.int .i64 r.e]) (c := .new) (fz:=0) rfl zp
 refine Z2 <| Zv ⟨fun _ => .top,fun _ => .pure⟩ (by kernel_rfl) hG (by kernel_rfl) (by kernel_rfl) ?_
 simp -implicitDefEqProofs only[go_sem,seval,↓reduceIte,Zuh];refine Z ?_
 rw [hP]<;>rfl
end Go.Hs
end

section
namespace Go.Hs
theorem Zpx {l:List Tk} (h:(Zjd l).2.2≠0):(Zjd l).1=[]:=by
 unfold Zjd at h ⊢
 split
 ·rfl
 ·split
  ·rfl
  ·rename_i h1 h2
   rw [if_neg h1,if_neg h2] at h;exact absurd rfl h
structure ASt where
 kind:Int
 name:List UInt8
 x:List XN
 deriving DecidableEq,Inhabited
def Z9g:List UInt8:=[101,109,105,116]
def Zxb (l:List Tk) (i:Nat):List UInt8:=match l[i]? with | some t=>t.text | none=>[]
def Z7g (l:List Tk) (i:Nat):Bool:=match l[i]? with | some t=>t.kind==2 | none=>false
theorem Zqf {l:List Tk} {i:Nat} {t:Tk} (h:l[i]? = some t):Zxb l i=t.text:=by unfold Zxb;rw [h]
theorem Zbi {l:List Tk} {i:Nat} (h:l.length≤i):Zxb l i=[]:=by unfold Zxb;rw [List.getElem?_eq_none h]
theorem Z6g {l:List Tk} {i:Nat} {t:Tk} (h:l[i]? = some t):Z7g l i=(t.kind==2):=by unfold Z7g;rw [h]
theorem Zhf {l:List Tk} {i:Nat} (h:l.length≤i):Z7g l i=false:=by unfold Z7g;rw [List.getElem?_eq_none h]
def Zbc (l:List Tk):List (List UInt8)→Nat→Bool × Nat
 | [],i=>(true,i)
 | w::r,i=>if Zxb l i=w then Zbc l r (i+1) else (false,i)
def Z6h (l:List Tk) (s:ASt) (ws:List (List UInt8)) (i:Nat):ASt × Int × Int :=
 ((s,((Zbc l ws i).2:Int),if (Zbc l ws i).1=true then 0 else 110))
def Zok (l:List Tk) (k:Int) (nm:List UInt8) (ws:List (List UInt8)) (i:Nat):ASt × Int × Int :=
 if (Zjd (l.drop i)).2.2≠0 then (⟨k,nm,[]⟩,(i:Int)+(Zjd (l.drop i)).2.1,(Zjd (l.drop i)).2.2)
 else Z6h l ⟨k,nm,(Zjd (l.drop i)).1⟩ ws (i+(Zjd (l.drop i)).2.1.toNat)
def Zle (l:List Tk) (k:Int) (w:List UInt8) (ws:List (List UInt8)) (i:Nat):ASt × Int × Int :=
 if Z7g l i=false then (⟨k,[],[]⟩,(i:Int),110)
 else if Zxb l (i+1)≠w then (⟨k,Zxb l i,[]⟩,((i+1:Nat):Int),110)
 else if k=2∧Zxb l (i+2)=[41] then Z6h l ⟨k,Zxb l i,[]⟩ ws (i+2)
 else Zok l k (Zxb l i) ws (i+2)
def Z2c (l:List Tk) (i:Nat):ASt × Int × Int :=
 if Zxb l i=Z9g then Zle l 2 [40] [[41],[59]] (i+1) else Zle l 1 [58,61] [[59]] i
theorem Zf2 {l:List Tk}:∀ (ws:List (List UInt8)) (i:Nat),i≤(Zbc l ws i).2
 | [],i=>Nat.le_refl _
 | w::r,i=>by
  rw [Zbc]
  split
  ·exact Nat.le_trans (Nat.le_succ i) (Zf2 r (i+1))
  ·exact Nat.le_refl _
theorem Zke {l:List Tk} {i:Nat} (h:Zxb l i≠[]):i<l.length:=by
 refine Classical.byContradiction fun h2=>h (Zbi (by omega))
theorem Ze2 {l:List Tk}:∀ (ws:List (List UInt8)) (i:Nat),(∀ w∈ws,w≠[])→(Zbc l ws i).1=true→(Zbc l ws i).2=i+ws.length∧(ws≠[]→(Zbc l ws i).2≤l.length)
 | [],i,_,_=>⟨rfl,fun h=>absurd rfl h⟩
 | w::r,i,hw,h=>by
  rw [Zbc] at h ⊢
  split at h
  ·rename_i h1
   rw [if_pos h1];obtain ⟨h2,h3⟩:=Ze2 r (i+1) (fun x hx=>hw x (List.mem_cons_of_mem _ hx)) h;refine ⟨by rw [h2,List.length_cons];omega,fun _=>?_⟩;have h4:=Zke (l:=l) (i:=i) (by rw [h1];exact hw w (List.mem_cons_self ..))
   cases r with
   | nil=>rw [h2];exact h4
   | cons a b=>exact h3 (by simp)
  ·cases h
structure StB (l:List Tk) (i:Nat) (r:ASt × Int × Int):Prop where
 ge:(i:Int)≤r.2.1
 ok:r.2.2=0→(i:Int)<r.2.1∧r.2.1≤l.length
theorem Z06 {l:List Tk} {s:ASt} {ws:List (List UInt8)} {i j:Nat} (hw:∀ w∈ws,w≠[]) (hn:ws≠[]) (hij:i≤j):StB l i (Z6h l s ws j):=by
 have h1:=Zf2 (l:=l) ws j;refine ⟨by show (i:Int)≤((Zbc l ws j).2:Int);omega,fun h=>?_⟩
 have ht:(Zbc l ws j).1=true:=by
  refine Classical.byContradiction fun h2=>?_;have h:(if (Zbc l ws j).1=true then (0:Int) else 110)=0:=h;rw [if_neg h2] at h;cases h
 obtain ⟨h3,h4⟩:=Ze2 ws j hw ht;have h5:=h4 hn;have h6:0<ws.length:=List.length_pos_iff.2 hn
 show (i:Int)<((Zbc l ws j).2:Int)∧((Zbc l ws j).2:Int)≤l.length
 omega
theorem exprS_b {l:List Tk} {k:Int} {nm:List UInt8} {ws:List (List UInt8)} {i j:Nat} (hw:∀ w∈ws,w≠[]) (hn:ws≠[]) (hij:i≤j):StB l i (Zok l k nm ws j):=by
 unfold Zok;have hb:=(Zri (l:=l.drop j)).1
 split
 ·rename_i h
  exact ⟨by show (i:Int)≤(j:Int)+(Zjd (l.drop j)).2.1;omega,fun h2=>absurd h2 h⟩
 ·exact Z06 hw hn (by omega)
theorem Zx6 {l:List Tk} {k:Int} {w:List UInt8} {ws:List (List UInt8)} {i j:Nat} (hw:∀ w∈ws,w≠[]) (hn:ws≠[]) (hij:i≤j):StB l i (Zle l k w ws j):=by
 unfold Zle
 split
 ·exact ⟨by show (i:Int)≤(j:Int);omega,fun h=>by cases h⟩
 split
 ·exact ⟨by show (i:Int)≤((j+1:Nat):Int);omega,fun h=>by cases h⟩
 split
 ·exact Z06 hw hn (by omega)
 ·exact exprS_b hw hn (by omega)
theorem Zvo (l:List Tk) (i:Nat):StB l i (Z2c l i):=by
 unfold Z2c
 split
 ·exact Zx6 (by decide) (by decide) (by omega)
 ·exact Zx6 (by decide) (by decide) (Nat.le_refl _)
def Zhp (l:List Tk) (n:Nat) (i:Int):Int:=if i<l.length then (l.getD i.toNat ⟨0,[],0⟩).pos else n
def Z8f (l:List Tk) (n:Nat):Nat→Nat→List ASt→List ASt × Int × Int
 | 0,_,acc=>(acc,0,0)
 | f+1,i,acc =>
  if l.length≤i then (acc,0,0)
  else if acc.length=512 then ([],Zhp l n i,3)
  else if (Z2c l i).2.2≠0 then ([],Zhp l n (Z2c l i).2.1,(Z2c l i).2.2)
  else Z8f l n f (Z2c l i).2.1.toNat (acc++[(Z2c l i).1])
def Z3c (s:List UInt8):List ASt × Int × Int :=
 if (Zac s).2.2≠0 then ([],(Zac s).2.1,(Zac s).2.2) else Z8f (Zac s).1 s.length ((Zac s).1.length+1) 0 []
end Go.Hs
end

section
namespace Go.Hs
open Go.Proofs
set_option maxRecDepth 10000
theorem Zuj (G:Nat→V) (hG:GOk G) (c:Col) (s:Sl Tk) (i:Nat) :
  Spec Tryz.prog G 123 [Za c 3 Zib s,.int .i64 i] Zp (fun v _=>v = .str (Zxb s.l i)):=by
 refine Zo 0 14 [.tmp 4] Tryz.func123 fun X=>?_;refine Z1 ?_;refine Z2 ?_
 by_cases hi:i<s.l.length
 ·have h1:decide ((i:Int)<s.l.length)=true:=zT
  have hg:=List.getElem?_eq_getElem hi;generalize s.l[i]=t at hg;rw [Zqf hg];refine Z1f h1 ?_;refine Zd rfl (fun h8=>?_) (fun h8=>?_)
  ·exact Zq (zi hg @Z2b)
  ·cases h8
 ·have h1:decide ((i:Int)<s.l.length)=false:=zF
  refine Zf h1 ?_;rw [Zbi (by omega)]
theorem Z8x (G:Nat→V) (hG:GOk G) (c:Col) (s:Sl Tk) (i:Nat) :
  Spec Tryz.prog G 124 [Za c 3 Zib s,.int .i64 i] Zp (fun v _=>v = .bool (Z7g s.l i)):=by
 refine Zo 0 17 [.tmp 4] Tryz.func124 fun X=>?_;refine Z1 ?_
 by_cases hi:i<s.l.length
 ·have h1:decide ((i:Int)<s.l.length)=true:=zT
  have hg:=List.getElem?_eq_getElem hi;generalize s.l[i]=t at hg;rw [Z6g hg];exact Zq (zi h1 (zi hg @Z2b))
 ·have h1:decide ((i:Int)<s.l.length)=false:=zF
  rw [Zhf (by omega)];exact Zq h1
def Zcg (c:Col) (s:ASt):V := .agg [.int .u8 s.kind,.str s.name,Za c 6 Z6 (Zu s.x)]
theorem Zqk (c:Col) (s:ASt):Zcg c s = .agg [.int .u8 s.kind,.str s.name,Za c 6 Z6 (Zu s.x)]:=rfl
def encSR (r:ASt × Int × Int):V := .tuple [Zcg .new r.1,.int .i64 r.2.1,.int .i64 r.2.2]
theorem Zs5 (G:Nat→V) (hG:GOk G) (c:Col) (sl:Sl Tk) (hT:TkOk sl.l) (i:Nat) (hi:i≤sl.l.length) :
  Spec Tryz.prog G 86 [Za c 3 Zib sl,.int .i64 i] Zp (fun v _=>v=encSR (Z2c sl.l i)):=by
 have hP:Z2c sl.l i=if Zxb sl.l i=Z9g then Zle sl.l 2 [40] [[41],[59]] (i+1) else Zle sl.l 1 [58,61] [[59]] i:=rfl
 generalize Z2c sl.l i=res at hP ⊢;have hTl:=hT.len;refine Zo 0 98 [.cell 4 128,.tmp 5,.tmp 6] Tryz.func86 fun X=>?_;refine Z1 ?_;intro g4;refine Z1 ?_;intro g7;refine Z1 ?_;intro g15;refine Z1 ?_;intro g16
 refine Zva (fun (x:(Nat × Int) × List UInt8 × List (List UInt8))=>st [(0,Za c 3 Zib sl),(1,.int .i64 x.1.1),(4,.ptr 4 g4 0),(7,.ptr 7 g7 0),(8,Za .new 1 V.str (.mk false [x.2.1])),(9,Za .new 1 V.str (.mk false x.2.2))] [(4,.cells .new g4 0 [.int .u8 0,.str [],.nils]),(7,.cells .new g7 0 [.int .u8 x.1.2,.str [],.nils])])
  (fun x=>x.1.1≤sl.l.length+1∧(x.1.2=1∨x.1.2=2)∧x.2.2.length≤2∧x.2.1≠[]∧res=Zle sl.l x.1.2 x.2.1 x.2.2 x.1.1) (fun K1 hK1=>?_) ?_
 ·refine Z1 ?_
  refine Znf @Zeb hG ?_ (s:=(Zuj G hG _ sl i))
  by_cases he:Zxb sl.l i=Z9g
  ·rw [if_pos he] at hP
   rw [he];unfold Z9g;have q1:(([101,109,105,116]:List UInt8)==[101,109,105,116])=true:=rfl;refine Zsf q1 ?_;refine Z1 ?_;refine Z1 ?_;intro g22;refine Z1 ?_;intro g23
   have hw:IntKind.i64.wrap ((i:Int)+1)=((i+1:Nat):Int):=by rw [w64 (by omega) (by omega)];omega
   refine Z1f hw ?_;refine hK1 _ ((i+1,2),[40],[[41],[59]]) ⟨by show i+1≤_;omega,.inr rfl,by show (2:Nat)≤2;decide,by show ([40]:List UInt8)≠[];decide,hP⟩ (Zz (fun o=>o==22 || o==23) ?_ ?_)
   ·refine Zs ?_
    exact ⟨Zb _,Zb _,Zb _,Zb _,Ztg (f:=V.str) (l:=[[40]]) (m:=1) (g:=g22) (fz:=0) (c := .new) rfl zp (fun _=>rfl),Ztg (f:=V.str) (l:=[[41],[59]]) (m:=1) (g:=g23) (fz:=0) (c := .new) rfl zp (fun _=>rfl)⟩
   ·simp only [Zm,Zt,and_true]
    exact ⟨FzO.keep rfl zp,FzO.keep rfl zp⟩
  ·rw [if_neg he] at hP
   have q1:(Zxb sl.l i==[101,109,105,116])=false:=by rw [beq_eq_false_iff_ne];exact he
   refine Zsf q1 ?_;refine Z0 ?_;refine hK1 _ ((i,1),[58,61],[[59]]) ⟨by show i≤_;omega,.inl rfl,by show (1:Nat)≤2;decide,by show ([58,61]:List UInt8)≠[];decide,hP⟩ (Zz (fun o=>o==15 || o==16) ?_ ?_)
   ·refine Zs ?_
    exact ⟨Zb _,Zb _,Zb _,Zb _,Ztg (f:=V.str) (l:=[[58,61]]) (m:=1) (g:=g15) (fz:=0) (c := .new) rfl zp (fun _=>rfl),Ztg (f:=V.str) (l:=[[59]]) (m:=1) (g:=g16) (fz:=0) (c := .new) rfl zp (fun _=>rfl)⟩
   ·simp only [Zm,Zt,and_true]
    exact ⟨FzO.keep rfl zp,FzO.keep rfl zp⟩
 try clear hP
 rintro ⟨⟨j,k⟩,w,ws⟩ ⟨hj,hk,hws,hwne,hP⟩;simp only at hj hk hws hwne hP;have hl1:(Sl.mk false [w]).l=[w]:=rfl;refine Z1 ?_;refine Znf @Zeb hG ?_ (s:=(Z8x G hG _ sl j));unfold Zle at hP
 cases hn:Z7g sl.l j with
 | false =>
  rw [if_pos hn] at hP;refine Zs ?_;refine Z ?_
  rw [hP]<;>rfl
 | true =>
 rw [if_neg (by rw [hn];decide)] at hP
 have hjl:j<sl.l.length:=by
  refine Classical.byContradiction fun h=>?_;rw [Zhf (by omega)] at hn;cases hn
 have hg:=List.getElem?_eq_getElem hjl;generalize sl.l[j]=t at hg;rw [Zqf hg] at hP;refine Zs ?_;refine Z0 ?_
 have hw:IntKind.i64.wrap ((j:Int)+1)=((j+1:Nat):Int):=by rw [w64 (by omega) (by omega)];omega
 have hw2:IntKind.i64.wrap (((j+1:Nat):Int)+1)=((j+2:Nat):Int):=by rw [w64 (by omega) (by omega)];omega
 refine Z1f (zi hg @Z2b) ?_;refine Z1f hw ?_
 have p1:Zbh Tryz.prog G 123 [Za c 3 Zib sl,.int .i64 ((j+1:Nat):Int)] (.str (Zxb sl.l (j+1))):=⟨by kernel_rfl,by
  refine Zsf @Zeb ?_;refine (Zuj G hG _ sl (j+1)).mono ?_;rintro _ _ rfl
  rfl⟩
 refine Z2 ?_
 refine Z2 <| Zv ⟨fun i=>if i=2 then .str (Zxb sl.l (j+1)) else .top,fun _ => .pure⟩ (by kernel_rfl) hG (by kernel_rfl) (by kernel_rfl) ?_
 simp -implicitDefEqProofs only[go_sem,seval,↓reduceIte,hl1,List.getElem?_cons_zero];refine ⟨p1,?_⟩
 by_cases hw1:Zxb sl.l (j+1)=w
 rotate_left
 ·rw [if_pos hw1] at hP
  have q1:(Zxb sl.l (j+1)==w)=false:=by simpa using hw1
  rw [q1];refine Z ?_
  rw [hP]<;>rfl
 rw [if_neg (by simpa using hw1)] at hP
 have q1:(Zxb sl.l (j+1)==w)=true:=by simpa using hw1
 rw [q1]
 try clear p1
 refine Z0 ?_
 have hjl1:j+1<sl.l.length:=by
  refine Classical.byContradiction fun h=>?_;rw [Zbi (by omega)] at hw1;exact hwne hw1.symm
 refine Z1f hw2 ?_
 refine Zva (fun (x:Nat × List XN)=>st [(0,Za c 3 Zib sl),(1,.int .i64 x.1),(4,.ptr 4 g4 0),(7,.ptr 7 g7 0),(9,Za .new 1 V.str (.mk false ws))] [(4,.cells .new g4 0 [.int .u8 0,.str [],.nils]),(7,.cells .new g7 0 [.int .u8 k,.str t.text,Za .new 6 Z6 (Zu x.2)])])
  (fun x=>x.1≤sl.l.length+2∧res=Z6h sl.l ⟨k,t.text,x.2⟩ ws x.1) (fun K4 hK4=>?_) ?_
 ·refine Zva (fun (b:Bool)=>st [(0,Za c 3 Zib sl),(1,.int .i64 ((j+2:Nat):Int)),(4,.ptr 4 g4 0),(7,.ptr 7 g7 0),(9,Za .new 1 V.str (.mk false ws)),(59,.bool b)] [(4,.cells .new g4 0 [.int .u8 0,.str [],.nils]),(7,.cells .new g7 0 [.int .u8 k,.str t.text,.nils])])
   (fun b=>b=true ↔ ¬ (k=2∧Zxb sl.l (j+2)=[41])) (fun K5 hK5=>?_) ?_
  ·rcases hk with rfl | rfl
   ·refine AW.region (by kernel_rfl) ?_
    have q2:((1:Int)==1)=true:=rfl;refine Zsf q2 ?_;exact hK5 _ true ⟨fun _ h=>absurd h.1 (by decide),fun _=>rfl⟩ (Ze zp zp)
   ·refine AW.region (by kernel_rfl) ?_
    have q2:((2:Int)==1)=false:=rfl;refine Zsf q2 ?_;refine Zcf @Zeb hG ?_ (s:=(Zuj G hG _ sl (j+2)));refine hK5 _ (!(Zxb sl.l (j+2)==[41])) ⟨fun h h2=>?_,fun h=>?_⟩ (Ze zp zp)
    ·rw [h2.2] at h;cases h
    ·have:¬ Zxb sl.l (j+2)=[41]:=fun h3=>h ⟨rfl,h3⟩
     simpa using this
  intro b hb
  cases b with
  | false =>
   have hq:k=2∧Zxb sl.l (j+2)=[41]:=Classical.byContradiction fun h=>by have:=hb.2 h;cases this
   rw [if_pos hq] at hP;refine Z0 ?_;exact hK4 _ (j+2,[]) ⟨by show j+2≤_;omega,hP⟩ (Ze zp zp)
  | true =>
  have hq:=hb.1 rfl;rw [if_neg hq] at hP;unfold Zok at hP;refine Zrc rfl ?_;have hj2:j+2≤sl.l.length:=hjl1
  have hsub:(sl.sub (j+2) sl.l.length).l=sl.l.drop (j+2):=by rw [Z0h];exact List.take_of_length_le (by rw [List.length_drop];omega)
  have hfr:=fun c=>Zm4 G hG c (sl.sub (j+2) sl.l.length) (by rw [hsub];exact ⟨by rw [List.length_drop];omega,fun t ht=>hT.text t (List.mem_of_mem_drop ht)⟩);have hbd:=Zri (l:=sl.l.drop (j+2));rw [hsub] at hfr;rw [List.length_drop] at hbd;generalize Zjd (sl.l.drop (j+2))=p at hP hfr hbd;obtain ⟨xs,n,e⟩:=p;simp only at hP hbd
  have hw3:IntKind.i64.wrap (((j+2:Nat):Int)+n)=((j+2+n.toNat:Nat):Int):=by rw [w64 (by omega) (by omega)];omega
  have hll:sl.l.length≤sl.l.length:=Nat.le_refl _;refine Zwa (by kernel_rfl) ?_;simp -implicitDefEqProofs only[go_sem,seval,↓reduceIte,hj2,hll,and_self];refine Znf @Zeb hG ?_ (s:=(hfr _));simp -implicitDefEqProofs only[go_sem,seval,↓reduceIte,encRr,Zuh,Zl];refine Z1f hw3 ?_;refine Z2 ?_
  by_cases he:e=0
  rotate_left
  ·rw [if_pos he] at hP
   have q2:(e==0)=false:=by simpa using he
   refine Zwa (by kernel_rfl) ?_;simp -implicitDefEqProofs only[go_sem,seval,↓reduceIte,bne,q2];refine Z ?_
   rw [hP,show ((j+2:Nat):Int)+n=((j+2+n.toNat:Nat):Int) by omega]<;>rfl
  rw [if_neg (by simpa using he)] at hP
  have q2:(e==0)=true:=by simpa using he
  refine Zwa (by kernel_rfl) ?_;simp -implicitDefEqProofs only[go_sem,seval,↓reduceIte,bne,q2];refine Z1 ?_;exact hK4 _ (j+2+n.toNat,xs) ⟨by show j+2+n.toNat≤_;omega,hP⟩ (Ze zp zp)
 rintro ⟨i2,xs⟩ ⟨hi2,hP⟩;simp only at hi2 hP;unfold Z6h at hP;refine Z5 fun K5 hK5=>?_;refine Z1 ?_;refine AW.block ?_
 refine Z6a ws.length (fun m (_:Unit)=>st [(0,Za c 3 Zib sl),(1,.int .i64 ((i2+m:Nat):Int)),(4,.ptr 4 g4 0),(7,.ptr 7 g7 0),(9,Za .new 1 V.str (.mk false ws)),(13,.int .i64 m)] [(4,.cells .new g4 0 [.int .u8 0,.str [],.nils]),(7,.cells .new g7 0 [.int .u8 k,.str t.text,Za .new 6 Z6 (Zu xs)])])
  (fun m _=>Zbc sl.l ws i2=Zbc sl.l (ws.drop m) (i2+m)) 0 () (Nat.zero_le _) rfl (Ze zp zp) ?_
 intro m _ hm hR L7 hL7;refine Z2 ?_;have hwl:(Sl.mk false ws).l=ws:=rfl;refine Z1f hwl ?_;refine Zd rfl (fun h81=>?_) (fun h81=>?_);rotate_left
 ·have hm2:m=ws.length:=by have:=zN h81;omega
  rw [List.drop_eq_nil_of_le (by omega)] at hR;refine Z0 ?_;refine hK5 _ ?_;refine Z ?_;rw [hP,hR]
  show _=encSR (_,((i2+m:Nat):Int),if true=true then 0 else 110)
  rfl
 have hm1:m<ws.length:=zL h81;have hgm:ws[m]? = some ws[m]:=List.getElem?_eq_getElem hm1;have hdr:ws.drop m=ws[m]::ws.drop (m+1):=List.drop_eq_getElem_cons hm1;generalize ws[m]=w2 at hgm hdr;rw [hdr,Zbc] at hR;refine Z0 ?_
 have p2:Zbh Tryz.prog G 123 [Za c 3 Zib sl,.int .i64 ((i2+m:Nat):Int)] (.str (Zxb sl.l (i2+m))):=⟨by kernel_rfl,by
  refine Zsf @Zeb ?_;refine (Zuj G hG _ sl (i2+m)).mono ?_;rintro _ _ rfl
  rfl⟩
 refine Z2 ?_;refine AW.block ?_;refine Z2 ?_
 refine Z2 <| Zv ⟨fun i=>if i=2 then .str (Zxb sl.l (i2+m)) else .top,fun _ => .pure⟩ (by kernel_rfl) hG (by kernel_rfl) (by kernel_rfl) ?_
 refine Zsf (zi hwl hgm) ?_;refine ⟨p2,?_⟩
 try clear p2
 by_cases hw4:Zxb sl.l (i2+m)=w2
 rotate_left
 ·rw [if_neg hw4] at hR
  have q2:(Zxb sl.l (i2+m)==w2)=false:=by simpa using hw4
  rw [q2];refine Z ?_
  rw [hP,hR]<;>rfl
 rw [if_pos hw4] at hR
 have q2:(Zxb sl.l (i2+m)==w2)=true:=by simpa using hw4
 rw [q2];refine Z0 ?_
 have hw5:IntKind.i64.wrap (((i2+m:Nat):Int)+1)=((i2+(m+1):Nat):Int):=by rw [w64 (by omega) (by omega)];omega
 have hw6:IntKind.i64.wrap ((m:Int)+1)=((m+1:Nat):Int):=by rw [w64 (by omega) (by omega)];omega
 refine Z1f hw5 ?_;refine Z1f hw6 ?_;exact hL7 _ ⟨hm1,(),hR,Ze zp zp⟩
end Go.Hs
end

section
namespace Go.Hs
inductive Sub:X→X→Nat→Prop where
 | refl (x:X):Sub x x 0
 | un {op:Int} {a y:X} {b:Nat}:Sub a y b→Sub (.un op a) y b
 | bin1 {op:Int} {a c y:X} {b:Nat}:Sub a y b→Sub (.bin op a c) y b
 | bin2 {op:Int} {a c y:X} {b:Nat}:Sub c y b→Sub (.bin op a c) y (a.size+b)
 | ite1 {a c d y:X} {b:Nat}:Sub a y b→Sub (.ite a c d) y b
 | ite2 {a c d y:X} {b:Nat}:Sub c y b→Sub (.ite a c d) y (a.size+b)
 | ite3 {a c d y:X} {b:Nat}:Sub d y b→Sub (.ite a c d) y (a.size+c.size+b)
def Zge:X→List X
 | .leaf op num name=>[.leaf op num name]
 | .un op a=>Zge a++[.un op a]
 | .bin op a c=>Zge a++Zge c++[.bin op a c]
 | .ite a c d=>Zge a++Zge c++Zge d++[.ite a c d]
theorem Z9b:∀ x:X,(Zge x).length=x.size
 | .leaf .. => rfl
 | .un _ a=>by simp [Zge,X.size,Z9b a]
 | .bin _ a b=>by simp [Zge,X.size,Z9b a,Z9b b];omega
 | .ite a b c=>by simp [Zge,X.size,Z9b a,Z9b b,Z9b c];omega
theorem Sub.trans {x y z:X} {b c:Nat} (h:Sub x y b) (h2:Sub y z c):Sub x z (b+c):=by
 induction h with
 | refl=>simpa using h2
 | un _ ih=>exact .un (ih h2)
 | bin1 _ ih=>exact .bin1 (ih h2)
 | bin2 _ ih=>rw [Nat.add_assoc];exact .bin2 (ih h2)
 | ite1 _ ih=>exact .ite1 (ih h2)
 | ite2 _ ih=>rw [Nat.add_assoc];exact .ite2 (ih h2)
 | ite3 _ ih=>rw [Nat.add_assoc];exact .ite3 (ih h2)
theorem Sub.ok {x y:X} {b:Nat} (h:Sub x y b):x.ok=true→y.ok=true:=by
 induction h with
 | refl=>exact id
 | un _ ih=>intro h;simp [X.ok] at h;exact ih h.2
 | bin1 _ ih=>intro h;simp [X.ok] at h;exact ih h.1.2
 | bin2 _ ih=>intro h;simp [X.ok] at h;exact ih h.2
 | ite1 _ ih=>intro h;simp [X.ok] at h;exact ih h.1.1
 | ite2 _ ih=>intro h;simp [X.ok] at h;exact ih h.1.2
 | ite3 _ ih=>intro h;simp [X.ok] at h;exact ih h.2
theorem Sub.size {x y:X} {b:Nat} (h:Sub x y b):b+y.size≤x.size:=by
 induction h with
 | refl=>simp
 | un _ ih=>simp only [X.size];omega
 | bin1 _ ih=>simp only [X.size];omega
 | bin2 _ ih=>simp only [X.size];omega
 | ite1 _ ih=>simp only [X.size];omega
 | ite2 _ ih=>simp only [X.size];omega
 | ite3 _ ih=>simp only [X.size];omega
theorem Sub.depth {x y:X} {b:Nat} (h:Sub x y b):y.depth≤x.depth:=by
 induction h with
 | refl=>simp
 | un _ ih=>simp only [X.depth];omega
 | bin1 _ ih=>simp only [X.depth];omega
 | bin2 _ ih=>simp only [X.depth];omega
 | ite1 _ ih=>simp only [X.depth];omega
 | ite2 _ ih=>simp only [X.depth];omega
 | ite3 _ ih=>simp only [X.depth];omega
theorem Sub.at {x y:X} {b:Nat} (h:Sub x y b):∀ {l:List XN} {k:Nat},At l x k→At l y (k+b):=by
 induction h with
 | refl=>exact id
 | un _ ih=>intro l k h;exact ih h.un
 | bin1 _ ih=>intro l k h;exact ih h.bin.1
 | bin2 _ ih=>intro l k h;rw [← Nat.add_assoc];exact ih h.bin.2
 | ite1 _ ih=>intro l k h;exact ih h.ite.1
 | ite2 _ ih=>intro l k h;rw [← Nat.add_assoc];exact ih h.ite.2.1
 | ite3 _ ih=>intro l k h;rw [← Nat.add_assoc,← Nat.add_assoc];exact ih h.ite.2.2
theorem Znaa (x:X):(Zge x)[x.size-1]? = some x:=by
 have:∃ l,Zge x=l++[x]:=by
  cases x with
  | leaf=>exact ⟨[],rfl⟩
  | un=>exact ⟨_,rfl⟩
  | bin=>exact ⟨_,rfl⟩
  | ite=>exact ⟨_,rfl⟩
 obtain ⟨l,h⟩:=this;have hl:=Z9b x;rw [h,List.length_append,List.length_singleton] at hl;rw [h,List.getElem?_append_right (by omega),show x.size-1-l.length=0 by omega];rfl
theorem Sub.get {x y:X} {b:Nat} (h:Sub x y b):(Zge x)[b+y.size-1]? = some y:=by
 have hy:=y.size_pos
 induction h with
 | refl x=>rw [Nat.zero_add];exact Znaa x
 | @un op a y b h ih =>
  have:=h.size;have hl:=Z9b a;rw [Zge,List.getElem?_append_left (by omega)];exact ih hy
 | @bin1 op a c y b h ih =>
  have:=h.size;have hl:=Z9b a;rw [Zge,List.append_assoc,List.getElem?_append_left (by omega)];exact ih hy
 | @bin2 op a c y b h ih =>
  have:=h.size;have hl:=Z9b a;have hl2:=Z9b c;rw [Zge,List.append_assoc,List.getElem?_append_right (by omega),List.getElem?_append_left (by omega),← ih hy]
  congr 1;omega
 | @ite1 a c d y b h ih =>
  have:=h.size;have hl:=Z9b a;rw [Zge,List.append_assoc,List.append_assoc,List.getElem?_append_left (by omega)];exact ih hy
 | @ite2 a c d y b h ih =>
  have:=h.size;have hl:=Z9b a;have hl2:=Z9b c;rw [Zge,List.append_assoc,List.append_assoc,List.getElem?_append_right (by omega),List.getElem?_append_left (by omega),← ih hy]
  congr 1;omega
 | @ite3 a c d y b h ih =>
  have:=h.size;have hl:=Z9b a;have hl2:=Z9b c;have hl3:=Z9b d;rw [Zge,List.append_assoc,List.append_assoc,List.getElem?_append_right (by omega),List.getElem?_append_right (by omega),List.getElem?_append_left (by omega),← ih hy]
  congr 1;omega
theorem Zdk:∀ (x:X) (i:Nat),i<x.size→∃ y b,Sub x y b∧b+y.size=i+1
 | .leaf op num name,i,h=>⟨_,0,.refl _,by simp only [X.size] at h ⊢;omega⟩
 | .un op a,i,h=>by
  by_cases h1:i<a.size
  ·obtain ⟨y,b,h2,h3⟩:=Zdk a i h1
   exact ⟨y,b,.un h2,h3⟩
  ·exact ⟨_,0,.refl _,by simp only [X.size] at h ⊢;omega⟩
 | .bin op a c,i,h=>by
  by_cases h1:i<a.size
  ·obtain ⟨y,b,h2,h3⟩:=Zdk a i h1
   exact ⟨y,b,.bin1 h2,h3⟩
  by_cases h1':i-a.size<c.size
  ·obtain ⟨y,b,h2,h3⟩:=Zdk c (i-a.size) h1'
   exact ⟨y,_,.bin2 h2,by omega⟩
  ·exact ⟨_,0,.refl _,by simp only [X.size] at h ⊢;omega⟩
 | .ite a c d,i,h=>by
  by_cases h1:i<a.size
  ·obtain ⟨y,b,h2,h3⟩:=Zdk a i h1
   exact ⟨y,b,.ite1 h2,h3⟩
  by_cases h1':i-a.size<c.size
  ·obtain ⟨y,b,h2,h3⟩:=Zdk c (i-a.size) h1'
   exact ⟨y,_,.ite2 h2,by omega⟩
  by_cases h1'':i-a.size-c.size<d.size
  ·obtain ⟨y,b,h2,h3⟩:=Zdk d (i-a.size-c.size) h1''
   exact ⟨y,_,.ite3 h2,by omega⟩
  ·exact ⟨_,0,.refl _,by simp only [X.size] at h ⊢;omega⟩
theorem Sub.top {x y:X} {b:Nat} (h:Sub x y b):(x.row 0)[b+y.size-1]? = some (y.top b):=by
 have:=(h.at (Z2h x)).get;rw [Nat.zero_add] at this;exact this
theorem sub_at (x:X) (i:Nat) (h:i<x.size):∃ y b,Sub x y b∧b+y.size=i+1∧(Zge x)[i]? = some y∧(x.row 0)[i]? = some (y.top b):=by
 obtain ⟨y,b,h1,h2⟩:=Zdk x i h
 have e:i=b+y.size-1:=by omega
 exact ⟨y,b,h1,h2,e ▸ h1.get,e ▸ h1.top⟩
end Go.Hs
end

section
namespace Go.Hs
def kd (op:Int) (named:Bool) (a b c:Int):Int :=
 if op=1∨op=2∧named=true then 1
 else if op=3∨op=4 then 2
 else if op=5∧a=1∨7≤op∧op≤11∧a=1∧b=1 then 1
 else if 12≤op∧op≤15∧a=1∧b=1∨(op=16∨op=17)∧a=b∧a≠0 then 2
 else if op=6∧a=2∨18≤op∧op≤21∧a=2∧b=2 then 2
 else if op=22∧a=2∧b=c then b else 0
end Go.Hs
end

section
namespace Go.Hs
open Go.Proofs
set_option maxRecDepth 10000
structure AM where
 kind:Int
 name:List UInt8
 x:Sl XN
def AM.v (s:AM):ASt:=⟨s.kind,s.name,s.x.l⟩
def Zia (c:Col) (s:AM):V := .agg [.int .u8 s.kind,.str s.name,Za c 6 Z6 s.x]
theorem Zlb (c:Col) (s:AM):Zia c s = .agg [.int .u8 s.kind,.str s.name,Za c 6 Z6 s.x]:=rfl
theorem Zue (f:Col→Col) (c:Col) (s:AM):(Zia c s).recol f=Zia (f c) s:=by simp only [Zlb,Zhl,List.map_cons,List.map_nil,Zye,Zii,Zl]
@[go_sem] theorem Z8o (g:Col→Col) (c c1:Col) (s:Sl AM):(Za c 3 (Zia c1) s).recol g=Za (g c) 3 (Zia (g c1)) s:=Z3g g c 3 (Zue g c1) s
end Go.Hs
end

section
namespace Go.Hs
open Go.Proofs
set_option maxRecDepth 10000
def Zzk (s:ASt):Bool:=(s.kind==1 || s.kind==2) && isP s.name==2 && ((s.kind==2 && s.x.isEmpty) || Zbb s.x==0)
def Zob (l:List ASt):Int:=if l.length > 512 then 2 else if l.all Zzk=true then 0 else 2
structure AmOk (l:List AM):Prop where
 len:l.length<1000000
 row:∀ a∈l,a.name.length<100000∧a.x.l.length<1000000∧∀ n∈a.x.l,n.name.length<100000
theorem Zhca {l:List AM} {k:Nat} {a:AM} (h:l[k]? = some a) (h1:(l.take k).all (fun a=>Zzk a.v)=true) (h2:Zzk a.v=true):(l.take (k+1)).all (fun a=>Zzk a.v)=true:=by
 rw [List.take_add_one,h,List.all_append,h1];simpa using h2
theorem all_bad {l:List AM} {k:Nat} {a:AM} (h:l[k]? = some a) (h2:Zzk a.v=false):(l.map AM.v).all Zzk=false:=by
 rw [Bool.eq_false_iff];intro h3;rw [List.all_eq_true] at h3;have:=h3 a.v (List.mem_map_of_mem (List.mem_of_getElem? h));rw [h2] at this;cases this
theorem Zl1 (G:Nat→V) (hG:GOk G) (c c1:Col) (s:Sl AM) (hA:AmOk s.l) :
  Spec Tryz.prog G 52 [Za c 3 (Zia c1) s] Zp (fun v _=>v = .int .i64 (Zob (s.l.map AM.v))):=by
 have hs:=hA.len;refine Zo 0 47 [.tmp 2] Tryz.func52 fun X=>?_
 have hP:Zob (s.l.map AM.v)=if s.l.length > 512 then 2 else if (s.l.map AM.v).all Zzk=true then 0 else 2:=by unfold Zob;rw [List.length_map]
 generalize Zob (s.l.map AM.v)=res at hP ⊢;refine Z1 ?_;refine Z2 ?_
 by_cases hl:s.l.length > 512
 ·rw [if_pos hl] at hP
  have q1:decide ((s.l.length:Int) > 512)=true:=zT;refine Zf q1 ?_;rw [hP]
 rw [if_neg hl] at hP;have q1:decide ((s.l.length:Int) > 512)=false:=zF;refine Z1f q1 ?_;refine Z1 ?_;refine AW.block ?_
 refine Z6a s.l.length (fun k (_:Unit)=>st [(0,Za c 3 (Zia c1) s),(3,.int .i64 k)] []) (fun k _=>(s.l.take k).all (fun a=>Zzk a.v)=true) 0 () (Nat.zero_le _) rfl
  (Ze zp zp) ?_
 intro k _ hk hR L3 hL3;refine Z1 ?_;refine Zd rfl (fun h11=>?_) (fun h11=>?_);rotate_left
 ·have hk1:k=s.l.length:=by have:=zN h11;omega
  refine Z0 ?_;rw [hk1,List.take_length] at hR;rw [if_pos (by rw [List.all_map];exact hR)] at hP;refine Z ?_;rw [hP]
 have hk1:k<s.l.length:=zL h11;have hg:=List.getElem?_eq_getElem hk1;obtain ⟨r1,r2,r3⟩:=hA.row _ (List.getElem_mem hk1);generalize s.l[k]=a at hg r1 r2 r3;have hbad:=fun h=>if_neg (c:=((s.l.map AM.v).all Zzk=true)) (by rw [all_bad hg h];decide) ▸ hP;refine Z0 ?_;refine Zva (fun (_:Unit)=>st [(0,Za c 3 (Zia c1) s),(3,.int .i64 k)] []) (fun _=>Zzk a.v=true) (fun K5 hK5=>?_) ?_;rotate_left
 ·intro _ hab
  refine Z1 ?_;exact hL3 _ ⟨hk1,(),Zhca hg hR hab,Ze zw zp⟩
 refine Z1f (zi hg @Zlb) ?_;intro g4;refine Zva (fun (_:Unit)=>st [(0,Za c 3 (Zia c1) s),(3,.int .i64 k),(4,.ptr 4 g4 0)] [(4,.cells .new g4 0 [.int .u8 a.kind,.str a.name,Za c1 6 Z6 a.x])]) (fun _=>(a.kind=1∨a.kind=2)∧isP a.name=2) (fun K6 hK6=>?_) ?_
 ·by_cases hk12:a.kind=1∨a.kind=2
  rotate_left
  ·have q2:(a.kind==1)=false:=by rw [beq_eq_false_iff_ne];exact fun h=>hk12 (.inl h)
   have q3:(a.kind==2)=false:=by rw [beq_eq_false_iff_ne];exact fun h=>hk12 (.inr h)
   refine Zwa (by kernel_rfl) ?_;simp -implicitDefEqProofs only[go_sem,seval,↓reduceIte,bne,q2,q3];refine Z ?_;rw [hbad (by unfold Zzk AM.v;rw [show ((a.kind==1)=false) from q2,show ((a.kind==2)=false) from q3]<;>rfl)]
  by_cases hi:isP a.name=2
  rotate_left
  ·have q4:((isP a.name:Int)==2)=false:=by rw [beq_eq_false_iff_ne];omega
   have q5:(isP a.name==2)=false:=by simpa using hi
   rcases hk12 with e1 | e1
   ·have q2:(a.kind==1)=true:=by simpa using e1
    refine Zwa (by kernel_rfl) ?_;simp -implicitDefEqProofs only[go_sem,seval,↓reduceIte,bne,q2];refine Zn hG ?_ (s:=(Zfj G hG a.name (by omega)));simp -implicitDefEqProofs only[go_sem,seval,↓reduceIte,bne,q4];refine Z ?_;rw [hbad (by unfold Zzk AM.v;simp only [q5,Bool.and_false,Bool.false_and])]
   ·have q2:(a.kind==1)=false:=by rw [beq_eq_false_iff_ne];omega
    have q3:(a.kind==2)=true:=by simpa using e1
    refine Zwa (by kernel_rfl) ?_;simp -implicitDefEqProofs only[go_sem,seval,↓reduceIte,bne,q2,q3];refine Zn hG ?_ (s:=(Zfj G hG a.name (by omega)));simp -implicitDefEqProofs only[go_sem,seval,↓reduceIte,bne,q4];refine Z ?_;rw [hbad (by unfold Zzk AM.v;simp only [q5,Bool.and_false,Bool.false_and])]
  have q4:((isP a.name:Int)==2)=true:=by rw [beq_iff_eq];omega
  rcases hk12 with e1 | e1
  ·have q2:(a.kind==1)=true:=by simpa using e1
   refine Zwa (by kernel_rfl) ?_;simp -implicitDefEqProofs only[go_sem,seval,↓reduceIte,bne,q2];refine Zn hG ?_ (s:=(Zfj G hG a.name (by omega)));simp -implicitDefEqProofs only[go_sem,seval,↓reduceIte,bne,q4];refine Z0 ?_;exact hK6 _ () ⟨.inl e1,hi⟩ (Ze zp zp)
  ·have q2:(a.kind==1)=false:=by rw [beq_eq_false_iff_ne];omega
   have q3:(a.kind==2)=true:=by simpa using e1
   refine Zwa (by kernel_rfl) ?_;simp -implicitDefEqProofs only[go_sem,seval,↓reduceIte,bne,q2,q3];refine Zn hG ?_ (s:=(Zfj G hG a.name (by omega)));simp -implicitDefEqProofs only[go_sem,seval,↓reduceIte,bne,q4];refine Z0 ?_;exact hK6 _ () ⟨.inr e1,hi⟩ (Ze zp zp)
 rintro _ ⟨hk12,hi⟩
 have q5:(isP a.name==2)=true:=by simpa using hi
 have q6:(a.kind==1 || a.kind==2)=true:=by simpa using hk12
 have hst:Zzk a.v=((a.kind==2 && a.x.l.isEmpty) || Zbb a.x.l==0):=by
  unfold Zzk AM.v;simp only [q5,q6,Bool.true_and]
 by_cases hbare:a.kind=2∧a.x.l.length=0
 ·have q2:(a.kind==1)=false:=by rw [beq_eq_false_iff_ne];omega
  have q3:(a.kind==2)=true:=by simpa using hbare.1
  have q7:decide ((a.x.l.length:Int) > 0)=false:=zF;refine Z1f (zi q2 q7) ?_;refine Z0 ?_;exact hK5 _ () (by rw [hst,q3,List.isEmpty_iff_length_eq_zero.2 hbare.2]<;>rfl) (Ze zp zp)
 have hst2:Zzk a.v=(Zbb a.x.l==0):=by
  rw [hst]
  have:(a.kind==2 && a.x.l.isEmpty)=false:=by
   rw [Bool.eq_false_iff];intro h;rw [Bool.and_eq_true] at h;exact hbare ⟨by simpa using h.1,List.isEmpty_iff_length_eq_zero.1 h.2⟩
  rw [this,Bool.false_or]
 have hck:=fun c=>Zhk G hG c a.x r2 r3;generalize Zbb a.x.l=ck at hst2 hck;refine Zva (fun (b:Bool)=>st [(0,Za c 3 (Zia c1) s),(3,.int .i64 k),(46,.bool b)] []) (fun b=>b = !(ck==0)) (fun K7 hK7=>?_) ?_
 ·refine AW.region (by kernel_rfl) ?_
  by_cases e1:a.kind=1
  ·have q2:(a.kind==1)=true:=by simpa using e1
   simp -implicitDefEqProofs only[go_sem,seval,↓reduceIte,q2,bne];refine Znf @Zl hG ?_ (s:=(hck _));simp -implicitDefEqProofs only[go_sem,seval,↓reduceIte,q2,bne];exact hK7 _ _ rfl (Ze zp zp)
  ·have q2:(a.kind==1)=false:=by simpa using e1
   have q7:decide ((a.x.l.length:Int) > 0)=true:=zT;simp -implicitDefEqProofs only[go_sem,seval,↓reduceIte,q2,q7,bne];refine Znf @Zl hG ?_ (s:=(hck _));simp -implicitDefEqProofs only[go_sem,seval,↓reduceIte,q2,q7,bne];exact hK7 _ _ rfl (Ze zp zp)
 rintro b rfl
 cases hck0:(ck==0) with
 | false =>
  refine Z ?_;rw [hbad (by rw [hst2,hck0])]
 | true =>
  refine Z0 ?_;exact hK5 _ () (by rw [hst2,hck0]) (Ze zp zp)
end Go.Hs
end

section
namespace Go.Hs
open Go.Proofs
set_option maxRecDepth 10000
theorem Zi1 (G:Nat→V) (hE:GExp G) (c:Col) (a:AM) (r1:a.name.length<100000) (r2:a.x.l.length<1000000) (r3:∀ n∈a.x.l,n.name.length<100000) :
  Spec Tryz.prog G 60 [Zia c a] Zp (fun v _=>v = .bool (Zzk a.v)):=by
 have hG:=hE.ok;refine Zo 0 37 [.tmp 2] Tryz.func60 fun X=>?_;have hst:Zzk a.v=((a.kind==1 || a.kind==2) && isP a.name==2 && ((a.kind==2 && a.x.l.isEmpty) || Zbb a.x.l==0)):=rfl;generalize Zzk a.v=res at hst ⊢
 have hem:a.x.l.isEmpty=((a.x.l.length:Int)==0):=by
  rw [Bool.eq_iff_iff,List.isEmpty_iff_length_eq_zero,beq_iff_eq];omega
 have hip:(isP a.name==2)=((isP a.name:Int)==2):=by
  rw [Bool.eq_iff_iff,beq_iff_eq,beq_iff_eq];omega
 rw [hem,hip] at hst;simp only [Zlb];refine Z1 ?_;intro g1;refine Zva (fun (_:Unit)=>st [(1,.ptr 1 g1 0),(3,.bool (a.kind==2 && ((a.x.l.length:Int)==0)))] [(1,.cells .new g1 0 [.int .u8 a.kind,.str a.name,Za c 6 Z6 a.x])]) (fun _=>True) (fun K1 hK1=>?_) ?_
 ·refine AW.region (by kernel_rfl) ?_
  cases q3:(a.kind==2) with
  | false =>
   rw [q3] at hK1;refine Zsf q3 ?_;exact hK1 _ () trivial (Ze zp zp)
  | true =>
   rw [q3] at hK1;refine Zsf q3 ?_;exact hK1 _ () trivial (Ze zp zp)
 intro _ _;refine Zva (fun (_:Unit)=>st [(2,.bool res)] []) (fun _=>True) (fun K2 hK2=>?_) ?_;rotate_left
 ·intro _ _
  exact Zr
 refine AW.region (by kernel_rfl) ?_
 cases q2:(a.kind==1) with
 | true =>
  have q3:(a.kind==2)=false:=by
   rw [beq_iff_eq] at q2;rw [beq_eq_false_iff_ne,q2];decide
  rw [q3];refine Zsf q2 ?_;refine Zn hG ?_ (s:=(Zco G hE a.name r1))
  cases q4:((isP a.name:Int)==2) with
  | false =>
   refine Zsf q4 ?_;refine hK2 _ () trivial (Ze (by rw [hst,q2,q3,q4];simp -implicitDefEqProofs only[go_sem,seval,↓reduceIte];try rfl) zp)
  | true =>
   refine Zsf q4 ?_;refine Zcf @Zl hG ?_ (s:=(Z9j G hE _ a.x r2 r3));refine hK2 _ () trivial (Ze (by rw [hst,q2,q3,q4];simp -implicitDefEqProofs only[go_sem,seval,↓reduceIte];try rfl) zp)
 | false =>
 cases q3:(a.kind==2) with
 | false =>
  refine Zsf (zi q2 q3) ?_;refine hK2 _ () trivial (Ze (by rw [hst,q2,q3];simp -implicitDefEqProofs only[go_sem,seval,↓reduceIte];try rfl) zp)
 | true =>
 refine Zsf (zi q2 q3) ?_;refine Zn hG ?_ (s:=(Zco G hE a.name r1))
 cases q4:((isP a.name:Int)==2) with
 | false =>
  refine Zsf q4 ?_;refine hK2 _ () trivial (Ze (by rw [hst,q2,q3,q4];simp -implicitDefEqProofs only[go_sem,seval,↓reduceIte];try rfl) zp)
 | true =>
 cases q5:((a.x.l.length:Int)==0) with
 | true =>
  refine Zsf (zi q4 q5) ?_;refine hK2 _ () trivial (Ze (by rw [hst,q2,q3,q4,q5];simp -implicitDefEqProofs only[go_sem,seval,↓reduceIte];try rfl) zp)
 | false =>
  refine Zsf (zi q4 q5) ?_;refine Zcf @Zl hG ?_ (s:=(Z9j G hE _ a.x r2 r3));refine hK2 _ () trivial (Ze (by rw [hst,q2,q3,q4,q5];simp -implicitDefEqProofs only[go_sem,seval,↓reduceIte];try rfl) zp)
structure AmB (a:AM):Prop where
 n:a.name.length<100000
 l:a.x.l.length<1000000
 x:∀ n∈a.x.l,n.name.length<100000
theorem Z9x (G:Nat→V) (hE:GExp G) (c:Col) (a:AM) (hb:AmB a) :
  Spec Tryz.prog G 59 [Zia c a] Zp (fun v _=>v = .bool (!Zzk a.v)):=by
 have hG:=hE.ok;refine Zo 0 6 [.tmp 2] Tryz.func59 fun X=>?_;simp only [Zlb];refine Z1 ?_;intro g1;refine Z1 ?_;refine CallA.pure hG (by kernel_rfl) ?_;simp only [List.map_cons,List.map_nil,← Zlb,Zue];refine (Zi1 G hE _ a hb.n hb.l hb.x).mono ?_;rintro _ _ rfl;refine Zs ?_;exact Zr
theorem Zk1 (G:Nat→V) (hE:GExp G) (c c1:Col) (s:Sl AM) (hs:s.l.length<1000000) (hb:∀ a∈s.l,AmB a) :
  Spec Tryz.prog G 87 [Za c 3 (Zia c1) s,.func (.func 59) [] []] Zp (fun v _=>v = .int .i64 (Zdr (fun a:AM => !Zzk a.v) s.l)):=by
 have hG:=hE.ok;refine Zo 0 19 [.tmp 4] Tryz.func87 fun X=>?_;refine Z1 ?_;refine Z1 ?_;refine AW.block ?_
 refine Z6a s.l.length (fun k (_:Unit)=>st [(0,Za c 3 (Zia c1) s),(1,.func (.func 59) [] []),(7,.int .i64 s.l.length),(8,.int .i64 k)] []) (fun k _=>∀ y∈s.l.take k,(!Zzk y.v)=false) 0 () (Nat.zero_le _) (by simp)
  (Ze zp zp) ?_
 intro k _ hk hR L2 hL2;refine Z1 ?_;refine Z2 ?_;refine Zd rfl (fun h4=>?_) (fun h4=>?_)
 ·have hk1:k<s.l.length:=by simpa using h4
  have hg:=List.getElem?_eq_getElem hk1;have hbx:=hb _ (List.getElem_mem hk1);generalize s.l[k]=x at hg hbx;refine Z1 ?_;refine Z1f (zi hg @Zlb) ?_;refine CallA.pure hG (by kernel_rfl) ?_;simp only [List.map_cons,List.map_nil,← Zlb,Zue];refine (Z9x G hE _ x hbx).mono ?_;rintro _ _ rfl;refine Zs ?_;refine Zd rfl (fun h6=>?_) (fun h6=>?_)
  ·refine Z ?_
   rw [Zoi (p:=fun a:AM => !Zzk a.v) hg hR h6]
  ·refine Z1 ?_
   refine hL2 _ ⟨hk1,(),Z5k hg hR h6,Ze zw zp⟩
 ·have hk1:k=s.l.length:=by simp at h4;omega
  refine Z ?_;rw [hk1,List.take_length] at hR;rw [Zpi (p:=fun a:AM => !Zzk a.v) hR]
theorem idxP_ge {α : Type} (p : α → Bool) (l:List α):decide (Zdr p l≥0)=l.any p:=by
 unfold Zdr
 cases h:l.findIdx? p with
 | none =>
  rw [List.findIdx?_eq_none_iff] at h
  have:l.any p=false:=by rw [List.any_eq_false];intro x hx;simp [h x hx]
  rw [this]<;>rfl
 | some i =>
  have:l.any p=true:=by
   rw [List.any_eq_true];obtain ⟨hi,hp,_⟩:=List.findIdx?_eq_some_iff_getElem.1 h;exact ⟨_,List.getElem_mem hi,hp⟩
  rw [this,decide_eq_true_iff];exact Int.natCast_nonneg _
theorem Ztr (G:Nat→V) (hE:GExp G) (c c1:Col) (s:Sl AM) (hs:s.l.length<1000000) (hb:∀ a∈s.l,AmB a) :
  Spec Tryz.prog G 58 [Za c 3 (Zia c1) s,.func (.func 59) [] []] Zp (fun v _=>v = .bool (s.l.any (fun a:AM => !Zzk a.v))):=by
 have hG:=hE.ok;refine Zo 0 9 [.tmp 4] Tryz.func58 fun X=>?_;refine Z1 ?_;refine Z1 ?_;refine Zcf @Z8o hG ?_ (s:=(Zk1 G hE _ _ s hs hb));refine Z ?_;rw [idxP_ge]
theorem Zjq (G:Nat→V) (hE:GExp G) (c c1:Col) (s:Sl AM) (hs:s.l.length<1000000) (hb:∀ a∈s.l,AmB a) :
  Spec Tryz.prog G 36 [.agg [Za c 3 (Zia c1) s]] Zp (fun v _=>v = .int .i64 (Zob (s.l.map AM.v))):=by
 have hG:=hE.ok;refine Zo 0 12 [.tmp 2] Tryz.func36 fun X=>?_
 have hP:Zob (s.l.map AM.v)=if s.l.length > 512 then 2 else if (s.l.map AM.v).all Zzk=true then 0 else 2:=by unfold Zob;rw [List.length_map]
 generalize Zob (s.l.map AM.v)=res at hP ⊢
 have hall:s.l.any (fun a:AM => !Zzk a.v) = !(s.l.map AM.v).all Zzk:=by
  rw [List.all_map,List.not_all_eq_any_not]<;>rfl
 refine Z1 ?_;intro g1;refine Z2 ?_
 by_cases hl:s.l.length > 512
 ·rw [if_pos hl] at hP
  have q1:decide ((s.l.length:Int) > 512)=true:=zT;refine Zf q1 ?_;rw [hP]
 rw [if_neg hl] at hP;have q1:decide ((s.l.length:Int) > 512)=false:=zF;refine Z1f q1 ?_;refine Znf @Z8o hG ?_ (s:=(Ztr G hE _ _ s hs hb));refine Zsf q1 ?_;rw [hall]
 cases hok:(s.l.map AM.v).all Zzk with
 | true =>
  rw [if_pos hok] at hP;refine Z ?_;rw [hP]
 | false =>
  rw [if_neg (by rw [hok];decide)] at hP;refine Z ?_;rw [hP]
end Go.Hs
end
