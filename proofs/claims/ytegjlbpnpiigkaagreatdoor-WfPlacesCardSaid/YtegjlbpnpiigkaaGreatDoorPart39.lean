/- Part 39 of a proof; no condition. -/
import Derived.Test.YtegjlbpnpiigkaaGreatDoorPart37
import Derived.Test.YtegjlbpnpiigkaaGreatDoorPart38
set_option linter.unusedSimpArgs false
set_option linter.unusedVariables false
section
namespace Go.Hs
open Go.Proofs
set_option maxRecDepth 100000
def Zql (s:Sg):V := .agg [.str s.text,.int .i64 s.level,.int .i64 s.parts]
theorem Zpl (s:Sg):Zql s = .agg [.str s.text,.int .i64 s.level,.int .i64 s.parts]:=rfl
theorem Zxw (s:Sg):(Zql s).cells.length=3:=rfl
def tabC:List V:=flat (tabL.map Zql)
theorem Z6x (op:Nat) (h:op<23) (k:Nat) (hk:k<3):tabC[op * 3+k]? = ((Zql (tabL.getD op ⟨[],0,0⟩)).cells)[k]? := by
 match k,hk with
 | 0,_=>exact match op,h with
  | 0,_=>rfl
  | 1,_=>rfl
  | 2,_=>rfl
  | 3,_=>rfl
  | 4,_=>rfl
  | 5,_=>rfl
  | 6,_=>rfl
  | 7,_=>rfl
  | 8,_=>rfl
  | 9,_=>rfl
  | 10,_=>rfl
  | 11,_=>rfl
  | 12,_=>rfl
  | 13,_=>rfl
  | 14,_=>rfl
  | 15,_=>rfl
  | 16,_=>rfl
  | 17,_=>rfl
  | 18,_=>rfl
  | 19,_=>rfl
  | 20,_=>rfl
  | 21,_=>rfl
  | 22,_=>rfl
  | n+23,h=>absurd h (by omega)
 | 1,_=>exact match op,h with
  | 0,_=>rfl
  | 1,_=>rfl
  | 2,_=>rfl
  | 3,_=>rfl
  | 4,_=>rfl
  | 5,_=>rfl
  | 6,_=>rfl
  | 7,_=>rfl
  | 8,_=>rfl
  | 9,_=>rfl
  | 10,_=>rfl
  | 11,_=>rfl
  | 12,_=>rfl
  | 13,_=>rfl
  | 14,_=>rfl
  | 15,_=>rfl
  | 16,_=>rfl
  | 17,_=>rfl
  | 18,_=>rfl
  | 19,_=>rfl
  | 20,_=>rfl
  | 21,_=>rfl
  | 22,_=>rfl
  | n+23,h=>absurd h (by omega)
 | 2,_=>exact match op,h with
  | 0,_=>rfl
  | 1,_=>rfl
  | 2,_=>rfl
  | 3,_=>rfl
  | 4,_=>rfl
  | 5,_=>rfl
  | 6,_=>rfl
  | 7,_=>rfl
  | 8,_=>rfl
  | 9,_=>rfl
  | 10,_=>rfl
  | 11,_=>rfl
  | 12,_=>rfl
  | 13,_=>rfl
  | 14,_=>rfl
  | 15,_=>rfl
  | 16,_=>rfl
  | 17,_=>rfl
  | 18,_=>rfl
  | 19,_=>rfl
  | 20,_=>rfl
  | 21,_=>rfl
  | 22,_=>rfl
  | n+23,h=>absurd h (by omega)
theorem Z15 (op:Nat) (h:op<23):tabC[op * 3+1]? = some (.int .i64 (lvl op)):=by rw [Z6x op h 1 (by decide)]<;>rfl
theorem Zdr:tabC.length=69:=rfl
theorem Zsv (f:Col→Col):(V.agg tabC).recol f = .agg tabC:=by
 have:Z2a f tabC=tabC:=by
  rw [Z3]
  have:∀ v∈tabC,v.recol f=v:=by
   intro v hv;unfold tabC flat at hv;rw [List.mem_flatMap] at hv;obtain ⟨a,ha,hv⟩:=hv;obtain ⟨s,_,rfl⟩:=List.mem_map.1 ha;simp only [Zpl,V.cells,List.mem_cons,List.not_mem_nil,or_false] at hv
   rcases hv with rfl | rfl | rfl<;>rfl
  exact (List.map_congr_left this).trans (List.map_id _)
 rw [V.recol,this]
theorem Zhr:∀ (c l:List V) (off:Nat),off+c.length≤l.length→Hs.setAt l off c=l.take off++c++l.drop (off+c.length)
 | [],l,off,_=>by simp [Hs.setAt]
 | v::r,l,off,h=>by
  simp only [List.length_cons] at h;rw [Hs.setAt,Zhr r (l.set off v) (off+1) (by rw [List.length_set];omega)]
  have h1:(l.set off v).take (off+1)=l.take off++[v]:=by
   rw [List.take_add_one,List.getElem?_set_self (by omega),List.take_set_of_le (Nat.le_refl _)]<;>rfl
  have h2:(l.set off v).drop (off+1+r.length)=l.drop (off+(r.length+1)):=by
   rw [List.drop_set_of_lt (by omega)]
   congr 1;omega
  rw [h1,h2];simp
theorem Zft {l c:List V} (h:c.length=l.length):Hs.setAt l 0 c=c:=by
 rw [Zhr c l 0 (by omega),h];simp
theorem Zpn (l:List V) (h:l.length=69):Hs.setAt l 0 tabC=tabC:=Zft (by rw [h]<;>rfl)
theorem Z0i (G:Nat→V) (hG:GOk G):Spec Tryz.prog G 297 [] Zl (fun v _=>v = .agg tabC):=by
 refine Zo 0 24 [.cell 0 336] Tryz.func297 fun X=>?_;refine Z1 ?_;intro g0;exact Zr
structure FnG (G:Nat→V) (f:FuncId) (cap:List V) (p:Sg→Bool):Prop where
 en:Zha Tryz.prog f=true
 rc:cap.map (V.recol Col.ent)=cap
 sp:∀ s:Sg,Spec Tryz.prog G f (Zql s::cap) Zl (fun v _=>v = .bool (p s))
theorem Zfy (f:Col→Col) (s:Sg):(Zql s).recol f=Zql s:=by simp only [Zpl,Zkc,List.map_cons,List.map_nil,Zjc,Zwc]
theorem Znm (G:Nat→V) (hG:GOk G) (c:Col) (s:Sl Sg) (hs:s.l.length<1000000) {f:FuncId} {cap:List V} {p:Sg→Bool} (hf:FnG G f cap p) :
  Spec Tryz.prog G 325 [Zb c 3 Zql s,.func (.func f) [] cap] Zl (fun v _=>v = .int .i64 (Zps p s.l)):=by
 refine Zo 0 19 [.tmp 4] Tryz.func325 fun X=>?_;refine Z1 ?_;refine Z1 ?_;refine AW.block ?_
 refine Zda s.l.length (fun k (_:Unit)=>st [(0,Zb c 3 Zql s),(1,.func (.func f) [] cap),(7,.int .i64 s.l.length),(8,.int .i64 k)] []) (fun k _=>∀ y∈s.l.take k,p y=false) 0 () (Nat.zero_le _) (by simp)
  (Za zp zp) ?_
 intro k _ hk hR L2 hL2;refine Z1 ?_;refine Z5 ?_;refine Zi rfl (fun h4=>?_) (fun h4=>?_)
 ·have hk1:k<s.l.length:=by simpa using h4
  have hg:=List.getElem?_eq_getElem hk1;generalize s.l[k]=x at hg;refine Z1 ?_;refine Z1f (zi hg @Zpl) ?_;refine CallA.pure hG hf.en ?_;simp only [List.map_cons,hf.rc,← Zpl,Zfy];refine (hf.sp x).mono ?_;rintro _ _ rfl;refine Zs ?_;refine Zi rfl (fun h6=>?_) (fun h6=>?_)
  ·refine Z ?_
   rw [Zbf hg hR h6]
  ·refine Z1 ?_
   refine hL2 _ ⟨hk1,(),Zae hg hR h6,Za zw zp⟩
 ·have hk1:k=s.l.length:=by simp at h4;omega
  refine Z ?_;rw [hk1,List.take_length] at hR;rw [Zdf hR]
theorem Zo1 (G:Nat→V) (hG:GOk G) (t:List UInt8) (p:Int) (s:Sg):Spec Tryz.prog G 326 [Zql s,.view .old (.str t),.view .old (.int .i64 p)] Zl (fun v _=>v = .bool (sgIs t p s)):=by
 refine Zo 0 20 [.tmp 4] Tryz.func326 fun X=>?_;simp only [Zpl];refine Z7 fun K hK=>AW.region zk ?_;refine Zs ?_;intro g3;refine hK _ ?_
 try clear hK K
 unfold sgIs
 cases h1:(s.text==t)<;>cases h2:(s.parts==p)<;>cases h3:(s.text==[])<;>((refine Z7 fun K hK=>AW.region zk ?_;simp -implicitDefEqProofs only[go_sem,seval,bne,h1,h2,h3];refine hK _ ?_;clear hK K);(refine AW.ret ?_;simp -implicitDefEqProofs only[go_sem,seval];refine Z6a ?_);rfl)
theorem fOf1 {G:Nat→V} (hG:GOk G) (t:List UInt8) (p:Int):FnG G 326 [.view .old (.str t),.view .old (.int .i64 p)] (sgIs t p):=⟨by kernel_rfl,rfl,Zo1 G hG t p⟩
theorem Zi7 (t:List UInt8) (p:Int):Zps (sgIs t p) tabL=match ofI t p with | some i=>(i:Int) | none => -1:=rfl
def encOf (o:Nat × Bool):V := .tuple [.int .u8 o.1,.bool o.2]
theorem Zk8 {t:List UInt8} {p:Int} {i:Nat} (h:ofI t p=some i):i<23:=(List.findIdx?_eq_some_iff_getElem.1 h).1
theorem Z6q (G:Nat→V) (hG:GOk G) (t:List UInt8) (p:Int):Spec Tryz.prog G 299 [.str t,.int .i64 p] Zl (fun v _=>v=encOf (ofP t p)):=by
 refine Zo 0 17 [.tmp 4,.tmp 5] Tryz.func299 fun X=>?_;refine Z1 ?_;intro g2 g3;refine Z1 ?_;refine Zn hG ?_ (s:=(Z0i G hG));refine Zsf (zi @Zsv (zi @Zdr @Nat.le_refl)) ?_;intro g6;rw [Zpn _ ?hl]
 case hl=>rfl
 refine Z5 <| Zqf 0 zk rfl rfl ?_
 simp -implicitDefEqProofs only[go_sem,seval,List.take_zero];refine ⟨_,Zvp Tryz.underlying336 zk (ob:=6) (g:=g6) (m:=3) (c := .new) (fz:=0) (cs:=tabC) zp zp (by decide),?_⟩;refine Zta hG [Zb .old 3 Zql (.mk false tabL),.func (.func 326) [] [.view .old (.str t),.view .old (.int .i64 p)]] zk ⟨?_,Zfz ⟨?_,?_,trivial⟩,trivial⟩ ?_
 ·exact Rd.msl (off:=0) (n:=23) (l:=tabL) (f:=Zql) (f':=Zql) (g:=g6) (fz:=0) (c := .new) zp Zxw (fun x y hy=>by
   simp only [Zpl,V.cells,List.mem_cons,List.not_mem_nil,or_false] at hy
   rcases hy with rfl | rfl | rfl
   ·exact .str _
   ·exact .int _ _
   ·exact .int _ _) (Zfy _) (by decide)
 ·exact Rd.ptr (v := .str t) (c := .new) (fz:=0) zp (by intro y hy;simp [V.cells] at hy;subst hy;exact .str _) zp
 ·exact Rd.ptr (v := .int .i64 p) (c := .new) (fz:=0) zp (by intro y hy;simp [V.cells] at hy;subst hy;exact .int _ _) zp
 refine (Znm G hG _ (.mk false tabL) (by decide) (fOf1 hG t p)).mono ?_;rintro _ _ rfl;refine ⟨.int _ _,?_⟩;refine Zs ?_;have hI:=Zi7 t p;unfold ofP
 show AW _ _ _ _ { τ := upd _ 7 (.int .i64 (Zps (sgIs t p) tabL)),H:=_ }
 rw [hI]
 cases ho:ofI t p with
 | none =>
  exact Zr
 | some i =>
  have hi:=Zk8 ho;refine AW.weak (Za (l:=[(7,.int .i64 i)]) (m:=[]) zp zp) ?_
  have h0:((0:Int) > (i:Int))=False:=by rw [eq_iff_iff,iff_false];omega
  have hw:IntKind.u8.wrap (i:Int)=i:=by
   unfold IntKind.wrap;simp [IntKind.signed,IntKind.bits];omega
  have h1:decide ((i:Int)≥0)=true:=zT;exact Zq (zi h0 (zi hw h1))
end Go.Hs
end

section
namespace Go.Hs
open Go.Proofs
set_option maxRecDepth 10000
def Zva (n:XN):V := .agg [.int .u8 n.op,.int .i64 n.num,.str n.name,.int .i64 n.a,.int .i64 n.b,.int .i64 n.c]
theorem Z4a (n:XN):Zva n = .agg [.int .u8 n.op,.int .i64 n.num,.str n.name,.int .i64 n.a,.int .i64 n.b,.int .i64 n.c]:=rfl
theorem Z6d (n:XN):(Zva n).cells.length=6:=rfl
theorem Zbb (t:Tk):Zcb t = .agg [.int .u8 t.kind,.str t.text,.int .i64 t.pos]:=rfl
theorem Z3h (f:Col→Col) (n:XN):(Zva n).recol f=Zva n:=by simp only [Z4a,Zkc,List.map_cons,List.map_nil,Zjc,Zwc]
theorem Zh6 (f:Col→Col) (t:Tk):(Zcb t).recol f=Zcb t:=by simp only [Zbb,Zkc,List.map_cons,List.map_nil,Zjc,Zwc]
@[go_sem] theorem Zsa (g:Col→Col) (c:Col) (s:Sl Tk):(Zb c 3 Zcb s).recol g=Zb (g c) 3 Zcb s:=Z7c g c 3 (Zh6 g) s
@[go_sem] theorem Zfa (g:Col→Col) (c:Col) (s:Sl XN):(Zb c 6 Zva s).recol g=Zb (g c) 6 Zva s:=Z7c g c 6 (Z3h g) s
def rdO (NO:Nat) (tl:List V) (sl:Sl Tk) (g gx:Nat) (r:RS):AObj := .cells .any g 0 (Zb .any 3 Zcb sl :: .int .i64 r.i::grown NO gx 6 r.nodes :: .int .i64 r.e::tl)
def ndO (gx:Nat) (ns:List XN):AObj:=grownC .any gx Zva ns
theorem Zua (NO:Nat) (tl:List V) (sl:Sl Tk) (g gx:Nat) (r:RS):rdO NO tl sl g gx r = .cells .any g 0 (Zb .any 3 Zcb sl :: .int .i64 r.i::grown NO gx 6 r.nodes :: .int .i64 r.e::tl):=rfl
def RdS (NO:Nat) (tl:List V) (G:Nat→V) (f:FuncId) (args:List V) (sl:Sl Tk) (g:Nat) (r:RS) (v:V) (r':RS):Prop :=
 ∀ gx,Spec Tryz.prog G f (.ptr 8 g 0::args) (Zob Zl [(8,rdO NO tl sl g gx r),(NO,ndO gx r.nodes)]) (fun v0 H'=>v0=v∧∃ gx',H' 8=rdO NO tl sl g gx' r'∧H' NO=ndO gx' r'.nodes)
theorem RdS.call {NO:Nat} {tl:List V} {G:Nat→V} (hG:GOk G) {f:FuncId} {args args':List V} {sl:Sl Tk} {g gx:Nat} {r r':RS} {v:V} (h:RdS NO tl G f args' sl g r v r') {H:Heap} {K:V→Heap→Prop}
  (hen:Zha Tryz.prog f=true) (htl:∀ F:Col→Col,tl.map (V.recol F)=tl) (hne:8≠NO) (hargs:args.map (V.recol Col.ent)=args') (hv:v.recol Col.bk=v)
  (h8:H 8=rdO NO tl sl g gx r) (hN:H NO=ndO gx r.nodes)
  (hk:∀ gx',K v (Zob H [(8,rdO NO tl sl g gx' r'),(NO,ndO gx' r'.nodes)])) :
  CallA Tryz.prog G f (.ptr 8 g 0::args) H K:=by
 have e8:∀ (F:Col→Col) gx r,F .any = .any→(rdO NO tl sl g gx r).recol F=rdO NO tl sl g gx r:=by
  intro F gx r hF;simp only [Zua,recol_cells,List.map_cons,Z6e,Zsa,Zjc,hF,htl]
 have eN:∀ (F:Col→Col) gx ns,F .any = .any→(ndO gx ns).recol F=ndO gx ns:=by
  intro F gx ns hF;rw [ndO,Zau F .any gx Zva Zva (Z3h F),hF]
 refine Z5q hG [(8,rdO NO tl sl g gx r),(NO,ndO gx r.nodes)] hen ?_ ?_
 ·intro p hp
  simp only [List.mem_cons,List.not_mem_nil,or_false] at hp
  rcases hp with rfl | rfl
  ·rw [h8,e8 _ _ _ rfl]
  ·rw [hN,eN _ _ _ rfl]
 ·have ha:(V.ptr 8 g 0::args).map (V.recol Col.ent) = .ptr 8 g 0::args':=by rw [List.map_cons,Z5j,hargs]
  rw [ha];refine (h gx).mono ?_;rintro _ H' ⟨rfl,gx',q8,qN⟩;simp only [List.map_cons,List.map_nil,q8,qN,e8 _ _ _ Z14,eN _ _ _ Z14,hv];exact hk gx'
theorem Zca {NO:Nat} {tl:List V} {G:Nat→V} (hG:GOk G) {f:FuncId} {args args':List V} {sl:Sl Tk} {g gx:Nat} {r r':RS} {v:V} (h:RdS NO tl G f args' sl g r v r') {H:Heap} {K:V→Heap→Prop}
  (hk:∀ gx',K v (Zob H [(8,rdO NO tl sl g gx' r'),(NO,ndO gx' r'.nodes)])) (hen:Zha Tryz.prog f=true:=by kernel_rfl) (htl:∀ F:Col→Col,tl.map (V.recol F)=tl:=by exact fun F=>rfl) (hne:8≠NO:=by decide)
  (hargs:args.map (V.recol Col.ent)=args':=by exact zx) (hv:v.recol Col.bk=v:=by exact zm) (h8:H 8=rdO NO tl sl g gx r:=by exact zr) (hN:H NO=ndO gx r.nodes:=by exact zr) :
  CallA Tryz.prog G f (.ptr 8 g 0::args) H K:=RdS.call hG h hen htl hne hargs hv h8 hN hk
structure TkOk (l:List Tk):Prop where
 len:l.length<100000
 text:∀ t∈l,t.text.length<100000
theorem Zjq {l:List Tk} {i:Nat} {t:Tk} (h:l[i]? = some t):Zba l i=if (isP t.text:Int)=t.kind then t else ⟨0,[],0⟩:=by unfold Zba;rw [h]
theorem Zjl {l:List Tk} {i:Nat} (h:l.length≤i):Zba l i=⟨0,[],0⟩:=by unfold Zba;rw [List.getElem?_eq_none h]
theorem Z1k (G:Nat→V) (hE:GExp G) (sl:Sl Tk) (hT:TkOk sl.l) (g:Nat) (r:RS) (hr:r.i<1000000):RdS 1031 [.func (.func 279) [] []] G 298 [] sl g r (Zcb (Zba sl.l r.i)) r:=by
 have hG:=hE.ok;intro gx;refine Zo 1000 50 [.cell 2 237] Tryz.func298 fun X=>?_;simp only [Zob,Zua];refine Z1 ?_;intro g2;refine Z5 ?_
 by_cases hi:r.i<sl.l.length
 ·have h1:decide ((r.i:Int)<sl.l.length)=true:=zT
  have hg:=List.getElem?_eq_getElem hi;have hm:=hT.text _ (List.getElem_mem hi);generalize sl.l[r.i]=t at hg hm;have hP:=Zjq hg
  have p1:Zep Tryz.prog G 142 [.str t.text] (.int .u8 (isP t.text)):=⟨by kernel_rfl,by
   refine Zs ?_;refine (Zyf G hE t.text (by omega)).mono ?_;rintro _ _ rfl
   rfl⟩
  by_cases hk:(isP t.text:Int)=t.kind
  ·rw [if_pos hk] at hP
   have e1:((isP t.text:Int)==t.kind)=true:=by simpa using hk
   refine Z5 <| Zw ⟨fun i=>if i=22 then .int .u8 (isP t.text) else .top,fun _ => .pure⟩ zk hG zk zk ?_
   refine Zsf (zi h1 (zi hg (zi @Zbb e1))) ?_;refine ⟨p1,?_⟩;refine Zi rfl (fun h2=>?_) (fun h2=>?_)
   ·refine ZTf (zi hg @Zbb) hG ?_
    refine Z ?_;exact ⟨by rw [hP]<;>rfl,gx,zp,zp⟩
   ·cases h2
  ·rw [if_neg hk] at hP
   have e1:((isP t.text:Int)==t.kind)=false:=by simpa using hk
   refine Z5 <| Zw ⟨fun i=>if i=22 then .int .u8 (isP t.text) else .top,fun _ => .pure⟩ zk hG zk zk ?_
   refine Zsf (zi h1 (zi hg (zi @Zbb e1))) ?_;refine ⟨p1,?_⟩;refine Z9a rfl ?_
   ·refine Z ?_
    exact ⟨by rw [hP]<;>rfl,gx,zp,zp⟩
 ·have h1:decide ((r.i:Int)<sl.l.length)=false:=zF
  have hP:=Zjl (l:=sl.l) (i:=r.i) (by omega);refine ZTf h1 hG ?_;refine Z9a rfl ?_
  ·refine Z ?_
   exact ⟨by rw [hP]<;>rfl,gx,zp,zp⟩
theorem Zyh (G:Nat→V) (hG:GOk G) (sl:Sl Tk) (g:Nat) (r:RS) (hr:r.nodes.length<1000000):RdS 1031 [.func (.func 279) [] []] G 300 [] sl g r (.int .i64 r.last) r:=by
 intro gx;refine Zo 1000 9 [.tmp 2] Tryz.func300 fun X=>?_;simp only [Zob,Zua];refine Z ?_;exact ⟨by rw [w64 (by omega) (by omega)]<;>rfl,gx,zp,zp⟩
theorem Zet {l:List Int} (h:l.length≤3):setAt [V.int .i64 (-1),V.int .i64 (-1),V.int .i64 (-1)] 0 (l.map (V.int .i64))=[V.int .i64 (l.getD 0 (-1)),V.int .i64 (l.getD 1 (-1)),V.int .i64 (l.getD 2 (-1))]:=by
 match l,h with
 | [],_=>rfl
 | [_],_=>rfl
 | [_,_],_=>rfl
 | [_,_,_],_=>rfl
theorem Ztq (k:IntKind) (l:List Int):flat (l.map (V.int k))=l.map (V.int k):=by
 induction l with
 | nil=>rfl
 | cons x r ih=>unfold flat at ih ⊢;rw [List.map_cons,List.flatMap_cons,ih]<;>rfl
def Zb0 (n:XN) (ps:List Int):XN:={ n with a:=ps.getD 0 (-1),b:=ps.getD 1 (-1),c:=ps.getD 2 (-1) }
theorem Zrj (G:Nat→V) (hG:GOk G) (sl:Sl Tk) (g:Nat) (r:RS) (hr:r.nodes.length<1000000) (n:XN) (c:Col) (ps:Sl Int) (hps:ps.l.length≤3) :
  RdS 1031 [.func (.func 279) [] []] G 301 [Zva n,Zb c 1 (V.int .i64) ps] sl g r (.bool true) (r.put (Zb0 n ps.l)):=by
 intro gx;refine Zo 1000 34 [.tmp 6] Tryz.func301 fun X=>?_;simp only [Zob,Zua,Z4a];refine Z1 ?_;intro g4;refine Z1 ?_;intro g8
 refine Z5 <| Zk1 2 zk rfl rfl ?_
 simp -implicitDefEqProofs only[go_sem,seval,List.take_succ_cons,List.take_zero];refine ⟨_,_,GivesE.copy Tryz.underlying66 zk (ob:=1008) (g:=g8) (m:=1) (len:=3) (cs:=[.int .i64 (-1),.int .i64 (-1),.int .i64 (-1)]) (c := .new) (fz:=0) (off:=0) (n:=ps.l.length) (xc:=ps.l.map (V.int .i64)) zp zp (by simp -implicitDefEqProofs only[go_sem,seval];exact congrArg (fun x=>some (ps.l.length,x)) (Ztq _ _)) hps (Nat.le_refl _) (by simp;omega),?_⟩;rw [Zet hps];simp -implicitDefEqProofs only[go_sem,seval,List.drop_succ_cons,List.drop_zero];have hn:Zb0 n ps.l={ n with a:=ps.l.getD 0 (-1),b:=ps.l.getD 1 (-1),c:=ps.l.getD 2 (-1) }:=rfl;generalize ps.l.getD 0 (-1)=x0 at hn ⊢;generalize ps.l.getD 1 (-1)=x1 at hn ⊢;generalize ps.l.getD 2 (-1)=x2 at hn ⊢
 refine AW.weak (Zv (fun o=>o==1008) (l:=[(0,.ptr 8 g 0),(4,.ptr 1004 g4 0),(7,.slice .new false 1 [.int .i64 x0,.int .i64 x1,.int .i64 x2])])
  (m:=[(8,rdO 1031 [.func (.func 279) [] []] sl g gx r),(1031,ndO gx r.nodes),(1004,.cells .new g4 0 [.int .u8 n.op,.int .i64 n.num,.str n.name,.int .i64 n.a,.int .i64 n.b,.int .i64 n.c])]) ?_ ?_) ?_
 ·refine Zs ?_
  refine ⟨Zd _,Zd _,?_⟩;exact Zxd (f:=V.int .i64) (l:=[x0,x1,x2]) (m:=1) (g:=g8) (fz:=0) (c := .new) rfl zp (fun _=>rfl)
 ·simp only [Zx,Zz,and_true]
  exact ⟨FzO.keep rfl zp,FzO.keep rfl zp,FzO.keep rfl zp⟩
 refine Z5 <| Zw ⟨fun _ => .top,fun i=>if i=2 then .lend else if i=5 then .lend else if i=8 then .lend else .pure⟩ zk hG zk zk ?_
 refine Zsf @Zua ?_;refine AW.later ?_;refine ZT hG ?_;intro g30;refine Z1q (f:=Zva) (l:=r.nodes) (l2:=[Zb0 n ps.l]) (g:=gx) Z6d rfl (by rw [hn]<;>rfl) rfl zp (Zaa (by omega) (by simp;omega)) fun c2 g2=>?_;refine Zs ?_;refine Z1 ?_;refine AW.ret ?_;refine Zs ?_;refine ⟨st [(6,.bool true)] [(8,rdO 1031 [.func (.func 279) [] []] sl g g2 (r.put (Zb0 n ps.l))),(1031,ndO g2 (r.nodes++[Zb0 n ps.l]))],Zv (fun _=>false) ?_ ?_,?_⟩
 ·refine Zs ?_
  exact Zd _
 ·simp only [Zx,Zz,and_true]
  exact ⟨FzO.keep rfl zp,Z4q (c:=c2) rfl zp⟩
 ·refine Zs ?_
  exact Z6a ⟨rfl,g2,zp,zp⟩
theorem Zbr (G:Nat→V) (s:List UInt8):Spec Tryz.prog G 339 [.str s,.str [48]] Zl (fun v _=>v = .str (s.dropWhile (· == 48))):=by
 refine Ztd fun X cargs _ _ hA=>?_;obtain ⟨x,y,rfl,hx,hy⟩:=hA.two;obtain ⟨s',rfl,rfl⟩:=hx.str_inv;obtain ⟨p',rfl,hp⟩:=hy.str_inv
 obtain rfl:p'=⟨#[48]⟩:=by
  obtain ⟨⟨l⟩⟩:=p';simp at hp;rw [hp]
 refine (show Calls Tryz.prog 339 _ _ _ from Any.strings_TrimLeft_one Zkx s' 48 (by decide) X.w).mono ?_;rintro e w' ⟨rfl,rfl⟩;exact ⟨_,_,rfl,RowKit.Below.refl _ _,.str _ _ rfl,by simp [Lib.trimLeftB]⟩
theorem Z2k (G:Nat→V) (hG:GOk G) (sl:Sl Tk) (g:Nat) (r:RS) (hi:r.i<1000000) (hr:r.nodes.length<1000000) (op num:Int) (name:List UInt8) (x y z:Int) :
  RdS 1031 [.func (.func 279) [] []] G 322 [Zva ⟨op,num,name,x,y,z⟩] sl g r (.bool true) (Zvg r op num name).2:=by
 intro gx;refine Zo 1000 15 [.tmp 4] Tryz.func322 fun X=>?_
 have hw:IntKind.i64.wrap ((r.i:Int)+1)=((r.i+1:Nat):Int):=by rw [w64 (by omega) (by omega)];omega
 simp only [Zob,Zua,Z4a];refine Z1 ?_;intro g3;refine Z1f hw ?_;refine Z1 ?_;rw [← Z4a ⟨op,num,name,x,y,z⟩];refine Zca hG (Zrj G hG sl g r.adv hr ⟨op,num,name,x,y,z⟩ .any .nil (by decide)) (gx:=gx) fun gx'=>?_;refine Zu ?_;refine Z ?_;exact ⟨rfl,gx',zp,zp⟩
theorem Zan (G:Nat→V) (hE:GExp G) (sl:Sl Tk) (hT:TkOk sl.l) (g:Nat) (r:RS) (hi:r.i<1000000) (w:List UInt8) :
  RdS 1031 [.func (.func 279) [] []] G 323 [.str w] sl g r (.bool (Zah sl.l w r).1) (Zah sl.l w r).2:=by
 have hG:=hE.ok;intro gx;refine Zo 1000 27 [.tmp 4] Tryz.func323 fun X=>?_
 have hw:IntKind.i64.wrap ((r.i:Int)+1)=((r.i+1:Nat):Int):=by rw [w64 (by omega) (by omega)];omega
 refine Z1 ?_;refine Z1 ?_;refine Zca hG (Z1k G hE sl hT g r hi) (gx:=gx) fun gx'=>?_;refine Zu ?_;refine Zsf @Zbb ?_;intro g5
 have hP:Zah sl.l w r=if (Zba sl.l r.i).kind=0∨(Zba sl.l r.i).text≠w then (false,r.err 80) else (true,r.adv):=rfl
 generalize Zba sl.l r.i=t at hP ⊢;obtain ⟨k,t,p⟩:=t;simp only at hP
 by_cases hk:k=0
 ·have e1:(k==0)=true:=by simpa using hk
  rw [if_pos (.inl hk)] at hP;refine Z1f e1 ?_;refine Zi rfl (fun h2=>?_) (fun h2=>?_)
  ·refine Zf @Zua ?_
   rw [hP];exact ⟨rfl,gx',zp,zp⟩
  ·cases h2
 ·have e1:(k==0)=false:=by simpa using hk
  by_cases ht:t=w
  ·have e2:(t==w)=true:=by simpa using ht
   rw [if_neg (by rintro (h | h);exact hk h;exact h ht)] at hP;refine Zdc zk ?_;simp -implicitDefEqProofs only[go_sem,seval,e1,bne,e2];refine Z9a rfl ?_
   ·refine Zf (zi @Zua hw) ?_
    rw [hP];exact ⟨rfl,gx',zp,zp⟩
  ·have e2:(t==w)=false:=by simpa using ht
   rw [if_pos (.inr ht)] at hP;refine Zdc zk ?_;simp -implicitDefEqProofs only[go_sem,seval,e1,bne,e2];refine Zi rfl (fun h2=>?_) (fun h2=>?_)
   ·refine Zf @Zua ?_
    rw [hP];exact ⟨rfl,gx',zp,zp⟩
   ·cases h2
theorem Z11 (t:List UInt8):(Zld t).length≤t.length+1:=by
 unfold Zld
 split
 ·simp
 ·exact Nat.le_trans ((List.dropWhile_sublist _).length_le) (Nat.le_succ _)
theorem Zqs (G:Nat→V) (hE:GExp G) (sl:Sl Tk) (g:Nat) (r:RS) (hi:r.i<1000000) (hr:r.nodes.length<1000000) (t:List UInt8) (ht:t.length<100000) :
  RdS 1031 [.func (.func 279) [] []] G 321 [.str t] sl g r (.bool (Znd r t).1) (Znd r t).2:=by
 have hG:=hE.ok;intro gx;refine Zo 1000 26 [.tmp 4] Tryz.func321 fun X=>?_;refine Z1 ?_;refine Z1 ?_;refine Zc hG ?_ (s:=(Zbr G t))
 have hT0:Zld t=if t.dropWhile (· == 48)=[] then [48] else t.dropWhile (· == 48):=rfl
 have hP:Znd r t=if (Zbc (Zld t)).2≠0 then (false,r.err (Zbc (Zld t)).2) else Zvg r 1 (Zbc (Zld t)).1 []:=rfl
 have hl:=Z11 t;refine Zia (fun (_:Unit)=>st [(0,.ptr 8 g 0),(1,.str (Zld t))] [(8,rdO 1031 [.func (.func 279) [] []] sl g gx r),(1031,ndO gx r.nodes)]) (fun _=>True) (fun K1 hK1=>?_) ?_
 ·rw [hT0] at hK1
  refine Z1 ?_;refine Zi rfl (fun h2=>?_) (fun h2=>?_)
  ·have h2:t.dropWhile (· == 48)=[]:=by simpa using h2
   rw [if_pos h2] at hK1;refine Z1 ?_;exact hK1 _ () trivial (Za zp (by simp -implicitDefEqProofs only[go_sem,seval,Zob]))
  ·have h2:¬ t.dropWhile (· == 48)=[]:=by simpa using h2
   rw [if_neg h2] at hK1;refine Z0 ?_;exact hK1 _ () trivial (Za zp (by simp -implicitDefEqProofs only[go_sem,seval,Zob]))
 intro _ _;generalize Zld t=s at hl hP ⊢;refine Z1 ?_;refine Zn hG ?_ (s:=(Zmw G hE.toGNum s (by omega)));generalize Zbc s=q at hP ⊢;obtain ⟨n,e⟩:=q;simp only at hP;refine Zsf @encR.eq_1 ?_;refine Z5 ?_
 by_cases he:e=0
 ·have e1:(e==0)=true:=by simpa using he
  rw [if_neg (show ¬ e≠0 by simpa using he)] at hP;refine Zdc zk ?_;simp -implicitDefEqProofs only[go_sem,seval,bne,e1];refine Z9a rfl ?_
  ·refine Z1 ?_
   rw [← Z4a ⟨1,n,[],0,0,0⟩];refine Zca hG (Z2k G hG sl g r hi hr 1 n [] 0 0 0) (gx:=gx) fun gx'=>?_;refine Zu ?_;refine Z ?_;rw [hP];exact ⟨rfl,gx',zp,zp⟩
 ·have e1:(e==0)=false:=by simpa using he
  rw [if_pos he] at hP;refine Zdc zk ?_;simp -implicitDefEqProofs only[go_sem,seval,bne,e1];refine Zi rfl (fun h4=>?_) (fun h4=>?_)
  ·refine Zf @Zua ?_
   rw [hP];exact ⟨rfl,gx,zp,zp⟩
  ·cases h4
def Zb5 (G:Nat→V) (sl:Sl Tk) (g:Nat) (inner:Inner) (i0:Nat):Prop :=
 ∀ n r,1≤n→n≤9→i0<r.i→Z0k sl.l r→RdS 1031 [.func (.func 279) [] []] G 279 [.int .i64 n] sl g r (.bool (inner n r).1) (inner n r).2
theorem Zco {l:List Tk} (hT:TkOk l) (i:Nat):(Zba l i).text.length<100000:=by
 unfold Zba
 split
 ·rename_i t h
  split
  ·exact hT.text _ (List.mem_of_getElem? h)
  ·exact Nat.zero_lt_succ _
 ·exact Nat.zero_lt_succ _
theorem Zo4 (l:List Tk) (w:List UInt8) (r:RS):(Zah l w r).1=true→(Zah l w r).2=r.adv:=by
 unfold Zah
 split
 ·intro h;cases h
 ·exact fun _=>rfl
def Zzz (l:List Tk) (inner:Inner):List (List UInt8)→List Int→RS→Bool × RS
 | [],parts,r=>andThen (Zah l Z1e r) fun r4=>(true,r4.put (Zb0 ⟨22,0,[],0,0,0⟩ parts))
 | w::ws,parts,r=>andThen (Zah l w r) fun r1=>andThen (inner 1 r1) fun a=>Zzz l inner ws (parts++[a.last]) a
theorem Z9r (l:List Tk) (inner:Inner) (r:RS):Zib l inner r=Zzz l inner [wIf,Ztj,Zuj] [] r:=rfl
def brW:List (List UInt8):=[wIf,Ztj,Zuj]
theorem Zhp (G:Nat→V) (hE:GExp G) (sl:Sl Tk) (hT:TkOk sl.l) (g:Nat) (r:RS) (hr:Z0k sl.l r) (inner:Inner) (hin:Zb5 G sl g inner r.i) (hb:Z27 sl.l inner) :
  RdS 1031 [.func (.func 279) [] []] G 324 [] sl g r (.bool (Zib sl.l inner r).1) (Zib sl.l inner r).2:=by
 have hG:=hE.ok;have hTl:=hT.len;intro gx;refine Zo 1000 37 [.tmp 2] Tryz.func324 fun X=>?_;refine Z1 ?_;refine Z1 ?_;refine Z1 ?_;refine AW.block ?_
 refine Zda 3 (fun k (x:Nat × Nat × List Int × RS)=>st [(0,.ptr 8 g 0),(3,grown 1027 x.1 1 x.2.2.1),(6,.agg (brW.map V.str)),(7,.int .i64 k)] [(1027,Zxa x.1 (V.int .i64) x.2.2.1),(8,rdO 1031 [.func (.func 279) [] []] sl g x.2.1 x.2.2.2),(1031,ndO x.2.1 x.2.2.2.nodes)])
  (fun k x=>Zib sl.l inner r=Zzz sl.l inner (brW.drop k) x.2.2.1 x.2.2.2∧Z0k sl.l x.2.2.2∧r.i≤x.2.2.2.i∧x.2.2.1.length=k) 0 (0,gx,[],r) (Nat.zero_le _) ⟨Z9r _ _ _,hr,Nat.le_refl _,rfl⟩
  (Za (by simp -implicitDefEqProofs only[go_sem,seval,List.map_cons,List.map_nil];exact ⟨rfl,rfl⟩) (by simp -implicitDefEqProofs only[go_sem,seval,Zob];try rfl)) ?_
 rintro k ⟨gp,gy,parts,q⟩ hk ⟨hP,hq,hqi,hpl⟩ L2 hL2;have hP:Zib sl.l inner r=Zzz sl.l inner (brW.drop k) parts q:=hP;have hq:Z0k sl.l q:=hq;have hqi:r.i≤q.i:=hqi;have hpl:parts.length=k:=hpl
 have hqI:q.i<1000000:=by have:=hq.1;omega
 refine Z1 ?_;refine Z5 ?_;refine Zi rfl (fun h4=>?_) (fun h4=>?_)
 ·have hk1:k<3:=by have h4:decide ((k:Int)<3)=true:=h4;simp at h4;omega
  refine Z0 ?_;refine Z5 ?_;refine AW.block ?_
  obtain ⟨w,hw1,hw2⟩:∃ w,(brW.map V.str)[k]? = some (.str w)∧brW.drop k=w::brW.drop (k+1):=by
   have hkl:k<brW.length:=hk1;exact ⟨brW[k],by rw [List.getElem?_map,List.getElem?_eq_getElem hkl]<;>rfl,List.drop_eq_getElem_cons hkl⟩
  have hk1':(k:Int)<3:=by omega
  rw [hw2,Zzz] at hP;have heb:=Zoe sl.l w q;have het:=Zo4 sl.l w q;have hes:=Zan G hE sl hT g q hqI w;generalize Zah sl.l w q=y at hP heb hes het;obtain ⟨b,q1⟩:=y;simp only at heb hes het;refine Z1f (zi hw1 (zi hk1' (zi @Int.natCast_nonneg @Nat.mul_one))) ?_;refine Z5 ?_
  cases b with
  | false =>
   rw [Zra] at hP;refine Z1 ?_;refine Zca hG (hes) (gx:=gy) fun gz=>?_;refine Zu ?_;refine Zi rfl (fun h7=>?_) (fun h7=>?_)
   ·refine Z ?_
    rw [hP];exact ⟨rfl,gz,zr,zr⟩
   ·cases h7
  | true =>
   rw [Z6] at hP;have hb1:=heb.2 rfl;have hq1:=hb1.ok hq
   have hlt:r.i<q1.i:=by rw [het rfl];show r.i<q.i+1;omega
   have hc:=hin 1 q1 (by decide) (by decide) hlt hq1;have hb2:=hb 1 q1;generalize inner 1 q1=z at hP hc hb2;obtain ⟨b,a⟩:=z;simp only at hc hb2;have ha:=hb2.ok hq1
   have han:a.nodes.length<1000000:=by have:=ha.1;have:=ha.2;omega
   cases b with
   | false =>
    rw [Zra] at hP;refine Z1f @Zua ?_;refine Zca hG (hes) (gx:=gy) fun gz=>?_;refine Zu ?_;refine Zsf @Zua ?_;refine Zca hG (hc) (gx:=gz) fun gz2=>?_;refine Zu ?_;refine Zi rfl (fun h7=>?_) (fun h7=>?_)
    ·refine Z ?_
     rw [hP];exact ⟨rfl,gz2,zr,zr⟩
    ·cases h7
   | true =>
    rw [Z6] at hP;refine Z1f @Zua ?_;refine Zca hG (hes) (gx:=gy) fun gz=>?_;refine Zu ?_;refine Zsf @Zua ?_;refine Zca hG (hc) (gx:=gz) fun gz2=>?_;refine Zu ?_;refine Z9a rfl ?_
    ·refine Z1 ?_
     refine Zca hG (Zyh G hG sl g a han) (gx:=gz2) fun gz3=>?_;refine Zu ?_;intro g26;refine Zma (f:=V.int .i64) (l:=parts) (l2:=[a.last]) (g:=gp) (fun _=>rfl) rfl rfl rfl zp (Zaa (by omega) (by simp;omega)) fun g27=>?_;refine Zs ?_;refine Z1 ?_;refine hL2 _ ⟨hk1,(g27,gz3,parts++[a.last],a),⟨hP,ha,?_,?_⟩,Za zw zp⟩
     ·show r.i≤a.i
      have:=hb2.up;omega
     ·show (parts++[a.last]).length=k+1
      rw [List.length_append,List.length_singleton,hpl]
 ·have hk1:k=3:=by have h4:decide ((k:Int)<3)=false:=h4;simp at h4;omega
  refine Z0 ?_;rw [hk1,show brW.drop 3=[] from rfl,Zzz] at hP;have heb:=Zoe sl.l Z1e q;have hes:=Zan G hE sl hT g q hqI Z1e;generalize Zah sl.l Z1e q=y at hP heb hes;obtain ⟨b,q1⟩:=y;simp only at heb hes;have hq1:=(heb.1).ok hq
  have hqn:q1.nodes.length<1000000:=by have:=hq1.1;have:=hq1.2;omega
  cases b with
  | false =>
   rw [Zra] at hP;refine Z1 ?_;refine Zca hG (hes) (gx:=gy) fun gz=>?_;refine Zu ?_;refine Z ?_;rw [hP];exact ⟨rfl,gz,zr,zr⟩
  | true =>
   rw [Z6] at hP;refine Z1 ?_;refine Zca hG (hes) (gx:=gy) fun gz=>?_;refine Zu ?_;refine Z2c (fun o=>o==1027) [.ptr 8 g 0,Zva ⟨22,0,[],0,0,0⟩,Zb .new 1 (V.int .i64) (Zm parts)] [(8,rdO 1031 [.func (.func 279) [] []] sl g gz q1),(1031,ndO gz q1.nodes)] ⟨Zd _,Zd _,?_,trivial⟩ ?_ ?_
   ·exact Z0a (g:=gp) rfl zp (fun _=>rfl)
   ·simp only [Zx,Zz,and_true]
    exact ⟨FzO.keep rfl zp,FzO.keep rfl zp⟩
   have hp3:(Zm parts).l.length≤3:=by rw [Zp];omega
   refine Zca hG (Zrj G hG sl g q1 hqn ⟨22,0,[],0,0,0⟩ .old (Zm parts) hp3) (gx:=gz) fun gz2=>?_;refine Zu ?_;refine Z ?_;rw [hP];exact ⟨rfl,gz2,zr,zr⟩
theorem Zjv (G:Nat→V) (hE:GExp G) (sl:Sl Tk) (hT:TkOk sl.l) (g:Nat) (r:RS) (hr:Z0k sl.l r) (inner:Inner) (hin:Zb5 G sl g inner r.i) (hb:Z27 sl.l inner) :
  RdS 1031 [.func (.func 279) [] []] G 296 [] sl g r (.bool (Z8a sl.l inner r).1) (Z8a sl.l inner r).2:=by
 have hG:=hE.ok;have hTl:=hT.len
 have hri:r.i<1000000:=by have:=hr.1;omega
 have hrn:r.nodes.length<1000000:=by have:=hr.2;omega
 have hw:IntKind.i64.wrap ((r.i:Int)+1)=((r.i+1:Nat):Int):=by rw [w64 (by omega) (by omega)];omega
 intro gx;refine Zo 1000 107 [.tmp 2] Tryz.func296 fun X=>?_
 have hP:Z8a sl.l inner r=if (Zba sl.l r.i).kind=1 then Znd r (Zba sl.l r.i).text
  else if (Zba sl.l r.i).kind=2 then Zvg r 2 0 (Zba sl.l r.i).text
  else if (Zba sl.l r.i).kind=0 then (false,r.err 80)
  else if (ofP (Zba sl.l r.i).text 1).2 then andThen (inner 9 r.adv) fun a=>(true,a.put ⟨(ofP (Zba sl.l r.i).text 1).1,0,[],a.last,-1,-1⟩)
  else if (Zba sl.l r.i).text=[40] then andThen (inner 1 r.adv) (Zah sl.l [41])
  else if (Zba sl.l r.i).text=wIf then Zib sl.l inner r
  else if (ofP (Zba sl.l r.i).text 0).2∧(Zba sl.l r.i).kind=3 then Zvg r (ofP (Zba sl.l r.i).text 0).1 0 []
  else (false,r.err 80):=rfl
 have htl:=Zco hT r.i;have hadv:(Zba sl.l r.i).kind≠0→Z0k sl.l r.adv:=fun h=>(Bal.adv (Zdk h)).ok hr
 have hno0:(Zba sl.l r.i).kind=0→(ofP (Zba sl.l r.i).text 0).2=false:=fun h=>by
  unfold ofP
  cases ho:ofI (Zba sl.l r.i).text 0 with
  | none=>rfl
  | some i =>
   have hk:=Zei sl.l r.i;rw [h] at hk
   rcases Zmy ho with ⟨h,_⟩ | ⟨h,_⟩
   ·rw [h] at hk;exact absurd hk (by decide)
   ·rw [h] at hk;exact absurd hk (by decide)
 refine Z1 ?_;refine Z1 ?_;refine Zca hG (Z1k G hE sl hT g r hri) (gx:=gx) fun gx1=>?_;refine Zu ?_;refine Zsf @Zbb ?_;intro g3;generalize Zba sl.l r.i=t at hP htl hadv hno0 ⊢;obtain ⟨k,t,p⟩:=t;simp only at hP htl hadv hno0;refine Z1 ?_;refine Zn hG ?_ (s:=(Z6q G hG t 1));generalize ofP t 1=o1 at hP ⊢;obtain ⟨op1,one⟩:=o1;simp only at hP;refine Zsf @encOf.eq_1 ?_
 refine Zia (fun (_:Unit)=>st [(0,.ptr 8 g 0),(3,.ptr 1003 g3 0)] [(1003,.cells .new g3 0 [.int .u8 k,.str t,.int .i64 p]),(8,rdO 1031 [.func (.func 279) [] []] sl g gx1 r),(1031,ndO gx1 r.nodes)])
  (fun _=>(k=0∨(k≠0∧k≠1∧k≠2∧one=false∧t≠[40]∧t≠wIf))) (fun K1 hK1=>?_) ?_
 ·refine AW.block ?_
  by_cases k1:k=1
  ·have e1:(k==1)=true:=by simpa using k1
   rw [if_pos k1] at hP;refine Z1f e1 ?_;refine Zi rfl (fun h2=>?_) (fun h2=>?_)
   ·refine Z1 ?_
    refine Zca hG (Zqs G hE sl g r hri hrn t htl) (gx:=gx1) fun gx2=>?_;refine Zu ?_;refine Z ?_;rw [hP];exact ⟨rfl,gx2,zr,zr⟩
   ·cases h2
  have e1:(k==1)=false:=by simpa using k1
  rw [if_neg k1] at hP;refine Z1f e1 ?_;refine Z9a rfl ?_
  try clear h2
  by_cases k2:k=2
  ·have e2:(k==2)=true:=by simpa using k2
   rw [if_pos k2] at hP;refine Z1f e2 ?_;refine Zi rfl (fun h2=>?_) (fun h2=>?_)
   ·refine Z1 ?_
    rw [← Z4a ⟨2,0,t,0,0,0⟩];refine Zca hG (Z2k G hG sl g r hri hrn 2 0 t 0 0 0) (gx:=gx1) fun gx2=>?_;refine Zu ?_;refine Z ?_;rw [hP];exact ⟨rfl,gx2,zr,zr⟩
   ·cases h2
  have e2:(k==2)=false:=by simpa using k2
  rw [if_neg k2] at hP;refine Z1f e2 ?_;refine Z9a rfl ?_
  try clear h2
  by_cases k0:k=0
  ·have e0:(k==0)=true:=by simpa using k0
   refine Z1f e0 ?_;refine Zi rfl (fun h2=>?_) (fun h2=>?_)
   ·refine Z0 ?_
    exact hK1 _ () (.inl k0) (Za zp zp)
   ·cases h2
  have e0:(k==0)=false:=by simpa using k0
  rw [if_neg k0] at hP;have had:=hadv k0;refine Z1f e0 ?_;refine Z9a rfl ?_
  try clear h2
  refine Z1 ?_;refine Zi rfl (fun h3=>?_) (fun h3=>?_)
  ·subst h3
   rw [if_pos rfl] at hP;have hc:=hin 9 r.adv (by decide) (by decide) (Nat.lt_succ_self _) had;have hbl:=(hb 9 r.adv).ok had;generalize inner 9 r.adv=x at hc hP hbl;obtain ⟨b,a⟩:=x;simp only at hc hbl
   have han:a.nodes.length<1000000:=by have:=hbl.1;have:=hbl.2;omega
   refine Z1f (zi @Zua hw) ?_
   cases b with
   | false =>
    refine Z1f @Zua ?_;refine Zca hG (hc) (gx:=gx1) fun gx2=>?_;refine Zu ?_;refine Z ?_;rw [hP];exact ⟨rfl,gx2,zr,zr⟩
   | true =>
    refine Z1f @Zua ?_;refine Zca hG (hc) (gx:=gx1) fun gx2=>?_;refine Zu ?_;refine Zca hG (Zyh G hG sl g a han) (gx:=gx2) fun gx3=>?_;refine Zu ?_;intro g58;refine Z2c (fun o=>o==1058) [.ptr 8 g 0,Zva ⟨op1,0,[],0,0,0⟩,.slice .new false 1 [.int .i64 a.last]] [(8,rdO 1031 [.func (.func 279) [] []] sl g gx3 a),(1031,ndO gx3 a.nodes)] ⟨Zd _,Zd _,?_,trivial⟩ ?_ ?_
    ·exact Zxd (f:=V.int .i64) (l:=[a.last]) (m:=1) (g:=g58) (fz:=0) (c := .new) rfl zp (fun _=>rfl)
    ·simp only [Zx,Zz,and_true]
     exact ⟨FzO.keep rfl zp,FzO.keep rfl zp⟩
    refine Zca hG (Zrj G hG sl g a han ⟨op1,0,[],0,0,0⟩ .old (.mk false [a.last]) (Nat.le_of_ble_eq_true rfl)) (gx:=gx3) fun gx4=>?_;refine Zu ?_;refine Z ?_;rw [hP];exact ⟨rfl,gx4,zr,zr⟩
  ·subst h3
   rw [if_neg (by simp)] at hP;refine Z1 ?_;refine Zi rfl (fun h4=>?_) (fun h4=>?_)
   ·have h4:t=[40]:=by simpa using h4
    rw [if_pos h4] at hP;have hc:=hin 1 r.adv (by decide) (by decide) (Nat.lt_succ_self _) had;have hbl:=(hb 1 r.adv).ok had;generalize inner 1 r.adv=x at hc hP hbl;obtain ⟨b,a⟩:=x;simp only at hc hbl
    have hai:a.i<1000000:=by have:=hbl.1;omega
    refine Z1f (zi @Zua hw) ?_
    cases b with
    | false =>
     refine Z1f @Zua ?_;refine Zca hG (hc) (gx:=gx1) fun gx2=>?_;refine Zu ?_;refine Z ?_;rw [hP];exact ⟨rfl,gx2,zr,zr⟩
    | true =>
     rw [Z6] at hP;refine Z1f @Zua ?_;refine Zca hG (hc) (gx:=gx1) fun gx2=>?_;refine Zu ?_;refine Zca hG (Zan G hE sl hT g a hai [41]) (gx:=gx2) fun gx3=>?_;refine Zu ?_;generalize Zah sl.l [41] a=y at hP ⊢;obtain ⟨b,a2⟩:=y
     cases b with
     | true =>
      refine Zs ?_;refine Z ?_;rw [hP];exact ⟨rfl,gx3,zr,zr⟩
     | false =>
      refine Zs ?_;refine Z ?_;rw [hP];exact ⟨rfl,gx3,zr,zr⟩
   ·have h4:¬ t=[40]:=by simpa using h4
    rw [if_neg h4] at hP;refine Z1 ?_;refine Zi rfl (fun h5=>?_) (fun h5=>?_)
    ·have h5:t=wIf:=by
      have h5:(t==[105,102])=true:=h5;exact eq_of_beq h5
     rw [if_pos h5] at hP;refine Z1 ?_;refine Zca hG (Zhp G hE sl hT g r hr inner hin hb) (gx:=gx1) fun gx2=>?_;refine Zu ?_;refine Z ?_;rw [hP];exact ⟨rfl,gx2,zr,zr⟩
    ·have h5:¬ t=wIf:=by
      have h5:(t==[105,102])=false:=h5;exact beq_eq_false_iff_ne.1 h5
     refine Z0 ?_;exact hK1 _ () (.inr ⟨k0,k1,k2,rfl,h4,h5⟩) (Za zp zp)
 rintro _ hcase
 have hP2:Z8a sl.l inner r=if (ofP t 0).2∧k=3 then Zvg r (ofP t 0).1 0 [] else (false,r.err 80):=by
  rw [hP]
  rcases hcase with k0 | ⟨k0,k1,k2,k3,k4,k5⟩
  ·have:=hno0 k0
   subst k0;rw [if_neg (by decide),if_neg (by decide),if_pos rfl,this,if_neg (by simp)]
  ·rw [if_neg k1,if_neg k2,if_neg k0,k3,if_neg (by simp),if_neg k4,if_neg k5]
 try clear hP
 have hP:=hP2
 try clear hP2 hno0 hcase
 refine Z1 ?_;refine Zn hG ?_ (s:=(Z6q G hG t 0));generalize ofP t 0=o0 at hP ⊢;obtain ⟨op0,ok⟩:=o0;simp only at hP;refine Zsf @encOf.eq_1 ?_
 cases ok with
 | false =>
  rw [if_neg (by simp)] at hP;refine Z1 ?_;refine Z9a rfl ?_
  ·refine Zf @Zua ?_
   rw [hP];exact ⟨rfl,gx1,zr,zr⟩
 | true =>
  by_cases k3:k=3
  ·have e3:(k==3)=true:=by simpa using k3
   rw [if_pos ⟨rfl,k3⟩] at hP;refine Z1f e3 ?_;refine Zi rfl (fun h7=>?_) (fun h7=>?_)
   ·refine Z1 ?_
    rw [← Z4a ⟨op0,0,[],0,0,0⟩];refine Zca hG (Z2k G hG sl g r hri hrn op0 0 [] 0 0 0) (gx:=gx1) fun gx2=>?_;refine Zu ?_;refine Z ?_;rw [hP];exact ⟨rfl,gx2,zr,zr⟩
   ·cases h7
  ·have e3:(k==3)=false:=by simpa using k3
   rw [if_neg (fun h=>k3 h.2)] at hP;refine Z1f e3 ?_;refine Z9a rfl ?_
   ·refine Zf @Zua ?_
    rw [hP];exact ⟨rfl,gx1,zr,zr⟩
theorem Zp0 (l:List Tk) (inner:Inner) (n:Int) (m:Nat) (r:RS):Z9b l inner n (m+1) r=match Znh l r.i with
  | none=>(true,r)
  | some op=>if lvl op<n then (true,r) else andThen (inner (lvl op+1) r.adv) fun a=>Z9b l inner n m (a.put ⟨op,0,[],r.last,a.last,-1⟩):=rfl
theorem Zy6 {l:List Tk} {i:Nat}:((Zba l i).kind=0∨(ofP (Zba l i).text 2).2=false→Znh l i=none)∧((Zba l i).kind≠0→(ofP (Zba l i).text 2).2=true→Znh l i=some (ofP (Zba l i).text 2).1):=by
 unfold Znh ofP
 constructor
 ·rintro (h | h)
  ·rw [if_pos h]
  ·split
   ·rfl
   ·cases ho:ofI (Zba l i).text 2 with
    | none=>rfl
    | some op=>rw [ho] at h;cases h
 ·intro h h2
  rw [if_neg h]
  cases ho:ofI (Zba l i).text 2 with
  | none=>rw [ho] at h2;cases h2
  | some op=>rfl
theorem ofP_lt (t:List UInt8) (p:Int):(ofP t p).1<23:=by
 unfold ofP
 split
 ·rename_i h;exact Zk8 h
 ·decide
theorem Ziv (G:Nat→V) (hE:GExp G) (sl:Sl Tk) (hT:TkOk sl.l) (g:Nat):∀ (f:Nat) (n:Int) (r:RS),1≤n→n≤9→sl.l.length<f+r.i→Z0k sl.l r →
  RdS 1031 [.func (.func 279) [] []] G 279 [.int .i64 n] sl g r (.bool (Z8 sl.l f n r).1) (Z8 sl.l f n r).2:=by
 have hG:=hE.ok;have hTl:=hT.len;intro f
 induction f with
 | zero=>intro n r _ _ hf hr;have:=hr.1;omega
 | succ f ih =>
 intro n r hn1 hn9 hf hr gx;have hin:∀ i0,r.i≤i0→Zb5 G sl g (Z8 sl.l f) i0:=fun i0 hi0 n' r' h1 h9 hi hr'=>ih n' r' h1 h9 (by omega) hr';have hbs:=Z3b sl.l f;have hP:Z8 sl.l (f+1) n r=andThen (Z8a sl.l (Z8 sl.l f) r) (Z9b sl.l (Z8 sl.l f) n (sl.l.length+1)):=rfl;generalize Z8 sl.l (f+1) n r=res at hP ⊢;refine Zo 1000 65 [.tmp 4] Tryz.func279 fun X=>?_;have hah:=Zjv G hE sl hT g r hr _ (hin r.i (Nat.le_refl _)) hbs;have hab:=Zii hbs r;generalize Z8a sl.l (Z8 sl.l f) r=y at hP hah hab;obtain ⟨b,q0⟩:=y;simp only at hah hab;refine Z1 ?_;refine Z5 ?_
 cases b with
 | false =>
  rw [Zra] at hP;refine Z1 ?_;refine Zca hG (hah) (gx:=gx) fun gx1=>?_;refine Zu ?_;refine Zi rfl (fun h2=>?_) (fun h2=>?_)
  ·refine Z ?_
   rw [hP];exact ⟨rfl,gx1,zr,zr⟩
  ·cases h2
 | true =>
 rw [Z6] at hP;have hq0:=hab.ok hr;refine Z1 ?_;refine Zca hG (hah) (gx:=gx) fun gx1=>?_;refine Zu ?_;refine Z1 ?_;refine Zn hG ?_ (s:=(Z0i G hG));refine Zsf (zi @Zsv (zi @Zdr @Nat.le_refl)) ?_;intro g5;rw [Zpn _ ?hl]
 case hl=>rfl
 refine AW.block ?_
 refine Zlb (fun (x:Nat × Nat × RS)=>st [(0,.ptr 8 g 0),(1,.int .i64 n),(5,.ptr 1005 g5 0)] [(1005,.cells .new g5 0 tabC),(8,rdO 1031 [.func (.func 279) [] []] sl g x.1 x.2.2),(1031,ndO x.1 x.2.2.nodes)])
  (fun x=>res=Z9b sl.l (Z8 sl.l f) n x.2.1 x.2.2∧Z0k sl.l x.2.2∧r.i≤x.2.2.i∧sl.l.length<x.2.1+x.2.2.i) (fun x=>x.2.1) (gx1,sl.l.length+1,q0) ⟨hP,hq0,hab.up,Nat.lt_add_right _ (Nat.lt_succ_self _)⟩
  (Za zp zp) ?_
 try clear hP
 rintro ⟨gy,m,q⟩ ⟨hP,hq,hqi,hm⟩ L3 hL3
 replace hP:res=Z9b sl.l (Z8 sl.l f) n m q:=hP
 replace hq:Z0k sl.l q:=hq
 replace hqi:r.i≤q.i:=hqi
 replace hm:sl.l.length<m+q.i:=hm
 obtain ⟨m,rfl⟩:∃ m',m=m'+1:=⟨m-1,by have:=hq.1;omega⟩
 have hqI:q.i<1000000:=by have:=hq.1;omega
 have hqn:q.nodes.length<1000000:=by have:=hq.1;have:=hq.2;omega
 rw [Zp0] at hP;have hop:=Zy6 (l:=sl.l) (i:=q.i);have hlt23:=ofP_lt (Zba sl.l q.i).text 2;have htl:=Zco hT q.i
 have hbnd:∀ op,Znh sl.l q.i=some op→1≤lvl op∧lvl op≤8:=fun op h=>by have:=Zky h;exact ⟨this.2.2.1,this.2.2.2⟩
 have hilt:∀ op,Znh sl.l q.i=some op→q.i<sl.l.length:=fun op h=>Zmh h;refine Z1 ?_;refine Zca hG (Z1k G hE sl hT g q hqI) (gx:=gy) fun gz=>?_;refine Zu ?_;refine Zsf @Zbb ?_;intro g6;generalize Znh sl.l q.i=oa at hP hop hbnd hilt;generalize Zba sl.l q.i=t at hop hlt23 htl ⊢;obtain ⟨k,t,p⟩:=t;simp only at hop hlt23 htl;refine Z1 ?_;refine Zn hG ?_ (s:=(Z6q G hG t 2));generalize ofP t 2=o2 at hop hlt23 ⊢;obtain ⟨op,ok⟩:=o2;simp only at hop hlt23;refine Zsf @encOf.eq_1 ?_;have hlv:=Z15 op hlt23
 have hi23:(op:Int)<23:=by omega
 refine Z1f (zi hi23 (zi @Int.natCast_nonneg (zi hlv @Nat.zero_add))) ?_;refine Z5 ?_
 cases ok with
 | false =>
  rw [hop.1 (.inr rfl)] at hP;refine Z1 ?_;refine Zi rfl (fun h9=>?_) (fun h9=>?_)
  ·refine Z ?_
   rw [hP];exact ⟨rfl,gz,zr,zr⟩
  ·cases h9
 | true =>
 by_cases hk:k=0
 ·have e1:(k==0)=true:=by simpa using hk
  rw [hop.1 (.inl hk)] at hP;refine Z1f e1 ?_;refine Zi rfl (fun h9=>?_) (fun h9=>?_)
  ·refine Z ?_
   rw [hP];exact ⟨rfl,gz,zr,zr⟩
  ·cases h9
 have e1:(k==0)=false:=by simpa using hk
 have hoa:=hop.2 hk rfl;rw [hoa] at hP;simp only at hP;obtain ⟨hl1,hl8⟩:=hbnd op hoa;have hil:=hilt op hoa;generalize lvl op=lv at hP hl1 hl8 ⊢
 by_cases hlt:lv<n
 ·have e2:decide (lv<n)=true:=by simpa using hlt
  rw [if_pos hlt] at hP;refine Z1f (zi e1 e2) ?_;refine Zi rfl (fun h9=>?_) (fun h9=>?_)
  ·refine Z ?_
   rw [hP];exact ⟨rfl,gz,zr,zr⟩
  ·cases h9
 have e2:decide (lv<n)=false:=by simpa using hlt
 rw [if_neg hlt] at hP;refine Z1f (zi e1 e2) ?_;refine Z0 ?_
 have hw:IntKind.i64.wrap ((q.i:Int)+1)=((q.i+1:Nat):Int):=by rw [w64 (by omega) (by omega)];omega
 have hw2:IntKind.i64.wrap (lv+1)=lv+1:=w64 (by omega) (by omega);have hadv:Z0k sl.l q.adv:=(Bal.adv hil).ok hq;have hc:=ih (lv+1) q.adv (by omega) (by omega) (by show sl.l.length<f+(q.i+1);omega) hadv;have hcb:=hbs (lv+1) q.adv;generalize Z8 sl.l f (lv+1) q.adv=z at hP hc hcb;obtain ⟨b,a⟩:=z;simp only at hc hcb;have ha:=hcb.ok hadv;have haup:q.i+1≤a.i:=hcb.up
 have han:a.nodes.length<1000000:=by have:=ha.1;have:=ha.2;omega
 refine Z1 ?_;refine Zca hG (Zyh G hG sl g q hqn) (gx:=gz) fun gz1=>?_;refine Zu ?_;refine Z1f (zi @Zua hw) ?_;refine Z5 ?_
 cases b with
 | false =>
  rw [Zra] at hP;refine Z1f (zi @Zua hw2) ?_;refine Zca hG (hc) (gx:=gz1) fun gz2=>?_;refine Zu ?_;refine Zi rfl (fun h11=>?_) (fun h11=>?_)
  ·refine Z ?_
   rw [hP];exact ⟨rfl,gz2,zr,zr⟩
  ·cases h11
 | true =>
  rw [Z6] at hP;refine Z1f (zi @Zua hw2) ?_;refine Zca hG (hc) (gx:=gz1) fun gz2=>?_;refine Zu ?_;refine Z1 ?_;refine Zca hG (Zyh G hG sl g a han) (gx:=gz2) fun gz3=>?_;refine Zu ?_;intro g63;refine Z2c (fun o=>o==1063) [.ptr 8 g 0,Zva ⟨op,0,[],0,0,0⟩,.slice .new false 1 [.int .i64 q.last,.int .i64 a.last]] [(8,rdO 1031 [.func (.func 279) [] []] sl g gz3 a),(1031,ndO gz3 a.nodes),(1005,.cells .new g5 0 tabC)] ⟨Zd _,Zd _,?_,trivial⟩ ?_ ?_
  ·exact Zxd (f:=V.int .i64) (l:=[q.last,a.last]) (m:=1) (g:=g63) (fz:=0) (c := .new) rfl zp (fun _=>rfl)
  ·simp only [Zx,Zz,and_true]
   exact ⟨FzO.keep rfl zp,FzO.keep rfl zp,FzO.keep rfl zp⟩
  refine Zca hG (Zrj G hG sl g a han ⟨op,0,[],0,0,0⟩ .old (.mk false [q.last,a.last]) (Nat.le_of_ble_eq_true rfl)) (gx:=gz3) fun gz4=>?_;refine Zu ?_
  have hres:Z0k sl.l (a.put ⟨op,0,[],q.last,a.last,-1⟩):=⟨ha.1,by
   have h1:=hcb.cnt;have h2:=hq.2
   show (a.nodes++[_]).length≤a.i
   rw [List.length_append,List.length_singleton];have h3:a.nodes.length+(q.i+1)+0≤q.nodes.length+a.i:=h1
   omega⟩
  refine hL3 _ ⟨(gz4,m,a.put ⟨op,0,[],q.last,a.last,-1⟩),Nat.lt_succ_self _,⟨hP,hres,?_,?_⟩,Za zp (by simp -implicitDefEqProofs only[go_sem,seval];exact ⟨rfl,rfl⟩)⟩
  ·show r.i≤a.i
   omega
  ·show sl.l.length<m+a.i
   omega
end Go.Hs
end

section
namespace Go.Hs
def Z7a (rec:Int→Int) (has:Bool) (place last:Int):Option Int :=
 if has=false then (if place ≠ -1 then none else some last)
 else if place≠last then none else if rec last<0 then none else some (rec last-1)
def Z2t (l:List XN) (i:Int):Option XN:=if i<0 then none else l[i.toNat]?
def Z5g (l:List XN):Nat→Int→Int
 | 0,_ => -1
 | f+1,i=>match Z2t l i with
  | none => -1
  | some n=>bif Zkd n then
   match Z7a (Z5g l f) (Nat.blt 2 (Zy n.op)) n.c (i-1) with
   | none => -1
   | some l2=>match Z7a (Z5g l f) (Nat.blt 1 (Zy n.op)) n.b l2 with
    | none => -1
    | some l1=>match Z7a (Z5g l f) (Nat.blt 0 (Zy n.op)) n.a l1 with
     | none => -1
     | some l0=>l0+1
   else -1
theorem Z64 (l:List XN):∀ f i,-1≤Z5g l f i
 | 0,_=>by simp [Z5g]
 | f+1,i=>by
  have ih:=Z64 l f
  have hs:∀ has place last q,Z7a (Z5g l f) has place last=some q→q=last ∨ -1≤q:=by
   intro has place last q h;unfold Z7a at h
   split at h
   ·split at h
    ·cases h
    ·cases h;exact .inl rfl
   ·split at h
    ·cases h
    ·split at h
     ·cases h
     ·cases h;right;omega
  rw [Z5g]
  cases hn:Z2t l i with
  | none=>simp
  | some n =>
   simp only
   have hi:0≤i:=by unfold Z2t at hn;split at hn;cases hn;omega
   cases Zkd n with
   | false=>simp
   | true =>
    simp only [cond_true]
    cases h2:Z7a (Z5g l f) (Nat.blt 2 (Zy n.op)) n.c (i-1) with
    | none=>simp
    | some l2 =>
     simp only
     cases h1:Z7a (Z5g l f) (Nat.blt 1 (Zy n.op)) n.b l2 with
     | none=>simp
     | some l1 =>
      simp only
      cases h0:Z7a (Z5g l f) (Nat.blt 0 (Zy n.op)) n.a l1 with
      | none=>simp
      | some l0 =>
       simp only;have a2:=hs _ _ _ _ h2;have a1:=hs _ _ _ _ h1;have a0:=hs _ _ _ _ h0;omega
def At (l:List XN) (x:X) (b:Nat):Prop:=∃ pre post,l=pre++x.row b++post∧pre.length=b
theorem X.row_top:∀ (x:X) (k:Int),∃ body,x.row k=body++[x.top k]∧body.length+1=x.size
 | .leaf op num name,k=>⟨[],rfl,rfl⟩
 | .un op a,k=>⟨a.row k,rfl,by rw [X.row_len];rfl⟩
 | .bin op a b,k=>⟨a.row k++b.row (k+a.size),rfl,by rw [List.length_append,X.row_len,X.row_len];rfl⟩
 | .ite a b c,k=>⟨a.row k++b.row (k+a.size)++c.row (k+a.size+b.size),rfl,by rw [List.length_append,List.length_append,X.row_len,X.row_len,X.row_len];rfl⟩
theorem At.top {l:List XN} {x:X} {b:Nat} (h:At l x b):Z2t l ((b:Int)+x.size-1)=some (x.top b):=by
 obtain ⟨pre,post,rfl,hb⟩:=h;obtain ⟨body,h1,h2⟩:=x.row_top b;unfold Z2t;rw [if_neg (by omega)]
 have:((b:Int)+x.size-1).toNat=(pre++body).length:=by rw [List.length_append];omega
 rw [this,h1,show pre++(body++[x.top b])++post=(pre++body)++(x.top b::post) by simp];rw [List.getElem?_append_right (Nat.le_refl _)];simp
theorem At.get {l:List XN} {x:X} {b:Nat} (h:At l x b):l[b+x.size-1]? = some (x.top b):=by
 have:=h.top;unfold Z2t at this;have hp:=x.size_pos;rw [if_neg (by omega)] at this;rw [← this];congr 1;omega
theorem At.un {l:List XN} {op:Int} {a:X} {b:Nat} (h:At l (.un op a) b):At l a b:=by
 obtain ⟨pre,post,rfl,hb⟩:=h;exact ⟨pre,_,by simp only [X.row,List.append_assoc];rfl,hb⟩
theorem At.bin {l:List XN} {op:Int} {x y:X} {b:Nat} (h:At l (.bin op x y) b):At l x b∧At l y (b+x.size):=by
 obtain ⟨pre,post,rfl,hb⟩:=h;refine ⟨⟨pre,y.row (b+x.size)++[X.top (.bin op x y) b]++post,by simp only [X.row,List.append_assoc];rfl,hb⟩,⟨pre++x.row b,[X.top (.bin op x y) b]++post,?_,by rw [List.length_append,X.row_len,hb]⟩⟩;simp only [X.row,List.append_assoc];rfl
theorem At.ite {l:List XN} {x y z:X} {b:Nat} (h:At l (.ite x y z) b):At l x b∧At l y (b+x.size)∧At l z (b+x.size+y.size):=by
 obtain ⟨pre,post,rfl,hb⟩:=h;refine ⟨⟨pre,y.row (b+x.size)++z.row (b+x.size+y.size)++[X.top (.ite x y z) b]++post,by simp only [X.row,List.append_assoc];rfl,hb⟩,⟨pre++x.row b,z.row (b+x.size+y.size)++[X.top (.ite x y z) b]++post,?_,by rw [List.length_append,X.row_len,hb]⟩,⟨pre++x.row b++y.row (b+x.size),[X.top (.ite x y z) b]++post,?_,by rw [List.length_append,List.length_append,X.row_len,X.row_len,hb]⟩⟩
 ·simp only [X.row,List.append_assoc];rfl
 ·simp only [X.row,List.append_assoc];rfl
theorem Zul (rec:Int→Int) (last:Int):Z7a rec false (-1) last=some last:=rfl
theorem Z8d {rec:Int→Int} {last:Int} (h:0≤rec last):Z7a rec true last last=some (rec last-1):=by
 unfold Z7a;rw [if_neg (by simp),if_neg (by simp),if_neg (by omega)]
theorem Zkj:∀ (x:X) (l:List XN) (b f:Nat),x.ok=true→At l x b→x.size≤f→Z5g l f ((b:Int)+x.size-1)=b
 | .leaf op num name,l,b,f,hok,h,hf=>by
  unfold X.ok at hok;simp only [Bool.and_eq_true,decide_eq_true_eq] at hok;obtain ⟨f,rfl⟩:∃ f',f=f'+1:=⟨f-1,by simp only [X.size] at hf;omega⟩;rw [Z5g,h.top];simp only [X.top]
  have hp:Zy op=0:=by unfold Zy;rw [if_pos hok.2]
  rw [hok.1,hp,cond_true];simp only [show Nat.blt 2 0=false from rfl,show Nat.blt 1 0=false from rfl,show Nat.blt 0 0=false from rfl,Zul,X.size];omega
 | .un op a,l,b,f,hok,h,hf=>by
  unfold X.ok at hok;simp only [Bool.and_eq_true,decide_eq_true_eq] at hok;simp only [X.size] at hf;obtain ⟨f,rfl⟩:∃ f',f=f'+1:=⟨f-1,by omega⟩;have ia:=Zkj a l b f hok.2 h.un (by omega);rw [Z5g,h.top];simp only [X.top]
  have hp:Zy op=1:=by unfold Zy;rw [if_neg (by omega),if_pos (by omega)]
  rw [Zkg (by omega),hp,cond_true]
  have e:(b:Int)+(X.un op a).size-1-1=b+a.size-1:=by simp only [X.size];omega
  simp only [show Nat.blt 2 1=false from rfl,show Nat.blt 1 1=false from rfl,show Nat.blt 0 1=true from rfl,Zul,e];rw [Z8d (by rw [ia];omega),ia];simp
 | .bin op x y,l,b,f,hok,h,hf=>by
  unfold X.ok at hok;simp only [Bool.and_eq_true,decide_eq_true_eq] at hok;simp only [X.size] at hf;obtain ⟨f,rfl⟩:∃ f',f=f'+1:=⟨f-1,by omega⟩;have ix:=Zkj x l b f hok.1.2 h.bin.1 (by omega);have iy:=Zkj y l (b+x.size) f hok.2 h.bin.2 (by omega);rw [Z5g,h.top];simp only [X.top]
  have hp:Zy op=2:=by unfold Zy;rw [if_neg (by omega),if_neg (by omega),if_pos (by omega)]
  rw [Zkg (by omega),hp,cond_true]
  have e:(b:Int)+(X.bin op x y).size-1-1=b+x.size+y.size-1:=by simp only [X.size];omega
  have ey:((b+x.size:Nat):Int)=b+x.size:=by omega
  rw [ey] at iy;simp only [show Nat.blt 2 2=false from rfl,show Nat.blt 1 2=true from rfl,show Nat.blt 0 2=true from rfl,Zul,e];rw [Z8d (by rw [iy];omega),iy];simp only;rw [Z8d (by rw [ix];omega),ix];simp
 | .ite x y z,l,b,f,hok,h,hf=>by
  unfold X.ok at hok;simp only [Bool.and_eq_true] at hok;simp only [X.size] at hf;obtain ⟨f,rfl⟩:∃ f',f=f'+1:=⟨f-1,by omega⟩;have ix:=Zkj x l b f hok.1.1 h.ite.1 (by omega);have iy:=Zkj y l (b+x.size) f hok.1.2 h.ite.2.1 (by omega);have iz:=Zkj z l (b+x.size+y.size) f hok.2 h.ite.2.2 (by omega);rw [Z5g,h.top];simp only [X.top];rw [Zkg (by omega),show Zy 22=3 from rfl,cond_true]
  have e:(b:Int)+(X.ite x y z).size-1-1=b+x.size+y.size+z.size-1:=by simp only [X.size];omega
  have ey:((b+x.size:Nat):Int)=b+x.size:=by omega
  have ez:((b+x.size+y.size:Nat):Int)=b+x.size+y.size:=by omega
  rw [ey] at iy;rw [ez] at iz;simp only [show Nat.blt 2 3=true from rfl,show Nat.blt 1 3=true from rfl,show Nat.blt 0 3=true from rfl,e];rw [Z8d (by rw [iz];omega),iz];simp only;rw [Z8d (by rw [iy];omega),iy];simp only;rw [Z8d (by rw [ix];omega),ix];simp
theorem Znb {rec:Int→Int} {has:Bool} {place last q:Int} (h:Z7a rec has place last=some q):has=false∧place = -1∧q=last∨has=true∧place=last∧0≤rec last∧q=rec last-1:=by
 unfold Z7a at h
 split at h
 ·rename_i h1
  split at h
  ·cases h
  ·rename_i h2;cases h;exact .inl ⟨h1,by simpa using h2,rfl⟩
 ·rename_i h1
  split at h
  ·cases h
  ·rename_i h2
   split at h
   ·cases h
   ·rename_i h3;cases h;exact .inr ⟨by simpa using h1,by simpa using h2,by omega,rfl⟩
theorem At.glue {l:List XN} {x:X} {b:Nat} (h:At l x b):∃ pre,l.take (b+x.size)=pre++x.row b∧pre.length=b:=by
 obtain ⟨pre,post,rfl,hb⟩:=h;refine ⟨pre,?_,hb⟩;rw [List.take_append_of_le_length (by rw [List.length_append,X.row_len];omega),List.take_of_length_le (by rw [List.length_append,X.row_len];omega)]
theorem Zki {l:List XN} {x:X} {b:Nat} {pre:List XN} (h:l.take (b+x.size)=pre++x.row b) (hb:pre.length=b):At l x b :=
 ⟨pre,l.drop (b+x.size),by rw [← h,List.take_append_drop],hb⟩
theorem Z82 {l:List XN} {i:Int} {n:XN} (h:Z2t l i=some n):0≤i∧l[i.toNat]? = some n∧i.toNat<l.length:=by
 unfold Z2t at h
 split at h
 ·cases h
 ·have:=List.getElem?_eq_some_iff.1 h
  exact ⟨by omega,h,this.1⟩
theorem Zke (l:List XN):∀ (f:Nat) (i:Int),0≤Z5g l f i→∃ (x:X) (b:Nat),x.ok=true∧At l x b∧Z5g l f i=b∧(b:Int)+x.size=i+1
 | 0,i,h=>by simp [Z5g] at h
 | f+1,i,h=>by
  rw [Z5g] at h ⊢
  cases hn:Z2t l i with
  | none=>rw [hn] at h;simp at h
  | some n =>
   rw [hn] at h;obtain ⟨hi,hg,hlt⟩:=Z82 hn;simp only at h ⊢
   cases hw:Zkd n with
   | false=>rw [hw] at h;simp at h
   | true =>
   rw [hw,cond_true] at h;rw [cond_true];have hrg:=Zag hw
   have htk:l.take (i.toNat+1)=l.take i.toNat++[n]:=by rw [List.take_add_one,hg];rfl
   cases h2:Z7a (Z5g l f) (Nat.blt 2 (Zy n.op)) n.c (i-1) with
   | none=>rw [h2] at h;simp at h
   | some l2 =>
   rw [h2] at h;simp only at h ⊢
   cases h1:Z7a (Z5g l f) (Nat.blt 1 (Zy n.op)) n.b l2 with
   | none=>rw [h1] at h;simp at h
   | some l1 =>
   rw [h1] at h;simp only at h ⊢
   cases h0:Z7a (Z5g l f) (Nat.blt 0 (Zy n.op)) n.a l1 with
   | none=>rw [h0] at h;simp at h
   | some l0 =>
   rw [h0] at h;simp only at h ⊢;obtain ⟨op,num,name,a,b,c⟩:=n;simp only at h2 h1 h0 hrg
   by_cases h4:op≤4
   ·have hp:Zy op=0:=by unfold Zy;rw [if_pos h4]
    rw [hp] at h2 h1 h0
    obtain ⟨_,rfl,rfl⟩ | ⟨hh,_⟩:=Znb h2
    rotate_left
    ·exact absurd hh (by decide)
    obtain ⟨_,rfl,rfl⟩ | ⟨hh,_⟩:=Znb h1
    rotate_left
    ·exact absurd hh (by decide)
    obtain ⟨_,rfl,rfl⟩ | ⟨hh,_⟩:=Znb h0
    rotate_left
    ·exact absurd hh (by decide)
    refine ⟨.leaf op num name,i.toNat,by unfold X.ok;rw [hw];simp;omega,Zki (pre:=l.take i.toNat) (by rw [X.size,htk];rfl) (by rw [List.length_take];omega),by omega,by simp only [X.size];omega⟩
   have hnn:=Zxx hw (show op≠1 by omega);simp only at hnn;obtain ⟨rfl,hnm,_⟩:=hnn;obtain rfl:=hnm (by omega)
   by_cases h6:op≤6
   ·have hp:Zy op=1:=by unfold Zy;rw [if_neg h4,if_pos h6]
    rw [hp] at h2 h1 h0
    obtain ⟨_,rfl,rfl⟩ | ⟨hh,_⟩:=Znb h2
    rotate_left
    ·exact absurd hh (by decide)
    obtain ⟨_,rfl,rfl⟩ | ⟨hh,_⟩:=Znb h1
    rotate_left
    ·exact absurd hh (by decide)
    obtain ⟨hh,_⟩ | ⟨_,rfl,hr,rfl⟩:=Znb h0
    ·exact absurd hh (by decide)
    obtain ⟨x,bx,ok1,at1,e1,s1⟩:=Zke l f _ hr;obtain ⟨pre,g1,g2⟩:=at1.glue;refine ⟨.un op x,bx,by unfold X.ok;rw [ok1];simp;omega,Zki (pre:=pre) ?_ g2,by omega,by simp only [X.size];omega⟩;rw [show bx+(X.un op x).size=i.toNat+1 by simp only [X.size];omega,htk,show i.toNat=bx+x.size by omega,g1,X.row,List.append_assoc]
    congr 4;omega
   by_cases h21:op≤21
   ·have hp:Zy op=2:=by unfold Zy;rw [if_neg h4,if_neg h6,if_pos h21]
    rw [hp] at h2 h1 h0
    obtain ⟨_,rfl,rfl⟩ | ⟨hh,_⟩:=Znb h2
    rotate_left
    ·exact absurd hh (by decide)
    obtain ⟨hh,_⟩ | ⟨_,rfl,hr1,rfl⟩:=Znb h1
    ·exact absurd hh (by decide)
    obtain ⟨hh,_⟩ | ⟨_,rfl,hr0,rfl⟩:=Znb h0
    ·exact absurd hh (by decide)
    obtain ⟨y,by',ok1,at1,e1,s1⟩:=Zke l f _ hr1;rw [e1] at hr0 h0 h ⊢;obtain ⟨x,bx,ok0,at0,e0,s0⟩:=Zke l f _ hr0;obtain ⟨prey,gy1,gy2⟩:=at1.glue;obtain ⟨prex,gx1,gx2⟩:=at0.glue
    have eby:by'=bx+x.size:=by omega
    have hpy:prey=prex++x.row bx:=by
     have:(l.take (by'+y.size)).take by'=prey:=by rw [gy1,List.take_left' gy2]
     rw [← this,List.take_take,Nat.min_eq_left (by omega),eby,gx1]
    refine ⟨.bin op x y,bx,by unfold X.ok;rw [ok1,ok0];simp;omega,Zki (pre:=prex) ?_ gx2,by omega,by simp only [X.size];omega⟩;rw [show bx+(X.bin op x y).size=i.toNat+1 by simp only [X.size];omega,htk,show i.toNat=by'+y.size by omega,gy1,hpy,X.row,eby];simp only [List.append_assoc]
    congr 5<;>omega
   ·have hp:Zy op=3:=by unfold Zy;rw [if_neg h4,if_neg h6,if_neg h21]
    obtain rfl:op=22:=by omega
    rw [hp] at h2 h1 h0
    obtain ⟨hh,_⟩ | ⟨_,rfl,hr2,rfl⟩:=Znb h2
    ·exact absurd hh (by decide)
    obtain ⟨z,bz,ok2,at2,e2,s2⟩:=Zke l f _ hr2;rw [e2] at h1
    obtain ⟨hh,_⟩ | ⟨_,rfl,hr1,rfl⟩:=Znb h1
    ·exact absurd hh (by decide)
    obtain ⟨y,by',ok1,at1,e1,s1⟩:=Zke l f _ hr1;rw [e1] at h0
    obtain ⟨hh,_⟩ | ⟨_,rfl,hr0,rfl⟩:=Znb h0
    ·exact absurd hh (by decide)
    obtain ⟨x,bx,ok0,at0,e0,s0⟩:=Zke l f _ hr0;obtain ⟨prez,gz1,gz2⟩:=at2.glue;obtain ⟨prey,gy1,gy2⟩:=at1.glue;obtain ⟨prex,gx1,gx2⟩:=at0.glue
    have eby:by'=bx+x.size:=by omega
    have ebz:bz=bx+x.size+y.size:=by omega
    have hpy:prey=prex++x.row bx:=by
     have:(l.take (by'+y.size)).take by'=prey:=by rw [gy1,List.take_left' gy2]
     rw [← this,List.take_take,Nat.min_eq_left (by omega),eby,gx1]
    have hpz:prez=prey++y.row by':=by
     have:(l.take (bz+z.size)).take bz=prez:=by rw [gz1,List.take_left' gz2]
     rw [← this,List.take_take,Nat.min_eq_left (by omega),show bz=by'+y.size by omega,gy1]
    refine ⟨.ite x y z,bx,by unfold X.ok;rw [ok2,ok1,ok0];rfl,Zki (pre:=prex) ?_ gx2,by omega,by simp only [X.size];omega⟩;rw [show bx+(X.ite x y z).size=i.toNat+1 by simp only [X.size];omega,htk,show i.toNat=bz+z.size by omega,gz1,hpz,hpy,X.row,ebz,eby];simp only [List.append_assoc]
    congr 6<;>omega
def Zjt (l:List XN):Bool:=Z5g l l.length ((l.length:Int)-1)==0
theorem Z9m (x:X):At (x.row 0) x 0:=⟨[],[],by simp,rfl⟩
theorem Z6p {l:List XN}:Zjt l=true ↔ ∃ x:X,x.ok=true∧l=x.row 0:=by
 unfold Zjt;rw [beq_iff_eq]
 constructor
 ·intro h
  obtain ⟨x,b,h1,h2,h3,h4⟩:=Zke l l.length ((l.length:Int)-1) (by omega)
  obtain rfl:b=0:=by omega
  obtain ⟨pre,post,rfl,hb⟩:=h2;obtain rfl:=List.length_eq_zero_iff.1 hb
  have hl:post.length=0:=by
   simp only [List.nil_append,List.length_append,X.row_len] at h4;omega
  obtain rfl:=List.length_eq_zero_iff.1 hl;exact ⟨x,h1,by simp⟩
 ·rintro ⟨x,hx,rfl⟩
  have:=Zkj x (x.row 0) 0 (x.row 0).length hx (Z9m x) (by rw [X.row_len];exact Nat.le_refl _);rw [X.row_len] at this ⊢;simpa using this
theorem Zvn (l:List XN):Zjt l=decide (Zgb l≠0):=by
 rw [Bool.eq_iff_iff,Z6p,decide_eq_true_iff]
 constructor
 ·rintro ⟨x,hx,rfl⟩
  rw [Zuo hx];have:=x.depth_pos;omega
 ·exact Zrl
end Go.Hs
end

section
namespace Go.Hs
open Go.Proofs
set_option maxRecDepth 10000
theorem Z1v (G:Nat→V) (hG:GOk G) (ca cb:Col) (a b:Sl Int) (ha:a.l.length<1000000000) :
  Spec Tryz.prog G 303 [Zb ca 1 (V.int .i64) a,Zb cb 1 (V.int .i64) b] Zl (fun v _=>v = .bool (a.l==b.l)):=by
 refine Zo 0 26 [.tmp 4] Tryz.func303 fun X=>?_;refine Z1 ?_;refine Z1 ?_;refine Zi rfl (fun h2=>?_) (fun h2=>?_)
 ·
  refine Z ?_;simp at h2 ⊢;intro e;rw [e] at h2;exact h2 rfl
 ·
  refine Z0 ?_
  have hl:a.l.length=b.l.length:=by simp at h2;omega
  refine Z1 ?_;refine AW.block ?_
  refine Zda a.l.length (fun k (_:Unit)=>st [(0,Zb ca 1 (V.int .i64) a),(1,Zb cb 1 (V.int .i64) b),(12,.int .i64 a.l.length),(13,.int .i64 k)] []) (fun k _=>a.l.take k=b.l.take k) 0 () (Nat.zero_le _) (by simp)
   (Za (by simp -implicitDefEqProofs only[go_sem,seval];try simp) zp) ?_
  intro k _ hk hR L4 hL4;refine Z1 ?_;refine Z5 ?_;refine Zi rfl (fun h6=>?_) (fun h6=>?_)
  ·
   refine Z0 ?_
   have hk1:k<a.l.length:=by simpa using h6
   have hk2:k<b.l.length:=by omega
   refine Z1 ?_
   refine Z5 <| Zw ⟨fun _ => .top,fun _ => .pure⟩ zk hG zk zk ?_
   simp -implicitDefEqProofs only[go_sem,seval,List.getElem?_eq_getElem hk1,List.getElem?_eq_getElem hk2];refine Zi rfl (fun h8=>?_) (fun h8=>?_)
   ·
    refine Z ?_;simp at h8;simp;intro e;simp [e] at h8
   ·
    refine Z0 ?_
    have h3':a.l[k]=b.l[k]:=by simpa using h8
    refine Z1 ?_;refine hL4 _ ⟨hk1,(),?_,Za (by simp -implicitDefEqProofs only[go_sem,seval];simp;exact w64 (by omega) (by omega)) zp⟩;rw [List.take_succ_eq_append_getElem hk1,List.take_succ_eq_append_getElem hk2,hR,h3']
  ·
   refine Z0 ?_
   have hk1:k=a.l.length:=by simp at h6;omega
   refine Z ?_;subst hk1;rw [List.take_length,hl,List.take_length] at hR;simp [hR]
theorem Ziz (G:Nat→V) (hE:GExp G) (n:XN) (hn:n.name.length<100000):Spec Tryz.prog G 302 [Zva n] Zl (fun v _=>v = .bool (Zkd n)):=by
 have hG:=hE.ok;refine Zo 0 43 [.tmp 2] Tryz.func302 fun X=>?_
 have hW:Zkd n=if n.op<1∨n.op > 22∨n.num<0 then false else if n.op=2 then n.num==0 && isP n.name==2 else n.name==[] && (n.op==1 || n.num==0):=rfl
 obtain ⟨op,num,name,a,b,c⟩:=n;simp only at hn hW;simp only [Z4a];refine Z7 fun K hK=>AW.region zk ?_;refine Zs ?_;intro g1;refine hK _ ?_
 try clear hK K
 refine Zia (fun (_:Unit)=>st [(1,.ptr 1 g1 0)] [(1,.cells .new g1 0 [.int .u8 op,.int .i64 num,.str name,.int .i64 a,.int .i64 b,.int .i64 c])]) (fun _=>¬ (op<1∨op > 22∨num<0)∧op≠2) (fun K1 hK1=>?_) ?_
 ·refine AW.block ?_
  by_cases h0:op<1∨op > 22∨num<0
  ·rw [if_pos h0] at hW
   have key:∀ K:AS→Prop,(K (st [(1,.ptr 1 g1 0),(3,.bool true)] [(1,.cells .new g1 0 [.int .u8 op,.int .i64 num,.str name,.int .i64 a,.int .i64 b,.int .i64 c])]))→True:=fun _ _=>trivial
   cases h1:decide (op<1)<;>cases h2:decide (op > 22)<;>cases h3:decide (num<0)
   ·simp only [decide_eq_false_iff_not] at h1 h2 h3
    rcases h0 with h | h | h
    ·exact absurd h h1
    ·exact absurd h h2
    ·exact absurd h h3
   all_goals
    (refine Z7 fun K hK=>AW.region zk ?_;simp -implicitDefEqProofs only[go_sem,seval,h1,h2,h3];refine hK _ ?_;clear hK K)
    refine Zi (b:=true) zp (fun _=>?_) (fun h=>by cases h)
    (refine Z7 fun K hK=>AW.region zk ?_;simp -implicitDefEqProofs only[go_sem,seval];refine hK _ ?_;clear hK K)
    (refine AW.ret ?_;simp -implicitDefEqProofs only[go_sem,seval];refine Z6a ?_)
    rw [hW]
  ·have h1:decide (op<1)=false:=by rw [decide_eq_false_iff_not];exact fun h=>h0 (.inl h)
   have h2:decide (op > 22)=false:=by rw [decide_eq_false_iff_not];exact fun h=>h0 (.inr (.inl h))
   have h3:decide (num<0)=false:=by rw [decide_eq_false_iff_not];exact fun h=>h0 (.inr (.inr h))
   rw [if_neg h0] at hW;refine Z7 fun K hK=>AW.region zk ?_;refine Zsf (zi h1 (zi h2 h3)) ?_;refine hK _ ?_
   try clear hK K
   refine Z9a rfl ?_
   try clear h4
   refine Z7 fun K hK=>AW.region zk ?_;refine Zs ?_;refine hK _ ?_
   try clear hK K
   refine Zi rfl (fun h5=>?_) (fun h5=>?_)
   ·have h5:op=2:=by simpa using h5
    rw [if_pos h5] at hW
    cases h6:(num==0) with
    | false =>
     refine Z7 fun K hK=>AW.region zk ?_;refine Zsf h6 ?_;refine hK _ ?_
     try clear hK K
     refine Z ?_
     rw [hW,h6]<;>rfl
    | true =>
     refine Z7 fun K hK=>AW.region zk ?_;refine Zsf h6 ?_;refine Zc hG ?_ (s:=(Zyf G hE name (by omega)));refine hK _ ?_
     try clear hK K
     refine Z ?_;rw [hW,h6,Bool.true_and];generalize isP name=z
     cases hz:(z==2) with
     | true =>
      have:((z:Int)==2)=true:=by rw [beq_iff_eq] at hz ⊢;omega
      rw [this]
     | false =>
      have:((z:Int)==2)=false:=by rw [beq_eq_false_iff_ne] at hz ⊢;omega
      rw [this]
   ·have h5:¬ op=2:=by simpa using h5
    refine Z0 ?_;exact hK1 _ () ⟨h0,h5⟩ (Za zp zp)
 rintro _ ⟨h0,h5⟩;rw [if_neg h0,if_neg h5] at hW
 cases h1:(name==[])<;>cases h2:(op==1)<;>cases h3:(num==0)<;>((refine Z7 fun K hK=>AW.region zk ?_;simp -implicitDefEqProofs only[go_sem,seval,h1,h2,h3];refine hK _ ?_;clear hK K);(refine AW.ret ?_;simp -implicitDefEqProofs only[go_sem,seval];refine Z6a ?_);rw [hW,h1,h2,h3]<;>rfl)
def Z7f (p:Int × Int):V := .agg [.int .i64 p.1,.int .i64 p.2]
theorem Zgj (p:Int × Int):(Z7f p).cells.length=2:=rfl
theorem Z60 {l:List XN} {k:Nat} {n:XN} (h:l[k]? = some n) (i:Int) (opn:List (Int × Int)):Zpd (l.drop k) i opn=match Zgd i n opn with | some o=>Zpd (l.drop (k+1)) (i+1) o | none=>none:=by
 obtain ⟨h1,h2⟩:=List.getElem?_eq_some_iff.1 h
 rw [List.drop_eq_getElem_cons h1,h2]<;>rfl
theorem Zz2 {op:Int} (h1:1≤op) (h2:op≤22):tabC[op.toNat * 3+2]? = some (.int .i64 (Zy op:Nat)):=by
 obtain ⟨n,rfl⟩:∃ n:Nat,op=n:=⟨op.toNat,by omega⟩;rw [Int.toNat_natCast,Z6x n (by omega) 2 (by decide)]
 have:∀ n:Nat,n<23→1≤n→(tabL.getD n ⟨[],0,0⟩).parts=(Zy n:Nat):=by decide +kernel
 rw [← this n (by omega) (by omega)]<;>rfl
theorem Z83:∀ (l:List (Int × Int)) (i:Nat) (x:Int × Int),l[i]? = some x→((flat (l.map Z7f)).drop (i * 2)).take 2=[.int .i64 x.1,.int .i64 x.2]
 | [],i,x,h=>by simp at h
 | y::r,0,x,h=>by
  have:y=x:=by simpa using h
  subst this;rfl
 | y::r,i+1,x,h=>by
  have ih:=Z83 r i x (by simpa using h);rw [← ih,List.map_cons];have:flat (Z7f y::r.map Z7f) = .int .i64 y.1 :: .int .i64 y.2::flat (r.map Z7f):=rfl;rw [this,show (i+1) * 2=i * 2+1+1 by omega,List.drop_succ_cons,List.drop_succ_cons]
def plC (l:List (Int × Int)):List V:=(Zyb l).map (V.int .i64)
theorem plC_set:∀ (l:List (Int × Int)) (j:Nat) (x:Int × Int),l[j]? = some x→j<3→Hs.setAt (plC (l.take j)) j [.int .i64 x.1]=plC (l.take (j+1)):=by
 intro l j x h hj
 match l,j,h,hj with
 | a::r,0,h,_ =>
  have:a=x:=by simpa using h
  subst this;rfl
 | a::b::r,1,h,_ =>
  have:b=x:=by simpa using h
  subst this;rfl
 | a::b::c::r,2,h,_ =>
  have:c=x:=by simpa using h
  subst this;rfl
theorem Zou (l:List (Int × Int)) (j:Nat) (x:Int × Int) (h:l[j]? = some x):Z6b (l.take (j+1))=max (Z6b (l.take j)) x.2:=by
 unfold Z6b
 rw [List.take_add_one,h,List.foldl_append]<;>rfl
theorem plC_len (l:List (Int × Int)):(plC l).length=3:=rfl
theorem Zc0 (op:Int):Zy op≤3:=by
 unfold Zy
 split
 ·omega
 ·split
  ·omega
  ·split<;>omega
theorem Z70 {l:List (Int × Int)} {k:Int} (hk:0≤k) (h:∀ y∈l,(0:Int)≤y.2∧y.2≤k):0≤Z6b l∧Z6b l≤k:=by
 have:∀ (l:List (Int × Int)) (d:Int),0≤d→d≤k→(∀ y∈l,(0:Int)≤y.2∧y.2≤k)→0≤l.foldl (fun d p=>max d p.2) d∧l.foldl (fun d p=>max d p.2) d≤k:=by
  intro l
  induction l with
  | nil=>intro d h1 h2 _;exact ⟨h1,h2⟩
  | cons y r ih =>
   intro d h1 h2 h3;have:=h3 y (by simp);exact ih (max d y.2) (by omega) (by omega) fun z hz=>h3 z (by simp [hz])
 exact this l 0 (Int.le_refl _) hk h
theorem Z73 (l:List (Int × Int)) (n:Nat):(flat (l.map Z7f)).take (n * 2)=flat ((l.take n).map Z7f):=by
 induction l generalizing n with
 | nil=>simp [flat]
 | cons y r ih =>
  cases n with
  | zero=>simp [flat]
  | succ n =>
   have e:flat ((y::r).map Z7f) = .int .i64 y.1 :: .int .i64 y.2::flat (r.map Z7f):=rfl
   rw [e,List.take_succ_cons,List.map_cons,show (n+1) * 2=n * 2+1+1 by omega,List.take_succ_cons,List.take_succ_cons,ih]<;>rfl
theorem Zbn (G:Nat→V) (hE:GExp G) (c:Col) (s:Sl XN) (hs:s.l.length<1000000) (hnm:∀ n∈s.l,n.name.length<100000) :
  Spec Tryz.prog G 280 [.agg [Zb c 6 Zva s]] Zl (fun v _=>v = .int .i64 (Zgb s.l)):=by
 have hG:=hE.ok;refine Zo 0 81 [.tmp 2] Tryz.func280 fun X=>?_
 have hD:Zgb s.l=match Zpd s.l 0 [] with | some [x]=>x.2 | _=>0:=rfl
 have hnone:Zpd s.l 0 []=none→Zgb s.l=0:=fun h=>by rw [hD,h]
 refine Z1 ?_;intro g1;refine Z1 ?_;refine Zn hG ?_ (s:=(Z0i G hG));refine Zsf (zi @Zsv (zi @Zdr @Nat.le_refl)) ?_;intro g3;rw [Zpn _ ?hl]
 case hl=>rfl
 refine Z1 ?_;refine Z1 ?_;refine AW.block ?_
 refine Zda s.l.length (fun k (x:Nat × List (Int × Int))=>st [(3,.ptr 3 g3 0),(4,grown 72 x.1 2 x.2),(14,Zb c 6 Zva s),(15,.int .i64 s.l.length),(16,.int .i64 k)] [(3,.cells .new g3 0 tabC),(72,Zxa x.1 Z7f x.2)])
  (fun k x=>Zpd s.l 0 []=Zpd (s.l.drop k) k x.2∧x.2.length≤k∧∀ y∈x.2,(0:Int)≤y.2∧y.2≤k) 0 (0,[]) (Nat.zero_le _) ⟨by simp,Nat.le_refl _,by simp⟩
  (Za zp zp) ?_
 rintro k ⟨gx,opn⟩ hk ⟨hR,hol,hdp⟩ L2 hL2
 replace hR:Zpd s.l 0 []=Zpd (s.l.drop k) k opn:=hR
 replace hol:opn.length≤k:=hol
 replace hdp:∀ y∈opn,(0:Int)≤y.2∧y.2≤k:=hdp
 refine Z1 ?_;refine Z5 ?_;refine Zi rfl (fun h4=>?_) (fun h4=>?_)
 ·have hk1:k<s.l.length:=by simpa using h4
  have hg:=List.getElem?_eq_getElem hk1;have hnn:=hnm _ (List.getElem_mem hk1);generalize s.l[k]=n at hg hnn;rw [Z60 hg] at hR;refine Z1f (zi hg @Z4a) ?_;intro g6;refine Z1 ?_;rw [← Z4a];refine Zcf @Z3h hG ?_ (s:=(Ziz G hE n hnn))
  have hst:Zgd k n opn=if Zkd n=false then none else if opn.length<Zy n.op then none
   else if Zyb (opn.drop (opn.length-Zy n.op))≠[n.a,n.b,n.c] then none
   else some (opn.take (opn.length-Zy n.op)++[((k:Int),Z6b (opn.drop (opn.length-Zy n.op))+1)]):=rfl
  cases hw:Zkd n with
  | false =>
   rw [if_pos hw] at hst;rw [hst] at hR;refine Zi rfl (fun h7=>?_) (fun h7=>?_)
   ·refine Z ?_
    rw [hnone hR]
   ·cases h7
  | true =>
  rw [if_neg (by rw [hw];simp)] at hst;refine Z0 ?_;have hrg:=Zag hw;have hpt:=Zz2 hrg.1 hrg.2;have hp3:Zy n.op≤3:=Zc0 _;generalize hpd:Zy n.op=p at hst hpt hp3
  have hop0:(0:Int)≤n.op:=by omega
  have hop23:n.op<23:=by omega
  have hsub:IntKind.i64.wrap ((opn.length:Int)-(p:Int))=(opn.length:Int)-p:=w64 (by omega) (by omega);refine Z1f (zi hop0 (zi hop23 (zi hpt (zi hsub @Nat.zero_add)))) ?_;refine Z5 ?_
  by_cases hlt:opn.length<p
  ·have e1:decide ((opn.length:Int)-p<0)=true:=zT
   rw [if_pos hlt] at hst;rw [hst] at hR;refine Z1f e1 ?_;refine Zi rfl (fun h9=>?_) (fun h9=>?_)
   ·refine Z ?_
    rw [hnone hR]
   ·cases h9
  have e1:decide ((opn.length:Int)-p<0)=false:=zF;rw [if_neg hlt] at hst;refine Z1f e1 ?_;refine Z0 ?_;obtain ⟨kk,hkk⟩:∃ kk:Nat,kk=opn.length-p:=⟨_,rfl⟩;rw [← hkk] at hst
  have hkd:(opn.length:Int)-p=(kk:Int):=by omega
  rw [hkd];refine Z1 ?_;intro g34
  have hkl:kk+p=opn.length:=by omega
  refine Zia (fun (_:Unit)=>st [(3,.ptr 3 g3 0),(4,grown 72 gx 2 opn),(5,.int .i64 k),(6,.ptr 6 g6 0),(7,.int .i64 kk),(8,.msl 34 g34 0 3 1),(9,.int .i64 (Z6b (opn.drop kk))),(14,Zb c 6 Zva s),(15,.int .i64 s.l.length),(16,.int .i64 k)]
    [(3,.cells .new g3 0 tabC),(72,Zxa gx Z7f opn),(6,.cells .new g6 0 [.int .u8 n.op,.int .i64 n.num,.str n.name,.int .i64 n.a,.int .i64 n.b,.int .i64 n.c]),(34,.cells .new g34 0 (plC (opn.drop kk)))])
   (fun _=>True) (fun K10 hK10=>?_) ?_
  ·by_cases hp0:p=0
   ·have hdn:opn.drop kk=[]:=List.drop_eq_nil_of_le (by omega)
    rw [hdn] at hK10;subst hp0
    have hkle:kk≤opn.length:=by omega
    have hnlt:¬ kk<opn.length:=by omega
    by_cases hne:opn=[]
    ·subst hne
     have hk0:kk=0:=by simpa using hkl
     subst hk0;refine Zdc zk ?_;simp -implicitDefEqProofs only[go_sem,seval,Zhe,Zhg,and_self];refine AW.block ?_
     refine Zda 0 (fun j (_:Unit)=>st [(3,.ptr 3 g3 0),(5,.int .i64 k),(4,.nils),(6,.ptr 6 g6 0),(7,.int .i64 (0:Nat)),(8,.msl 34 g34 0 3 1),(9,.int .i64 0),(14,Zb c 6 Zva s),(15,.int .i64 s.l.length),(16,.int .i64 k),(38,.int .i64 0),(39,.int .i64 j)]
       [(3,.cells .new g3 0 tabC),(6,.cells .new g6 0 [.int .u8 n.op,.int .i64 n.num,.str n.name,.int .i64 n.a,.int .i64 n.b,.int .i64 n.c]),(34,.cells .new g34 0 (plC []))])
      (fun j _=>True) 0 () (Nat.zero_le _) trivial (Za zp zp) ?_
     intro j _ hj _ L11 hL11
     obtain rfl:j=0:=by omega
     refine Z1 ?_;refine Z0 ?_
     ·refine Z0 ?_
      exact hK10 _ () trivial (Za (zpf @Zhe) (zpf @Zhg))
    ·have hk0:¬ kk=0:=by
      intro h
      have:opn.length=0:=by omega
      exact hne (List.length_eq_zero_iff.1 this)
     refine Zdc zk ?_;simp -implicitDefEqProofs only[go_sem,seval,Zfc 72 gx 2 hne,hkle,Nat.le_refl,and_self,hk0,hnlt];refine AW.block ?_
     refine Zda 0 (fun j (_:Unit)=>st [(3,.ptr 3 g3 0),(4,grown 72 gx 2 opn),(5,.int .i64 k),(6,.ptr 6 g6 0),(7,.int .i64 kk),(8,.msl 34 g34 0 3 1),(9,.int .i64 0),(14,Zb c 6 Zva s),(15,.int .i64 s.l.length),(16,.int .i64 k),(38,.int .i64 0),(39,.int .i64 j)]
       [(3,.cells .new g3 0 tabC),(72,Zxa gx Z7f opn),(6,.cells .new g6 0 [.int .u8 n.op,.int .i64 n.num,.str n.name,.int .i64 n.a,.int .i64 n.b,.int .i64 n.c]),(34,.cells .new g34 0 (plC []))])
      (fun j _=>True) 0 () (Nat.zero_le _) trivial (Za (by simp -implicitDefEqProofs only[go_sem,seval];rw [Zfc 72 gx 2 hne];try exact ⟨rfl,rfl⟩) zp) ?_
     intro j _ hj _ L11 hL11
     obtain rfl:j=0:=by omega
     refine Z1 ?_;refine Z0 ?_
     ·refine Z0 ?_
      exact hK10 _ () trivial (Za zp zp)
   ·have hne:opn≠[]:=by intro e;rw [e] at hkl;simp at hkl;omega
    have hsl:(if kk=0 then V.msl 72 gx 0 opn.length 2 else if kk<opn.length then V.msl 72 gx (kk * 2) (opn.length-kk) 2 else V.slice .any false 2 []) = .msl 72 gx (kk * 2) p 2:=by
     by_cases h0:kk=0
     ·rw [if_pos h0];congr 1<;>omega
     ·rw [if_neg h0,if_pos (by omega)];congr 1;omega
    have hkle:kk≤opn.length:=by omega
    refine Zdc zk ?_;simp -implicitDefEqProofs only[go_sem,seval,Zfc 72 gx 2 hne,hkle,Nat.le_refl,and_self,hsl,Nat.zero_add];refine AW.block ?_
    refine Zda p (fun j (_:Unit)=>st [(3,.ptr 3 g3 0),(4,grown 72 gx 2 opn),(5,.int .i64 k),(6,.ptr 6 g6 0),(7,.int .i64 kk),(8,.msl 34 g34 0 3 1),(9,.int .i64 (Z6b ((opn.drop kk).take j))),(14,Zb c 6 Zva s),(15,.int .i64 s.l.length),(16,.int .i64 k),(37,.msl 72 gx (kk * 2) p 2),(38,.int .i64 p),(39,.int .i64 j)]
      [(3,.cells .new g3 0 tabC),(72,Zxa gx Z7f opn),(6,.cells .new g6 0 [.int .u8 n.op,.int .i64 n.num,.str n.name,.int .i64 n.a,.int .i64 n.b,.int .i64 n.c]),(34,.cells .new g34 0 (plC ((opn.drop kk).take j)))])
     (fun j _=>True) 0 () (Nat.zero_le _) trivial
     (Za (by simp -implicitDefEqProofs only[go_sem,seval];rw [Zfc 72 gx 2 hne];exact ⟨rfl,rfl⟩) zp) ?_
    intro j _ hj _ L11 hL11;refine Z1 ?_;refine Z5 ?_;refine Zi rfl (fun h13=>?_) (fun h13=>?_)
    ·have hj1:j<p:=zL h13
     refine Z0 ?_;refine Z5 ?_;refine AW.block ?_;obtain ⟨x,hx⟩:∃ x,opn[kk+j]? = some x:=⟨_,List.getElem?_eq_getElem (by omega)⟩
     have hxd:(opn.drop kk)[j]? = some x:=by rw [List.getElem?_drop];exact hx
     have hfp:=Z83 opn (kk+j) x hx;rw [show (kk+j) * 2=kk * 2+j * 2 by omega] at hfp
     have hfl:kk * 2+j * 2+2≤(flat (opn.map Z7f)).length:=by rw [Zsc (m:=2) Zgj];omega
     have hps:=plC_set (opn.drop kk) j x hxd (by omega);have hds:=Zou (opn.drop kk) j x hxd;have hpl:=plC_len ((opn.drop kk).take j);generalize plC ((opn.drop kk).take j)=pc at hps hpl ⊢;generalize Z6b ((opn.drop kk).take j)=dd at hds ⊢
     have hj3:(j:Int)<3:=by omega
     refine Zdc zk ?_;simp -implicitDefEqProofs only[go_sem,seval,Zxc gx Z7f hne,hfp,hfl,Int.natCast_nonneg,hj1,Int.ofNat_lt];intro g11
     refine AW.weak (Zv (fun o=>o==11) (l:=[(3,.ptr 3 g3 0),(4,grown 72 gx 2 opn),(5,.int .i64 k),(6,.ptr 6 g6 0),(7,.int .i64 kk),(8,.msl 34 g34 0 3 1),(9,.int .i64 dd),(10,.int .i64 j),(11,.view .new (.agg [.int .i64 x.1,.int .i64 x.2])),(14,Zb c 6 Zva s),(15,.int .i64 s.l.length),(16,.int .i64 k),(37,.msl 72 gx (kk * 2) p 2),(38,.int .i64 p),(39,.int .i64 j)])
      (m:=[(3,.cells .new g3 0 tabC),(72,Zxa gx Z7f opn),(6,.cells .new g6 0 [.int .u8 n.op,.int .i64 n.num,.str n.name,.int .i64 n.a,.int .i64 n.b,.int .i64 n.c]),(34,.cells .new g34 0 pc)]) ?_ ?_) ?_
     ·refine Zs ?_
      refine ⟨Zd _,Zd _,Zd _,Zd _,Zd _,Zd _,Zd _,Zd _,?_,Zd _,Zd _,Zd _,Zd _,Zd _,Zd _⟩;exact Fz.ptr (v := .agg [.int .i64 x.1,.int .i64 x.2]) (c := .new) (fz:=0) rfl zp
     ·simp only [Zx,Zz,and_true]
      exact ⟨FzO.keep rfl zp,FzO.keep rfl (by first | rfl | (rw [Zxc gx Z7f hne]<;>rfl) | (simp -implicitDefEqProofs only[go_sem,seval];try rfl)),FzO.keep rfl zp,FzO.keep rfl zp⟩
     refine Zw ⟨fun _ => .top,fun i=>if i=3 then .lend else if i=6 then .lend else .pure⟩ zk hG zk zk ?_
     have hjl:j+1≤pc.length:=by omega
     have hset:pc.set j (.int .i64 x.1)=plC ((opn.drop kk).take (j+1)):=hps
     have hmx:(if x.2 > dd then x.2 else dd)=max dd x.2:=by
      rw [Int.max_def];split<;>split<;>omega
     simp -implicitDefEqProofs only[go_sem,seval,hj3,Int.natCast_nonneg,Nat.mul_one,Nat.zero_le,hjl,hset,hmx,← hds];refine Z1 ?_;refine hL11 _ ⟨hj1,(),trivial,Za zw zp⟩
    ·have hj1:j=p:=by have:=zN h13;omega
     have htk:(opn.drop kk).take j=opn.drop kk:=List.take_of_length_le (by rw [List.length_drop];omega);rw [htk];refine Z0 ?_;exact hK10 _ () trivial (Za zp zp)
  intro _ _;refine Z5 ?_;have hpl:Zyb (opn.drop kk)=[(Zyb (opn.drop kk)).getD 0 0,(Zyb (opn.drop kk)).getD 1 0,(Zyb (opn.drop kk)).getD 2 0]:=rfl;refine Z1 ?_;intro g61;refine Zta hG [Zb .old 1 (V.int .i64) (.mk false (Zyb (opn.drop kk))),Zb .old 1 (V.int .i64) (.mk false [n.a,n.b,n.c])] zk ⟨?_,?_,trivial⟩ ?_
  ·exact Rd.msl (off:=0) (n:=3) (l:=Zyb (opn.drop kk)) (f:=V.int .i64) (f':=V.int .i64) (g:=g34) (fz:=0) (c := .new) (by simp -implicitDefEqProofs only[go_sem,seval];exact congrArg (AObj.cells Col.new g34 0) (Ztq _ _).symm) (fun _=>rfl) (fun x y hy=>by simp [V.cells] at hy;subst hy;exact .int _ _) (fun _=>rfl) (by simp [Zyb])
  ·exact Rd.msl (off:=0) (n:=3) (l:=[n.a,n.b,n.c]) (f:=V.int .i64) (f':=V.int .i64) (g:=g61) (fz:=0) (c := .new) zp (fun _=>rfl) (fun x y hy=>by simp [V.cells] at hy;subst hy;exact .int _ _) (fun _=>rfl) (by simp)
  refine (Z1v G hG _ _ (.mk false (Zyb (opn.drop kk))) (.mk false [n.a,n.b,n.c]) (by simp [Zyb,Sl.l])).mono ?_;rintro _ _ rfl;refine ⟨.bool _,?_⟩;refine Zs ?_
  cases heq:(Zyb (opn.drop kk)==[n.a,n.b,n.c]) with
  | false =>
   have heq2:Zyb (opn.drop kk)≠[n.a,n.b,n.c]:=by simpa using heq
   rw [if_pos heq2] at hst;rw [hst] at hR;refine Zi rfl (fun h12=>?_) (fun h12=>?_)
   ·refine Z ?_
    rw [hnone hR]
   ·cases h12
  | true =>
  have heq2:¬ Zyb (opn.drop kk)≠[n.a,n.b,n.c]:=by simpa using heq
  rw [if_neg heq2] at hst;rw [hst] at hR;refine Z0 ?_;have hdb:=Z70 (l:=opn.drop kk) (k:=k) (by omega) fun y hy=>hdp y (List.mem_of_mem_drop hy);generalize Z6b (opn.drop kk)=dd at hR hdb ⊢;have hwd:IntKind.i64.wrap (dd+1)=dd+1:=w64 (by omega) (by omega)
  have hne2:opn.take kk++[((k:Int),dd+1)]≠[]:=by simp
  have hlen2:(opn.take kk++[((k:Int),dd+1)]).length=kk+1:=by rw [List.length_append,List.length_take];simp;omega
  have hdp2:∀ y∈opn.take kk++[((k:Int),dd+1)],(0:Int)≤y.2∧y.2≤(k+1:Nat):=by
   intro y hy
   rcases List.mem_append.1 hy with h | h
   ·have:=hdp y (List.mem_of_mem_take h);omega
   ·rw [List.mem_singleton.1 h];show 0≤dd+1∧dd+1≤_;omega
  by_cases hne:opn=[]
  ·subst hne
   have hk0:kk=0:=by simpa using hkk
   subst hk0;refine AW.region zk ?_;simp -implicitDefEqProofs only[go_sem,seval,Zhe,Zhg,and_self,hwd];intro g71;refine Zma (f:=Z7f) (l:=([]:List (Int × Int))) (l2:=[((k:Int),dd+1)]) (g:=gx) Zgj rfl rfl rfl rfl (Zaa (by omega) (by simp)) fun g2=>?_;refine Zs ?_;refine Z1 ?_;refine hL2 _ ⟨hk1,(g2,[((k:Int),dd+1)]),⟨hR,?_,hdp2⟩,Za zw zp⟩
   show 1≤k+1
   omega
  ·have hkle:kk≤opn.length:=by omega
   refine AW.region zk ?_;simp -implicitDefEqProofs only[go_sem,seval,Zfc 72 gx 2 hne,Nat.zero_le,hkle,and_self,hwd,Zxc gx Z7f hne];intro g71;refine ⟨Zaa (by omega) (by omega),by rw [Zsc (m:=2) Zgj];omega,fun g2=>?_⟩;refine Z1 ?_;refine hL2 _ ⟨hk1,(g2,opn.take kk++[((k:Int),dd+1)]),⟨hR,?_,hdp2⟩,Za (by simp -implicitDefEqProofs only[go_sem,seval];exact ⟨by rw [Zfc _ _ _ hne2,hlen2],congrArg _ (w64 (by omega) (by omega))⟩) (by simp -implicitDefEqProofs only[go_sem,seval];rw [Zxc _ _ hne2,List.map_append,Zyg,← Z73]<;>rfl)⟩
   show (opn.take kk++[_]).length≤k+1
   rw [hlen2];omega
 ·have hk1:k=s.l.length:=by simp at h4;omega
  refine Z0 ?_;rw [hk1,List.drop_length,Zpd] at hR;rw [hR] at hD;refine Z5 ?_
  match opn,hD with
  | [],hD =>
   refine Z1f @Zhe ?_;refine Zi rfl (fun h7=>?_) (fun h7=>?_)
   ·refine Z ?_
    rw [hD]
   ·cases h7
  | [x],hD =>
   have hne:[x]≠([]:List (Int × Int)):=by simp
   refine Z1 ?_;refine Z0 ?_;have hfx:flat ([x].map Z7f)=[.int .i64 x.1,.int .i64 x.2]:=rfl;refine Zdc zk ?_;simp -implicitDefEqProofs only[go_sem,seval,Zfc 72 gx 2 hne,Zxc gx Z7f hne,hfx];refine Z ?_;rw [hD]
  | x::y::r,hD =>
   have e1:(((x::y::r).length:Int) != 1)=true:=by simp;omega
   refine Z1f e1 ?_;refine Zi rfl (fun h7=>?_) (fun h7=>?_)
   ·refine Z ?_
    rw [hD]
   ·cases h7
theorem Zor (G:Nat→V) (hG:GOk G) (op:Int):Spec Tryz.prog G 336 [.int .u8 op] Zl (fun v _=>v = .int .i64 (Zy op:Nat)):=by
 refine Zo 0 12 [.tmp 2] Tryz.func336 fun X=>?_
 have hP:Zy op=if op≤4 then 0 else if op≤6 then 1 else if op≤21 then 2 else 3:=rfl
 refine Z1 ?_;refine Zia (fun (_:Unit)=>st [] []) (fun _=>¬ op≤4∧¬ op≤6∧¬ op≤21) (fun K1 hK1=>?_) ?_
 ·refine Z1 ?_
  refine Zi rfl (fun h1=>?_) (fun h1=>?_)
  ·refine Z ?_
   rw [hP,if_pos (by simpa using h1)]<;>rfl
  refine Z1 ?_;refine Zi rfl (fun h2=>?_) (fun h2=>?_)
  ·refine Z ?_
   rw [hP,if_neg (by simpa using h1),if_pos (by simpa using h2)]<;>rfl
  refine Z1 ?_;refine Zi rfl (fun h3=>?_) (fun h3=>?_)
  ·refine Z ?_
   rw [hP,if_neg (by simpa using h1),if_neg (by simpa using h2),if_pos (by simpa using h3)]<;>rfl
  ·refine Z0 ?_
   exact hK1 _ () ⟨by simpa using h1,by simpa using h2,by simpa using h3⟩ (Za zp zp)
 rintro _ ⟨h1,h2,h3⟩;refine Z ?_
 rw [hP,if_neg h1,if_neg h2,if_neg h3]<;>rfl
theorem Znt (G:Nat→V) (hG:GOk G) (n:XN) (hn:n.name.length<100000):Spec Tryz.prog G 335 [Zva n] Zl (fun v _=>v = .bool (Zkd n)):=by
 refine Zo 0 36 [.tmp 2] Tryz.func335 fun X=>?_
 have hW:Zkd n=if n.op<1∨n.op > 22∨n.num<0 then false else if n.op=2 then n.num==0 && isP n.name==2 else n.name==[] && (n.op==1 || n.num==0):=rfl
 obtain ⟨op,num,name,a,b,c⟩:=n;simp only at hn hW;simp only [Z4a];refine Z7 fun K hK=>AW.region zk ?_;refine Zs ?_;intro g1;refine hK _ ?_
 try clear hK K
 refine Zia (fun (_:Unit)=>st [(1,.ptr 1 g1 0)] [(1,.cells .new g1 0 [.int .u8 op,.int .i64 num,.str name,.int .i64 a,.int .i64 b,.int .i64 c])]) (fun _=>Zkd ⟨op,num,name,a,b,c⟩=if op=2 then isP name==2 else name==[]) (fun K1 hK1=>?_) ?_
 ·have hK2:(op<1)=False→(op > 22)=False→(num<0)=False→(op=1∨num=0)→Zkd ⟨op,num,name,a,b,c⟩=if op=2 then isP name==2 else name==[]:=by
   intro h1 h2 h3 h4;rw [hW,if_neg (by rintro (h | h | h);exact h1 ▸ h;exact h2 ▸ h;exact h3 ▸ h)]
   by_cases ho:op=2
   ·have:num=0:=h4.resolve_left (by omega)
    rw [if_pos ho,if_pos ho,this]<;>rfl
   ·rw [if_neg ho,if_neg ho]
    rcases h4 with h | h
    ·rw [h];simp
    ·rw [h];simp
  have hK3:(op<1∨op > 22∨num<0∨(op≠1∧num≠0))→Zkd ⟨op,num,name,a,b,c⟩=false:=by
   intro h;rw [hW]
   split
   ·rfl
   ·rename_i h0
    simp only [not_or] at h0
    obtain ⟨q1,q2⟩:op≠1∧num≠0:=by
     rcases h with h | h | h | h
     ·exact absurd h h0.1
     ·exact absurd h h0.2.1
     ·exact absurd h h0.2.2
     ·exact h
    have e1:(op==1)=false:=by simpa using q1
    have e2:(num==0)=false:=by simpa using q2
    rw [e1,e2];simp
  by_cases q1:op<1
  ·have h1:decide (op<1)=true:=by simpa using q1
   (refine Z7 fun K hK=>AW.region zk ?_;simp -implicitDefEqProofs only[go_sem,seval,h1];refine hK _ ?_;clear hK K)
   refine Zi (b:=true) zp (fun _=>?_) (fun h=>by cases h)
   (refine Z7 fun K hK=>AW.region zk ?_;simp -implicitDefEqProofs only[go_sem,seval];refine hK _ ?_;clear hK K)
   (refine AW.ret ?_;simp -implicitDefEqProofs only[go_sem,seval];refine Z6a ?_)
   rw [hK3 (.inl q1)]
  have h1:decide (op<1)=false:=by simpa using q1
  by_cases q2:op > 22
  ·have h2:decide (op > 22)=true:=by simpa using q2
   (refine Z7 fun K hK=>AW.region zk ?_;simp -implicitDefEqProofs only[go_sem,seval,h1,h2];refine hK _ ?_;clear hK K)
   refine Zi (b:=true) zp (fun _=>?_) (fun h=>by cases h)
   (refine Z7 fun K hK=>AW.region zk ?_;simp -implicitDefEqProofs only[go_sem,seval];refine hK _ ?_;clear hK K)
   (refine AW.ret ?_;simp -implicitDefEqProofs only[go_sem,seval];refine Z6a ?_)
   rw [hK3 (.inr (.inl q2))]
  have h2:decide (op > 22)=false:=by simpa using q2
  by_cases q4:op=1
  ·have h4:(op != 1)=false:=by simpa using q4
   by_cases q3:num<0
   ·have h3:decide (num<0)=true:=by simpa using q3
    (refine Z7 fun K hK=>AW.region zk ?_;simp -implicitDefEqProofs only[go_sem,seval,h1,h2,h3,h4];refine hK _ ?_;clear hK K)
    refine Zi (b:=true) zp (fun _=>?_) (fun h=>by cases h)
    (refine Z7 fun K hK=>AW.region zk ?_;simp -implicitDefEqProofs only[go_sem,seval];refine hK _ ?_;clear hK K)
    (refine AW.ret ?_;simp -implicitDefEqProofs only[go_sem,seval];refine Z6a ?_)
    rw [hK3 (.inr (.inr (.inl q3)))]
   have h3:decide (num<0)=false:=by simpa using q3
   (refine Z7 fun K hK=>AW.region zk ?_;simp -implicitDefEqProofs only[go_sem,seval,h1,h2,h3,h4];refine hK _ ?_;clear hK K)
   refine Zi (b:=false) zp (fun h=>by cases h) (fun _=>?_);refine Z0 ?_;exact hK1 _ () (hK2 (eq_false q1) (eq_false q2) (eq_false q3) (.inl q4)) (Za zp zp)
  have h4:(op != 1)=true:=by simpa using q4
  by_cases q5:num=0
  ·have h5:(num != 0)=false:=by simpa using q5
   have q3:¬ num<0:=by omega
   have h3:decide (num<0)=false:=by simpa using q3
   (refine Z7 fun K hK=>AW.region zk ?_;simp -implicitDefEqProofs only[go_sem,seval,h1,h2,h3,h4,h5];refine hK _ ?_;clear hK K)
   refine Zi (b:=false) zp (fun h=>by cases h) (fun _=>?_);refine Z0 ?_;exact hK1 _ () (hK2 (eq_false q1) (eq_false q2) (eq_false q3) (.inr q5)) (Za zp zp)
  have h5:(num != 0)=true:=by simpa using q5
  (refine Z7 fun K hK=>AW.region zk ?_;simp -implicitDefEqProofs only[go_sem,seval,h1,h2,h4,h5];refine hK _ ?_;clear hK K)
  refine Zi (b:=true) zp (fun _=>?_) (fun h=>by cases h)
  (refine Z7 fun K hK=>AW.region zk ?_;simp -implicitDefEqProofs only[go_sem,seval];refine hK _ ?_;clear hK K)
  (refine AW.ret ?_;simp -implicitDefEqProofs only[go_sem,seval];refine Z6a ?_)
  rw [hK3 (.inr (.inr (.inr ⟨q4,q5⟩)))]
 rintro _ hW2;refine Z7 fun K2 hK2=>?_;refine Z7 fun K hK=>AW.region zk ?_;refine Zs ?_;refine hK _ ?_
 try clear hK K
 refine Zi rfl (fun h5=>?_) (fun h5=>?_)
 ·have h5:op=2:=by simpa using h5
  rw [if_pos h5] at hW2;refine Z7 fun K hK=>AW.region zk ?_;refine Zs ?_;refine Zc hG ?_ (s:=(Zqg G hG name (by omega)));refine hK _ ?_
  try clear hK K
  refine Z ?_;rw [hW2];generalize isP name=z
  cases hz:(z==2) with
  | true =>
   have:((z:Int)==2)=true:=by rw [beq_iff_eq] at hz ⊢;omega
   rw [this]
  | false =>
   have:((z:Int)==2)=false:=by rw [beq_eq_false_iff_ne] at hz ⊢;omega
   rw [this]
 ·have h5:¬ op=2:=by simpa using h5
  rw [if_neg h5] at hW2;refine Z0 ?_;refine hK2 _ ?_;refine Z7 fun K hK=>AW.region zk ?_;refine Zs ?_;refine hK _ ?_
  try clear hK K
  refine Z ?_;rw [hW2]
def Zrr (n:XN):Nat→Int
 | 0=>n.a
 | 1=>n.b
 | _=>n.c
def Zvl (rec:Int→Int) (n:XN):Nat→Int→Option Int
 | 0,last=>some last
 | k+1,last=>match Z7a rec (Nat.blt k (Zy n.op)) (Zrr n k) last with
  | none=>none
  | some q=>Zvl rec n k q
theorem Z54 (l:List XN) (f:Nat) (i:Int):Z5g l (f+1) i=match Z2t l i with
  | none => -1
  | some n=>bif Zkd n then (match Zvl (Z5g l f) n 3 (i-1) with | none => -1 | some q=>q+1) else -1:=by
 rw [Z5g]
 cases Z2t l i with
 | none=>rfl
 | some n =>
  simp only
  cases Zkd n with
  | false=>rfl
  | true =>
   simp only [cond_true,Zvl,Zrr]
   cases Z7a (Z5g l f) (Nat.blt 2 (Zy n.op)) n.c (i-1) with
   | none=>rfl
   | some l2 =>
    simp only
    cases Z7a (Z5g l f) (Nat.blt 1 (Zy n.op)) n.b l2 with
    | none=>rfl
    | some l1 =>
     simp only
     cases Z7a (Z5g l f) (Nat.blt 0 (Zy n.op)) n.a l1 with
     | none=>rfl
     | some l0=>rfl
theorem Ze1 {rec:Int→Int} {pl last:Int} (h:¬ pl=last):Z7a rec true pl last=none:=by simp [Z7a,h]
theorem Z4w {rec:Int→Int} {pl last:Int} (h:pl=last) (h2:rec last<0):Z7a rec true pl last=none:=by simp [Z7a,h,h2]
theorem Z3w {rec:Int→Int} {pl last:Int} (h:pl=last) (h2:¬ rec last<0):Z7a rec true pl last=some (rec last-1):=by simp [Z7a,h,h2]
theorem bsNo {rec:Int→Int} {pl last:Int} (h:¬ pl = -1):Z7a rec false pl last=none:=by simp [Z7a,h]
theorem bsNone {rec:Int→Int} {pl last:Int} (h:pl = -1):Z7a rec false pl last=some last:=by simp [Z7a,h]
theorem begR_le (l:List XN) (f:Nat) (i:Int) (h:0≤Z5g l f i):Z5g l f i≤i:=by
 obtain ⟨x,b,_,_,h3,h4⟩:=Zke l f i h;have:=x.size_pos;omega
theorem Zbw (G:Nat→V) (hG:GOk G) (s:Sl XN) (hs:s.l.length<1000000) (hnm:∀ n∈s.l,n.name.length<100000):∀ (f:Nat) (c:Col) (i:Int),-1≤i→i<f→i<1000000 →
  Spec Tryz.prog G 315 [Zb c 6 Zva s,.int .i64 i] Zl (fun v _=>v = .int .i64 (Z5g s.l f i)):=by
 intro f
 induction f with
 | zero =>
  intro c i h1 h2 _
  obtain rfl:i = -1:=by omega
  refine Zo 0 68 [.tmp 4] Tryz.func315 fun X=>?_;refine Z1 ?_;refine Z1 ?_;refine Zi rfl (fun h2=>?_) (fun h2=>?_)
  ·exact Zr
  ·cases h2
 | succ f ih =>
 intro c i h1 h2 h3;refine Zo 0 68 [.tmp 4] Tryz.func315 fun X=>?_;have hB:=Z54 s.l f i;generalize Z5g s.l (f+1) i=res at hB ⊢;refine Z1 ?_;refine Z5 ?_
 by_cases hi:i<0
 ·have e1:decide (i<0)=true:=by simpa using hi
  have hno:Z2t s.l i=none:=by unfold Z2t;rw [if_pos hi]
  rw [hno] at hB;refine Z1f e1 ?_;refine Zi rfl (fun h4=>?_) (fun h4=>?_)
  ·refine Z ?_
   rw [hB]
  ·cases h4
 have e1:decide (i<0)=false:=by simpa using hi
 obtain ⟨m,rfl⟩:∃ m:Nat,i=m:=⟨i.toNat,by omega⟩
 by_cases hm:m≥s.l.length
 ·have e2:decide ((m:Int)≥s.l.length)=true:=zT
  have hno:Z2t s.l m=none:=by unfold Z2t;rw [if_neg hi];exact List.getElem?_eq_none (by simpa using hm)
  rw [hno] at hB;refine Z1f (zi e1 e2) ?_;refine Zi rfl (fun h4=>?_) (fun h4=>?_)
  ·refine Z ?_
   rw [hB]
  ·cases h4
 have e2:decide ((m:Int)≥s.l.length)=false:=zF;have hg:=List.getElem?_eq_getElem (Nat.lt_of_not_le hm);have hnn:=hnm _ (List.getElem_mem (Nat.lt_of_not_le hm));generalize s.l[m]=n at hg hnn
 have hno:Z2t s.l m=some n:=by unfold Z2t;rw [if_neg hi];exact hg
 rw [hno] at hB;simp only at hB;refine Z1f (zi e1 (zi e2 (zi hg @Z4a))) ?_;rw [← Z4a];refine Zcf @Z3h hG ?_ (s:=(Znt G hG n hnn))
 cases hw:Zkd n with
 | false =>
  rw [hw,cond_false] at hB;refine Zi rfl (fun h4=>?_) (fun h4=>?_)
  ·refine Z ?_
   rw [hB]
  ·cases h4
 | true =>
 rw [hw,cond_true] at hB;refine Z1f (zi hg @Z4a) ?_;intro g5;refine Z1 ?_;intro g36;have hw1:IntKind.i64.wrap ((m:Int)-1)=(m:Int)-1:=w64 (by omega) (by omega);refine Z1f hw1 ?_;refine Z1 ?_;refine AW.block ?_
 refine Zlb (fun (x:Nat × Int)=>st [(0,Zb c 6 Zva s),(5,.ptr 5 g5 0),(6,.msl 36 g36 0 3 1),(7,.int .i64 x.2),(8,.int .i64 ((x.1:Int)-1))] [(5,.cells .new g5 0 [.int .u8 n.op,.int .i64 n.num,.str n.name,.int .i64 n.a,.int .i64 n.b,.int .i64 n.c]),(36,.cells .new g36 0 [.int .i64 n.a,.int .i64 n.b,.int .i64 n.c])])
  (fun x=>(res=match Zvl (Z5g s.l f) n x.1 x.2 with | none => -1 | some q=>q+1)∧x.1≤3 ∧ -1≤x.2∧x.2≤(m:Int)-1) (fun x=>x.1) (3,(m:Int)-1) ⟨hB,Nat.le_refl _,by show -1≤(m:Int)-1;omega,Int.le_refl _⟩
  (Za zp zp) ?_
 try clear hB
 rintro ⟨k,last⟩ ⟨hB,hk3,hl1,hl2⟩ L6 hL6
 replace hB:res=match Zvl (Z5g s.l f) n k last with | none => -1 | some q=>q+1:=hB
 replace hk3:k≤3:=hk3
 replace hl1 : -1≤last:=hl1
 replace hl2:last≤(m:Int)-1:=hl2
 refine Z1 ?_
 cases k with
 | zero =>
  refine Z ?_
  rw [hB,w64 (by omega) (by omega)]<;>rfl
 | succ k =>
 have e8:decide (((k+1:Nat):Int)-1≥0)=true:=zT;rw [Zvl] at hB;refine Zi rfl (fun h8=>?_) (fun h8=>?_);rotate_left
 ·rw [e8] at h8;cases h8
 refine Z0 ?_
 have ek:((k+1:Nat):Int)-1=(k:Int):=by omega
 rw [ek];have hwk:IntKind.i64.wrap ((k:Int)-1)=(k:Int)-1:=w64 (by omega) (by omega)
 have hpl:([.int .i64 n.a,.int .i64 n.b,.int .i64 n.c]:List V)[k]? = some (.int .i64 (Zrr n k)):=by
  match k,hk3 with
  | 0,_=>rfl
  | 1,_=>rfl
  | 2,_=>rfl
 have hklt:(k:Int)<3:=by omega
 generalize Zrr n k=pl at hB hpl;refine Z1 ?_;refine Zc hG ?_ (s:=(Zor G hG n.op));generalize hpo:Zy n.op=po at hB ⊢
 by_cases hkp:k<po
 ·have e5:decide ((k:Int)≥(po:Int))=false:=zF
  have hbs:Nat.blt k po=true:=by simpa using hkp
  rw [hbs] at hB;refine Zi rfl (fun h11=>?_) (fun h11=>?_)
  ·rw [e5] at h11;cases h11
  refine Z0 ?_;refine Z5 ?_
  by_cases hpe:pl=last
  rotate_left
  ·have e6:(pl != last)=true:=by simpa using hpe
   rw [Ze1 hpe] at hB;refine Z1f (zi @Nat.mul_one (zi hpl (zi hklt (zi @Int.natCast_nonneg e6)))) ?_;refine Zi rfl (fun h13=>?_) (fun h13=>?_)
   ·refine Z ?_
    rw [hB]
   ·cases h13
  have e6:(pl != last)=false:=by simpa using hpe
  refine Z1f (zi @Nat.mul_one (zi hpl (zi hklt (zi @Int.natCast_nonneg e6)))) ?_;refine Z1 ?_;refine Zcf @Zfa hG ?_ (s:=(ih c.ent last (by omega) (by omega) (by omega)));have hge:=Z64 s.l f last;have hle:=begR_le s.l f last;refine Z5 ?_
  by_cases hr0:Z5g s.l f last<0
  ·have e7:decide (Z5g s.l f last<0)=true:=by simpa using hr0
   rw [Z4w hpe hr0] at hB;refine Z1f e7 ?_;refine Zi rfl (fun h15=>?_) (fun h15=>?_)
   ·refine Z ?_
    rw [hB]
   ·cases h15
  have e7:decide (Z5g s.l f last<0)=false:=by simpa using hr0
  rw [Z3w hpe hr0] at hB;refine Z1f e7 ?_;refine Z0 ?_;have hle2:=hle (by omega);generalize Z5g s.l f last=r at hB hge hle2 hr0 ⊢;have hwr:IntKind.i64.wrap (r-1)=r-1:=w64 (by omega) (by omega);refine Z1f hwr ?_;refine Z1f hwk ?_;refine hL6 _ ⟨(k,r-1),by show k<k+1;omega,⟨hB,by show k≤3;omega,by show -1≤r-1;omega,by show r-1≤(m:Int)-1;omega⟩,Za zp zp⟩
 ·have e5:decide ((k:Int)≥(po:Int))=true:=zT
  have hbs:Nat.blt k po=false:=by
   rw [Bool.eq_false_iff];simpa using hkp
  rw [hbs] at hB;refine Zi rfl (fun h11=>?_) (fun h11=>?_);rotate_left
  ·rw [e5] at h11;cases h11
  refine Z5 ?_
  by_cases hpe:pl = -1
  rotate_left
  ·have e6:(pl != -1)=true:=by simpa using hpe
   rw [bsNo hpe] at hB;refine Z1f (zi @Nat.mul_one (zi hpl (zi hklt (zi @Int.natCast_nonneg e6)))) ?_;refine Zi rfl (fun h13=>?_) (fun h13=>?_)
   ·refine Z ?_
    rw [hB]
   ·cases h13
  have e6:(pl != -1)=false:=by simpa using hpe
  rw [bsNone hpe] at hB;refine Z1f (zi @Nat.mul_one (zi hpl (zi hklt (zi @Int.natCast_nonneg e6)))) ?_;refine Z1f hwk ?_;refine hL6 _ ⟨(k,last),by show k<k+1;omega,⟨hB,by show k≤3;omega,hl1,hl2⟩,Za zp zp⟩
def dep0 (s:Sl XN) (G:Nat→V) (i d:Int):Prop:=∀ c,Spec Tryz.prog G 314 [Zb c 6 Zva s,.int .i64 i] Zl (fun v _=>v = .int .i64 d)
theorem Zte (G:Nat→V) (hG:GOk G) (s:Sl XN):dep0 s G (-1) 0:=by
 intro c;refine Zo 0 30 [.tmp 4] Tryz.func314 fun X=>?_;refine Z1 ?_;refine Z1 ?_;refine Zi rfl (fun h2=>?_) (fun h2=>?_)
 ·exact Zr
 ·cases h2
theorem Zrg (G:Nat→V) (hG:GOk G) (s:Sl XN) (m:Nat) (n:XN) (hg:s.l[m]? = some n) (d0 d1 d2:Int) (h0:dep0 s G n.a d0) (h1:dep0 s G n.b d1) (h2:dep0 s G n.c d2) (hb:(0≤d0∧d0<1000000)∧(0≤d1∧d1<1000000)∧(0≤d2∧d2<1000000)) :
  dep0 s G m (max (max d0 d1) d2+1):=by
 intro c;refine Zo 0 30 [.tmp 4] Tryz.func314 fun X=>?_;refine Z1 ?_;refine Z5 ?_;have e1:decide ((m:Int)<0)=false:=zF;refine Z1f e1 ?_;refine Z0 ?_
 have pc:∀ i d,dep0 s G i d→Zep Tryz.prog G 314 [Zb c 6 Zva s,.int .i64 i] (.int .i64 d):=fun i d h=>⟨by kernel_rfl,by
  simp only [List.map_cons,List.map_nil,Zfa,Zjc];refine (h c.ent).mono ?_;rintro _ _ rfl
  rfl⟩
 have hmx:(if d2 > (if d1 > d0 then d1 else d0) then d2 else (if d1 > d0 then d1 else d0))=max (max d0 d1) d2:=by
  rw [Int.max_def,Int.max_def]
  split<;>split<;>split<;>omega
 have hw:IntKind.i64.wrap (1+max (max d0 d1) d2)=max (max d0 d1) d2+1:=by rw [w64 (by omega) (by omega)];omega
 refine Z5 <| Zw ⟨fun i=>if i=6 then .int .i64 d0 else if i=13 then .int .i64 d1 else if i=20 then .int .i64 d2 else .top,fun _ => .pure⟩ zk hG zk zk ?_
 refine Zsf (zi hg (zi @Z4a (zi hmx hw))) ?_;refine ⟨pc _ _ h0,pc _ _ h1,pc _ _ h2,?_⟩;exact Zr
theorem Zad:∀ x:X,x.depth≤x.size
 | .leaf .. => Nat.le_refl _
 | .un _ a=>by have:=Zad a;simp only [X.depth,X.size];omega
 | .bin _ a b=>by have:=Zad a;have:=Zad b;simp only [X.depth,X.size];omega
 | .ite a b c=>by have:=Zad a;have:=Zad b;have:=Zad c;simp only [X.depth,X.size];omega
theorem Zzl {l:List XN} {x:X} {b:Nat} (h:At l x b):b+x.size≤l.length:=by
 obtain ⟨pre,post,rfl,hb⟩:=h;rw [List.length_append,List.length_append,X.row_len];omega
theorem Z7e (G:Nat→V) (hG:GOk G) (s:Sl XN) (hs:s.l.length<1000000):∀ (x:X) (b:Nat),At s.l x b→dep0 s G ((b:Int)+x.size-1) x.depth
 | .leaf op num name,b,h=>by
  have:=Zrg G hG s b _ h.get 0 0 0 (Zte G hG s) (Zte G hG s) (Zte G hG s) ⟨by decide,by decide,by decide⟩
  have e:(b:Int)+(X.leaf op num name).size-1=(b:Nat):=by simp only [X.size];omega
  rw [e];exact this
 | .un op a,b,h=>by
  have ha:=h.un;have ih:=Z7e G hG s hs a b ha;have hz:=Zzl h;have hd:=Zad a;have hp:=a.size_pos;have:=Zrg G hG s _ _ h.get _ 0 0 ih (Zte G hG s) (Zte G hG s) ⟨⟨by omega,by simp only [X.size] at hz;omega⟩,by decide,by decide⟩
  have e:(b:Int)+(X.un op a).size-1=((b+(X.un op a).size-1:Nat):Int):=by simp only [X.size];omega
  rw [e]
  have e2:((X.un op a).depth:Int)=max (max (a.depth:Int) 0) 0+1:=by simp only [X.depth];omega
  rw [e2];exact this
 | .bin op x y,b,h=>by
  obtain ⟨hx,hy⟩:=h.bin;have ihx:=Z7e G hG s hs x b hx;have ihy:=Z7e G hG s hs y (b+x.size) hy;have hz:=Zzl h;have hd1:=Zad x;have hd2:=Zad y;have hp1:=x.size_pos;have hp2:=y.size_pos
  have e3:((b+x.size:Nat):Int)+y.size-1=(b:Int)+x.size+y.size-1:=by omega
  rw [e3] at ihy;simp only [X.size] at hz;have:=Zrg G hG s _ _ h.get _ _ 0 ihx ihy (Zte G hG s) ⟨⟨by omega,by omega⟩,⟨by omega,by omega⟩,by decide⟩
  have e:(b:Int)+(X.bin op x y).size-1=((b+(X.bin op x y).size-1:Nat):Int):=by simp only [X.size];omega
  rw [e]
  have e2:((X.bin op x y).depth:Int)=max (max (x.depth:Int) y.depth) 0+1:=by simp only [X.depth];omega
  rw [e2];exact this
 | .ite x y z,b,h=>by
  obtain ⟨hx,hy,hz'⟩:=h.ite;have ihx:=Z7e G hG s hs x b hx;have ihy:=Z7e G hG s hs y (b+x.size) hy;have ihz:=Z7e G hG s hs z (b+x.size+y.size) hz';have hz:=Zzl h;have hd1:=Zad x;have hd2:=Zad y;have hd3:=Zad z;have hp1:=x.size_pos;have hp2:=y.size_pos;have hp3:=z.size_pos
  have e3:((b+x.size:Nat):Int)+y.size-1=(b:Int)+x.size+y.size-1:=by omega
  rw [e3] at ihy
  have e4:((b+x.size+y.size:Nat):Int)+z.size-1=(b:Int)+x.size+y.size+z.size-1:=by omega
  rw [e4] at ihz;simp only [X.size] at hz;have:=Zrg G hG s _ _ h.get _ _ _ ihx ihy ihz ⟨⟨by omega,by omega⟩,⟨by omega,by omega⟩,⟨by omega,by omega⟩⟩
  have e:(b:Int)+(X.ite x y z).size-1=((b+(X.ite x y z).size-1:Nat):Int):=by simp only [X.size];omega
  rw [e]
  have e2:((X.ite x y z).depth:Int)=max (max (x.depth:Int) y.depth) z.depth+1:=by simp only [X.depth];omega
  rw [e2];exact this
theorem Z4n (G:Nat→V) (hG:GOk G) (c:Col) (s:Sl XN) (hs:s.l.length<1000000) (hnm:∀ n∈s.l,n.name.length<100000) :
  Spec Tryz.prog G 293 [Zb c 6 Zva s] Zl (fun v _=>v = .bool (Zjt s.l)):=by
 refine Zo 0 9 [.tmp 2] Tryz.func293 fun X=>?_;have hw:IntKind.i64.wrap ((s.l.length:Int)-1)=(s.l.length:Int)-1:=w64 (by omega) (by omega);refine Z1 ?_;refine Z1f hw ?_;refine Zcf @Zfa hG ?_ (s:=(Zbw G hG s hs hnm s.l.length c.ent ((s.l.length:Int)-1) (by omega) (by omega) (by omega)));exact Zr
theorem Z8l (G:Nat→V) (hG:GOk G) (c:Col) (s:Sl XN) (hs:s.l.length<1000000) (hnm:∀ n∈s.l,n.name.length<100000) :
  Spec Tryz.prog G 292 [Zb c 6 Zva s] Zl (fun v _=>v = .int .i64 (Zgb s.l)):=by
 refine Zo 0 11 [.tmp 2] Tryz.func292 fun X=>?_;have hw:IntKind.i64.wrap ((s.l.length:Int)-1)=(s.l.length:Int)-1:=w64 (by omega) (by omega);refine Z1 ?_;refine Z1 ?_;refine Zcf @Zfa hG ?_ (s:=(Z4n G hG c.ent s hs hnm))
 cases hr:Zjt s.l with
 | false =>
  have hd:Zgb s.l=0:=by
   have:=Zvn s.l;rw [hr] at this;have h2:=of_decide_eq_false this.symm;exact Classical.byContradiction h2
  refine Zi rfl (fun h6=>?_) (fun h6=>?_)
  ·refine Z ?_
   rw [hd]
  ·cases h6
 | true =>
 refine Z0 ?_;obtain ⟨x,hx,hl⟩:=Z6p.1 hr;have hat:At s.l x 0:=hl ▸ Z9m x
 have hdep:Zgb s.l=x.depth:=by rw [hl,Zuo hx]
 have hlen:s.l.length=x.size:=by rw [hl,Go.Hs.X.row_len]
 have hsp:=Z7e G hG s hs x 0 hat;rw [show ((0:Nat):Int)+x.size-1=(s.l.length:Int)-1 by omega] at hsp;refine Z1f hw ?_;refine Zcf @Zfa hG ?_ (s:=(hsp c.ent));refine Z ?_;rw [hdep]
def Zec (l:List XN):Int:=if Zgb l=0 then 2 else if Zgb l > 64 then 3 else 0
theorem Z5n (G:Nat→V) (hG:GOk G) (c:Col) (s:Sl XN) (hs:s.l.length<1000000) (hnm:∀ n∈s.l,n.name.length<100000) :
  Spec Tryz.prog G 274 [Zb c 6 Zva s] Zl (fun v _=>v = .int .i64 (Zec s.l)):=by
 refine Zo 0 9 [.tmp 2] Tryz.func274 fun X=>?_
 have hC:Zec s.l=if Zgb s.l=0 then 2 else if Zgb s.l > 64 then 3 else 0:=rfl
 generalize Zec s.l=res at hC ⊢;refine Z1 ?_;refine Z1 ?_;refine Zcf @Zfa hG ?_ (s:=(Z4n G hG c.ent s hs hnm));rw [Zvn]
 by_cases hd:Zgb s.l=0
 ·rw [if_pos hd] at hC
  have e1:decide (Zgb s.l≠0)=false:=by simpa using hd
  rw [e1];refine Zi rfl (fun h6=>?_) (fun h6=>?_)
  ·refine Z ?_
   rw [hC]
  ·cases h6
 have e1:decide (Zgb s.l≠0)=true:=by simpa using hd
 rw [if_neg hd] at hC;rw [e1];refine Z1 ?_;refine Zcf @Zfa hG ?_ (s:=(Z8l G hG c.ent s hs hnm));refine Zi rfl (fun h7=>?_) (fun h7=>?_)
 ·have h7:Zgb s.l > 64:=by simpa using h7
  rw [if_pos h7] at hC;refine Z ?_;rw [hC]
 ·have h7:¬ Zgb s.l > 64:=by simpa using h7
  rw [if_neg h7] at hC;refine Z ?_;rw [hC]
theorem Z1i (G:Nat→V) (hE:GExp G) (c:Col) (s:Sl XN) (hs:s.l.length<1000000) (hnm:∀ n∈s.l,n.name.length<100000) :
  Spec Tryz.prog G 281 [.agg [Zb c 6 Zva s]] Zl (fun v _=>v = .int .i64 (Zec s.l)):=by
 have hG:=hE.ok;refine Zo 0 12 [.tmp 2] Tryz.func281 fun X=>?_
 have hC:Zec s.l=if Zgb s.l=0 then 2 else if Zgb s.l > 64 then 3 else 0:=rfl
 generalize Zec s.l=res at hC ⊢;refine Z1 ?_;intro g1;refine Z1 ?_;refine Zcf @Zfa hG ?_ (s:=(Zbn G hE c.ent s hs hnm));refine Z1 ?_;refine Zi rfl (fun h6=>?_) (fun h6=>?_)
 ·have h6:Zgb s.l=0:=by simpa using h6
  rw [if_pos h6] at hC;refine Z ?_;rw [hC]
 have h6:¬ Zgb s.l=0:=by simpa using h6
 rw [if_neg h6] at hC;refine Z1 ?_;refine Zi rfl (fun h7=>?_) (fun h7=>?_)
 ·have h7:Zgb s.l > 64:=by simpa using h7
  rw [if_pos h7] at hC;refine Z ?_;rw [hC]
 ·have h7:¬ Zgb s.l > 64:=by simpa using h7
  rw [if_neg h7] at hC;refine Z ?_;rw [hC]
end Go.Hs
end

section
namespace Go.Hs
def NmQ (Q:List UInt8→Prop) (r:RS):Prop:=∀ n∈r.nodes,Q n.name
def NmI (Q:List UInt8→Prop) (inner:Inner):Prop:=∀ n r,NmQ Q r→NmQ Q (inner n r).2
theorem NmQ.put {Q:List UInt8→Prop} {r:RS} {n:XN} (h:NmQ Q r) (hn:Q n.name):NmQ Q (r.put n):=by
 intro m hm
 rcases List.mem_append.1 hm with h1 | h1
 ·exact h m h1
 ·rw [List.mem_singleton.1 h1];exact hn
theorem Zcc {Q:List UInt8→Prop} {x:Bool × RS} {k:RS→Bool × RS} (h:NmQ Q x.2) (hk:∀ r,NmQ Q r→NmQ Q (k r).2):NmQ Q (andThen x k).2:=by
 obtain ⟨b,r⟩:=x;cases b
 ·exact h
 ·exact hk r h
theorem Zso {Q:List UInt8→Prop} (l:List Tk) (w:List UInt8) {r:RS} (h:NmQ Q r):NmQ Q (Zah l w r).2:=by
 unfold Zah;split<;>exact h
theorem Zh0 {Q:List UInt8→Prop} (h0:Q []) (t:List UInt8) {r:RS} (h:NmQ Q r):NmQ Q (Znd r t).2:=by
 unfold Znd;split
 ·exact h
 ·exact NmQ.put (n:=⟨1,_,[],-1,-1,-1⟩) h h0
theorem Ztu {Q:List UInt8→Prop} {l:List Tk} {inner:Inner} (h0:Q []) (hi:NmI Q inner) {r:RS} (h:NmQ Q r):NmQ Q (Zib l inner r).2:=by
 unfold Zib;refine Zcc (Zso _ _ h) fun r1 h1=>Zcc (hi _ _ h1) fun a h2=>Zcc (Zso _ _ h2) fun r2 h3=>Zcc (hi _ _ h3) fun b h4=>Zcc (Zso _ _ h4) fun r3 h5=>Zcc (hi _ _ h5) fun c h6=>Zcc (Zso _ _ h6) fun r4 h7=>?_;exact NmQ.put h7 h0
theorem Z84 {Q:List UInt8→Prop} {l:List Tk} {inner:Inner} (h0:Q []) (hq:∀ i,(Zba l i).kind=2→Q (Zba l i).text) (hi:NmI Q inner) {r:RS} (h:NmQ Q r):NmQ Q (Z8a l inner r).2:=by
 unfold Z8a
 split
 ·exact Zh0 h0 _ h
 split
 ·rename_i hk;exact NmQ.put (n:=⟨2,0,(Zba l r.i).text,-1,-1,-1⟩) h (hq _ hk)
 split
 ·exact h
 split
 ·exact Zcc (hi _ _ h) fun a ha=>NmQ.put ha h0
 split
 ·exact Zcc (hi _ _ h) fun a ha=>Zso _ _ ha
 split
 ·exact Ztu h0 hi h
 split
 ·exact NmQ.put (n:=⟨_,0,[],-1,-1,-1⟩) h h0
 ·exact h
theorem Zqy {Q:List UInt8→Prop} {l:List Tk} {inner:Inner} (h0:Q []) (hi:NmI Q inner) (n:Int):∀ (m:Nat) (r:RS),NmQ Q r→NmQ Q (Z9b l inner n m r).2
 | 0,r,h=>h
 | m+1,r,h=>by
  rw [Z9b]
  split
  ·exact h
  ·split
   ·exact h
   ·exact Zcc (hi _ r.adv h) fun a ha=>Zqy h0 hi n m (a.put _) (NmQ.put ha h0)
theorem Zwo {Q:List UInt8→Prop} (l:List Tk) (h0:Q []) (hq:∀ i,(Zba l i).kind=2→Q (Zba l i).text):∀ f,NmI Q (Z8 l f)
 | 0=>fun _ _ h=>h
 | f+1=>fun n r h=>by
  rw [Z8];exact Zcc (Z84 h0 hq (Zwo l h0 hq f) h) fun a ha=>Zqy h0 (Zwo l h0 hq f) n _ a ha
end Go.Hs
end

section
namespace Go.Hs
open Go.Proofs
set_option maxRecDepth 10000
theorem Z9u {NO:Nat} {tl:List V} {G:Nat→V} (hG:GOk G) {f:FuncId} {args args':List V} {sl:Sl Tk} {g:Nat} {r r':RS} {v:V} (h:RdS NO tl G f args' sl g r v r') {H:Heap} {K:V→Heap→Prop}
  (hen:Zha Tryz.prog f=true) (htl:∀ F:Col→Col,tl.map (V.recol F)=tl) (hargs:args.map (V.recol Col.ent)=args') (hv:v.recol Col.bk=v) (hr:r.nodes=[])
  (cs:List V) (h8:H 8 = .cells .new g 0 cs) (hcs:Z2a Col.ent cs=(Zb .any 3 Zcb sl :: .int .i64 r.i :: .nils :: .int .i64 r.e::tl)) (hN:H NO = .dead)
  (hk:∀ gx',K v (Zob H [(8,.cells .new g 0 (Zb .any 3 Zcb sl :: .int .i64 r'.i::grown NO gx' 6 r'.nodes :: .int .i64 r'.e::tl)),(NO,Zxa gx' Zva r'.nodes)])) :
  CallA Tryz.prog G f (.ptr 8 g 0::args) H K:=by
 refine Zvx hG [(8,rdO NO tl sl g 0 r),(NO,ndO 0 r.nodes)] hen ?_ ?_ ?_
 ·intro p hp
  simp only [List.mem_cons,List.not_mem_nil,or_false] at hp
  rcases hp with rfl | rfl
  ·simp only [h8,AObj.toAny,hcs,Zua,hr];rfl
  ·simp only [hN,AObj.toAny,hr];rfl
 ·intro p hp c g' fz cs' ho
  simp only [List.mem_cons,List.not_mem_nil,or_false] at hp
  rcases hp with rfl | rfl
  ·simp only [h8,AObj.cells.injEq] at ho;exact ho.1.symm
  ·simp only [hN] at ho;cases ho
 ·have ha:(V.ptr 8 g 0::args).map (V.recol Col.ent) = .ptr 8 g 0::args':=by rw [List.map_cons,Z5j,hargs]
  rw [ha];refine (h 0).mono ?_;rintro _ H' ⟨rfl,gx',q8,qN⟩
  have b8:(rdO NO tl sl g gx' r').backNew = .cells .new g 0 (Zb .any 3 Zcb sl :: .int .i64 r'.i::grown NO gx' 6 r'.nodes :: .int .i64 r'.e::tl):=by
   simp only [Zua,AObj.backNew,Z3,List.map_cons,Zsa,Zjc,Z6e,htl];rfl
  have bN:(ndO gx' r'.nodes).backNew=Zxa gx' Zva r'.nodes:=by
   unfold ndO
   cases hn:r'.nodes with
   | nil=>rfl
   | cons x t =>
    rw [Zjk _ _ _ (by simp),Zxc _ _ (by simp)];simp only [AObj.backNew,Z3];rw [← Zwe,List.map_map];have he:(x::t).map (V.recol Col.bk ∘ Zva)=(x::t).map Zva:=List.map_congr_left fun y _=>Z3h _ y
    first | done | rw [he]
  simp only [List.map_cons,List.map_nil,q8,qN,b8,bN,hv];exact hk gx'
def encXs (c:Col) (l:List XN):V:=Zb c 6 Zva (Zm l)
def encFr (c:Col) (p:List XN × Int × Int):V := .tuple [.agg [encXs c p.1],.int .i64 p.2.1,.int .i64 p.2.2]
theorem Z3g {l:List Tk} (hT:TkOk l):∀ n∈(Z8 l (l.length+1) 1 ⟨0,[],0⟩).2.nodes,n.name.length<100000 :=
 Zwo (Q:=fun s=>s.length<100000) l (Nat.zero_lt_succ _) (fun i _=>Zco hT i) _ _ _ (fun n hn=>by cases hn)
theorem Zwp (G:Nat→V) (hE:GExp G) (c:Col) (sl:Sl Tk) (hT:TkOk sl.l):Spec Tryz.prog G 257 [Zb c 3 Zcb sl] Zl (fun v _=>v=encFr .new (Z5a sl.l)):=by
 have hG:=hE.ok;have hTl:=hT.len;refine Zo 0 44 [.cell 2 197,.tmp 3,.tmp 4] Tryz.func257 fun X=>?_
 have hP:Z5a sl.l=if (Z8 sl.l (sl.l.length+1) 1 ⟨0,[],0⟩).1=false then (([]:List XN),((Z8 sl.l (sl.l.length+1) 1 ⟨0,[],0⟩).2.i:Int),(Z8 sl.l (sl.l.length+1) 1 ⟨0,[],0⟩).2.e)
  else if Zgb (Z8 sl.l (sl.l.length+1) 1 ⟨0,[],0⟩).2.nodes > 64 then ([],0,3) else ((Z8 sl.l (sl.l.length+1) 1 ⟨0,[],0⟩).2.nodes,((Z8 sl.l (sl.l.length+1) 1 ⟨0,[],0⟩).2.i:Int),(0:Int)):=rfl
 have hr0:Z0k sl.l ⟨0,[],0⟩:=⟨Nat.zero_le _,Nat.le_refl _⟩;have hcl:=fun g=>Ziv G hE sl hT g (sl.l.length+1) 1 ⟨0,[],0⟩ (by decide) (by decide) (Nat.lt_succ_self _) hr0;have hnm2:=Z3g hT;have hok:=(Z3b sl.l (sl.l.length+1) 1 ⟨0,[],0⟩);generalize Z5a sl.l=res at hP ⊢;generalize Z8 sl.l (sl.l.length+1) 1 ⟨0,[],0⟩=y at hP hcl hok hnm2;obtain ⟨b,r⟩:=y;simp only at hP hcl hok hnm2;refine Z1 ?_;intro g2;refine Z1 ?_;intro g8;refine Z5 ?_;refine AW.block ?_;refine AW.weak (Zv (fun _=>false) (l:=[(5,.ptr 8 g8 0),(2,.ptr 2 g2 0)]) (m:=[(2,.cells .new g2 0 [.nils]),(8,.cells .new g8 0 [Zb .any 3 Zcb sl,.int .i64 0,.nils,.int .i64 0,.func (.func 279) [] []])]) ?_ ?_) ?_
 ·refine Zs ?_
  exact ⟨Zd _,Zd _⟩
 ·simp only [Zx,Zz,and_true]
  exact ⟨FzO.keep rfl zp,FzO.of (c := .new) (fz:=0) (cs:=[Zb c 3 Zcb sl,.int .i64 0,.nils,.int .i64 0,.func (.func 279) [] []]) rfl zp ⟨Fz.any (Zsa _ _ _),Zd _,Zd _,Zd _,Zd _,trivial⟩⟩
 refine Z1 ?_;refine Z9u hG (hcl g8) zk (fun F=>rfl) rfl rfl rfl _ zp (by simp only [Z3,List.map_cons,List.map_nil,Zsa];rfl) zp fun gx=>?_;refine Zu ?_
 cases b with
 | false =>
  refine Zpc rfl ?_;refine AW.weak (Zv (fun o=>o==8) (l:=[(5,.view .new (.agg [Zb .any 3 Zcb sl,.int .i64 r.i,grown 1031 gx 6 r.nodes,.int .i64 r.e,.func (.func 279) [] []])),(2,.ptr 2 g2 0)]) (m:=[(2,.cells .new g2 0 [.nils])]) ?_ ?_) ?_
  ·refine Zs ?_
   exact ⟨Fz.ptr (v := .agg [Zb .any 3 Zcb sl,.int .i64 r.i,grown 1031 gx 6 r.nodes,.int .i64 r.e,.func (.func 279) [] []]) (c := .new) (fz:=0) rfl zp,Zd _⟩
  ·simp only [Zx,Zz,and_true]
   exact FzO.keep rfl zp
  refine Z5 ?_;refine Zw ⟨fun _ => .top,fun i=>if i=4 then .lend else if i=8 then .lend else .pure⟩ zk hG zk zk ?_;refine Zs ?_;refine Z ?_
  rw [hP]<;>rfl
 | true =>
 refine Z9a rfl ?_;refine AW.weak (Zv (fun o=>o==1031) (l:=[(5,.ptr 8 g8 0),(2,.ptr 2 g2 0)]) (m:=[(2,.cells .new g2 0 [.nils]),(8,.cells .new g8 0 [Zb .any 3 Zcb sl,.int .i64 r.i,encXs .new r.nodes,.int .i64 r.e,.func (.func 279) [] []])]) ?_ ?_) ?_
 ·refine Zs ?_
  exact ⟨Zd _,Zd _⟩
 ·simp only [Zx,Zz,and_true]
  exact ⟨FzO.keep rfl zp,FzO.of (c := .new) (fz:=0) (cs:=[Zb .any 3 Zcb sl,.int .i64 r.i,grown 1031 gx 6 r.nodes,.int .i64 r.e,.func (.func 279) [] []]) rfl zp ⟨Zd _,Zd _,Z0a rfl zp Z6d,Zd _,Zd _,trivial⟩⟩
 have hrl:r.nodes.length<1000000:=by have:=(hok.ok hr0);have h1:=this.1;have h2:=this.2;omega
 rw [if_neg (by simp)] at hP;refine Z1f @encXs.eq_1 ?_;refine Zcf @Zfa hG ?_ (s:=(Zbn G hE Col.new.ent (Zm r.nodes) (by rw [Zp];exact hrl) (by rw [Zp];exact hnm2)));refine Zi rfl (fun h26=>?_) (fun h26=>?_)
 ·have h26:Zgb r.nodes > 64:=by simpa using h26
  rw [if_pos h26] at hP;refine Z ?_
  rw [hP]<;>rfl
 have h26:¬ Zgb r.nodes > 64:=by simpa using h26
 rw [if_neg h26] at hP;refine Z0 ?_;refine AW.weak (Zv (fun o=>o==8) (l:=[(5,.view .new (.agg [Zb .any 3 Zcb sl,.int .i64 r.i,encXs .new r.nodes,.int .i64 r.e,.func (.func 279) [] []])),(2,.ptr 2 g2 0)]) (m:=[(2,.cells .new g2 0 [.nils])]) ?_ ?_) ?_
 ·refine Zs ?_
  exact ⟨Fz.ptr (v := .agg [Zb .any 3 Zcb sl,.int .i64 r.i,encXs .new r.nodes,.int .i64 r.e,.func (.func 279) [] []]) (c := .new) (fz:=0) rfl zp,Zd _⟩
 ·simp only [Zx,Zz,and_true]
  exact FzO.keep rfl zp
 refine Z5 ?_;refine Zw ⟨fun _ => .top,fun i=>if i=3 then .lend else if i=8 then .lend else .pure⟩ zk hG zk zk ?_;refine Zsf @encXs.eq_1 ?_;refine Z ?_
 rw [hP]<;>rfl
theorem Zzp:∀ (f:Nat) (s:List UInt8) (i:Nat) (acc:List Tk),(∀ t∈acc,t.text.length≤s.length)→∀ t∈(Zvd f s i acc).1,t.text.length≤s.length
 | 0,s,i,acc,h=>by rw [Zvd];exact h
 | f+1,s,i,acc,h=>by
  rw [Zvd]
  split
  ·split
   ·intro t ht;cases ht
   ·refine Zzp f s _ _ ?_
    intro t ht
    rcases List.mem_append.1 ht with h1 | h1
    ·exact h t h1
    ·rw [List.mem_singleton.1 h1]
     show ((s.drop i).take _).length≤s.length
     rw [List.length_take,List.length_drop];omega
  ·exact h
theorem Z7k {s:List UInt8} (hs:s.length<100000):TkOk (Zka s).1:=by
 unfold Zka
 split
 ·exact ⟨Nat.zero_lt_succ _,fun t ht=>by cases ht⟩
 refine ⟨?_,?_⟩
 ·have:=Z6s (s.length+1) s (blk s) []
  have h0:([]:List Tk).length=0:=rfl;omega
 ·intro t ht
  have:=Zzp (s.length+1) s (blk s) [] (fun t ht=>by cases ht) t ht;omega
theorem Zhv (G:Nat→V) (hE:GExp G) (s:List UInt8) (hs:s.length<100000):Spec Tryz.prog G 216 [.str s] Zl (fun v _=>v=encFr .new (Zed s)):=by
 have hG:=hE.ok;refine Zo 0 60 [.cell 2 197,.tmp 3,.tmp 4] Tryz.func216 fun X=>?_
 have hP:Zed s=if (Zka s).2.2≠0 then (([]:List XN),(Zka s).2.1,(Zka s).2.2)
  else if (Z5a (Zka s).1).2.2=3 then ([],0,3)
  else if (Z5a (Zka s).1).2.2=0∧(Z5a (Zka s).1).2.1=((Zka s).1.length:Nat) then ((Z5a (Zka s).1).1,0,0)
  else ([],if (Z5a (Zka s).1).2.1=((Zka s).1.length:Nat) then (s.length:Int) else ((Zka s).1.getD (Z5a (Zka s).1).2.1.toNat ⟨0,[],0⟩).pos,if (Z5a (Zka s).1).2.2=0 then 80 else (Z5a (Zka s).1).2.2):=rfl
 generalize Zed s=res at hP ⊢;have hT:=Z7k hs;have hl:=Zfe G hE s hs;have hfr:=fun c=>Zwp G hE c (Zm (Zka s).1) (by rw [Zp];exact hT);simp only [Zp] at hfr;have hb:=Zff (l:=(Zka s).1);generalize Zka s=t at hP hT hl hfr hb;generalize Z5a t.1=p at hP hfr hb;obtain ⟨l,at0,e0⟩:=t;obtain ⟨ns,i,e⟩:=p;simp only at hP hT hfr hb;refine Z1 ?_;intro g2;refine Z1 ?_;refine Zn hG ?_ (s:=hl);refine Zsf (zi @encTok.eq_1 (zi @encTks.eq_1 @Zsa)) ?_;refine Z1 ?_
 by_cases he0:e0=0
 rotate_left
 ·have q1:(e0 != 0)=true:=by simpa using he0
  rw [if_pos he0] at hP;refine Zi rfl (fun h17=>?_) (fun h17=>?_)
  ·refine Z ?_
   rw [hP]<;>rfl
  ·rw [q1] at h17;cases h17
 have q1:(e0 != 0)=false:=by simpa using he0
 rw [if_neg (by simpa using he0)] at hP;refine Zi rfl (fun h17=>?_) (fun h17=>?_)
 ·rw [q1] at h17;cases h17
 refine Z1 ?_;refine Znf @Zsa hG ?_ (s:=(hfr _));refine Zsf (zi @encFr.eq_1 (zi @encXs.eq_1 @Zfa)) ?_;intro g8;refine Z1 ?_
 by_cases he3:e=3
 ·have q3:(e==3)=true:=by simpa using he3
  rw [if_pos he3] at hP;refine Zi rfl (fun h27=>?_) (fun h27=>?_)
  ·refine Z ?_
   rw [hP,he3]<;>rfl
  ·rw [q3] at h27;cases h27
 have q3:(e==3)=false:=by simpa using he3
 rw [if_neg he3] at hP;refine Zi rfl (fun h27=>?_) (fun h27=>?_)
 ·rw [q3] at h27;cases h27
 by_cases he:e=0
 ·have q4:(e==0)=true:=by simpa using he
  by_cases hi:i=(l.length:Nat)
  ·have q5:(i==((l.length:Nat):Int))=true:=by simpa using hi
   rw [if_pos ⟨he,hi⟩] at hP;refine Z1f (zi q4 q5) ?_;refine Zi rfl (fun h32=>?_) (fun h32=>?_)
   ·refine Z ?_
    rw [hP]<;>rfl
   ·cases h32
  have q5:(i==((l.length:Nat):Int))=false:=by simpa using hi
  rw [if_neg (fun h=>hi h.2),if_neg hi,if_pos he] at hP;obtain ⟨m,rfl⟩:∃ m:Nat,i=m:=⟨i.toNat,by omega⟩
  have hml:m<l.length:=by omega
  obtain ⟨tk,htk⟩:∃ tk,l[m]? = some tk:=⟨_,List.getElem?_eq_getElem hml⟩
  have hgd:(l.getD ((m:Nat):Int).toNat ⟨0,[],0⟩)=tk:=by rw [Int.toNat_natCast,List.getD_eq_getElem?_getD,htk]<;>rfl
  rw [hgd] at hP;refine Z1f (zi q4 q5) ?_;refine Z1f q4 ?_;refine Z1 ?_;refine Z1f q5 ?_;refine Z0 ?_;refine Z5 ?_;refine Zw ⟨fun _ => .top,fun i=>if i=5 then .lend else .pure⟩ zk hG zk zk ?_;refine Zsf (zi htk @Zbb) ?_;refine Z ?_
  rw [hP]<;>rfl
 have q4:(e==0)=false:=by simpa using he
 rw [if_neg (fun h=>he h.1),if_neg he] at hP;refine Z1f q4 ?_;refine Z1f q4 ?_;refine Z0 ?_;refine Z5 ?_
 by_cases hi:i=(l.length:Nat)
 ·have q5:(i==((l.length:Nat):Int))=true:=by simpa using hi
  rw [if_pos hi] at hP;refine Z1f q5 ?_;refine Zi rfl (fun h48=>?_) (fun h48=>?_)
  ·refine Z ?_
   rw [hP]<;>rfl
  ·cases h48
 have q5:(i==((l.length:Nat):Int))=false:=by simpa using hi
 rw [if_neg hi] at hP;obtain ⟨m,rfl⟩:∃ m:Nat,i=m:=⟨i.toNat,by omega⟩
 have hml:m<l.length:=by omega
 obtain ⟨tk,htk⟩:∃ tk,l[m]? = some tk:=⟨_,List.getElem?_eq_getElem hml⟩
 have hgd:(l.getD ((m:Nat):Int).toNat ⟨0,[],0⟩)=tk:=by rw [Int.toNat_natCast,List.getD_eq_getElem?_getD,htk]<;>rfl
 rw [hgd] at hP;refine Z1f q5 ?_;refine Z0 ?_;refine Z5 ?_;refine Zw ⟨fun _ => .top,fun i=>if i=5 then .lend else .pure⟩ zk hG zk zk ?_;refine Zsf (zi htk @Zbb) ?_;refine Z ?_
 rw [hP]<;>rfl
end Go.Hs
end

section
namespace Go.Hs
inductive Sub:X→X→Nat→Prop where
 | refl (x:X):Sub x x 0
 | un {op:Int} {a y:X} {b:Nat}:Sub a y b→Sub (.un op a) y b
 | bin1 {op:Int} {a c y:X} {b:Nat}:Sub a y b→Sub (.bin op a c) y b
 | bin2 {op:Int} {a c y:X} {b:Nat}:Sub c y b→Sub (.bin op a c) y (a.size+b)
 | ite1 {a c d y:X} {b:Nat}:Sub a y b→Sub (.ite a c d) y b
 | ite2 {a c d y:X} {b:Nat}:Sub c y b→Sub (.ite a c d) y (a.size+b)
 | ite3 {a c d y:X} {b:Nat}:Sub d y b→Sub (.ite a c d) y (a.size+c.size+b)
def Zpj:X→List X
 | .leaf op num name=>[.leaf op num name]
 | .un op a=>Zpj a++[.un op a]
 | .bin op a c=>Zpj a++Zpj c++[.bin op a c]
 | .ite a c d=>Zpj a++Zpj c++Zpj d++[.ite a c d]
theorem Zrb:∀ x:X,(Zpj x).length=x.size
 | .leaf .. => rfl
 | .un _ a=>by simp [Zpj,X.size,Zrb a]
 | .bin _ a b=>by simp [Zpj,X.size,Zrb a,Zrb b];omega
 | .ite a b c=>by simp [Zpj,X.size,Zrb a,Zrb b,Zrb c];omega
theorem Sub.trans {x y z:X} {b c:Nat} (h:Sub x y b) (h2:Sub y z c):Sub x z (b+c):=by
 induction h with
 | refl=>simpa using h2
 | un _ ih=>exact .un (ih h2)
 | bin1 _ ih=>exact .bin1 (ih h2)
 | bin2 _ ih=>rw [Nat.add_assoc];exact .bin2 (ih h2)
 | ite1 _ ih=>exact .ite1 (ih h2)
 | ite2 _ ih=>rw [Nat.add_assoc];exact .ite2 (ih h2)
 | ite3 _ ih=>rw [Nat.add_assoc];exact .ite3 (ih h2)
theorem Sub.ok {x y:X} {b:Nat} (h:Sub x y b):x.ok=true→y.ok=true:=by
 induction h with
 | refl=>exact id
 | un _ ih=>intro h;simp [X.ok] at h;exact ih h.2
 | bin1 _ ih=>intro h;simp [X.ok] at h;exact ih h.1.2
 | bin2 _ ih=>intro h;simp [X.ok] at h;exact ih h.2
 | ite1 _ ih=>intro h;simp [X.ok] at h;exact ih h.1.1
 | ite2 _ ih=>intro h;simp [X.ok] at h;exact ih h.1.2
 | ite3 _ ih=>intro h;simp [X.ok] at h;exact ih h.2
theorem Sub.size {x y:X} {b:Nat} (h:Sub x y b):b+y.size≤x.size:=by
 induction h with
 | refl=>simp
 | un _ ih=>simp only [X.size];omega
 | bin1 _ ih=>simp only [X.size];omega
 | bin2 _ ih=>simp only [X.size];omega
 | ite1 _ ih=>simp only [X.size];omega
 | ite2 _ ih=>simp only [X.size];omega
 | ite3 _ ih=>simp only [X.size];omega
theorem Sub.depth {x y:X} {b:Nat} (h:Sub x y b):y.depth≤x.depth:=by
 induction h with
 | refl=>simp
 | un _ ih=>simp only [X.depth];omega
 | bin1 _ ih=>simp only [X.depth];omega
 | bin2 _ ih=>simp only [X.depth];omega
 | ite1 _ ih=>simp only [X.depth];omega
 | ite2 _ ih=>simp only [X.depth];omega
 | ite3 _ ih=>simp only [X.depth];omega
theorem Sub.at {x y:X} {b:Nat} (h:Sub x y b):∀ {l:List XN} {k:Nat},At l x k→At l y (k+b):=by
 induction h with
 | refl=>exact id
 | un _ ih=>intro l k h;exact ih h.un
 | bin1 _ ih=>intro l k h;exact ih h.bin.1
 | bin2 _ ih=>intro l k h;rw [← Nat.add_assoc];exact ih h.bin.2
 | ite1 _ ih=>intro l k h;exact ih h.ite.1
 | ite2 _ ih=>intro l k h;rw [← Nat.add_assoc];exact ih h.ite.2.1
 | ite3 _ ih=>intro l k h;rw [← Nat.add_assoc,← Nat.add_assoc];exact ih h.ite.2.2
theorem Z35 (x:X):(Zpj x)[x.size-1]? = some x:=by
 have:∃ l,Zpj x=l++[x]:=by
  cases x with
  | leaf=>exact ⟨[],rfl⟩
  | un=>exact ⟨_,rfl⟩
  | bin=>exact ⟨_,rfl⟩
  | ite=>exact ⟨_,rfl⟩
 obtain ⟨l,h⟩:=this;have hl:=Zrb x;rw [h,List.length_append,List.length_singleton] at hl;rw [h,List.getElem?_append_right (by omega),show x.size-1-l.length=0 by omega];rfl
theorem Sub.get {x y:X} {b:Nat} (h:Sub x y b):(Zpj x)[b+y.size-1]? = some y:=by
 have hy:=y.size_pos
 induction h with
 | refl x=>rw [Nat.zero_add];exact Z35 x
 | @un op a y b h ih =>
  have:=h.size;have hl:=Zrb a;rw [Zpj,List.getElem?_append_left (by omega)];exact ih hy
 | @bin1 op a c y b h ih =>
  have:=h.size;have hl:=Zrb a;rw [Zpj,List.append_assoc,List.getElem?_append_left (by omega)];exact ih hy
 | @bin2 op a c y b h ih =>
  have:=h.size;have hl:=Zrb a;have hl2:=Zrb c;rw [Zpj,List.append_assoc,List.getElem?_append_right (by omega),List.getElem?_append_left (by omega),← ih hy]
  congr 1;omega
 | @ite1 a c d y b h ih =>
  have:=h.size;have hl:=Zrb a;rw [Zpj,List.append_assoc,List.append_assoc,List.getElem?_append_left (by omega)];exact ih hy
 | @ite2 a c d y b h ih =>
  have:=h.size;have hl:=Zrb a;have hl2:=Zrb c;rw [Zpj,List.append_assoc,List.append_assoc,List.getElem?_append_right (by omega),List.getElem?_append_left (by omega),← ih hy]
  congr 1;omega
 | @ite3 a c d y b h ih =>
  have:=h.size;have hl:=Zrb a;have hl2:=Zrb c;have hl3:=Zrb d;rw [Zpj,List.append_assoc,List.append_assoc,List.getElem?_append_right (by omega),List.getElem?_append_right (by omega),List.getElem?_append_left (by omega),← ih hy]
  congr 1;omega
theorem Z4i:∀ (x:X) (i:Nat),i<x.size→∃ y b,Sub x y b∧b+y.size=i+1
 | .leaf op num name,i,h=>⟨_,0,.refl _,by simp only [X.size] at h ⊢;omega⟩
 | .un op a,i,h=>by
  by_cases h1:i<a.size
  ·obtain ⟨y,b,h2,h3⟩:=Z4i a i h1
   exact ⟨y,b,.un h2,h3⟩
  ·exact ⟨_,0,.refl _,by simp only [X.size] at h ⊢;omega⟩
 | .bin op a c,i,h=>by
  by_cases h1:i<a.size
  ·obtain ⟨y,b,h2,h3⟩:=Z4i a i h1
   exact ⟨y,b,.bin1 h2,h3⟩
  by_cases h1':i-a.size<c.size
  ·obtain ⟨y,b,h2,h3⟩:=Z4i c (i-a.size) h1'
   exact ⟨y,_,.bin2 h2,by omega⟩
  ·exact ⟨_,0,.refl _,by simp only [X.size] at h ⊢;omega⟩
 | .ite a c d,i,h=>by
  by_cases h1:i<a.size
  ·obtain ⟨y,b,h2,h3⟩:=Z4i a i h1
   exact ⟨y,b,.ite1 h2,h3⟩
  by_cases h1':i-a.size<c.size
  ·obtain ⟨y,b,h2,h3⟩:=Z4i c (i-a.size) h1'
   exact ⟨y,_,.ite2 h2,by omega⟩
  by_cases h1'':i-a.size-c.size<d.size
  ·obtain ⟨y,b,h2,h3⟩:=Z4i d (i-a.size-c.size) h1''
   exact ⟨y,_,.ite3 h2,by omega⟩
  ·exact ⟨_,0,.refl _,by simp only [X.size] at h ⊢;omega⟩
theorem Sub.top {x y:X} {b:Nat} (h:Sub x y b):(x.row 0)[b+y.size-1]? = some (y.top b):=by
 have:=(h.at (Z9m x)).get;rw [Nat.zero_add] at this;exact this
theorem Z41 (x:X) (i:Nat) (h:i<x.size):∃ y b,Sub x y b∧b+y.size=i+1∧(Zpj x)[i]? = some y∧(x.row 0)[i]? = some (y.top b):=by
 obtain ⟨y,b,h1,h2⟩:=Z4i x i h
 have e:i=b+y.size-1:=by omega
 exact ⟨y,b,h1,h2,e ▸ h1.get,e ▸ h1.top⟩
def kd (op:Int) (named:Bool) (a b c:Int):Int :=
 if op=1∨op=2∧named=true then 1
 else if op=3∨op=4 then 2
 else if op=5∧a=1∨7≤op∧op≤11∧a=1∧b=1 then 1
 else if 12≤op∧op≤15∧a=1∧b=1∨(op=16∨op=17)∧a=b∧a≠0 then 2
 else if op=6∧a=2∨18≤op∧op≤21∧a=2∧b=2 then 2
 else if op=22∧a=2∧b=c then b else 0
theorem Zhk {op:Int} {nm:Bool} {a b c:Int} (hb:0≤b∧b≤2):0≤kd op nm a b c∧kd op nm a b c≤2:=by
 unfold kd
 repeat' split
 all_goals omega
def Zge (names:List (List UInt8)):X→Int
 | .leaf op _ name=>kd op (names.contains name) 0 0 0
 | .un op a=>kd op (names.contains []) (Zge names a) 0 0
 | .bin op a b=>kd op (names.contains []) (Zge names a) (Zge names b) 0
 | .ite a b c=>kd 22 (names.contains []) (Zge names a) (Zge names b) (Zge names c)
theorem Zdj (names:List (List UInt8)):∀ x,0≤Zge names x∧Zge names x≤2
 | .leaf .. => Zhk (by decide)
 | .un .. => Zhk (by decide)
 | .bin _ a b=>Zhk (Zdj names b)
 | .ite a b c=>Zhk (Zdj names b)
def goX (names:List (List UInt8)):List X→Int→List Int→List Int × Int × Int
 | [],_,acc=>(acc,0,0)
 | y::r,i,acc=>if Zge names y=0 then ([],i,90) else goX names r (i+1) (acc++[Zge names y])
def plc (ks:List Int) (i:Int):Int:=if i<0 then 0 else ks.getD i.toNat 0
def Z6f (names:List (List UInt8)) (n:XN) (ks:List Int):Int:=kd n.op (names.contains n.name) (plc ks n.a) (plc ks n.b) (plc ks n.c)
def goN (names:List (List UInt8)):List XN→Int→List Int→List Int × Int × Int
 | [],_,acc=>(acc,0,0)
 | n::r,i,acc=>if Z6f names n acc=0 then ([],i,90) else goN names r (i+1) (acc++[Z6f names n acc])
theorem Zfw (ks:List Int):plc ks (-1)=0:=rfl
theorem Zel {names:List (List UInt8)} {x y:X} {b i:Nat} (h:Sub x y b) (hi:b+y.size≤i):plc (((Zpj x).take i).map (Zge names)) ((b:Int)+y.size-1)=Zge names y:=by
 have hp:=y.size_pos;unfold plc;rw [if_neg (by omega),show ((b:Int)+y.size-1).toNat=b+y.size-1 by omega];rw [List.getD_eq_getElem?_getD,List.getElem?_map,List.getElem?_take,if_pos (by omega),h.get];rfl
theorem Zr3 {names:List (List UInt8)} {x y:X} {b i:Nat} (h:Sub x y b) (hi:b+y.size=i+1):Z6f names (y.top b) (((Zpj x).take i).map (Zge names))=Zge names y:=by
 cases y with
 | leaf op num name=>rfl
 | un op a =>
  have h1:Sub x a b:=h.trans (.un (.refl a));simp only [X.size] at hi;simp only [Z6f,X.top,Zfw,Zge];rw [Zel h1 (by omega)]
 | bin op a c =>
  have h1:Sub x a b:=h.trans (.bin1 (.refl a));have h2:Sub x c (b+(a.size+0)):=h.trans (.bin2 (.refl c));rw [Nat.add_zero] at h2;simp only [X.size] at hi;simp only [Z6f,X.top,Zfw,Zge];have:=Zel (names:=names) h2 (i:=i) (by omega);rw [show ((b+a.size:Nat):Int)+c.size-1=(b:Int)+a.size+c.size-1 by omega] at this;rw [Zel h1 (by omega),this]
 | ite a c d =>
  have h1:Sub x a b:=h.trans (.ite1 (.refl a));have h2:Sub x c (b+(a.size+0)):=h.trans (.ite2 (.refl c));have h3:Sub x d (b+(a.size+c.size+0)):=h.trans (.ite3 (.refl d));rw [Nat.add_zero] at h2 h3;simp only [X.size] at hi;simp only [Z6f,X.top,Zfw,Zge];have q2:=Zel (names:=names) h2 (i:=i) (by omega);rw [show ((b+a.size:Nat):Int)+c.size-1=(b:Int)+a.size+c.size-1 by omega] at q2;have q3:=Zel (names:=names) h3 (i:=i) (by omega);rw [show ((b+(a.size+c.size):Nat):Int)+d.size-1=(b:Int)+a.size+c.size+d.size-1 by omega] at q3;rw [Zel h1 (by omega),q2,q3]
theorem Z63 {names:List (List UInt8)} (x:X):∀ (m i:Nat),i+m=x.size→goN names ((x.row 0).drop i) i (((Zpj x).take i).map (Zge names))=goX names ((Zpj x).drop i) i (((Zpj x).take i).map (Zge names))
 | 0,i,h=>by
  rw [List.drop_of_length_le (by rw [X.row_len];omega),List.drop_of_length_le (by rw [Zrb];omega)];rfl
 | m+1,i,h=>by
  obtain ⟨y,b,h1,h2,h3,h4⟩:=Z41 x i (by omega);obtain ⟨q1,e1⟩:=List.getElem?_eq_some_iff.1 h3;obtain ⟨q2,e2⟩:=List.getElem?_eq_some_iff.1 h4;rw [List.drop_eq_getElem_cons q2,List.drop_eq_getElem_cons q1,e1,e2,goN,goX,Zr3 h1 h2];have ih:=Z63 (names:=names) x m (i+1) (by omega)
  have ht:((Zpj x).take (i+1)).map (Zge names)=((Zpj x).take i).map (Zge names)++[Zge names y]:=by
   rw [List.take_add_one,h3];simp
  rw [ht] at ih
  split
  ·rfl
  ·exact ih
def PlOk (k:Nat) (n:XN):Prop:=Zkd n=true∧(0<Zy n.op→0≤n.a∧n.a<k)∧(1<Zy n.op→0≤n.b∧n.b<k)∧(2<Zy n.op→0≤n.c∧n.c<k) ∧
 (¬ 0<Zy n.op→n.a = -1)∧(¬ 1<Zy n.op→n.b = -1)∧(¬ 2<Zy n.op→n.c = -1)
theorem Zr6 {x y:X} {b i:Nat} (hx:x.ok=true) (h:Sub x y b) (hi:b+y.size=i+1):PlOk i (y.top b):=by
 have hy:=h.ok hx
 cases y with
 | leaf op num name =>
  simp only [X.ok,Bool.and_eq_true,decide_eq_true_eq] at hy
  have hp:Zy op=0:=by unfold Zy;rw [if_pos hy.2]
  refine ⟨hy.1,?_⟩;simp only [X.top,hp];exact ⟨fun h=>absurd h (by decide),fun h=>absurd h (by decide),fun h=>absurd h (by decide),fun _=>trivial,fun _=>trivial,fun _=>trivial⟩
 | un op a =>
  simp only [X.ok,Bool.and_eq_true,decide_eq_true_eq] at hy
  have hp:Zy op=1:=by unfold Zy;rw [if_neg (by omega),if_pos (by omega)]
  have hs:=a.size_pos;simp only [X.size] at hi;refine ⟨Zkg (by omega) _ _ _,?_⟩;simp only [X.top,hp];exact ⟨fun _=>by omega,fun h=>absurd h (by decide),fun h=>absurd h (by decide),fun h=>absurd (by decide) h,fun _=>trivial,fun _=>trivial⟩
 | bin op a c =>
  simp only [X.ok,Bool.and_eq_true,decide_eq_true_eq] at hy
  have hp:Zy op=2:=by unfold Zy;rw [if_neg (by omega),if_neg (by omega),if_pos (by omega)]
  have hs:=a.size_pos;have hs2:=c.size_pos;simp only [X.size] at hi;refine ⟨Zkg (by omega) _ _ _,?_⟩;simp only [X.top,hp];exact ⟨fun _=>by omega,fun _=>by omega,fun h=>absurd h (by decide),fun h=>absurd (by decide) h,fun h=>absurd (by decide) h,fun _=>trivial⟩
 | ite a c d =>
  have hp:Zy 22=3:=by decide
  have hs:=a.size_pos;have hs2:=c.size_pos;have hs3:=d.size_pos;simp only [X.size] at hi;refine ⟨Zkg (by decide) _ _ _,?_⟩;simp only [X.top,hp];exact ⟨fun _=>by omega,fun _=>by omega,fun _=>by omega,fun h=>absurd (by decide) h,fun h=>absurd (by decide) h,fun h=>absurd (by decide) h⟩
theorem Zs6 {l:List XN} (h:Zgb l≠0) {i:Nat} {n:XN} (hg:l[i]? = some n):PlOk i n:=by
 obtain ⟨x,hx,rfl⟩:=Zrl h
 have hi:i<x.size:=by rw [← X.row_len x 0];exact (List.getElem?_eq_some_iff.1 hg).1
 obtain ⟨y,b,h1,h2,h3,h4⟩:=Z41 x i hi;rw [h4] at hg;cases hg;exact Zr6 hx h1 h2
end Go.Hs
end

section
namespace Go.Hs
open Go.Proofs
set_option maxRecDepth 10000
def ruleC:List V := .int .u8 0 :: .int .u8 0 :: .int .u8 0 :: .int .u8 0 :: .int .u8 0 :: .int .u8 0 :: .int .u8 0 :: .int .u8 1 :: .int .u8 0 :: .int .u8 0 :: .int .u8 0 :: .int .u8 1 :: .int .u8 0 :: .int .u8 0 :: .int .u8 0 :: .int .u8 2 :: .int .u8 0 :: .int .u8 0 :: .int .u8 0 :: .int .u8 2 :: .int .u8 1 :: .int .u8 0 :: .int .u8 0 :: .int .u8 1 :: .int .u8 2 :: .int .u8 0 :: .int .u8 0 :: .int .u8 2 :: .int .u8 1 :: .int .u8 1 :: .int .u8 0 :: .int .u8 1 :: .int .u8 1 :: .int .u8 1 :: .int .u8 0 :: .int .u8 1 :: .int .u8 1 :: .int .u8 1 :: .int .u8 0 :: .int .u8 1 :: .int .u8 1 :: .int .u8 1 :: .int .u8 0 :: .int .u8 1 :: .int .u8 1 :: .int .u8 1 :: .int .u8 0 :: .int .u8 1 :: .int .u8 1 :: .int .u8 1 :: .int .u8 0 :: .int .u8 2 :: .int .u8 1 :: .int .u8 1 :: .int .u8 0 :: .int .u8 2 :: .int .u8 1 :: .int .u8 1 :: .int .u8 0 :: .int .u8 2 :: .int .u8 1 :: .int .u8 1 :: .int .u8 0 :: .int .u8 2 :: .int .u8 3 :: .int .u8 3 :: .int .u8 0 :: .int .u8 2 :: .int .u8 3 :: .int .u8 3 :: .int .u8 0 :: .int .u8 2 :: .int .u8 2 :: .int .u8 2 :: .int .u8 0 :: .int .u8 2 :: .int .u8 2 :: .int .u8 2 :: .int .u8 0 :: .int .u8 2 :: .int .u8 2 :: .int .u8 2 :: .int .u8 0 :: .int .u8 2 :: .int .u8 2 :: .int .u8 2 :: .int .u8 0 :: .int .u8 2 :: .int .u8 2 :: .int .u8 3 :: .int .u8 3 :: .int .u8 3::[]
def Z4v (op:Nat):Int:=if op≤4 then 0 else if op=5∨(7≤op∧op≤15) then 1 else if op=16∨op=17 then 3 else 2
def Zm2 (op:Nat):Int:=if op≤6 then 0 else if op≤15 then 1 else if op≤17∨op=22 then 3 else 2
def Z2v (op:Nat):Int:=if op=22 then 3 else 0
def Zg6 (op:Nat):Int:=if op=0 then 0 else if op≤2 then 1 else if op=22 then 3 else if op=5∨(7≤op∧op≤11) then 1 else 2
theorem Zl2 (op:Nat) (h:op<23):(ruleC.drop (op * 4)).take 4=[.int .u8 (Z4v op),.int .u8 (Zm2 op),.int .u8 (Z2v op),.int .u8 (Zg6 op)]:=by
 match op,h with
 | 0,_=>rfl
 | 1,_=>rfl
 | 2,_=>rfl
 | 3,_=>rfl
 | 4,_=>rfl
 | 5,_=>rfl
 | 6,_=>rfl
 | 7,_=>rfl
 | 8,_=>rfl
 | 9,_=>rfl
 | 10,_=>rfl
 | 11,_=>rfl
 | 12,_=>rfl
 | 13,_=>rfl
 | 14,_=>rfl
 | 15,_=>rfl
 | 16,_=>rfl
 | 17,_=>rfl
 | 18,_=>rfl
 | 19,_=>rfl
 | 20,_=>rfl
 | 21,_=>rfl
 | 22,_=>rfl
 | n+23,h=>omega
theorem Ztv (G:Nat→V) (hG:GOk G):Spec Tryz.prog G 282 [] Zl (fun v _=>v = .agg ruleC):=by
 refine Zo 0 39 [.cell 0 316] Tryz.func282 fun X=>?_;refine Z1 ?_;intro g0;refine Z1 ?_;intro g1 g2;refine Z1 ?_;intro g3 g4;exact Zr
theorem Ztt (G:Nat→V) (hG:GOk G) (c:Col) (t:List UInt8) (s:Sl (List UInt8)) (hs:s.l.length<1000000) :
  Spec Tryz.prog G 316 [.str t,Zb c 1 V.str s] Zl (fun v _=>v = .bool (s.l.contains t)):=by
 refine Zo 0 18 [.tmp 4] Tryz.func316 fun X=>?_;refine Z1 ?_;refine Z1 ?_;refine AW.block ?_
 refine Zda s.l.length (fun k (_:Unit)=>st [(0,.str t),(1,Zb c 1 V.str s),(5,.int .i64 k)] []) (fun k _=>(s.l.take k).contains t=false) 0 () (Nat.zero_le _) rfl
  (Za zp zp) ?_
 intro k _ hk hR L2 hL2;refine Z1 ?_;refine Zi rfl (fun h4=>?_) (fun h4=>?_)
 ·have hk1:k<s.l.length:=by simpa using h4
  have hg:=List.getElem?_eq_getElem hk1
  have htk:s.l.take (k+1)=s.l.take k++[s.l[k]]:=by rw [List.take_succ_eq_append_getElem hk1]
  have hmem:=List.getElem_mem hk1;generalize s.l[k]=x at hg htk hmem;refine Z1f hg ?_;refine Zi rfl (fun h6=>?_) (fun h6=>?_)
  ·have h6:x=t:=by simpa using h6
   refine Z ?_
   have:s.l.contains t=true:=by rw [← h6];simpa using hmem
   rw [this]
  ·have h6:¬ x=t:=by simpa using h6
   refine Z1 ?_;refine hL2 _ ⟨hk1,(),?_,Za zw zp⟩;rw [htk];simp only [List.contains_eq_mem,decide_eq_false_iff_not] at hR ⊢;intro hm
   rcases List.mem_append.1 hm with h | h
   ·exact hR h
   ·exact h6 ((List.mem_singleton.1 h).symm)
 ·have hk1:k=s.l.length:=by simp at h4;omega
  refine Z ?_;rw [hk1,List.take_length] at hR;rw [hR]
theorem Zht (G:Nat→V) (hG:GOk G) (c:Col) (t:List UInt8) (s:Sl (List UInt8)) (hs:s.l.length<1000000) :
  Spec Tryz.prog G 214 [Zb c 1 V.str s,.str t] Zl (fun v _=>∃ i:Int,v = .int .i64 i∧decide (i≥0)=s.l.contains t):=by
 refine Zo 0 19 [.tmp 4] Tryz.func214 fun X=>?_;refine Z1 ?_;refine Z1 ?_;refine AW.block ?_
 refine Zda s.l.length (fun k (_:Unit)=>st [(0,Zb c 1 V.str s),(1,.str t),(7,.int .i64 s.l.length),(8,.int .i64 k)] []) (fun k _=>(s.l.take k).contains t=false) 0 () (Nat.zero_le _) rfl
  (Za zp zp) ?_
 intro k _ hk hR L2 hL2;refine Z1 ?_;refine Z5 ?_;refine Zi rfl (fun h4=>?_) (fun h4=>?_)
 ·have hk1:k<s.l.length:=by simpa using h4
  have hg:=List.getElem?_eq_getElem hk1
  have htk:s.l.take (k+1)=s.l.take k++[s.l[k]]:=by rw [List.take_succ_eq_append_getElem hk1]
  have hmem:=List.getElem_mem hk1;generalize s.l[k]=x at hg htk hmem;refine Z1 ?_;refine Z1f hg ?_;refine Zi rfl (fun h6=>?_) (fun h6=>?_)
  ·have h6:t=x:=by simpa using h6
   refine Z ?_
   have:s.l.contains t=true:=by rw [h6];simpa using hmem
   rw [this];exact ⟨_,rfl,by rw [decide_eq_true_iff];omega⟩
  ·have h6:¬ t=x:=by simpa using h6
   refine Z1 ?_;refine hL2 _ ⟨hk1,(),?_,Za zw zp⟩;rw [htk];simp only [List.contains_eq_mem,decide_eq_false_iff_not] at hR ⊢;intro hm
   rcases List.mem_append.1 hm with h | h
   ·exact hR h
   ·exact h6 (List.mem_singleton.1 h)
 ·have hk1:k=s.l.length:=by simp at h4;omega
  refine Z ?_;rw [hk1,List.take_length] at hR;rw [hR];exact ⟨_,rfl,rfl⟩
theorem Z6c (G:Nat→V) (hG:GOk G) (c:Col) (t:List UInt8) (s:Sl (List UInt8)) (hs:s.l.length<1000000) :
  Spec Tryz.prog G 149 [Zb c 1 V.str s,.str t] Zl (fun v _=>v = .bool (s.l.contains t)):=by
 refine Zo 0 9 [.tmp 4] Tryz.func149 fun X=>?_;refine Z1 ?_;refine Z1 ?_;refine CallA.pure hG zk ?_;refine Zs ?_;refine (Zht G hG _ t s hs).mono ?_;rintro _ _ ⟨i,rfl,hi⟩;refine Zs ?_;refine Z ?_;rw [hi]
theorem Z25 (G:Nat→V) (hG:GOk G) (c:Col) (s:Sl Int) (hs:s.l.length<1000000) (i:Int) (hi:i<0∨0≤i∧i<s.l.length) :
  Spec Tryz.prog G 304 [.int .i64 i,.view .old (Zb c 1 (V.int .u8) s)] Zl (fun v _=>v = .int .u8 (plc s.l i)):=by
 refine Zo 0 10 [.tmp 3] Tryz.func304 fun X=>?_
 have hP:plc s.l i=if i<0 then 0 else s.l.getD i.toNat 0:=rfl
 generalize plc s.l i=res at hP ⊢;refine Z1 ?_;refine Z1 ?_;refine Zi rfl (fun h2=>?_) (fun h2=>?_)
 ·have h2:i<0:=by simpa using h2
  rw [if_pos h2] at hP;refine Z ?_;rw [hP]
 ·have h2:¬ i<0:=by simpa using h2
  rw [if_neg h2] at hP;obtain ⟨m,rfl⟩:∃ m:Nat,i=m:=⟨i.toNat,by omega⟩
  have hm:m<s.l.length:=by omega
  have hg:=List.getElem?_eq_getElem hm
  have hgd:s.l.getD ((m:Nat):Int).toNat 0=s.l[m]:=by rw [Int.toNat_natCast,List.getD_eq_getElem?_getD,hg]<;>rfl
  rw [hgd] at hP;generalize s.l[m]=x at hg hP;refine Zf hg ?_;rw [hP]
end Go.Hs
end
