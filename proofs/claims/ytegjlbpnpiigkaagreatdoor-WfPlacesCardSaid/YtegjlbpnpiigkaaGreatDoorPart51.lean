/- Part 51 of a proof; no condition. -/
import Derived.Test.YtegjlbpnpiigkaaGreatDoorPart49
import Derived.Test.YtegjlbpnpiigkaaGreatDoorPart50
import Derived.Test.YtegjlbpnpiigkaaGreatDoorRows
import Derived.ProofKit
import Derived.OpenShut
import Derived.LaidLaws
import Derived.Stop.LaidErr
import Derived.Lib.LaidTab
import Derived.Handed
import Derived.ChangeMaps5
set_option linter.unusedSimpArgs false
set_option linter.unusedVariables false
section
namespace Go.Hs
open Go.Proofs
set_option maxRecDepth 10000
set_option maxHeartbeats 4000000
theorem FewM.b {m:MdM} (f:FewM m) (r:MdR m):MdB m:=by
 have h1:=f.nv;have h2:=f.ne;have h3:=f.nr;have h4:=f.nx;have h5:=f.nw;refine ⟨?_,?_,?_,?_,?_,?_,h1,h2,h3,h4,h5⟩
 ·have:=r.nm;unfold txR at this;omega
 ·intro p hp;have:=r.var.2 p hp;unfold txR at this;omega
 ·intro p hp;have:=r.ev.2 p hp;unfold txR at this;omega
 ·intro p hp;have:=r.rg.2 p hp;unfold txR at this;omega
 ·intro x hx
  obtain ⟨q1,_,_,q2,_⟩:=r.vt.2 x hx;have q3:=(f.vt x hx).2.2;unfold txR at q1 q2;exact ⟨by omega,by omega,by omega⟩
 ·intro x hx
  obtain ⟨q1,_⟩:=r.wy.2 x hx;have q3:=(f.wy x hx).2.2;unfold txR at q1;exact ⟨by omega,by omega⟩
theorem Ztm {s:List UInt8} (h:Zoc s=true) (h2:s.length≤4096):s.length≤900:=by
 simp only [Zoc,Bool.or_eq_true,decide_eq_true_eq] at h;omega
theorem FewM.t {m:MdM} (f:FewM m) (r:m.p.Rt):MdT m:=by
 have wy:∀ t∈m.ways.l,t.guard.length≤4096∧t.effect.length≤4096:=fun t ht=>by
  obtain ⟨i,hi,rfl⟩:=List.getElem_of_mem ht;have:=r.way i (by rw [m.nw];exact hi);rw [Zxh (List.getElem?_eq_getElem hi)] at this;simp only [PM.wayB,Bool.and_eq_true,decide_eq_true_eq] at this;exact ⟨this.1.2,this.2⟩
 have vt:∀ x∈m.verts.l,x.entry.length≤4096∧x.exit.length≤4096:=fun t ht=>by
  obtain ⟨i,hi,rfl⟩:=List.getElem_of_mem ht;have:=r.vtx i (by rw [m.nv];exact hi);rw [Zpf (List.getElem?_eq_getElem hi)] at this;simp only [PM.vertexB,Bool.and_eq_true,decide_eq_true_eq] at this;exact ⟨this.1.1.2,this.1.2⟩
 exact ⟨fun t ht=>Ztm (f.wy t ht).2.1 (wy t ht).2,fun t ht=>Ztm (f.wy t ht).1 (wy t ht).1,fun x hx=>⟨Ztm (f.vt x hx).1 (vt x hx).1,Ztm (f.vt x hx).2.1 (vt x hx).2⟩⟩
theorem MdB.gr {m:MdM} (b:MdB m):MdB m.gr:=by
 refine ⟨b.nm,?_,?_,?_,?_,?_,?_,?_,?_,?_,?_⟩<;>simp only [MdM.gr,Zp,List.length_map]
 ·exact b.var
 ·exact b.ev
 ·exact b.rg
 ·intro x hx
  obtain ⟨y,hy,rfl⟩:=List.mem_map.1 hx;have:=b.vt y hy;simp only [VtM.gr,Zp];exact this
 ·intro x hx
  obtain ⟨y,hy,rfl⟩:=List.mem_map.1 hx;have:=b.wy y hy;simp only [TrM.gr,Zp];exact this
 ·exact b.nv
 ·exact b.ne
 ·exact b.nr
 ·exact b.nx
 ·exact b.nw
theorem MdT.gr {m:MdM} (t:MdT m):MdT m.gr:=by
 refine ⟨?_,?_,?_⟩<;>simp only [MdM.gr,Zp]
 ·intro x hx
  obtain ⟨y,hy,rfl⟩:=List.mem_map.1 hx;exact t.ef y hy
 ·intro x hx
  obtain ⟨y,hy,rfl⟩:=List.mem_map.1 hx;exact t.gu y hy
 ·intro x hx
  obtain ⟨y,hy,rfl⟩:=List.mem_map.1 hx;exact t.en y hy
def Zzw (p:Int × Int):V := .agg [.int .u8 p.1,.int .i64 p.2]
def ftI (s:Sl (Nat × Int)):Sl (Int × Int):=match s with | .nil => .nil | .mk b l => .mk b (l.map fun p=>((p.1:Int),p.2))
theorem ftI_l (s:Sl (Nat × Int)):(ftI s).l.length=s.l.length:=by cases s<;>simp [ftI,Sl.l]
theorem ftI_v (c:Col) (s:Sl (Nat × Int)):Zb c 2 Zwb s=Zb c 2 Zzw (ftI s):=by
 cases s with
 | nil=>rfl
 | mk b l=>show V.slice c b 2 _=V.slice c b 2 _;rw [List.map_map]<;>rfl
def shF (i:Nat):Sh:=if i=0 then .int .u8 else .int .i64
def shFs (M:Nat):Sh := .row true 2 M shF
theorem free_Fs (M:Nat):(shFs M).free:=by
 intro j _
 show (shF j).free
 unfold shF
 split<;>trivial
theorem shFs_of {M:Nat} {s:Sl (Int × Int)} (h:s.l.length≤M):ShV .new .new (shFs M) (Zb .new 2 Zzw s):=by
 cases s with
 | nil=>exact .inl rfl
 | mk b l =>
  refine .inr ⟨b,l.map Zzw,rfl,by rw [List.length_map];exact h,?_⟩;intro u hu;obtain ⟨n,_,rfl⟩:=List.mem_map.1 hu;refine ⟨rfl,rfl,fun i hi=>?_⟩;have hi:i<2:=hi
  match i,hi with
  | 0,_=>exact ⟨_,rfl⟩
  | 1,_=>exact ⟨_,rfl⟩
end Go.Hs
end

section
namespace Go.Hs
open Go.Proofs
set_option maxRecDepth 10000
set_option maxHeartbeats 4000000
@[go_sem] theorem recol_ft (g:Col→Col) (c:Col) (s:Sl (Nat × Int)):(Zb c 2 Zwb s).recol g=Zb (g c) 2 Zwb s:=Z7c g c 2 (fun p=>by simp only [Zhj,Zkc,List.map_cons,List.map_nil,Zjc]) s
theorem shFs_to {M:Nat} {v:V} (h:ShV .new .new (shFs M) v):∃ s:Sl (Int × Int),v=Zb .new 2 Zzw s∧s.l.length≤M:=by
 rcases h with rfl | ⟨clip,l,rfl,hl,hu⟩
 ·exact ⟨.nil,rfl,Nat.zero_le _⟩
 ·have:∃ ns:List (Int × Int),l=ns.map Zzw:=by
   try clear hl
   induction l with
   | nil=>exact ⟨[],rfl⟩
   | cons u r ih =>
    obtain ⟨ns,rfl⟩:=ih fun x hx=>hu x (by simp [hx]);obtain ⟨h1,h2,h3⟩:=hu u (by simp);obtain ⟨t,ht⟩:=h3 0 (by omega);obtain ⟨n,hn⟩:=h3 1 (by omega);refine ⟨(t,n)::ns,?_⟩
    have hc:u.cells=[.int .u8 t,.int .i64 n]:=by
     match hq:u.cells,h1 with
     | [y,z],_ =>
      have e0:u.cells[0]'(by omega)=y:=by simp [hq]
      have e1:u.cells[1]'(by omega)=z:=by simp [hq]
      rw [e0] at ht;rw [e1] at hn;rw [ht,hn]
    rw [h2,hc]<;>rfl
  obtain ⟨ns,rfl⟩:=this;exact ⟨.mk clip ns,rfl,by rw [List.length_map] at hl;exact hl⟩
theorem Ztr (s:Sl (List UInt8)):V.Old (Zb .old 1 V.str s):=Zfp (fun n y hy=>by simp [V.cells] at hy;subst hy;exact .str _) s
theorem old_md (m:MdM):V.Old (.view .old (Z2 .old .old m)):=by
 refine .view _ fun x hx=>?_;simp only [Zj,V.cells,List.mem_cons,List.not_mem_nil,or_false] at hx
 have vr:∀ s:Sl (List UInt8 × Int),V.Old (Zb .old 2 Zja s):=Zfp fun n y hy=>by
  simp only [Zza,V.cells,List.mem_cons,List.not_mem_nil,or_false] at hy
  rcases hy with rfl | rfl<;>first | exact .str _ | exact .int _ _
 rcases hx with rfl | rfl | rfl | rfl | rfl | rfl
 ·exact .str _
 ·exact vr _
 ·exact Ztr _
 ·exact vr _
 ·exact Zfp (fun n y hy=>by
   simp only [Zt,V.cells,List.mem_cons,List.not_mem_nil,or_false] at hy
   rcases hy with rfl | rfl | rfl | rfl | rfl | rfl | rfl | rfl<;>first | exact .str _ | exact .int _ _ | exact Ztr _) _
 ·exact Zfp (fun n y hy=>by
   simp only [Z9,V.cells,List.mem_cons,List.not_mem_nil,or_false] at hy
   rcases hy with rfl | rfl | rfl | rfl | rfl | rfl | rfl | rfl<;>first | exact .str _ | exact .int _ _ | exact Ztr _) _
theorem old_ft (s:Sl (Nat × Int)):V.Old (Zb .old 2 Zwb s):=Zfp (fun n y hy=>by
 simp only [Zhj,V.cells,List.mem_cons,List.not_mem_nil,or_false] at hy
 rcases hy with rfl | rfl<;>exact .int _ _) s
theorem PM.checkW_len (m:PM) {bd:List (List UInt8)→List (List UInt8)→List UInt8→Bool} {gd:List (List UInt8)→List UInt8→Int} (h1:m.vertices.length≤600) (h2:m.ways.length≤600) (h3:m.regions.length≤600):(m.checkW bd gd).1.length≤100000:=by
 have key:∀ k:Nat,(m.badL bd gd k).length≤k * 600:=by
  intro k
  induction k with
  | zero=>exact Nat.zero_le _
  | succ k ih =>
   rw [PM.badL_succ,List.length_append];have:=PM.badAt_len (m:=m) (bd:=bd) (gd:=gd) (k+1) (m.places (k+1))
   have:m.places (k+1)≤600:=by unfold PM.places;split<;>(try split)<;>omega
   omega
 unfold PM.checkW
 split
 ·exact Nat.zero_le _
 ·have:=key 15;show (m.badL bd gd 15).length≤_;omega
theorem Zb7 (G:Nat→V) (hE:GExp G) (hGo:∀ g,(G g).Old) (m:MdM) (hr:MdR m) :
  Spec Tryz.prog G 3 [Z2 .old .old m] Zl (fun v _=>v = .bool true):=by
 have hG:=hE.ok;have hW:=Z1l G hE;refine Zo 0 62 [.tmp 2] Tryz.func3 fun X=>?_;simp only [Zj];refine Z ?_;intro g1;refine AW.weak (Zv (fun o=>o==1) (l:=[(1,.view .new (Z2 .old .old m))]) (m:=[]) ?_ trivial) ?_
 ·refine Zs ?_
  exact Fz.ptr (v:=Z2 .old .old m) (c := .new) (fz:=0) zp zp
 refine Zf Zj ?_;refine Ze hG ?_ (s:=Z0t G hG .old .old m hr);rintro _ ⟨b,rfl,hb⟩
 cases b with
 | false =>
  refine Zf Zj ?_;refine Zc hG ?_ (s:=hW);exact Zr
 | true =>
 have hf:=hb rfl;have hB:=hf.b hr;have n3:=hf.nr;have n4:=hf.nx;have n5:=hf.nw;have w1:IntKind.i64.wrap ((m.ways.l.length:Int)+(m.verts.l.length:Int))=(m.ways.l.length:Int)+(m.verts.l.length:Int):=w64 (by omega) (by omega);have w2:IntKind.i64.wrap ((m.ways.l.length:Int)+(m.verts.l.length:Int)+(m.regions.l.length:Int))=(m.ways.l.length:Int)+(m.verts.l.length:Int)+(m.regions.l.length:Int):=w64 (by omega) (by omega)
 by_cases hs:m.ways.l.length+m.verts.l.length+m.regions.l.length > 120
 ·have q:decide ((m.ways.l.length:Int)+(m.verts.l.length:Int)+(m.regions.l.length:Int) > 120)=true:=zT
  refine Zg (zi w1 (zi w2 (zi q Zj))) ?_;refine Zc hG ?_ (s:=hW);exact Zr
 have q:decide ((m.ways.l.length:Int)+(m.verts.l.length:Int)+(m.regions.l.length:Int) > 120)=false:=zF;have hck:=fun c d=>Zxe G hE c d m hB hf.t;have hqk:=fun c d=>Zew G hG c d m.gr hB.gr (fun r=>(hf.t (by rw [← m.gr_p];exact r)).gr);rw [m.gr_p] at hqk;have hWl:(m.p.checkW Zea Z4).1.length≤100000:=m.p.checkW_len (by rw [m.nv];omega) (by rw [m.nw];omega) (by show m.regions.l.length≤_;omega);generalize m.p.checkW Zea Z4=pr at hck hqk hWl;obtain ⟨W,e⟩:=pr;simp only at hck hqk hWl;refine Zg (zi w1 (zi w2 (zi q Zj))) ?_;refine Zc hG ?_ (s:=Z62 G hG _ _ m hB);refine Zc hG ?_ (s:=hqk _ _);refine AW.weak (Za (l:=[(1,.view .new (Z2 .old .old m)),(3,Zb .new 2 Zwb (Zm W)),(4,.int .i64 e)]) (m:=[]) (zpf Zj) zp) ?_;refine Zg5 hG fun X1 H1 hb1 hI1=>?_;simp -implicitDefEqProofs only[go_sem,seval,List.map_cons,List.map_nil,recol_cells,Z5j];refine Z ?_;refine Zda 2 (fun k (_:Unit)=>st [(1,.view .old (Z2 .old .old m)),(3,Zb .old 2 Zwb (Zm W)),(4,.int .i64 e),(5,.int .i64 k)] []) (fun _ _=>True) 0 () (Nat.zero_le _) trivial (Za zp zp) ?_;intro k _ hk _ L3 hL3;have wk:IntKind.i64.wrap ((k:Int)+1)=(k:Int)+1:=w64 (by omega) (by omega)
 by_cases hk1:k<2
 ·have hlt:decide ((k:Int)<2)=true:=zT
  have u:(e != e)=false:=by simp
  refine Zf (zi hlt Zj) ?_;refine Zc hG ?_ (s:=hck _ _);refine Zf u ?_;refine Zc hG ?_ (s:=Zys G hG _ _ (Zm W) (Zm W) rfl (by rw [Zp];exact hWl));refine Z1 ?_;refine AW.weak (Za (l:=[(1,.view .old (Z2 .old .old m)),(3,Zb .old 2 Zwb (Zm W)),(4,.int .i64 e),(5,.int .i64 k),(6,Zb .new 2 Zzw (ftI (Zm W))),(8,.int .i64 0)]) (m:=[]) (by simp -implicitDefEqProofs only[go_sem,seval];exact ⟨rfl,ftI_v _ _⟩) zp) ?_;refine AW.block ?_
  refine Zlb (fun (y:Sl (Int × Int) × Nat)=>st [(1,.view .old (Z2 .old .old m)),(3,Zb .old 2 Zwb (Zm W)),(4,.int .i64 e),(5,.int .i64 k),(6,Zb .new 2 Zzw y.1),(8,.int .i64 y.2)] [])
   (fun y=>y.1.l.length≤100000∧y.2≤100000) (fun y=>100001-y.2) (ftI (Zm W),0) ⟨by rw [ftI_l,Zp];exact hWl,Nat.zero_le _⟩ (Za zp zp) ?_
  rintro ⟨ya,i⟩ ⟨hya,hi⟩ L7 hL7
  replace hya:ya.l.length≤100000:=hya
  replace hi:i≤100000:=hi
  by_cases hi1:i<ya.l.length
  ·have hg:=List.getElem?_eq_getElem hi1
   have hlt2:decide ((i:Int)<(ya.l.length:Int))=true:=zT;have w3:IntKind.i64.wrap ((i:Int)+1)=(i:Int)+1:=w64 (by omega) (by omega);refine Z1f hlt2 ?_;refine Z0 ?_;refine Z5 ?_;refine AW.block ?_;refine Zf5 [(1,.view .old (Z2 .old .old m)),(3,Zb .old 2 Zwb (Zm W)),(4,.int .i64 e),(5,.int .i64 k),(8,.int .i64 i)] [] [(6,shFs 100000)] hb1 hI1 hGo (by intro p hp;simp at hp;subst hp;exact free_Fs _) zk zk rfl ?_ ?_ ?_
   ·refine Zs ?_
    exact ⟨old_md _,old_ft _,.int _ _,.int _ _,.int _ _⟩
   ·exact zp
   simp -implicitDefEqProofs only[go_sem,seval,List.dropLast,hg];refine ⟨⟨_,rfl,rfl,by kernel_rfl,⟨rfl,rfl,trivial⟩,by decide⟩,shFs_of hya,?_⟩;rintro _ ⟨v,_,rfl,hv,rfl⟩;obtain ⟨ya2,rfl,h1⟩:=shFs_to hv;refine Zs ?_;refine Zf w3 ?_;exact hL7 _ ⟨(ya2,i+1),by show 100001-(i+1)<100001-i;omega,⟨h1,by show i+1≤100000;omega⟩,Za zp zp⟩
  have hlt2:decide ((i:Int)<(ya.l.length:Int))=false:=zF;refine Zf (zi hlt2 wk) ?_;exact hL3 _ ⟨hk1,(),trivial,Za zp zp⟩
 have hlt:decide ((k:Int)<2)=false:=zF;refine Zf hlt ?_;refine Zc hG ?_ (s:=hW);exact Zr
end Go.Hs
end

section
namespace Go.Proofs.YtegjlbpnpiigkaaGreatDoor
open Go.RowKit Go.Hs
set_option maxRecDepth 100000
def Zaf:List (String × DataW Unit):=[("math/bits.deBruijn32tab",Rows.laid_math_bits_deBruijn32tab),("math/bits.deBruijn64tab",Rows.laid_math_bits_deBruijn64tab),("internal/strconv.uint64pow10",Rows.laid_internal_strconv_uint64pow10),("unicode/utf8.acceptRanges",Rows.laid_unicode_utf8_acceptRanges),("strconv.ErrRange",Rows.laid_strconv_ErrRange),("strconv.ErrSyntax",Rows.laid_strconv_ErrSyntax),("hopscotch/lex.signs",Rows.laid_hopscotch_lex_signs),("unicode/utf8.first",Rows.laid_unicode_utf8_first)]
noncomputable def low:Nat:=(World.holding Tryz.prog default ⟨#[],#[],[]⟩).heap.size
def b32:List Int:=[0,1,28,2,29,14,24,3,30,22,20,15,25,17,4,8,31,27,13,23,21,19,16,7,26,12,18,6,11,5,10,9]
def b64:List Int:=0::1::56::2::57::49::28::3::61::58::42::50::38::29::17::4::62::47::59::36::45::43::51::22::53::39::33::30::24::18::12::5::63::55::48::27::60::41::37::16::46::35::44::21::52::32::23::11::54::26::40::15::34::20::31::10::25::14::19::9::13::8::7::6::[]
def acR:List Int:=[128,191,160,191,128,159,144,191,128,143]++List.replicate 22 0
def errR:ByteArray:={ data := #[118,97,108,117,101,32,111,117,116,32,111,102,32,114,97,110,103,101] }
def errS:ByteArray:={ data := #[105,110,118,97,108,105,100,32,115,121,110,116,97,120] }
def Zce (cs:Array Value):Obj→Obj
 | .cells _ t frozen => .cells cs t frozen
 | o=>o
noncomputable def laidWorld (os:Os):World :=
 let w0:=World.holding Tryz.prog os ⟨#[.cells #[.string errR] 428,.cells #[.string errS] 428],#[],[]⟩
 { w0 with heap:=(((((((w0.heap.modify 2 (Zce #[.iface 426 (.pointer (some ⟨low,0,none⟩))])).modify 5 (Zce #[.iface 426 (.pointer (some ⟨low+1,0,none⟩))])).modify 6
   (Zce (Lib.pow10Tab.map (Value.int .u64)).toArray)).modify 7 (Zce (b32.map (Value.int .u8)).toArray)).modify 8 (Zce (b64.map (Value.int .u8)).toArray)).modify 4 (Zce (acR.map (Value.int .u8)).toArray)).modify
   0 (Zce (signsL.map fun s=>Value.string ⟨s.toArray⟩).toArray)).modify 3 (Zce (Pinned.utf8FirstZ.map fun (n:Nat)=>Value.int .u8 (n:Int)).toArray) }
theorem Zfk (os:Os) (args:Array Value):laidMet Tryz.prog Zaf ((laidWorld os).forCall (fun _ _=>0) ⟨#[],args,[]⟩).memory :=
 laidMet_of_run' 8 (by kernel_rfl) (by kernel_rfl)
end Go.Proofs.YtegjlbpnpiigkaaGreatDoor
end

section
namespace Go.Proofs.YtegjlbpnpiigkaaGreatDoor
open Go.RowKit Go.Hs
set_option maxRecDepth 100000
theorem Zdb {P:Program} {W:World} {x:String × DataW Unit} {r:List (String × DataW Unit)} (h:laidMet P (x::r) W):laidMet P r W:=by
 obtain ⟨n,d⟩:=x;obtain ⟨ps,⟨g0,t0,cs0,f0,p0,q0,hg0,ht0,hv0,hd0,hq,e0⟩,hnd,hrows⟩:=h;subst e0;exact ⟨q0,hq,(List.nodup_append.1 hnd).2.1,fun b off hm=>hrows b off (List.mem_append.2 (.inr hm))⟩
noncomputable def gE (m:Int):Nat→V:=fun g=>if g=2 then .view .old (.iface 426 (.view .old (.agg []))) else if g=6 then .view .old (.agg (Lib.pow10Tab.map (V.int .u64)))
 else if g=0 then .view .old (.agg (signsL.map V.str)) else if g=1 then .view .old (.int .i64 m) else .top
theorem Z3n (f:Col→Col):∀ l:List Int,Z2a f (l.map (V.int .u64))=l.map (V.int .u64)
 | []=>rfl
 | x::r=>by simp only [List.map_cons,Z2a];rw [Z3n f r]<;>rfl
theorem Z2n (f:Col→Col):∀ l:List (List UInt8),Z2a f (l.map V.str)=l.map V.str
 | []=>rfl
 | x::r=>by simp only [List.map_cons,Z2a];rw [Z2n f r]<;>rfl
theorem gE_ok (m:Int):GExp (gE m) where
 ok:=fun g=>by
  unfold gE
  split
  ·exact ⟨rfl,.view _ _ fun x hx=>by simp [V.cells] at hx;subst hx;exact .iface _ _ (.view _ _ fun x hx=>by simp [V.cells] at hx)⟩
  ·split
   ·refine ⟨by simp only [V.recol,Col.ent,Z3n],.view _ _ fun x hx=>?_⟩
    obtain ⟨n,_,rfl⟩:=List.mem_map.1 hx;exact .int _ _
   ·split
    ·refine ⟨by simp only [V.recol,Col.ent,Z2n],.view _ _ fun x hx=>?_⟩
     obtain ⟨n,_,rfl⟩:=List.mem_map.1 hx;exact .str _
    ·split
     ·exact ⟨rfl,.view _ _ fun x hx=>by simp [V.cells] at hx;subst hx;exact .int _ _⟩
     ·exact ⟨rfl,.top⟩
 er:=⟨_,_,_,rfl⟩
 tab:=⟨_,rfl⟩
 sg:=⟨_,rfl⟩
 ml:=⟨_,m,rfl⟩
theorem gE_old (m:Int) (g:Nat):(gE m g).Old:=by
 unfold gE
 split
 ·exact .view _ fun x hx=>by simp [V.cells] at hx;subst hx;exact .iface _ _ (.view _ fun x hx=>by simp [V.cells] at hx)
 ·split
  ·refine .view _ fun x hx=>?_
   obtain ⟨n,_,rfl⟩:=List.mem_map.1 hx;exact .int _ _
  ·split
   ·refine .view _ fun x hx=>?_
    obtain ⟨n,_,rfl⟩:=List.mem_map.1 hx;exact .str _
   ·split
    ·exact .view _ fun x hx=>by simp [V.cells] at hx;subst hx;exact .int _ _
    ·exact .top
theorem gER:Tryz.prog.globalNamed "strconv.ErrRange" = some 2:=by kernel_rfl
theorem gERType:(Tryz.prog.globals[2]?).map (·.type)=some 379:=by kernel_rfl
theorem Zr7:Tryz.prog.cellsOf 428=1:=by kernel_rfl
theorem Zz8:Tryz.prog.cellsOf 9=1:=by kernel_rfl
theorem star : "*" ++ "errors.errorString" = "*errors.errorString" := by decide
theorem row109 (u:TypeId) (h:Tryz.prog.typeName? 3 u=some "*errors.errorString"):u=426 :=
 typeName_ptr_named (nm := "errors.errorString") (by rw [star];kernel_rfl) (by kernel_rfl) (by decide) u (by rw [star];exact h)
theorem gTab:Tryz.prog.globalNamed "internal/strconv.uint64pow10" = some 6:=by kernel_rfl
theorem Zl7:∃ t n,(Tryz.prog.globals[6]?).map (·.type)=some t∧Tryz.prog.underlying t=some (.array n 265)∧Tryz.prog.cellsOf t=n∧n=20:=by
 refine ⟨(((Tryz.prog.globals[6]?).map (·.type)).getD 0),20,by kernel_rfl,by kernel_rfl,by kernel_rfl,rfl⟩
theorem Z96 {W:World} (h:laidMet Tryz.prog Zaf W):Lib.TabIs Tryz.prog W "internal/strconv.uint64pow10" .u64 Lib.pow10Tab:=by
 obtain ⟨t,n,h1,h2,h3,rfl⟩:=Zl7
 have e:(Rows.laid_internal_strconv_uint64pow10:DataW Unit)=Lib.tabData .u64 Lib.pow10Tab:=by rfl
 have h4:=Zdb (Zdb h);rw [e] at h4;exact Lib.tabIs_of_head gTab h1 h2 Tryz.underlying265 (by kernel_rfl) h3 h4
theorem Za7 {W:World} (h:laidMet Tryz.prog Zaf W):∃ b off,W.cell? ⟨2,0,none⟩=some (.iface 426 (.pointer (some ⟨b,off,none⟩))):=by
 obtain ⟨a,s,h1,h2,_,_⟩:=laid_sentinel (Zdb (Zdb (Zdb (Zdb h)))) gER gERType Tryz.underlying379 row109 Tryz.underlying426 Tryz.underlying428 rfl rfl Tryz.underlying9 Zr7 Zz8;have h0:=World.var?_cell gER h1 0;have hs:=World.cell?_spot h2;obtain ⟨b,off,sp⟩:=a;have hs:sp=none:=hs;subst hs;exact ⟨b,off,by simpa using h0⟩
def Zwv {H:Type} (zs:List (List UInt8)):DataW H := .agg (zs.map fun z => .lit (.string z))
theorem Z8r {H:Type} {enc:TypeId × Value→H} {P:Program} {w:World} {base:Nat} {sp:Nat→Bool} {held:Bool} {fuel:Nat} {t e:TypeId} {n:Nat} {cs:List Value} {zs:List (List UInt8)} {p:List MemPlace}
  (ht:P.underlying t=some (.array n e)) (he:P.underlying e=some .string) (hce:P.cellsOf e=1) (hct:P.cellsOf t=n)
  (h:DataW.trod enc P w base sp held fuel t cs=some (Zwv zs,p)):cs.length=zs.length∧∀ i (hi:i<zs.length),∃ s:ByteArray,cs[i]? = some (.string s)∧s.data.toList=zs[i]:=by
 cases fuel with
 | zero=>simp [DataW.trod] at h
 | succ fuel =>
  simp only [DataW.trod,ht,hce,hct,Nat.mul_one] at h
  split at h
  ·rename_i hl
   obtain ⟨xs,hm,hx⟩:=Option.map_eq_some_iff.1 h
   have hxs:xs.map (·.1)=zs.map fun z=>(DataW.lit (.string z):DataW H):=by
    have:=congrArg Prod.fst hx;simpa [Zwv] using this
   have hxl:xs.length=n:=by simpa using Lib.mapM_length hm
   have hzl:zs.length=n:=by
    have:=congrArg List.length hxs;simp at this;omega
   refine ⟨by omega,fun i hi=>?_⟩
   have hin:i<n:=by omega
   obtain ⟨b,hb,hf⟩:=Lib.mapM_at hm i i (by simp [hin]);obtain ⟨z,hc,rfl,_⟩:=DataW.trod_string he hf
   have h1:cs[i]? = some (.string z):=by
    have:=congrArg (·[0]?) hc;simpa [List.getElem?_take,List.getElem?_drop] using this
   have h2:(xs.map (·.1))[i]? = some (DataW.lit (.string z.data.toList):DataW H):=by simp [hb]
   rw [hxs,List.getElem?_map,List.getElem?_eq_getElem hi] at h2;refine ⟨z,h1,?_⟩;have h3:(DataW.lit (.string zs[i]):DataW H) = .lit (.string z.data.toList):=Option.some.inj h2
   injection h3 with h3
   injection h3 with h3
   exact h3.symm
  ·cases h
theorem gSg:Tryz.prog.globalNamed "hopscotch/lex.signs" = some 0:=by kernel_rfl
theorem gSgType:(Tryz.prog.globals[0]?).map (·.type)=some 280:=by kernel_rfl
theorem Zt0 {W:World} (h:laidMet Tryz.prog Zaf W):∃ cs:Array Value,W.var? Tryz.prog "hopscotch/lex.signs" = some cs∧cs.size=14∧∀ i (hi:i<signsL.length),∃ s:ByteArray,cs[i]? = some (.string s)∧s.data.toList=signsL[i]:=by
 have e:(Rows.laid_hopscotch_lex_signs:DataW Unit)=Zwv signsL:=by rfl
 have h4:=Zdb (Zdb (Zdb (Zdb (Zdb (Zdb h)))));rw [e] at h4;obtain ⟨ps,⟨g',t',cs,fuel,p,q,hg',ht',hvar,hd,_,_⟩,_⟩:=h4;obtain rfl:=Option.some.inj (gSg.symm.trans hg');obtain rfl:=Option.some.inj (gSgType.symm.trans ht');obtain ⟨h1,h2⟩:=Z8r Tryz.underlying280 Tryz.underlying9 Zz8 (by kernel_rfl) hd;refine ⟨_,hvar,(by simpa using h1:cs.size=signsL.length).trans rfl,fun i hi=>?_⟩;obtain ⟨s,h3,h4⟩:=h2 i hi;exact ⟨s,by simpa using h3,h4⟩
theorem Zf3 {W:World} (h:W.ShapedOpen Tryz.prog):∃ m,W.cell? ⟨1,0,none⟩=some (.int .i64 m):=by
 obtain ⟨cs,hh,hs,hr⟩:=h.1 1 #[.int .i64 0] 3 (of_decide_eq_true (by kernel_rfl)) (by kernel_rfl);obtain ⟨ts,hts,_,hall⟩:=hr (by kernel_rfl);rw [show Tryz.prog.cellTypes Tryz.prog.depth 3=some [3] by kernel_rfl] at hts;cases hts
 have h1:0<cs.size:=by rw [hs];decide
 obtain ⟨u,hu',hok⟩:=hall 0 cs[0] (by simp [h1])
 have:u=3:=by simpa using hu'.symm
 subst this
 have hcell:W.cell? ⟨1,0,none⟩=some cs[0]:=by simp [World.cell?,hh,h1]
 rw [hcell];unfold Cell.ok at hok;rw [Tryz.underlying3] at hok
 cases hv:cs[0]<;>rw [hv] at hok<;>first | (obtain ⟨rfl,_⟩:=hok;exact ⟨_,rfl⟩) | simp at hok
theorem Zn8 {W:World} (h:laidMet Tryz.prog Zaf W) (hS:W.ShapedOpen Tryz.prog):∃ m,∀ g,RelG (Z7b W) g (gE m g):=by
 obtain ⟨m,hml⟩:=Zf3 hS;refine ⟨m,fun g=>?_⟩;unfold gE
 split
 ·rename_i hg
  subst hg;obtain ⟨b,off,h1⟩:=Za7 h;refine ⟨?_,trivial⟩;refine .view .old _ 2 0 (fun _ => .iface 426 (.pointer (some ⟨b,off,none⟩))) (fun i hi=>?_) (fun i hi=>?_)
  ·have:i=0:=by simpa [V.cells] using hi
   subst this;refine ⟨by show (W.cell? _).isSome=true;rw [h1]<;>rfl,World.block_lt_of_cell? _ _ h1,h1,rfl⟩
  ·have:i=0:=by simpa [V.cells] using hi
   subst this;exact .iface _ _ _ (.view .old _ b off (fun _ => .nilIface) (fun i hi=>by simp [V.cells] at hi) (fun i hi=>by simp [V.cells] at hi))
 ·split
  ·rename_i hg
   subst hg;have ht:=Z96 h;have hc:∀ i (hi:i<Lib.pow10Tab.length),W.cell? ⟨6,i,none⟩=some (.int .u64 (Lib.pow10Tab.getD i 0)):=fun i hi=>ht.cell gTab i hi;have hlen:Lib.pow10Tab.length=20:=Lib.pow10Tab_length;have hlt:6<W.heap.size:=World.block_lt_of_cell? _ _ (hc 0 (by omega))
   have hv:W.var? Tryz.prog "internal/strconv.uint64pow10" = some (Lib.pow10Tab.map fun z=>Value.int .u64 z).toArray:=ht
   refine ⟨?_,?_⟩
   ·refine .view .old _ 6 0 (fun i => .int .u64 (Lib.pow10Tab.getD i 0)) (fun i hi=>?_) (fun i hi=>?_)
    ·have hi:i<Lib.pow10Tab.length:=by simpa [V.cells] using hi
     rw [Nat.zero_add];exact ⟨by show (W.cell? _).isSome=true;rw [hc i hi]<;>rfl,hlt,hc i hi,rfl⟩
    ·have hi':i<Lib.pow10Tab.length:=by simpa [V.cells] using hi
     have key:∀ v,v=V.int .u64 (Lib.pow10Tab.getD i 0)→Rel (Z7b W) (Value.int .u64 (Lib.pow10Tab.getD i 0)) v:=fun v e=>by rw [e];exact .int _ _
     exact key _ (by simp [V.cells,List.getD,hi'])
   ·refine ⟨hlt,?_⟩
    unfold World.var? at hv;rw [gTab] at hv;have hv:(match W.heap[6]? with | some (Obj.cells cs _ _)=>some cs | _=>none)=some (Lib.pow10Tab.map fun z=>Value.int .u64 z).toArray:=hv
    split at hv
    ·rename_i cs t fr hh
     cases hv;exact ⟨_,t,fr,hh,by simp⟩
    ·cases hv
  ·split
   ·rename_i hg
    subst hg;obtain ⟨cs,hv,hsz,hcs⟩:=Zt0 h;have h0:=fun i=>World.var?_cell gSg hv i
    have hc:∀ i (hi:i<signsL.length),∃ s:ByteArray,W.cell? ⟨0,i,none⟩=some (.string s)∧s.data.toList=signsL[i]:=fun i hi=>by
     obtain ⟨s,h1,h2⟩:=hcs i hi;exact ⟨s,by rw [h0 i];exact h1,h2⟩
    have hlt:0<W.heap.size:=by
     obtain ⟨s,h1,_⟩:=hc 0 (by decide);exact World.block_lt_of_cell? _ _ h1
    refine ⟨?_,?_⟩
    ·refine .view .old _ 0 0 (fun i=>(cs[i]?).getD undef) (fun i hi=>?_) (fun i hi=>?_)
     ·have hi:i<signsL.length:=by simpa [V.cells] using hi
      obtain ⟨s,h1,_⟩:=hcs i hi;rw [Nat.zero_add,h1]
      have h2:W.cell? ⟨0,i,none⟩=some (.string s):=by rw [h0 i];exact h1
      exact ⟨by show (W.cell? _).isSome=true;rw [h2]<;>rfl,hlt,h2,rfl⟩
     ·have hi':i<signsL.length:=by simpa [V.cells] using hi
      obtain ⟨s,h1,h2⟩:=hcs i hi';rw [h1]
      have key:∀ v,v=V.str signsL[i]→Rel (Z7b W) (Value.string s) v:=fun v e=>by rw [e];exact .str _ _ h2
      exact key _ (by simp [V.cells])
    ·refine ⟨hlt,?_⟩
     unfold World.var? at hv;rw [gSg] at hv;have hv:(match W.heap[0]? with | some (Obj.cells cs _ _)=>some cs | _=>none)=some cs:=hv
     split at hv
     ·rename_i cs' t fr hh
      cases hv;exact ⟨_,t,fr,hh,by rw [hsz]<;>rfl⟩
     ·cases hv
   ·split
    ·rename_i hg
     subst hg;refine ⟨?_,trivial⟩;refine .view .old _ 1 0 (fun _ => .int .i64 m) (fun i hi=>?_) (fun i hi=>?_)
     ·have:i=0:=by simpa [V.cells] using hi
      subst this;refine ⟨by show (W.cell? _).isSome=true;rw [hml]<;>rfl,World.block_lt_of_cell? _ _ hml,hml,rfl⟩
     ·have:i=0:=by simpa [V.cells] using hi
      subst this;exact .int _ _
    ·exact ⟨.top _,trivial⟩
end Go.Proofs.YtegjlbpnpiigkaaGreatDoor
end

section
namespace Go.Proofs.YtegjlbpnpiigkaaGreatDoor
open Go.RowKit Go.Hs Go.ChangeShapes Go.WideShapes Go.ChangeAt
open Go.ChangeMaps (open_string shut_string)
set_option maxRecDepth 100000
variable {W:World} {H:Type} {enc:TypeId × Value→H} {b0:Nat} {v:Value} {d:DataW H} {ps:List MemPlace}
theorem own:ownKnob Tryz.prog.godebug=none:=by kernel_rfl
theorem Zvr:laidOutB Tryz.prog=true:=by kernel_rfl
end Go.Proofs.YtegjlbpnpiigkaaGreatDoor
end
