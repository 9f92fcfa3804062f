/- A part. No condition. -/
import Derived.Test.YtegjlbpnpiigkaaGreatDoorP46
set_option linter.all false
section
namespace Go.Hs
open Go.Proofs
set_option maxRecDepth 10000
set_option maxHeartbeats 4000000
def Sl.isNil{α : Type}(s:Sl α):Bool:=match s with|.nil=>true|.mk _ _=>false
def Sl.cl{α : Type}(s:Sl α):Sl α := match s with|.nil=>.nil|.mk _ l=>.mk false l
theorem Zxq{α : Type}(s:Sl α):s.cl.l=s.l:=by cases s<;>rfl
def objV(nil:Bool)(o g m n:Nat):V:=if nil=true/\n=0 then .nils else .msl o g 0 n m
def Zpg(nil:Bool)(g n:Nat)(cs:List V):AObj:=if nil=true/\n=0 then .dead else .cells .new g 0 cs
theorem Zhp{nil:Bool}{o g m n:Nat}(h:n≠0):objV nil o g m n=.msl o g 0 n m:=if_neg λq=>h q.2
theorem Zip{nil:Bool}{g n:Nat}{cs:List V}(h:n≠0):Zpg nil g n cs=.cells .new g 0 cs:=if_neg λq=>h q.2
theorem Zaia(nil:Bool)(o g m n:Nat):Z48 true (objV nil o g m n)=some (.int .i64 n):=by
 unfold objV
 split
 rename_i h;rw[h.2]<;>rfl
 rfl
theorem Zpca(nil:Bool)(o g m n:Nat):(objV nil o g m n).cells=[objV nil o g m n]:=by unfold objV;split<;>rfl
theorem Zbaa(nil:Bool)(o g m n:Nat):(objV nil o g m n).solid=true:=by unfold objV;split<;>rfl
theorem Zrha(nil:Bool)(g n:Nat)(cs:List V):(Zpg nil g n cs).noMp=Zpg nil g n cs:=by unfold Zpg;split<;>rfl
attribute[go_sem]Zaia Zpca Zbaa Zrha
def Zf8{α : Type}(nil:Bool)(l:List α):Sl α := if nil=true/\l.length=0 then .nil else .mk false l
theorem Zhga{α : Type}(nil:Bool)(l:List α):(Zf8 nil l).l=l:=by
 unfold Zf8
 split
 rename_i h;rw[List.length_eq_zero_iff.1 h.2]<;>rfl
 rfl
theorem Zx7{α : Type}{H:Heap}{nil:Bool}{o g m:Nat}{f f' : α -> V}{l:List α}(hH:H o=Zpg nil g l.length (flat (l.map f)))(hf:∀ x,(f x).cells.length=m)
  (hIm:∀ x,∀ y∈(f x).cells,y.Im) (hf':∀ x,(f x).recol Col.ent=f' x):Rd H (objV nil o g m l.length) (Zb .old m f' (Zf8 nil l)):=by
 by_cases h:nil=true/\l.length=0
 rw[Hs.objV,if_pos h,Zf8,if_pos h];exact Z0a .nils rfl;rw[Hs.objV,if_neg h,Zf8,if_neg h];rw[Zpg,if_neg h]at hH;have:=Rd.msl (l:=l) (off:=0) (n:=l.length) (o:=o) (g:=g) hH hf hIm hf' zo;rw[List.drop_zero,List.take_length,Nat.zero_mul]at this;exact this
theorem Z32(G:Nat->V)(c:Col)(s:Sl (List UInt8×Int))(hs:s.l.length<1000000):InSp Tryz.prog G 50 [Zb c 2 Z3 s] (Zab Zk [(5205,.dead)])
  (λv H'=>∃ g,v=objV s.isNil 5205 g 2 s.l.length/\H' 5205=Zpg s.isNil g s.l.length (flat (s.l.map Z3))):=by
 refine Zfb 5200 8 [.tmp 2] Tryz.func50 rfl rfl rfl rfl λX=>?_;simp only[Zab]
 cases s with
 |nil=>
  refine Z ?_;exact⟨0,by first|exact⟨rfl,rfl⟩|rfl⟩
 |mk b l=>
  have hq:Zb c 2 Z3 (.mk b l)=.slice c b 2 (l.map Z3):=rfl;rw[hq];have hl:l.length<1000000:=hs;refine Z ?_;intro g;refine⟨Z5 zo (by rw[List.length_map];omega),λg2=>?_⟩;refine Zs ?_;refine Z ?_;exact⟨g2,by rw[List.length_map,objV,if_neg (λq=>by cases q.1)],by rw[Zpg,if_neg (λq=>by cases q.1)];first|rfl|(simp -implicitDefEqProofs only[go_sem,seval];try rfl)⟩
theorem Z7p(G:Nat->V)(c d:Col)(s:Sl VtM)(hs:s.l.length<1000000):InSp Tryz.prog G 51 [Zb c 8 (Zha d) s] (Zab Zk [(5305,.dead)])
  (λv H'=>∃ g,v=objV s.isNil 5305 g 8 s.l.length/\H' 5305=Zpg s.isNil g s.l.length (flat (s.l.map (Zha d)))):=by
 refine Zfb 5300 8 [.tmp 2] Tryz.func51 rfl rfl rfl rfl λX=>?_;simp only[Zab]
 cases s with
 |nil=>
  refine Z ?_;exact⟨0,by first|exact⟨rfl,rfl⟩|rfl⟩
 |mk b l=>
  have hq:Zb c 8 (Zha d) (.mk b l)=.slice c b 8 (l.map (Zha d)):=rfl;rw[hq];have hl:l.length<1000000:=hs;refine Z ?_;intro g;refine⟨Z5 zo (by rw[List.length_map];omega),λg2=>?_⟩;refine Zs ?_;refine Z ?_;exact⟨g2,by rw[List.length_map,objV,if_neg (λq=>by cases q.1)],by rw[Zpg,if_neg (λq=>by cases q.1)];first|rfl|(simp -implicitDefEqProofs only[go_sem,seval];try rfl)⟩
theorem Z8p(G:Nat->V)(c d:Col)(s:Sl TrM)(hs:s.l.length<1000000):InSp Tryz.prog G 52 [Zb c 8 (Zqa d) s] (Zab Zk [(5405,.dead)])
  (λv H'=>∃ g,v=objV s.isNil 5405 g 8 s.l.length/\H' 5405=Zpg s.isNil g s.l.length (flat (s.l.map (Zqa d)))):=by
 refine Zfb 5400 8 [.tmp 2] Tryz.func52 rfl rfl rfl rfl λX=>?_;simp only[Zab]
 cases s with
 |nil=>
  refine Z ?_;exact⟨0,by first|exact⟨rfl,rfl⟩|rfl⟩
 |mk b l=>
  have hq:Zb c 8 (Zqa d) (.mk b l)=.slice c b 8 (l.map (Zqa d)):=rfl;rw[hq];have hl:l.length<1000000:=hs;refine Z ?_;intro g;refine⟨Z5 zo (by rw[List.length_map];omega),λg2=>?_⟩;refine Zs ?_;refine Z ?_;exact⟨g2,by rw[List.length_map,objV,if_neg (λq=>by cases q.1)],by rw[Zpg,if_neg (λq=>by cases q.1)];first|rfl|(simp -implicitDefEqProofs only[go_sem,seval];try rfl)⟩
theorem Zax(G:Nat->V)(c:Col)(s:Sl (List UInt8×Int))(hs:s.l.length<1000000):Spec Tryz.prog G 48 [Zb c 2 Z3 s] Zk (λv _=>v=Zb .new 2 Z3 s.cl):=by
 refine Zo 0 8 [.tmp 2] Tryz.func48 λX=>?_
 cases s with
 |nil=>exact Zr
 |mk b l=>
  have hq:Zb c 2 Z3 (.mk b l)=.slice c b 2 (l.map Z3):=rfl;rw[hq];have hl:l.length<1000000:=hs;refine Z ?_;intro g;refine⟨Z5 zo (by rw[List.length_map];omega),λg2=>?_⟩;refine Zs ?_;refine AW.weak (Zt (λo=>o==5) (l:=[(2,.slice .new false 2 (l.map Z3))]) (m:=[]) ?_ trivial) ?_;refine Zs ?_;rw[List.length_map];exact Z4c (f:=Z3) rfl zp Zqb;exact Zr
theorem Z5h(G:Nat->V)(c:Col)(s:Sl (List UInt8))(hs:s.l.length<1000000):Spec Tryz.prog G 49 [Zb c 1 V.str s] Zk (λv _=>v=Zb .new 1 V.str s.cl):=by
 refine Zo 0 8 [.tmp 2] Tryz.func49 λX=>?_
 cases s with
 |nil=>exact Zr
 |mk b l=>
  have hq:Zb c 1 V.str (.mk b l)=.slice c b 1 (l.map V.str):=rfl;rw[hq];have hl:l.length<1000000:=hs;refine Z ?_;intro g;refine⟨Z5 zo (by rw[List.length_map];omega),λg2=>?_⟩;refine Zs ?_;refine AW.weak (Zt (λo=>o==5) (l:=[(2,.slice .new false 1 (l.map V.str))]) (m:=[]) ?_ trivial) ?_;refine Zs ?_;rw[List.length_map];exact Z4c (f:=V.str) rfl zp (λ_=>rfl);exact Zr
end Go.Hs
end

section
namespace Go.Hs
section
variable{P:Program}
inductive V.Nw:V->Prop
 |bool (b:Bool):Nw (.bool b)
 |int (k:IntKind) (n:Int):Nw (.int k n)
 |str (s:List UInt8):Nw (.str s)
 |nils:Nw .nils
 |slice (clip:Bool) (E:Nat) (l:List V) (h:∀ x∈flat l,Nw x):Nw (.slice .new clip E l)
 |agg (l:List V) (h:∀ x∈l,Nw x):Nw (.agg l)
 |tuple (l:List V) (h:∀ x∈l,Nw x):Nw (.tuple l)
theorem Nw.enc{α : Type}{m:Nat}{f : α -> V}(hf:∀ x,∀ y∈(f x).cells,V.Nw y)(s:Sl α):V.Nw (Zb .new m f s):=by
 cases s with
 |nil=>exact .nils
 |mk b l=>
  refine .slice _ _ _ λx hx=>?_;obtain⟨v,hv,hx⟩:=List.mem_flatMap.1 hx;obtain⟨a,_,rfl⟩:=List.mem_map.1 hv;exact hf a x hx
theorem Rel.nw{X Y:Cx}(hw:Y.w=X.w)(hS:∀ b i,X.S b i->X.base<=b->Y.S b i)(hb:Y.base<=X.base){x:Value}{v:V}(h:Rel X x v)(hn:v.Nw):Rel Y x v:=by
 induction h with
 |bool b=>exact .bool b
 |int k n=>exact .int k n
 |str s l h=>exact .str s l h
 |nils=>exact .nils
 |slice c clip E l b off cap f hcap hclip hE hc hr ih=>
  cases hn with
  |slice _ _ _ h=>
   refine .slice .new clip E l b off cap f hcap hclip hE (λi hi=>?_) (λi hi=>ih i hi (h _ (List.getElem_mem _)));obtain⟨h1,h2,h3,h4⟩:=hc i hi;have h2:X.base<=b:=h2;refine⟨hS _ _ h1 h2,Nat.le_trans hb h2,?_,h4⟩;unfold Cx.cell at h3⊢;rw[hw];exact h3
 |slice0 c clip E a=>exact .slice0 c clip E a
 |agg xs l hx ho hr ih=>
  cases hn with
  |agg _ h=>exact .agg xs l hx ho (λi h1 h2=>ih i h1 h2 (h _ (List.getElem_mem _)))
 |tuple xs l hx hr ih=>
  cases hn with
  |tuple _ h=>exact .tuple xs l hx (λi h1 h2=>ih i h1 h2 (h _ (List.getElem_mem _)))
 |_=>cases hn
theorem Z5b{G:Nat->V}(hGok:GOk G){f:FuncId}{args:List V}{H:Heap}{K:V->Heap->Prop}(args':List V)(hen:Zia P f=true)(hrd:RdL H args args')
  (h:Spec P G f args' Zk (λv _=>v.Nw/\K v H)):CallA P G f args H K:=by
 refine⟨hen,λX cargs hI hG hA=>?_⟩
 let Xb:Cx:={ β := λ_ _=>none,S:=λb _=>b<X.w.heap.size,base:=X.w.heap.size,w:=X.w }
 have hIb:Inv Xb Zk:=⟨λo c g fz cs ho=>(by cases ho),λo1 c1 g1 f1 l1 o2 c2 g2 f2 l2 b s1 s2 h1=>(by cases h1),λb i hs=>⟨hs,λo c g fz cs bs ho=>(by cases ho)⟩,λo=>⟨0,λ_ _=>rfl⟩,Nat.le_refl _,λb i hs hb=>absurd hs (Nat.not_lt.2 hb),.no λo lo b ks vs ho=>(by cases ho),.no λo b r ho=>(by cases ho)⟩
 have hconv:∀ x v,Rel X x v->v.Im->Rel Xb x (v.recol Col.ent):=λx v hr him=>
  hr.conv (X:=X) (Y:=Xb) Col.ent (λb i hs=>(hI.safe b i hs).1) (λ_ _ _ _ h=>h) ⟨λ_ c _ h=>⟨c,h,rfl⟩,λ_ _ _ _ h=>h⟩ (λc b hb _=>by cases c<;>first|exact hb|trivial) (.inr him)
 have hGe:∀ g,RelG Xb g (G g):=λg=>by
  refine⟨?_,(hG g).sz.reb rfl rfl (hGok g).1⟩;have:=hconv _ _ (hG g).rel (hGok g).2;rwa [(hGok g).1]at this
 have hAe:RelA Xb cargs args':=by
  refine⟨by rw[hA.len,hrd.get.1],λi h1 h2=>?_⟩;have hl:=hrd.get.1;refine Cv.rel (Y:=Xb) (F:=λ_=>true) (col:=λ_=>.old) hI (λx v v' hb hr=>by obtain⟨h1,rfl⟩:=hb;exact hconv _ _ hr h1) ?_ (λ_ _ _ h=>h) (hrd.get.2 i zo h2) (hA.rel i h1 zo);intro o c g fz cs b bs _ ho hβ;exact⟨hI.lt ho hβ,λi _=>hI.lt ho hβ⟩
 refine(h Xb cargs rfl hIb hGe hAe).mono ?_;rintro e w' ⟨c,v,H',Y,rfl,rfl,hg,hr,hnw,hk⟩;have hno:∀ b,¬ LiveB Xb Zk b:=Zkp;have hblk:∀ b,b<X.w.heap.size->Y.w.heap[b]?=X.w.heap[b]? := λb hb=>hg.kp.block b hb (hno b);have hbase:Y.base=X.w.heap.size:=hg.le.base
 let Z:Cx:={ X with w:=Y.w,S:=λb i=>X.S b i\/(Y.S b i/\X.w.heap.size<=b) }
 have hXZ:X.le Z:=by
  refine⟨λ_ _ _ h=>h,λ_ _ h=>.inl h,λb i x hs hc=>?_,rfl,λb c t hb=>⟨c,?_,rfl⟩,λb es n _ hb=>?_⟩;have:=hblk b (World.block_lt_of_cell? _ _ hc)
  show Y.w.cell? ⟨b,i,none⟩=some x
  rw[World.cell?_of_block (w:=X.w) (a:=⟨b,i,none⟩) this];exact hc
  have:b<X.w.heap.size:=by rw[Array.getElem?_eq_some_iff]at hb;exact hb.1
  show Y.w.heap[b]?=_
  rw[hblk b this];exact hb
  have:b<X.w.heap.size:=by rw[Array.getElem?_eq_some_iff]at hb;exact hb.1
  show Y.w.heap[b]?=_
  rw[hblk b this];exact hb
 have hkp:Keep (LiveB X H) X.w Z.w:=hg.kp.mono λb _ hl=>absurd hl (hno b);have hSn:∀ b i,Z.S b i->X.S b i\/X.w.heap.size<=b\/LiveB X H b:=λb i hs=>hs.imp id λq=>.inl q.2;refine⟨c,v,H,Z,rfl,rfl,⟨⟨?_,hI.inj,?_,hI.fin,?_,λb i hs hb=>?_,hI.mps_tr hXZ (λ_ _ _ _ _ h=>h) hkp hSn,hI.lps_tr (λ_ _ _ h=>h) λb r hb=>hblk b (Array.getElem?_eq_some_iff.1 hb).1⟩,hXZ,hkp,hSn,λb hb=>.inr hb⟩,?_,hk⟩;intro o c g fz cs ho;obtain⟨b,bs,h1,h2,c',t,h3,h4,h5⟩:=hI.obj o c g fz cs ho;exact⟨b,bs,h1,h2,c',t,by show Y.w.heap[b]?=_;rw[hblk b (hI.lt ho h1)];exact h3,h4,h5.mono hXZ⟩;rintro b i (hs|⟨hs,hlo⟩);exact⟨Nat.lt_of_lt_of_le (hI.safe b i hs).1 hg.kp.size,(hI.safe b i hs).2⟩;refine⟨(hg.inv.safe b i hs).1,λo c g fz cs bs ho hβ => ?_⟩;have:=hI.lt ho hβ;omega;exact Nat.le_trans hI.bw hg.kp.size
 rcases hs with hs|⟨hs,hlo⟩
 rcases hI.thaw b i hs hb with ⟨c1,t1,h2⟩|⟨rfl,es,n,h2⟩
 obtain⟨c2,h3,_⟩:=hXZ.blk b c1 t1 h2;exact .inl ⟨c2,t1,h3⟩;exact .inr ⟨rfl,es,n,hXZ.map b es n hs h2⟩;exact hg.inv.thaw b i hs (by rw[hbase];exact hlo);exact hr.nw (X:=Y) (Y:=Z) rfl (λb i h1 h2=>.inr ⟨h1,by rw[hbase]at h2;exact h2⟩) (by rw[hbase];exact hI.bw) hnw
theorem Rd.agg{H:Heap}{xs ys:List V}(h:RdL H xs ys):Rd H (.agg xs) (.agg ys):=Cv.agg xs ys h.get.1.symm h.get.2
end
end Go.Hs
end
