/- A part. No condition. -/
import Derived.KernelRfl
import Derived.Calls
import Derived.Below
set_option linter.all false
open List renaming length->aa
open Option renaming some->ae,none->ah
abbrev AA:=@if_neg
abbrev AF:=@if_pos
abbrev AJ:=@True.intro
abbrev AY:=@List.getElem?_eq_getElem
abbrev BC:=@List.length_map
abbrev BI:=@List.map_cons
abbrev BO:=@Nat.le_refl
abbrev BP:=@Bool.and_eq_true
abbrev BQ:=@List.length_append
abbrev BT:=@List.getElem_mem
abbrev BU:=@congrArg
abbrev BV:=@List.map_nil
abbrev BY:=@List.mem_cons
abbrev B_:=@List.take_length
abbrev CB:=@Nat.zero_le
abbrev CE:=@and_true
abbrev CF:=@or_false
abbrev CH:=@Bool.false_or
abbrev CL:=@List.not_mem_nil
abbrev CM:=@decide_eq_true_eq
abbrev CP:=@List.mem_singleton
abbrev CT:=@Nat.le_trans
abbrev CW:=@List.length_cons
abbrev CX:=@beq_iff_eq
abbrev CY:=@List.mem_map
abbrev CZ:=@List.length_take
abbrev DB:=@Array.getElem?_eq_some_iff
abbrev DC:=@List.mem_range
abbrev DG:=@List.getElem?_eq_some_iff
abbrev DH:=@List.append_assoc
abbrev DJ:=@Bool.true_and
abbrev DK:=@List.getD_eq_getElem?_getD
abbrev DL:=@List.map_append
abbrev DO:=@List.take_succ_eq_append_getElem
abbrev DS:=@Int.natCast_nonneg
abbrev DW:=@List.append_nil
abbrev DX:=@List.mem_append
abbrev DY:=@List.mem_of_getElem?
abbrev DZ:=@Bool.or_false
abbrev EB:=@decide_eq_decide
abbrev ED:=@List.getElem?_map
abbrev EE:=@Nat.zero_add
abbrev EG:=@Bool.false_and
abbrev EI:=@decide_eq_true
abbrev EJ:=@List.length_drop
abbrev EL:=@List.map_map
abbrev EN:=@if_true
abbrev ER:=@List.all_eq_true
abbrev EX:=@Bool.and_false
abbrev EY:=@Option.some.inj
abbrev FD:=@beq_eq_false_iff_ne
abbrev FG:=@List.getElem_map
abbrev FH:=@Nat.not_lt_zero
abbrev FL:=@List.drop_eq_getElem_cons
abbrev FQ:=@List.map_congr_left
abbrev FR:=@List.mem_cons_of_mem
abbrev FS:=@Ne.symm
abbrev FV:=@Bool.eq_false_iff
abbrev FW:=@Bool.eq_iff_iff
abbrev FX:=@List.any_eq_true
abbrev FY:=@List.flatMap_cons
abbrev F_:=@Bool.or_eq_true
abbrev GA:=@List.mem_cons_self
abbrev GC:=@decide_eq_false
abbrev GD:=@eq_false
abbrev GG:=@Nat.lt_or_ge
abbrev GH:=@Nat.lt_succ_self
abbrev GI:=@Option.some.injEq
abbrev GL:=@List.length_eq_zero_iff
abbrev GM:=@Nat.add_assoc
abbrev GN:=@Nat.add_zero
abbrev GR:=@Bool.not_true
abbrev GT:=@List.length_nil
abbrev GU:=@Nat.lt_of_lt_of_le
abbrev GV:=@Nat.mul_one
abbrev GY:=@Int.ofNat_lt
abbrev GZ:=@Int.toNat_natCast
abbrev G_:=@List.filter_nil
abbrev HA:=@Array.getD_eq_getD_getElem?
abbrev HB:=@List.drop_zero
abbrev HC:=@List.take_succ_cons
abbrev HD:=@if_false
abbrev HH:=@List.filter_append
abbrev HQ:=@List.all_cons
abbrev HR:=@List.any_cons
abbrev HS:=@List.contains_iff_mem
abbrev HT:=@List.drop_eq_nil_of_le
abbrev HU:=@List.flatMap_append
abbrev HV:=@List.length_range
abbrev HW:=@List.range_succ
abbrev HX:=@List.take_append_drop
abbrev HY:=@List.take_of_length_le
abbrev HZ:=@List.take_zero
abbrev H3:=@Nat.zero_lt_succ
abbrev IJ:=@List.length_filter_le
abbrev IK:=@Option.bind_some
abbrev IL:=@decide_eq_false_iff_not
abbrev IP:=@Bool.false_eq_true
abbrev IR:=@Nat.blt_eq
abbrev IS:=@Nat.sub_zero
abbrev IW:=@Array.length_toList
abbrev IX:=@Bool.and_true
abbrev IY:=@List.mem_filter
abbrev IZ:=@List.take_add_one
abbrev I_:=@Option.map_eq_some_iff
abbrev JC:=@of_decide_eq_true
abbrev JF:=@List.any_eq_false
abbrev JG:=@List.filter_cons_of_neg
abbrev JH:=@List.length_pos_iff
abbrev JI:=@List.length_singleton
abbrev JJ:=@bne_iff_ne
abbrev JR:=@List.contains_cons
abbrev JS:=@List.getElem?_append_right
abbrev JT:=@List.getElem_set
abbrev JU:=@Nat.lt_succ_iff_lt_or_eq
abbrev J':=@beq_self_eq_true
abbrev KE:=@true_and
abbrev KF:=@Array.all_eq_true'
abbrev KG:=@Bool.or_true
abbrev KH:=@List.filter_cons_of_pos
abbrev KI:=@List.foldl_append
abbrev KJ:=@List.getElem?_append_left
abbrev KK:=@List.mem_flatMap
abbrev LA:=@Bool.true_or
abbrev LF:=@List.all_append
abbrev LG:=@List.cons_append
abbrev LH:=@List.getElem?_toArray
abbrev LI:=@List.getElem_range
abbrev LJ:=@List.length_eq_one_iff
abbrev LK:=@Nat.le_of_ble_eq_true
abbrev LL:=@Nat.le_of_lt
abbrev LM:=@Nat.lt_irrefl
abbrev MB:=@Array.getElem_mem
abbrev MC:=@Classical.byContradiction
abbrev MG:=@List.find?_eq_none
abbrev MH:=@Nat.add_mul
abbrev MI:=@Nat.eq_zero_or_pos
abbrev MJ:=@Nat.min_eq_left
abbrev MX:=@cond_true
abbrev NJ:=@Iff.rfl
abbrev NK:=@List.contains_eq_any_beq
abbrev NL:=@List.contains_eq_mem
abbrev NM:=@List.drop_drop
abbrev NN:=@List.drop_length
abbrev NP:=@List.filter_map
abbrev NQ:=@List.flatMap_nil
abbrev NR:=@List.take_append_of_le_length
abbrev NS:=@Nat.zero_mul
abbrev NT:=@Option.map_some
abbrev OG:=@beq_false_of_ne
abbrev OH:=@decide_eq_true_iff
abbrev OO:=@Array.getElem?_replicate
abbrev OP:=@List.append_eq_nil_iff
abbrev OQ:=@List.eq_nil_iff_forall_not_mem
abbrev OR:=@List.filter_cons
abbrev OS:=@List.findIdx?_eq_some_iff_getElem
abbrev OT:=@List.getElem?_eq_none
abbrev OU:=@List.getElem?_take
abbrev OV:=@List.getElem_append_left
abbrev OW:=@List.mem_of_mem_drop
abbrev OX:=@List.mem_of_mem_take
abbrev OY:=@List.range_succ_eq_map
abbrev OZ:=@List.take_take
abbrev O':=@Nat.mul_le_mul_right
abbrev PA:=@Nat.not_lt
abbrev PB:=@Nat.succ_pos
abbrev PO:=@false_implies
abbrev PP:=@or_self
abbrev PT:=@Array.getElem?_eq_getElem
abbrev PU:=@Array.getElem?_toList
abbrev PV:=@Array.getElem_append_left
abbrev PW:=@Array.size_setIfInBounds
abbrev PX:=@Bool.not_false
abbrev PY:=@Bool.or_eq_false_iff
abbrev QC:=@List.drop_of_length_le
abbrev QD:=@List.ext_getElem
abbrev QE:=@List.find?_cons
abbrev QF:=@List.foldl_cons
abbrev QG:=@List.getElem?_drop
abbrev QH:=@List.getElem?_take_of_lt
abbrev QI:=@List.getElem_append_right
abbrev QJ:=@List.getElem_cons_zero
abbrev QK:=@List.nil_append
abbrev QM:=@Nat.eq_of_beq_eq_true
abbrev QN:=@Nat.le_succ
abbrev QO:=@Nat.succ_le_succ
abbrev QP:=@Nat.succ_mul
abbrev QR:=@Option.isSome_iff_exists
abbrev RY:=@false_or
abbrev SJ:=@of_decide_eq_false
abbrev SW:=@Array.getElem?_setIfInBounds
abbrev SX:=@Array.getElem_append_right
abbrev SY:=@Array.getElem_toList
abbrev SZ:=@Bool.not_eq_true
abbrev S_:=@Classical.choose_spec
abbrev TD:=@Int.le_refl
abbrev TE:=@Int.lt_or_le
abbrev TF:=@List.any_nil
abbrev TG:=@List.drop_succ_cons
abbrev TH:=@List.filter_congr
abbrev TI:=@List.getElem_of_mem
abbrev TJ:=@List.mem_map_of_mem
abbrev TM:=@Nat.add_sub_cancel
abbrev TN:=@Nat.ble_eq_true_of_le
abbrev TO:=@Nat.lt_of_le_of_lt
abbrev TP:=@Nat.mul_comm
abbrev TQ:=@Nat.sub_self
abbrev TR:=@Nat.testBit_lt_two_pow
abbrev VV:=@Array.eq_empty_of_size_eq_zero
abbrev VW:=@Array.getElem_map
abbrev VY:=@Bool.not_eq_true'
abbrev VZ:=@Classical.not_not
abbrev V':=@List.all_eq_false
abbrev WA:=@List.any_append
abbrev WB:=@List.cons.injEq
abbrev WC:=@List.findIdx?_eq_none_iff
abbrev WD:=@List.flatMap_map
abbrev WE:=@List.head?_cons
abbrev WG:=@List.nodup_append
abbrev WH:=@List.range_add
abbrev WI:=@List.take_left'
abbrev WL:=@Nat.add_comm
abbrev WM:=@Nat.ble_eq
abbrev WN:=@Nat.le_of_eq
abbrev WO:=@Option.getD_some
abbrev WU:=@UInt8.toNat_ofNat'
abbrev bT:=@Array.empty_append
abbrev bU:=@Array.getElem?_setIfInBounds_ne
abbrev bV:=@Array.size_append
abbrev bW:=@Array.size_map
abbrev bX:=@Bool.true_eq_false
abbrev b7:=@List.all_eq_not_any_not
abbrev b8:=@List.contains_nil
abbrev b9:=@List.drop_append_of_le_length
abbrev b_:=@List.drop_left
abbrev cA:=@List.drop_take
abbrev cB:=@List.find?_cons_of_neg
abbrev cC:=@List.find?_cons_of_pos
abbrev cD:=@List.find?_some
abbrev cE:=@List.getD_cons_succ
abbrev cF:=@List.getD_cons_zero
abbrev cG:=@List.getD_nil
abbrev cH:=@List.getElem?_range
abbrev cI:=@List.getElem_drop
abbrev cJ:=@List.getElem_take
abbrev cL:=@List.isEmpty_iff_length_eq_zero
abbrev cM:=@List.mapM_cons
abbrev cN:=@List.map_eq_nil_iff
abbrev cO:=@List.map_flatMap
abbrev cP:=@List.mem_of_find?_eq_some
abbrev cQ:=@List.pairwise_map
abbrev cR:=@List.singleton_append
abbrev cS:=@List.take_left
abbrev cT:=@Nat.le_add_right
abbrev cU:=@Nat.mul_le_mul
abbrev cV:=@Nat.pow_le_pow_right
abbrev cW:=@Nat.pow_succ
abbrev cX:=@Option.bind_eq_some_iff
abbrev cY:=@Prod.mk.injEq
abbrev cd:=@UInt8.toNat_inj
abbrev lA:=@not_true_eq_false
abbrev lJ:=@true_implies
abbrev lM:=@Array.getElem?_eq_none
abbrev lN:=@Array.getElem?_modify
abbrev lP:=@Array.getElem_extract
abbrev lQ:=@Array.mapM_eq_mapM_toList
abbrev lR:=@Array.setIfInBounds_comm
abbrev lS:=@Array.setIfInBounds_setIfInBounds
abbrev lT:=@Bool.and_eq_false_iff
abbrev lV:=@List.countP_eq_length_filter
abbrev lW:=@List.dropLast_concat_getLast
abbrev lX:=@List.dropWhile_sublist
abbrev lY:=@List.filter_eq_nil_iff
abbrev lZ:=@List.getElem?_cons_succ
abbrev la:=@List.getElem?_cons_zero
abbrev lb:=@List.getElem?_eq_none_iff
abbrev lc:=@List.getElem_cons_succ
abbrev ld:=@List.mem_iff_getElem?
abbrev lf:=@List.nodup_iff_pairwise_ne
abbrev lg:=@List.pairwise_lt_range
abbrev lh:=@List.pairwise_singleton
namespace Go.Hs
abbrev _root_.Go.bS:=List UInt8
abbrev _root_.Go.iS:=List Int
inductive AH where
 |new|old|any
 deriving DecidableEq
inductive V where
 |top
 |bool (b:Bool)
 |int (k:IntKind) (n:Int)
 |AB (s:bS)
 |ET
 |view (c:AH) (v:V)
 |ptr (o g off:Nat)
 |AG
 |slice (c:AH) (clip:Bool) (E:Nat) (l:List V)
 |A_ (o g off len E:Nat)
 |func (fn:Fn) (first captured:List V)
 |CN
 |iface (t:TypeId) (v:V)
 |GE
 |agg (cs:List V)
 |tuple (vs:List V)
 |FE
 |FM (ks vs:List V)
 |DF (o b:Nat)
 deriving Inhabited
def V.cells:V->List V
 |.agg cs=>cs|v=>[v]
def flat(l:List V):List V:=l.flatMap V.cells
structure Cx where
 β:Nat->Nat->Option (Nat×Nat)
 S:Nat->Nat->Prop
 base:Nat
 w:World
def Cx.cell(X:Cx)(b i:Nat):Option Value:=X.w.cell? ⟨b,i,ah⟩
def AH.ok(c:AH)(base b:Nat):Prop:=
 match c with|.new=>base<=b|.old=>b<base|.any=>True
inductive AI(X:Cx):Value->V->Prop
 |top (x:Value):AI X x .top
 |bool (b:Bool):AI X (.bool b) (.bool b)
 |int (k:IntKind) (n:Int):AI X (.int k n) (.int k n)
 |AB (s:ByteArray) (l:bS) (h:s.data.toList=l):AI X (.string s) (.AB l)
 |ET:AI X (.pointer ah) .ET
 |view (c:AH) (v:V) (b off:Nat) (f:Nat->Value)
   (hc:∀ i,i<aa v.cells->X.S b (off+i)/\c.ok X.base b/\X.cell b (off+i)=ae (f i)/\(f i).oneCell'=true)
   (hr:∀ i (h:i<aa v.cells),AI X (f i) (v.cells[i])):AI X (.pointer (ae ⟨b,off,ah⟩)) (.view c v)
 |ptr (o g off b bs:Nat) (h:X.β o g=ae (b,bs)):AI X (.pointer (ae ⟨b,bs+off,ah⟩)) (.ptr o g off)
 |AG:AI X (.slice ah 0 0) .AG
 |slice (c:AH) (clip:Bool) (E:Nat) (l:List V) (b off cap:Nat) (f:Nat->Value)
   (hcap:aa l<=cap) (hclip:clip=true->cap=aa l) (hE:∀ v∈l,aa v.cells=E)
   (hc:∀ i,i<aa (flat l)->X.S b (off+i)/\c.ok X.base b/\X.cell b (off+i)=ae (f i)/\(f i).oneCell'=true)
   (hr:∀ i (h:i<aa (flat l)),AI X (f i) ((flat l)[i])):AI X (.slice (ae ⟨b,off,ah⟩) (aa l) cap) (.slice c clip E l)
 |slice0 (c:AH) (clip:Bool) (E:Nat) (a:Addr):AI X (.slice (ae a) 0 0) (.slice c clip E [])
 |A_ (o g off len E b bs cap:Nat) (h:X.β o g=ae (b,bs)) (hcap:len<=cap)
   (hb:∃ c t,X.w.heap[b]?=ae (.cells c t (0,0))/\bs+off+cap*E<=c.size):AI X (.slice (ae ⟨b,bs+off,ah⟩) len cap) (.A_ o g off len E)
 |func (fn:Fn) (xs ys:Array Value) (ls ms:List V) (hx:xs.size=aa ls) (hy:ys.size=aa ms)
   (hxr:∀ i (h1:i<xs.size) (h2:i<aa ls),AI X xs[i] ls[i])
   (hyr:∀ i (h1:i<ys.size) (h2:i<aa ms),AI X ys[i] ms[i]):AI X (.func fn xs ys) (.func fn ls ms)
 |CN:AI X .nilFunc .CN
 |iface (t:TypeId) (x:Value) (v:V) (h:AI X x v):AI X (.iface t x) (.iface t v)
 |GE:AI X .nilIface .GE
 |agg (xs:Array Value) (l:List V) (hx:xs.size=aa l) (ho:∀ x∈xs,x.oneCell'=true)
   (hr:∀ i (h1:i<xs.size) (h2:i<aa l),AI X xs[i] l[i]):AI X (.agg xs) (.agg l)
 |tuple (xs:Array Value) (l:List V) (hx:xs.size=aa l)
   (hr:∀ i (h1:i<xs.size) (h2:i<aa l),AI X xs[i] l[i]):AI X (.tuple xs) (.tuple l)
 |FE:AI X (.map ah) .FE
 |DF (o b:Nat):AI X (.map (ae b)) (.DF o b)
 |FM (b n:Nat) (es:Array MapEntry) (ks vs:List V) (hs:X.S b 0) (hb:X.w.heap[b]?=ae (.map es n)) (hk:es.size=aa ks) (hv:es.size=aa vs)
   (hkr:∀ i (h1:i<es.size) (h2:i<aa ks),AI X es[i].key ks[i])
   (hvr:∀ i (h1:i<es.size) (h2:i<aa vs),AI X es[i].val vs[i]):AI X (.map (ae b)) (.FM ks vs)
structure Cx.le(X Y:Cx):Prop where
 β:∀ o g p,X.β o g=ae p->Y.β o g=ae p
 S:∀ b i,X.S b i->Y.S b i
 cell:∀ b i x,X.S b i->X.cell b i=ae x->Y.cell b i=ae x
 base:Y.base=X.base
 blk:∀ (b:Nat) (c:Array Value) t,X.w.heap[b]?=ae (Obj.cells c t (0,0))->∃ c':Array Value,Y.w.heap[b]?=ae (Obj.cells c' t (0,0))/\c'.size=c.size
 map:∀ (b:Nat) es n,X.S b 0->X.w.heap[b]?=ae (Obj.map es n)->Y.w.heap[b]?=ae (Obj.map es n)
def Cx.le.refl(X:Cx):X.le X:=⟨λ_ _ _ h=>h,λ_ _ h=>h,λ_ _ _ _ h=>h,rfl,λ_ c _ h=>⟨c,h,rfl⟩,λ_ _ _ _ h=>h⟩
def Cx.le.trans{X Y Z:Cx}(h:X.le Y)(k:Y.le Z):X.le Z where
 β:=λo g p f=>k.β o g p (h.β o g p f)
 S:=λb i a=>k.S b i (h.S b i a)
 cell:=λb i x a j=>k.cell b i x (h.S b i a) (h.cell b i x a j)
 base:=k.base.trans h.base
 blk:=λb c t d=>by obtain⟨q,l,h2⟩:=h.blk b c t d;obtain⟨m,s,r⟩:=k.blk b q t l;grind
 map:=λb e n a d=>k.map b e n (h.S _ _ a) (h.map b e n a d)
def AI.mono{X Y}(d:X.le Y){x v}(h:AI X x v):AI Y x v:=by
 induction h with
 |top x=>exact .top x|bool b=>exact .bool b|int k n=>exact .int k n|AB s l h=>exact .AB s l h|ET=>exact .ET|view c v b off f hc hr ih=>refine .view c v b _ f (λi p=>?_) ih;obtain⟨j,h2,u,r⟩:=hc i p;exact⟨d.S _ _ j,by rw[d.base];exact h2,d.cell _ _ _ j u,r⟩
 |ptr o g off b bs h=>exact .ptr o g _ b bs (d.β _ _ _ h)|AG=>exact .AG|slice c clip E l b off cap f hcap hclip hE hc hr ih=>refine .slice c _ E l b _ _ f hcap hclip hE (λi p=>?_) ih;obtain⟨j,h2,u,r⟩:=hc i p;exact⟨d.S _ _ j,by rw[d.base];exact h2,d.cell _ _ _ j u,r⟩
 |slice0 c clip E a=>exact .slice0 c _ E a|A_ o g off len E b bs cap h hcap e=>obtain⟨c,t,e,m⟩:=e;obtain⟨y,q,w⟩:=d.blk _ _ _ e;exact .A_ o g _ _ E b bs _ (d.β _ _ _ h) hcap ⟨y,t,q,by omega⟩
 |func fn xs ys ls ms hx hy hxr hyr ihx ihy=>exact .func fn xs ys ls ms hx hy ihx ihy|CN=>exact .CN|iface t x v h ih=>exact .iface t x v ih|GE=>exact .GE|agg xs l hx ho hr ih=>exact .agg xs l hx ho ih|tuple xs l hx hr ih=>exact .tuple xs l hx ih|FE=>exact .FE|DF o b=>exact .DF o b|FM b n es ks vs m e hk hv hkr hvr ihk ihv=>exact .FM b n es ks vs (d.S _ _ m) (d.map _ _ _ m e) hk hv ihk ihv
def zo{Q:Prop}(h:Q:=by omega):Q:=h
def zd{Q:Prop}(h:Q:=by decide):Q:=h
def zS{Q:Prop}(h:Q:=by simp):Q:=h
def zO{Q:Prop}(h:Q:=by simp; omega):Q:=h
def zk{Q:Prop}(h:Q:=by kernel_rfl):Q:=h
def zu{P Q:Prop}(f:P)(h:P->Q:=by intro z;simpa using z):Q:=h f
def zG{p:Prop}(h:p:=by grind):p:=h
def BE{α:Sort _}{β:α->Sort _}{f:∀ x,β x}:∀ x,f x=f x:=λ_=>rfl
def ID{α β:Sort _}{a:α}{b:β}:a=a/\b=b:=⟨rfl,rfl⟩
