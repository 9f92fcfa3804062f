/- A part. No condition. -/
import Derived.Test.YtoahejkahaimnaaGreatDoorP47
import Derived.Shelf.Sort.Plain
import Derived.Shelf.Slices.In.SortNone
set_option linter.all false
section
namespace Go.Hs
open Go.Proofs
set_option maxRecDepth 10000
set_option maxHeartbeats 2000000
def Zei(q:List Int):List V:=q.map (V.int .i64)
def Zmj(q:List Int):List V:=q.map λ_=>V.agg []
theorem Zqv(k:Int):∀ q:List Int,Zqg (.int .i64) (.int .i64 k) (Zei q) (Zmj q)=some (if q.contains k=true then some (.agg [])else none)
 |[]=>rfl
 |a::q=>by
  show Zqg (.int .i64) (.int .i64 k) (.int .i64 a::Zei q) (.agg []::Zmj q)=_
  rw[Zqg,if_pos rfl]
  by_cases e:k=a
  subst e;rw[if_pos rfl,if_pos zS];rw[if_neg e,Zqv k q,List.contains_cons,beq_false_of_ne e,Bool.false_or]
theorem Zmga{k:Int}:∀ {q:List Int},q.contains k=false->Z3c (.int .i64) (.int .i64 k) (Zei q)=some none
 |[],_=>rfl
 |a::q,h=>by
  rw[List.contains_cons,Bool.or_eq_false_iff]at h
  show Z3c (.int .i64) (.int .i64 k) (.int .i64 a::Zei q)=_
  rw[Z3c,if_pos rfl,if_neg (λe=>by rw[e]at h;simp at h),Zmga h.2];rfl
theorem Znla{k:Int}{q:List Int}(h:q.contains k=false):putV (.int .i64) (.int .i64 k) (.agg []) (Zei q) (Zmj q)=some (Zei (q++[k]),Zmj (q++[k])):=by
 unfold putV;rw[Zmga h];simp only[Zei,Zmj,List.map_append,List.map_cons,List.map_nil]
@[go_sem] theorem build0:Zff Tryz.prog 139 []=some (.agg []):=by kernel_rfl
@[go_sem] theorem set_seen{lo0 o b:Nat}{H:Heap}{k x:V}{K:V->Heap->Prop}:Z6e Tryz.prog lo0 H 138 (.mref o b) k x K=Zvs lo0 b (.int .i64) (H o) k x λlo p=>K (.tuple []) (upd H o (.mp lo b p.1 p.2)):=Zah Tryz.underlying138 Tryz.underlying3
theorem Z6fa(q:List Int)(k:Int):Zam Tryz.prog 138 (.mapv (Zei q) (Zmj q)) (.int .i64 k) true=some (.tuple [.agg [],.bool (q.contains k)]):=by
 unfold Zam;rw[Tryz.underlying138];simp only[Zdma,Tryz.underlying3,Zqv]
 cases q.contains k<;>rfl
theorem Znk{E:Ent}{τ : Nat->V}{H B:Heap}{l:List (Nat×V)}{m:List (Nat×AObj)}(h:Ztg τ l)(hm:Ztg H m)(hB:∀ o,(∀ p∈m,p.1≠o)->B o=.dead\/B o=H o):Weak E ⟨τ,H⟩ ⟨Zfa emp l,Zfa B m⟩:=by
 refine Zqd (λ_=>false) (λt=>?_) (λo=>?_)
 rcases Zob (τ := emp) (f := τ) t l (Z1b h)with h1|h1
 exact .inl h1;refine .inr ?_
 show Fz _ H (τ t) (Zfa emp l t)
 rw[h1];exact Fz.same _
 show FzO _ H o (Zfa B m o)
 by_cases hm2:∃ p∈m,p.1=o
 have:∀ (m:List (Nat×AObj)),(∀ p∈m,H p.1=p.2)->(∃ p∈m,p.1=o)->Zfa B m o=H o:=by
  intro m
  induction m with
  |nil=>rintro _ ⟨p,hp,_⟩;cases hp
  |cons p m ih=>
   intro hh he;rw[Zbb]
   by_cases e:o=p.1
   subst e;rw[Z3,hh p (List.mem_cons_self ..)];rw[Zi _ _ e];obtain⟨p',hp',e'⟩:=he
   rcases List.mem_cons.1 hp' with rfl|hp'
   exact absurd e'.symm e;exact ih (λp hp=>hh p (List.mem_cons_of_mem _ hp)) ⟨p',hp',e'⟩
 rw[this m (Z1b hm) hm2];exact FzO.same rfl;have hno:∀ p∈m,p.1≠o:=λp hp e=>hm2 ⟨p,hp,e⟩
 have:Zfa B m o=B o:=by
  clear hB h hm hm2
  induction m with
  |nil=>rfl
  |cons p m ih=>
   rw[Zbb,Zi _ _ (Ne.symm (hno p (List.mem_cons_self ..)))];exact ih λp hp=>hno p (List.mem_cons_of_mem _ hp)
 rw[this]
 rcases hB o hno with q|q
 rw[q];trivial;rw[q];exact FzO.same rfl
def Zf7(lost:Bool)(q es:List Int):List Int:=if lost=true then q else Zjl q es
def Tl(cs:List Int)(off:Nat)(rest:List Int):Prop:=off+rest.length<=cs.length/\(cs.drop off).take rest.length=rest
theorem Tl.zero(l:List Int):Tl l 0 l:=⟨zo,by rw[List.drop_zero,List.take_length]⟩
theorem Tl.next{cs:List Int}{off:Nat}{v:Int}{r:List Int}(h:Tl cs off (v::r)):Tl cs (off+1) r:=by
 obtain⟨h1,h2⟩:=h;rw[List.length_cons]at h1 h2;refine⟨zo,?_⟩;rw[List.drop_eq_getElem_cons zo,List.take_succ_cons]at h2;exact(List.cons.inj h2).2
theorem Tl.nil{cs:List Int}{off:Nat}{r:List Int}(h:Tl cs off r):Tl cs off []:=⟨by have:=h.1;simp;omega,rfl⟩
theorem Tl.at{cs:List Int}{off:Nat}{v:Int}{r:List Int}(h:Tl cs off (v::r)):cs[off]?=some v:=by
 obtain⟨h1,h2⟩:=h;rw[List.length_cons]at h1 h2;rw[List.drop_eq_getElem_cons zo,List.take_succ_cons]at h2;rw[List.getElem?_eq_getElem zo,(List.cons.inj h2).1]
structure AQ where
 new:List Int
 cs:List Int
 off:Nat
 go:Nat
theorem Zzna(b:Bool)(q:List Int):Zf7 b q []=q:=by unfold Zf7;split<;>rfl
theorem Z0na(b:Bool)(q es:List Int):(Zf7 b q es).length<=q.length+es.length:=by
 unfold Zf7
 split
 omega
 .induction es generalizing q with
  |nil=>exact Nat.le_refl _
  |cons e es ih=>
   rw[Zvh];have:=ih (if q.contains e=true then q else q++[e])
   split at this
   rename_i h;rw[if_pos h,List.length_cons];omega;rename_i h;rw[if_neg h];simp at this⊢;omega
theorem Zqia(b:Bool)(q es:List Int)(e:Int):Zf7 b q (es++[e])=if b=true then q else if(Zf7 b q es).contains e=true then Zf7 b q es else Zf7 b q es++[e]:=by
 unfold Zf7;cases b;simp only[Bool.false_eq_true,if_false];rw[Zyna,Zvh,Ze7];rfl
theorem Zpia(G:Nat->V)(hG:GOk G)(N:Nat)(p:StP×V)(q cs rest:List Int)(off g6 g7 go b:Nat)(H:Heap)(hq:q.length<100000)(hT:Tl cs off rest)(hr:rest.length<100000)(he:p.1.ends.length<100000)(h6:H 6=.cells .new g6 0 [.mref 19 b])(h7:H 7=.cells .new g7 0 [.msl 20 go off rest.length 1])
  (h19:H 19=.mp N b (Zei q) (Zmj q)) (h20:H 20=.cells .new go 0 (cs.map (V.int .i64))) (hd:∀ o,100<=o->o<200->H o=.dead):
  InlF Tryz.prog G N 62 [Zbf .new p,.ptr 6 g6 0,.ptr 7 g7 0] H (λv H'=>v=.tuple []/\∃ w:AQ,q++w.new=Zf7 p.1.lost q (p.1.ends.map (·.1))/\Tl w.cs w.off (rest++w.new)/\H'=Zfa H [(7,.cells .new g7 0 [.msl 20 w.go w.off (rest.length+w.new.length) 1]),(19,.mp N b (Zei (q++w.new)) (Zmj (q++w.new))),(20,.cells .new w.go 0 (w.cs.map (V.int .i64)))]):=by
 refine ZoI 100 39 [] Tryz.func62 λX=>?_;refine Zf Zxf ?_;intro g3;have eEs:Z0b .new p.1.ends=Za .new 2 (Zpf .new) (Zb p.1.ends):=rfl;refine Zf (zi Zxf eEs) ?_
 refine Zaa p.1.ends.length (λk (w:AQ)=>⟨Zfa emp [(1,.ptr 6 g6 0),(2,.ptr 7 g7 0),(3,.ptr 103 g3 0),(9,Za .new 2 (Zpf .new) (Zb p.1.ends)),(10,.int .i64 p.1.ends.length),(11,.int .i64 k)],Zfa H [(7,.cells .new g7 0 [.msl 20 w.go w.off (rest.length+w.new.length) 1]),(19,.mp N b (Zei (q++w.new)) (Zmj (q++w.new))),(20,.cells .new w.go 0 (w.cs.map (V.int .i64))),(103,.cells .new g3 0 [Za .new 1 (V.int .i64) (Zb p.1.sources),.int .i64 p.1.first,Za .new 1 (V.int .i64) (Zb p.1.guards),Za .new 1 (V.int .i64) (Zb p.1.effects),Za .new 2 (Zpf .new) (Zb p.1.ends),p.2])]⟩)
  (λk w=>q++w.new=Zf7 p.1.lost q ((p.1.ends.take k).map (·.1))/\Tl w.cs w.off (rest++w.new)) 0 ⟨[],cs,off,go⟩ (Nat.zero_le _) ⟨by rw[List.take_zero,List.map_nil,Zzna,List.append_nil],by rw[List.append_nil];exact hT⟩ (Znk zp ?_ λo ho=>?_) ?_
 simp -implicitDefEqProofs only[go_sem,seval,h6,h7,h19,h20,List.append_nil,List.length_nil,Nat.add_zero];have n3:o≠103:=λe=>ho (103,.cells .new g3 0 [Za .new 1 (V.int .i64) (Zb p.1.sources),.int .i64 p.1.first,Za .new 1 (V.int .i64) (Zb p.1.guards),Za .new 1 (V.int .i64) (Zb p.1.effects),Za .new 2 (Zpf .new) (Zb p.1.ends),p.2]) zS e.symm;exact .inr (Zi _ _ n3).symm;rintro k ⟨new,pr,of,gr⟩ hk ⟨hR,hpr⟩ L hL;simp only at hR hpr
 by_cases hk1:k<p.1.ends.length
 have hlt:decide ((k:Int)<(p.1.ends.length:Int))=true:=zT;have hg:=List.getElem?_eq_getElem hk1;generalize p.1.ends[k]=en at hg;have fs:=zi Z8c (zi h6 (zi (Z6fa (q++new) en.1) (zi @Int.natCast_nonneg @Int.ofNat_lt)));refine Zf (zi hlt (zi hg (zi hk1 fs))) ?_;intro g5;refine Zf fs ?_;intro g66
 have htk:(p.1.ends.take (k+1)).map (·.1)=(p.1.ends.take k).map (·.1)++[en.1]:=by
  rw[List.take_add_one,hg,List.map_append];rfl
 have hsn:=Zqia p.1.lost q ((p.1.ends.take k).map (·.1)) en.1;rw[<- htk,<- hR]at hsn;have hnl:=Z0na p.1.lost q ((p.1.ends.take k).map (·.1));rw[<- hR,List.length_append,List.length_map,List.length_take]at hnl;have hnw:new.length<200000:=zo;have w1:IntKind.i64.wrap ((k:Int)+1)=(k:Int)+1:=w64 zo zo
 have hbase:∀ (X:Heap),(∀ o,o≠7->o≠19->o≠20->o≠103->o≠105->o≠106->o≠136->X o=H o)->∀ {a b c d:AObj} o,(∀ p∈[(7,a),(19,b),(20,c),(103,d)],p.1≠o)->H o=.dead\/H o=X o:=λX hX a b c d o ho=>by
  have n1:=ho (7,a) zS;have n2:=ho (19,b) zS;have n3:=ho (20,c) zS;have n4:=ho (103,d) zS
  by_cases z1:100<=o/\o<200
  exact .inl (hd o z1.1 z1.2);exact .inr (hX o (Ne.symm n1) (Ne.symm n2) (Ne.symm n3) (Ne.symm n4) zo zo zo).symm
 cases hc:(q++new).contains en.1;refine Zf (zi hc fs) ?_;refine Z8d [Zbf .new (p.1,.top)] ⟨Z44 ⟨Fz.same _,Fz.same _,Fz.same _,Fz.same _,Fz.same _,Fz.top _,trivial⟩,trivial⟩ ?_;refine Zc hG ?_ (ha:=by simp only[Zxf,List.map_cons,List.map_nil,Z4a,Zwa,Z7a,Zds];rfl) (s:=Zo9 G hG .old (p.1,.top) (by show p.1.ends.length<_;omega));rw[hc]at hsn;cases hlo:p.1.lost;rw[hlo]at hsn;refine Zf (zi hlo (zi (Znla hc) (zi @Zyn (zi @Nat.le_refl fs)))) ?_;intro g36;have hp1:=hpr.1;rw[List.length_append]at hp1;refine⟨Z9 zo zo,by rw[List.length_map];omega,Nat.zero_le _,λg2=>?_⟩
 have e1:((pr.map (V.int .i64)).drop of).take ((rest.length+new.length)*1)=(rest++new).map (V.int .i64):=by
  rw[Nat.mul_one,<- List.length_append,<- List.map_drop,<- List.map_take,hpr.2]
 rw[e1,Nat.zero_sub];refine Zf w1 ?_;refine hL _ ⟨hk1,⟨new++[en.1],rest++new++[en.1],0,g2⟩,⟨?_,(List.append_assoc rest new [en.1]) ▸ Tl.zero _⟩,Znk zp ?_ (hbase _ λo n1 n2 n3 n4 n5 n6 n7=>?_)⟩
 show q++(new++[en.1])=_
 rw[hlo,hsn,List.append_assoc];rfl;simp -implicitDefEqProofs only[go_sem,seval,List.length_append,List.append_assoc,List.map_append,List.length_nil,List.nil_append];exact rfl
 (repeat rw[Zi _ _ (by assumption)])
 refine Zf (zi hlo w1) ?_;rw[hlo]at hR;refine hL _ ⟨hk1,⟨new,pr,of,gr⟩,⟨?_,hpr⟩,Znk zp zp (hbase _ λo n1 n2 n3 n4 n5 n6 n7=>?_)⟩
 show q++new=_
 rw[hsn,hlo];exact hR
 (repeat rw[Zi _ _ (by assumption)])
 refine Zf (zi hc w1) ?_;rw[hc]at hsn;refine hL _ ⟨hk1,⟨new,pr,of,gr⟩,⟨?_,hpr⟩,Znk zp zp (hbase _ λo n1 n2 n3 n4 n5 n6 n7=>?_)⟩
 show q++new=_
 rw[hsn];cases hlo:p.1.lost;rfl;rw[hlo]at hR;exact hR
 (repeat rw[Zi _ _ (by assumption)])
 have hke:k=p.1.ends.length:=zo;have hlt:decide ((p.1.ends.length:Int)<(p.1.ends.length:Int))=false:=zF;rw[hke,List.take_length]at hR;rw[hke];refine AW.weak (Znk (B:=H) (l:=[(10,.int .i64 p.1.ends.length),(11,.int .i64 p.1.ends.length)]) (m:=[(7,.cells .new g7 0 [.msl 20 gr of (rest.length+new.length) 1]),(19,.mp N b (Zei (q++new)) (Zmj (q++new))),(20,.cells .new gr 0 (pr.map (V.int .i64)))]) zp zp λo ho=>?_) ?_
 by_cases z:o=103
 subst z;exact .inl (hd 103 zd zd);have n1:=ho (7,_) (List.mem_cons_self ..);have n2:=ho (19,_) (List.mem_cons_of_mem _ (List.mem_cons_self ..));have n3:=ho (20,_) (List.mem_cons_of_mem _ (List.mem_cons_of_mem _ (List.mem_cons_self ..)))
 right
 simp only[Zbb,Z5r,upd,if_neg z,if_neg (Ne.symm n1),if_neg (Ne.symm n2),if_neg (Ne.symm n3)];refine Zf hlt ?_;exact⟨_,rfl,rfl,⟨new,pr,of,gr⟩,hR,hpr,rfl⟩
end Go.Hs
end

section
namespace Go.Proofs
open Go.Shelf
def Zhp:Go.Shelf.Ren:=⟨fun|189=>64|125=>124|257=>123|128=>195|129=>196|294=>186|295=>187|296=>188|297=>189|298=>190|299=>191|216=>192|300=>193|301=>194|328=>220|329=>221|330=>222|331=>223|332=>224|215=>225|343=>250|n=>n,fun|28=>45|3=>3|46=>172|0=>0|51=>219|53=>221|4=>4|183=>212|182=>211|131=>216|5=>5|9=>9|218=>251|222=>255|228=>283|229=>284|n=>n,fun|n=>n⟩
theorem Zip:Go.Proofs.Lays.n189 Tryz.prog Zhp:={
 mixed:=by kernel_rfl
 f125:=Tryz.func124.trans (congrArg some (by kernel_rfl))
 f128:=Tryz.func195.trans (congrArg some (by kernel_rfl))
 f129:=Tryz.func196.trans (congrArg some (by kernel_rfl))
 f189:=Tryz.func64.trans (congrArg some (by kernel_rfl))
 f215:=Tryz.func225.trans (congrArg some (by kernel_rfl))
 f216:=Tryz.func192.trans (congrArg some (by kernel_rfl))
 f257:=Tryz.func123.trans (congrArg some (by kernel_rfl))
 f294:=Tryz.func186.trans (congrArg some (by kernel_rfl))
 f295:=Tryz.func187.trans (congrArg some (by kernel_rfl))
 f296:=Tryz.func188.trans (congrArg some (by kernel_rfl))
 f297:=Tryz.func189.trans (congrArg some (by kernel_rfl))
 f298:=Tryz.func190.trans (congrArg some (by kernel_rfl))
 f299:=Tryz.func191.trans (congrArg some (by kernel_rfl))
 f300:=Tryz.func193.trans (congrArg some (by kernel_rfl))
 f301:=Tryz.func194.trans (congrArg some (by kernel_rfl))
 f328:=Tryz.func220.trans (congrArg some (by kernel_rfl))
 f329:=Tryz.func221.trans (congrArg some (by kernel_rfl))
 f330:=Tryz.func222.trans (congrArg some (by kernel_rfl))
 f331:=Tryz.func223.trans (congrArg some (by kernel_rfl))
 f332:=Tryz.func224.trans (congrArg some (by kernel_rfl))
 f343:=Tryz.func250.trans (congrArg some (by kernel_rfl))
 t0:=Tryz.underlying0
 a0:=Tryz.isAgg0
 z0:=Tryz.sizeOf0
 v0:=Tryz.zeroValue0
 t3:=Tryz.underlying3
 a3:=Tryz.isAgg3
 z3:=Tryz.sizeOf3
 v3:=Tryz.zeroValue3
 t4:=Tryz.underlying4
 a4:=Tryz.isAgg4
 z4:=Tryz.sizeOf4
 v4:=Tryz.zeroValue4
 t5:=Tryz.underlying5
 a5:=Tryz.isAgg5
 z5:=Tryz.sizeOf5
 v5:=Tryz.zeroValue5
 t9:=Tryz.underlying9
 a9:=Tryz.isAgg9
 z9:=Tryz.sizeOf9
 v9:=Tryz.zeroValue9
 t28:=Tryz.underlying45
 a28:=Tryz.isAgg45
 z28:=Tryz.sizeOf45
 v28:=Tryz.zeroValue45
 t46:=Tryz.underlying172
 a46:=Tryz.isAgg172
 z46:=Tryz.sizeOf172
 v46:=Tryz.zeroValue172
 t51:=Tryz.underlying219
 a51:=Tryz.isAgg219
 z51:=Tryz.sizeOf219
 v51:=Tryz.zeroValue219
 t53:=Tryz.underlying221
 a53:=Tryz.isAgg221
 z53:=Tryz.sizeOf221
 v53:=Tryz.zeroValue221
 t131:=Tryz.underlying216
 a131:=Tryz.isAgg216
 z131:=Tryz.sizeOf216
 v131:=Tryz.zeroValue216
 t182:=Tryz.underlying211
 a182:=Tryz.isAgg211
 z182:=Tryz.sizeOf211
 v182:=Tryz.zeroValue211
 t183:=Tryz.underlying212
 a183:=Tryz.isAgg212
 z183:=Tryz.sizeOf212
 v183:=Tryz.zeroValue212
 t218:=Tryz.underlying251
 a218:=Tryz.isAgg251
 z218:=Tryz.sizeOf251
 v218:=Tryz.zeroValue251
 t222:=Tryz.underlying255
 a222:=Tryz.isAgg255
 z222:=Tryz.sizeOf255
 v222:=Tryz.zeroValue255
 t228:=Tryz.underlying283
 a228:=Tryz.isAgg283
 z228:=Tryz.sizeOf283
 v228:=Tryz.zeroValue283
 t229:=Tryz.underlying284
 a229:=Tryz.isAgg284
 z229:=Tryz.sizeOf284
 v229:=Tryz.zeroValue284 }
end Go.Proofs
end

section
namespace Go.Hs
open Go.Sort
section
variable{X:Cx}{H:Heap}
theorem Zqz(hI:Inv X H){o g:Nat}{l l':List Int}(ho:H o=.cells .new g 0 (l.map (V.int .i64)))(hl:l'.length=l.length){b bs:Nat}(hβ : X.β o g=some (b,bs))(n:Nat)(os:Array Obj):
  ∃ Y:Cx,Y.w=grow (putRow (Value.int .i64) (Sort.ahead X.w n) b bs l'.toArray) os/\Goes X H Y (upd H o (.cells .new g 0 (l'.map (V.int .i64)))):=by
 have g1:=Goes.drew hI (X.w.drawn+n);obtain⟨b',bs',h1,h2,c1,t,h3,h4,h5⟩:=hI.obj o .new g 0 _ ho;rw[hβ]at h1;cases h1;rw[List.length_map]at h4
 let X1:Cx:={ X with w:=Sort.ahead X.w n }
 let c2:Array Value:=putCells (Value.int .i64) bs l'.toArray c1
 have hsz:c2.size=c1.size:=by simp[c2,putCells]
 have g2:=Zml (X:=X1) g1.inv ho hβ (c1:=c1) (t:=t) h3 c2 hsz (λi hi=>by
  simp only[c2,putCells,Array.getElem?_mapIdx];have:¬ (bs<=i/\i<bs+l'.toArray.size):=zo
  cases hc:c1[i]? with
  |none=>rfl
  |some x=>simp[show ¬ bs<=i by omega]) .new (.inl rfl) g bs 0 (l'.map (V.int .i64)) (.inl ⟨rfl,rfl⟩) (Nat.le_refl _) (by rw[List.length_map,hsz,hl];exact h4) (by
  rw[List.length_map]
  have e:(c2.toList.drop bs).take l'.length=l'.map (Value.int .i64):=by
   apply List.ext_getElem?;intro j
   by_cases hj:j<l'.length
   rw[List.getElem?_take_of_lt hj,List.getElem?_drop,Array.getElem?_toList];have hlt:bs+j<c1.size:=zo;simp[c2,putCells,hj,hlt];rw[List.getElem?_take_eq_none zo,List.getElem?_eq_none zO]
  rw[e];refine⟨zS,λx hx=>?_,λi q1 q2=>?_⟩;obtain⟨z,_,rfl⟩:=List.mem_map.1 hx;rfl;simp only[List.getElem_map]
  exact .int _ _)
 have g12:=g1.trans g2
 have e2:(X1.add o g b bs (X1.w.setRow b c2)).w=putRow (Value.int .i64) (Sort.ahead X.w n) b bs l'.toArray:=by
  show X1.w.setRow b c2=_
  unfold putRow mapBlock World.setRow
  congr 1
  apply Array.ext_getElem?;intro i;simp only[Array.getElem?_modify]
  split
  rename_i h;subst h;rw[show(Sort.ahead X.w n).heap[b]?=some (Obj.cells c1 t (0,0))from h3];rfl;rfl
 have g3:=Goes.below (X:=X1.add o g b bs (X1.w.setRow b c2)) g2.inv (w':=grow (X1.add o g b bs (X1.w.setRow b c2)).w os) (by
  refine⟨rfl,rfl,rfl,by simp[grow],λk hk=>?_⟩
  show((X1.add o g b bs (X1.w.setRow b c2)).w.heap++os)[k]?=_
  rw[Array.getElem?_append_left hk])
 exact⟨_,by rw[<- e2],g12.trans g3⟩
end
end Go.Hs
end

section
namespace Go.Hs
open Go.Proofs Go.Sort
set_option maxRecDepth 10000
theorem Zbea{G:Nat->V}{o g:Nat}{l:List Int}{H:Heap}{K:V->Heap->Prop}(hl:l.length<1000000)(ho:H o=Zca g (V.int .i64) l)(h:K (.tuple []) (upd H o (Zca g (V.int .i64) (srt l)))):
  CallA Tryz.prog G 64 [grown o g 1 l] H K:=by
 refine⟨by kernel_rfl,λX cargs hI _ hA=>?_⟩;obtain⟨x,rfl,hx⟩:=hA.one
 cases l with
 |nil=>
  cases hx;refine(show Calls Tryz.prog 64 _ _ _ from Any.slices_Sort_int_none Zip none 0 X.w).mono ?_;rintro e w' ⟨rfl,rfl⟩
  have e0:upd H o (Zca g (V.int .i64) (srt []))=H:=by
   rw[show srt []=[]from by simp[srt]];exact Zea H _ _ ho
  rw[e0]at h;exact⟨_,.tuple [],H,X,rfl,rfl,Goes.refl hI,.tuple #[] [] rfl (λi h1 h2=>by simp at h2),h⟩
 |cons a r=>
  have hg0:Zca g (V.int .i64) (a::r)=.cells .new g 0 ((a::r).map (V.int .i64)):=by
   show AObj.cells .new g 0 (flat ((a::r).map (V.int .i64)))=_
   congr 1
   exact Zoo _
  rw[hg0]at ho;generalize hL:a::r=L at *
  have hne:L≠[]:=by rw[<- hL];simp
  rw[Z2a _ _ _ hne]at hx
  cases hx with
  |msl _ _ _ _ _ b bs cap hβ hcap hb=>
  obtain⟨b',bs',h1,h2,c1,t,h3,h4,h5⟩:=hI.obj o .new g 0 _ ho;rw[hβ]at h1;cases h1;rw[List.length_map]at h4 h5
  have hH:Holds (Value.int .i64) X.w b bs L.toArray:=by
   intro j hj;have hj:j<L.length:=zu hj;have hlen:=h5.len;have h6:=h5.rel j (by rw[hlen,List.length_map];exact hj) (by rw[List.length_map];exact hj);rw[List.getElem_map]at h6;refine⟨?_,by simp[World.frozen?,h3]⟩;have h7:=h6.int_inv
   have h8:((c1.toList.drop bs).take L.length)[j]?=some (.int .i64 L[j]):=by
    rw[List.getElem?_eq_getElem (by rw[hlen,List.length_map];exact hj),h7]
   rw[List.getElem?_take_of_lt hj,List.getElem?_drop,Array.getElem?_toList]at h8;simp[World.cell?,h3,h8,hj]
  have hblk:b<X.w.heap.size:=(Array.getElem?_eq_some_iff.1 h3).1;refine(show Calls Tryz.prog 64 _ _ _ from Any.slices_Sort_int Zip b bs cap L X.w hH hblk zo).mono ?_;rintro e w' ⟨rfl,n,os,rfl⟩;obtain⟨Y,hw,hg⟩:=Zqz hI ho (Zoz L) hβ n os
  have hs:Zca g (V.int .i64) (srt L)=.cells .new g 0 ((srt L).map (V.int .i64)):=by
   rw[Zfb _ _ (by intro e;have:=Zoz L;rw[e]at this;exact hne (List.length_eq_zero_iff.1 this.symm))]
   congr 1
   exact Zoo _
  rw[hs]at h;exact⟨_,.tuple [],_,Y,rfl,hw,hg,.tuple #[] [] rfl (λi h1 h2=>by simp at h2),h⟩
end Go.Hs
end

section
namespace Go.Hs
section
def st0:StP:=⟨[],0,[],[],[]⟩
def frL(L:List StP)(v:Int)(k:Nat):List Nat:=(List.range k).filter λi=>(L.getD i st0).sources.contains v
theorem Z3ma(L:List StP)(v:Int)(k:Nat):frL L v (k+1)=frL L v k++(if(L.getD k st0).sources.contains v=true then[k]else[]):=by
 unfold frL;rw[List.range_succ,List.filter_append]
 congr 1
 split
 rename_i h;exact List.filter_cons_of_pos (p:=λi=>(L.getD i st0).sources.contains v) h;rename_i h;exact List.filter_cons_of_neg (p:=λi=>(L.getD i st0).sources.contains v) h
theorem frL_lt{L:List StP}{v:Int}{k i:Nat}(h:i∈frL L v k):i<k:=List.mem_range.1 (List.mem_filter.1 h).1
theorem Zk6{σ : Type}(L:List StP)(v:Int)(F : σ -> StP -> σ):∀ (k:Nat) (q : σ),k<=L.length->(frL L v k).foldl (λq i=>F q (L.getD i st0)) q=((L.take k).filter λs=>s.sources.contains v).foldl F q
 |0,q,_=>rfl
 |k+1,q,h=>by
  have hg:=List.getElem?_eq_getElem (show k<L.length by omega)
  have hd:L.getD k st0=L[k]'(by omega):=by rw[List.getD_eq_getElem?_getD,hg];rfl
  rw[Z3ma,List.foldl_append,Zk6 L v F k q (by omega),List.take_add_one,hg,List.filter_append,List.foldl_append,hd]
  show _=(List.filter _ [L[k]'(by omega)]).foldl F _
  by_cases q1:(L[k]'(by omega)).sources.contains v=true
  rw[if_pos q1,List.filter_cons_of_pos (p:=λs:StP=>s.sources.contains v) q1];show F _ (L.getD k st0)=_;rw[hd];rfl
  rw[if_neg q1,List.filter_cons_of_neg (p:=λs:StP=>s.sources.contains v) q1];rfl
namespace PM
variable{m:PM}
def stepQ(m:PM)(L:List StP)(v:Int)(q:List Int)(l:List Nat):List Int:=if m.kd v=4 then l.foldl (λq i=>Zjl q (L.getD i st0).at_) q else q
theorem stepQ_all(L:List StP)(v:Int)(q:List Int):m.stepQ L v q (frL L v L.length)=m.nextQ L q v:=by
 unfold stepQ nextQ
 split
 rw[Zk6 L v (λq s=>Zjl q s.at_) L.length q (Nat.le_refl _),List.take_length];rfl
theorem Zno(L:List StP):∀ (l:List Nat) (q:List Int),∃ t,l.foldl (λq i=>Zjl q (L.getD i st0).at_) q=q++t
 |[],q=>⟨[],(List.append_nil q).symm⟩
 |i::l,q=>by
  obtain⟨t,ht⟩:=Zpt (L.getD i st0).at_ q;obtain⟨u,hu⟩:=Zno L l (Zjl q (L.getD i st0).at_);rw[List.foldl_cons,hu,ht];exact⟨t++u,by rw[List.append_assoc]⟩
theorem stepQ_pre(L:List StP)(v:Int)(q:List Int)(l:List Nat):∃ t,m.stepQ L v q l=q++t:=by
 unfold stepQ
 split
 exact Zno L l q;exact⟨[],(List.append_nil q).symm⟩
theorem stepQ_snoc(L:List StP)(v:Int)(q:List Int)(l:List Nat)(i:Nat):m.stepQ L v q (l++[i])=if m.kd v=4 then Zjl (m.stepQ L v q l) (L.getD i st0).at_ else m.stepQ L v q l:=by
 unfold stepQ
 split
 rw[List.foldl_append];rfl;rfl
theorem stepQ_len(L:List StP)(v:Int)(q:List Int)(l:List Nat){j:Nat}:(m.stepQ L v q (l.take j)).length<=(m.stepQ L v q l).length:=by
 unfold stepQ
 split
 obtain⟨t,ht⟩:=Zno L (l.drop j) ((l.take j).foldl (λq i=>Zjl q (L.getD i st0).at_) q);rw[<- List.foldl_append,List.take_append_drop]at ht;rw[ht,List.length_append];omega;exact Nat.le_refl _
end PM
end
end Go.Hs
end

section
namespace Go.Hs
open Go.Proofs
set_option maxRecDepth 10000
set_option maxHeartbeats 4000000
def lv(L:List StP)(rv:Nat->V):List (StP×V):=(List.range L.length).map λj=>(L.getD j st0,rv j)
def lvC(L:List StP)(rv:Nat->V):List V:=flat ((lv L rv).map (Zbf .new))
theorem Z4u(L:List StP)(rv:Nat->V):(lv L rv).length=L.length:=by rw[lv,List.length_map,List.length_range]
theorem Zen(c:Col)(q:StP×V):(Zbf c q).cells.length=6:=rfl
theorem Zch(L:List StP)(rv:Nat->V):(lvC L rv).length=L.length*6:=by rw[lvC,Zjb (Zen _),Z4u]
theorem Zema{L:List StP}{rv:Nat->V}{i:Nat}(h:i<L.length):(lv L rv)[i]?=some (L.getD i st0,rv i):=by
 rw[lv,List.getElem?_map,List.getElem?_range h];rfl
theorem Z3fa{L:List StP}{rv:Nat->V}{i:Nat}(h:i<L.length):((lvC L rv).drop (i*6)).take 6=(Zbf .new (L.getD i st0,rv i)).cells:=by
 have:=Zov (f:=Zbf .new) (Zen _) (lv L rv) (off:=i) (n:=1) (by rw[Z4u];omega);rw[lvC];rw[Nat.one_mul]at this;rw[this,List.take_one,List.head?_drop,Zema h]
 show flat [Zbf .new _]=_
 simp[flat]
theorem Zloa{L:List StP}{rv:Nat->V}{i:Nat}(h:i<L.length):(lvC L rv)[i*6+5]?=some (rv i):=Z7s (Zen _) (j:=5) zd (Zema h) rfl
theorem lvC_set{L:List StP}{rv:Nat->V}{i:Nat}(h:i<L.length)(u:V):(lvC L rv).set (i*6+5) u=lvC L (upd rv i u):=by
 rw[lvC,Z5s (Zen _) zd (y:=(L.getD i st0,u)) (Zema h) rfl,lvC]
 congr 2
 apply List.ext_getElem;simp[lv];intro j h1 h2;rw[List.getElem_set];simp only[lv,List.getElem_map,List.getElem_range,upd]
 by_cases e:i=j
 subst e;simp;rw[if_neg e,if_neg (Ne.symm e)]
theorem Z4fa{L:List StP}{rv rv':Nat->V}(h:∀ j,j<L.length->rv j=rv' j):lvC L rv=lvC L rv':=by
 unfold lvC lv;rw[List.map_congr_left (g:=λj=>(L.getD j st0,rv' j)) λj hj=>by rw[h j (List.mem_range.1 hj)]]
theorem Z2ma(L:List StP)(rv:Nat->V)(v:Int):Zzi (lv L rv) v (lv L rv).length=(frL L v L.length).map fun(i:Nat)=>(i:Int):=by
 unfold Zzi frL;rw[Z4u]
 congr 1
 refine List.filter_congr λi hi=>?_;rw[Zema (List.mem_range.1 hi)]
theorem RdL.app{H:Heap}:∀ {a b c d:List V},RdL H a b->RdL H c d->RdL H (a++c) (b++d)
 |[],[],_,_,_,h=>h
 |[],_::_,_,_,h,_=>h.elim
 |_::_,[],_,_,h,_=>h.elim
 |_::_,_::_,_,_,h,k=>⟨h.1,RdL.app h.2 k⟩
theorem Im.es(c:Col)(l:List (Int×List Int)):(Z0b c l).Im:=Zud (λx y hy=>by
 rw[Z8c]at hy;simp only[V.cells,List.mem_cons,List.not_mem_nil,or_false]at hy
 rcases hy with rfl|rfl
 exact .int _ _
 exact Zzf _) _
theorem Zzoa{H:Heap}{L:List StP}{rv rv':Nat->V}:∀ {js:List Nat},(∀ j∈js,Rd H (rv j) (rv' j))->RdL H (flat ((js.map λj=>(L.getD j st0,rv j)).map (Zbf .new))) (flat ((js.map λj=>(L.getD j st0,rv' j)).map (Zbf .old)))
 |[],_=>trivial
 |j::js,h=>RdL.app (a:=(Zbf .new (L.getD j st0,rv j)).cells) (b:=(Zbf .old (L.getD j st0,rv' j)).cells)
   ⟨Zta (Zzf _) (Z7a ..),Zta (.int _ _) rfl,Zta (Zzf _) (Z7a ..),Zta (Zzf _) (Z7a ..),Zta (Im.es _ _) (Zds _ _ _),h j (List.mem_cons_self ..),trivial⟩
   (Zzoa λj hj=>h j (List.mem_cons_of_mem _ hj))
theorem Rd.lv{H:Heap}{L:List StP}{rv rv':Nat->V}{c:Col}{o gl fz:Nat}(hH:H o=.cells c gl fz (lvC L rv))(h:∀ j,j<L.length->Rd H (rv j) (rv' j)):Rd H (.msl o gl 0 L.length 6) (.slice .old false 6 ((lv L rv').map (Zbf .old))):=by
 refine Cv.msl (col:=λ_=>.old) o gl 0 L.length 6 c fz _ _ rfl hH (by rw[List.length_map,Z4u]) (λv hv=>?_) (by rw[Zch];omega) λi h1 h2=>?_;obtain⟨x,_,rfl⟩:=List.mem_map.1 hv;exact Zen _ x;have:=(Zzoa (H:=H) (L:=L) (rv:=rv) (rv':=rv') (js:=List.range L.length) λj hj=>h j (List.mem_range.1 hj)).get.2 i (by have:=h1;rw[Nat.zero_add]at this;exact this) h2;simp only[Nat.zero_add];exact this
theorem Zria(s:StP)(q:List Int):Zf7 s.lost q (s.ends.map (·.1))=Zjl q s.at_:=by
 rw[Zf7,StP.at_]
 split<;>rfl
theorem Z1oa{F:Nat->Bool}{H:Heap}{L:List StP}{rv rv':Nat->V}{o gl:Nat}(hH:H o=.cells .new gl 0 (lvC L rv))(hF:F o=false)(h:∀ j,j<L.length->Fz F H (rv j) (rv' j)):FzO F H o (.cells .new gl 0 (lvC L rv')):=by
 refine⟨.new,0,lvC L rv,hH,.inl rfl,Nat.le_refl _,λe=>(by rw[hF]at e;cases e),by rw[Zch,Zch],?_⟩
 have:FzL F H (lvC L rv) (lvC L rv'):=by
  unfold lvC Hs.lv;rw[List.map_map,List.map_map];refine FzL.flat (f:=λj=>Zbf .new (L.getD j st0,rv j)) (f':=λj=>Zbf .new (L.getD j st0,rv' j)) λj hj=>?_;exact⟨Fz.same _,Fz.same _,Fz.same _,Fz.same _,Fz.same _,h j (List.mem_range.1 hj),trivial⟩
 exact this.get.2
theorem Zxga{α : Type}(o g m:Nat){l l':List α}(h:l.length=l'.length):grown o g m l=grown o g m l':=by
 cases l with
 |nil=>obtain rfl:l'=[]:=List.length_eq_zero_iff.1 h.symm;rfl
 |cons a r=>cases l' with
  |nil=>cases h
  |cons b t=>show V.msl .. = V.msl ..;rw[h]
structure RQ where
 q:List Int
 i:Nat
 cs:List Int
 off:Nat
 go:Nat
 gr:Nat
def rvF(m:PM)(L:List StP)(i j:Nat):V:=if j<i then Za .new 1 (V.int .i64) (Zb (m.reachL L (L.getD j st0)))else .nils
theorem Zu8(G:Nat->V)(hG:GOk G)(c1 c2 c3 c4 c5 c6:Col)(m:MdM)(x:IxM)(hx:IxP m.p x)(L:List StP)(hne:L≠[])(hl:L.length<100000)(hnv:m.p.vertices.length<100000)(he:∀ s∈L,s.ends.length<100000)(hso:∀ s∈L,s.sources.length<100000)(hat:∀ s∈L,m.p.AtOk s)(gl:Nat):
  InSp Tryz.prog G 29 [wkV c1 c2 c3 c4 c5 c6 m x,.msl 3000 gl 0 L.length 6] (Zfa Zk [(3000,.cells .new gl 0 (lvC L (rvF m.p L 0)))]) (λ_ H'=>H' 3000=.cells .new gl 0 (lvC L (rvF m.p L L.length))):=by
 refine Z3a 0 71 [] Tryz.func29 rfl rfl rfl rfl λX=>?_;refine Z ?_;refine Zaa L.length (λi (_:Unit)=>st [(0,wkV c1 c2 c3 c4 c5 c6 m x),(1,.msl 3000 gl 0 L.length 6),(12,.msl 3000 gl 0 L.length 6),(13,.int .i64 L.length),(14,.int .i64 i)] [(3000,.cells .new gl 0 (lvC L (rvF m.p L i)))]) (λ_ _=>True) 0 () (Nat.zero_le _) trivial (Weak.st zp zp) ?_;intro i _ hi _ L1 hL1
 by_cases hi1:i<L.length
 have hlt:decide ((i:Int)<(L.length:Int))=true:=zT
 have hmem:L.getD i st0∈L:=by
  rw[List.getD_eq_getElem?_getD,List.getElem?_eq_getElem hi1];exact List.getElem_mem hi1
 have hsg:=Z3fa (rv:=rvF m.p L i) hi1;have hrv:rvF m.p L i i=.nils:=if_neg (Nat.lt_irrefl _);rw[hrv]at hsg;have k6:i*6+6<=L.length*6:=zo;have k6':i*6<L.length*6:=zo;have fs:=zi hi1 (zi hsg (zi Zch (zi k6 (zi k6' (zi Zxf (zi @Int.natCast_nonneg @Int.ofNat_lt))))));refine Z1f (zi hlt fs) ?_;refine Z1f (zi hlt fs) ?_;intro g5;refine Z1f fs ?_;intro b g6;refine Z1f fs ?_;intro go g7;refine Z1f fs ?_;generalize hs:L.getD i st0=s at *;have hes:=he s hmem;have hss:=hso s hmem;refine AW.weak (Weak.st (l:=[(0,wkV c1 c2 c3 c4 c5 c6 m x),(1,.msl 3000 gl 0 L.length 6),(4,.int .i64 i),(5,.ptr 5 g5 0),(7,.ptr 7 g7 0),(8,.func (.func 62) [] [.ptr 6 g6 0,.ptr 7 g7 0]),(12,.msl 3000 gl 0 L.length 6),(13,.int .i64 L.length),(14,.int .i64 i)]) (m:=[(5,.cells .new g5 0 [Za .new 1 (V.int .i64) (Zb s.sources),.int .i64 s.first,Za .new 1 (V.int .i64) (Zb s.guards),Za .new 1 (V.int .i64) (Zb s.effects),Z0b .new s.ends,.nils]),(6,.cells .new g6 0 [.mref 19 b]),(7,.cells .new g7 0 [.msl 20 go 0 0 1]),(19,.mp X.w.heap.size b [] []),(20,.cells .new go 0 []),(3000,.cells .new gl 0 (lvC L (rvF m.p L i)))]) zp zp) ?_;refine Z6 (Z6 (Zrb [2] zk (by rfl) ?_));simp -implicitDefEqProofs only[go_sem,seval,Z7y,Zxf];refine⟨_,rfl,Ztr (Zpia G hG X.w.heap.size (s,.nils) [] [] [] 0 g6 g7 go b _ zd (Tl.zero _) zd hes zp zp zp zp (λo h1 h2=>?_)) zp (zp) (λv H' hk=>?_) zk (k:=2) rfl zp⟩
 dsimp only
 (repeat rw[Zi _ _ zo])
 rfl;obtain⟨rfl,w,hw1,hw2,rfl⟩:=hk;obtain⟨q0,cs0,of0,go0⟩:=w
 have hq0:q0=Zjl [] s.at_:=by
  have:q0=Zf7 s.lost [] (s.ends.map (·.1)):=hw1;rw[this,Zria]
 have hQ0:m.p.QInv L s q0 0:=hq0 ▸ PM.QInv.zero (hat s hmem);refine AW.block ?_;refine Zcd (λz:RQ=>st [(0,wkV c1 c2 c3 c4 c5 c6 m x),(1,.msl 3000 gl 0 L.length 6),(4,.int .i64 i),(5,.ptr 5 g5 0),(7,.ptr 7 g7 0),(8,.func (.func 62) [] [.ptr 6 g6 0,.ptr 7 g7 0]),(12,.msl 3000 gl 0 L.length 6),(13,.int .i64 L.length),(14,.int .i64 i)] [(5,.cells .new g5 0 [Za .new 1 (V.int .i64) (Zb s.sources),.int .i64 s.first,Za .new 1 (V.int .i64) (Zb s.guards),Za .new 1 (V.int .i64) (Zb s.effects),Z0b .new s.ends,.nils]),(6,.cells .new g6 0 [.mref 19 b]),(7,.cells .new g7 0 [.msl 20 z.go z.off (z.q.length-z.i) 1]),(19,.mp X.w.heap.size b (Zei z.q) (Zmj z.q)),(20,.cells .new z.go 0 (z.cs.map (V.int .i64))),(42,Zca z.gr (V.int .i64) (z.q.take z.i)),(3000,.cells .new gl 0 (lvC L (upd (rvF m.p L i) i (grown 42 z.gr 1 (z.q.take z.i)))))]) (λz=>m.p.QInv L s z.q z.i/\Tl z.cs z.off (z.q.drop z.i)) (λz=>m.p.vertices.length-z.i) ⟨q0,0,cs0,of0,go0,0⟩ ⟨hQ0,hw2⟩ (Weak.st zp ?_) ?_
 dsimp only
 have e1:upd (rvF m.p L i) i .nils=rvF m.p L i:=Zea _ _ _ hrv;simp -implicitDefEqProofs only[go_sem,seval,List.take_zero,List.nil_append,List.drop_zero,List.length_nil,Nat.sub_zero,Nat.zero_add,Znc,Z1c,e1];rintro⟨q,ii,cs,of,gq,gr⟩ ⟨hQ,hT⟩ L2 hL2;simp only at hQ hT;have hql:=hQ.len;have hii:=hQ.le
 by_cases hlq:ii<q.length
 have hgt:decide (((q.length-ii:Nat):Int)>0)=true:=zT;have hv:=List.getElem?_eq_getElem hlq;have hvm:=List.getElem_mem hlq;generalize q[ii]=v at hv hvm
 have hdr:q.drop ii=v::q.drop (ii+1):=by
  have h1:=List.getElem?_eq_some_iff.1 hv;rw[<- h1.2];exact List.drop_eq_getElem_cons hlq
 rw[hdr]at hT
 have hcell:(cs.map (V.int .i64))[of]?=some (.int .i64 v):=by rw[List.getElem?_map,hT.at];rfl
 have hcl:(cs.map (V.int .i64)).length=cs.length:=List.length_map ..;have hT1:=hT.1;rw[List.length_cons,List.length_drop]at hT1;have c1':0<q.length-ii:=zo;have c2':of+1<=cs.length:=zo;have c3':1<=q.length-ii:=zo;have i1:(0:Int)<((q.length-ii:Nat):Int):=zo;have i2:(1:Int)<=((q.length-ii:Nat):Int):=zo;have f8:=zi i1 (zi i2 (zi hcell (zi hcl (zi c1' (zi c2' (zi c3' (zi @Int.natCast_nonneg @Int.ofNat_lt)))))));refine Z1f (zi hgt f8) ?_;refine Z1f (zi hgt f8) ?_;have e7:q.length-ii=(q.length-(ii+1))+1:=zo
 have hin:(List.take ii q).length=ii:=by rw[List.length_take];omega
 have htk:q.take ii++[v]=q.take (ii+1):=by rw[List.take_add_one,hv];rfl
 generalize hrest:q.length-(ii+1)=nr at *;rw[e7];refine Z6 (Zrb [1] zk (by rfl) ?_);simp -implicitDefEqProofs only[go_sem,seval,Z7y];refine⟨_,rfl,Z24 (e:=3) (len:=nr) (ob:=20) (g:=gq) (off:=of) (m:=1) zk zk (zp) rfl (λof' hof=>?_) zk (n:=1) rfl (by rfl)⟩
 have hT':Tl cs of' (q.drop (ii+1)):=by
  rcases hof with h|⟨h,h'⟩
  rw[h];exact hT.next;have:q.drop (ii+1)=[]:=List.length_eq_zero_iff.1 (by rw[List.length_drop];omega);rw[this,h'];exact hT.nil
 simp -implicitDefEqProofs only[go_sem,seval,Z7y]
 have hcg:(lvC L (upd (rvF m.p L i) i (grown 42 gr 1 (q.take ii))))[i*6+5]?=some (grown 42 gr 1 (q.take ii)):=by rw[Zloa hi1,Z3]
 have hst:∀ u,(lvC L (upd (rvF m.p L i) i (grown 42 gr 1 (q.take ii)))).set (i*6+5) u=lvC L (upd (rvF m.p L i) i u):=λu=>by
  rw[lvC_set hi1];refine Z4fa λj _=>?_
  simp only[upd];split<;>rfl
 have f10:=zi hi1 (zi hcg (zi hst (zi Zch (zi k6 (zi k6' (zi @Int.natCast_nonneg @Int.ofNat_lt))))));refine Z1f f10 ?_;intro g41;refine Zhb (f:=V.int .i64) (l:=q.take ii) (l2:=[v]) (g:=gr) (λ_=>rfl) rfl rfl rfl zp (Z9 zo zO) λg2=>?_;rw[htk];have f10b:=zi hi1 (zi hcg (zi hst (zi Zch (zi k6 (zi k6' (zi @Int.natCast_nonneg @Int.ofNat_lt))))));simp -implicitDefEqProofs only[go_sem,seval,f10b];subst hrest;refine AW.weak (Weak.st (l:=[(0,wkV c1 c2 c3 c4 c5 c6 m x),(1,.msl 3000 gl 0 L.length 6),(4,.int .i64 i),(5,.ptr 5 g5 0),(7,.ptr 7 g7 0),(8,.func (.func 62) [] [.ptr 6 g6 0,.ptr 7 g7 0]),(12,.msl 3000 gl 0 L.length 6),(13,.int .i64 L.length),(14,.int .i64 i),(9,.int .i64 v)]) (m:=[(5,.cells .new g5 0 [Za .new 1 (V.int .i64) (Zb s.sources),.int .i64 s.first,Za .new 1 (V.int .i64) (Zb s.guards),Za .new 1 (V.int .i64) (Zb s.effects),Z0b .new s.ends,.nils]),(6,.cells .new g6 0 [.mref 19 b]),(7,.cells .new g7 0 [.msl 20 gq of' (q.length-(ii+1)) 1]),(19,.mp X.w.heap.size b (Zei q) (Zmj q)),(20,.cells .new gq 0 (cs.map (V.int .i64))),(42,Zca g2 (V.int .i64) (q.take (ii+1))),(3000,.cells .new gl 0 (lvC L (upd (rvF m.p L i) i (grown 42 g2 1 (q.take (ii+1))))))]) zp zp) ?_;refine Z1f f10 ?_;have hqi:ii+1<=q.length:=zo;refine Znl hG [.slice .old false 6 ((lv L (upd (λj=>(rvF m.p L i j).recol Col.ent) i (Za .old 1 (V.int .i64) (Zb (q.take (ii+1)))))).map (Zbf .old)),.int .i64 v] zk ⟨Rd.lv (c:=.new) (fz:=0) (rv:=upd (rvF m.p L i) i (grown 42 g2 1 (q.take (ii+1)))) (zp) (λj _=>?_),Zta (.int _ _) rfl,trivial⟩ ?_
 by_cases e:j=i
 subst e;rw[Z3,Z3];exact Zym (f:=V.int .i64) (f':=V.int .i64) (g:=g2) (zp) (λ_=>rfl) (λx y hy=>by simp[V.cells]at hy;subst hy;exact .int _ _) λ_=>rfl;rw[Zi _ _ e,Zi _ _ e];unfold rvF
 split
 exact Zta (Zzf _) rfl;exact Zta .nils rfl
 refine(Ziv G hG .old .old (.mk false (lv L (upd (λj=>(rvF m.p L i j).recol Col.ent) i (Za .old 1 (V.int .i64) (Zb (q.take (ii+1))))))) v (by show(lv L _).length<_;rw[Z4u];exact hl) (λy hy=>by
  have hy:y∈lv L _:=hy;obtain⟨j,hj,rfl⟩:=List.mem_map.1 hy;refine hso _ ?_
  show L.getD j st0∈L
  rw[List.getD_eq_getElem?_getD,List.getElem?_eq_getElem (List.mem_range.1 hj)];exact List.getElem_mem (List.mem_range.1 hj))).mono λw _ hw=>?_
 have hw:w=Za .new 1 (V.int .i64) (Zb (Zzi (lv L _) v (lv L _).length)):=hw;rw[Z2ma]at hw;subst hw;refine⟨Zj7 (λx y hy=>by simp[V.cells]at hy;subst hy;exact .int _ _) _,?_⟩;have hF:∀ j∈frL L v L.length,j<L.length:=λj hj=>frL_lt hj;have hall:=PM.stepQ_all (m:=m.p) L v q;have hsl:=λk=>PM.stepQ_len (m:=m.p) L v q (frL L v L.length) (j:=k);have hFl:(frL L v L.length).length<=L.length:=Nat.le_trans (List.length_filter_le _ _) (by rw[List.length_range];exact Nat.le_refl _);generalize frL L v L.length=F at hF hall hsl hFl;have hQ':=hQ.next hat hv;rw[<- hall]at hQ';have hF':(F.map fun(i:Nat)=>(i:Int)).length=F.length:=List.length_map ..;simp -implicitDefEqProofs only[go_sem,seval,hF'];refine AW.block ?_;refine Zaa F.length (λk (z:RQ)=>st [(0,wkV c1 c2 c3 c4 c5 c6 m x),(1,.msl 3000 gl 0 L.length 6),(4,.int .i64 i),(5,.ptr 5 g5 0),(7,.ptr 7 g7 0),(8,.func (.func 62) [] [.ptr 6 g6 0,.ptr 7 g7 0]),(12,.msl 3000 gl 0 L.length 6),(13,.int .i64 L.length),(14,.int .i64 i),(9,.int .i64 v),(47,Za .new 1 (V.int .i64) (Zb (F.map fun(i:Nat)=>(i:Int)))),(48,.int .i64 F.length),(49,.int .i64 k)] [(5,.cells .new g5 0 [Za .new 1 (V.int .i64) (Zb s.sources),.int .i64 s.first,Za .new 1 (V.int .i64) (Zb s.guards),Za .new 1 (V.int .i64) (Zb s.effects),Z0b .new s.ends,.nils]),(6,.cells .new g6 0 [.mref 19 b]),(7,.cells .new g7 0 [.msl 20 z.go z.off (z.q.length-z.i) 1]),(19,.mp X.w.heap.size b (Zei z.q) (Zmj z.q)),(20,.cells .new z.go 0 (z.cs.map (V.int .i64))),(42,Zca z.gr (V.int .i64) (z.q.take z.i)),(3000,.cells .new gl 0 (lvC L (upd (rvF m.p L i) i (grown 42 z.gr 1 (z.q.take z.i)))))]) (λk z=>z.q=m.p.stepQ L v q (F.take k)/\z.i=ii+1/\Tl z.cs z.off (z.q.drop (ii+1))) 0 ⟨q,ii+1,cs,of',gq,g2⟩ (Nat.zero_le _) ⟨?_,rfl,hT'⟩ (Weak.st zp zp) ?_
 show q=_
 rw[List.take_zero];unfold PM.stepQ;split<;>rfl
 rintro k ⟨q3,i3,cs3,of3,go3,gr3⟩ hk ⟨hq3,hi3,hT3⟩ L3 hL3;simp only at hq3 hi3 hT3;subst hi3
 have hl3:q3.length<100000:=by
  have:=hsl k;have:=hQ'.len;rw[hq3];omega
 obtain⟨t3,ht3⟩:=PM.stepQ_pre (m:=m.p) L v q (F.take k);rw[<- hq3]at ht3
 have hp3:q3.take (ii+1)=q.take (ii+1):=by rw[ht3,List.take_append_of_le_length hqi]
 by_cases hk1:k<F.length
 have hlt3:decide ((k:Int)<(F.length:Int))=true:=zT;have hgk:=List.getElem?_eq_getElem hk1;have hjm:=List.getElem_mem hk1;generalize F[k]=j at hgk hjm;have hj:=hF j hjm
 have hgk':(F.map fun(i:Nat)=>(i:Int))[k]?=some (j:Int):=by rw[List.getElem?_map,hgk];rfl
 have w1:IntKind.i64.wrap ((k:Int)+1)=(k:Int)+1:=w64 zo zo
 have hkl:k<(F.map fun(i:Nat)=>(i:Int)).length:=by rw[hF'];exact hk1
 have f12:=zi hgk' (zi hk1 (zi hkl (zi hF' (zi @Int.natCast_nonneg @Int.ofNat_lt))));refine Z1f (zi hlt3 f12) ?_;refine Z1f (zi hlt3 f12) ?_;refine Z1f f12 ?_;intro g55;obtain⟨v0,v1⟩:=hQ.rng v hvm;refine Z1a 55 [wkV c1 c2 c3 c4 c5 c6 m x,.int .i64 v,Za .new 1 (V.int .u8) (.mk false [4])] ⟨Fz.same _,Fz.same _,Z2b (f:=V.int .u8) (l:=[4]) (m:=1) (g:=g55) (fz:=0) (c:=.new) rfl zp (λ_=>rfl),trivial⟩ ?_;refine Zc hG ?_ (s:=Z1d G hG _ _ _ _ _ _ _ m _ v v0 v1 _ zd);rw[con1]
 have hsn:m.p.stepQ L v q (F.take (k+1))=if m.p.kd v=4 then Zjl q3 (L.getD j st0).at_ else q3:=by
  rw[List.take_add_one,hgk]
  show m.p.stepQ L v q (F.take k++[j])=_
  rw[PM.stepQ_snoc,<- hq3]
 have hq3l:ii+1<=q3.length:=by rw[ht3,List.length_append];omega
 cases qk:(m.p.kd v==4)
 have hkd:¬ m.p.kd v=4:=λe=>by rw[e]at qk;cases qk
 rw[if_neg hkd]at hsn;refine Zf (zi qk w1) ?_;exact hL3 _ ⟨hk1,⟨q3,ii+1,cs3,of3,go3,gr3⟩,⟨hsn.symm,rfl,hT3⟩,Weak.st zp zp⟩;have hkd:m.p.kd v=4:=zu qk;rw[if_pos hkd]at hsn;refine Zm (b:=true) (zp) (λ_=>?_) (λh=>by cases h);refine AW.weak (Weak.st (l:=[(0,wkV c1 c2 c3 c4 c5 c6 m x),(1,.msl 3000 gl 0 L.length 6),(4,.int .i64 i),(5,.ptr 5 g5 0),(7,.ptr 7 g7 0),(8,.func (.func 62) [] [.ptr 6 g6 0,.ptr 7 g7 0]),(12,.msl 3000 gl 0 L.length 6),(13,.int .i64 L.length),(14,.int .i64 i),(9,.int .i64 v),(47,Za .new 1 (V.int .i64) (Zb (F.map fun(i:Nat)=>(i:Int)))),(48,.int .i64 F.length),(11,.int .i64 j),(49,.int .i64 k)]) (m:=[(5,.cells .new g5 0 [Za .new 1 (V.int .i64) (Zb s.sources),.int .i64 s.first,Za .new 1 (V.int .i64) (Zb s.guards),Za .new 1 (V.int .i64) (Zb s.effects),Z0b .new s.ends,.nils]),(6,.cells .new g6 0 [.mref 19 b]),(7,.cells .new g7 0 [.msl 20 go3 of3 (q3.length-(ii+1)) 1]),(19,.mp X.w.heap.size b (Zei q3) (Zmj q3)),(20,.cells .new go3 0 (cs3.map (V.int .i64))),(42,Zca gr3 (V.int .i64) (q3.take (ii+1))),(3000,.cells .new gl 0 (lvC L (upd (rvF m.p L i) i (grown 42 gr3 1 (q3.take (ii+1))))))]) zp zp) ?_
 have hmj:L.getD j st0∈L:=by
  rw[List.getD_eq_getElem?_getD,List.getElem?_eq_getElem hj];exact List.getElem_mem hj
 have hsj:=Z3fa (rv:=upd (rvF m.p L i) i (grown 42 gr3 1 (q3.take (ii+1)))) hj;have hdl:(q3.drop (ii+1)).length=q3.length-(ii+1):=List.length_drop ..;have k7:j*6+6<=L.length*6:=zo;have k7':j*6<L.length*6:=zo;refine Zrb [5] zk (by rfl) ?_;simp -implicitDefEqProofs only[go_sem,seval,Z7y,hj,hsj,Zch,k7,k7',Zxf,Int.ofNat_lt,Int.natCast_nonneg];refine⟨_,rfl,Ztr (Zpia G hG X.w.heap.size (L.getD j st0,upd (rvF m.p L i) i (grown 42 gr3 1 (q3.take (ii+1))) j) q3 cs3 (q3.drop (ii+1)) of3 g6 g7 go3 b _ hl3 hT3 (by rw[hdl];omega) (he _ hmj) zp (by rw[hdl];exact zp) zp zp (λo h1 h2=>?_)) zp (zp) (λv H' hk=>?_) zk (k:=5) rfl zp⟩
 dsimp only
 (repeat rw[Zi _ _ zo])
 rfl;obtain⟨rfl,w,hw1,hw2,rfl⟩:=hk;obtain⟨new,cs4,of4,go4⟩:=w;simp only at hw1 hw2;have hp4:(q3++new).take (ii+1)=q3.take (ii+1):=List.take_append_of_le_length hq3l;refine Zf w1 ?_;refine hL3 _ ⟨hk1,⟨q3++new,ii+1,cs4,of4,go4,gr3⟩,⟨?_,rfl,?_⟩,Weak.st zp ?_⟩
 show q3++new=_
 rw[hw1,hsn,Zria]
 show Tl cs4 of4 ((q3++new).drop (ii+1))
 rw[List.drop_append_of_le_length hq3l];exact hw2
 dsimp only
 rw[hp4];have hle:q3.length-(ii+1)+new.length=q3.length+new.length-(ii+1):=zo;simp -implicitDefEqProofs only[go_sem,seval,hdl,List.length_append,hle];have hke:k=F.length:=zo;rw[hke,List.take_length,hall]at hq3;have hlt3:decide ((F.length:Int)<(F.length:Int))=false:=zF;rw[hke];refine Zf hlt3 ?_;refine hL2 _ ⟨⟨q3,ii+1,cs3,of3,go3,gr3⟩,?_,⟨?_,hT3⟩,Weak.st zp zp⟩
 show m.p.vertices.length-(ii+1)<m.p.vertices.length-ii
 omega
 show m.p.QInv L s q3 (ii+1)
 rw[hq3,<- hall];exact hQ';have hie:ii=q.length:=zo;rw[hie]at hQ⊢;have hE:=hQ.fin
 have hgt:decide (((q.length-q.length:Nat):Int)>0)=false:=by rw[Nat.sub_self];rfl
 have hcg:(lvC L (upd (rvF m.p L i) i (grown 42 gr 1 q)))[i*6+5]?=some (grown 42 gr 1 q):=by rw[Zloa hi1,Z3]
 refine AW.weak (Weak.st (l:=[(0,wkV c1 c2 c3 c4 c5 c6 m x),(1,.msl 3000 gl 0 L.length 6),(4,.int .i64 i),(5,.ptr 5 g5 0),(7,.ptr 7 g7 0),(8,.func (.func 62) [] [.ptr 6 g6 0,.ptr 7 g7 0]),(12,.msl 3000 gl 0 L.length 6),(13,.int .i64 L.length),(14,.int .i64 i)]) (m:=[(7,.cells .new g7 0 [.msl 20 gq of (q.length-q.length) 1]),(42,Zca gr (V.int .i64) q),(3000,.cells .new gl 0 (lvC L (upd (rvF m.p L i) i (grown 42 gr 1 q))))]) zp (by simp -implicitDefEqProofs only[go_sem,seval,List.take_length])) ?_;have f17:=zi hi1 (zi hcg (zi Zch (zi k6 (zi k6' (zi @Int.natCast_nonneg @Int.ofNat_lt)))));refine Z1f (zi hgt f17) ?_;refine Z1f (zi hgt f17) ?_;refine Zbea (g:=gr) (l:=q) zo zp ?_
 have hrl:q.length=(m.p.reachL L s).length:=by rw[<- PM.reach_sort hat (hat s hmem) hE,Zoz]
 rw[PM.reach_sort hat (hat s hmem) hE];have w1:IntKind.i64.wrap ((i:Int)+1)=(i:Int)+1:=w64 zo zo;refine Zs ?_;refine AW.weak (Zw (λo=>o==42) (l:=[(0,wkV c1 c2 c3 c4 c5 c6 m x),(1,.msl 3000 gl 0 L.length 6),(12,.msl 3000 gl 0 L.length 6),(13,.int .i64 L.length),(14,.int .i64 i)]) (m:=[(3000,.cells .new gl 0 (lvC L (upd (rvF m.p L i) i (Za .new 1 (V.int .i64) (Zb (m.p.reachL L s))))))]) ?_ ⟨Z1oa (rv:=upd (rvF m.p L i) i (grown 42 gr 1 q)) (zp) rfl λj hj=>?_,trivial⟩) ?_;simp -implicitDefEqProofs only[go_sem,seval];exact⟨Fz.same _,Fz.same _,Fz.same _,Fz.same _,Fz.same _⟩
 by_cases e:j=i
 subst e;rw[Z3,Z3,Zxga 42 gr 1 hrl];exact Zkc (g:=gr) (f:=V.int .i64) rfl (zp) λ_=>rfl;rw[Zi _ _ e,Zi _ _ e];exact Fz.same _;refine AW.weak (Zw (λ_=>false) (l:=[(0,wkV c1 c2 c3 c4 c5 c6 m x),(1,.msl 3000 gl 0 L.length 6),(12,.msl 3000 gl 0 L.length 6),(13,.int .i64 L.length),(14,.int .i64 i)]) (m:=[(3000,.cells .new gl 0 (lvC L (rvF m.p L (i+1))))]) ?_ ⟨Z1oa (rv:=upd (rvF m.p L i) i (Za .new 1 (V.int .i64) (Zb (m.p.reachL L s)))) (zp) rfl λj hj=>?_,trivial⟩) ?_;simp -implicitDefEqProofs only[go_sem,seval];exact⟨Fz.same _,Fz.same _,Fz.same _,Fz.same _,Fz.same _⟩
 by_cases e:j=i
 subst e;rw[Z3,rvF,if_pos (Nat.lt_succ_self _),hs];exact Fz.same _;rw[Zi _ _ e]
 have:rvF m.p L (i+1) j=rvF m.p L i j:=by
  unfold rvF
  by_cases h:j<i
  rw[if_pos h,if_pos zo];rw[if_neg h,if_neg zo]
 rw[this];exact Fz.same _;refine Zf w1 ?_;exact hL1 _ ⟨hi1,(),trivial,Weak.st zp zp⟩;have hie:i=L.length:=zo;have hlt:decide ((L.length:Int)<(L.length:Int))=false:=zF;rw[hie];refine Zf hlt ?_;exact⟨_,rfl,rfl⟩
end Go.Hs
end

section
namespace Go.Hs
open Go.Proofs
set_option maxRecDepth 10000
set_option maxHeartbeats 2000000
theorem Zqga{m:PM}(a:m.Acy){v r:Int}(h0:0<=v)(h1:v<m.vertices.length)(hr:0<=r):((chL m v).any λu=>m.rgO u==r)=m.withinB v r:=by
 have hc:chL m v=v::m.ups v:=if_pos h0;rw[hc,PM.withinB,Bool.eq_iff_iff,List.any_eq_true,List.any_eq_true]
 constructor
 rintro⟨u,hu,e⟩;have hu0:=a.chain h0 h1 hu;rw[beq_iff_eq,PM.rgO]at e
 by_cases hp:0<=(m.vx u).of
 rw[if_pos hp]at e
 have har:m.around u=(m.vx u).of:=by rw[PM.around,if_pos hp]
 refine⟨(m.vx u).of,List.mem_cons_of_mem _ (a.ups_tr har hp h0 h1 hu),by rw[e];exact beq_self_eq_true _⟩;rw[if_neg hp]at e;exact⟨u,hu,by rw[e];exact beq_self_eq_true _⟩;rintro⟨u,hu,e⟩;have hu0:=a.chain h0 h1 hu;rw[beq_iff_eq]at e
 by_cases hp:0<=(m.vx u).of
 have:=a.pt u hu0.1 hu0.2 hp;omega;exact⟨u,hu,by rw[PM.rgO,if_neg hp,e];exact beq_self_eq_true _⟩
theorem Zwga(G:Nat->V)(hG:GOk G)(b c d:Col)(x:IxM)(m:PM)(a:m.Acy)(hx:IxP m x)(v r:Int)(h0:0<=v)(h1:v<m.vertices.length)(hr:0<=r):
  Spec Tryz.prog G 69 [ixV b c d x,.int .i64 v,.int .i64 r] Zk (λw _=>w=.bool (m.withinB v r)):=by
 rw[<- Zqga a h0 h1 hr];exact Zyma G hG b c d x m a hx v r h0 h1
theorem Zfz(G:Nat->V)(hG:GOk G)(b c d:Col)(x:IxM)(m:PM)(a:m.Acy)(hx:IxP m x)(v s:Int)(h0:0<=v)(h1:v<m.vertices.length)(s0:0<=s)(s1:s<m.vertices.length)(hk:m.kd s=1):
  Spec Tryz.prog G 70 [ixV b c d x,.int .i64 v,.int .i64 s] Zk (λw _=>w=.bool (m.inB v s)):=by
 have e:m.inB v s=(m.ups v).any λk=>k==s:=by
  rw[PM.inB,List.contains_eq_any_beq]
  congr 1
  funext k
  exact BEq.comm
 rw[e];exact Zt7 G hG b c d x m a hx v s h0 h1 s0 s1 hk
end Go.Hs
end

section
namespace Go.Hs
open Go.Proofs
set_option maxRecDepth 10000
set_option maxHeartbeats 2000000
theorem Zon(G:Nat->V)(hG:GOk G)(cr:Col)(b1 b2 b3 b4 b c d e f g:Col)(m:MdM)(x:IxM)(hx:IxP m.p x)(hwf:m.p.Wfd)(q:StP×List Int)(src v:Int)(hsr:src=PM.srcOf q.1)(h0:0<=v)(h1:v<m.p.vertices.length)(s0:0<=src)(s1:src<m.p.vertices.length)
  (f0:0<=q.1.first) (f1:q.1.first<m.p.ways.length):
  Spec Tryz.prog G 68 [.int .i64 v,.view b1 (.bool (m.p.fixB src)),.view b2 (wkV b c d e f g m x),.view b3 (.int .i64 src),.view b4 (Z6a cr q)] Zk (λw _=>w=.bool (!(m.p.inReach q.1 v))):=by
 refine Zo 0 51 [.tmp 6] Tryz.func68 λX=>?_;generalize hR:m.p.inReach q.1 v=rb;rw[PM.inReach,<- hsr]at hR;have a:=hwf.acy;obtain⟨ns,ys,ev,hns,hgs,es⟩:=m.at s0 s1;obtain⟨nf,yf,ef,hnf,hgf,eyf⟩:=m.wyAt f0 f1
 have ereg:(m.p.vx src).region=ys.region:=by rw[es];rfl
 have ekd:(m.p.wy q.1.first).kind=yf.kind:=by rw[eyf];rfl
 refine Z ?_;cases qf:m.p.fixB src;refine Zf qf ?_;refine Zp ⟨λ_=>.top,λi=>if i=3 then .any else .pure⟩ zk hG zk zk ?_;refine Zs ?_;intro g28;rw[qf,if_neg zS]at hR;refine Z1a 28 [wkV b c d e f g m x,.int .i64 src,Za .new 1 (V.int .u8) (.mk false [1])] ⟨Fz.same _,Fz.same _,Z2b (f:=V.int .u8) (l:=[1]) (m:=1) (g:=g28) (fz:=0) (c:=.new) rfl zp (λ_=>rfl),trivial⟩ ?_;refine Zc hG ?_ (s:=Z1d G hG _ _ _ _ _ _ _ m _ src s0 s1 _ zd);rw[con1];cases qk:(m.p.kd src==1);have hk1:¬m.p.kd src=1:=zu qk;rw[if_neg (λh=>hk1 h.1)]at hR;subst hR;refine Zg qk ?_;rfl;have hk1:m.p.kd src=1:=zu qk;cases ql:(yf.kind==2)
 have hk2:¬(m.p.wy q.1.first).kind=2:=by rw[ekd];simpa using ql
 rw[if_neg (λh=>hk2 h.2)]at hR;subst hR;refine Zg (zi ef (zi qk (zi ql (zi hgf (zi hnf (zi Z1e (zi Z8 (zi Zna (zi @Int.natCast_nonneg @Int.ofNat_lt))))))))) ?_;rfl
 have hk2:(m.p.wy q.1.first).kind=2:=by rw[ekd];simpa using ql
 rw[if_pos ⟨hk1,hk2⟩]at hR;subst hR;refine Zg (zi ef (zi qk (zi ql (zi hgf (zi hnf (zi Z1e (zi Z8 (zi Zna (zi @Int.natCast_nonneg @Int.ofNat_lt))))))))) ?_;refine Zp ⟨λ_=>.bool (m.p.inB v src),λ_=>.pure⟩ zk hG zk zk ?_;simp -implicitDefEqProofs only[go_sem,seval,Z1e];refine⟨⟨by kernel_rfl,?_⟩,?_⟩;simp -implicitDefEqProofs only[go_sem,seval,List.map_cons,List.map_nil]
 exact(Zfz G hG _ _ _ _ m.p a (hx.rc _) v src h0 h1 s0 s1 hk1).mono λw _ e=>by rw[e];rfl
 exact Zr
 have hk:m.p.kd src≠10/\m.p.kd src≠11:=by
  unfold PM.fixB at qf;simp only[Bool.or_eq_true,beq_iff_eq]at qf;omega
 obtain⟨_,r0,r1⟩:=hwf.fix src s0 s1 hk.1 hk.2;rw[qf,if_pos rfl,ereg]at hR;rw[ereg]at r0;subst hR;refine Zf qf ?_;refine Zp ⟨λ_=>.bool (m.p.withinB v ys.region),λ_=>.pure⟩ zk hG zk zk ?_;rw[ev];simp -implicitDefEqProofs only[go_sem,seval,hgs,hns,Z1e,Zt,@Int.natCast_nonneg,@Int.ofNat_lt];refine⟨⟨by kernel_rfl,?_⟩,?_⟩;simp -implicitDefEqProofs only[go_sem,seval,List.map_cons,List.map_nil]
 exact(Zwga G hG _ _ _ _ m.p a (hx.rc _) v ys.region h0 h1 r0).mono λw _ e=>by rw[e];rfl
 exact Zr
end Go.Hs
end

section
namespace Go.Hs
open Go.Proofs
set_option maxRecDepth 10000
set_option maxHeartbeats 4000000
theorem con3(k a b c:Int):[a,b,c].contains k=(k==a||k==b||k==c):=by
 show List.elem k [a,b,c]=_
 simp only[List.elem]
 cases k==a<;>cases k==b<;>cases k==c<;>rfl
theorem Zez(G:Nat->V)(hG:GOk G)(cr:Col)(b c d e f g:Col)(m:MdM)(x:IxM)(hx:IxP m.p x)(hw:m.p.ways.length<=600)(hwf:m.p.Wfd)(q:StP×List Int)(hsn:q.1.sources≠[])(s0:0<=PM.srcOf q.1)(s1:PM.srcOf q.1<m.p.vertices.length)(f0:0<=q.1.first)(f1:q.1.first<m.p.ways.length)
  (hel:q.1.ends.length<100000) (her:∀ e∈q.1.ends,e.1 = -1\/(0<=e.1/\e.1<m.p.vertices.length)) (hbr:∀ e∈q.1.ends,∀ t∈e.2,0<=t/\t<m.p.ways.length) (hbl:∀ e∈q.1.ends,e.2.length<100000) (hfl:q.1.effects.length<400000) (hfr:∀ t∈q.1.effects,0<=t/\t<m.p.ways.length)
  (hrl:q.2.length<100000) (hrr:∀ v∈q.2,0<=v/\v<m.p.vertices.length):
  Spec Tryz.prog G 32 [wkV b c d e f g m x,Z6a cr q] Zk (λw _=>w=.bool (m.p.rightS q.1 q.2)):=by
 refine Zo 0 85 [.tmp 4] Tryz.func32 λX=>?_
 have hsr:∃ r,q.1.sources=PM.srcOf q.1::r:=by
  cases h:q.1.sources with
  |nil=>exact absurd h hsn
  |cons a r=>exact⟨r,by rw[PM.srcOf,h];rfl⟩
 obtain⟨r,hsr⟩:=hsr;generalize hsrc:PM.srcOf q.1=src at *
 have h0:q.1.sources[0]?=some src:=by rw[hsr];rfl
 have hp:0<q.1.sources.length:=by rw[hsr];exact Nat.succ_pos _
 refine Zf Zna ?_;intro g2 g3;refine AW.weak (Zw (λo=>o==2||o==3) (l:=[(2,.view .new (wkV b c d e f g m x)),(3,.view .new (Z6a cr q)),(4,.bool false)]) (m:=[]) ?_ trivial) ?_;simp -implicitDefEqProofs only[go_sem,seval];exact⟨Fz.ptr (v:=wkV b c d e f g m x) (c:=.new) (fz:=0) zp zp,Fz.ptr (v:=Z6a cr q) (c:=.new) (fz:=0) zp zp,Fz.same _⟩;refine Zf (zi h0 (zi hp Zna)) ?_;intro g5;have hEs:Z0b cr q.1.ends=Za cr 2 (Zpf cr) (Zb q.1.ends):=rfl;refine AW.weak (Zw (λo=>o==5) (l:=[(2,.view .new (wkV b c d e f g m x)),(3,.view .new (Z6a cr q)),(5,.view .new (.int .i64 src))]) (m:=[]) ?_ trivial) ?_;simp -implicitDefEqProofs only[go_sem,seval];exact⟨Fz.same _,Fz.same _,Fz.ptr (v:=.int .i64 src) (c:=.new) (fz:=0) zp zp⟩;refine Zf (zi Zna hEs) ?_;refine Zaa q.1.ends.length (λk (_:Unit)=>st [(2,.view .new (wkV b c d e f g m x)),(3,.view .new (Z6a cr q)),(5,.view .new (.int .i64 src)),(16,Za cr 2 (Zpf cr) (Zb q.1.ends)),(17,.int .i64 q.1.ends.length),(18,.int .i64 k)] []) (λk _=>∀ i,i<k->m.p.endB q.1 i=true) 0 () (Nat.zero_le _) (λi h=>absurd h (Nat.not_lt_zero _)) (Weak.st (zp) zp) ?_;intro k _ hk hR L hL
 by_cases hk1:k<q.1.ends.length
 have hlt:decide ((k:Int)<(q.1.ends.length:Int))=true:=zT;have hg:=List.getElem?_eq_getElem hk1;have hmem:=List.getElem_mem hk1;generalize q.1.ends[k]=en at hg hmem;refine Zf (zi hlt (zi hg (zi hk1 (zi Z8c (zi @Int.natCast_nonneg @Int.ofNat_lt))))) ?_;intro g7;refine AW.weak (Zw (λo=>o==7) (l:=[(2,.view .new (wkV b c d e f g m x)),(3,.view .new (Z6a cr q)),(5,.view .new (.int .i64 src)),(6,.int .i64 k),(7,.view .new (Zpf cr en)),(16,Za cr 2 (Zpf cr) (Zb q.1.ends)),(17,.int .i64 q.1.ends.length),(18,.int .i64 k)]) (m:=[]) ?_ trivial) ?_;simp -implicitDefEqProofs only[go_sem,seval];exact⟨Fz.same _,Fz.same _,Fz.same _,Fz.same _,Fz.ptr (v:=Zpf cr en) (c:=.new) (fz:=0) zp zp,Fz.same _,Fz.same _,Fz.same _⟩
 have hat:PM.endAt q.1 k=en:=by rw[PM.endAt,List.getD_eq_getElem?_getD,hg];rfl
 have hno:m.p.endB q.1 k=false->m.p.rightS q.1 q.2=false:=λh=>by
  have:((List.range q.1.ends.length).all λi=>m.p.endB q.1 i)=false:=by
   rw[List.all_eq_false];exact⟨k,List.mem_range.2 hk1,by rw[h];simp⟩
  rw[PM.rightS,this];rfl
 by_cases e1:en.1 = -1
 have q1:(en.1 == -1)=true:=by rw[e1];rfl
 rw[hno (by rw[PM.endB,hat,q1];rfl)];refine Zf (zi q1 Z8c) ?_;rfl
 .have q1:(en.1 == -1)=false:=beq_false_of_ne e1
  obtain⟨en0,en1⟩:0<=en.1/\en.1<m.p.vertices.length:=by
   rcases her en hmem with h|h
   exact absurd h e1;exact h
  cases hbe:en.2 with
  |nil=>
   have hn:Za cr 1 (V.int .i64) (Zb en.2)=.nils:=by rw[hbe];rfl
   refine Zf (zi q1 (zi Z8c hn)) ?_;refine Z8d [wkV b c d e f g m x,Za cr 1 (V.int .i64) .nil] ⟨Fz.same _,Fz.same _,trivial⟩ ?_;refine Zc hG ?_ (s:=Z0i G hG _ _ _ _ _ _ _ m _ .nil zd (λt ht=>by cases ht) hwf.sc)
   have hB:m.p.endB q.1 k=((List.range k).all λi=>m.p.orthoB (PM.endAt q.1 i).1 en.1):=by
    rw[PM.endB,hat,q1,hbe];rfl
   refine Zs ?_
   have hsl:((Zb q.1.ends).sub 0 k).l=q.1.ends.take k:=by rw[Ztt,Zl];simp
   have hsn:((Zb q.1.ends).sub 0 k).l.length=k:=by rw[hsl,List.length_take];omega
   have hmk:min k q.1.ends.length=k:=zo;refine Zf (zi Zna (zi hEs (zi hk (zi (Nat.zero_le k) (zi hmk (zi @Int.natCast_nonneg @Int.ofNat_lt)))))) ?_
   refine Zaa k (λj (_:Unit)=>st [(2,.view .new (wkV b c d e f g m x)),(3,.view .new (Z6a cr q)),(5,.view .new (.int .i64 src)),(6,.int .i64 k),(7,.view .new (Zpf cr en)),(16,Za cr 2 (Zpf cr) (Zb q.1.ends)),(17,.int .i64 q.1.ends.length),(18,.int .i64 k),(48,Za cr 2 (Zpf cr) ((Zb q.1.ends).sub 0 k)),(49,.int .i64 k),(50,.int .i64 j)] [])
    (λj _=>∀ i,i<j->m.p.orthoB (PM.endAt q.1 i).1 en.1=true) 0 () (Nat.zero_le _) (λi h=>absurd h (Nat.not_lt_zero _)) (Weak.st (by refine Zs ?_;exact⟨rfl,by rw[Z8c,hn],by rw[List.length_take,Nat.sub_zero,hmk]⟩) zp) ?_
   intro j _ hj hJ L2 hL2
   by_cases hj1:j<k
   .have hlt2:decide ((j:Int)<(k:Int))=true:=zT
    have hgj:=List.getElem?_eq_getElem (l:=q.1.ends) (i:=j) zo;have hmj:=List.getElem_mem (l:=q.1.ends) (n:=j) zo;generalize q.1.ends[j]'zo=fn at hgj hmj
    have haj:PM.endAt q.1 j=fn:=by rw[PM.endAt,List.getD_eq_getElem?_getD,hgj];rfl
    have hgs:(List.take (k-0) q.1.ends)[j]?=some fn:=by rw[Nat.sub_zero,List.getElem?_take,if_pos hj1,hgj]
    have hjl:j<(List.take (k-0) q.1.ends).length:=by rw[List.length_take,Nat.sub_zero];omega
    have hfe:=hR j hj1
    obtain⟨fn0,fn1⟩:0<=fn.1/\fn.1<m.p.vertices.length:=by
     rcases her fn hmj with h|h
     rw[PM.endB,haj,h]at hfe;simp at hfe;exact h
    have w2:IntKind.i64.wrap ((j:Int)+1)=(j:Int)+1:=w64 zo zo;have hltN:decide (j<k)=true:=decide_eq_true hj1;refine Zf (zi hltN (zi hj1 (zi hgs (zi hjl (zi Z8c (zi @Int.natCast_nonneg @Int.ofNat_lt)))))) ?_;intro g9;refine Z ?_
    repeat first|refine AW.block ?_|refine Z6 ?_
    refine Zp ⟨λ_=>.bool (m.p.orthoB fn.1 en.1),λ_=>.pure⟩ zk hG zk zk ?_;simp -implicitDefEqProofs only[go_sem,seval,Z8c,Z1e];refine⟨⟨by kernel_rfl,?_⟩,?_⟩;simp -implicitDefEqProofs only[go_sem,seval,List.map_cons,List.map_nil]
    exact(Z0q G hG _ _ _ _ m.p hwf.acy (hx.rc _) fn.1 en.1 fn0 fn1 en0 en1).mono λw _ e=>by rw[e];rfl
    cases qo:m.p.orthoB fn.1 en.1
    have hf:m.p.endB q.1 k=false:=by
     rw[hB,List.all_eq_false];exact⟨j,List.mem_range.2 hj1,by rw[haj,qo];simp⟩
    rw[hno hf];refine Zf qo ?_;rfl;refine Zf (zi qo w2) ?_;refine hL2 _ ⟨hj1,(),λi hi=>?_,Weak.st (by refine Zs ?_;exact⟨rfl,rfl,rfl⟩) zp⟩
    rcases Nat.lt_succ_iff_lt_or_eq.1 hi with h|h
    exact hJ i h;subst h;rw[haj];exact qo
   have hje:j=k:=zo;have hlt2:decide ((k:Int)<(k:Int))=false:=zF;rw[hje]at hJ⊢;have w1:IntKind.i64.wrap ((k:Int)+1)=(k:Int)+1:=w64 zo zo;refine Zf (zi hlt2 w1) ?_;refine hL _ ⟨hk1,(),λi hi=>?_,Weak.st zp zp⟩
   rcases Nat.lt_succ_iff_lt_or_eq.1 hi with h|h
   exact hR i h;subst h;rw[hB,List.all_eq_true];exact λi hi=>hJ i (List.mem_range.1 hi)
  |cons t0 tr=>
   have hn:Za cr 1 (V.int .i64) (Zb en.2)=.slice cr false 1 (en.2.map (V.int .i64)):=by rw[hbe];rfl
   refine Zf (zi q1 (zi Z8c hn)) ?_;intro g34;refine Z1a 34 [wkV b c d e f g m x,.int .i64 en.1,Za .new 1 (V.int .u8) (.mk false [1])] ⟨Fz.same _,Fz.same _,Z2b (f:=V.int .u8) (l:=[1]) (m:=1) (g:=g34) (fz:=0) (c:=.new) rfl zp (λ_=>rfl),trivial⟩ ?_;refine Zc hG ?_ (s:=Z1d G hG _ _ _ _ _ _ _ m _ en.1 en0 en1 _ zd);rw[con1]
   have hne:(en.2==[])=false:=by rw[hbe];rfl
   cases qk:(m.p.kd en.1==1);rw[hno (by rw[PM.endB,hat,q1,hne,qk];rfl)];refine Zg (zi qk hn) ?_;rfl;refine Zg (zi qk hn) ?_;refine Z8d [wkV b c d e f g m x,Za cr 1 (V.int .i64) (Zb en.2)] ⟨Fz.same _,by rw[hn];exact Fz.same _,trivial⟩ ?_;refine Zc hG ?_ (s:=Z0i G hG _ _ _ _ _ _ _ m _ (Zb en.2) (by rw[Zl];exact Nat.lt_of_lt_of_le (hbl en hmem) zd) (λt ht=>hbr en hmem t (by rw[Zl]at ht;exact ht)) hwf.sc);cases qf:m.p.forkedB en.2
   have hB:m.p.endB q.1 k=((List.range k).all λi=>m.p.orthoB (PM.endAt q.1 i).1 en.1):=by
    rw[PM.endB,hat,q1,hne,qk,qf];rfl
   refine Zsf qf ?_
   have hsl:((Zb q.1.ends).sub 0 k).l=q.1.ends.take k:=by rw[Ztt,Zl];simp
   have hsn:((Zb q.1.ends).sub 0 k).l.length=k:=by rw[hsl,List.length_take];omega
   have hmk:min k q.1.ends.length=k:=zo;refine Zf (zi Zna (zi hEs (zi hk (zi (Nat.zero_le k) (zi hmk (zi @Int.natCast_nonneg @Int.ofNat_lt)))))) ?_
   refine Zaa k (λj (_:Unit)=>st [(2,.view .new (wkV b c d e f g m x)),(3,.view .new (Z6a cr q)),(5,.view .new (.int .i64 src)),(6,.int .i64 k),(7,.view .new (Zpf cr en)),(16,Za cr 2 (Zpf cr) (Zb q.1.ends)),(17,.int .i64 q.1.ends.length),(18,.int .i64 k),(48,Za cr 2 (Zpf cr) ((Zb q.1.ends).sub 0 k)),(49,.int .i64 k),(50,.int .i64 j)] [])
    (λj _=>∀ i,i<j->m.p.orthoB (PM.endAt q.1 i).1 en.1=true) 0 () (Nat.zero_le _) (λi h=>absurd h (Nat.not_lt_zero _)) (Weak.st (by refine Zs ?_;exact⟨rfl,by rw[Z8c,hn],by rw[List.length_take,Nat.sub_zero,hmk]⟩) zp) ?_
   intro j _ hj hJ L2 hL2
   by_cases hj1:j<k
   .have hlt2:decide ((j:Int)<(k:Int))=true:=zT
    have hgj:=List.getElem?_eq_getElem (l:=q.1.ends) (i:=j) zo;have hmj:=List.getElem_mem (l:=q.1.ends) (n:=j) zo;generalize q.1.ends[j]'zo=fn at hgj hmj
    have haj:PM.endAt q.1 j=fn:=by rw[PM.endAt,List.getD_eq_getElem?_getD,hgj];rfl
    have hgs:(List.take (k-0) q.1.ends)[j]?=some fn:=by rw[Nat.sub_zero,List.getElem?_take,if_pos hj1,hgj]
    have hjl:j<(List.take (k-0) q.1.ends).length:=by rw[List.length_take,Nat.sub_zero];omega
    have hfe:=hR j hj1
    obtain⟨fn0,fn1⟩:0<=fn.1/\fn.1<m.p.vertices.length:=by
     rcases her fn hmj with h|h
     rw[PM.endB,haj,h]at hfe;simp at hfe;exact h
    have w2:IntKind.i64.wrap ((j:Int)+1)=(j:Int)+1:=w64 zo zo;have hltN:decide (j<k)=true:=decide_eq_true hj1;refine Zf (zi hltN (zi hj1 (zi hgs (zi hjl (zi Z8c (zi @Int.natCast_nonneg @Int.ofNat_lt)))))) ?_;intro g9;refine Z ?_
    repeat first|refine AW.block ?_|refine Z6 ?_
    refine Zp ⟨λ_=>.bool (m.p.orthoB fn.1 en.1),λ_=>.pure⟩ zk hG zk zk ?_;simp -implicitDefEqProofs only[go_sem,seval,Z8c,Z1e];refine⟨⟨by kernel_rfl,?_⟩,?_⟩;simp -implicitDefEqProofs only[go_sem,seval,List.map_cons,List.map_nil]
    exact(Z0q G hG _ _ _ _ m.p hwf.acy (hx.rc _) fn.1 en.1 fn0 fn1 en0 en1).mono λw _ e=>by rw[e];rfl
    cases qo:m.p.orthoB fn.1 en.1
    have hf:m.p.endB q.1 k=false:=by
     rw[hB,List.all_eq_false];exact⟨j,List.mem_range.2 hj1,by rw[haj,qo];simp⟩
    rw[hno hf];refine Zf qo ?_;rfl;refine Zf (zi qo w2) ?_;refine hL2 _ ⟨hj1,(),λi hi=>?_,Weak.st (by refine Zs ?_;exact⟨rfl,rfl,rfl⟩) zp⟩
    rcases Nat.lt_succ_iff_lt_or_eq.1 hi with h|h
    exact hJ i h;subst h;rw[haj];exact qo
   have hje:j=k:=zo;have hlt2:decide ((k:Int)<(k:Int))=false:=zF;rw[hje]at hJ⊢;have w1:IntKind.i64.wrap ((k:Int)+1)=(k:Int)+1:=w64 zo zo;refine Zf (zi hlt2 w1) ?_;refine hL _ ⟨hk1,(),λi hi=>?_,Weak.st zp zp⟩
   rcases Nat.lt_succ_iff_lt_or_eq.1 hi with h|h
   exact hR i h;subst h;rw[hB,List.all_eq_true];exact λi hi=>hJ i (List.mem_range.1 hi);rw[hno (by rw[PM.endB,hat,q1,hne,qk,qf];rfl)];refine Zg qf ?_;rfl
 .have hke:k=q.1.ends.length:=zo
  have hlt:decide ((q.1.ends.length:Int)<(q.1.ends.length:Int))=false:=zF;rw[hke]at hR⊢
  have hall:((List.range q.1.ends.length).all λi=>m.p.endB q.1 i)=true:=by
   rw[List.all_eq_true];exact λi hi=>hR i (List.mem_range.1 hi)
  rw[PM.rightS,hall,Bool.true_and,hsrc];refine Zf (zi hlt Zna) ?_;intro g68;refine Z1a 68 [wkV b c d e f g m x,.int .i64 src,Za .new 1 (V.int .u8) (.mk false [3,8,9])] ⟨Fz.same _,Fz.same _,Z2b (f:=V.int .u8) (l:=[3,8,9]) (m:=1) (g:=g68) (fz:=0) (c:=.new) rfl zp (λ_=>rfl),trivial⟩ ?_;refine Zc hG ?_ (s:=Z1d G hG _ _ _ _ _ _ _ m _ src s0 s1 _ zd);rw[con3,<- show m.p.fixB src=(m.p.kd src==3||m.p.kd src==8||m.p.kd src==9)from rfl];cases qx:m.p.fixB src
  .refine Zg (zi qx Zna) ?_
   intro g10;refine Zf (zi qx Zna) ?_;refine Z1a 10 [Za cr 1 (V.int .i64) (Zb q.2),.func (.func 68) [] [.view .new (.bool (m.p.fixB src)),.view .new (wkV b c d e f g m x),.view .new (.int .i64 src),.view .new (Z6a cr q)]] ⟨Fz.same _,by rw[qx];exact Fz.func ⟨Fz.ptr (c:=.new) (fz:=0) zp zp,Fz.same _,Fz.same _,Fz.same _,trivial⟩,trivial⟩ ?_
   refine Zc hG ?_ (ha:=by simp only[List.map_cons,List.map_nil,Z7a,V.recol,Zja,Zae,Zbe]) (s:=Zfl G hG cr.ent 68 (λcaps=>∃ cr b1 b2 b3 b4 b c d e f g x,IxP m.p x/\caps=[.view b1 (.bool (m.p.fixB src)),.view b2 (wkV b c d e f g m x),.view b3 (.int .i64 src),.view b4 (Z6a cr q)]) (by
    rintro _ ⟨cr,b1,b2,b3,b4,b,c,d,e,f,g,x,hx,rfl⟩
    exact⟨_,_,_,_,_,_,_,_,_,_,_,_,hx.rc _,by simp only[List.map_cons,List.map_nil,V.recol,Zae,Zbe];rfl⟩) [.view Col.new.ent (.bool (m.p.fixB src)),.view Col.new.ent (wkV b.ent c.ent d.ent e.ent f.ent g.ent m (x.rc Col.ent)),.view Col.new.ent (.int .i64 src),.view Col.new.ent (Z6a cr.ent q)] ⟨_,_,_,_,_,_,_,_,_,_,_,_,hx.rc _,rfl⟩ zk (λv => !(m.p.inReach q.1 v)) (Zb q.2) (by rw[Zl];exact Nat.lt_of_lt_of_le hrl zd) (by
    rintro v hv _ ⟨cr,b1,b2,b3,b4,b,c,d,e,f,g,x,hx,rfl⟩;rw[Zl]at hv;obtain⟨v0,v1⟩:=hrr v hv
    exact Zon G hG cr b1 b2 b3 b4 b c d e f g m x hx hwf q src v hsrc.symm v0 v1 s0 s1 f0 f1))
   refine Z ?_
   skip
   first|rfl|(rw[List.all_eq_not_any_not];first|rfl|simp)
  .refine Zg (zi qx Zna) ?_
   intro g10;refine Zf (zi qx Zna) ?_;refine Z8d [wkV b c d e f g m x,Za cr 1 (V.int .i64) (Zb q.1.effects)] ⟨Fz.same _,Fz.same _,trivial⟩ ?_;refine Zc hG ?_ (s:=Z0i G hG _ _ _ _ _ _ _ m _ (Zb q.1.effects) (by rw[Zl];exact Nat.lt_of_lt_of_le hfl zd) (λt ht=>hfr t (by rw[Zl]at ht;exact ht)) hwf.sc);cases qf:m.p.forkedB q.1.effects
   .refine Zg (zi qf Zna) ?_
    refine Z1a 10 [Za cr 1 (V.int .i64) (Zb q.2),.func (.func 68) [] [.view .new (.bool (m.p.fixB src)),.view .new (wkV b c d e f g m x),.view .new (.int .i64 src),.view .new (Z6a cr q)]] ⟨Fz.same _,by rw[qx];exact Fz.func ⟨Fz.ptr (c:=.new) (fz:=0) zp zp,Fz.same _,Fz.same _,Fz.same _,trivial⟩,trivial⟩ ?_
    refine Zc hG ?_ (ha:=by simp only[List.map_cons,List.map_nil,Z7a,V.recol,Zja,Zae,Zbe]) (s:=Zfl G hG cr.ent 68 (λcaps=>∃ cr b1 b2 b3 b4 b c d e f g x,IxP m.p x/\caps=[.view b1 (.bool (m.p.fixB src)),.view b2 (wkV b c d e f g m x),.view b3 (.int .i64 src),.view b4 (Z6a cr q)]) (by
     rintro _ ⟨cr,b1,b2,b3,b4,b,c,d,e,f,g,x,hx,rfl⟩
     exact⟨_,_,_,_,_,_,_,_,_,_,_,_,hx.rc _,by simp only[List.map_cons,List.map_nil,V.recol,Zae,Zbe];rfl⟩) [.view Col.new.ent (.bool (m.p.fixB src)),.view Col.new.ent (wkV b.ent c.ent d.ent e.ent f.ent g.ent m (x.rc Col.ent)),.view Col.new.ent (.int .i64 src),.view Col.new.ent (Z6a cr.ent q)] ⟨_,_,_,_,_,_,_,_,_,_,_,_,hx.rc _,rfl⟩ zk (λv => !(m.p.inReach q.1 v)) (Zb q.2) (by rw[Zl];exact Nat.lt_of_lt_of_le hrl zd) (by
     rintro v hv _ ⟨cr,b1,b2,b3,b4,b,c,d,e,f,g,x,hx,rfl⟩;rw[Zl]at hv;obtain⟨v0,v1⟩:=hrr v hv
     exact Zon G hG cr b1 b2 b3 b4 b c d e f g m x hx hwf q src v hsrc.symm v0 v1 s0 s1 f0 f1))
    refine Z ?_
    skip
    first|rfl|(rw[List.all_eq_not_any_not];first|rfl|simp)
   refine Zg (zi qf Zna) ?_
   first|rfl|simp
end Go.Hs
end

section
namespace Go.Hs
open Go.Proofs
set_option maxHeartbeats 1000000
set_option maxRecDepth 10000
theorem isI(s:List UInt8):((isP s:Int)==2)=(isP s==2):=by rw[Bool.eq_iff_iff,beq_iff_eq,beq_iff_eq];omega
theorem Z3ea(c d:Col)(m:MdM):[V.view .old (Z4 c.ent d.ent m)].map (V.recol Col.ent)=[V.view .old (Z4 c.ent d.ent m)]:=by
 simp only[List.map_cons,List.map_nil,V.recol,Zwj,Zuo];rfl
theorem Ziha(G:Nat->V)(hE:GExp G)(c1 c d:Col)(m:MdM)(hl:m.vars.l.length<1000000)(i:Nat){x:List UInt8×Int}(hg:m.vars.l[i]?=some x)(hx:x.1.length<1000000000000000):
  Spec Tryz.prog G 148 [.int .i64 i,Zua x,.view c1 (Z4 c d m)] Zk (λv _=>v=.bool (m.p.varB i)):=by
 have hG:=hE.ok;refine Zo 0 24 [.tmp 5] Tryz.func148 λX=>?_;have hi:i<m.vars.l.length:=(List.getElem?_eq_some_iff.1 hg).1
 have hn:m.p.nameAt i=x.1:=by
  show(m.vars.l.getD i ([],0)).1=x.1
  rw[List.getD_eq_getElem?_getD,hg]<;>rfl
 rw[PM.varB,hn];simp only[Zj,Z3b];refine Z ?_;intro g4;refine AW.weak (Zw (λo=>o==4) (l:=[(0,.int .i64 i),(2,.view c1 (Z4 c d m)),(4,.view .new (Zua x))]) (m:=[]) ?_ trivial) ?_;refine Zsf @Zj ?_;exact⟨Fz.same _,Fz.same _,Fz.ptr (v:=Zua x) (c:=.new) (fz:=0) zp zp⟩;simp only[Zj];refine Zf Z3b ?_;refine Zc hG ?_ (s:=Zmf G hE x.1 hx);have h0:=isI x.1
 cases h1:(isP x.1==2)with
 |false=>
  rw[h1]at h0;exact Zh h0
 |true=>
  rw[h1]at h0
  cases h2:(x.1==Zap)with
  |true=>
   have q:(x.1==[97,114,103])=true:=h2;exact Zh (zi h0 (zi q Z3b))
  |false=>
   have q:(x.1==[97,114,103])=false:=h2;refine Zg (zi h0 (zi q (zi Z3b (zi (Nat.zero_le i) (Nat.le_of_lt hi))))) ?_;have hSp:=Zzha G hG c.ent .old (m.vars.sub 0 i) (by rw[Zoq];simp;omega) x;rw[Zoq]at hSp;refine Zcf @Z3b hG ?_ (s:=hSp);exact Zr
theorem Zjha(G:Nat->V)(hE:GExp G)(c1 c d:Col)(m:MdM)(hl:m.events.l.length<1000000)(i:Nat){x:List UInt8}(hg:m.events.l[i]?=some x)(hx:x.length<1000000000000000):
  Spec Tryz.prog G 152 [.int .i64 i,.str x,.view c1 (Z4 c d m)] Zk (λv _=>v=.bool (m.p.signalB i)):=by
 have hG:=hE.ok;refine Zo 0 18 [.tmp 5] Tryz.func152 λX=>?_;have hi:i<m.events.l.length:=(List.getElem?_eq_some_iff.1 hg).1
 have hn:m.p.events.getD i []=x:=by
  show m.events.l.getD i []=x
  rw[List.getD_eq_getElem?_getD,hg]<;>rfl
 rw[PM.signalB,hn];simp only[Zj];refine Z ?_;refine Zc hG ?_ (s:=Zmf G hE x hx);have h0:=isI x
 cases h1:(isP x==2)with
 |false=>
  rw[h1]at h0;exact Zh h0
 |true=>
  rw[h1]at h0;refine Zg (zi h0 (zi (Nat.zero_le i) (Nat.le_of_lt hi))) ?_;have hSp:=Z5c G hG c.ent x (m.events.sub 0 i) (by rw[Zoq];simp;omega);rw[Zoq]at hSp;refine Zc hG ?_ (s:=hSp);exact Zr
theorem Zkha(G:Nat->V)(hE:GExp G)(c1 c d:Col)(m:MdM)(i:Nat){x:List UInt8×Int}(hg:m.regions.l[i]?=some x)(hx:x.1.length<1000000000000000):
  Spec Tryz.prog G 155 [.int .i64 i,Zua x,.view c1 (Z4 c d m)] Zk (λv _=>v=.bool (m.p.regionB i)):=by
 have hG:=hE.ok;refine Zo 0 35 [.tmp 5] Tryz.func155 λX=>?_
 have hn:(m.p.regions.getD i ([],0))=x:=by
  show m.regions.l.getD i ([],0)=x
  rw[List.getD_eq_getElem?_getD,hg]<;>rfl
 have ho:m.p.ow (i:Int)=x.2:=Zqp hg;rw[PM.regionB,hn];simp only[Zj,Z3b];refine Z ?_;intro g4
 by_cases h:i=0
 .rw[if_pos h]
  rw[h]at ho;rw[show m.p.ow 0=x.2 from ho]
  have q:((i:Int)==0)=true:=by simp[h]
  refine Zf q ?_;refine Zc hG ?_ (s:=Z0d G hE x.1 hx)
  cases h1:Z5e x.1 with
  |false=>exact Zh h1
  |true=>exact Zh h1
 .rw[if_neg h,ho]
  have q:((i:Int)==0)=false:=by
   have:¬ (i:Int)=0:=zo;simpa using this
  refine Zf q ?_;refine Zc hG ?_ (s:=Z0d G hE x.1 hx)
  cases h1:Z5e x.1 with
  |false=>exact Zh h1
  |true=>
   refine Zg h1 ?_;refine Zc hG ?_ (s:=Zwi G c.ent d.ent m x.2)
   cases h2:m.p.stateB x.2 with
   |false=>exact Zh h2
   |true=>
    have h3:=h2;simp only[PM.stateB,Bool.and_eq_true,decide_eq_true_eq]at h3;obtain⟨k,y,hk0,hk,hkg,hy⟩:=MdM.at h3.1.1 h3.1.2;rw[hy];exact Zh (zi hk0 (zi hkg (zi hk (zi Zt (zi @Int.natCast_nonneg @Int.ofNat_lt)))))
theorem Zhha(G:Nat->V)(hE:GExp G)(c1 c d e:Col)(m:MdM)(he:m.events.l.length<1000000)(i:Nat){x:VtM}(hg:m.verts.l[i]?=some x)(b1:x.name.length<1000000000000000)(b2:x.sub.length<1000000000000000)(b3:x.defers.l.length<1000000):
  Spec Tryz.prog G 159 [.int .i64 i,Z5a e x,.view c1 (Z4 c d m)] Zk (λv _=>v=.bool (m.p.vertexB (m.p.vx i))):=by
 have hG:=hE.ok;refine Zo 0 75 [.tmp 5] Tryz.func159 λX=>?_;rw[Zwh hg]
 have hP:m.p.vertexB x.p=(Z5e x.name&&decide (1<=x.kind)&&decide (x.kind<=12)&&m.p.liesB x.p&&((x.entry==[]&&x.exit==[]&&decide (x.defers.l.length=0)&&x.sub==[])||x.kind==1)&&Z5e x.sub &&
  decide (x.entry.length<=4096)&&decide (x.exit.length<=4096)&&evB m.events.l x.defers.l):=rfl
 rw[hP];simp only[Zj,Zt];refine Z ?_;intro g4;refine AW.weak (Zw (λo=>o==4) (l:=[(2,.view c1 (Z4 c d m)),(4,.view .new (Z5a e x))]) (m:=[]) ?_ trivial) ?_;refine Zsf @Zj ?_;exact⟨Fz.same _,Fz.ptr (v:=Z5a e x) (c:=.new) (fz:=0) zp zp⟩;generalize hpl:(x.entry==[]&&x.exit==[]&&decide (x.defers.l.length=0)&&x.sub==[])=pl;refine Zlc (fun(_:Unit)=>st [(2,.view c1 (Z4 c d m)),(4,.view .new (Z5a e x)),(6,.bool pl)] []) (λ_=>True) (λK1 hK1=>?_) ?_
 .have hz:(((x.defers.l.length:Nat):Int)==0)=decide (x.defers.l.length=0):=by
   rw[Bool.eq_iff_iff,beq_iff_eq,decide_eq_true_eq];omega
  cases q1:(x.entry==[])with
  |false=>
   rw[q1]at hpl;subst hpl;refine Zf (zi q1 Zt) ?_;exact hK1 _ () trivial (Weak.st (zpf (zi @Zt @Zj)) zp)
  |true=>
  cases q2:(x.exit==[])with
  |false=>
   rw[q1,q2]at hpl;subst hpl;refine Zf (zi q1 (zi q2 Zt)) ?_;exact hK1 _ () trivial (Weak.st (zpf (zi @Zt @Zj)) zp)
  |true=>
  cases q3:decide (x.defers.l.length=0)with
  |false=>
   rw[q3]at hz;rw[q1,q2,q3]at hpl;subst hpl;refine Zf (zi q1 (zi q2 (zi hz Zt))) ?_;exact hK1 _ () trivial (Weak.st (zpf (zi @Zt @Zj)) zp)
  |true=>
   rw[q3]at hz;rw[q1,q2,q3]at hpl;subst hpl;refine Zf (zi q1 (zi q2 (zi hz Zt))) ?_;exact hK1 _ () trivial (Weak.st (zpf (zi @Zt @Zj)) zp)
 intro _ _;refine Zf Zt ?_;refine Zc hG ?_ (s:=Z0d G hE x.name b1);cases q1:Z5e x.name;exact Zh q1
 by_cases q2:1<=x.kind
 rotate_left;have f2:decide (x.kind>=1)=false:=zF;rw[decide_eq_false q2];exact Zh f2;have f2:decide (x.kind>=1)=true:=zT;rw[decide_eq_true q2]
 by_cases q3:x.kind<=12
 rotate_left;have f3:decide (x.kind<=12)=false:=zF;rw[f3];exact Zh (zi f2 (zi f3 Zt));have f3:decide (x.kind<=12)=true:=zT;rw[f3];refine Zg (zi f2 (zi f3 (zi Zt Zj))) ?_;refine Zc hG ?_ (s:=Zm9 G hG c.ent d.ent e.ent m x);cases q4:m.p.liesB x.p;exact Zh q4;cases pl;cases q5:(x.kind==1);exact Zh (zi q4 (zi q5 Zt));refine Zg (zi q4 (zi q5 (zi Zt Zj))) ?_;refine Zc hG ?_ (s:=Z0d G hE x.sub b2);cases q6:Z5e x.sub;exact Zh q6;have f7:decide (((x.entry.length:Nat):Int)<=4096)=decide (x.entry.length<=4096):=decide_eq_decide.2 zo;have f8:decide (((x.exit.length:Nat):Int)<=4096)=decide (x.exit.length<=4096):=decide_eq_decide.2 zo;cases q7:decide (x.entry.length<=4096);rw[q7]at f7;exact Zh (zi q6 (zi f7 Zt));rw[q7]at f7;cases q8:decide (x.exit.length<=4096);rw[q8]at f8;exact Zh (zi q6 (zi f7 (zi f8 Zt)));rw[q8]at f8;refine Zg (zi q6 (zi f7 (zi f8 (zi Zt Zj)))) ?_;refine Zc hG ?_ (s:=Zbh G hG c.ent d.ent e.ent m x.defers he b3);exact Zr;refine Zg (zi q4 (zi Zt Zj)) ?_;refine Zc hG ?_ (s:=Z0d G hE x.sub b2);cases q6:Z5e x.sub;exact Zh q6;have f7:decide (((x.entry.length:Nat):Int)<=4096)=decide (x.entry.length<=4096):=decide_eq_decide.2 zo;have f8:decide (((x.exit.length:Nat):Int)<=4096)=decide (x.exit.length<=4096):=decide_eq_decide.2 zo;cases q7:decide (x.entry.length<=4096);rw[q7]at f7;exact Zh (zi q6 (zi f7 Zt));rw[q7]at f7;cases q8:decide (x.exit.length<=4096);rw[q8]at f8;exact Zh (zi q6 (zi f7 (zi f8 Zt)))
 rw[q8]at f8;refine Zg (zi q6 (zi f7 (zi f8 (zi Zt Zj)))) ?_;refine Zc hG ?_ (s:=Zbh G hG c.ent d.ent e.ent m x.defers he b3);exact Zr
theorem Zeaa(G:Nat->V)(hG:GOk G)(c1 c d e:Col)(m:MdM)(hm:m.p.Rt5)(i:Nat){x:VtM}(hg:m.verts.l[i]?=some x):
  Spec Tryz.prog G 162 [.int .i64 i,Z5a e x,.view c1 (Z4 c d m)] Zk (λv _=>v=.bool (m.p.deepB i)):=by
 refine Zo 0 10 [.tmp 5] Tryz.func162 λX=>?_;have hi:i<m.verts.l.length:=(List.getElem?_eq_some_iff.1 hg).1;have hP:m.p.deepB i=decide (((m.p.depth i:Nat):Int)<=64):=decide_eq_decide.2 zo;rw[hP];simp only[Zj,Zt];refine Z ?_;intro g4;refine Z ?_;refine Zc hG ?_ (s:=Zh0 G hG c.ent d.ent m hm i zo (by rw[m.nv];omega));exact Zr
theorem Zv6(G:Nat->V)(c1 c d:Col)(m:MdM)(v:Int):Spec Tryz.prog G 164 [.int .i64 v,.view c1 (Z4 c d m)] Zk (λw _=>w=.bool (m.p.inV v)):=by
 refine Zo 0 13 [.tmp 3] Tryz.func164 λX=>?_;rw[PM.inV,m.nv];simp only[Zj]
 by_cases h0:0<=v
 have q:decide (v>=0)=true:=zT;rw[decide_eq_true h0];exact Zq q;have q:decide (v>=0)=false:=zF;rw[decide_eq_false h0];exact Zq q
theorem Zgha(G:Nat->V)(hE:GExp G)(c1 c2 c3 c d c' d' e:Col)(m:MdM)(he:m.events.l.length<1000000)(i:Nat){x:TrM}(hg:m.ways.l[i]?=some x)(b1:x.name.length<1000000000000000)(b3:x.triggers.l.length<1000000):
  Spec Tryz.prog G 166 [.int .i64 i,Z4b e x,.view c2 (.func (.func 164) [] [.view c3 (Z4 c' d' m)]),.view c1 (Z4 c d m)] Zk (λv _=>v=.bool (m.p.wayB (m.p.wy i))):=by
 have hG:=hE.ok;refine Zo 0 71 [.tmp 6] Tryz.func166 λX=>?_;rw[Zqk hg]
 have hP:m.p.wayB x.p=(Z5e x.name&&m.p.inV x.source&&m.p.inV x.target&&evB m.events.l x.triggers.l&&decide (0<=x.after)&&decide (x.after<=65535)&&(x.after==0||decide (x.triggers.l.length=0)) &&
  decide (1<=x.kind)&&decide (x.kind<=3)&&decide (x.guard.length<=4096)&&decide (x.effect.length<=4096)):=rfl
 rw[hP];simp only[Z8];refine Z ?_;intro g5;refine Zne zk ?_;simp -implicitDefEqProofs only[go_sem,seval,Z8,List.append_eq,List.cons_append,List.nil_append];refine Zc hG ?_ (s:=Z0d G hE x.name b1);cases q1:Z5e x.name;exact Zh q1;refine Zg q1 ?_;refine Zc hG ?_ (s:=Zv6 G c3.ent c'.ent d'.ent m x.source);cases q2:m.p.inV x.source;exact Zh q2;refine Zg q2 ?_;refine Zc hG ?_ (s:=Zv6 G c3.ent c'.ent d'.ent m x.target);cases q3:m.p.inV x.target;exact Zh q3;refine Zg (zi q3 Zj) ?_;refine Zc hG ?_ (s:=Zbh G hG c.ent d.ent e.ent m x.triggers he b3);cases q4:evB m.events.l x.triggers.l;exact Zh q4
 by_cases q5:0<=x.after
 rotate_left;have f5:decide (x.after>=0)=false:=zF;rw[decide_eq_false q5];exact Zh (zi q4 f5);have f5:decide (x.after>=0)=true:=zT;rw[decide_eq_true q5];cases q6:decide (x.after<=65535);exact Zh (zi q4 (zi f5 q6));have f:=zi q4 (zi f5 q6);cases q7:(x.after==0)
 have f8:(((x.triggers.l.length:Nat):Int)==0)=decide (x.triggers.l.length=0):=by
  rw[Bool.eq_iff_iff,beq_iff_eq,decide_eq_true_eq];omega
 cases q8:decide (x.triggers.l.length=0);rw[q8]at f8;exact Zh (zi f (zi q7 f8))
 .rw[q8]at f8
  by_cases q9:1<=x.kind
  rotate_left;have f9:decide (x.kind>=1)=false:=zF;rw[decide_eq_false q9];exact Zh (zi (zi f (zi q7 f8)) f9);have f9:decide (x.kind>=1)=true:=zT;rw[decide_eq_true q9];cases qa:decide (x.kind<=3);exact Zh (zi (zi f (zi q7 f8)) (zi f9 qa));have fb:decide (((x.guard.length:Nat):Int)<=4096)=decide (x.guard.length<=4096):=decide_eq_decide.2 zo;have fc:decide (((x.effect.length:Nat):Int)<=4096)=decide (x.effect.length<=4096):=decide_eq_decide.2 zo;cases qb:decide (x.guard.length<=4096);rw[qb]at fb;exact Zh (zi (zi f (zi q7 f8)) (zi f9 (zi qa fb)));rw[qb]at fb;exact Zh (zi (zi f (zi q7 f8)) (zi f9 (zi qa (zi fb fc))))
 .by_cases q9:1<=x.kind
  rotate_left;have f9:decide (x.kind>=1)=false:=zF;rw[decide_eq_false q9];exact Zh (zi (zi f q7) f9);have f9:decide (x.kind>=1)=true:=zT;rw[decide_eq_true q9];cases qa:decide (x.kind<=3);exact Zh (zi (zi f q7) (zi f9 qa));have fb:decide (((x.guard.length:Nat):Int)<=4096)=decide (x.guard.length<=4096):=decide_eq_decide.2 zo;have fc:decide (((x.effect.length:Nat):Int)<=4096)=decide (x.effect.length<=4096):=decide_eq_decide.2 zo;cases qb:decide (x.guard.length<=4096);rw[qb]at fb;exact Zh (zi (zi f q7) (zi f9 (zi qa fb)));rw[qb]at fb;exact Zh (zi (zi f q7) (zi f9 (zi qa (zi fb fc))))
theorem mdIm(b c d:Col)(m:MdM):(V.view b (Z4 c d m)).Im:=.view _ _ λy hy=>by
 simp only[Zj,V.cells,List.mem_cons,List.not_mem_nil,or_false]at hy
 rcases hy with rfl|rfl|rfl|rfl|rfl|rfl
 exact .str _;exact Zud vrIm _;exact Zud stIm _;exact Zud vrIm _;exact Zud (vtIm d) _;exact Zud (trIm d) _
theorem Zl9(G:Nat->V)(hE:GExp G)(c d:Col)(m:MdM)(hb:m.name.length<1000000000000000):Spec Tryz.prog G 88 [Z4 c d m] Zk (λv _=>v=Zdf (m.p.ruleF 0)):=by
 have hG:=hE.ok;refine Zo 0 9 [.cell 2 154] Tryz.func88 λX=>?_
 have hP:m.p.ruleF 0=if isP m.name=2 then(0,0,0)else(1,0,130):=rfl
 rw[hP];simp only[Zj];refine Z ?_;intro g1 g2;refine Z ?_;refine Zc hG ?_ (s:=Zmf G hE m.name hb)
 by_cases h:isP m.name=2
 rw[if_pos h]
 have h0:((isP m.name:Int) != 2)=false:=by simp[h]
 exact Zh h0;rw[if_neg h]
 have h0:((isP m.name:Int) != 2)=true:=by
  have:¬ (isP m.name:Int)=2:=zo;simpa using this
 exact Zh h0
theorem Zk9(G:Nat->V)(hE:GExp G)(c d:Col)(m:MdM)(hb:MdB m):Spec Tryz.prog G 89 [Z4 c d m] Zk (λv _=>v=Zdf (m.p.ruleF 1)):=by
 have hG:=hE.ok;refine Zo 0 7 [.cell 2 154] Tryz.func89 λX=>?_;have hP:m.p.ruleF 1=Zpb 2 64 m.p.varB m.vars.l.length:=rfl;rw[hP];have hl:=hb.nv;simp only[Zj];refine Z ?_;intro g1 g2;refine AW.weak (Zw (λo=>o==1) (l:=[(1,.view .new (Z4 c d m)),(2,.ptr 2 g2 0)]) (m:=[(2,.cells .new g2 0 [.int .u8 0,.int .i64 0,.int .i64 0])]) ?_ ?_) ?_;refine Zs ?_;exact⟨Fz.ptr (v:=Z4 c d m) (c:=.new) (fz:=0) zp zp,Fz.same _⟩;simp only[Zv,Zy,and_true];exact FzO.keep rfl zp;refine Zf Zj ?_;refine Zn hG ?_ (s:=Z1t G hG c.ent 2 64 m.vars zo (f:=148) (cap:=[.view .old (Z4 c.ent d.ent m)]) (p:=m.p.varB) ⟨by kernel_rfl,Z3ea c d m,λi x hx=>Ziha G hE .old c.ent d.ent m zo i hx (hb.var x (List.mem_of_getElem? hx))⟩);generalize Zpb 2 64 m.p.varB m.vars.l.length=r;simp only[Zdf];refine Zs ?_;exact Zr
theorem Z1fa(G:Nat->V)(hE:GExp G)(c d:Col)(m:MdM)(hb:MdB m):Spec Tryz.prog G 90 [Z4 c d m] Zk (λv _=>v=Zdf (m.p.ruleF 2)):=by
 have hG:=hE.ok;refine Zo 0 7 [.cell 2 154] Tryz.func90 λX=>?_;have hP:m.p.ruleF 2=Zpb 3 64 m.p.signalB m.events.l.length:=rfl;rw[hP];have hl:=hb.ne;simp only[Zj];refine Z ?_;intro g1 g2;refine AW.weak (Zw (λo=>o==1) (l:=[(1,.view .new (Z4 c d m)),(2,.ptr 2 g2 0)]) (m:=[(2,.cells .new g2 0 [.int .u8 0,.int .i64 0,.int .i64 0])]) ?_ ?_) ?_;refine Zs ?_;exact⟨Fz.ptr (v:=Z4 c d m) (c:=.new) (fz:=0) zp zp,Fz.same _⟩;simp only[Zv,Zy,and_true];exact FzO.keep rfl zp;refine Zf Zj ?_;refine Zn hG ?_ (s:=Z3t G hG c.ent 3 64 m.events zo (f:=152) (cap:=[.view .old (Z4 c.ent d.ent m)]) (p:=m.p.signalB) ⟨by kernel_rfl,Z3ea c d m,λi x hx=>Zjha G hE .old c.ent d.ent m zo i hx (hb.ev x (List.mem_of_getElem? hx))⟩);generalize Zpb 3 64 m.p.signalB m.events.l.length=r;simp only[Zdf];refine Zs ?_;exact Zr
theorem Z2fa(G:Nat->V)(hE:GExp G)(c d:Col)(m:MdM)(hb:MdB m):Spec Tryz.prog G 91 [Z4 c d m] Zk (λv _=>v=Zdf (m.p.ruleF 3)):=by
 have hG:=hE.ok;refine Zo 0 12 [.cell 2 154] Tryz.func91 λX=>?_
 have hP:m.p.ruleF 3=if m.regions.l=[]then(4,0,130)else Zpb 4 512 m.p.regionB m.regions.l.length:=rfl
 rw[hP];have hl:=hb.nr;simp only[Zj];refine Z ?_;intro g1 g2;refine AW.weak (Zw (λo=>o==1) (l:=[(1,.view .new (Z4 c d m)),(2,.ptr 2 g2 0)]) (m:=[(2,.cells .new g2 0 [.int .u8 0,.int .i64 0,.int .i64 0])]) ?_ ?_) ?_;refine Zs ?_;exact⟨Fz.ptr (v:=Z4 c d m) (c:=.new) (fz:=0) zp zp,Fz.same _⟩;simp only[Zv,Zy,and_true];exact FzO.keep rfl zp
 by_cases h:m.regions.l=[]
 rw[if_pos h]
 have q:(((m.regions.l.length:Nat):Int)==0)=true:=by rw[h]<;>rfl
 exact Zq (zi q Zj);rw[if_neg h]
 have q:(((m.regions.l.length:Nat):Int)==0)=false:=by
  have:m.regions.l.length≠0:=λe=>h (List.length_eq_zero_iff.1 e);have:¬ ((m.regions.l.length:Nat):Int)=0:=zo;simpa using this
 refine Zf (zi q Zj) ?_;refine Zn hG ?_ (s:=Z4t G hG c.ent 4 512 m.regions zo (f:=155) (cap:=[.view .old (Z4 c.ent d.ent m)]) (p:=m.p.regionB) ⟨by kernel_rfl,Z3ea c d m,λi x hx=>Zkha G hE .old c.ent d.ent m i hx (hb.rg x (List.mem_of_getElem? hx))⟩);generalize Zpb 4 512 m.p.regionB m.regions.l.length=r;simp only[Zdf];refine Zs ?_;exact Zr
theorem Z0fa(G:Nat->V)(hE:GExp G)(c d:Col)(m:MdM)(hb:MdB m):Spec Tryz.prog G 92 [Z4 c d m] Zk (λv _=>v=Zdf (m.p.ruleF 4)):=by
 have hG:=hE.ok;refine Zo 0 7 [.cell 2 154] Tryz.func92 λX=>?_
 have hP:m.p.ruleF 4=Zpb 5 512 (λi=>m.p.vertexB (m.p.vx i)) m.verts.l.length:=by
  show Zpb 5 512 _ m.p.vertices.length=_
  rw[m.nv]
 rw[hP];have hl:=hb.nx;have he:=hb.ne;simp only[Zj];refine Z ?_;intro g1 g2;refine AW.weak (Zw (λo=>o==1) (l:=[(1,.view .new (Z4 c d m)),(2,.ptr 2 g2 0)]) (m:=[(2,.cells .new g2 0 [.int .u8 0,.int .i64 0,.int .i64 0])]) ?_ ?_) ?_;refine Zs ?_;exact⟨Fz.ptr (v:=Z4 c d m) (c:=.new) (fz:=0) zp zp,Fz.same _⟩;simp only[Zv,Zy,and_true];exact FzO.keep rfl zp;refine Zf Zj ?_
 refine Zn hG ?_ (s:=Zpl G hG c.ent d.ent 5 512 m.verts zo (f:=159) (cap:=[.view .old (Z4 c.ent d.ent m)]) (p:=λi=>m.p.vertexB (m.p.vx i)) ⟨by kernel_rfl,Z3ea c d m,λi x hx=>by
  obtain⟨k1,k2,k3⟩:=hb.vt x (List.mem_of_getElem? hx)
  exact Zhha G hE .old c.ent d.ent _ m zo i hx k1 k2 k3⟩)
 generalize Zpb 5 512 (λi=>m.p.vertexB (m.p.vx i)) m.verts.l.length=r;simp only[Zdf];refine Zs ?_;exact Zr
theorem Zn9(G:Nat->V)(hE:GExp G)(c d:Col)(m:MdM)(hb:MdB m)(hm:m.p.Rt5):Spec Tryz.prog G 93 [Z4 c d m] Zk (λv _=>v=Zdf (m.p.ruleF 5)):=by
 have hG:=hE.ok;refine Zo 0 7 [.cell 2 154] Tryz.func93 λX=>?_
 have hP:m.p.ruleF 5=Zpb 5 512 m.p.deepB m.verts.l.length:=by
  show Zpb 5 512 _ m.p.vertices.length=_
  rw[m.nv]
 rw[hP];have hl:=hb.nx;simp only[Zj];refine Z ?_;intro g1 g2;refine AW.weak (Zw (λo=>o==1) (l:=[(1,.view .new (Z4 c d m)),(2,.ptr 2 g2 0)]) (m:=[(2,.cells .new g2 0 [.int .u8 0,.int .i64 0,.int .i64 0])]) ?_ ?_) ?_;refine Zs ?_;exact⟨Fz.ptr (v:=Z4 c d m) (c:=.new) (fz:=0) zp zp,Fz.same _⟩;simp only[Zv,Zy,and_true];exact FzO.keep rfl zp;refine Zf Zj ?_;refine Zn hG ?_ (s:=Zpl G hG c.ent d.ent 5 512 m.verts zo (f:=162) (cap:=[.view .old (Z4 c.ent d.ent m)]) (p:=m.p.deepB) ⟨by kernel_rfl,Z3ea c d m,λi x hx=>Zeaa G hG .old c.ent d.ent _ m hm i hx⟩);generalize Zpb 5 512 m.p.deepB m.verts.l.length=r;simp only[Zdf];refine Zs ?_;exact Zr
theorem rc_way(c d:Col)(m:MdM):[V.view .old (.func (.func 164) [] [.view .old (Z4 c.ent d.ent m)]),.view .old (Z4 c.ent d.ent m)].map (V.recol Col.ent)=[V.view .old (.func (.func 164) [] [.view .old (Z4 c.ent d.ent m)]),.view .old (Z4 c.ent d.ent m)]:=by
 simp only[List.map_cons,List.map_nil,V.recol,Z7,Zwj,Zuo];rfl
theorem Zj9(G:Nat->V)(hE:GExp G)(c d:Col)(m:MdM)(hb:MdB m):Spec Tryz.prog G 94 [Z4 c d m] Zk (λv _=>v=Zdf (m.p.ruleF 6)):=by
 have hG:=hE.ok;refine Zo 0 9 [.cell 2 154] Tryz.func94 λX=>?_
 have hP:m.p.ruleF 6=Zpb 6 512 (λi=>m.p.wayB (m.p.wy i)) m.ways.l.length:=by
  show Zpb 6 512 _ m.p.ways.length=_
  rw[m.nw]
 rw[hP];have hl:=hb.nw;have he:=hb.ne;simp only[Zj];refine Z ?_;intro g1 g2;refine AW.weak (Zw (λo=>o==1) (l:=[(1,.view .new (Z4 c d m)),(2,.ptr 2 g2 0)]) (m:=[(2,.cells .new g2 0 [.int .u8 0,.int .i64 0,.int .i64 0])]) ?_ ?_) ?_;refine Zs ?_;exact⟨Fz.ptr (v:=Z4 c d m) (c:=.new) (fz:=0) zp zp,Fz.same _⟩;simp only[Zv,Zy,and_true];exact FzO.keep rfl zp;refine Z ?_;intro g3;refine AW.weak (Zw (λo=>o==3) (l:=[(1,.view .new (Z4 c d m)),(2,.ptr 2 g2 0),(3,.view .new (.func (.func 164) [] [.view .new (Z4 c d m)]))]) (m:=[(2,.cells .new g2 0 [.int .u8 0,.int .i64 0,.int .i64 0])]) ?_ ?_) ?_;refine Zs ?_;exact⟨Fz.same _,Fz.same _,Fz.ptr (v:=.func (.func 164) [] [.view .new (Z4 c d m)]) (c:=.new) (fz:=0) zp zp⟩;simp only[Zv,Zy,and_true];exact FzO.keep rfl zp;refine Zf Zj ?_
 refine Zn hG ?_ (s:=Z2t G hG c.ent d.ent 6 512 m.ways zo (f:=166) (cap:=[.view .old (.func (.func 164) [] [.view .old (Z4 c.ent d.ent m)]),.view .old (Z4 c.ent d.ent m)]) (p:=λi=>m.p.wayB (m.p.wy i)) ⟨by kernel_rfl,rc_way c d m,λi x hx=>by
  obtain⟨k1,k2⟩:=hb.wy x (List.mem_of_getElem? hx)
  exact Zgha G hE .old .old .old c.ent d.ent c.ent d.ent _ m zo i hx k1 k2⟩)
 generalize Zpb 6 512 (λi=>m.p.wayB (m.p.wy i)) m.ways.l.length=r;simp only[Zdf];refine Zs ?_;exact Zr
def Zqo(rs:Nat->Nat×Int×Int)(n:Nat):Nat×Int×Int:=match(List.range n).find? (λi=>(rs i).1 != 0)with|some i=>rs i|none=>(0,0,0)
theorem Zvc{rs:Nat->Nat×Int×Int}{n i:Nat}(hi:i<n)(h:∀ j,j<i->(rs j).1=0)(hb:(rs i).1≠0):Zqo rs n=rs i:=by
 have:(List.range n).find? (λi=>(rs i).1 != 0)=some i:=by
  rw[List.find?_range_eq_some];exact⟨zu hb,List.mem_range.2 hi,λj hj=>by simp[h j hj]⟩
 rw[Zqo,this]
theorem Zpo{rs:Nat->Nat×Int×Int}{n:Nat}(h:∀ j,j<n->(rs j).1=0):Zqo rs n=(0,0,0):=by
 rw[Zqo,List.find?_eq_none.2 (λj hj=>by simp[h j (List.mem_range.1 hj)])]
theorem Ze8{part most:Nat}{p:Nat->Bool}{n:Nat}(hp:part≠0)(h:(Zpb part most p n).1=0):Zpb part most p n=(0,0,0):=by
 rw[Zpb]at h⊢
 cases hf:(List.range n).find? (λi=>i==most || !p i)with
 |some i=>rw[hf]at h;exact absurd h hp
 |none=>rfl
theorem Zzz(m:PM):m.rightP=Zqo m.ruleF 7:=by
 by_cases h0:(m.ruleF 0).1=0
 rotate_left;rw[Zvc (i:=0) zd (λj hj=>absurd hj (Nat.not_lt_zero _)) h0,PM.rightP,orE,if_pos h0]
 by_cases h1:(m.ruleF 1).1=0
 rotate_left
 rw[Zvc (i:=1) zd (λj hj=>by
  have:j=0:=zo
  rw[this];exact h0) h1,PM.rightP,orE,if_neg (λh=>h h0),orE,if_pos h1]
 by_cases h2:(m.ruleF 2).1=0
 rotate_left
 rw[Zvc (i:=2) zd (λj hj=>by
  have:j=0\/j=1:=zo
  rcases this with h|h<;>rw[h]<;>assumption) h2,PM.rightP,orE,if_neg (λh=>h h0),orE,if_neg (λh=>h h1),orE,if_pos h2]
 by_cases h3:(m.ruleF 3).1=0
 rotate_left
 rw[Zvc (i:=3) zd (λj hj=>by
  have:j=0\/j=1\/j=2:=zo
  rcases this with h|h|h<;>rw[h]<;>assumption) h3,PM.rightP,orE,if_neg (λh=>h h0),orE,if_neg (λh=>h h1),orE,if_neg (λh=>h h2),orE,if_pos h3]
 by_cases h4:(m.ruleF 4).1=0
 rotate_left
 rw[Zvc (i:=4) zd (λj hj=>by
  have:j=0\/j=1\/j=2\/j=3:=zo
  rcases this with h|h|h|h<;>rw[h]<;>assumption) h4,PM.rightP,orE,if_neg (λh=>h h0),orE,if_neg (λh=>h h1),orE,if_neg (λh=>h h2),orE,if_neg (λh=>h h3),orE,if_pos h4]
 by_cases h5:(m.ruleF 5).1=0
 rotate_left
 rw[Zvc (i:=5) zd (λj hj=>by
  have:j=0\/j=1\/j=2\/j=3\/j=4:=zo
  rcases this with h|h|h|h|h<;>rw[h]<;>assumption) h5,PM.rightP,orE,if_neg (λh=>h h0),orE,if_neg (λh=>h h1),orE,if_neg (λh=>h h2),orE,if_neg (λh=>h h3),orE,if_neg (λh=>h h4),orE,if_pos h5]
 have e:m.rightP=m.ruleF 6:=by
  rw[PM.rightP,orE,if_neg (λh=>h h0),orE,if_neg (λh=>h h1),orE,if_neg (λh=>h h2),orE,if_neg (λh=>h h3),orE,if_neg (λh=>h h4),orE,if_neg (λh=>h h5)]
 rw[e]
 by_cases h6:(m.ruleF 6).1=0
 rotate_left
 rw[Zvc (i:=6) zd (λj hj=>by
  have:j=0\/j=1\/j=2\/j=3\/j=4\/j=5:=zo
  rcases this with h|h|h|h|h|h<;>rw[h]<;>assumption) h6]
 rw[Zpo (λj hj=>by
  have:j=0\/j=1\/j=2\/j=3\/j=4\/j=5\/j=6:=zo
  rcases this with h|h|h|h|h|h|h<;>rw[h]<;>assumption)]
 exact Ze8 zd (show(Zpb 6 512 (λi=>m.wayB (m.wy i)) m.ways.length).1=0 from h6)
def Zyo(c d:Col)(m:MdM)(f:FuncId):V:=.func (.func f) [Z4 c d m] []
theorem Zu0(c d:Col)(m:MdM)(f:FuncId):Zyo c d m f=.func (.func f) [Z4 c d m] []:=rfl
theorem Zbla(g:Col->Col)(c d:Col)(m:MdM)(f:FuncId):(Zyo c d m f).recol g=Zyo (g c) (g d) m f:=by
 simp only[Zu0,V.recol,Z7,List.map_cons,List.map_nil,Zwj]
theorem Zcaa(G:Nat->V)(hG:GOk G)(c1 c d:Col)(m:MdM)(l:Sl FuncId)(hl:l.l.length<1000000)(rs:Nat->Nat×Int×Int)
  (h:∀ k f,l.l[k]?=some f->(∀ j,j<k->(rs j).1=0)->Z2 Tryz.prog f=true/\Spec Tryz.prog G f [Z4 c.ent d.ent m] Zk (λv _=>v=Zdf (rs k))):
  Spec Tryz.prog G 87 [Za c1 1 (Zyo c d m) l] Zk (λv _=>v=Zdf (Zqo rs l.l.length)):=by
 refine Zo 0 20 [.cell 2 154] Tryz.func87 λX=>?_;refine Z ?_;intro g2;refine Z ?_
 refine Zaa l.l.length (λk (_:Unit)=>st [(2,.ptr 2 g2 0),(6,Za c1 1 (Zyo c d m) l),(7,.int .i64 l.l.length),(8,.int .i64 k)] [(2,.cells .new g2 0 [.int .u8 0,.int .i64 0,.int .i64 0])])
  (λk _=>∀ j,j<k->(rs j).1=0) 0 () (Nat.zero_le _) (λi h=>absurd h (Nat.not_lt_zero _)) (Weak.st zp zp) ?_
 intro k _ hk hR L3 hL3
 by_cases hk1:k<l.l.length
 have hlt:decide ((k:Int)<(l.l.length:Int))=true:=zT;have hg:=List.getElem?_eq_getElem hk1;generalize l.l[k]=x at hg;have w1:IntKind.i64.wrap ((k:Int)+1)=(k:Int)+1:=w64 zo zo;obtain⟨he,hsp⟩:=h k x hg hR;refine Zf (zi hlt (zi hg Zu0)) ?_;refine Zn hG ?_ (e:=he) (s:=hsp);generalize hr:rs k=r at hsp;simp only[Zdf];refine Zs ?_;intro g5
 by_cases hz:r.1=0
 have q:(((r.1:Nat):Int) != 0)=false:=by simp[hz]
 refine Zf (zi q w1) ?_;refine hL3 _ ⟨hk1,(),λj hj=>?_,Weak.st zp zp⟩
 by_cases h3:j=k
 rw[h3,hr];exact hz;exact hR j zo
 have q:(((r.1:Nat):Int) != 0)=true:=by
  have:¬ ((r.1:Nat):Int)=0:=zo;simpa using this
 rw[Zvc hk1 hR (by rw[hr];exact hz),hr];exact Zq q;have hke:k=l.l.length:=zo;subst hke;have hlt:decide ((l.l.length:Int)<(l.l.length:Int))=false:=zS;rw[Zpo hR];exact Zq hlt
theorem fmIm(c d:Col)(m:MdM)(f:FuncId):∀ y∈(Zyo c d m f).cells,y.Im:=λy hy=>by
 simp only[Zu0,V.cells,List.mem_cons,List.not_mem_nil,or_false]at hy;rw[hy];refine .func _ _ _ (λx hx=>?_) (λx hx=>by cases hx);rw[List.mem_singleton.1 hx]
 cases mdIm .old c d m with
 |view _ _ h=>exact .agg _ h
def rgF:List FuncId:=[88,89,90,91,92,93,94]
theorem Rd.rgF{H:Heap}{g:Nat}{c d:Col}{m:MdM}(h:H 20=.cells .new g 0 (flat (rgF.map (Zyo c d m)))):Rd H (.msl 20 g 0 7 1) (Za .old 1 (Zyo c.ent d.ent m) (.mk false Go.Hs.rgF)):=
 Rd.msl (l:=Go.Hs.rgF) (off:=0) (n:=7) (m:=1) (f:=Zyo c d m) (f':=Zyo c.ent d.ent m) (g:=g) (fz:=0) (c:=.new) h (λ_=>rfl) (fmIm c d m) (λf=>Zbla _ c d m f) zd
theorem flFl(r:Nat×Int×Int):(Zdf r).Fl:=.agg _ λy hy=>by
 simp only[List.mem_cons,List.not_mem_nil,or_false]at hy
 rcases hy with rfl|rfl|rfl<;>exact .int _ _
theorem Zsq(G:Nat->V)(hE:GExp G)(c d:Col)(m:MdM)(hb:MdB m):Spec Tryz.prog G 52 [Z4 c d m] Zk (λv _=>v=.tuple [.int .u8 m.p.rightP.1,.int .i64 m.p.rightP.2.1,.int .i64 m.p.rightP.2.2]):=by
 have hG:=hE.ok;refine Zo 0 28 [.tmp 2,.tmp 3,.tmp 4] Tryz.func52 λX=>?_;rw[Zzz];simp only[Zj];refine Z ?_;intro g1;refine Z ?_;intro g20;refine Zs ?_;refine CallA.bor hG [Za .old 1 (Zyo c.ent d.ent m) (.mk false rgF)] zk ⟨Rd.rgF zp,trivial⟩ ?_;refine(Zcaa G hG .old c.ent d.ent m (.mk false rgF) zd m.p.ruleF ?_).mono ?_
 .intro k f hk h0
  rw[Zuo,Zuo]
  match k,hk with
  |0,hk=>obtain rfl:=Option.some.inj hk;exact⟨by kernel_rfl,Zl9 G hE _ _ m hb.nm⟩
  |1,hk=>obtain rfl:=Option.some.inj hk;exact⟨by kernel_rfl,Zk9 G hE _ _ m hb⟩
  |2,hk=>obtain rfl:=Option.some.inj hk;exact⟨by kernel_rfl,Z1fa G hE _ _ m hb⟩
  |3,hk=>obtain rfl:=Option.some.inj hk;exact⟨by kernel_rfl,Z2fa G hE _ _ m hb⟩
  |4,hk=>obtain rfl:=Option.some.inj hk;exact⟨by kernel_rfl,Z0fa G hE _ _ m hb⟩
  |5,hk=>obtain rfl:=Option.some.inj hk;exact⟨by kernel_rfl,Zn9 G hE _ _ m hb (PM.rt_vt (h0 3 zd) (h0 4 zd))⟩
  |6,hk=>obtain rfl:=Option.some.inj hk;exact⟨by kernel_rfl,Zj9 G hE _ _ m hb⟩
  |k+7,hk=>cases hk
 rintro _ _ rfl;refine⟨flFl _,?_⟩
 show _
 simp only[show(Sl.mk false rgF).l.length=7 from rfl];generalize Zqo m.p.ruleF 7=r;simp only[Zdf];refine Zs ?_;intro g5;refine ZT hG ?_;exact Zr
end Go.Hs
end

section
namespace Go.Hs
section
namespace PM
variable(m:PM)
def ownK(n:Nat):List (Int×List Int):=(List.range n).foldl (λL (r:Nat)=>Zsk L (m.ow (r:Int)) (r:Int)) []
def pntK(n:Nat):List (Int×List Int):=(List.range n).foldl (λL (i:Nat)=>if 0<=(m.vx (i:Int)).of then Zsk L (m.vx (i:Int)).of (i:Int)else L) []
def kidL(n:Nat)(r:Nat):List Int:=((List.range n).filter fun(i:Nat)=>decide ((m.vx (i:Int)).of<0)&&(m.vx (i:Int)).region==(r:Int)).map fun(i:Nat)=>(i:Int)
variable{m}
theorem ownK_succ(n:Nat):m.ownK (n+1)=Zsk (m.ownK n) (m.ow (n:Int)) (n:Int):=by
 rw[ownK,List.range_succ,List.foldl_append];rfl
theorem pntK_pt{n:Nat}(h:0<=(m.vx (n:Int)).of):m.pntK (n+1)=Zsk (m.pntK n) (m.vx (n:Int)).of (n:Int):=by
 rw[pntK,List.range_succ,List.foldl_append]
 show(if _ then _ else _)=_
 rw[if_pos h];rfl
theorem pntK_no{n:Nat}(h:¬ 0<=(m.vx (n:Int)).of):m.pntK (n+1)=m.pntK n:=by
 rw[pntK,List.range_succ,List.foldl_append]
 show(if _ then _ else _)=_
 rw[if_neg h];rfl
theorem kidL_pt{n:Nat}(h:0<=(m.vx (n:Int)).of):m.kidL (n+1)=m.kidL n:=by
 funext r
 rw[kidL,List.range_succ,List.filter_append,List.filter_cons_of_neg (by simp;intro q;omega)];simp[kidL]
theorem kidL_at{n r:Nat}(h:(m.vx (n:Int)).of<0)(hr:(m.vx (n:Int)).region=(r:Int)):m.kidL (n+1)=upd (m.kidL n) r (m.kidL n r++[(n:Int)]):=by
 funext q
 rw[kidL,List.range_succ,List.filter_append]
 by_cases e:q=r
 subst e;rw[Z3,List.filter_cons_of_pos (by simp[h,hr])];simp[kidL];rw[Zi _ _ e,List.filter_cons_of_neg (by simp[h,hr];omega)];simp[kidL]
theorem ownK_len:∀ n,(m.ownK n).length<=n
 |0=>Nat.le_refl _
 |n+1=>by
  rw[ownK_succ];have:=ownK_len n;have:=Zhs (m.ownK n) (m.ow (n:Int)) (n:Int);omega
theorem pntK_len:∀ n,(m.pntK n).length<=n
 |0=>Nat.le_refl _
 |n+1=>by
  have h0:=pntK_len n
  by_cases h:0<=(m.vx (n:Int)).of
  rw[pntK_pt h];have:=Zhs (m.pntK n) (m.vx (n:Int)).of (n:Int);omega;rw[pntK_no h];omega
theorem kidL_len(n r:Nat):(m.kidL n r).length<=n:=by
 rw[kidL,List.length_map];exact Nat.le_trans (List.length_filter_le _ _) (by rw[List.length_range];exact Nat.le_refl _)
end PM
theorem Zs5{B:Nat}:∀ {L:List (Int×List Int)} {k r:Int} (j:Nat),(∀ j,(Zcc L j).length<=B)->(Zcc (Zsk L k r) j).length<=B+1:=fun{L k r} j h=>by
 rw[Zqj]
 by_cases e:j=ixK L k
 subst e;rw[Z3,List.length_append];have:=h (ixK L k);simp;omega;rw[Zi _ _ e];have:=h j;omega
namespace PM
variable{m:PM}
theorem ownK_row:∀ n j,(Zcc (m.ownK n) j).length<=n
 |0,j=>by simp[ownK,Zcc]
 |n+1,j=>by rw[ownK_succ];exact Zs5 j (ownK_row n)
theorem pntK_row:∀ n j,(Zcc (m.pntK n) j).length<=n
 |0,j=>by simp[pntK,Zcc]
 |n+1,j=>by
  by_cases h:0<=(m.vx (n:Int)).of
  rw[pntK_pt h];exact Zs5 j (pntK_row n);rw[pntK_no h];have:=pntK_row n j;omega
end PM
namespace PM
variable{m:PM}
theorem Z8ja(v:Int)(t:Nat):m.wysI v false (t+1)=if(m.wy (t:Int)).source=v then m.wysI v false t++[(t:Int)]else m.wysI v false t:=by
 rw[Z0t]
 by_cases h:(m.wy (t:Int)).source=v
 rw[if_pos h,if_pos (by simp[h])];rw[if_neg h,if_neg (by simp[h]),List.append_nil]
theorem Zlda(v:Int)(t:Nat):m.wysI v true (t+1)=if(m.wy (t:Int)).target=v then m.wysI v true t++[(t:Int)]else m.wysI v true t:=by
 rw[Z0t]
 by_cases h:(m.wy (t:Int)).target=v
 rw[if_pos h,if_pos (by simp[h])];rw[if_neg h,if_neg (by simp[h]),List.append_nil]
theorem outs_next{t a:Nat}(h:(m.wy (t:Int)).source=(a:Int)):(λj:Nat=>m.wysI (j:Int) false (t+1))=upd (λj:Nat=>m.wysI (j:Int) false t) a (m.wysI (a:Int) false t++[(t:Int)]):=by
 funext j
 rw[Z8ja,h]
 by_cases e:j=a
 subst e;rw[Z3,if_pos rfl];rw[Zi _ _ e,if_neg (by omega)]
theorem intos_next{t a:Nat}(h:(m.wy (t:Int)).target=(a:Int)):(λj:Nat=>m.wysI (j:Int) true (t+1))=upd (λj:Nat=>m.wysI (j:Int) true t) a (m.wysI (a:Int) true t++[(t:Int)]):=by
 funext j
 rw[Zlda,h]
 by_cases e:j=a
 subst e;rw[Z3,if_pos rfl];rw[Zi _ _ e,if_neg (by omega)]
end PM
end
end Go.Hs
end
