/- A part. No condition. -/
import Derived.Test.YtjplgaebbfabnaaGreatDoorP52
import Derived.Shelf.Sort.Plain
import Derived.Shelf.Slices.In.SortNone
import Derived.Test.YtjplgaebbfabnaaGreatDoorCards
set_option linter.all false
section
namespace Go.Hs
open Go.Proofs
set_option maxHeartbeats 2000000
set_option maxRecDepth 10000
def Qi(q:List Int):List V:=q.map (V.int .i64)
def Pn(q:List Int):List V:=q.map λ_=>V.agg []
theorem Z7a(k:Int):∀ q:List Int,S4 (.int .i64) (.int .i64 k) (Qi q) (Pn q)=some (if q.contains k=true then some (.agg [])else none)
 |[]=>rfl
 |a::q=>by
  show S4 (.int .i64) (.int .i64 k) (.int .i64 a::Qi q) (.agg []::Pn q)=_
  rw[S4,if_pos rfl]
  by_cases e:k=a
  subst e;rw[if_pos rfl,if_pos zS];rw[if_neg e,Z7a k q,List.contains_cons,beq_false_of_ne e,Bool.false_or]
theorem Z5x{k:Int}:∀ {q:List Int},q.contains k=false->Vu (.int .i64) (.int .i64 k) (Qi q)=some none
 |[],_=>rfl
 |a::q,h=>by
  rw[List.contains_cons,Bool.or_eq_false_iff]at h
  show Vu (.int .i64) (.int .i64 k) (.int .i64 a::Qi q)=_
  rw[Vu,if_pos rfl,if_neg (λe=>by rw[e]at h;simp at h),Z5x h.2];rfl
theorem Zd6{k:Int}{q:List Int}(h:q.contains k=false):Ak (.int .i64) (.int .i64 k) (.agg []) (Qi q) (Pn q)=some (Qi (q++[k]),Pn (q++[k])):=by
 unfold Ak;rw[Z5x h];simp only[Qi,Pn,List.map_append,List.map_cons,List.map_nil]
@[go_sem] theorem build0:Ta Tryz.prog 179 []=some (.agg []):=zk
@[go_sem] theorem set_seen{a o b:Nat}{H:Heap}{k x:V}{K:V->Heap->Prop}:Sz Tryz.prog a H 176 (.mref o b) k x K=Eu a b (.int .i64) (H o) k x λlo p=>K (.tuple []) (Ya H o (.mp lo b p.1 p.2)):=Ns Tryz.underlying176 Tryz.underlying3
theorem Zs0(q:List Int)(k:Int):Q7 Tryz.prog 176 (.mapv (Qi q) (Pn q)) (.int .i64 k) true=some (.tuple [.agg [],.bool (q.contains k)]):=by
 unfold Q7;rw[Tryz.underlying176];simp only[Zpj,Tryz.underlying3,Z7a]
 cases q.contains k<;>rfl
theorem Li{E:Ent}{τ : Nat->V}{H B:Heap}{l:List (Nat×V)}{m:List (Nat×AObj)}(h:S8 τ l)(g:S8 H m)(j:∀ o,(∀ p∈m,p.1≠o)->B o=.dead\/B o=H o):Weak E ⟨τ,H⟩ ⟨Z5 La l,Z5 B m⟩:=by
 refine Tc (λ_=>false) (λt=>?_) (λo=>?_)
 rcases Ww (τ := La) (f := τ) t l (W9 h)with d|d
 exact .inl d;refine .inr ?_
 show Fz _ H (τ t) (Z5 La l t)
 rw[d];exact Zb
 show FzO _ H o (Z5 B m o)
 by_cases c:∃ p∈m,p.1=o
 have:∀ (m:List (Nat×AObj)),(∀ p∈m,H p.1=p.2)->(∃ p∈m,p.1=o)->Z5 B m o=H o:=by
  intro m
  induction m with
  |nil=>rintro _ ⟨p,b,_⟩;cases b
  |cons p m ih=>
   intro i r;rw[Wp]
   by_cases e:o=p.1
   subst e;rw[Ym,i p (List.mem_cons_self ..)];rw[Zp _ _ e];obtain⟨n,a,k⟩:=r
   rcases List.mem_cons.1 a with rfl|a
   exact absurd k.symm e;exact ih (λp b=>i p (List.mem_cons_of_mem _ b)) ⟨n,a,k⟩
 rw[this m (W9 g) c];exact FzO.same rfl
 .have hno:∀ p∈m,p.1≠o:=λp b e=>c ⟨p,b,e⟩
  have:Z5 B m o=B o:=by
   try clear j h g c
   induction m with
   |nil=>rfl
   |cons p m ih=>
    rw[Wp,Zp _ _ (Ne.symm (hno p (List.mem_cons_self ..)))];exact ih λp b=>hno p (List.mem_cons_of_mem _ b)
  rw[this]
  rcases j o hno with q|q
  rw[q];trivial;rw[q];exact FzO.same rfl
def Iz(lost:Bool)(q es:List Int):List Int:=if lost=true then q else Ro q es
def Tl(cs:List Int)(off:Nat)(rest:List Int):Prop:=off+rest.length<=cs.length/\(cs.drop off).take rest.length=rest
theorem Tl.zero(l:List Int):Tl l 0 l:=⟨zo,by rw[List.drop_zero,List.take_length]⟩
theorem Tl.next{cs:List Int}{off:Nat}{v:Int}{r:List Int}(h:Tl cs off (v::r)):Tl cs (off+1) r:=by
 obtain⟨b,a⟩:=h;rw[List.length_cons]at b a;refine⟨zo,?_⟩;rw[List.drop_eq_getElem_cons zo,List.take_succ_cons]at a;exact(List.cons.inj a).2
theorem Tl.nil{cs:List Int}{off:Nat}{r:List Int}(h:Tl cs off r):Tl cs off []:=⟨by have:=h.1;simp;omega,rfl⟩
theorem Tl.at{cs:List Int}{off:Nat}{v:Int}{r:List Int}(h:Tl cs off (v::r)):cs[off]?=some v:=by
 obtain⟨b,a⟩:=h;rw[List.length_cons]at b a;rw[List.drop_eq_getElem_cons zo,List.take_succ_cons]at a;rw[List.getElem?_eq_getElem zo,(List.cons.inj a).1]
structure AQ where
 new:List Int
 cs:List Int
 off:Nat
 go:Nat
theorem Za9(b:Bool)(q:List Int):Iz b q []=q:=by unfold Iz;split<;>rfl
theorem Zb9(b:Bool)(q es:List Int):(Iz b q es).length<=q.length+es.length:=by
 unfold Iz
 split
 omega
 .induction es generalizing q with
  |nil=>exact Nat.le_refl _
  |cons e es ih=>
   rw[O5];have:=ih (if q.contains e=true then q else q++[e])
   split at this
   rename_i h;rw[if_pos h,List.length_cons];omega;rename_i h;rw[if_neg h];simp at this⊢;omega
theorem Zo2(b:Bool)(q es:List Int)(e:Int):Iz b q (es++[e])=if b=true then q else if(Iz b q es).contains e=true then Iz b q es else Iz b q es++[e]:=by
 unfold Iz;cases b;simp only[Bool.false_eq_true,if_false];rw[Z98,O5,Zbl];rfl
theorem Zny(G:Nat->V)(hG:Y6 G)(N:Nat)(p:StP×V)(q cs rest:List Int)(off U C go b:Nat)(H:Heap)(hq:q.length<100000)(hT:Tl cs off rest)(hr:rest.length<100000)(he:p.1.ends.length<100000)(h6:H 6=.cells .new U 0 [.mref 19 b])(h7:H 7=.cells .new C 0 [.msl 20 go off rest.length 1])
  (T:H 19=.mp N b (Qi q) (Pn q)) (S:H 20=.cells .new go 0 (cs.map (V.int .i64))) (hd:∀ o,100<=o->o<200->H o=.dead):
  InlF Tryz.prog G N 94 [Ts .new p,.ptr 6 U 0,.ptr 7 C 0] H (λv H'=>v=.tuple []/\∃ w:AQ,q++w.new=Iz p.1.lost q (p.1.ends.map (·.1))/\Tl w.cs w.off (rest++w.new)/\H'=Z5 H [(7,.cells .new C 0 [.msl 20 w.go w.off (rest.length+w.new.length) 1]),(19,.mp N b (Qi (q++w.new)) (Pn (q++w.new))),(20,.cells .new w.go 0 (w.cs.map (V.int .i64)))]):=by
 refine ZoI 100 39 [] Tryz.func94 λX=>?_;refine Zf Rr ?_;intro W;have Y:X6 .new p.1.ends=Za .new 2 (Vx .new) (Zd p.1.ends):=rfl;refine Zf (zi Rr Y) ?_
 refine Yc p.1.ends.length (λk (w:AQ)=>⟨Z5 La [(1,.ptr 6 U 0),(2,.ptr 7 C 0),(3,.ptr 103 W 0),(9,Za .new 2 (Vx .new) (Zd p.1.ends)),(10,.int .i64 p.1.ends.length),(11,.int .i64 k)],Z5 H [(7,.cells .new C 0 [.msl 20 w.go w.off (rest.length+w.new.length) 1]),(19,.mp N b (Qi (q++w.new)) (Pn (q++w.new))),(20,.cells .new w.go 0 (w.cs.map (V.int .i64))),(103,.cells .new W 0 [Za .new 1 (V.int .i64) (Zd p.1.sources),.int .i64 p.1.first,Za .new 1 (V.int .i64) (Zd p.1.guards),Za .new 1 (V.int .i64) (Zd p.1.effects),Za .new 2 (Vx .new) (Zd p.1.ends),p.2])]⟩)
  (λk w=>q++w.new=Iz p.1.lost q ((p.1.ends.take k).map (·.1))/\Tl w.cs w.off (rest++w.new)) 0 ⟨[],cs,off,go⟩ (Nat.zero_le _) ⟨by rw[List.take_zero,List.map_nil,Za9,List.append_nil],by rw[List.append_nil];exact hT⟩ (Li zp ?_ λo n=>?_) ?_
 simp -implicitDefEqProofs only[go_sem,seval,h6,h7,T,S];have t:o≠103:=λe=>n (103,.cells .new W 0 [Za .new 1 (V.int .i64) (Zd p.1.sources),.int .i64 p.1.first,Za .new 1 (V.int .i64) (Zd p.1.guards),Za .new 1 (V.int .i64) (Zd p.1.effects),Za .new 2 (Vx .new) (Zd p.1.ends),p.2]) zS e.symm;exact .inr (Zp _ _ t).symm;rintro k ⟨new,D,of,gr⟩ hk ⟨r,i⟩ L R;simp only at r i
 by_cases j:k<p.1.ends.length
 have x:decide ((k:Int)<(p.1.ends.length:Int))=true:=zT;have Q:=List.getElem?_eq_getElem j;generalize p.1.ends[k]=u at Q;have J:=zi U9 (zi h6 (zi (Zs0 (q++new) u.1) Yh));refine Zf (zi x (zi Q (zi j J))) ?_;intro g5;refine Zf J ?_;intro g66
 have M:(p.1.ends.take (k+1)).map (·.1)=(p.1.ends.take k).map (·.1)++[u.1]:=by
  rw[List.take_add_one,Q,List.map_append]<;>rfl
 have g:=Zo2 p.1.lost q ((p.1.ends.take k).map (·.1)) u.1;rw[<- M,<- r]at g;have P:=Zb9 p.1.lost q ((p.1.ends.take k).map (·.1));rw[<- r,List.length_append,List.length_map,List.length_take]at P;have hnw:new.length<200000:=zo;have K:IntKind.i64.wrap ((k:Int)+1)=(k:Int)+1:=Wy zo zo
 have h:∀ (X:Heap),(∀ o,o≠7->o≠19->o≠20->o≠103->o≠105->o≠106->o≠136->X o=H o)->∀ {a b c d:AObj} o,(∀ p∈[(7,a),(19,b),(20,c),(103,d)],p.1≠o)->H o=.dead\/H o=X o:=λX hX a b c d o n=>by
  have A:=n (7,a) zS;have y:=n (19,b) zS;have t:=n (20,c) zS;have I:=n (103,d) zS
  by_cases z1:100<=o/\o<200
  exact .inl (hd o z1.1 z1.2);exact .inr (hX o (Ne.symm A) (Ne.symm y) (Ne.symm t) (Ne.symm I) zo zo zo).symm
 cases F:(q++new).contains u.1;refine Zf (zi F J) ?_;refine Si [Ts .new (p.1,.top)] ⟨Zjh ⟨Zb,Zb,Zb,Zb,Zb,Fz.top _,trivial⟩,trivial⟩ ?_;refine Zc hG ?_ (ha:=by simp only[Rr,List.map_cons,List.map_nil,Xl,Yj,Y1,Du];rfl) (s:=Zps G hG .old (p.1,.top) (by show p.1.ends.length<_;omega));rw[F]at g;cases f:p.1.lost;rw[f]at g;refine Zf (zi f (zi (Zd6 F) (zi @Hu (zi @Nat.le_refl J)))) ?_;intro g36;have O:=i.1;rw[List.length_append]at O;refine⟨Z4 zo zo,by rw[List.length_map];omega,Nat.zero_le _,λg2=>?_⟩
 have e1:((D.map (V.int .i64)).drop of).take ((rest.length+new.length)*1)=(rest++new).map (V.int .i64):=by
  rw[Nat.mul_one,<- List.length_append,<- List.map_drop,<- List.map_take,i.2]
 rw[e1,Nat.zero_sub];refine Zf K ?_;refine R _ ⟨j,⟨new++[u.1],rest++new++[u.1],0,g2⟩,⟨?_,(List.append_assoc rest new [u.1]) ▸ Tl.zero _⟩,Li zp ?_ (h _ λo A y t I n5 n6 n7=>?_)⟩
 show q++(new++[u.1])=_
 rw[f,g,List.append_assoc]<;>rfl
 simp -implicitDefEqProofs only[go_sem,seval,List.length_append,List.append_assoc,List.map_append];exact rfl
 (repeat rw[Zp _ _ (by assumption)])
 refine Zf (zi f K) ?_;rw[f]at r;refine R _ ⟨j,⟨new,D,of,gr⟩,⟨?_,i⟩,Li zp zp (h _ λo A y t I n5 n6 n7=>?_)⟩
 show q++new=_
 rw[g,f];exact r
 (repeat rw[Zp _ _ (by assumption)])
 refine Zf (zi F K) ?_;rw[F]at g;refine R _ ⟨j,⟨new,D,of,gr⟩,⟨?_,i⟩,Li zp zp (h _ λo A y t I n5 n6 n7=>?_)⟩
 show q++new=_
 rw[g];cases f:p.1.lost;rfl;rw[f]at r;exact r
 (repeat rw[Zp _ _ (by assumption)])
 have E:k=p.1.ends.length:=zo;have x:decide ((p.1.ends.length:Int)<(p.1.ends.length:Int))=false:=zF;rw[E,List.take_length]at r;rw[E];refine AW.weak (Li (B:=H) (l:=[(10,.int .i64 p.1.ends.length),(11,.int .i64 p.1.ends.length)]) (m:=[(7,.cells .new C 0 [.msl 20 gr of (rest.length+new.length) 1]),(19,.mp N b (Qi (q++new)) (Pn (q++new))),(20,.cells .new gr 0 (D.map (V.int .i64)))]) zp zp λo n=>?_) ?_
 by_cases z:o=103
 subst z;exact .inl (hd 103 zd zd);have A:=n (7,_) (List.mem_cons_self ..);have y:=n (19,_) (List.mem_cons_of_mem _ (List.mem_cons_self ..));have t:=n (20,_) (List.mem_cons_of_mem _ (List.mem_cons_of_mem _ (List.mem_cons_self ..)))
 right
 simp only[Wp,Db,Ya,if_neg z,if_neg (Ne.symm A),if_neg (Ne.symm y),if_neg (Ne.symm t)];refine Zf x ?_;exact⟨_,rfl,rfl,⟨new,D,of,gr⟩,r,i,rfl⟩
end Go.Hs
end

section
namespace Go.Proofs
open Go.Shelf
def Ec:Go.Shelf.Ren:=⟨fun|189=>97|125=>147|257=>146|128=>212|129=>213|294=>203|295=>204|296=>205|297=>206|298=>207|299=>208|216=>209|300=>210|301=>211|328=>230|329=>231|330=>232|331=>233|332=>234|215=>235|343=>248|n=>n,fun|28=>29|3=>3|46=>217|0=>0|51=>259|53=>261|4=>4|183=>252|182=>251|131=>256|5=>5|9=>9|218=>288|222=>292|228=>310|229=>311|n=>n,fun|n=>n⟩
theorem Fq:Go.Proofs.Lays.n189 Tryz.prog Ec:={
 mixed:=by kernel_rfl
 f125:=Tryz.func147.trans (congrArg some (by kernel_rfl))
 f128:=Tryz.func212.trans (congrArg some (by kernel_rfl))
 f129:=Tryz.func213.trans (congrArg some (by kernel_rfl))
 f189:=Tryz.func97.trans (congrArg some (by kernel_rfl))
 f215:=Tryz.func235.trans (congrArg some (by kernel_rfl))
 f216:=Tryz.func209.trans (congrArg some (by kernel_rfl))
 f257:=Tryz.func146.trans (congrArg some (by kernel_rfl))
 f294:=Tryz.func203.trans (congrArg some (by kernel_rfl))
 f295:=Tryz.func204.trans (congrArg some (by kernel_rfl))
 f296:=Tryz.func205.trans (congrArg some (by kernel_rfl))
 f297:=Tryz.func206.trans (congrArg some (by kernel_rfl))
 f298:=Tryz.func207.trans (congrArg some (by kernel_rfl))
 f299:=Tryz.func208.trans (congrArg some (by kernel_rfl))
 f300:=Tryz.func210.trans (congrArg some (by kernel_rfl))
 f301:=Tryz.func211.trans (congrArg some (by kernel_rfl))
 f328:=Tryz.func230.trans (congrArg some (by kernel_rfl))
 f329:=Tryz.func231.trans (congrArg some (by kernel_rfl))
 f330:=Tryz.func232.trans (congrArg some (by kernel_rfl))
 f331:=Tryz.func233.trans (congrArg some (by kernel_rfl))
 f332:=Tryz.func234.trans (congrArg some (by kernel_rfl))
 f343:=Tryz.func248.trans (congrArg some (by kernel_rfl))
 t0:=Tryz.underlying0
 a0:=Tryz.isAgg0
 z0:=Tryz.sizeOf0
 v0:=Tryz.zeroValue0
 t3:=Tryz.underlying3
 a3:=Tryz.isAgg3
 z3:=Tryz.sizeOf3
 v3:=Tryz.zeroValue3
 t4:=Tryz.underlying4
 a4:=Tryz.isAgg4
 z4:=Tryz.sizeOf4
 v4:=Tryz.zeroValue4
 t5:=Tryz.underlying5
 a5:=Tryz.isAgg5
 z5:=Tryz.sizeOf5
 v5:=Tryz.zeroValue5
 t9:=Tryz.underlying9
 a9:=Tryz.isAgg9
 z9:=Tryz.sizeOf9
 v9:=Tryz.zeroValue9
 t28:=Tryz.underlying29
 a28:=Tryz.isAgg29
 z28:=Tryz.sizeOf29
 v28:=Tryz.zeroValue29
 t46:=Tryz.underlying217
 a46:=Tryz.isAgg217
 z46:=Tryz.sizeOf217
 v46:=Tryz.zeroValue217
 t51:=Tryz.underlying259
 a51:=Tryz.isAgg259
 z51:=Tryz.sizeOf259
 v51:=Tryz.zeroValue259
 t53:=Tryz.underlying261
 a53:=Tryz.isAgg261
 z53:=Tryz.sizeOf261
 v53:=Tryz.zeroValue261
 t131:=Tryz.underlying256
 a131:=Tryz.isAgg256
 z131:=Tryz.sizeOf256
 v131:=Tryz.zeroValue256
 t182:=Tryz.underlying251
 a182:=Tryz.isAgg251
 z182:=Tryz.sizeOf251
 v182:=Tryz.zeroValue251
 t183:=Tryz.underlying252
 a183:=Tryz.isAgg252
 z183:=Tryz.sizeOf252
 v183:=Tryz.zeroValue252
 t218:=Tryz.underlying288
 a218:=Tryz.isAgg288
 z218:=Tryz.sizeOf288
 v218:=Tryz.zeroValue288
 t222:=Tryz.underlying292
 a222:=Tryz.isAgg292
 z222:=Tryz.sizeOf292
 v222:=Tryz.zeroValue292
 t228:=Tryz.underlying310
 a228:=Tryz.isAgg310
 z228:=Tryz.sizeOf310
 v228:=Tryz.zeroValue310
 t229:=Tryz.underlying311
 a229:=Tryz.isAgg311
 z229:=Tryz.sizeOf311
 v229:=Tryz.zeroValue311 }
end Go.Proofs
end

section
namespace Go.Hs
open Go.Sort
section
variable{X:Cx}{H:Heap}
theorem Zai(u:Inv X H){o g:Nat}{l f:List Int}(s:H o=.cells .new g 0 (l.map (V.int .i64)))(M:f.length=l.length){b c:Nat}(r : X.β o g=some (b,c))(n:Nat)(os:Array Obj):
  ∃ Y:Cx,Y.w=grow (putRow (Value.int .i64) (Sort.ahead X.w n) b c f.toArray) os/\Goes X H Y (Ya H o (.cells .new g 0 (f.map (V.int .i64)))):=by
 have B:=Goes.drew u (X.w.drawn+n);obtain⟨R,J,y,Q,c1,t,v,F,P⟩:=u.obj o .new g 0 _ s;rw[r]at y;cases y;rw[List.length_map]at F
 let d:Cx:={ X with w:=Sort.ahead X.w n }
 let a:Array Value:=putCells (Value.int .i64) c f.toArray c1
 have m:a.size=c1.size:=by simp[a,putCells]
 have A:=Jb (X:=d) B.inv s r (c1:=c1) (t:=t) v a m (λi N=>by
  simp only[a,putCells,Array.getElem?_mapIdx]
  cases O:c1[i]? with
  |none=>rfl
  |some x=>grind) .new (.inl rfl) g c 0 (f.map (V.int .i64)) (.inl ⟨rfl,rfl⟩) (Nat.le_refl _) (by grind) (by
  rw[List.length_map]
  have e:(a.toList.drop c).take f.length=f.map (Value.int .i64):=by
   apply List.ext_getElem?;intro j
   by_cases E:j<f.length
   have p:c+j<c1.size:=zo;simp[a,putCells,E,p]
   grind
  rw[e];refine⟨zS,λx C=>?_,λi L K=>?_⟩;obtain⟨z,_,rfl⟩:=List.mem_map.1 C;rfl;simp only[List.getElem_map]
  exact .int _ _)
 have q:=B.trans A
 have I:(d.add o g b c (d.w.setRow b a)).w=putRow (Value.int .i64) (Sort.ahead X.w n) b c f.toArray:=by
  show d.w.setRow b a=_
  unfold putRow mapBlock World.setRow
  congr 1
  apply Array.ext_getElem?;intro i;simp only[Array.getElem?_modify]
  split
  rename_i h;subst h;rw[show(Sort.ahead X.w n).heap[b]?=some (Obj.cells c1 t (0,0))from v];rfl;rfl
 have G:=Goes.below (X:=d.add o g b c (d.w.setRow b a)) A.inv (w':=grow (d.add o g b c (d.w.setRow b a)).w os) (by
  refine⟨rfl,rfl,rfl,by simp[grow],λk D=>?_⟩
  show((d.add o g b c (d.w.setRow b a)).w.heap++os)[k]?=_
  rw[Array.getElem?_append_left D])
 exact⟨_,by rw[<- I],q.trans G⟩
end
end Go.Hs
end

section
namespace Go.Hs
open Go.Proofs Go.Sort
set_option maxRecDepth 10000
theorem Z5y{G:Nat->V}{o g:Nat}{l:List Int}{H:Heap}{K:V->Heap->Prop}(T:l.length<1000000)(m:H o=Yb g (V.int .i64) l)(h:K (.tuple []) (Ya H o (Yb g (V.int .i64) (srt l)))):
  CallA Tryz.prog G 97 [grown o g 1 l] H K:=by
 refine⟨zk,λX A v _ N=>?_⟩;obtain⟨x,rfl,s⟩:=N.one
 cases l with
 |nil=>
  cases s;refine(show Calls Tryz.prog 97 _ _ _ from Any.slices_Sort_int_none Fq none 0 X.w).mono ?_;rintro e w' ⟨rfl,rfl⟩
  have Q:Ya H o (Yb g (V.int .i64) (srt []))=H:=by
   rw[show srt []=[]from by simp[srt]];exact Yp H _ _ m
  rw[Q]at h;exact⟨_,.tuple [],H,X,rfl,rfl,Goes.refl v,.tuple #[] [] rfl (λi q p=>by simp at p),h⟩
 |cons a r=>
  have u:Yb g (V.int .i64) (a::r)=.cells .new g 0 ((a::r).map (V.int .i64)):=by
   show AObj.cells .new g 0 (flat ((a::r).map (V.int .i64)))=_
   congr 1
   exact Gg _
  rw[u]at m;generalize J:a::r=L at *
  have f:L≠[]:=by rw[<- J];simp
  rw[X8 _ _ _ f]at s
  cases s with
  |msl _ _ _ _ _ b bs cap hβ hcap hb=>
  obtain⟨U,S,q,p,R,t,z,P,y⟩:=v.obj o .new g 0 _ m;rw[hβ]at q;cases q;rw[List.length_map]at P y
  have M:Holds (Value.int .i64) X.w b bs L.toArray:=by
   intro j d;have d:j<L.length:=zu d;have c:=y.len;have C:=y.rel j (by rw[c,List.length_map];exact d) (by rw[List.length_map];exact d);rw[List.getElem_map]at C;refine⟨?_,by simp[World.frozen?,z]⟩;have O:=C.int_inv
   have B:((R.toList.drop bs).take L.length)[j]?=some (.int .i64 L[j]):=by
    rw[List.getElem?_eq_getElem (by rw[c,List.length_map];exact d),O]
   rw[List.getElem?_take_of_lt d,List.getElem?_drop,Array.getElem?_toList]at B;simp[World.cell?,z,B,d]
  have k:b<X.w.heap.size:=(Array.getElem?_eq_some_iff.1 z).1;refine(show Calls Tryz.prog 97 _ _ _ from Any.slices_Sort_int Fq b bs cap L X.w M k zo).mono ?_;rintro e w' ⟨rfl,n,D,rfl⟩;obtain⟨Y,E,I⟩:=Zai v m (Z8b L) hβ n D
  have F:Yb g (V.int .i64) (srt L)=.cells .new g 0 ((srt L).map (V.int .i64)):=by
   rw[W7 _ _ (by intro e;have:=Z8b L;rw[e]at this;exact f (List.length_eq_zero_iff.1 this.symm))]
   congr 1
   exact Gg _
  rw[F]at h;exact⟨_,.tuple [],_,Y,rfl,E,I,.tuple #[] [] rfl (λi q p=>by simp at p),h⟩
end Go.Hs
end

section
namespace Go.Hs
section
def Kv:StP:=⟨[],0,[],[],[]⟩
def frL(L:List StP)(v:Int)(k:Nat):List Nat:=(List.range k).filter λi=>(L.getD i Kv).sources.contains v
theorem Z27(L:List StP)(v:Int)(k:Nat):frL L v (k+1)=frL L v k++(if(L.getD k Kv).sources.contains v=true then[k]else[]):=by
 unfold frL;rw[List.range_succ,List.filter_append]
 grind
theorem frL_lt{L:List StP}{v:Int}{k i:Nat}(h:i∈frL L v k):i<k:=List.mem_range.1 (List.mem_filter.1 h).1
theorem Z4j{σ : Type}(L:List StP)(v:Int)(F : σ -> StP -> σ):∀ (k:Nat) (q : σ),k<=L.length->(frL L v k).foldl (λq i=>F q (L.getD i Kv)) q=((L.take k).filter λs=>s.sources.contains v).foldl F q
 |0,q,_=>rfl
 |k+1,q,h=>by
  have a:=List.getElem?_eq_getElem (show k<L.length by omega)
  have b:L.getD k Kv=L[k]'(by omega):=by grind
  rw[Z27,List.foldl_append,Z4j L v F k q (by omega),List.take_add_one,a,List.filter_append,List.foldl_append,b]
  grind
namespace PM
variable{m:PM}
def stepQ(m:PM)(L:List StP)(v:Int)(q:List Int)(l:List Nat):List Int:=if m.kd v=4 then l.foldl (λq i=>Ro q (L.getD i Kv).at_) q else q
theorem stepQ_all(L:List StP)(v:Int)(q:List Int):m.stepQ L v q (frL L v L.length)=m.nextQ L q v:=by
 unfold stepQ nextQ
 split
 rw[Z4j L v (λq s=>Ro q s.at_) L.length q (Nat.le_refl _),List.take_length];rfl
theorem Gf(L:List StP):∀ (l:List Nat) (q:List Int),∃ t,l.foldl (λq i=>Ro q (L.getD i Kv).at_) q=q++t
 |[],q=>⟨[],(List.append_nil q).symm⟩
 |i::l,q=>by
  obtain⟨t,b⟩:=Bx (L.getD i Kv).at_ q;obtain⟨u,a⟩:=Gf L l (Ro q (L.getD i Kv).at_)
  grind
theorem stepQ_pre(L:List StP)(v:Int)(q:List Int)(l:List Nat):∃ t,m.stepQ L v q l=q++t:=by
 unfold stepQ
 split
 exact Gf L l q;simp_all
theorem stepQ_snoc(L:List StP)(v:Int)(q:List Int)(l:List Nat)(i:Nat):m.stepQ L v q (l++[i])=if m.kd v=4 then Ro (m.stepQ L v q l) (L.getD i Kv).at_ else m.stepQ L v q l:=by
 unfold stepQ
 grind
theorem stepQ_len(L:List StP)(v:Int)(q:List Int)(l:List Nat){j:Nat}:(m.stepQ L v q (l.take j)).length<=(m.stepQ L v q l).length:=by
 unfold stepQ
 split
 obtain⟨t,a⟩:=Gf L (l.drop j) ((l.take j).foldl (λq i=>Ro q (L.getD i Kv).at_) q);rw[<- List.foldl_append,List.take_append_drop]at a
 grind
 grind
end PM
end
end Go.Hs
end

section
namespace Go.Hs
open Go.Proofs
set_option maxHeartbeats 8000000
set_option maxRecDepth 10000
def lv(L:List StP)(rv:Nat->V):List (StP×V):=(List.range L.length).map λj=>(L.getD j Kv,rv j)
def O9(L:List StP)(rv:Nat->V):List V:=flat ((lv L rv).map (Ts .new))
theorem Cr(L:List StP)(rv:Nat->V):(lv L rv).length=L.length:=by rw[lv,List.length_map,List.length_range]
theorem Jl(c:Col)(q:StP×V):(Ts c q).cells.length=6:=rfl
theorem Pt(L:List StP)(rv:Nat->V):(O9 L rv).length=L.length*6:=by rw[O9,Xu (Jl _),Cr]
theorem Z1x{L:List StP}{rv:Nat->V}{i:Nat}(h:i<L.length):(lv L rv)[i]?=some (L.getD i Kv,rv i):=by
 rw[lv,List.getElem?_map,List.getElem?_range h]<;>rfl
theorem Z2x{L:List StP}{rv:Nat->V}{i:Nat}(h:i<L.length):((O9 L rv).drop (i*6)).take 6=(Ts .new (L.getD i Kv,rv i)).cells:=by
 have:=Z6a (f:=Ts .new) (Jl _) (lv L rv) (off:=i) (n:=1) (by rw[Cr];omega);rw[O9];rw[Nat.one_mul]at this;rw[this,List.take_one,List.head?_drop,Z1x h]
 show flat [Ts .new _]=_
 simp[flat]
theorem Z66{L:List StP}{rv:Nat->V}{i:Nat}(h:i<L.length):(O9 L rv)[i*6+5]?=some (rv i):=Lx (Jl _) (j:=5) zd (Z1x h) rfl
theorem Z2aa{L:List StP}{rv:Nat->V}{i:Nat}(h:i<L.length)(u:V):(O9 L rv).set (i*6+5) u=O9 L (Ya rv i u):=by
 rw[O9,M1 (Jl _) zd (y:=(L.getD i Kv,u)) (Z1x h) rfl,O9]
 congr 2
 apply List.ext_getElem;simp[lv];intro j b a;rw[List.getElem_set];simp only[lv,List.getElem_map,List.getElem_range,Ya]
 by_cases e:i=j
 subst e;simp;rw[if_neg e,if_neg (Ne.symm e)]
theorem Zq0{L:List StP}{rv rv':Nat->V}(h:∀ j,j<L.length->rv j=rv' j):O9 L rv=O9 L rv':=by
 unfold O9 lv;rw[List.map_congr_left (g:=λj=>(L.getD j Kv,rv' j)) λj a=>by rw[h j (List.mem_range.1 a)]]
theorem Z17(L:List StP)(rv:Nat->V)(v:Int):Pv (lv L rv) v (lv L rv).length=(frL L v L.length).map fun(i:Nat)=>(i:Int):=by
 unfold Pv frL;rw[Cr]
 congr 1
 refine List.filter_congr λi a=>?_;rw[Z1x (List.mem_range.1 a)]
theorem RdL.app{H:Heap}:∀ {a b c d:List V},RdL H a b->RdL H c d->RdL H (a++c) (b++d)
 |[],[],_,_,_,h=>h
 |[],_::_,_,_,h,_=>h.elim
 |_::_,[],_,_,h,_=>h.elim
 |_::_,_::_,_,_,h,k=>⟨h.1,RdL.app h.2 k⟩
theorem Im.es(c:Col)(l:List (Int×List Int)):(X6 c l).Im:=Uu (λx y a=>by
 rw[U9]at a;simp only[V.cells,List.mem_cons,List.not_mem_nil,or_false]at a
 rcases a with rfl|rfl
 exact .int _ _
 exact Ra _) _
theorem RdL.lv{H:Heap}{L:List StP}{rv rv':Nat->V}:∀ {js:List Nat},(∀ j∈js,Rd H (rv j) (rv' j))->RdL H (flat ((js.map λj=>(L.getD j Kv,rv j)).map (Ts .new))) (flat ((js.map λj=>(L.getD j Kv,rv' j)).map (Ts .old)))
 |[],_=>trivial
 |j::js,h=>RdL.app (a:=(Ts .new (L.getD j Kv,rv j)).cells) (b:=(Ts .old (L.getD j Kv,rv' j)).cells)
   ⟨Xf (Ra _) (Y1 ..),Xf (.int _ _) rfl,Xf (Ra _) (Y1 ..),Xf (Ra _) (Y1 ..),Xf (Im.es _ _) (Du _ _ _),h j (List.mem_cons_self ..),trivial⟩
   (RdL.lv λj c=>h j (List.mem_cons_of_mem _ c))
theorem Rd.lv{H:Heap}{L:List StP}{rv rv':Nat->V}{c:Col}{o a fz:Nat}(e:H o=.cells c a fz (O9 L rv))(h:∀ j,j<L.length->Rd H (rv j) (rv' j)):Rd H (.msl o a 0 L.length 6) (.slice .old false 6 ((lv L rv').map (Ts .old))):=by
 refine Cv.msl (col:=λ_=>.old) o a 0 L.length 6 c fz _ _ rfl e (by rw[List.length_map,Cr]) (λv b=>?_) (by rw[Pt];omega) λi g f=>?_;obtain⟨x,_,rfl⟩:=List.mem_map.1 b;exact Jl _ x;have:=(RdL.lv (H:=H) (L:=L) (rv:=rv) (rv':=rv') (js:=List.range L.length) λj d=>h j (List.mem_range.1 d)).get.2 i (by have:=g;rw[Nat.zero_add]at this;exact this) f;simp only[Nat.zero_add];exact this
theorem Zoy(s:StP)(q:List Int):Iz s.lost q (s.ends.map (·.1))=Ro q s.at_:=by
 rw[Iz,StP.at_]
 split<;>rfl
theorem FzO.lv{F:Nat->Bool}{H:Heap}{L:List StP}{rv rv':Nat->V}{o a:Nat}(c:H o=.cells .new a 0 (O9 L rv))(d:F o=false)(h:∀ j,j<L.length->Fz F H (rv j) (rv' j)):FzO F H o (.cells .new a 0 (O9 L rv')):=by
 refine⟨.new,0,O9 L rv,c,.inl rfl,Nat.le_refl _,λe=>(by rw[d]at e;cases e),by rw[Pt,Pt],?_⟩
 have:FzL F H (O9 L rv) (O9 L rv'):=by
  unfold O9 Hs.lv;rw[List.map_map,List.map_map];refine FzL.flat (f:=λj=>Ts .new (L.getD j Kv,rv j)) (f':=λj=>Ts .new (L.getD j Kv,rv' j)) λj b=>?_;exact⟨Zb,Zb,Zb,Zb,Zb,h j (List.mem_range.1 b),trivial⟩
 exact this.get.2
theorem Ze1{α : Type}(o g m:Nat){l c:List α}(h:l.length=c.length):grown o g m l=grown o g m c:=by
 cases l with
 |nil=>obtain rfl:c=[]:=List.length_eq_zero_iff.1 h.symm;rfl
 |cons a r=>cases c with
  |nil=>cases h
  |cons b t=>show V.msl .. = V.msl ..;rw[h]
structure RQ where
 q:List Int
 i:Nat
 cs:List Int
 off:Nat
 go:Nat
 gr:Nat
def Nk(m:PM)(L:List StP)(i j:Nat):V:=if j<i then Za .new 1 (V.int .i64) (Zd (m.reachL L (L.getD j Kv)))else .nils
theorem Zmr(G:Nat->V)(hG:Y6 G)(c1 U T S R Q:Col)(m:MdM)(x:IxM)(hx:IxP m.p x)(L:List StP)(hne:L≠[])(hl:L.length<100000)(hnv:m.p.vertices.length<100000)(he:∀ s∈L,s.ends.length<100000)(hso:∀ s∈L,s.sources.length<100000)(J:∀ s∈L,m.p.AtOk s)(d:Nat):
  InSp Tryz.prog G 59 [Wl c1 U T S R Q m x,.msl 3000 d 0 L.length 6] (Z5 Zj [(3000,.cells .new d 0 (O9 L (Nk m.p L 0)))]) (λ_ H'=>H' 3000=.cells .new d 0 (O9 L (Nk m.p L L.length))):=by
 refine Yr 0 71 [] Tryz.func59 rfl rfl rfl rfl λX=>?_;refine Z ?_;refine Yc L.length (λi (_:Unit)=>st [(0,Wl c1 U T S R Q m x),(1,.msl 3000 d 0 L.length 6),(12,.msl 3000 d 0 L.length 6),(13,.int .i64 L.length),(14,.int .i64 i)] [(3000,.cells .new d 0 (O9 L (Nk m.p L i)))]) (λ_ _=>True) 0 () (Nat.zero_le _) trivial (Weak.st zp zp) ?_;intro i _ hi _ L1 hL1
 by_cases t:i<L.length
 have hlt:decide ((i:Int)<(L.length:Int))=true:=zT
 have B:L.getD i Kv∈L:=by
  rw[List.getD_eq_getElem?_getD,List.getElem?_eq_getElem t];exact List.getElem_mem t
 have hsg:=Z2x (rv:=Nk m.p L i) t;have hrv:Nk m.p L i i=.nils:=if_neg (Nat.lt_irrefl _);rw[hrv]at hsg;have k6:i*6+6<=L.length*6:=zo;have Y:i*6<L.length*6:=zo;have fs:=zi t (zi hsg (zi Pt (zi k6 (zi Y (zi Rr Yh)))));refine Xm (zi hlt fs) ?_;refine Xm (zi hlt fs) ?_;intro P;refine Xm fs ?_;intro b K;refine Xm fs ?_;intro go A;refine Xm fs ?_;generalize hs:L.getD i Kv=s at *;have hes:=he s B;have hss:=hso s B;refine AW.weak (Weak.st (l:=[(0,Wl c1 U T S R Q m x),(1,.msl 3000 d 0 L.length 6),(4,.int .i64 i),(5,.ptr 5 P 0),(7,.ptr 7 A 0),(8,.func (.func 94) [] [.ptr 6 K 0,.ptr 7 A 0]),(12,.msl 3000 d 0 L.length 6),(13,.int .i64 L.length),(14,.int .i64 i)]) (m:=[(5,.cells .new P 0 [Za .new 1 (V.int .i64) (Zd s.sources),.int .i64 s.first,Za .new 1 (V.int .i64) (Zd s.guards),Za .new 1 (V.int .i64) (Zd s.effects),X6 .new s.ends,.nils]),(6,.cells .new K 0 [.mref 19 b]),(7,.cells .new A 0 [.msl 20 go 0 0 1]),(19,.mp X.w.heap.size b [] []),(20,.cells .new go 0 []),(3000,.cells .new d 0 (O9 L (Nk m.p L i)))]) zp zp) ?_;refine Z6 (Z6 (Wh [2] zk (by rfl) ?_));simp -implicitDefEqProofs only[go_sem,seval,Mf,Rr];refine⟨_,rfl,B4 (Zny G hG X.w.heap.size (s,.nils) [] [] [] 0 K A go b _ zd (Tl.zero _) zd hes zp zp zp zp (λo h1 h2=>?_)) zp zp (λv H' hk=>?_) zk (k:=2) rfl zp⟩
 dsimp only
 (repeat rw[Zp _ _ zo])
 rfl;obtain⟨rfl,w,hw1,hw2,rfl⟩:=hk;obtain⟨q0,cs0,of0,go0⟩:=w
 have hq0:q0=Ro [] s.at_:=by
  have:q0=Iz s.lost [] (s.ends.map (·.1)):=hw1;rw[this,Zoy]
 have hQ0:m.p.QInv L s q0 0:=hq0 ▸ PM.QInv.zero (J s B);refine AW.block ?_;refine Vs (λz:RQ=>st [(0,Wl c1 U T S R Q m x),(1,.msl 3000 d 0 L.length 6),(4,.int .i64 i),(5,.ptr 5 P 0),(7,.ptr 7 A 0),(8,.func (.func 94) [] [.ptr 6 K 0,.ptr 7 A 0]),(12,.msl 3000 d 0 L.length 6),(13,.int .i64 L.length),(14,.int .i64 i)] [(5,.cells .new P 0 [Za .new 1 (V.int .i64) (Zd s.sources),.int .i64 s.first,Za .new 1 (V.int .i64) (Zd s.guards),Za .new 1 (V.int .i64) (Zd s.effects),X6 .new s.ends,.nils]),(6,.cells .new K 0 [.mref 19 b]),(7,.cells .new A 0 [.msl 20 z.go z.off (z.q.length-z.i) 1]),(19,.mp X.w.heap.size b (Qi z.q) (Pn z.q)),(20,.cells .new z.go 0 (z.cs.map (V.int .i64))),(42,Yb z.gr (V.int .i64) (z.q.take z.i)),(3000,.cells .new d 0 (O9 L (Ya (Nk m.p L i) i (grown 42 z.gr 1 (z.q.take z.i)))))]) (λz=>m.p.QInv L s z.q z.i/\Tl z.cs z.off (z.q.drop z.i)) (λz=>m.p.vertices.length-z.i) ⟨q0,0,cs0,of0,go0,0⟩ ⟨hQ0,hw2⟩ (Weak.st zp ?_) ?_
 dsimp only
 have e1:Ya (Nk m.p L i) i .nils=Nk m.p L i:=Yp _ _ _ hrv;simp -implicitDefEqProofs only[go_sem,seval,Nat.sub_zero,Vm,Wd,e1];rintro⟨q,a,cs,of,gq,gr⟩ ⟨hQ,hT⟩ L2 hL2;simp only at hQ hT;have hql:=hQ.len;have hii:=hQ.le
 by_cases hlq:a<q.length
 have N:decide (((q.length-a:Nat):Int)>0)=true:=zT;have hv:=List.getElem?_eq_getElem hlq;have hvm:=List.getElem_mem hlq;generalize q[a]=v at hv hvm
 have hdr:q.drop a=v::q.drop (a+1):=by
  have h1:=List.getElem?_eq_some_iff.1 hv;rw[<- h1.2];exact List.drop_eq_getElem_cons hlq
 rw[hdr]at hT
 have hcell:(cs.map (V.int .i64))[of]?=some (.int .i64 v):=by rw[List.getElem?_map,hT.at]<;>rfl
 have hcl:(cs.map (V.int .i64)).length=cs.length:=List.length_map ..;have hT1:=hT.1;rw[List.length_cons,List.length_drop]at hT1;have c1':0<q.length-a:=zo;have c2':of+1<=cs.length:=zo;have c3':1<=q.length-a:=zo;have i1:(0:Int)<((q.length-a:Nat):Int):=zo;have i2:(1:Int)<=((q.length-a:Nat):Int):=zo;have f8:=zi i1 (zi i2 (zi hcell (zi hcl (zi c1' (zi c2' (zi c3' Yh))))));refine Xm (zi N f8) ?_;refine Xm (zi N f8) ?_;have e7:q.length-a=(q.length-(a+1))+1:=zo
 have hin:(List.take a q).length=a:=by rw[List.length_take];omega
 have htk:q.take a++[v]=q.take (a+1):=by rw[List.take_add_one,hv]<;>rfl
 generalize hrest:q.length-(a+1)=nr at *;rw[e7];refine Z6 (Wh [1] zk (by rfl) ?_);simp -implicitDefEqProofs only[go_sem,seval,Mf];refine⟨_,rfl,Z6p (e:=3) (len:=nr) (ob:=20) (g:=gq) (off:=of) (m:=1) zk zk zp rfl (λof' hof=>?_) zk (n:=1) rfl (by rfl)⟩
 have hT':Tl cs of' (q.drop (a+1)):=by
  rcases hof with h|⟨h,h'⟩
  rw[h];exact hT.next;have:q.drop (a+1)=[]:=List.length_eq_zero_iff.1 (by rw[List.length_drop];omega);rw[this,h'];exact hT.nil
 simp -implicitDefEqProofs only[go_sem,seval,Mf]
 have hcg:(O9 L (Ya (Nk m.p L i) i (grown 42 gr 1 (q.take a))))[i*6+5]?=some (grown 42 gr 1 (q.take a)):=by rw[Z66 t,Ym]
 have hst:∀ u,(O9 L (Ya (Nk m.p L i) i (grown 42 gr 1 (q.take a)))).set (i*6+5) u=O9 L (Ya (Nk m.p L i) i u):=λu=>by
  rw[Z2aa t];refine Zq0 λj _=>?_
  simp only[Ya];split<;>rfl
 have f10:=zi t (zi hcg (zi hst (zi Pt (zi k6 (zi Y Yh)))));refine Xm f10 ?_;intro g41;refine Ys (f:=V.int .i64) (l:=q.take a) (l2:=[v]) (g:=gr) (λ_=>rfl) rfl rfl rfl zp (Z4 zo zO) λg2=>?_;rw[htk];have f10b:=zi t (zi hcg (zi hst (zi Pt (zi k6 (zi Y Yh)))));refine Xr f10b ?_;subst hrest;refine AW.weak (Weak.st (l:=[(0,Wl c1 U T S R Q m x),(1,.msl 3000 d 0 L.length 6),(4,.int .i64 i),(5,.ptr 5 P 0),(7,.ptr 7 A 0),(8,.func (.func 94) [] [.ptr 6 K 0,.ptr 7 A 0]),(12,.msl 3000 d 0 L.length 6),(13,.int .i64 L.length),(14,.int .i64 i),(9,.int .i64 v)]) (m:=[(5,.cells .new P 0 [Za .new 1 (V.int .i64) (Zd s.sources),.int .i64 s.first,Za .new 1 (V.int .i64) (Zd s.guards),Za .new 1 (V.int .i64) (Zd s.effects),X6 .new s.ends,.nils]),(6,.cells .new K 0 [.mref 19 b]),(7,.cells .new A 0 [.msl 20 gq of' (q.length-(a+1)) 1]),(19,.mp X.w.heap.size b (Qi q) (Pn q)),(20,.cells .new gq 0 (cs.map (V.int .i64))),(42,Yb g2 (V.int .i64) (q.take (a+1))),(3000,.cells .new d 0 (O9 L (Ya (Nk m.p L i) i (grown 42 g2 1 (q.take (a+1))))))]) zp zp) ?_;refine Xm f10 ?_;have hqi:a+1<=q.length:=zo;refine B8 hG [.slice .old false 6 ((lv L (Ya (λj=>(Nk m.p L i j).recol Col.ent) i (Za .old 1 (V.int .i64) (Zd (q.take (a+1)))))).map (Ts .old)),.int .i64 v] zk ⟨Rd.lv (c:=.new) (fz:=0) (rv:=Ya (Nk m.p L i) i (grown 42 g2 1 (q.take (a+1)))) zp (λj _=>?_),Xf (.int _ _) rfl,trivial⟩ ?_
 by_cases e:j=i
 subst e;rw[Ym,Ym];exact I0 (f:=V.int .i64) (f':=V.int .i64) (g:=g2) zp (λ_=>rfl) (λx y hy=>by simp[V.cells]at hy;subst hy;exact .int _ _) λ_=>rfl;rw[Zp _ _ e,Zp _ _ e];unfold Nk
 split
 exact Xf (Ra _) rfl;exact Xf .nils rfl
 refine(Zh1 G hG .old .old (.mk false (lv L (Ya (λj=>(Nk m.p L i j).recol Col.ent) i (Za .old 1 (V.int .i64) (Zd (q.take (a+1))))))) v (by show(lv L _).length<_;rw[Cr];exact hl) (λy hy=>by
  have hy:y∈lv L _:=hy;obtain⟨j,M,rfl⟩:=List.mem_map.1 hy;refine hso _ ?_
  show L.getD j Kv∈L
  rw[List.getD_eq_getElem?_getD,List.getElem?_eq_getElem (List.mem_range.1 M)];exact List.getElem_mem (List.mem_range.1 M))).mono λw _ hw=>?_
 have hw:w=Za .new 1 (V.int .i64) (Zd (Pv (lv L _) v (lv L _).length)):=hw;rw[Z17]at hw;subst hw;refine⟨Zh9 (λx y hy=>by simp[V.cells]at hy;subst hy;exact .int _ _) _,?_⟩;have hF:∀ j∈frL L v L.length,j<L.length:=λj M=>frL_lt M;have E:=PM.stepQ_all (m:=m.p) L v q;have hsl:=λk=>PM.stepQ_len (m:=m.p) L v q (frL L v L.length) (j:=k);have hFl:(frL L v L.length).length<=L.length:=Nat.le_trans (List.length_filter_le _ _) (by rw[List.length_range];exact Nat.le_refl _);generalize frL L v L.length=F at hF E hsl hFl;have hQ':=hQ.next J hv;rw[<- E]at hQ';have hF':(F.map fun(i:Nat)=>(i:Int)).length=F.length:=List.length_map ..;refine Xr hF' ?_;refine AW.block ?_;refine Yc F.length (λk (z:RQ)=>st [(0,Wl c1 U T S R Q m x),(1,.msl 3000 d 0 L.length 6),(4,.int .i64 i),(5,.ptr 5 P 0),(7,.ptr 7 A 0),(8,.func (.func 94) [] [.ptr 6 K 0,.ptr 7 A 0]),(12,.msl 3000 d 0 L.length 6),(13,.int .i64 L.length),(14,.int .i64 i),(9,.int .i64 v),(47,Za .new 1 (V.int .i64) (Zd (F.map fun(i:Nat)=>(i:Int)))),(48,.int .i64 F.length),(49,.int .i64 k)] [(5,.cells .new P 0 [Za .new 1 (V.int .i64) (Zd s.sources),.int .i64 s.first,Za .new 1 (V.int .i64) (Zd s.guards),Za .new 1 (V.int .i64) (Zd s.effects),X6 .new s.ends,.nils]),(6,.cells .new K 0 [.mref 19 b]),(7,.cells .new A 0 [.msl 20 z.go z.off (z.q.length-z.i) 1]),(19,.mp X.w.heap.size b (Qi z.q) (Pn z.q)),(20,.cells .new z.go 0 (z.cs.map (V.int .i64))),(42,Yb z.gr (V.int .i64) (z.q.take z.i)),(3000,.cells .new d 0 (O9 L (Ya (Nk m.p L i) i (grown 42 z.gr 1 (z.q.take z.i)))))]) (λk z=>z.q=m.p.stepQ L v q (F.take k)/\z.i=a+1/\Tl z.cs z.off (z.q.drop (a+1))) 0 ⟨q,a+1,cs,of',gq,g2⟩ (Nat.zero_le _) ⟨?_,rfl,hT'⟩ (Weak.st zp zp) ?_
 show q=_
 rw[List.take_zero];unfold PM.stepQ;split<;>rfl
 rintro k ⟨r,i3,cs3,W,O,C⟩ hk ⟨H,hi3,hT3⟩ L3 hL3;simp only at H hi3 hT3;subst hi3
 have hl3:r.length<100000:=by
  have:=hsl k;have:=hQ'.len;rw[H];omega
 obtain⟨t3,ht3⟩:=PM.stepQ_pre (m:=m.p) L v q (F.take k);rw[<- H]at ht3
 have hp3:r.take (a+1)=q.take (a+1):=by rw[ht3,List.take_append_of_le_length hqi]
 by_cases I:k<F.length
 have D:decide ((k:Int)<(F.length:Int))=true:=zT;have hgk:=List.getElem?_eq_getElem I;have hjm:=List.getElem_mem I;generalize F[k]=j at hgk hjm;have M:=hF j hjm
 have hgk':(F.map fun(i:Nat)=>(i:Int))[k]?=some (j:Int):=by rw[List.getElem?_map,hgk]<;>rfl
 have w1:IntKind.i64.wrap ((k:Int)+1)=(k:Int)+1:=Wy zo zo
 have hkl:k<(F.map fun(i:Nat)=>(i:Int)).length:=by rw[hF'];exact I
 have f12:=zi hgk' (zi I (zi hkl (zi hF' Yh)));refine Xm (zi D f12) ?_;refine Xm (zi D f12) ?_;refine Xm f12 ?_;intro g55;obtain⟨v0,v1⟩:=hQ.rng v hvm;refine Wg 55 [Wl c1 U T S R Q m x,.int .i64 v,Za .new 1 (V.int .u8) (.mk false [4])] ⟨Zb,Zb,Xa (f:=V.int .u8) (l:=[4]) (m:=1) (g:=g55) (fz:=0) (c:=.new) rfl zp (λ_=>rfl),trivial⟩ ?_;refine Zc hG ?_ (s:=Ti G hG _ _ _ _ _ _ _ m _ v v0 v1 _ zd);rw[Ax]
 have hsn:m.p.stepQ L v q (F.take (k+1))=if m.p.kd v=4 then Ro r (L.getD j Kv).at_ else r:=by
  rw[List.take_add_one,hgk]
  show m.p.stepQ L v q (F.take k++[j])=_
  rw[PM.stepQ_snoc,<- H]
 have hq3l:a+1<=r.length:=by rw[ht3,List.length_append];omega
 cases qk:(m.p.kd v==4)
 have hkd:¬ m.p.kd v=4:=λe=>by rw[e]at qk;cases qk
 rw[if_neg hkd]at hsn;refine Zf (zi qk w1) ?_;exact hL3 _ ⟨I,⟨r,a+1,cs3,W,O,C⟩,⟨hsn.symm,rfl,hT3⟩,Weak.st zp zp⟩;have hkd:m.p.kd v=4:=zu qk;rw[if_pos hkd]at hsn;refine Z2 (b:=true) zp (λ_=>?_) (λh=>by cases h);refine AW.weak (Weak.st (l:=[(0,Wl c1 U T S R Q m x),(1,.msl 3000 d 0 L.length 6),(4,.int .i64 i),(5,.ptr 5 P 0),(7,.ptr 7 A 0),(8,.func (.func 94) [] [.ptr 6 K 0,.ptr 7 A 0]),(12,.msl 3000 d 0 L.length 6),(13,.int .i64 L.length),(14,.int .i64 i),(9,.int .i64 v),(47,Za .new 1 (V.int .i64) (Zd (F.map fun(i:Nat)=>(i:Int)))),(48,.int .i64 F.length),(11,.int .i64 j),(49,.int .i64 k)]) (m:=[(5,.cells .new P 0 [Za .new 1 (V.int .i64) (Zd s.sources),.int .i64 s.first,Za .new 1 (V.int .i64) (Zd s.guards),Za .new 1 (V.int .i64) (Zd s.effects),X6 .new s.ends,.nils]),(6,.cells .new K 0 [.mref 19 b]),(7,.cells .new A 0 [.msl 20 O W (r.length-(a+1)) 1]),(19,.mp X.w.heap.size b (Qi r) (Pn r)),(20,.cells .new O 0 (cs3.map (V.int .i64))),(42,Yb C (V.int .i64) (r.take (a+1))),(3000,.cells .new d 0 (O9 L (Ya (Nk m.p L i) i (grown 42 C 1 (r.take (a+1))))))]) zp zp) ?_
 have hmj:L.getD j Kv∈L:=by
  rw[List.getD_eq_getElem?_getD,List.getElem?_eq_getElem M];exact List.getElem_mem M
 have hsj:=Z2x (rv:=Ya (Nk m.p L i) i (grown 42 C 1 (r.take (a+1)))) M;have hdl:(r.drop (a+1)).length=r.length-(a+1):=List.length_drop ..;have k7:j*6+6<=L.length*6:=zo;have k7':j*6<L.length*6:=zo;refine Wh [5] zk (by rfl) ?_;simp -implicitDefEqProofs only[go_sem,seval,Mf,M,hsj,Pt,k7,k7',Rr,Int.ofNat_lt];refine⟨_,rfl,B4 (Zny G hG X.w.heap.size (L.getD j Kv,Ya (Nk m.p L i) i (grown 42 C 1 (r.take (a+1))) j) r cs3 (r.drop (a+1)) W K A O b _ hl3 hT3 (by rw[hdl];omega) (he _ hmj) zp (by rw[hdl];exact zp) zp zp (λo h1 h2=>?_)) zp zp (λv H' hk=>?_) zk (k:=5) rfl zp⟩
 dsimp only
 (repeat rw[Zp _ _ zo])
 rfl;obtain⟨rfl,w,hw1,hw2,rfl⟩:=hk;obtain⟨new,cs4,of4,go4⟩:=w;simp only at hw1 hw2;have hp4:(r++new).take (a+1)=r.take (a+1):=List.take_append_of_le_length hq3l;refine Zf w1 ?_;refine hL3 _ ⟨I,⟨r++new,a+1,cs4,of4,go4,C⟩,⟨?_,rfl,?_⟩,Weak.st zp ?_⟩
 show r++new=_
 rw[hw1,hsn,Zoy]
 show Tl cs4 of4 ((r++new).drop (a+1))
 rw[List.drop_append_of_le_length hq3l];exact hw2
 dsimp only
 rw[hp4];have hle:r.length-(a+1)+new.length=r.length+new.length-(a+1):=zo;simp -implicitDefEqProofs only[go_sem,seval,hdl,List.length_append,hle];have hke:k=F.length:=zo;rw[hke,List.take_length,E]at H;have D:decide ((F.length:Int)<(F.length:Int))=false:=zF;rw[hke];refine Zf D ?_;refine hL2 _ ⟨⟨r,a+1,cs3,W,O,C⟩,?_,⟨?_,hT3⟩,Weak.st zp zp⟩
 show m.p.vertices.length-(a+1)<m.p.vertices.length-a
 omega
 show m.p.QInv L s r (a+1)
 rw[H,<- E];exact hQ';have hie:a=q.length:=zo;rw[hie]at hQ⊢;have hE:=hQ.fin
 have N:decide (((q.length-q.length:Nat):Int)>0)=false:=by rw[Nat.sub_self]<;>rfl
 have hcg:(O9 L (Ya (Nk m.p L i) i (grown 42 gr 1 q)))[i*6+5]?=some (grown 42 gr 1 q):=by rw[Z66 t,Ym]
 refine AW.weak (Weak.st (l:=[(0,Wl c1 U T S R Q m x),(1,.msl 3000 d 0 L.length 6),(4,.int .i64 i),(5,.ptr 5 P 0),(7,.ptr 7 A 0),(8,.func (.func 94) [] [.ptr 6 K 0,.ptr 7 A 0]),(12,.msl 3000 d 0 L.length 6),(13,.int .i64 L.length),(14,.int .i64 i)]) (m:=[(7,.cells .new A 0 [.msl 20 gq of (q.length-q.length) 1]),(42,Yb gr (V.int .i64) q),(3000,.cells .new d 0 (O9 L (Ya (Nk m.p L i) i (grown 42 gr 1 q))))]) zp (by simp -implicitDefEqProofs only[go_sem,seval,List.take_length])) ?_;have f17:=zi t (zi hcg (zi Pt (zi k6 (zi Y Yh))));refine Xm (zi N f17) ?_;refine Xm (zi N f17) ?_;refine Z5y (g:=gr) (l:=q) zo zp ?_
 have hrl:q.length=(m.p.reachL L s).length:=by rw[<- PM.reach_sort J (J s B) hE,Z8b]
 rw[PM.reach_sort J (J s B) hE];have w1:IntKind.i64.wrap ((i:Int)+1)=(i:Int)+1:=Wy zo zo;refine Zs ?_;refine AW.weak (Zl (λo=>o==42) (l:=[(0,Wl c1 U T S R Q m x),(1,.msl 3000 d 0 L.length 6),(12,.msl 3000 d 0 L.length 6),(13,.int .i64 L.length),(14,.int .i64 i)]) (m:=[(3000,.cells .new d 0 (O9 L (Ya (Nk m.p L i) i (Za .new 1 (V.int .i64) (Zd (m.p.reachL L s))))))]) ?_ ⟨FzO.lv (rv:=Ya (Nk m.p L i) i (grown 42 gr 1 q)) zp rfl λj M=>?_,trivial⟩) ?_;refine Zs ?_;exact⟨Zb,Zb,Zb,Zb,Zb⟩
 by_cases e:j=i
 subst e;rw[Ym,Ym,Ze1 42 gr 1 hrl];exact Y5 (g:=gr) (f:=V.int .i64) rfl zp λ_=>rfl;rw[Zp _ _ e,Zp _ _ e];exact Zb;refine AW.weak (Zl (λ_=>false) (l:=[(0,Wl c1 U T S R Q m x),(1,.msl 3000 d 0 L.length 6),(12,.msl 3000 d 0 L.length 6),(13,.int .i64 L.length),(14,.int .i64 i)]) (m:=[(3000,.cells .new d 0 (O9 L (Nk m.p L (i+1))))]) ?_ ⟨FzO.lv (rv:=Ya (Nk m.p L i) i (Za .new 1 (V.int .i64) (Zd (m.p.reachL L s)))) zp rfl λj M=>?_,trivial⟩) ?_;refine Zs ?_;exact⟨Zb,Zb,Zb,Zb,Zb⟩
 by_cases e:j=i
 subst e;rw[Ym,Nk,if_pos (Nat.lt_succ_self _),hs];exact Zb;rw[Zp _ _ e]
 have:Nk m.p L (i+1) j=Nk m.p L i j:=by
  unfold Nk
  by_cases h:j<i
  rw[if_pos h,if_pos zo];rw[if_neg h,if_neg zo]
 rw[this];exact Zb;refine Zf w1 ?_;exact hL1 _ ⟨t,(),trivial,Weak.st zp zp⟩;have hie:i=L.length:=zo;have hlt:decide ((L.length:Int)<(L.length:Int))=false:=zF;rw[hie];refine Zf hlt ?_;exact⟨_,rfl,rfl⟩
theorem Iu(G:Nat->V)(b c d e:Col)(m:MdM)(n vs:Sl (List UInt8))(k:Nat):
  Spec Tryz.prog G 89 [V6 b c d e m n vs,.int .i64 k] Zj (λw _=>w=.int .i64 (m.p.places k)):=by
 refine Zo 0 33 [.tmp 4] Tryz.func89 λX=>?_;rw[PM.places,m.nv,m.nw];have f := @Xv
 by_cases i:k=1
 rw[if_pos i]
 have q:((k:Int)==1)=true:=by simp[i]
 exact Zq (zi q f);rw[if_neg i];have q:((k:Int)==1)=false:=(eqN k 1).trans (zu i)
 by_cases l:k<=8
 rw[if_pos (.inl l)];have a:decide ((k:Int)<=8)=true:=zT;exact Zq (zi q (zi a f));have a:decide ((k:Int)<=8)=false:=zF
 by_cases g:k=13
 rw[if_pos (.inr g)]
 have j:((k:Int)==13)=true:=by simp[g]
 exact Zq (zi q (zi a (zi j f)));rw[if_neg (λh=>h.elim l g)];have j:((k:Int)==13)=false:=(eqN k 13).trans (zu g);exact Zq (zi q (zi a (zi j f)))
theorem Zr0(G:Nat->V)(J:Y6 G)(c d:Col)(m:MdM)(H:m.vars.l.length<=600):
  Spec Tryz.prog G 87 [Zw c d m] Zj (λw _=>w=V6 .new c d .new m (.mk false (m.p.vn++[Pd])) (Zd m.p.vn)):=by
 refine Zo 0 39 [.tmp 2] Tryz.func87 λX=>?_;have b:m.p.vn=m.vars.l.map (·.1):=rfl
 have u:m.p.vn.length<=600:=by rw[b,List.length_map];exact H
 simp only[Zi];refine Z ?_;intro P;refine Z ?_;intro i;refine Z ?_
 refine Yc m.vars.l.length (λk (g:Nat)=>st [(3,.ptr 8 i 0),(10,Za c 2 Z3 m.vars),(11,.int .i64 m.vars.l.length),(12,.int .i64 k)]
   [(8,.cells .new i 0 [.str m.name,Za c 2 Z3 m.vars,Za c 1 V.str m.events,Za c 2 Z3 m.regions,Za c 8 (Yf d) m.verts,Za c 8 (Yn d) m.ways,.nils,grown 24 g 1 (m.p.vn.take k)]),(24,Yb g V.str (m.p.vn.take k))])
  (λ_ _=>True) 0 0 (Nat.zero_le _) trivial (Weak.st zp (by refine Zs ?_;exact⟨rfl,rfl⟩)) ?_
 intro k g O _ Q r
 by_cases n:k<m.vars.l.length
 have j:decide ((k:Int)<(m.vars.l.length:Int))=true:=zT;have E:=List.getElem?_eq_getElem n
 have z:k<m.p.vn.length:=by rw[b,List.length_map];exact n
 have t:m.p.vn.take (k+1)=m.p.vn.take k++[(m.vars.l[k]).1]:=by rw[List.take_succ_eq_append_getElem z];simp[b]
 have y:(m.p.vn.take k).length=k:=by rw[List.length_take];omega
 generalize m.vars.l[k]=x at E t;have F:IntKind.i64.wrap ((k:Int)+1)=(k:Int)+1:=Wy zo zo;rw[t]at r;generalize m.p.vn.take k=C at y r;refine Zf (zi j (zi E Wb)) ?_;intro K;refine ZT J ?_;intro L;refine Ys (f:=V.str) (l:=C) (l2:=[x.1]) (g:=g) Up rfl rfl rfl zp (Z4 zo zO) λM=>?_;refine Zs ?_;refine Zf F ?_;exact r _ ⟨n,M,trivial,Weak.st zp zp⟩;have A:k=m.vars.l.length:=zo;subst A;rw[List.take_of_length_le (by rw[b,List.length_map];exact Nat.le_refl _)];have j:decide ((m.vars.l.length:Int)<(m.vars.l.length:Int))=false:=zS;generalize m.p.vn=vn at u⊢;refine AW.weak (Zl (λo=>o==24) (l:=[(3,.ptr 8 i 0),(11,.int .i64 m.vars.l.length),(12,.int .i64 m.vars.l.length)]) (m:=[(8,.cells .new i 0 [.str m.name,Za c 2 Z3 m.vars,Za c 1 V.str m.events,Za c 2 Z3 m.regions,Za c 8 (Yf d) m.verts,Za c 8 (Yn d) m.ways,.nils,Za .new 1 V.str (Zd vn)])]) ?_ ?_) ?_;refine Zs ?_;exact⟨Zb,Zb⟩;simp only[Zt,Zv,and_true];exact FzO.of (c:=.new) (fz:=0) (cs:=[.str m.name,Za c 2 Z3 m.vars,Za c 1 V.str m.events,Za c 2 Z3 m.regions,Za c 8 (Yf d) m.verts,Za c 8 (Yn d) m.ways,.nils,grown 24 g 1 vn]) rfl zp ⟨Zb,Zb,Zb,Zb,Zb,Zb,Zb,Y5 rfl zp Up,trivial⟩;refine Zf j ?_;refine CallA.inl [(5005,.dead)] zk ?_ ?_;intro p D;rw[List.mem_singleton]at D;subst D;exact zp;refine(Fi G .new (Zd vn) (by rw[Zm];omega)).mono ?_;rintro _ R (⟨I,rfl,q⟩|⟨K,rfl,q⟩)
 have s:vn=[]:=by
  have:=congrArg Sl.l I;rwa [Zm]at this
 subst s;simp only[List.map_cons,List.map_nil,q];refine Zu ?_;intro B;refine⟨Z4 zo zo,λh=>absurd h zd,λ_ a=>?_⟩;refine Zs ?_;refine AW.weak (Zl (λo=>o==35) (l:=[(3,.ptr 8 i 0)]) (m:=[(8,.cells .new i 0 [.str m.name,Za c 2 Z3 m.vars,Za c 1 V.str m.events,Za c 2 Z3 m.regions,Za c 8 (Yf d) m.verts,Za c 8 (Yn d) m.ways,Za .new 1 V.str (.mk false [Pd]),Za .new 1 V.str (Zd [])])]) ?_ ?_) ?_;refine Zs ?_;exact Zb;simp only[Zt,Zv,and_true];exact FzO.of (c:=.new) (fz:=0) (cs:=[.str m.name,Za c 2 Z3 m.vars,Za c 1 V.str m.events,Za c 2 Z3 m.regions,Za c 8 (Yf d) m.verts,Za c 8 (Yn d) m.ways,.msl 35 a 0 ([Pd]).length 1,Za .new 1 V.str (Zd [])]) rfl zp ⟨Zb,Zb,Zb,Zb,Zb,Zb,Xa (f:=V.str) (l:=[Pd]) (m:=1) (g:=a) (fz:=0) (c:=.new) rfl zp Up,Zb,trivial⟩;refine AW.weak (Zl (λo=>o==8) (l:=[(3,V6 .new c d .new m (.mk false [Pd]) (Zd []))]) (m:=[]) ?_ trivial) ?_;refine Zs ?_;exact Fz.ptr (v:=Bg c d .new m (.mk false [Pd]) (Zd [])) (c:=.new) (fz:=0) zp zp;exact Zr;simp only[List.map_cons,List.map_nil,q,Zm];refine Zu ?_;intro B
 have e:List.take (vn.length*1) (flat (List.map V.str vn))++[V.str [97,114,103]]=flat ((vn++[Pd]).map V.str):=by
  rw[List.take_of_length_le (by rw[Xu Up];exact Nat.le_refl _),List.map_append,U6];rfl
 have N:vn.length+1=(vn++[Pd]).length:=by rw[List.length_append]<;>rfl
 refine⟨Z4 zo zo,by rw[Xu Up];exact Nat.le_refl _,Nat.zero_le _,λa=>?_⟩;rw[e,N];refine AW.weak (Zl (λo=>o==5005) (l:=[(3,.ptr 8 i 0)]) (m:=[(8,.cells .new i 0 [.str m.name,Za c 2 Z3 m.vars,Za c 1 V.str m.events,Za c 2 Z3 m.regions,Za c 8 (Yf d) m.verts,Za c 8 (Yn d) m.ways,Za .new 1 V.str (.mk false (vn++[Pd])),Za .new 1 V.str (Zd vn)])]) ?_ ?_) ?_;refine Zs ?_;exact Zb;simp only[Zt,Zv,and_true];exact FzO.of (c:=.new) (fz:=0) (cs:=[.str m.name,Za c 2 Z3 m.vars,Za c 1 V.str m.events,Za c 2 Z3 m.regions,Za c 8 (Yf d) m.verts,Za c 8 (Yn d) m.ways,.msl 5005 a 0 ((vn++[Pd])).length 1,Za .new 1 V.str (Zd vn)]) rfl zp ⟨Zb,Zb,Zb,Zb,Zb,Zb,Xa (f:=V.str) (l:=(vn++[Pd])) (m:=1) (g:=a) (fz:=0) (c:=.new) rfl zp Up,Zb,trivial⟩;refine AW.weak (Zl (λo=>o==8) (l:=[(3,V6 .new c d .new m (.mk false (vn++[Pd])) (Zd vn))]) (m:=[]) ?_ trivial) ?_;refine Zs ?_;exact Fz.ptr (v:=Bg c d .new m (.mk false (vn++[Pd])) (Zd vn)) (c:=.new) (fz:=0) zp zp;exact Zr
def rF:Nat->FuncId
 |1=>122
 |2=>123
 |3=>124
 |4=>125
 |5=>126
 |6=>127
 |7=>128
 |8=>129
 |9=>130
 |10=>131
 |11=>132
 |12=>133
 |13=>134
 |14=>135
 |_=>136
def Sm(k:Nat):V:=.func (.func (rF k)) [] []
def ruleFs:List V:=[.nilf,Sm 1,Sm 2,Sm 3,Sm 4,Sm 5,Sm 6,Sm 7,Sm 8,Sm 9,Sm 10,Sm 11,Sm 12,Sm 13,Sm 14,Sm 15]
theorem Dh{k:Nat}(h:1<=k)(b:k<=15):ruleFs[k]?=some (Sm k)/\Z7 Tryz.prog (rF k)=true:=by
 have a:k=1\/k=2\/k=3\/k=4\/k=5\/k=6\/k=7\/k=8\/k=9\/k=10\/k=11\/k=12\/k=13\/k=14\/k=15:=zo
 rcases a with rfl|rfl|rfl|rfl|rfl|rfl|rfl|rfl|rfl|rfl|rfl|rfl|rfl|rfl|rfl<;>exact⟨rfl,zk⟩
@[go_sem] theorem Zbca(g:Col->Col):ruleFs.map (V.recol g)=ruleFs:=rfl
theorem Zar(G:Nat->V):Spec Tryz.prog G 88 [] Zj (λw _=>w=.agg ruleFs):=by
 refine Zo 0 2 [.cell 0 170] Tryz.func88 λX=>?_;refine Z ?_;intro a;exact Zr
structure MdT(m:MdM):Prop where
 ef:∀ t∈m.ways.l,t.effect.length<=900
 gu:∀ t∈m.ways.l,t.guard.length<=900
 en:∀ x∈m.verts.l,x.entry.length<=900/\x.exit.length<=900
theorem Z4s(G:Nat->V)(s:GExp G)(b c d e:Col)(m:MdM)(a vs:Sl (List UInt8))(y:MdB m)(g:m.p.Rt)(u:MdT m)(r:a.l=m.p.vn++[Pd])(n:vs.l=m.p.vn)(k:Nat)(H:1<=k)(F:k<=15)(t:Int)(t0:0<=t)(t1:t<m.p.places k):
  Spec Tryz.prog G (rF k) [V6 b c d e m a vs,.int .i64 t] Zj (λw _=>w=.bool (m.p.keep Xw Xj k t)):=by
 have f:=s.ok;have K:=y.nw;have J:=y.nx;have I:=y.ne
 have C:m.p.vn.length<=600:=by
  show(m.vars.l.map _).length<=_
  rw[List.length_map];exact y.nv
 have A:a.l.length<1000000:=by rw[r,List.length_append];show _+1<_;omega
 have q:vs.l.length<100000:=by rw[n];omega
 have i:t<m.p.ways.length->((m.p.wy t).effect.length<=900/\(m.p.wy t).guard.length<100000):=λh=>by
  obtain⟨j,x,rfl,E,v,z⟩:=MdM.wyAt t0 h;rw[z];have:=u.gu x (List.mem_of_getElem? v);exact⟨u.ef x (List.mem_of_getElem? v),by show x.guard.length<_;omega⟩
 have o:t<m.p.vertices.length->((m.p.vx t).entry.length<=900/\(m.p.vx t).exit.length<=900):=λh=>by
  obtain⟨j,x,rfl,E,v,z⟩:=MdM.at t0 h;rw[z];exact u.en x (List.mem_of_getElem? v)
 have B:∀ t∈m.ways.l,t.guard.length<100000:=λt h=>by have:=u.gu t h;omega
 have D:k=1\/k=2\/k=3\/k=4\/k=5\/k=6\/k=7\/k=8\/k=9\/k=10\/k=11\/k=12\/k=13\/k=14\/k=15:=zo
 rcases D with rfl|rfl|rfl|rfl|rfl|rfl|rfl|rfl|rfl|rfl|rfl|rfl|rfl|rfl|rfl
 exact Zpaa G f b c d e m a vs zo t;exact Zoaa G f b c d e m a vs g zo t t0 t1;exact Znaa G f b c d e m a vs zo t t0 t1;exact Zmaa G f b c d e m a vs g zo t t0 t1;exact Zlaa G f b c d e m a vs g zo t t0 t1;exact Zkaa G s b c d e m a vs zo B t t0 t1;exact Zjaa G f b c d e m a vs g zo zo t t0 t1;exact Ziaa G f b c d e m a vs g zo t t0 t1;exact Zhaa G f b c d e m a vs g t t0 t1;exact Zb6 G s b c d e m a vs g r A t t0 t1 (i t1).2;exact Za6 G f b c d e m a vs g t t0 t1;exact Z95 G s b c d e m a vs n q zo t t0 t1 (i t1).1;exact Z85 G s b c d e m a vs n q zo t t0 t1 (o t1);exact Z75 G f b c d e m a vs g t t0 t1;exact Z65 G f b c d e m a vs g t t0 t1
def M7(p:Nat×Int):V:=.agg [.int .u8 p.1,.int .i64 p.2]
theorem Ztba(p:Nat×Int):M7 p=.agg [.int .u8 p.1,.int .i64 p.2]:=rfl
theorem Zcy(p:Nat×Int):(M7 p).cells.length=2:=rfl
theorem PM.places_le(m:PM)(k:Nat):m.places k<=m.regions.length+m.vertices.length+m.ways.length:=by
 rw[PM.places];split;omega
 split<;>omega
theorem Zyt(G:Nat->V)(hE:GExp G)(c d:Col)(m:MdM)(A:MdB m)(ht:m.p.Rt->MdT m):
  Spec Tryz.prog G 57 [Zw c d m] Zj (λw _=>w=.tuple [Za .new 2 M7 (Zd (m.p.checkW Xw Xj).1),.int .i64 (m.p.checkW Xw Xj).2]):=by
 have z:=hE.ok;refine Zo 0 49 [.tmp 2,.tmp 3] Tryz.func57 λX=>?_;rw[PM.checkW];have hr:=PM.right_er (m:=m.p);simp only[Zi];refine Z ?_;intro g1;refine AW.weak (Zl (λo=>o==1) (l:=[(1,.view .new (Zw c d m)),(2,.nils),(3,.int .i64 0)]) (m:=[]) ?_ trivial) ?_;refine Zs ?_;exact⟨Fz.ptr (v:=Zw c d m) (c:=.new) (fz:=0) zp zp,Zb,Zb⟩;refine Zf Zi ?_;refine Zn z ?_ (s:=Dn G hE c.ent d.ent m A);have C:=λh=>PM.rt_of (m:=m.p) h;generalize m.p.rightP=J at hr C;refine Zs ?_
 by_cases h:J.2.2=0
 rotate_left;rw[if_pos h];have q:(J.2.2 != 0)=true:=zu h;exact Zq q;rw[if_neg (λk=>k h)]
 have q:(J.2.2 != 0)=false:=by simp[h]
 have hm:m.p.Rt:=C (hr.1 h);have hT:=ht hm;have Q:=A.nv;refine Zf (zi q Zi) ?_;refine Zc z ?_ (s:=Zr0 G z c.ent d.ent m Q);refine Z ?_;refine Zc z ?_ (s:=Zar G);refine Z ?_;have u:=λk=>m.p.places_le k;have b1:=A.nr;have b2:=A.nx;have b3:=A.nw
 have u:∀ k,m.p.places k<=1800:=λk=>by
  have:=u k;have e1:m.p.regions.length=m.regions.l.length:=rfl;have e2:=m.nv;have e3:=m.nw;omega
 refine Yc 16 (λr (g:Nat)=>st [(2,grown 46 g 2 (m.p.badL Xw Xj (r-1))),(4,V6 .new c.ent.bk d.ent.bk .new m (.mk false (m.p.vn++[Pd])) (Zd m.p.vn)),(19,.agg ruleFs),(20,.int .i64 r)] [(46,Yb g M7 (m.p.badL Xw Xj (r-1)))])
  (λr _=>(m.p.badL Xw Xj (r-1)).length<=1800*r) 0 0 zd (Nat.zero_le _) (Weak.st zp zp) ?_
 intro r g hr1 hR L3 H
 by_cases P:r<16
 rotate_left;obtain rfl:r=16:=zo;have E:decide (((16:Nat):Int)<16)=false:=rfl;have e15:m.p.badL Xw Xj (16-1)=m.p.badL Xw Xj 15:=rfl;rw[e15];generalize m.p.badL Xw Xj 15=i;refine AW.weak (Zl (λo=>o==46) (l:=[(2,Za .new 2 M7 (Zd i)),(20,.int .i64 (16:Nat))]) (m:=[]) ?_ trivial) ?_;refine Zs ?_;exact⟨Y5 (l:=i) (g:=g) (f:=M7) rfl zp Zcy,Zb⟩;exact Zr;have E:decide ((r:Int)<16)=true:=zT;have w1:IntKind.i64.wrap ((r:Int)+1)=(r:Int)+1:=Wy zo zo
 have N:∃ f,ruleFs[r]?=some f/\(1<=r->f=Sm r/\Z7 Tryz.prog (rF r)=true):=by
  rcases Nat.eq_zero_or_pos r with n|n
  subst n;exact⟨_,rfl,λh=>absurd h zd⟩;exact⟨_,(Dh n zo).1,λ_=>⟨rfl,(Dh n zo).2⟩⟩
 obtain⟨fv,S,T⟩:=N;have O:(r:Int)<16:=zo;refine Zf (zi E (zi S (zi O (zi @Int.natCast_nonneg Nat.mul_one)))) ?_;have F:∀ a,(m.p.badAt Xw Xj r a).length<=a:=λa=>PM.badAt_len r a
 have hn:(if r=0 then 0 else m.p.places r)<=1800:=by split;exact Nat.zero_le _;exact u r
 have D:(m.p.badL Xw Xj (r-1))++(if r=0 then[]else m.p.badAt Xw Xj r (m.p.places r))=m.p.badL Xw Xj r:=by
  rcases Nat.eq_zero_or_pos r with n|n
  subst n;rfl;rw[if_neg zo];obtain⟨r,rfl⟩:∃ r',r=r'+1:=⟨r-1,zo⟩
  rw[PM.badL_succ]<;>rfl
 have W:∀ a,r≠0->m.p.badAt Xw Xj r (a+1)=m.p.badAt Xw Xj r a++(if m.p.keep Xw Xj r (a:Int)=true then[]else[(r,(a:Int))]):=λa _=>PM.badAt_succ r a;have R:=λb c d e ns vs (h1:ns.l=m.p.vn++[Pd]) (h2:vs.l=m.p.vn) h3=>Z4s G hE b c d e m ns vs A hm hT h1 h2 r h3 zo;generalize m.p.badL Xw Xj (r-1)=i at hR D
 refine Yc (if r=0 then 0 else m.p.places r) (λa (g:Nat)=>st [(2,grown 46 g 2 (i++if r=0 then[]else m.p.badAt Xw Xj r a)),(4,V6 .new c.ent.bk d.ent.bk .new m (.mk false (m.p.vn++[Pd])) (Zd m.p.vn)),(5,.int .i64 r),(6,fv),(7,.int .i64 a),(19,.agg ruleFs),(20,.int .i64 r)] [(46,Yb g M7 (i++if r=0 then[]else m.p.badAt Xw Xj r a))])
  (λa _=>True) 0 g (Nat.zero_le _) trivial (Weak.st ?_ ?_) ?_
 have:(i++if r=0 then[]else m.p.badAt Xw Xj r 0)=i:=by
  split
  exact List.append_nil _;exact List.append_nil _
 rw[this];exact zp
 have:(i++if r=0 then[]else m.p.badAt Xw Xj r 0)=i:=by
  split
  exact List.append_nil _;exact List.append_nil _
 rw[this];exact zp;intro a g ha _ L7 j;have L:IntKind.u8.wrap (r:Int)=(r:Int):=wu8R zo zo
 by_cases t:a<(if r=0 then 0 else m.p.places r)
 rotate_left
 .have hae:a=(if r=0 then 0 else m.p.places r):=zo
  have y:(i++if r=0 then[]else m.p.badAt Xw Xj r a)=m.p.badL Xw Xj (r+1-1):=by
   rw[Nat.add_sub_cancel,<- D,hae]
   split<;>rfl
  rw[y]
  have x:∀ s,Weak ⟨X,Zj,49,0,G,none,[],.plain⟩ s (st [(2,grown 46 g 2 (m.p.badL Xw Xj (r+1-1))),(4,V6 .new c.ent.bk d.ent.bk .new m (.mk false (m.p.vn++[Pd])) (Zd m.p.vn)),(19,.agg ruleFs),(20,.int .i64 (r+1:Nat))] [(46,Yb g M7 (m.p.badL Xw Xj (r+1-1)))])->L3 s:=λs hs=>by
   refine H s ⟨P,g,?_,hs⟩;rw[<- y,List.length_append]
   have e2:(if r=0 then([]:List (Nat×Int))else m.p.badAt Xw Xj r a).length<=1800:=by
    split
    exact Nat.zero_le _;exact Nat.le_trans (F a) zo
   omega
  try clear H
  by_cases n:r=0
  have B:decide ((r:Int)>0)=false:=zF;refine Zf (zi B w1) ?_;exact x _ (Weak.st zp zp);have B:decide ((r:Int)>0)=true:=zT;rw[if_neg n]at hae;have K:decide ((a:Int)<(m.p.places r:Int))=false:=zF;refine Zf B ?_;refine Zc z ?_ (s:=Iu G _ _ _ _ m _ _ r);refine Zg (zi K w1) ?_;exact x _ (Weak.st zp zp)
 have n:r≠0:=λh=>by rw[if_pos h]at t;exact absurd t (Nat.not_lt_zero _)
 rw[if_neg n]at t;have hpr:=u r;have B:decide ((r:Int)>0)=true:=zT;have K:decide ((a:Int)<(m.p.places r:Int))=true:=zT;have w2:IntKind.i64.wrap ((a:Int)+1)=(a:Int)+1:=Wy zo zo;obtain⟨rfl,U⟩:=T zo;simp only[if_neg n]at j⊢;rw[W a n]at j;have Y:=F a;generalize m.p.badAt Xw Xj r a=bl at j Y⊢;refine Zf B ?_;refine Zc z ?_ (s:=Iu G _ _ _ _ m _ _ r);refine Zg (zi K (show Sm r=.func (.func (rF r)) [] []from rfl)) ?_;have M:=λb c d e=>R b c d e (.mk false (m.p.vn++[Pd])) (Zd m.p.vn) rfl (Zm _) zo a (Int.natCast_nonneg a) zo;refine Zc z ?_ (e:=U) (s:=M _ _ _ _);cases I:m.p.keep Xw Xj r (a:Int);rw[I,if_neg zd,<- List.append_assoc]at j;refine Zf (zi I L) ?_;intro g45;refine Ys (f:=M7) (l:=i++bl) (l2:=[(r,(a:Int))]) (g:=g) Zcy rfl rfl rfl zp (Z4 zo (by simp only[List.length_append,List.length_cons,List.length_nil];omega)) λg2=>?_;refine Zs ?_;refine Zf w2 ?_;exact j _ ⟨t,g2,trivial,Weak.st (T9 (show V.func (.func (rF r)) [] []=Sm r from rfl)) zp⟩;rw[I,if_pos rfl,List.append_nil]at j;refine Zf (zi I w2) ?_;exact j _ ⟨t,g,trivial,Weak.st (T9 (show V.func (.func (rF r)) [] []=Sm r from rfl)) zp⟩
@[go_sem] theorem recol_ftK(g:Col->Col)(c:Col)(s:Sl (Nat×Int)):(Za c 2 M7 s).recol g=Za (g c) 2 M7 s:=Y8 g c 2 (λp=>by simp only[Ztba,Xl,List.map_cons,List.map_nil,Yj]) s
theorem Zlr(G:Nat->V)(v:V):Spec Tryz.prog G 59 [v,.nils] Zj (λ_ _=>True):=by
 refine Zo 0 71 [] Tryz.func59 λX=>?_;have a:decide (((0:Nat):Int)<((0:Nat):Int))=false:=rfl;refine Z ?_;refine Yc 0 (λi (_:Unit)=>st [(13,.int .i64 0),(14,.int .i64 i)] []) (λ_ _=>True) 0 () (Nat.zero_le _) trivial (Weak.st zp zp) ?_;intro i _ b _ d c;obtain rfl:i=0:=Nat.le_zero.1 b;refine Z ?_;exact⟨_,rfl,trivial⟩
structure QOk(m:MdM)(q:StP×List Int):Prop where
 sn:q.1.sources≠[]
 s0:0<=PM.srcOf q.1/\PM.srcOf q.1<m.p.vertices.length
 f0:0<=q.1.first/\q.1.first<m.p.ways.length
 el:q.1.ends.length<100000
 er:∀ e∈q.1.ends,e.1 = -1\/(0<=e.1/\e.1<m.p.vertices.length)
 br:∀ e∈q.1.ends,∀ t∈e.2,0<=t/\t<m.p.ways.length
 bl:∀ e∈q.1.ends,e.2.length<100000
 fl:q.1.effects.length<400000
 fr:∀ t∈q.1.effects,0<=t/\t<m.p.ways.length
 rl:q.2.length<100000
 rr:∀ v∈q.2,0<=v/\v<m.p.vertices.length
theorem Zm2(G:Nat->V)(j:Y6 G)(i n b c d e f g:Col)(m:MdM)(x:IxM)(k:IxP m.p x)(l:m.p.ways.length<=600)(a:m.p.Wfd)(q:StP×List Int)(h:QOk m q):
  Spec Tryz.prog G 61 [Yo i q,.view n (Wl b c d e f g m x)] Zj (λw _=>w=.bool (!(m.p.rightS q.1 q.2))):=by
 refine Zo 0 8 [.tmp 3] Tryz.func61 λX=>?_;refine Zf Xc ?_;intro o;refine Zf Xc ?_;refine Si [Wl b c d e f g m x,Yo i q] ⟨Zb,Zb,trivial⟩ ?_;refine Zc j ?_ (ha:=by simp only[List.map_cons,List.map_nil,Tv,Tw]) (s:=Zuh G j i.ent b.ent c.ent d.ent e.ent f.ent g.ent m (x.rc Col.ent) (k.rc Col.ent) l a q h.sn h.s0.1 h.s0.2 h.f0.1 h.f0.2 h.el h.er h.br h.bl h.fl h.fr h.rl h.rr);exact Zr
theorem Zij(x:AObj):x.noMp.noMp=x.noMp:=by cases x<;>rfl
theorem G6{α : Type}(g:Nat)(f : α -> V)(l:List α):(Yb g f l).noMp=Yb g f l:=by cases l<;>rfl
def Zcu(w:List StP×Bool)(k:StP):List StP×Bool:=if w.1.length=4096 then(w.1,true)else(w.1++[k],w.2)
def allJ(w:List StP×Bool):Option Code:=if w.2=true then some .ret else none
theorem Z9k:∀ (xs l:List StP),l.length<=4096->(Yx (λw k=>((allJ (Zcu w k)).isNone,Zcu w k)) (l,false) xs).2=if l.length+xs.length<=4096 then(l++xs,false)else((l++xs).take 4096,true)
 |[],l,h=>by
  rw[Yx];rw[if_pos (zu h),List.append_nil]
 |k::r,l,h=>by
  rw[Yx]
  by_cases e:l.length=4096
  have a:Zcu (l,false) k=(l,true):=if_pos e;rw[a];rw[if_neg (by simp[allJ]),if_neg (by rw[List.length_cons];omega)];rw[List.take_append_of_le_length zo,List.take_of_length_le zo];have a:Zcu (l,false) k=(l++[k],false):=if_neg e;rw[a,if_pos (by rfl),Z9k r (l++[k]) zO];simp only[List.length_append,List.length_cons,List.length_nil,List.append_assoc,List.singleton_append];rw[show l.length+(0+1)+r.length=l.length+(r.length+1) by omega]
theorem Zf1(m:PM)(g:Nat){L:List StP}(h:L≠[]):Yb g U7 L=.cells .new g 0 (O9 L (Nk m L 0)):=by
 rw[W7 _ _ h]
 congr 1
 rw[O9,lv,List.map_map]
 congr 1
 apply List.ext_getElem;simp
 .intro j h1 h2
  have a:j<L.length:=zu h1;rw[List.getElem_map,List.getElem_map,List.getElem_range]
  show U7 _=Ts .new (L.getD j Kv,Nk m L 0 j)
  rw[List.getD_eq_getElem?_getD,List.getElem?_eq_getElem a,Nk,if_neg (Nat.not_lt_zero _)]
  try rfl
theorem Z3aa(m:PM)(L:List StP):O9 L (Nk m L L.length)=flat ((L.map λs=>(s,m.reachL L s)).map (Yo .new)):=by
 rw[O9,lv,List.map_map,List.map_map]
 congr 1
 apply List.ext_getElem;simp
 .intro j h1 h2
  have a:j<L.length:=zu h1;rw[List.getElem_map,List.getElem_map,List.getElem_range]
  show Ts .new (L.getD j Kv,Nk m L L.length j)=Yo .new (L[j],m.reachL L L[j])
  have e:L.getD j Kv=L[j]:=by rw[List.getD_eq_getElem?_getD,List.getElem?_eq_getElem a]<;>rfl
  rw[Nk,if_pos a,e]
  try rfl
theorem Qr(m:PM):m.withR.length=m.allL.length:=List.length_map ..
theorem qok(m:MdM)(h:m.p.Wfd):∀ q∈m.p.withR,QOk m q:=by
 intro q c;obtain⟨s,b,rfl⟩:=List.mem_map.1 c;have f:=m.p.allL_ok h s b;have g:=h.lw;have a:PM.srcOf s∈s.sources:=PM.headD_mem f.so;refine⟨f.so,f.src _ a,f.first,?_,f.ar,f.br,λe d=>?_,?_,f.er,?_,m.p.reachL_rng m.p.allL s⟩;have:=f.el
 show s.ends.length<_
 omega;have:=f.bl e d;omega;have:=f.fl
 show s.effects.length<_
 omega
 show(m.p.reachL m.p.allL s).length<_
 rw[PM.reachL,List.length_map];have:=List.length_filter_le (fun(v:Nat)=>(m.p.reachQ m.p.allL s).contains (v:Int)) (List.range m.p.vertices.length);rw[List.length_range]at this;have:=h.lx;omega
theorem Zbk{α : Type}{p : α -> Bool}:∀ {l:List α} {n:Nat},l.findIdx? p=some n->∃ q,l[n]?=some q/\l.find? p=some q
 |[],n,h=>by cases h
 |a::r,n,h=>by
  rw[List.findIdx?_cons]at h
  by_cases e:p a=true
  rw[if_pos e]at h;cases h;exact⟨a,rfl,by rw[List.find?_cons_of_pos e]⟩
  .rw[if_neg e]at h
   cases b:r.findIdx? p with
   |none=>rw[b]at h;cases h
   |some k=>
    rw[b]at h;cases h;obtain⟨q,d,c⟩:=Zbk b;exact⟨q,d,by rw[List.find?_cons_of_neg e];exact c⟩
theorem Z88(G:Nat->V)(hE:GExp G)(c d:Col)(m:MdM)(hb:MdB m)(ht:m.p.Rt->MdT m):
  Spec Tryz.prog G 24 [Zw c d m] Zj (λw _=>w=.tuple [Za .new 6 (Yo .new) (Zd (m.p.statP Xw Xj).1),.int .i64 (m.p.statP Xw Xj).2.1,.int .i64 (m.p.statP Xw Xj).2.2]):=by
 have I:=hE.ok;refine ZoM 2100 64 [.cell 2 53,.cell 3 3,.cell 4 36] Tryz.func24 λX=>?_;simp only[Zi];refine Z ?_;intro g1 y u a;refine AW.weak (Zl (λo=>o==2101) (l:=[(1,.view .new (Zw c d m)),(2,.ptr 2102 y 0),(3,.ptr 2103 u 0),(4,.ptr 2104 a 0)]) (m:=[(2102,.cells .new y 0 [.nils]),(2103,.cells .new u 0 [.int .i64 0]),(2104,.cells .new a 0 [.int .i64 0])]) ?_ ?_) ?_;refine Zs ?_;exact⟨Fz.ptr (v:=Zw c d m) (c:=.new) (fz:=0) zp zp,Zb,Zb,Zb⟩;simp only[Zt,Zv,and_true];exact⟨FzO.same rfl,FzO.same rfl,FzO.same rfl⟩;refine Zf Zi ?_;refine Zc I ?_ (s:=Zyt G hE c.ent d.ent m hb ht);rw[PM.statP];generalize M:m.p.checkW Xw Xj=ck;obtain⟨fs,er⟩:=ck
 by_cases h1:er≠0
 rw[if_pos h1];have q1:(er != 0)=true:=zu h1;refine Zf q1 ?_;refine Ui [(36,.ptr 2104 a 0,.int .i64 er)] ⟨λ_=>.int .i64 er,λj=>if j=0 then .keep else .pure⟩ zk I zk zk ?_;refine Zs ?_;exact Zr;rw[if_neg h1];obtain rfl:er=0:=Classical.not_not.1 h1
 by_cases h2:fs≠[]
 rw[if_pos h2]
 have q2:decide ((fs.length:Int)>0)=true:=by
  have:=List.length_pos_iff.2 h2;rw[decide_eq_true_eq];omega
 have q3:(Zd fs).l.length=fs.length:=by rw[Zm]
 exact Zq (zi q2 q3);rw[if_neg h2];obtain rfl:fs=[]:=Classical.not_not.1 h2
 have hr:m.p.rightP.2.2=0:=by
  by_cases q:m.p.rightP.2.2=0
  exact q;rw[PM.checkW,if_pos q]at M;exact absurd (congrArg Prod.snd M) q
 have hbd:m.p.badL Xw Xj 15=[]:=by
  rw[PM.checkW,if_neg (by rw[hr];simp)]at M;exact congrArg Prod.fst M
 have rt:=PM.rt_of (PM.right_er.1 hr);have wfd:=rt.wfd hbd;have acy:=rt.acy;refine Z ?_;refine Zc I ?_ (s:=Cl G hE c.ent d.ent m hb acy hr);refine Zf Zi ?_;intro g31 D;have O:IxP m.p ((Ue m.p).rc Col.bk):=(Z5s m.p).rc _;refine AW.weak (Zl (λo=>o==2131) (l:=[(1,.view .new (Zw c d m)),(2,.ptr 2102 y 0),(3,.ptr 2103 u 0),(4,.ptr 2104 a 0),(8,.ptr 2108 D 0)]) (m:=[(2102,.cells .new y 0 [.nils]),(2103,.cells .new u 0 [.int .i64 0]),(2104,.cells .new a 0 [.int .i64 0]),(2108,.cells .new D 0 [Wl .new c d .new .new .new m ((Ue m.p).rc Col.bk)])]) ?_ ?_) ?_;refine Xr @Zi ?_;exact⟨Zb,Zb,Zb,Zb,Zb⟩;simp only[Zt,Zv,and_true];refine⟨FzO.keep rfl zp,FzO.keep rfl zp,FzO.keep rfl zp,FzO.of (c:=.new) (fz:=0) (cs:=[.ptr 2131 g31 0]) rfl zp ⟨?_,trivial⟩⟩;exact Fz.ptr (v:=.agg [.str m.name,Za c 2 Z3 m.vars,Za c 1 V.str m.events,Za c 2 Z3 m.regions,Za c 8 (Yf d) m.verts,Za c 8 (Yn d) m.ways,Uj .new .new .new ((Ue m.p).rc Col.bk)]) (c:=.new) (fz:=0) (g:=g31) rfl zp;refine Zf Zi ?_
 refine Yc m.ways.l.length (λt (w:List StP×Nat)=>st [(1,.view .new (Zw c d m)),(2,.ptr 2102 y 0),(3,.ptr 2103 u 0),(4,.ptr 2104 a 0),(8,.ptr 2108 D 0),(34,.int .i64 m.ways.l.length),(35,.int .i64 t)] [(2102,.cells .new y 0 [grown 3000 w.2 6 w.1]),(2103,.cells .new u 0 [.int .i64 0]),(2104,.cells .new a 0 [.int .i64 0]),(2108,.cells .new D 0 [Wl .new c d .new .new .new m ((Ue m.p).rc Col.bk)]),(3000,Yb w.2 U7 w.1)])
  (λt w=>w.1=(List.range t).flatMap (fun(i:Nat)=>m.p.beginL i)/\w.1.length<=4096) 0 ([],0) (Nat.zero_le _) ⟨rfl,zd⟩ (Weak.st (by rw[Zi];exact zp) (T9 (zi @Vm @Wd))) ?_
 rintro t ⟨l,g⟩ ht ⟨hl,L⟩ L1 hL1;simp only at hl L
 by_cases ht1:t<m.ways.l.length
 have A:decide ((t:Int)<(m.ways.l.length:Int))=true:=zT;refine Xm A ?_;refine Xm A ?_;refine Xm A ?_;refine CallA.inl [(1004,.dead),(1005,.dead),(1006,.dead),(1007,.dead),(1009,.dead)] zk ?_ ((Z1k G I .new c d .new .new .new m _ O (by rw[m.nw];exact hb.nw) wfd t zo (by rw[m.nw];omega)).mono ?_);intro p N;simp only[List.mem_cons,List.not_mem_nil,or_false]at N
 rcases N with rfl|rfl|rfl|rfl|rfl<;>rfl
 rintro w J ⟨fid,F,rfl,hen,hit⟩;refine Zu ?_;refine AW.block ?_;refine AW.weak (Weak.st (l:=[(1,.view .new (Zw c d m)),(2,.ptr 2102 y 0),(3,.ptr 2103 u 0),(4,.ptr 2104 a 0),(8,.ptr 2108 D 0),(34,.int .i64 m.ways.l.length),(35,.int .i64 t),(40,.func (.func fid) [] F)]) (m:=[(2102,.cells .new y 0 [grown 3000 g 6 l]),(2103,.cells .new u 0 [.int .i64 0]),(2104,.cells .new a 0 [.int .i64 0]),(2108,.cells .new D 0 [Wl .new c d .new .new .new m ((Ue m.p).rc Col.bk)]),(3000,Yb g U7 l),(1004,(J 1004).noMp),(1005,(J 1005).noMp),(1006,(J 1006).noMp),(1007,(J 1007).noMp),(1009,(J 1009).noMp)]) zp zp) ?_
 refine AW.range 50 2000 5000 2952 (fun(w:List StP×Bool) (H:Heap)=>w.1.length<=4096/\∃ g,if w.2=true then H=Z5 Zj [(2102,.cells .new y 0 [.nils]),(2103,.cells .new u 0 [.int .i64 0]),(2104,.cells .new a 0 [.int .i64 3])]else H=Z5 Zj [(2102,.cells .new y 0 [grown 3000 g 6 w.1]),(2103,.cells .new u 0 [.int .i64 0]),(2104,.cells .new a 0 [.int .i64 0]),(2108,.cells .new D 0 [Wl .new c d .new .new .new m ((Ue m.p).rc Col.bk)]),(3000,Yb g U7 w.1)]) Zcu allJ (λ_ _=>True) (l,false) rfl hen (by exact λ_ h=>nomatch h) (λp N=>?_) (λ_=>rfl) zd zd
  (λl' r=>hit _ (T9 @Zij) (T9 @Zij) (T9 @Zij) (T9 @Zij) (T9 @Zij)) (λ_ _ _=>trivial) rfl ⟨L,g,?_⟩ (Pb rfl λ_ _ _=>trivial) ?_ ?_
 simp only[List.mem_cons,List.not_mem_nil,or_false]at N;subst N;exact(by decide:41<64);rw[if_neg zS];refine Xr @G6 ?_;exact Yp _ _ _ rfl
 .rintro lp Y ⟨l2,b2⟩ k Hk _ hrd _ hjm ⟨C,g',z⟩
  cases b2;rotate_left;cases hjm;rw[if_neg zS]at z;simp only at C;generalize Ya (Z9 2000 Hk) 5000 .dead=B at *;subst z;refine Zs ?_;refine AW.region zk ?_;refine Xr Zik ?_;intro g10;refine Xr Zik ?_;intro Zx hXZ _;refine AW.weak (Weak.st (l:=[(1,.view .new (Zw c d m)),(2,.ptr 2102 y 0),(3,.ptr 2103 u 0),(4,.ptr 2104 a 0),(8,.ptr 2108 D 0),(10,.ptr 2962 g10 0)]) (m:=[(2962,.cells .new g10 0 (Ts .new (k,.nils)).cells),(2102,.cells .new y 0 [grown 3000 g' 6 l2]),(2103,.cells .new u 0 [.int .i64 0]),(2104,.cells .new a 0 [.int .i64 0]),(2108,.cells .new D 0 [Wl .new c d .new .new .new m ((Ue m.p).rc Col.bk)]),(3000,Yb g' U7 l2)]) zp (T9 @Rr)) ?_
  by_cases e4:l2.length=4096
  have e5:Zcu (l2,false) k=(l2,true):=if_pos e4
  have q5:((l2.length:Int)==4096)=true:=by rw[e4]<;>rfl
  refine Zf q5 ?_;refine AW.weak (Weak.st (l:=[]) (m:=[(2102,.cells .new y 0 [.nils]),(2103,.cells .new u 0 [.int .i64 0]),(2104,.cells .new a 0 [.int .i64 3])]) zp zp) ?_;refine AW.ret ?_;refine⟨by rw[e5]<;>rfl,?_⟩;rw[e5];refine⟨zo,0,?_⟩;rw[if_pos rfl];refine Zs ?_;exact Yp _ _ _ rfl;have e5:Zcu (l2,false) k=(l2++[k],false):=if_neg e4
  have q5:((l2.length:Int)==4096)=false:=by
   rw[beq_eq_false_iff_ne];omega
  refine AW.later ?_;refine Zf (zi q5 Rr) ?_;intro g47;refine Ys (f:=U7) (l:=l2) (l2:=[k]) (g:=g') (λ_=>rfl) rfl rfl rfl zp (Z4 zo zO) λT=>?_;refine Zs ?_;refine⟨_,Weak.st (l:=[]) (m:=[(2102,.cells .new y 0 [grown 3000 T 6 (l2++[k])]),(2103,.cells .new u 0 [.int .i64 0]),(2104,.cells .new a 0 [.int .i64 0]),(2108,.cells .new D 0 [Wl .new c d .new .new .new m ((Ue m.p).rc Col.bk)]),(3000,Yb T U7 (l2++[k]))]) zp zp,?_⟩;refine⟨by rw[e5]<;>rfl,?_⟩;rw[e5];refine⟨zO,T,?_⟩;rw[if_neg zS];refine Xr @G6 ?_;exact Yp _ _ _ rfl
 rintro H2 ⟨C,g',z⟩ hlow hol
 have W:(List.range (t+1)).flatMap (fun(i:Nat)=>m.p.beginL i)=l++m.p.beginL t:=by
  rw[List.range_succ,List.flatMap_append,<- hl,List.flatMap_cons,List.flatMap_nil,List.append_nil]
 rw[Z9k _ _ L]at C z⊢
 by_cases h3:l.length+(m.p.beginL t).length<=4096
 rw[if_pos h3]at C z⊢;rw[if_neg zS]at z;have w1:IntKind.i64.wrap ((t:Int)+1)=(t:Int)+1:=Wy zo (by have:=hb.nw;omega);refine Zs ?_;refine AW.weak (Weak.rng (l:=[(1,.view .new (Zw c d m)),(2,.ptr 2102 y 0),(3,.ptr 2103 u 0),(4,.ptr 2104 a 0),(8,.ptr 2108 D 0),(34,.int .i64 m.ways.l.length),(35,.int .i64 t)]) z zp) ?_;refine Zf w1 ?_;exact hL1 _ ⟨ht1,(l++m.p.beginL t,g'),⟨W.symm,C⟩,Weak.st zp zp⟩;rw[if_neg h3]at C z⊢;rw[if_pos rfl]at z
 have hlen:4096<m.p.allL.length:=by
  have e1:m.p.ways.length=(t+1)+(m.p.ways.length-(t+1)):=by rw[m.nw];omega
  rw[PM.allL,e1,List.range_add,List.flatMap_append,List.length_append,W,List.length_append];omega
 rw[if_pos hlen];refine Zs ?_;refine AW.weak (Weak.rng (l:=[(2,.ptr 2102 y 0),(3,.ptr 2103 u 0),(4,.ptr 2104 a 0)]) z zp) ?_;exact Zr
 .have hte:t=m.ways.l.length:=zo
  have A:decide ((m.ways.l.length:Int)<(m.ways.l.length:Int))=false:=zF
  have hL:l=m.p.allL:=by rw[hl,hte,PM.allL,m.nw]
  try clear hl
  subst hL;rw[hte,if_neg (Nat.not_lt.2 L)];refine Xm A ?_;refine Xm A ?_
  have S:∀ {H:Heap} {K:V->Heap->Prop},H 3000=Yb g U7 m.p.allL->(∀ v J,J=Ya H 3000 (if m.p.allL=[]then .dead else .cells .new g 0 (O9 m.p.allL (Nk m.p m.p.allL m.p.allL.length)))->K v J)->CallA Tryz.prog G 59 [Wl .new c d .new .new .new m ((Ue m.p).rc Col.bk),grown 3000 g 6 m.p.allL] H K:=by
   intro H K z hK
   by_cases E:m.p.allL=[]
   rw[if_pos E]at hK;rw[E]at z⊢;refine CallA.pure I zk ?_;refine(show Spec Tryz.prog G 59 [_,.nils] Zj _ from ?_);exact(Zlr G _).mono λv _ _=>hK _ _ (Yp _ _ _ z).symm;rw[if_neg E]at hK;rw[X8 _ _ _ E];rw[Zf1 m.p g E]at z;have U:=λs P=>m.p.allL_ok wfd s P
   refine CallA.inl [(3000,.cells .new g 0 (O9 m.p.allL (Nk m.p m.p.allL 0)))] zk ?_ ((Zmr G I .new c d .new .new .new m _ O m.p.allL E zo (by have:=wfd.lx;omega) (λs P=>by have:=(U s P).el;have:=wfd.lw;omega) (λs P=>by
    have:=wfd.lw
    rcases(U s P).sn with h|h<;>omega) (λs P=>PM.Wfd.atok wfd s P) g).mono ?_)
   intro p N;simp only[List.mem_cons,List.not_mem_nil,or_false]at N;subst N;exact z;intro w J e;refine hK _ _ ?_;simp -implicitDefEqProofs only[go_sem,seval,Z5,e]
  refine S zp λv J z=>?_;subst z;refine Zs ?_;refine AW.weak (Zl (λo=>o==3000) (l:=[(1,.view .new (Zw c d m)),(2,.ptr 2102 y 0),(3,.ptr 2103 u 0),(4,.ptr 2104 a 0),(8,.ptr 2108 D 0)]) (m:=[(2102,.cells .new y 0 [Za .new 6 (Yo .new) (Zd m.p.withR)]),(2103,.cells .new u 0 [.int .i64 0]),(2104,.cells .new a 0 [.int .i64 0]),(2108,.cells .new D 0 [Wl .new c d .new .new .new m ((Ue m.p).rc Col.bk)])]) ?_ ?_) ?_;refine Zs ?_;exact⟨Zb,Zb,Zb,Zb,Zb⟩;simp only[Zt,Zv,and_true];refine⟨FzO.of (c:=.new) (fz:=0) (cs:=[grown 3000 g 6 m.p.allL]) rfl zp ⟨?_,trivial⟩,FzO.keep rfl zp,FzO.keep rfl zp,FzO.keep rfl zp⟩
  by_cases E:m.p.allL=[]
  have:m.p.withR=[]:=by rw[PM.withR,E]<;>rfl
  rw[this,E];exact Zb;have hn2:m.p.withR≠[]:=λh=>E (by have:=Qr m.p;rw[h]at this;exact List.length_eq_zero_iff.1 this.symm)
  have e9:Za .new 6 (Yo .new) (Zd m.p.withR)=.slice .new false 6 (m.p.withR.map (Yo .new)):=by
   cases h:m.p.withR with
   |nil=>exact absurd h hn2
   |cons=>rfl
  rw[X8 _ _ _ E,e9,<- Qr];refine Xa (f:=Yo .new) (l:=m.p.withR) (c:=.new) (fz:=0) rfl ?_ λ_=>rfl
  rw[Ym,if_neg E,Qr,Z3aa]<;>rfl
  refine Z1 ?_;have hq:=qok m wfd
  have hnw:m.p.ways.length<=600:=by rw[m.nw];exact hb.nw
  have hwl:m.p.withR.length<1000000:=by rw[Qr];omega
  refine Wg 2108 [Za .new 6 (Yo .new) (Zd m.p.withR),.func (.func 61) [] [.view .new (Wl .new c d .new .new .new m ((Ue m.p).rc Col.bk))]] ⟨Zb,Fz.func ⟨Fz.ptr (v:=Wl .new c d .new .new .new m ((Ue m.p).rc Col.bk)) (c:=.new) (fz:=0) zp zp,trivial⟩,trivial⟩ ?_
  refine Zc I ?_ (ha:=by simp only[List.map_cons,List.map_nil,Y8 Col.ent Col.new 6 (Tw Col.ent Col.new),V.recol,Yv,Tv]) (s:=Z9s G I Col.new.ent Col.new.ent 61 (λF=>∃ b1 b c d e f g x,IxP m.p x/\F=[.view b1 (Wl b c d e f g m x)]) (by
   rintro _ ⟨b1,b,c,d,e,f,g,x,O,rfl⟩
   exact⟨_,_,_,_,_,_,_,_,O.rc _,by simp only[List.map_cons,List.map_nil,V.recol,Tv];rfl⟩) [.view Col.new.ent (Wl Col.new.ent c.ent d.ent Col.new.ent Col.new.ent Col.new.ent m (((Ue m.p).rc Col.bk).rc Col.ent))] ⟨_,_,_,_,_,_,_,_,O.rc _,rfl⟩ zk (λq => !(m.p.rightS q.1 q.2)) (Zd m.p.withR) (by rw[Zm];exact hwl) (by
   rintro q hq2 cr _ ⟨b1,b,c,d,e,f,g,x,O,rfl⟩;rw[Zm]at hq2
   exact Zm2 G I cr b1 b c d e f g m x O hnw wfd q (hq q hq2)))
  unfold Rz
  cases Q:m.p.withR.findIdx? (λq => !(m.p.rightS q.1 q.2))with
  |none=>
   have R:m.p.withR.find? (λq => !(m.p.rightS q.1 q.2))=none:=by
    rw[List.findIdx?_eq_none_iff]at Q
    exact List.find?_eq_none.2 λq hq=>by simpa using Q q hq
   rw[R];have q8:decide ((-1:Int)>=0)=false:=rfl;refine Zg q8 ?_;rfl
  |some n=>
   obtain⟨q,hgq,R⟩:=Zbk Q;rw[R];have q8:decide ((n:Int)>=0)=true:=zT;have hnl:=(List.getElem?_eq_some_iff.1 hgq).1;refine Zg q8 ?_;refine Zy ⟨λ_=>.int .i64 q.1.first,λj=>if j=4 then .lend else .pure⟩ zk I zk zk ?_;refine Xr (zi hgq (zi hnl (zi Xc Yh))) ?_;exact Zr
@[go_sem] theorem recol_RSs(g:Col->Col)(c c1:Col)(s:Sl (StP×List Int)):(Za c 6 (Yo c1) s).recol g=Za (g c) 6 (Yo (g c1)) s:=Y8 g c 6 (Tw g c1) s
def Ziz(s:List UInt8):Sl (List UInt8):=.mk false [s]
def doorM:MdM:=⟨[68,111,111,114],.mk false [([110],0),([109,111,115,116],3)],.mk false [[111,112,101,110],[99,108,111,115,101],[108,111,99,107]],
 .mk false [([116,111,112],-1),([108,101,97,102],1),([98,111,108,116],1)],
 .mk false [⟨[],3,0,-1,[],[],.nil,[]⟩,⟨[68,111,111,114],1,0,-1,[110,32,58,61,32,48,59],[],Ziz [108,111,99,107],[]⟩,⟨[],3,1,-1,[],[],.nil,[]⟩,
  ⟨[83,104,117,116],1,1,-1,[],[110,32,58,61,32,110,32,43,32,49,59],.nil,[]⟩,⟨[87,105,100,101],1,1,-1,[],[],.nil,[]⟩,⟨[],3,2,-1,[],[],.nil,[]⟩,⟨[70,114,101,101],1,2,-1,[],[],.nil,[]⟩,
  ⟨[103,111,110,101],2,2,-1,[],[],.nil,[]⟩,⟨[],8,1,-1,[],[],.nil,[]⟩,⟨[105,110],10,-1,1,[],[],.nil,[]⟩,⟨[69,110,100],2,0,-1,[],[],.nil,[]⟩],
 .mk false [⟨[],0,1,.nil,0,[],[],1⟩,⟨[],2,3,.nil,0,[],[],1⟩,⟨[],3,4,Ziz [111,112,101,110],0,[110,32,60,32,109,111,115,116],[],1⟩,⟨[],4,3,Ziz [99,108,111,115,101],0,[],[101,109,105,116,32,108,111,99,107,40,110,41,59],1⟩,
  ⟨[],5,6,.nil,0,[],[],1⟩,⟨[],6,7,Ziz [108,111,99,107],0,[],[],1⟩,⟨[108,97,116,101],4,10,.nil,5,[],[],1⟩,⟨[],1,1,Ziz [111,112,101,110],0,[102,97,108,115,101],[],3⟩]⟩
theorem Fz.one{F:Nat->Bool}{H:Heap}{o g fz:Nat}{c:Col}{s:List UInt8}(b:F o=true)(a:H o=.cells c g fz [.str s]):Fz F H (.msl o g 0 1 1) (Za c 1 V.str (Ziz s)):=Xa (f:=V.str) (l:=[s]) b a λ_=>rfl
theorem Z7r(G:Nat->V):InSp Tryz.prog G 53 [] (Z5 Zj [(7103,.dead),(7104,.dead),(7108,.dead),(7121,.dead),(7134,.dead)])
  (λv H'=>∃ g1 g2 g3 g4 g5,v=.agg [.str doorM.name,.msl 7103 g1 0 2 2,.msl 7104 g2 0 3 1,.msl 7108 g3 0 3 2,.msl 7121 g4 0 11 8,.msl 7134 g5 0 8 8]/\H' 7103=.cells .new g1 0 (flat (doorM.vars.l.map Z3))/\H' 7104=.cells .new g2 0 (flat (doorM.events.l.map V.str)) /\
   H' 7108=.cells .new g3 0 (flat (doorM.regions.l.map Z3))/\H' 7121=.cells .new g4 0 (flat (doorM.verts.l.map (Yf .new)))/\H' 7134=.cells .new g5 0 (flat (doorM.ways.l.map (Yn .new)))):=by
 refine Yr 7100 36 [.cell 0 28] Tryz.func53 rfl rfl rfl rfl λX=>?_;simp only[Z5];refine Z1 ?_;intro d;refine Z1 ?_;intro g3 g4 c i b h g f e a
 refine AW.weak (Zl (λo=>o==7110||o==7124||o==7126||o==7129||o==7132) (l:=[(0,.ptr 7100 d 0)])
  (m:=[(7100,.cells .new d 0 [.str doorM.name,.msl 7103 g3 0 2 2,.msl 7104 g4 0 3 1,.msl 7108 c 0 3 2,.msl 7121 b 0 11 8,.msl 7134 a 0 8 8]),(7103,.cells .new g3 0 (flat (doorM.vars.l.map Z3))),(7104,.cells .new g4 0 (flat (doorM.events.l.map V.str))),
   (7108,.cells .new c 0 (flat (doorM.regions.l.map Z3))),(7121,.cells .new b 0 (flat (doorM.verts.l.map (Yf .new)))),(7134,.cells .new a 0 (flat (doorM.ways.l.map (Yn .new))))]) ?_ ?_) ?_
 refine Zs ?_;exact Zb
 .simp only[Zt,Zv,and_true]
  refine⟨FzO.keep rfl rfl,FzO.keep rfl rfl,FzO.keep rfl rfl,FzO.keep rfl rfl,FzO.of rfl rfl ?_,FzO.of rfl rfl ?_⟩<;>repeat first|exact trivial|refine⟨Zb,?_⟩|refine⟨Fz.one rfl rfl,?_⟩
 refine Z ?_;exact⟨g3,g4,c,b,a,rfl,rfl,rfl,rfl,rfl,rfl⟩
theorem Rd.row{α : Type}{H:Heap}{o g fz m:Nat}{c:Col}{f f' : α -> V}{l:List α}(e:H o=.cells c g fz (flat (l.map f)))(d:∀ x,(f x).cells.length=m)
  (b:∀ x,∀ y∈(f x).cells,y.Im) (a:∀ x,(f x).recol Col.ent=f' x):Rd H (.msl o g 0 l.length m) (Za .old m f' (.mk false l)):=by
 have:=Rd.msl (l:=l) (off:=0) (n:=l.length) (o:=o) (g:=g) e d b a zo;rw[List.drop_zero,List.take_length,Nat.zero_mul]at this;exact this
theorem FewM.b{m:MdM}(f:FewM m)(r:MdR m):MdB m:=by
 have l:=f.nv;have k:=f.ne;have j:=f.nr;have i:=f.nx;have h:=f.nw;refine⟨?_,?_,?_,?_,?_,?_,l,k,j,i,h⟩;have:=r.nm;unfold Ag at this;omega;intro p c;have:=r.var.2 p c;unfold Ag at this;omega;intro p c;have:=r.ev.2 p c;unfold Ag at this;omega;intro p c;have:=r.rg.2 p c;unfold Ag at this;omega;intro x a;obtain⟨d,_,_,g,_⟩:=r.vt.2 x a;have e:=(f.vt x a).2.2;unfold Ag at d g;exact⟨zo,zo,zo⟩;intro x a;obtain⟨d,_⟩:=r.wy.2 x a;have e:=(f.wy x a).2.2;unfold Ag at d;exact⟨zo,zo⟩
theorem Jn{s:List UInt8}(h:Wr s=true)(a:s.length<=4096):s.length<=900:=by
 simp only[Wr,Bool.or_eq_true,decide_eq_true_eq]at h;omega
theorem FewM.t{m:MdM}(f:FewM m)(r:m.p.Rt):MdT m:=by
 have wy:∀ t∈m.ways.l,t.guard.length<=4096/\t.effect.length<=4096:=λt a=>by
  obtain⟨i,b,rfl⟩:=List.getElem_of_mem a;have:=r.way i (by rw[m.nw];exact b);rw[O8 (List.getElem?_eq_getElem b)]at this;simp only[PM.wayB,Bool.and_eq_true,decide_eq_true_eq]at this;exact⟨this.1.2,this.2⟩
 have d:∀ x∈m.verts.l,x.entry.length<=4096/\x.exit.length<=4096:=λt a=>by
  obtain⟨i,b,rfl⟩:=List.getElem_of_mem a;have:=r.vtx i (by rw[m.nv];exact b);rw[Qx (List.getElem?_eq_getElem b)]at this;simp only[PM.vertexB,Bool.and_eq_true,decide_eq_true_eq]at this;exact⟨this.1.1.2,this.1.2⟩
 exact⟨λt a=>Jn (f.wy t a).2.1 (wy t a).2,λt a=>Jn (f.wy t a).1 (wy t a).1,λx c=>⟨Jn (f.vt x c).1 (d x c).1,Jn (f.vt x c).2.1 (d x c).2⟩⟩
theorem nwI(s:Sl Int):V.Nw (Za .new 1 (V.int .i64) s):=Zh9 (λx y a=>by simp[V.cells]at a;subst a;exact .int _ _) s
theorem BorC.inl{P:Program}{G:Nat->V}{f:FuncId}{args:List V}{H:Heap}{v:V}{c:Col}{g fz:Nat}{cs:List V}(o:Nat)(a:Z7 P f=true)(b:H o=.cells c g fz cs)(h:InSp P G f args (Z5 Zj [(o,.cells c g fz cs)]) (λv' H'=>v'=v/\H' o=.cells c g fz cs)):BorC P G f args H v:=λ_ K i=>
 CallA.inl [(o,.cells c g fz cs)] a (λp d=>by rw[List.mem_singleton.1 d];exact b) (h.mono λv' H' ⟨e,j⟩=>by
  subst e
  show K v' (Ya H o ((H' o).noMp))
  rw[j,Yp H o (AObj.cells c g fz cs).noMp b]
  exact i)
theorem Zwr(G:Nat->V)(g:Nat)(o n m l k j i h f e d b a xs:V)(c:Col)(q:StP×List Int):InSp Tryz.prog G 34 [.ptr 37 g 0,Yo c q] (Z5 Zj [(37,.cells .any g 0 [o,n,m,l,k,j,i,h,f,e,d,b,a,xs])]) (λw H'=>w=Za .new 1 (V.int .i64) .nil/\H' 37=((37,.cells .any g 0 [o,n,m,l,k,j,i,h,f,e,d,b,a,xs])).2):=by
 refine Yr 100 5 [.tmp 4] Tryz.func34 rfl rfl rfl rfl λX=>?_;refine Zf Xc ?_;intro p;refine Z ?_;exact⟨rfl,rfl⟩
theorem Zcj(G:Nat->V)(A:Y6 G)(g:Nat)(b c d e c1:Col)(z y u t s p o n l k j f a xs:V)(x:IxM)(m:PM)(B:IxO m e x)(D:m.regions.length<1000000)(q:StP×List Int)(v:Int)(r:List Int)(C:q.1.sources=v::r)
  (hi:a=Uj b c d x):InSp Tryz.prog G 33 [.ptr 37 g 0,Yo c1 q] (Z5 Zj [(37,.cells .any g 0 [z,y,u,t,s,p,o,n,l,k,j,f,a,xs])]) (λw H'=>w=Za .new 1 (V.int .i64) (Zd (m.regsL v))/\H' 37=((37,.cells .any g 0 [z,y,u,t,s,p,o,n,l,k,j,f,a,xs])).2):=by
 subst hi;refine Yr 100 15 [.tmp 4] Tryz.func33 rfl rfl rfl rfl λX=>?_
 have es:Za c1 1 (V.int .i64) (Zd q.1.sources)=.slice c1 false 1 (.int .i64 v::r.map (V.int .i64)):=by rw[C];rfl
 refine Zf (zi Xc es) ?_;intro E;refine Zs ?_
 repeat refine Z6 ?_
 refine Zy ⟨λ_=>Za .new 1 (V.int .i64) (Zd (m.regsL v)),λi=>.pure⟩ zk A zk zk ?_;refine Zs ?_;refine⟨⟨zk,?_⟩,?_⟩;simp -implicitDefEqProofs only[go_sem,seval];have h:=Kk G A b.ent c.ent d.ent (Col.ent e) (x.rc Col.ent) m (B.rc _) D v;rw[Z0a]at h
 exact h.mono λw _ e=>by rw[e];exact Y1 ..
 refine Z ?_;exact⟨rfl,rfl⟩
theorem Zbj(G:Nat->V)(L:Y6 G)(g:Nat)(c1 b c d e f:Col)(J I H F E D C B A z s p k xs:V)(x:IxM)(ks:Sl Int)(n:Int)(m:PM)(a:m.Acy)(T:IxP m x)(K:∀ u:Int,0<=u->u<m.vertices.length->0<=m.rgO u)(q:StP×List Int)(v:Int)(r:List Int)(U:q.1.sources=v::r)
  (Q:∀ u∈q.1.sources++q.2,0<=u/\u<m.vertices.length) (Y:q.1.sources.length<40000) (W:q.2.length<40000)
  (hi:xs=Rb b c d e f x ks n):InSp Tryz.prog G 32 [.ptr 37 g 0,Yo c1 q] (Z5 Zj [(37,.cells .any g 0 [J,I,H,F,E,D,C,B,A,z,s,p,k,xs])]) (λw H'=>w=Za .new 1 (V.int .i64) (Zd [m.homeL v (q.1.sources++q.2)])/\H' 37=((37,.cells .any g 0 [J,I,H,F,E,D,C,B,A,z,s,p,k,xs])).2):=by
 subst hi;refine Yr 100 18 [.tmp 4] Tryz.func32 rfl rfl rfl rfl λX=>?_;refine Zf Xc ?_;intro g3;refine Zs ?_
 repeat refine Z6 ?_
 refine Zy ⟨λi=>if i=10 then Za .new 1 (V.int .i64) (.mk false (q.1.sources++q.2))else .int .i64 (m.homeL v (q.1.sources++q.2)),λi=>if i=10 then .lend else .pure⟩ zk L zk zk ?_;refine Zs ?_;intro N
 have O:Sf (Sl.mk false [(c1.ent,Zd q.1.sources),(c1.ent,Zd q.2)]).l=q.1.sources++q.2:=by show(Zd q.1.sources).l++((Zd q.2).l++[])=_;rw[Zm,Zm,List.append_nil]
 have R:(q.1.sources++q.2).length<100000:=by rw[List.length_append];omega
 have S:q.1.sources++q.2=v::(r++q.2):=by rw[U];rfl
 have j:=If G L .old (.mk false [(c1.ent,Zd q.1.sources),(c1.ent,Zd q.2)]) (show(2:Nat)<1000000 by decide) (by rw[O];omega) (by rw[O,S];exact Nat.succ_ne_zero _);rw[O]at j;refine⟨BorC.nw [Zkk .old (.mk false [(c1.ent,Zd q.1.sources),(c1.ent,Zd q.2)])] zk ⟨?_,trivial⟩ (j.mono λw _ h=>⟨by rw[h];exact nwI _,h⟩),⟨zk,?_⟩,?_⟩
 exact Rd.row (f:=λt:Col×Sl Int=>Za t.1 1 (V.int .i64) t.2) (f':=λt=>Za t.1.ent 1 (V.int .i64) t.2) (l:=[(c1,Zd q.1.sources),(c1,Zd q.2)]) (g:=N) (fz:=0) (c:=.new) (by refine Zs ?_;cases q.1.sources<;>cases q.2<;>rfl) Ff (λt y P=>by
  rw[show(Za t.1 1 (V.int .i64) t.2).cells=[Za t.1 1 (V.int .i64) t.2] by obtain⟨_,t⟩:=t;cases t<;>rfl]at P;rw[List.mem_singleton.1 P];exact Ra _) (λt=>Y1 ..)
 simp -implicitDefEqProofs only[go_sem,seval];rw[S]at Q R⊢
 exact(Zc1 G L b.ent c.ent d.ent e.ent f.ent _ (x.rc Col.ent) ks n m a (T.rc _) false v (r++q.2) Q (by rw[List.length_cons]at R;omega) K).mono λw _ e=>by rw[e];rfl
 intro M;refine AW.weak (Zl (λo=>o==117) (l:=[(4,Za .new 1 (V.int .i64) (Zd [m.homeL v (q.1.sources++q.2)]))]) (m:=[(37,.cells .any g 0 [J,I,H,F,E,D,C,B,A,z,s,p,k,Rb b c d e f x ks n])]) ?_ ?_) ?_;simp -implicitDefEqProofs only[go_sem,seval];exact Xa (f:=V.int .i64) (l:=[_]) (g:=M) (fz:=0) (c:=.new) rfl zp λ_=>rfl;simp only[Zt,Zv,and_true];exact FzO.keep rfl zp;refine Z ?_;exact⟨rfl,rfl⟩
def Um(c:Col)(p:Bool×List XN):V:=.agg [.bool p.1,encXs c p.2]
theorem Ew(c:Col)(p:Bool×List XN):Um c p=.agg [.bool p.1,encXs c p.2]:=rfl
theorem Zui(g:Col->Col)(c:Col)(p:Bool×List XN):(Um c p).recol g=Um (g c) p:=by
 simp only[Ew,Xl,List.map_cons,List.map_nil,encXs,Xk];rfl
def gdP(s:List UInt8)(names:List (List UInt8)):Bool×List XN:=if R4 s=true then(true,[])else(false,(Qg s names).1)
theorem Zkd(G:Nat->V)(h:GExp G)(c:Col)(s:List UInt8)(names:Sl (List UInt8))(j:s.length<100000)(n:names.l.length<1000000):
  Spec Tryz.prog G 30 [.str s,Za c 1 V.str names] Zj (λv _=>v=Um .new (gdP s names.l)):=by
 have k:=h.ok;refine Zo 0 41 [.cell 4 96] Tryz.func30 λX=>?_;refine Z ?_;intro f;refine Z ?_;refine Zn k ?_ (s:=Th G h s j)
 have b:gdP s names.l=if R4 s=true then(true,[])else(false,(Qg s names.l).1):=rfl
 rw[R4]at b;generalize Y4 s=p at b⊢;obtain⟨l,a,q⟩:=p;simp only[encTok,encTks];simp only at b;refine Zs ?_;cases e:(q==0);rw[e]at b;refine Zf e ?_;refine Z ?_;refine Zn k ?_ (s:=Pm G h c.ent s names j n);simp only[encFr];generalize Qg s names.l=u at b;obtain⟨x,w,r⟩:=u;refine Zs ?_;intro d;refine AW.weak (Weak.st (l:=[(4,.ptr 4 f 0),(8,.ptr 8 d 0)]) (m:=[(4,.cells .new f 0 [.bool false,.nils]),(8,.cells .new d 0 [encXs .new x])]) zp (by simp -implicitDefEqProofs only[go_sem,seval,encXs,Xk];try rfl)) ?_;refine Z ?_;rw[b];rfl
 have o:(((l.length:Nat):Int)==1)=(l.length==1):=by
  rw[Bool.eq_iff_iff,beq_iff_eq,beq_iff_eq];omega
 cases g:(l.length==1);rw[e,g]at b;rw[g]at o;refine Zf (zi e (zi o (@Zm Tk l))) ?_;refine Z ?_;refine Zn k ?_ (s:=Pm G h c.ent s names j n);simp only[encFr];generalize Qg s names.l=u at b;obtain⟨x,w,r⟩:=u;refine Zs ?_;intro d;refine AW.weak (Weak.st (l:=[(4,.ptr 4 f 0),(8,.ptr 8 d 0)]) (m:=[(4,.cells .new f 0 [.bool false,.nils]),(8,.cells .new d 0 [encXs .new x])]) zp (by simp -implicitDefEqProofs only[go_sem,seval,encXs,Xk];try rfl)) ?_;refine Z ?_;rw[b];rfl;rw[g]at o;have y:l.length=1:=zu g;obtain⟨t,rfl⟩:∃ t,l=[t]:=List.length_eq_one_iff.1 y;have z:Wi [t] 0=t.text:=rfl;rw[e,g,z,elsW]at b;cases i:(t.text==[101,108,115,101]);rw[i]at b;refine Zf (zi e (zi i Vr)) ?_;refine Z ?_;refine Zn k ?_ (s:=Pm G h c.ent s names j n);simp only[encFr];generalize Qg s names.l=u at b;obtain⟨x,w,r⟩:=u;refine Zs ?_;intro d;refine AW.weak (Weak.st (l:=[(4,.ptr 4 f 0),(8,.ptr 8 d 0)]) (m:=[(4,.cells .new f 0 [.bool false,.nils]),(8,.cells .new d 0 [encXs .new x])]) zp (by simp -implicitDefEqProofs only[go_sem,seval,encXs,Xk];try rfl)) ?_;refine Z ?_;rw[b];rfl;rw[i]at b;refine Zf (zi e (zi i Vr)) ?_;rw[b];rfl
theorem Zvi(F:Col->Col)(c:Col)(s:ASt):(R3 c s).recol F=R3 (F c) s:=by simp only[Nx,Xl,List.map_cons,List.map_nil,Yj,Vf,Xk]
def Xd(c:Col)(l:List ASt):V:=.agg [Gi c l]
theorem Nv(c:Col)(l:List ASt):Xd c l=.agg [Gi c l]:=rfl
theorem Og(g:Col->Col)(c:Col)(l:List ASt):(Xd c l).recol g=Xd (g c) l:=by
 simp only[Nv,Xl,List.map_cons,List.map_nil,Gi];rw[Y8 g c 3 (Zvi g c)]
theorem Lf(G:Nat->V)(a:GExp G)(s:List UInt8)(b:s.length<100000):
  Spec Tryz.prog G 31 [.str s] Zj (λv _=>v=Xd .new (Tu s).1):=by
 have c:=a.ok;refine Zo 0 13 [.cell 2 100] Tryz.func31 λX=>?_;refine Z ?_;intro e;refine Z ?_;refine Zn c ?_ (s:=Fo G a s b);simp only[Ze8];refine Zs ?_;intro d;refine Z ?_;rw[Gi,Y8 Col.bk .new 3 (Zvi Col.bk .new)];rfl
theorem Zwt(G:Nat->V)(c:Col)(x:VtM):Spec Tryz.prog G 26 [Yf c x] Zj (λv _=>v=.bool (x.sub != [])):=by
 refine Zo 0 6 [.tmp 2] Tryz.func26 λX=>?_;refine Zf Zz ?_;intro a;exact Zr
theorem Z8s(G:Nat->V)(t:Y6 G)(c d:Col)(a:FuncId)(m:Z7 Tryz.prog a=true)(p:VtM->Bool)(s:Sl VtM)(u:s.l.length<1000000)(j:∀ v∈s.l,∀ c',Spec Tryz.prog G a [Yf c' v] Zj (λw _=>w=.bool (p v))):
  Spec Tryz.prog G 25 [Za c 8 (Yf d) s,.func (.func a) [] []] Zj (λv _=>v=.int .i64 (Rz p s.l)):=by
 have j:=λv h=>j v h d.ent;refine Zo 0 19 [.tmp 4] Tryz.func25 λX=>?_;refine Z ?_
 refine Yc s.l.length (λk (_:Unit)=>st [(0,Za c 8 (Yf d) s),(1,.func (.func a) [] []),(7,.int .i64 s.l.length),(8,.int .i64 k)] []) (λk _=>∀ y∈s.l.take k,p y=false) 0 () (Nat.zero_le _) zS
  (Weak.st zp zp) ?_
 intro k _ z g A n
 by_cases b:k<s.l.length
 .have e:decide ((k:Int)<(s.l.length:Int))=true:=zT
  have f:=List.getElem?_eq_getElem b;have o:=j s.l[k] (List.getElem_mem b);generalize s.l[k]=x at f o;refine Zf (zi e (zi f (zi b (zi Zz Yh)))) ?_;refine CallA.pure t m ?_;refine(show Spec Tryz.prog G a (([Yf d x]:List V).map (V.recol Col.ent)) Zj _ from ?_);rw[show([Yf d x]:List V).map (V.recol Col.ent)=[Yf d.ent x]from by simp only[List.map_cons,List.map_nil,Jv]];refine o.mono λv _ h=>?_;rw[h]
  cases q:p x with
  |true=>
   refine Z ?_;rw[V2 (p:=p) f g q]
  |false=>
   have r:IntKind.i64.wrap ((k:Int)+1)=(k:Int)+1:=Wy zo zo;refine Zg r ?_;exact n _ ⟨b,(),take_all f g q,Weak.st zp zp⟩
 have i:k=s.l.length:=zo;have e:decide ((k:Int)<(s.l.length:Int))=false:=zF;rw[i,List.take_length]at g;refine Zf e ?_;rw[V3 (p:=p) g]
def MdM.kinds(m:MdM):List Int:=m.verts.l.map VtM.kind
theorem Zn7(m:MdM):SsP m.p (Zd m.kinds) where
 len:=by rw[Zm,MdM.kinds,List.length_map,m.nv]
 at_:=λi a=>by
  rw[m.nv]at a;rw[Zm,MdM.kinds,List.getElem?_map,List.getElem?_eq_getElem a,PM.kd,Qx (List.getElem?_eq_getElem a)];rfl
theorem Zjz(G:Nat->V)(A:GExp G)(c d:Col)(m:MdM)(y:MdB m)(a:m.p.Acy)(C:m.p.rightP.2.2=0):
  Spec Tryz.prog G 29 [Zw c d m] Zj (λw _=>w=.tuple [Rb .new .new .new .new .new ((Ue m.p).rc Col.bk) (Zd m.kinds) m.p.regions.length,.int .i64 0]):=by
 have z:=A.ok;refine Zo 0 43 [.tmp 2,.tmp 3] Tryz.func29 λX=>?_;refine Zf Zi ?_;intro J;refine AW.weak (Zl (λo=>o==1) (l:=[(1,.view .new (Zw c d m))]) (m:=[]) ?_ trivial) ?_;simp -implicitDefEqProofs only[go_sem,seval];exact Fz.ptr (v:=Zw c d m) (c:=.new) (fz:=0) zp (by rw[Zi];exact zp);refine Zf Zi ?_;refine Zc z ?_ (s:=Cl G A c.ent d.ent m y a C);refine Zf Zi ?_;intro j;have D:=y.nx;refine Zf Zi ?_
 refine Yc m.verts.l.length (λi (g:Nat)=>st [(1,.view .new (Zw c d m)),(6,.ptr 22 j 0),(24,Za c 8 (Yf d) m.verts),(25,.int .i64 m.verts.l.length),(26,.int .i64 i)] [(22,.cells .new j 0 [Uj .new .new .new ((Ue m.p).rc Col.bk),grown 38 g 1 (m.kinds.take i),.int .i64 m.p.regions.length]),(38,Yb g (V.int .u8) (m.kinds.take i))])
  (λ_ _=>True) 0 0 (Nat.zero_le _) trivial (Weak.st (zq @Zi) (by simp -implicitDefEqProofs only[go_sem,seval,Wd,Vm,show m.p.regions.length=m.regions.l.length from rfl];try rfl)) ?_
 intro i g H _ K h
 have n:m.kinds.length=m.verts.l.length:=by rw[MdM.kinds,List.length_map]
 by_cases e:i<m.verts.l.length
 have b:decide ((i:Int)<(m.verts.l.length:Int))=true:=zT;have u:=List.getElem?_eq_getElem e
 have t:m.kinds.take (i+1)=m.kinds.take i++[(m.verts.l[i]).kind]:=by rw[List.take_succ_eq_append_getElem zo];simp[MdM.kinds]
 have k:(m.kinds.take i).length=i:=by rw[List.length_take];omega
 generalize m.verts.l[i]=x at u t;rw[t]at h;generalize m.kinds.take i=r at k h;have B:IntKind.i64.wrap ((i:Int)+1)=(i:Int)+1:=Wy zo zo;refine Xm b ?_;refine Xm (zi b (zi u (zi e (zi Zz Yh)))) ?_;intro I;refine I7 Zz z ?_;intro E;refine Ys (f:=V.int .u8) (l:=r) (l2:=[x.kind]) (g:=g) (λ_=>rfl) rfl rfl rfl zp (Z4 zo zO) λF=>?_;refine Zs ?_;refine Zf B ?_;exact h _ ⟨e,F,trivial,Weak.st (zq @Zi) zp⟩;have q:i=m.verts.l.length:=zo;subst q;rw[<- n,List.take_length];have b:decide ((m.kinds.length:Int)<(m.kinds.length:Int))=false:=zF;refine AW.weak (Zl (λo=>o==38) (l:=[(6,.ptr 22 j 0),(25,.int .i64 m.kinds.length),(26,.int .i64 m.kinds.length)]) (m:=[(22,.cells .new j 0 [Uj .new .new .new ((Ue m.p).rc Col.bk),Za .new 1 (V.int .u8) (Zd m.kinds),.int .i64 m.p.regions.length])]) ?_ ?_) ?_;simp -implicitDefEqProofs only[go_sem,seval];exact⟨Zb,Zb⟩;simp only[Zt,Zv,and_true];exact FzO.of (cs:=[Uj .new .new .new ((Ue m.p).rc Col.bk),grown 38 g 1 m.kinds,.int .i64 m.p.regions.length]) rfl zp ⟨Zb,Y5 rfl zp (λ_=>rfl),Zb,trivial⟩;refine AW.weak (Zl (λo=>o==22) (l:=[(6,Rb .new .new .new .new .new ((Ue m.p).rc Col.bk) (Zd m.kinds) m.p.regions.length),(25,.int .i64 m.kinds.length),(26,.int .i64 m.kinds.length)]) (m:=[]) ?_ trivial) ?_;simp -implicitDefEqProofs only[go_sem,seval];exact⟨Fz.ptr (v:=.agg [Uj .new .new .new ((Ue m.p).rc Col.bk),Za .new 1 (V.int .u8) (Zd m.kinds),.int .i64 m.p.regions.length]) (c:=.new) (fz:=0) rfl zp,Zb⟩
 exact Zq b
def VtM.gr(x:VtM):VtM:=⟨x.name,x.kind,x.region,x.of,x.entry,x.exit,Zd x.defers.l,x.sub⟩
def TrM.gr(x:TrM):TrM:=⟨x.name,x.source,x.target,Zd x.triggers.l,x.after,x.guard,x.effect,x.kind⟩
def MdM.gr(m:MdM):MdM:=⟨m.name,Zd m.vars.l,Zd m.events.l,Zd m.regions.l,Zd (m.verts.l.map VtM.gr),Zd (m.ways.l.map TrM.gr)⟩
theorem MdM.gr_p(m:MdM):m.gr.p=m.p:=by
 simp only[MdM.p,MdM.gr,Zm,List.map_map]
 congr 1
 refine List.map_congr_left λx _=>?_;simp only[Function.comp,VtM.p,VtM.gr,Zm];refine List.map_congr_left λx _=>?_;simp only[Function.comp,TrM.p,TrM.gr,Zm]
theorem H6(G:Nat->V)(E:Y6 G)(c d:Col)(m:MdM)(z:MdB m):
  Spec Tryz.prog G 9 [Zw c d m] Zj (λv _=>v=Zw .new .new m.gr):=by
 refine Zo 0 150 [.cell 2 44] Tryz.func9 λX=>?_;have N:=z.nv;have M:=z.ne;have L:=z.nr;have K:=z.nx;have J:=z.nw;simp only[Zi];refine Z1 ?_;intro I j;refine AW.weak (Zl (λo=>o==1) (l:=[(1,.view .new (Zw c d m)),(2,.ptr 2 j 0)]) (m:=[(2,.cells .new j 0 [.str [],.nils,.nils,.nils,.nils,.nils])]) ?_ ?_) ?_;refine Zs ?_;exact⟨Fz.ptr (v:=Zw c d m) (c:=.new) (fz:=0) zp zp,Zb⟩;simp only[Zt,Zv,and_true];exact FzO.keep rfl zp;refine Zf Zi ?_;intro r;refine Zf Zi ?_;refine Ys (f:=V.str) (l:=([]:List (List UInt8))) (l2:=m.events.l) (g:=0) (λ_=>rfl) rfl rfl rfl zp (Z4 zo zO) λw=>?_;refine Zs ?_;refine AW.weak (Zl (λo=>o==19) (l:=[(1,.view .new (Zw c d m)),(2,.ptr 2 j 0),(3,.ptr 3 r 0)]) (m:=[(2,.cells .new j 0 [.str [],.nils,.nils,.nils,.nils,.nils]),(3,.cells .new r 0 [.str m.name,.nils,Za .new 1 V.str (Zd m.events.l),.nils,.nils,.nils])]) ?_ ?_) ?_;refine Zs ?_;exact⟨Zb,Zb,Zb⟩;simp only[Zt,Zv,and_true];exact⟨FzO.keep rfl zp,FzO.of (c:=.new) (fz:=0) (cs:=[.str m.name,.nils,grown 19 w 1 m.events.l,.nils,.nils,.nils]) rfl zp ⟨Zb,Zb,Y5 rfl zp (λ_=>rfl),Zb,Zb,Zb,trivial⟩⟩;refine Zf Zi ?_
 refine Yc m.vars.l.length (λk (i:Nat)=>st [(1,.view .new (Zw c d m)),(2,.ptr 2 j 0),(3,.ptr 3 r 0),(4,.int .i64 k)] [(2,.cells .new j 0 [.str [],.nils,.nils,.nils,.nils,.nils]),(3,.cells .new r 0 [.str m.name,grown 44 i 2 (m.vars.l.take k),Za .new 1 V.str (Zd m.events.l),.nils,.nils,.nils]),(44,Yb i Z3 (m.vars.l.take k))])
  (λ_ _=>True) 0 0 (Nat.zero_le _) trivial (Weak.st zp (by refine Zs ?_;exact⟨rfl,rfl⟩)) ?_
 intro k i y _ A q
 by_cases a:k<m.vars.l.length
 have u:=List.getElem?_eq_getElem a
 have e:m.vars.l.take (k+1)=m.vars.l.take k++[m.vars.l[k]]:=by rw[List.take_succ_eq_append_getElem a]
 have p:(m.vars.l.take k).length=k:=by rw[List.length_take];omega
 have x:IntKind.i64.wrap ((k:Int)+1)=(k:Int)+1:=Wy zo zo;have b:decide ((k:Int)<(m.vars.l.length:Int))=true:=zT;generalize m.vars.l[k]=n at u e;generalize m.vars.l.take k=t at e p⊢;refine Xm (zi b Zi) ?_;refine I7 (zi u (zi Wb (zi a (zi Zi Yh)))) E ?_;intro D;refine Ys (f:=Z3) (l:=t) (l2:=[n]) (g:=i) Pl rfl rfl rfl zp (Z4 zo zO) λw=>?_;refine Zs ?_;refine Zf x ?_;exact q _ ⟨a,w,trivial,Weak.st (T9 Zi) (by refine Zs ?_;rw[e];try exact⟨rfl,rfl⟩)⟩;have h:k=m.vars.l.length:=zo;have b:decide ((k:Int)<(m.vars.l.length:Int))=false:=zF;rw[h]at b;rw[h,List.take_length];refine AW.weak (Zl (λo=>o==44) (l:=[(1,.view .new (Zw c d m)),(2,.ptr 2 j 0),(3,.ptr 3 r 0),(4,.int .i64 m.vars.l.length)]) (m:=[(2,.cells .new j 0 [.str [],.nils,.nils,.nils,.nils,.nils]),(3,.cells .new r 0 [.str m.name,Za .new 2 Z3 (Zd m.vars.l),Za .new 1 V.str (Zd m.events.l),.nils,.nils,.nils])]) ?_ ?_) ?_;refine Zs ?_;exact⟨Zb,Zb,Zb,Zb⟩;simp only[Zt,Zv,and_true];exact⟨FzO.keep rfl zp,FzO.of (c:=.new) (fz:=0) (cs:=[.str m.name,grown 44 i 2 m.vars.l,Za .new 1 V.str (Zd m.events.l),.nils,.nils,.nils]) rfl zp ⟨Zb,Y5 rfl zp Pl,Zb,Zb,Zb,Zb,trivial⟩⟩;refine Zf (zi b Zi) ?_
 try clear q A b h a y
 refine Yc m.regions.l.length (λk (i:Nat)=>st [(1,.view .new (Zw c d m)),(2,.ptr 2 j 0),(3,.ptr 3 r 0),(5,.int .i64 k)] [(2,.cells .new j 0 [.str [],.nils,.nils,.nils,.nils,.nils]),(3,.cells .new r 0 [.str m.name,Za .new 2 Z3 (Zd m.vars.l),Za .new 1 V.str (Zd m.events.l),grown 69 i 2 (m.regions.l.take k),.nils,.nils]),(69,Yb i Z3 (m.regions.l.take k))])
  (λ_ _=>True) 0 0 (Nat.zero_le _) trivial (Weak.st zp (by refine Zs ?_;exact⟨rfl,rfl⟩)) ?_
 intro k i y _ A q
 by_cases a:k<m.regions.l.length
 have u:=List.getElem?_eq_getElem a
 have e:m.regions.l.take (k+1)=m.regions.l.take k++[m.regions.l[k]]:=by rw[List.take_succ_eq_append_getElem a]
 have p:(m.regions.l.take k).length=k:=by rw[List.length_take];omega
 have x:IntKind.i64.wrap ((k:Int)+1)=(k:Int)+1:=Wy zo zo;have b:decide ((k:Int)<(m.regions.l.length:Int))=true:=zT;generalize m.regions.l[k]=n at u e;generalize m.regions.l.take k=t at e p⊢;refine Xm (zi b Zi) ?_;refine I7 (zi u (zi Wb (zi a (zi Zi Yh)))) E ?_;intro D;refine Ys (f:=Z3) (l:=t) (l2:=[n]) (g:=i) Pl rfl rfl rfl zp (Z4 zo zO) λw=>?_;refine Zs ?_;refine Zf x ?_;exact q _ ⟨a,w,trivial,Weak.st (T9 Zi) (by refine Zs ?_;rw[e];try exact⟨rfl,rfl⟩)⟩;have h:k=m.regions.l.length:=zo;have b:decide ((k:Int)<(m.regions.l.length:Int))=false:=zF;rw[h]at b;rw[h,List.take_length];refine AW.weak (Zl (λo=>o==69) (l:=[(1,.view .new (Zw c d m)),(2,.ptr 2 j 0),(3,.ptr 3 r 0),(5,.int .i64 m.regions.l.length)]) (m:=[(2,.cells .new j 0 [.str [],.nils,.nils,.nils,.nils,.nils]),(3,.cells .new r 0 [.str m.name,Za .new 2 Z3 (Zd m.vars.l),Za .new 1 V.str (Zd m.events.l),Za .new 2 Z3 (Zd m.regions.l),.nils,.nils])]) ?_ ?_) ?_;refine Zs ?_;exact⟨Zb,Zb,Zb,Zb⟩;simp only[Zt,Zv,and_true];exact⟨FzO.keep rfl zp,FzO.of (c:=.new) (fz:=0) (cs:=[.str m.name,Za .new 2 Z3 (Zd m.vars.l),Za .new 1 V.str (Zd m.events.l),grown 69 i 2 m.regions.l,.nils,.nils]) rfl zp ⟨Zb,Zb,Zb,Y5 rfl zp Pl,Zb,Zb,trivial⟩⟩;refine Zf (zi b Zi) ?_
 try clear q A b h a y
 refine Yc m.verts.l.length (λk (i:Nat)=>st [(1,.view .new (Zw c d m)),(2,.ptr 2 j 0),(3,.ptr 3 r 0),(6,.int .i64 k)] [(2,.cells .new j 0 [.str [],.nils,.nils,.nils,.nils,.nils]),(3,.cells .new r 0 [.str m.name,Za .new 2 Z3 (Zd m.vars.l),Za .new 1 V.str (Zd m.events.l),Za .new 2 Z3 (Zd m.regions.l), grown 108 i 8 ((m.verts.l.take k).map VtM.gr),.nils]),(108,Yb i (Yf .new) ((m.verts.l.take k).map VtM.gr))])
  (λ_ _=>True) 0 0 (Nat.zero_le _) trivial (Weak.st zp (by refine Zs ?_;exact⟨rfl,rfl⟩)) ?_
 intro k i y _ A q
 by_cases a:k<m.verts.l.length
 have u:=List.getElem?_eq_getElem a;have s:=List.getElem_mem a
 have e:(m.verts.l.take (k+1)).map VtM.gr=(m.verts.l.take k).map VtM.gr++[(m.verts.l[k]).gr]:=by rw[List.take_succ_eq_append_getElem a,List.map_append]<;>rfl
 have p:((m.verts.l.take k).map VtM.gr).length=k:=by rw[List.length_map,List.length_take];omega
 have x:IntKind.i64.wrap ((k:Int)+1)=(k:Int)+1:=Wy zo zo;have b:decide ((k:Int)<(m.verts.l.length:Int))=true:=zT;generalize m.verts.l[k]=n at u e s;generalize(m.verts.l.take k).map VtM.gr=t at e p⊢;have C:n.defers.l.length<1000000:=(z.vt n s).2.2;refine Xm (zi b Zi) ?_;refine Zf (zi u (zi Zz (zi a (zi Zi Yh)))) ?_;intro H;refine Zf (zi Zz Zi) ?_;intro B;refine Zf (zi Zz Zi) ?_;refine Ys (f:=V.str) (l:=([]:List (List UInt8))) (l2:=n.defers.l) (g:=0) (λ_=>rfl) rfl rfl rfl zp (Z4 zo zO) λgd=>?_;refine Zs ?_;refine AW.weak (Zl (λo=>o==102) (l:=[(1,.view .new (Zw c d m)),(2,.ptr 2 j 0),(3,.ptr 3 r 0),(6,.int .i64 k),(8,.ptr 8 B 0)]) (m:=[(2,.cells .new j 0 [.str [],.nils,.nils,.nils,.nils,.nils]),(3,.cells .new r 0 [.str m.name,Za .new 2 Z3 (Zd m.vars.l),Za .new 1 V.str (Zd m.events.l),Za .new 2 Z3 (Zd m.regions.l), grown 108 i 8 t,.nils]),(108,Yb i (Yf .new) t),(8,.cells .new B 0 [.str n.name,.int .u8 n.kind,.int .i64 n.region,.int .i64 n.of,.str n.entry,.str n.exit,Za .new 1 V.str (Zd n.defers.l),.str n.sub])]) ?_ ?_) ?_;refine Zs ?_;exact⟨Zb,Zb,Zb,Zb,Zb⟩;simp only[Zt,Zv,and_true];exact⟨FzO.keep rfl zp,FzO.keep rfl zp,FzO.keep rfl zp,FzO.of (c:=.new) (fz:=0) (cs:=[.str n.name,.int .u8 n.kind,.int .i64 n.region,.int .i64 n.of,.str n.entry,.str n.exit,grown 102 gd 1 n.defers.l,.str n.sub]) rfl zp ⟨Zb,Zb,Zb,Zb,Zb,Zb,Y5 rfl zp (λ_=>rfl),Zb,trivial⟩⟩
 refine Zf Zi ?_;intro F;refine Ys (f:=Yf .new) (l:=t) (l2:=[n.gr]) (g:=i) (Ej _) rfl rfl rfl zp (Z4 zo zO) λw=>?_;refine Zs ?_;refine Zf x ?_;exact q _ ⟨a,w,trivial,Weak.st (T9 Zi) (by refine Zs ?_;rw[e];try exact⟨rfl,rfl⟩)⟩;have h:k=m.verts.l.length:=zo;have b:decide ((k:Int)<(m.verts.l.length:Int))=false:=zF;rw[h]at b;rw[h,List.take_length];refine AW.weak (Zl (λo=>o==108) (l:=[(1,.view .new (Zw c d m)),(2,.ptr 2 j 0),(3,.ptr 3 r 0),(6,.int .i64 m.verts.l.length)]) (m:=[(2,.cells .new j 0 [.str [],.nils,.nils,.nils,.nils,.nils]),(3,.cells .new r 0 [.str m.name,Za .new 2 Z3 (Zd m.vars.l),Za .new 1 V.str (Zd m.events.l),Za .new 2 Z3 (Zd m.regions.l), Za .new 8 (Yf .new) (Zd (m.verts.l.map VtM.gr)),.nils])]) ?_ ?_) ?_;refine Zs ?_;exact⟨Zb,Zb,Zb,Zb⟩;simp only[Zt,Zv,and_true];exact⟨FzO.keep rfl zp,FzO.of (c:=.new) (fz:=0) (cs:=[.str m.name,Za .new 2 Z3 (Zd m.vars.l),Za .new 1 V.str (Zd m.events.l),Za .new 2 Z3 (Zd m.regions.l), grown 108 i 8 (m.verts.l.map VtM.gr),.nils]) rfl zp ⟨Zb,Zb,Zb,Zb,Y5 rfl zp (Ej _),Zb,trivial⟩⟩;refine Zf (zi b Zi) ?_
 try clear q A b h a y
 refine Yc m.ways.l.length (λk (i:Nat)=>st [(1,.view .new (Zw c d m)),(2,.ptr 2 j 0),(3,.ptr 3 r 0),(9,.int .i64 k)] [(2,.cells .new j 0 [.str [],.nils,.nils,.nils,.nils,.nils]),(3,.cells .new r 0 [.str m.name,Za .new 2 Z3 (Zd m.vars.l),Za .new 1 V.str (Zd m.events.l),Za .new 2 Z3 (Zd m.regions.l),Za .new 8 (Yf .new) (Zd (m.verts.l.map VtM.gr)),grown 147 i 8 ((m.ways.l.take k).map TrM.gr)]),(147,Yb i (Yn .new) ((m.ways.l.take k).map TrM.gr))])
  (λ_ _=>True) 0 0 (Nat.zero_le _) trivial (Weak.st zp (by refine Zs ?_;exact⟨rfl,rfl⟩)) ?_
 intro k i y _ A q
 by_cases a:k<m.ways.l.length
 have u:=List.getElem?_eq_getElem a;have s:=List.getElem_mem a
 have e:(m.ways.l.take (k+1)).map TrM.gr=(m.ways.l.take k).map TrM.gr++[(m.ways.l[k]).gr]:=by rw[List.take_succ_eq_append_getElem a,List.map_append]<;>rfl
 have p:((m.ways.l.take k).map TrM.gr).length=k:=by rw[List.length_map,List.length_take];omega
 have x:IntKind.i64.wrap ((k:Int)+1)=(k:Int)+1:=Wy zo zo;have b:decide ((k:Int)<(m.ways.l.length:Int))=true:=zT;generalize m.ways.l[k]=n at u e s;generalize(m.ways.l.take k).map TrM.gr=t at e p⊢;have C:n.triggers.l.length<1000000:=(z.wy n s).2;refine Xm (zi b Zi) ?_;refine Zf (zi u (zi Yg (zi a (zi Zi Yh)))) ?_;intro H;refine Zf (zi Yg Zi) ?_;intro B;refine Zf (zi Yg Zi) ?_;refine Ys (f:=V.str) (l:=([]:List (List UInt8))) (l2:=n.triggers.l) (g:=0) (λ_=>rfl) rfl rfl rfl zp (Z4 zo zO) λgd=>?_;refine Zs ?_;refine AW.weak (Zl (λo=>o==141) (l:=[(1,.view .new (Zw c d m)),(2,.ptr 2 j 0),(3,.ptr 3 r 0),(9,.int .i64 k),(11,.ptr 11 B 0)]) (m:=[(2,.cells .new j 0 [.str [],.nils,.nils,.nils,.nils,.nils]),(3,.cells .new r 0 [.str m.name,Za .new 2 Z3 (Zd m.vars.l),Za .new 1 V.str (Zd m.events.l),Za .new 2 Z3 (Zd m.regions.l),Za .new 8 (Yf .new) (Zd (m.verts.l.map VtM.gr)),grown 147 i 8 t]),(147,Yb i (Yn .new) t),(11,.cells .new B 0 [.str n.name,.int .i64 n.source,.int .i64 n.target,Za .new 1 V.str (Zd n.triggers.l),.int .i64 n.after,.str n.guard,.str n.effect,.int .u8 n.kind])]) ?_ ?_) ?_;refine Zs ?_;exact⟨Zb,Zb,Zb,Zb,Zb⟩;simp only[Zt,Zv,and_true];exact⟨FzO.keep rfl zp,FzO.keep rfl zp,FzO.keep rfl zp,FzO.of (c:=.new) (fz:=0) (cs:=[.str n.name,.int .i64 n.source,.int .i64 n.target,grown 141 gd 1 n.triggers.l,.int .i64 n.after,.str n.guard,.str n.effect,.int .u8 n.kind]) rfl zp ⟨Zb,Zb,Zb,Y5 rfl zp (λ_=>rfl),Zb,Zb,Zb,Zb,trivial⟩⟩
 refine Zf Zi ?_;intro F;refine Ys (f:=Yn .new) (l:=t) (l2:=[n.gr]) (g:=i) (Z3b _) rfl rfl rfl zp (Z4 zo zO) λw=>?_;refine Zs ?_;refine Zf x ?_;exact q _ ⟨a,w,trivial,Weak.st (T9 Zi) (by refine Zs ?_;rw[e];try exact⟨rfl,rfl⟩)⟩;have h:k=m.ways.l.length:=zo;have b:decide ((k:Int)<(m.ways.l.length:Int))=false:=zF;rw[h]at b;rw[h,List.take_length];refine AW.weak (Zl (λo=>o==147) (l:=[(1,.view .new (Zw c d m)),(2,.ptr 2 j 0),(3,.ptr 3 r 0),(9,.int .i64 m.ways.l.length)]) (m:=[(2,.cells .new j 0 [.str [],.nils,.nils,.nils,.nils,.nils]),(3,.cells .new r 0 [.str m.name,Za .new 2 Z3 (Zd m.vars.l),Za .new 1 V.str (Zd m.events.l),Za .new 2 Z3 (Zd m.regions.l),Za .new 8 (Yf .new) (Zd (m.verts.l.map VtM.gr)),Za .new 8 (Yn .new) (Zd (m.ways.l.map TrM.gr))])]) ?_ ?_) ?_;refine Zs ?_;exact⟨Zb,Zb,Zb,Zb⟩;simp only[Zt,Zv,and_true];exact⟨FzO.keep rfl zp,FzO.of (c:=.new) (fz:=0) (cs:=[.str m.name,Za .new 2 Z3 (Zd m.vars.l),Za .new 1 V.str (Zd m.events.l),Za .new 2 Z3 (Zd m.regions.l),Za .new 8 (Yf .new) (Zd (m.verts.l.map VtM.gr)),grown 147 i 8 (m.ways.l.map TrM.gr)]) rfl zp ⟨Zb,Zb,Zb,Zb,Zb,Y5 rfl zp (Z3b _),trivial⟩⟩;refine Zf (zi b Zi) ?_
 try clear q A b h a y
 rfl
def Sl.isNil{α : Type}(s:Sl α):Bool:=match s with|.nil=>true|.mk _ _=>false
def Sl.cl{α : Type}(s:Sl α):Sl α := match s with|.nil=>.nil|.mk _ l=>.mk false l
theorem Zfh{α : Type}(s:Sl α):s.cl.l=s.l:=by cases s<;>rfl
def objV(nil:Bool)(o g m n:Nat):V:=if nil=true/\n=0 then .nils else .msl o g 0 n m
def Sx(nil:Bool)(g n:Nat)(cs:List V):AObj:=if nil=true/\n=0 then .dead else .cells .new g 0 cs
theorem Zrc{nil:Bool}{o g m n:Nat}(h:n≠0):objV nil o g m n=.msl o g 0 n m:=if_neg λq=>h q.2
theorem Zsc{nil:Bool}{g n:Nat}{cs:List V}(h:n≠0):Sx nil g n cs=.cells .new g 0 cs:=if_neg λq=>h q.2
theorem Z00(nil:Bool)(o g m n:Nat):J6 true (objV nil o g m n)=some (.int .i64 n):=by
 unfold objV
 split
 rename_i h;rw[h.2]<;>rfl
 rfl
theorem Zzt(nil:Bool)(o g m n:Nat):(objV nil o g m n).cells=[objV nil o g m n]:=by unfold objV;split<;>rfl
theorem Zwq(nil:Bool)(o g m n:Nat):(objV nil o g m n).solid=true:=by unfold objV;split<;>rfl
theorem Zf0(nil:Bool)(g n:Nat)(cs:List V):(Sx nil g n cs).noMp=Sx nil g n cs:=by unfold Sx;split<;>rfl
attribute[go_sem]Z00 Zzt Zwq Zf0
def Oc{α : Type}(nil:Bool)(l:List α):Sl α := if nil=true/\l.length=0 then .nil else .mk false l
theorem slOf_l{α : Type}(nil:Bool)(l:List α):(Oc nil l).l=l:=by
 unfold Oc
 split
 rename_i h;rw[List.length_eq_zero_iff.1 h.2]<;>rfl
 rfl
theorem Zqk(G:Nat->V)(c:Col)(s:Sl (List UInt8×Int))(a:s.l.length<1000000):InSp Tryz.prog G 65 [Za c 2 Z3 s] (Z5 Zj [(5205,.dead)])
  (λv H'=>∃ g,v=objV s.isNil 5205 g 2 s.l.length/\H' 5205=Sx s.isNil g s.l.length (flat (s.l.map Z3))):=by
 refine Yr 5200 8 [.tmp 2] Tryz.func65 rfl rfl rfl rfl λX=>?_;simp only[Z5]
 cases s with
 |nil=>
  refine Z ?_;exact⟨0,by first|exact⟨rfl,rfl⟩|rfl⟩
 |mk b l=>
  have d:Za c 2 Z3 (.mk b l)=.slice c b 2 (l.map Z3):=rfl;rw[d];have f:l.length<1000000:=a;refine Z ?_;intro g;refine⟨Z4 zo (by rw[List.length_map];omega),λe=>?_⟩;refine Zs ?_;refine Z ?_;exact⟨e,by rw[List.length_map,objV,if_neg (λq=>by cases q.1)],by rw[Sx,if_neg (λq=>by cases q.1)];first|rfl|(simp -implicitDefEqProofs only[go_sem,seval];try rfl)⟩
theorem Fg(G:Nat->V)(c d:Col)(s:Sl VtM)(a:s.l.length<1000000):InSp Tryz.prog G 66 [Za c 8 (Yf d) s] (Z5 Zj [(5305,.dead)])
  (λv H'=>∃ g,v=objV s.isNil 5305 g 8 s.l.length/\H' 5305=Sx s.isNil g s.l.length (flat (s.l.map (Yf d)))):=by
 refine Yr 5300 8 [.tmp 2] Tryz.func66 rfl rfl rfl rfl λX=>?_;simp only[Z5]
 cases s with
 |nil=>
  refine Z ?_;exact⟨0,by first|exact⟨rfl,rfl⟩|rfl⟩
 |mk b l=>
  have e:Za c 8 (Yf d) (.mk b l)=.slice c b 8 (l.map (Yf d)):=rfl;rw[e];have h:l.length<1000000:=a;refine Z ?_;intro g;refine⟨Z4 zo (by rw[List.length_map];omega),λf=>?_⟩;refine Zs ?_;refine Z ?_;exact⟨f,by rw[List.length_map,objV,if_neg (λq=>by cases q.1)],by rw[Sx,if_neg (λq=>by cases q.1)];first|rfl|(simp -implicitDefEqProofs only[go_sem,seval];try rfl)⟩
theorem Fh(G:Nat->V)(c d:Col)(s:Sl TrM)(a:s.l.length<1000000):InSp Tryz.prog G 67 [Za c 8 (Yn d) s] (Z5 Zj [(5405,.dead)])
  (λv H'=>∃ g,v=objV s.isNil 5405 g 8 s.l.length/\H' 5405=Sx s.isNil g s.l.length (flat (s.l.map (Yn d)))):=by
 refine Yr 5400 8 [.tmp 2] Tryz.func67 rfl rfl rfl rfl λX=>?_;simp only[Z5]
 cases s with
 |nil=>
  refine Z ?_;exact⟨0,by first|exact⟨rfl,rfl⟩|rfl⟩
 |mk b l=>
  have e:Za c 8 (Yn d) (.mk b l)=.slice c b 8 (l.map (Yn d)):=rfl;rw[e];have h:l.length<1000000:=a;refine Z ?_;intro g;refine⟨Z4 zo (by rw[List.length_map];omega),λf=>?_⟩;refine Zs ?_;refine Z ?_;exact⟨f,by rw[List.length_map,objV,if_neg (λq=>by cases q.1)],by rw[Sx,if_neg (λq=>by cases q.1)];first|rfl|(simp -implicitDefEqProofs only[go_sem,seval];try rfl)⟩
theorem Zid(G:Nat->V)(c:Col)(s:Sl (List UInt8×Int))(a:s.l.length<1000000):Spec Tryz.prog G 63 [Za c 2 Z3 s] Zj (λv _=>v=Za .new 2 Z3 s.cl):=by
 refine Zo 0 8 [.tmp 2] Tryz.func63 λX=>?_
 cases s with
 |nil=>exact Zr
 |mk b l=>
  have d:Za c 2 Z3 (.mk b l)=.slice c b 2 (l.map Z3):=rfl;rw[d];have e:l.length<1000000:=a;refine Z ?_;intro g;refine⟨Z4 zo (by rw[List.length_map];omega),λh=>?_⟩;refine Zs ?_;refine AW.weak (Zl (λo=>o==5) (l:=[(2,.slice .new false 2 (l.map Z3))]) (m:=[]) ?_ trivial) ?_;refine Zs ?_;rw[List.length_map];exact Xa (f:=Z3) rfl zp Pl;exact Zr
theorem N0(G:Nat->V)(c:Col)(s:Sl (List UInt8))(a:s.l.length<1000000):Spec Tryz.prog G 64 [Za c 1 V.str s] Zj (λv _=>v=Za .new 1 V.str s.cl):=by
 refine Zo 0 8 [.tmp 2] Tryz.func64 λX=>?_
 cases s with
 |nil=>exact Zr
 |mk b l=>
  have d:Za c 1 V.str (.mk b l)=.slice c b 1 (l.map V.str):=rfl;rw[d];have e:l.length<1000000:=a;refine Z ?_;intro g;refine⟨Z4 zo (by rw[List.length_map];omega),λh=>?_⟩;refine Zs ?_;refine AW.weak (Zl (λo=>o==5) (l:=[(2,.slice .new false 1 (l.map V.str))]) (m:=[]) ?_ trivial) ?_;refine Zs ?_;rw[List.length_map];exact Xa (f:=V.str) rfl zp (λ_=>rfl);exact Zr
def Kl(p:Bool×VtM):V:=Yf (if p.1 then .new else .old) p.2
def Ik(p:Bool×TrM):V:=Yn (if p.1 then .new else .old) p.2
theorem Ek(p:Bool×VtM):(Kl p).cells.length=8:=rfl
theorem Em(p:Bool×TrM):(Ik p).cells.length=8:=rfl
theorem J3{α β : Type}(f : α -> β){l:List α}{i:Nat}{x y : α}(h:l[i]?=some x)(e:f y=f x):(l.set i y).map f=l.map f:=by
 rw[List.map_set,e];refine List.ext_getElem? λj=>?_;rw[List.getElem?_set]
 split
 rename_i q;subst q
 rw[List.length_map,if_pos (List.getElem?_eq_some_iff.1 h).1,List.getElem?_map,h]<;>rfl
 rfl
structure CpV(m:MdM)(L:List (Bool×VtM)):Prop where
 p:L.map (·.2.p)=m.verts.l.map VtM.p
structure CpW(m:MdM)(L:List (Bool×TrM)):Prop where
 p:L.map (·.2.p)=m.ways.l.map TrM.p
theorem CpV.len{m:MdM}{L:List (Bool×VtM)}(h:CpV m L):L.length=m.verts.l.length:=by
 have:=congrArg List.length h.p;rwa [List.length_map,List.length_map]at this
theorem CpW.len{m:MdM}{L:List (Bool×TrM)}(h:CpW m L):L.length=m.ways.l.length:=by
 have:=congrArg List.length h.p;rwa [List.length_map,List.length_map]at this
theorem Zms(G:Nat->V)(L:Y6 G)(c:Col)(m:MdM)(D:MdB m):
  InSp Tryz.prog G 27 [Zw c .old m] (Z5 Zj [(5205,.dead),(5305,.dead),(5405,.dead)])
   (λv H'=>∃ gr gv gw LV LW,CpV m LV/\CpW m LW/\v=.agg [.str m.name,Za .new 2 Z3 m.vars.cl,Za .new 1 V.str m.events.cl,objV m.regions.isNil 5205 gr 2 m.regions.l.length,objV m.verts.isNil 5305 gv 8 m.verts.l.length,objV m.ways.isNil 5405 gw 8 m.ways.l.length]/\H' 5205=Sx m.regions.isNil gr m.regions.l.length (flat (m.regions.l.map Z3))/\H' 5305=Sx m.verts.isNil gv m.verts.l.length (flat (LV.map Kl))/\H' 5405=Sx m.ways.isNil gw m.ways.l.length (flat (LW.map Ik))):=by
 refine Yr 0 64 [.cell 2 28] Tryz.func27 rfl rfl rfl rfl λX=>?_;simp only[Z5,Zi];have b1:=D.nv;have b2:=D.ne;have b3:=D.nr;have b4:=D.nx;have b5:=D.nw;refine Z1 ?_;intro I H;refine Z6 ?_;refine B9 [0,1,3,4,6,7,2,5,9,8,10,11,12,13,14] [] ⟨λj=>if j=2 then Za .new 2 Z3 m.vars.cl else if j=5 then Za .new 1 V.str m.events.cl else .top,λj=>if j=8 then .any else .pure⟩ zk L zk zk zk zk ?_;refine Zs ?_;refine⟨⟨zk,?_⟩,⟨zk,?_⟩,?_⟩;simp -implicitDefEqProofs only[go_sem,seval,Uq]
 exact(Zid G _ m.vars zo).mono λv _ e=>by rw[e,Uq]<;>rfl
 .simp -implicitDefEqProofs only[go_sem,seval,Xy]
  exact(N0 G _ m.events zo).mono λv _ e=>by rw[e];simp -implicitDefEqProofs only[go_sem,seval,Xy];try rfl
 show CallA _ _ _ _ _ _
 refine CallA.inl [(5205,.dead)] zk ?_ ?_;intro p f;rw[List.mem_singleton]at f;subst f;exact zp;refine(Zqk G _ m.regions zo).mono ?_;rintro _ H' ⟨gr,rfl,q⟩;simp only[List.map_cons,List.map_nil,q];simp -implicitDefEqProofs only[go_sem,seval,Z5]
 refine Wq (fun(p:Nat×Nat)=>st [(1,.ptr 1 I 0),(2,.ptr 2 H 0)] [(1,.cells .new I 0 [.str m.name,Za .new 2 Z3 m.vars.cl,Za .new 1 V.str m.events.cl,objV m.regions.isNil 5205 gr 2 m.regions.l.length,objV m.verts.isNil 5305 p.1 8 m.verts.l.length,objV m.ways.isNil 5405 p.2 8 m.ways.l.length]),(2,.cells .new H 0 [.str [],.nils,.nils,.nils,.nils,.nils]),(5205,Sx m.regions.isNil gr m.regions.l.length (flat (m.regions.l.map Z3))),
  (5305,Sx m.verts.isNil p.1 m.verts.l.length (flat (m.verts.l.map (Yf .old)))),(5405,Sx m.ways.isNil p.2 m.ways.l.length (flat (m.ways.l.map (Yn .old))))]) (λ_=>True) (λK1 K=>?_) ?_
 refine Z8w 2 4 [0,1,3,2,4,6,5,7,8,9] [0,1,3,4,2,6,5,7,8,9] [] ⟨λ_=>.top,λj=>if j=2 then .any else if j=5 then .any else .pure⟩ zk L zk zk zk zk zk zk zk zk ?_ ?_;simp -implicitDefEqProofs only[go_sem,seval];refine CallA.inl [(5305,.dead)] zk ?_ ?_;intro p f;rw[List.mem_singleton]at f;subst f;exact zp;refine(Fg G _ .old m.verts zo).mono ?_;rintro _ H2 ⟨gv,rfl,O⟩;simp only[List.map_cons,List.map_nil,O];simp -implicitDefEqProofs only[go_sem,seval,Z5];refine CallA.inl [(5405,.dead)] zk ?_ ?_;intro p f;rw[List.mem_singleton]at f;subst f;exact zp;refine(Fh G _ .old m.ways zo).mono ?_;rintro _ H3 ⟨gw,rfl,N⟩;simp only[List.map_cons,List.map_nil,N];simp -implicitDefEqProofs only[go_sem,seval,Z5];exact K _ (gv,gw) trivial (Weak.st zp zp);simp -implicitDefEqProofs only[go_sem,seval];refine CallA.inl [(5305,.dead)] zk ?_ ?_;intro p f;rw[List.mem_singleton]at f;subst f;exact zp;refine(Fg G _ .old m.verts zo).mono ?_;rintro _ H2 ⟨gv,rfl,O⟩;simp only[List.map_cons,List.map_nil,O];simp -implicitDefEqProofs only[go_sem,seval,Z5];refine CallA.inl [(5405,.dead)] zk ?_ ?_;intro p f;rw[List.mem_singleton]at f;subst f;exact zp;refine(Fh G _ .old m.ways zo).mono ?_;rintro _ H3 ⟨gw,rfl,N⟩;simp only[List.map_cons,List.map_nil,N];simp -implicitDefEqProofs only[go_sem,seval,Z5];exact K _ (gv,gw) trivial (Weak.st zp zp);rintro⟨gv,gw⟩ _;simp only;refine Z ?_
 refine Yc m.verts.l.length (λk (LV:List (Bool×VtM))=>st [(1,.ptr 1 I 0),(2,.ptr 2 H 0),(27,.int .i64 m.verts.l.length),(28,.int .i64 k)] [(1,.cells .new I 0 [.str m.name,Za .new 2 Z3 m.vars.cl,Za .new 1 V.str m.events.cl,objV m.regions.isNil 5205 gr 2 m.regions.l.length,objV m.verts.isNil 5305 gv 8 m.verts.l.length,objV m.ways.isNil 5405 gw 8 m.ways.l.length]),(2,.cells .new H 0 [.str [],.nils,.nils,.nils,.nils,.nils]),(5205,Sx m.regions.isNil gr m.regions.l.length (flat (m.regions.l.map Z3))),(5305,Sx m.verts.isNil gv m.verts.l.length (flat (LV.map Kl))),(5405,Sx m.ways.isNil gw m.ways.l.length (flat (m.ways.l.map (Yn .old))))])
  (λ_ LV=>CpV m LV) 0 (m.verts.l.map λx=>(false,x)) (Nat.zero_le _) ⟨by rw[List.map_map]<;>rfl⟩ (Weak.st zp (by refine Zs ?_;rw[List.map_map]<;>rfl)) ?_
 intro k LV P y W w
 by_cases d:k<m.verts.l.length
 have B:=y.len;have a:decide ((k:Int)<(m.verts.l.length:Int))=true:=zT;have h:m.verts.l.length≠0:=zo;have s:=List.getElem?_eq_getElem (l:=LV) (i:=k) zo
 have u:(LV[k]'zo).2.defers.l.length<1000000:=by
  have T:=congrArg (·[k]?) y.p
  have S:(LV[k]'zo).2.p=((m.verts.l[k]).p:VP):=by simpa[List.getElem?_map,s,List.getElem?_eq_getElem d]using T
  have R:=congrArg (λx:VP=>x.defers.length) S;have Y:=(D.vt _ (List.getElem_mem d)).2.2;simp only[VtM.p]at R;omega
 generalize LV[k]'zo=U at s u;obtain⟨b,x⟩:=U;have E:=Zrc (nil:=m.verts.isNil) (o:=5305) (g:=gv) (m:=8) h;have J:∀ F,Sx m.verts.isNil gv m.verts.l.length F=.cells .new gv 0 F:=λF=>Zsc h;have t:=Xu Ek LV;have A:=Lx Ek (j:=6) (v:=Za (if b then .new else .old) 1 V.str x.defers) zd s rfl;have z:(flat (LV.map Kl)).set (k*8+6) (Za .new 1 V.str x.defers.cl)=flat ((LV.set k (true,{ x with defers:=x.defers.cl })).map Kl):=M1 Ek zd s rfl;rw[B]at t;have C:k*8+6+1<=m.verts.l.length*8:=zo;have n:k*8+6<m.verts.l.length*8:=zo;have M:IntKind.i64.wrap ((k:Int)+1)=(k:Int)+1:=Wy zo zo;refine Xm a ?_;refine Xm a ?_;refine Zy ⟨λj=>if j=9 then Za .new 1 V.str x.defers.cl else .top,λ_=>.pure⟩ zk L zk zk ?_;refine Xr (zi E (zi J (zi A (zi z (zi t (zi C (zi n (zi d Yh)))))))) ?_;refine⟨⟨zk,?_⟩,?_⟩
 .simp -implicitDefEqProofs only[go_sem,seval,Xy]
  exact(N0 G _ x.defers u).mono λv _ e=>by rw[e];simp -implicitDefEqProofs only[go_sem,seval,Xy];try rfl
 refine Zf M ?_;exact w _ ⟨d,LV.set k (true,{ x with defers:=x.defers.cl }),⟨(J3 _ s (by simp only[VtM.p,Zfh])).trans y.p⟩,Weak.st (T9 E) (T9 (zi E J))⟩;have r:k=m.verts.l.length:=zo;have a:decide ((k:Int)<(m.verts.l.length:Int))=false:=zF;rw[r]at a⊢;refine Zf a ?_
 try clear w W a r d P
 have Q:=y
 try clear y
 refine Yc m.ways.l.length (λk (LW:List (Bool×TrM))=>st [(1,.ptr 1 I 0),(2,.ptr 2 H 0),(46,.int .i64 m.ways.l.length),(47,.int .i64 k)] [(1,.cells .new I 0 [.str m.name,Za .new 2 Z3 m.vars.cl,Za .new 1 V.str m.events.cl,objV m.regions.isNil 5205 gr 2 m.regions.l.length,objV m.verts.isNil 5305 gv 8 m.verts.l.length,objV m.ways.isNil 5405 gw 8 m.ways.l.length]),(2,.cells .new H 0 [.str [],.nils,.nils,.nils,.nils,.nils]),(5205,Sx m.regions.isNil gr m.regions.l.length (flat (m.regions.l.map Z3))),(5305,Sx m.verts.isNil gv m.verts.l.length (flat (LV.map Kl))),(5405,Sx m.ways.isNil gw m.ways.l.length (flat (LW.map Ik)))])
  (λ_ LW=>CpW m LW) 0 (m.ways.l.map λx=>(false,x)) (Nat.zero_le _) ⟨by rw[List.map_map]<;>rfl⟩ (Weak.st zp (by refine Zs ?_;rw[List.map_map]<;>rfl)) ?_
 intro k LW P y W w
 by_cases d:k<m.ways.l.length
 have B:=y.len;have a:decide ((k:Int)<(m.ways.l.length:Int))=true:=zT;have h:m.ways.l.length≠0:=zo;have s:=List.getElem?_eq_getElem (l:=LW) (i:=k) zo
 have u:(LW[k]'zo).2.triggers.l.length<1000000:=by
  have T:=congrArg (·[k]?) y.p
  have S:(LW[k]'zo).2.p=((m.ways.l[k]).p:WP):=by simpa[List.getElem?_map,s,List.getElem?_eq_getElem d]using T
  have R:=congrArg (λx:WP=>x.triggers.length) S;have Y:=(D.wy _ (List.getElem_mem d)).2;simp only[TrM.p]at R;omega
 generalize LW[k]'zo=U at s u;obtain⟨b,x⟩:=U;have E:=Zrc (nil:=m.ways.isNil) (o:=5405) (g:=gw) (m:=8) h;have J:∀ F,Sx m.ways.isNil gw m.ways.l.length F=.cells .new gw 0 F:=λF=>Zsc h;have t:=Xu Em LW;have A:=Lx Em (j:=3) (v:=Za (if b then .new else .old) 1 V.str x.triggers) zd s rfl;have z:(flat (LW.map Ik)).set (k*8+3) (Za .new 1 V.str x.triggers.cl)=flat ((LW.set k (true,{ x with triggers:=x.triggers.cl })).map Ik):=M1 Em zd s rfl;rw[B]at t;have C:k*8+3+1<=m.ways.l.length*8:=zo;have n:k*8+3<m.ways.l.length*8:=zo;have M:IntKind.i64.wrap ((k:Int)+1)=(k:Int)+1:=Wy zo zo;refine Xm a ?_;refine Xm a ?_;refine Zy ⟨λj=>if j=9 then Za .new 1 V.str x.triggers.cl else .top,λ_=>.pure⟩ zk L zk zk ?_;refine Xr (zi E (zi J (zi A (zi z (zi t (zi C (zi n (zi d Yh)))))))) ?_;refine⟨⟨zk,?_⟩,?_⟩
 .simp -implicitDefEqProofs only[go_sem,seval,Xy]
  exact(N0 G _ x.triggers u).mono λv _ e=>by rw[e];simp -implicitDefEqProofs only[go_sem,seval,Xy];try rfl
 refine Zf M ?_;exact w _ ⟨d,LW.set k (true,{ x with triggers:=x.triggers.cl }),⟨(J3 _ s (by simp only[TrM.p,Zfh])).trans y.p⟩,Weak.st (T9 E) (T9 (zi E J))⟩;have r:k=m.ways.l.length:=zo;have a:decide ((k:Int)<(m.ways.l.length:Int))=false:=zF;rw[r]at a⊢;refine Zf a ?_
 try clear w W a r d P
 exact⟨gr,gv,gw,LV,LW,Q,y,rfl,zp,zp,zp⟩
theorem Zih{α : Type}{F:Nat->Bool}{H:Heap}{nil:Bool}{o g m n:Nat}{f : α -> V}{l:List α}(d:F o=true)(b:l.length=n)(a:H o=Sx nil g n (flat (l.map f)))(c:∀ x,(f x).cells.length=m):Fz F H (Hs.objV nil o g m n) (Za .new m f (Oc nil l)):=by
 subst b
 by_cases h:nil=true/\l.length=0
 rw[Hs.objV,if_pos h,Oc,if_pos h];exact Zb;rw[Hs.objV,if_neg h,Oc,if_neg h];rw[Sx,if_neg h]at a;exact Xa d a c
def MdM.cp(m:MdM)(LV:List (Bool×VtM))(LW:List (Bool×TrM)):MdM:=⟨m.name,m.vars.cl,m.events.cl,Oc m.regions.isNil m.regions.l,Oc m.verts.isNil (LV.map (·.2)),Oc m.ways.isNil (LW.map (·.2))⟩
theorem Zi9{m:MdM}{b:List (Bool×VtM)}{a:List (Bool×TrM)}(d:CpV m b)(c:CpW m a):(m.cp b a).p=m.p:=by
 have f:=d.p;have e:=c.p;unfold MdM.p MdM.cp;simp only[slOf_l,Zfh,List.map_map,PM.mk.injEq,true_and];exact⟨f,e⟩
theorem Zvba(nil:Bool)(L:List (Bool×VtM)):(Za .new 8 Kl (Oc nil L)).recol (λ_=>Col.any)=Za .any 8 (Yf .any) (Oc nil (L.map (·.2))):=by
 have e:∀ p:Bool×VtM,(Kl p).recol (λ_=>Col.any)=Yf .any p.2:=λp=>Jv ..;unfold Oc;rw[List.length_map]
 split
 rfl
 show V.recol _ (.slice _ _ _ _)=.slice _ _ _ _
 simp only[V.recol,Q3,List.map_map];exact congrArg _ (List.map_congr_left λp _=>e p)
theorem Zuba(nil:Bool)(L:List (Bool×TrM)):(Za .new 8 Ik (Oc nil L)).recol (λ_=>Col.any)=Za .any 8 (Yn .any) (Oc nil (L.map (·.2))):=by
 have e:∀ p:Bool×TrM,(Ik p).recol (λ_=>Col.any)=Yn .any p.2:=λp=>Dt ..;unfold Oc;rw[List.length_map]
 split
 rfl
 show V.recol _ (.slice _ _ _ _)=.slice _ _ _ _
 simp only[V.recol,Q3,List.map_map];exact congrArg _ (List.map_congr_left λp _=>e p)
def MdM.ix1(m:MdM):IxM:=((Ue m.p).rc Col.bk).rc (λ_=>.any)
def MdM.ix2(m:MdM):IxM:=(((Ue m.p).rc Col.bk).rc Col.bk).rc (λ_=>.any)
structure CmpOk(m:MdM)(p:PgM):Prop where
 st:m.p.StOk
 pm:p.m.p=m.p
 L:p.L=m.p.withR
 lv:p.lv=m.p.withR.map m.p.leafR
 ok:PgOk p
 x:p.x=m.ix1
def Zuca(m:MdM):Prop:=(m.p.statP Xw Xj).2.2=0/\∀ x∈m.verts.l,x.sub=[]
def CmpK(m:MdM)(w:V):Prop:=(∃ a e:Int,e≠0/\w=.tuple [.nilp,.int .i64 a,.int .i64 e]/\¬ Zuca m)\/∃ p:PgM,w=.tuple [Ph .any p,.int .i64 0,.int .i64 0]/\CmpOk m p
def F6(m:MdM)(NS:List (List UInt8)):List (Bool×List XN):=m.ways.l.map λt=>gdP t.guard NS
def F7(m:MdM):List (List ASt):=m.ways.l.map λt=>(Tu t.effect).1
def Au(m:MdM):List (List ASt):=m.verts.l.map λt=>(Tu t.entry).1
def exL(m:MdM):List (List ASt):=m.verts.l.map λt=>(Tu t.exit).1
theorem Ev(c:Col)(l:List Int):(Tt c l).cells.length=1:=by cases l<;>rfl
theorem Zos(c:Col)(l:List Int):(Tt c l).cells=[Tt c l]:=by cases l<;>rfl
theorem Ka(c:Col)(l:List ASt):(Xd c l).cells.length=1:=rfl
theorem Zay(c:Col)(p:Bool×List XN):(Um c p).cells.length=2:=rfl
theorem MdM.ix1_p(m:MdM):IxP m.p m.ix1:=((Z5s m.p).rc _).rc _
theorem MdM.ix2_p(m:MdM):IxP m.p m.ix2:=(((Z5s m.p).rc _).rc _).rc _
theorem MdM.ix1_o(m:MdM):IxO m.p .any m.ix1:=((Zq7 m.p).rc _).rc _
theorem MdM.ix2_o(m:MdM):IxO m.p .any m.ix2:=(((Zq7 m.p).rc _).rc _).rc _
def MdM.pg(m:MdM)(LV:List (Bool×VtM))(LW:List (Bool×TrM))(NS:List (List UInt8)):PgM:=⟨m.cp LV LW,m.p.withR,Za .any 2 (Um .any) (Zd (F6 m NS)),Za .any 1 (Xd .any) (Zd (F7 m)),Za .any 1 (Xd .any) (Zd (Au m)),Za .any 1 (Xd .any) (Zd (exL m)),m.p.withR.map m.p.leafR,m.ix1,m.ix2,Zd m.kinds⟩
theorem Iq(G:Nat->V)(Q:GExp G)(c:Col)(m:MdM)(P:MdB m)(ht:m.p.Rt->MdT m):Spec Tryz.prog G 7 [Zw c .old m] Zj (λw _=>CmpK m w):=by
 have I:=Q.ok;refine Zo 0 165 [.tmp 2,.tmp 3,.tmp 4] Tryz.func7 λX=>?_;refine Zf Zi ?_;intro g1;refine AW.weak (Zl (λo=>o==1) (l:=[(1,.view .new (Zw c .old m))]) (m:=[]) ?_ trivial) ?_;simp -implicitDefEqProofs only[go_sem,seval];exact Fz.ptr (v:=Zw c .old m) (c:=.new) (fz:=0) zp (by rw[Zi];exact zp);refine Zf Zi ?_;refine Zc I ?_ (s:=Z88 G Q c.ent .old m P ht)
 by_cases T:(m.p.statP Xw Xj).2.2=0
 rotate_left;have q:((m.p.statP Xw Xj).2.2 != 0)=true:=zu T;refine Zf q ?_;exact .inl ⟨_,_,T,rfl,λh=>T h.1⟩;obtain⟨ok,hst⟩:=PM.statP_ok T
 have hr:m.p.rightP.2.2=0:=by
  by_cases q:m.p.rightP.2.2=0
  exact q;rw[PM.statP,PM.checkW,if_pos q,if_pos q]at T;exact absurd T q
 rw[hst,T];have ac:=ok.rt.acy;have hnx:=P.nx;refine Zf Zi ?_;refine Zc I ?_ (s:=Z8s G I _ _ 26 zk (λx=>x.sub != []) m.verts zo λx _ c'=>Zwt G c' x);have E:=Z8x (λx:VtM=>x.sub != []) m.verts.l;generalize Rz (λx:VtM=>x.sub != []) m.verts.l=v at E
 cases hs:m.verts.l.any λx=>x.sub != []with
 |true=>
  rw[hs]at E;refine Zf E ?_;obtain⟨x,hx,hq⟩:=List.any_eq_true.1 hs;refine .inl ⟨_,180,zd,rfl,λh=>?_⟩;rw[h.2 x hx]at hq;exact absurd hq zd
 |false=>
 rw[hs]at E;refine Zf (zi E Zi) ?_;refine CallA.inl [(5205,.dead),(5305,.dead),(5405,.dead)] zk ?_ ((Zms G I _ m P).mono ?_);intro p hp;simp only[List.mem_cons,List.not_mem_nil,or_false]at hp
 rcases hp with rfl|rfl|rfl<;>simp -implicitDefEqProofs only[go_sem,seval]
 rintro _ H' ⟨gr,gv,gw,b,a,cv,cw,rfl,q1,q2,q3⟩;simp only[List.map_cons,List.map_nil,q1,q2,q3];simp -implicitDefEqProofs only[go_sem,seval,Z5];intro d;have lv:=cv.len;have lw:=cw.len
 refine AW.weak (Zl (λo=>o==5205||o==5305||o==5405) (l:=[(1,.view .new (Zw c .old m)),(5,Za .new 6 (Yo .new) (Zd m.p.withR)),(2,.ptr 37 d 0)])
  (m:=[(37,.cells .new d 0 [.str m.name,Za .new 2 Z3 m.vars.cl,Za .new 1 V.str m.events.cl,Za .new 2 Z3 (Oc m.regions.isNil m.regions.l),Za .new 8 Kl (Oc m.verts.isNil b),Za .new 8 Ik (Oc m.ways.isNil a),Za .new 6 (Yo .new) (Zd m.p.withR),.nils,.nils,.nils,.nils,.nils,.nilp,.nilp])]) ?_ ?_) ?_
 simp -implicitDefEqProofs only[go_sem,seval];exact⟨Zb,Zb,Zb⟩;simp only[Zt,Zv,and_true]
 exact FzO.of (cs:=[.str m.name,Za .new 2 Z3 m.vars.cl,Za .new 1 V.str m.events.cl,objV m.regions.isNil 5205 gr 2 m.regions.l.length,objV m.verts.isNil 5305 gv 8 m.verts.l.length,objV m.ways.isNil 5405 gw 8 m.ways.l.length,Za .new 6 (Yo .new) (Zd m.p.withR),.nils,.nils,.nils,.nils,.nils,.nilp,.nilp]) rfl zp
  ⟨Zb,Zb,Zb,Zih rfl rfl zp Pl,Zih rfl lv zp Ek,Zih rfl lw zp Em,Zb,Zb,Zb,Zb,Zb,Zb,Zb,Zb,trivial⟩
 refine AW.weak (Zl (λ_=>false) (l:=[(1,.view .new (Zw c .old m)),(5,Za .new 6 (Yo .new) (Zd m.p.withR)),(2,.ptr 37 d 0)]) (m:=[(37,.cells .any d 0 [.str m.name,Za .any 2 Z3 (m.cp b a).vars,Za .any 1 V.str (m.cp b a).events,Za .any 2 Z3 (m.cp b a).regions,Za .any 8 (Yf .any) (m.cp b a).verts,Za .any 8 (Yn .any) (m.cp b a).ways,Za .any 6 (Yo .any) (Zd m.p.withR),.nils,.nils,.nils,.nils,.nils,.nilp,.nilp])]) ?_ ?_) ?_;simp -implicitDefEqProofs only[go_sem,seval];exact⟨Zb,Zb,Zb⟩;simp only[Zt,Zv,and_true]
 exact Gt (cs:=[.str m.name,Za .new 2 Z3 m.vars.cl,Za .new 1 V.str m.events.cl,Za .new 2 Z3 (Oc m.regions.isNil m.regions.l),Za .new 8 Kl (Oc m.verts.isNil b),Za .new 8 Ik (Oc m.ways.isNil a),Za .new 6 (Yo .new) (Zd m.p.withR),.nils,.nils,.nils,.nils,.nils,.nilp,.nilp]) rfl zp
  ⟨Zb,Fz.any (Uq ..),Fz.any (Xy ..),Fz.any (Uq ..),Fz.any (Zvba ..),Fz.any (Zuba ..),Fz.any (Y8 _ _ 6 (Tw _ _) _),Zb,Zb,Zb,Zb,Zb,Zb,Zb,trivial⟩
 refine Zf Zi ?_;refine Zc I ?_ (s:=Cl G Q c.ent .old m P ac hr);refine Zf Zi ?_;refine Zc I ?_ (s:=Zjz G Q c.ent .old m P ac hr);refine Zf Zi ?_;intro U;refine AW.weak (Zl (λ_=>false) (l:=[(1,.view .new (Zw c .old m)),(5,Za .new 6 (Yo .new) (Zd m.p.withR)),(2,.ptr 37 d 0),(7,.msl 56 U 0 1 1)]) (m:=[(37,.cells .any d 0 [.str m.name,Za .any 2 Z3 (m.cp b a).vars,Za .any 1 V.str (m.cp b a).events,Za .any 2 Z3 (m.cp b a).regions,Za .any 8 (Yf .any) (m.cp b a).verts,Za .any 8 (Yn .any) (m.cp b a).ways,Za .any 6 (Yo .any) (Zd m.p.withR),.nils,.nils,.nils,.nils,.nils,Uj .any .any .any m.ix1,Rb .any .any .any .any .any m.ix2 (Zd m.kinds) m.p.regions.length]),(56,.cells .new U 0 [.str R9])]) ?_ ?_) ?_;simp -implicitDefEqProofs only[go_sem,seval,Zi];exact⟨Zb,Zb,Zb,Zb⟩;simp only[Zt,Zv,and_true]
 exact⟨Gt (cs:=[.str m.name,Za .any 2 Z3 (m.cp b a).vars,Za .any 1 V.str (m.cp b a).events,Za .any 2 Z3 (m.cp b a).regions,Za .any 8 (Yf .any) (m.cp b a).verts,Za .any 8 (Yn .any) (m.cp b a).ways,Za .any 6 (Yo .any) (Zd m.p.withR),.nils,.nils,.nils,.nils,.nils,Uj .new .new .new ((Ue m.p).rc Col.bk),Rb .new .new .new .new .new (((Ue m.p).rc Col.bk).rc Col.bk) (Zd m.kinds) m.p.regions.length]) rfl zp
  ⟨Zb,Zb,Zb,Zb,Zb,Zb,Zb,Zb,Zb,Zb,Zb,Zb,Fz.any (Q2 ..),Fz.any (Oe ..),trivial⟩,FzO.keep rfl zp⟩
 refine Zf Zi ?_;have hnv:=P.nv
 refine Yc m.vars.l.length (λk (g:Nat)=>st [(1,.view .new (Zw c .old m)),(5,Za .new 6 (Yo .new) (Zd m.p.withR)),(2,.ptr 37 d 0),(7,.msl 56 g 0 (R9::(m.p.vn.take k)).length 1),(58,Za c 2 Z3 m.vars),(59,.int .i64 m.vars.l.length),(60,.int .i64 k)] [(37,.cells .any d 0 [.str m.name,Za .any 2 Z3 (m.cp b a).vars,Za .any 1 V.str (m.cp b a).events,Za .any 2 Z3 (m.cp b a).regions,Za .any 8 (Yf .any) (m.cp b a).verts,Za .any 8 (Yn .any) (m.cp b a).ways,Za .any 6 (Yo .any) (Zd m.p.withR),.nils,.nils,.nils,.nils,.nils,Uj .any .any .any m.ix1,Rb .any .any .any .any .any m.ix2 (Zd m.kinds) m.p.regions.length]),(56,.cells .new g 0 (flat ((R9::(m.p.vn.take k)).map V.str)))])
  (λ_ _=>True) 0 U (Nat.zero_le _) trivial (Weak.st (zq @Zi) zp) ?_
 intro k g hk _ L1 A;have hvl:m.p.vn.length=m.vars.l.length:=List.length_map ..
 by_cases n:k<m.vars.l.length
 have t:decide ((k:Int)<(m.vars.l.length:Int))=true:=zT;have H:=List.getElem?_eq_getElem n
 have htk:m.p.vn.take (k+1)=m.p.vn.take k++[(m.vars.l[k]).1]:=by rw[List.take_succ_eq_append_getElem zo];simp[PM.vn,MdM.p]
 have hlk:(m.p.vn.take k).length=k:=by rw[List.length_take];omega
 generalize m.vars.l[k]=x at H htk;rw[htk,<- List.cons_append]at A;generalize m.p.vn.take k=D at hlk A;have M:IntKind.i64.wrap ((k:Int)+1)=(k:Int)+1:=Wy zo zo;refine Xm t ?_;refine Zf (zi t (zi H (zi n (zi Wb Yh)))) ?_;intro g9;refine Zf Wb ?_;intro g67;have hfl:(flat (V.str R9::D.map V.str)).length=D.length+1:=(Xu (f:=V.str) (m:=1) (λ_=>rfl) (R9::D)).trans (Nat.mul_one _);refine⟨Z4 zo zo,by rw[hfl];omega,Nat.zero_le _,λL=>?_⟩;refine Zf M ?_
 have hcl:List.take ((D.length+1)*1) (flat (V.str R9::D.map V.str))++[V.str x.1]=flat ((R9::D++[x.1]).map V.str):=by
  rw[List.take_of_length_le (by rw[hfl];omega),List.map_append,U6];rfl
 exact A _ ⟨n,L,trivial,Weak.st (by simp -implicitDefEqProofs only[go_sem,seval,Zi,List.length_append,M];try rfl) (zq hcl)⟩;have C:k=m.vars.l.length:=zo;have t:decide ((m.vars.l.length:Int)<(m.vars.l.length:Int))=false:=zF;rw[C,<- hvl,List.take_length,hvl]
 have hnl:(Sl.mk false (R9::m.p.vn)).l.length<1000000:=by show(R9::m.p.vn).length<_;rw[List.length_cons];omega
 refine AW.weak (Zl (λo=>o==56) (l:=[(1,.view .new (Zw c .old m)),(5,Za .new 6 (Yo .new) (Zd m.p.withR)),(2,.ptr 37 d 0),(7,Za .new 1 V.str (.mk false (R9::m.p.vn))),(59,.int .i64 m.vars.l.length),(60,.int .i64 m.vars.l.length)]) (m:=[(37,.cells .any d 0 [.str m.name,Za .any 2 Z3 (m.cp b a).vars,Za .any 1 V.str (m.cp b a).events,Za .any 2 Z3 (m.cp b a).regions,Za .any 8 (Yf .any) (m.cp b a).verts,Za .any 8 (Yn .any) (m.cp b a).ways,Za .any 6 (Yo .any) (Zd m.p.withR),.nils,.nils,.nils,.nils,.nils,Uj .any .any .any m.ix1,Rb .any .any .any .any .any m.ix2 (Zd m.kinds) m.p.regions.length])]) ?_ ?_) ?_;simp -implicitDefEqProofs only[go_sem,seval];exact⟨Zb,Zb,Zb,Xa (f:=V.str) (l:=R9::m.p.vn) (g:=g) (fz:=0) (c:=.new) rfl zp (λ_=>rfl),Zb⟩;simp only[Zt,Zv,and_true];exact FzO.keep rfl zp;generalize Sl.mk false (R9::m.p.vn)=B at hnl;refine Zf (zi t Zi) ?_;clear A L1 t C n hk g k;have hnw:=P.nw
 refine Yc m.ways.l.length (λk (z:Nat×Nat)=>st [(1,.view .new (Zw c .old m)),(5,Za .new 6 (Yo .new) (Zd m.p.withR)),(2,.ptr 37 d 0),(7,Za .new 1 V.str B),(71,Za c 8 (Yn .old) m.ways),(72,.int .i64 m.ways.l.length),(73,.int .i64 k)] [(37,.cells .any d 0 [.str m.name,Za .any 2 Z3 (m.cp b a).vars,Za .any 1 V.str (m.cp b a).events,Za .any 2 Z3 (m.cp b a).regions,Za .any 8 (Yf .any) (m.cp b a).verts,Za .any 8 (Yn .any) (m.cp b a).ways,Za .any 6 (Yo .any) (Zd m.p.withR),grown 88 z.1 2 ((F6 m B.l).take k),grown 97 z.2 1 ((F7 m).take k),.nils,.nils,.nils,Uj .any .any .any m.ix1,Rb .any .any .any .any .any m.ix2 (Zd m.kinds) m.p.regions.length]),(88,Yb z.1 (Um .new) ((F6 m B.l).take k)),(97,Yb z.2 (Xd .new) ((F7 m).take k))])
  (λ_ _=>True) 0 (0,0) (Nat.zero_le _) trivial (Weak.st (zq @Zi) (by simp -implicitDefEqProofs only[go_sem,seval,Vm,Wd];try rfl)) ?_
 rintro k ⟨K,J⟩ hk _ L1 A;have mt:=ht ok.rt;have gl:(F6 m B.l).length=m.ways.l.length:=List.length_map ..;have el:(F7 m).length=m.ways.l.length:=List.length_map ..
 by_cases n:k<m.ways.l.length
 .have t:decide ((k:Int)<(m.ways.l.length:Int))=true:=zT
  have H:=List.getElem?_eq_getElem n
  have tg:(F6 m B.l).take (k+1)=(F6 m B.l).take k++[gdP (m.ways.l[k]).guard B.l]:=by rw[List.take_succ_eq_append_getElem zo];simp[F6]
  have te:(F7 m).take (k+1)=(F7 m).take k++[(Tu (m.ways.l[k]).effect).1]:=by rw[List.take_succ_eq_append_getElem zo];simp[F7]
  have lg:((F6 m B.l).take k).length=k:=by rw[List.length_take];omega
  have le:((F7 m).take k).length=k:=by rw[List.length_take];omega
  have b1:=mt.ef _ (List.getElem_mem n);have b2:=mt.gu _ (List.getElem_mem n);generalize m.ways.l[k]=x at H tg te b1 b2;rw[tg,te]at A;generalize(F6 m B.l).take k=W at lg A;generalize(F7 m).take k=Y at le A;have M:IntKind.i64.wrap ((k:Int)+1)=(k:Int)+1:=Wy zo zo;refine Xm t ?_;refine Zf (zi t (zi H (zi n (zi Yg Yh)))) ?_;intro g11;refine AW.weak (Zl (λo=>o==11) (l:=[(1,.view .new (Zw c .old m)),(5,Za .new 6 (Yo .new) (Zd m.p.withR)),(2,.ptr 37 d 0),(7,Za .new 1 V.str B),(71,Za c 8 (Yn .old) m.ways),(72,.int .i64 m.ways.l.length),(73,.int .i64 k),(11,.view .new (Yn .old x))]) (m:=[(37,.cells .any d 0 [.str m.name,Za .any 2 Z3 (m.cp b a).vars,Za .any 1 V.str (m.cp b a).events,Za .any 2 Z3 (m.cp b a).regions,Za .any 8 (Yf .any) (m.cp b a).verts,Za .any 8 (Yn .any) (m.cp b a).ways,Za .any 6 (Yo .any) (Zd m.p.withR),grown 88 K 2 W,grown 97 J 1 Y,.nils,.nils,.nils,Uj .any .any .any m.ix1,Rb .any .any .any .any .any m.ix2 (Zd m.kinds) m.p.regions.length]),(88,Yb K (Um .new) W),(97,Yb J (Xd .new) Y)]) ?_ ?_) ?_;simp -implicitDefEqProofs only[go_sem,seval,Zi];exact⟨Zb,Zb,Zb,Zb,Zb,Zb,Zb,Fz.ptr (v:=Yn .old x) (c:=.new) (fz:=0) zp zp⟩;simp only[Zt,Zv,and_true];exact⟨FzO.keep rfl zp,FzO.keep rfl zp,FzO.keep rfl zp⟩
  repeat refine Z6 ?_
  refine Jc (.fork 11 15 (.ord [0,1,2,3,4,5,6,7,8,12,13,14,16,17,9,10,11,15,18,19,20,21,22,23,24,25,26]) (.ord [0,1,2,3,4,5,6,7,8,12,13,14,15,16,17,9,10,11,18,19,20,21,22,23,24,25,26])) []
   ⟨λi=>if i=9 then Um .new (gdP x.guard B.l)else Xd .new (Tu x.effect).1,λi=>if i=7 then .lend else if i=17 then .lend else .pure⟩ zk I zk zk ?_
  refine⟨?_,?_⟩
  all_goals
   refine Xr (zi @Yg (zi @Ew @Nv)) ?_;refine⟨⟨zk,?_⟩,λg87=>?_⟩;simp -implicitDefEqProofs only[go_sem,seval]
   exact(Zkd G Q _ x.guard B zo hnl).mono λv _ e=>by rw[e,Zui];rfl
   refine Ys (f:=Um .new) (l:=W) (l2:=[gdP x.guard B.l]) (g:=K) (Zay _) rfl rfl rfl zp (Z4 zo zO) λg1=>?_;refine Xr (zi @Yg (zi @Ew @Nv)) ?_;refine⟨⟨zk,?_⟩,λg96=>?_⟩;simp -implicitDefEqProofs only[go_sem,seval]
   exact(Lf G Q x.effect zo).mono λv _ e=>by rw[e,Og];rfl
   refine Ys (f:=Xd .new) (l:=Y) (l2:=[(Tu x.effect).1]) (g:=J) (Ka _) rfl rfl rfl zp (Z4 zo zO) λL=>?_;refine Xr (zi @Yg (zi @Ew @Nv)) ?_;refine Zf M ?_;exact A _ ⟨n,(g1,L),trivial,Weak.st (zq @Zi) zp⟩
 have C:k=m.ways.l.length:=zo;have t:decide ((m.ways.l.length:Int)<(m.ways.l.length:Int))=false:=zF;rw[C,List.take_of_length_le zo,List.take_of_length_le zo];refine AW.weak (Zl (λo=>o==88||o==97) (l:=[(1,.view .new (Zw c .old m)),(5,Za .new 6 (Yo .new) (Zd m.p.withR)),(2,.ptr 37 d 0),(72,.int .i64 m.ways.l.length),(73,.int .i64 m.ways.l.length)]) (m:=[(37,.cells .any d 0 [.str m.name,Za .any 2 Z3 (m.cp b a).vars,Za .any 1 V.str (m.cp b a).events,Za .any 2 Z3 (m.cp b a).regions,Za .any 8 (Yf .any) (m.cp b a).verts,Za .any 8 (Yn .any) (m.cp b a).ways,Za .any 6 (Yo .any) (Zd m.p.withR),Za .new 2 (Um .new) (Zd (F6 m B.l)),Za .new 1 (Xd .new) (Zd (F7 m)),.nils,.nils,.nils,Uj .any .any .any m.ix1,Rb .any .any .any .any .any m.ix2 (Zd m.kinds) m.p.regions.length])]) ?_ ?_) ?_;simp -implicitDefEqProofs only[go_sem,seval];exact⟨Zb,Zb,Zb,Zb⟩;simp only[Zt,Zv,and_true]
 exact FzO.of (cs:=[.str m.name,Za .any 2 Z3 (m.cp b a).vars,Za .any 1 V.str (m.cp b a).events,Za .any 2 Z3 (m.cp b a).regions,Za .any 8 (Yf .any) (m.cp b a).verts,Za .any 8 (Yn .any) (m.cp b a).ways,Za .any 6 (Yo .any) (Zd m.p.withR),grown 88 K 2 (F6 m B.l),grown 97 J 1 (F7 m),.nils,.nils,.nils,Uj .any .any .any m.ix1,Rb .any .any .any .any .any m.ix2 (Zd m.kinds) m.p.regions.length]) rfl zp
  ⟨Zb,Zb,Zb,Zb,Zb,Zb,Zb,Y5 rfl zp (Zay _),Y5 rfl zp (Ka _),Zb,Zb,Zb,Zb,Zb,trivial⟩
 refine Zf (zi t Zi) ?_;clear A L1 t C n hk k K J
 refine Yc m.verts.l.length (λk (z:Nat×Nat)=>st [(1,.view .new (Zw c .old m)),(5,Za .new 6 (Yo .new) (Zd m.p.withR)),(2,.ptr 37 d 0),(104,Za c 8 (Yf .old) m.verts),(105,.int .i64 m.verts.l.length),(106,.int .i64 k)] [(37,.cells .any d 0 [.str m.name,Za .any 2 Z3 (m.cp b a).vars,Za .any 1 V.str (m.cp b a).events,Za .any 2 Z3 (m.cp b a).regions,Za .any 8 (Yf .any) (m.cp b a).verts,Za .any 8 (Yn .any) (m.cp b a).ways,Za .any 6 (Yo .any) (Zd m.p.withR),Za .new 2 (Um .new) (Zd (F6 m B.l)),Za .new 1 (Xd .new) (Zd (F7 m)),grown 120 z.1 1 ((Au m).take k),grown 129 z.2 1 ((exL m).take k),.nils,Uj .any .any .any m.ix1,Rb .any .any .any .any .any m.ix2 (Zd m.kinds) m.p.regions.length]),(120,Yb z.1 (Xd .new) ((Au m).take k)),(129,Yb z.2 (Xd .new) ((exL m).take k))])
  (λ_ _=>True) 0 (0,0) (Nat.zero_le _) trivial (Weak.st (zq @Zi) (by simp -implicitDefEqProofs only[go_sem,seval,Vm,Wd];try rfl)) ?_
 rintro k ⟨K,J⟩ hk _ L1 A;have gl:(Au m).length=m.verts.l.length:=List.length_map ..;have el:(exL m).length=m.verts.l.length:=List.length_map ..
 by_cases n:k<m.verts.l.length
 .have t:decide ((k:Int)<(m.verts.l.length:Int))=true:=zT
  have H:=List.getElem?_eq_getElem n
  have tg:(Au m).take (k+1)=(Au m).take k++[(Tu (m.verts.l[k]).entry).1]:=by rw[List.take_succ_eq_append_getElem zo];simp[Au]
  have te:(exL m).take (k+1)=(exL m).take k++[(Tu (m.verts.l[k]).exit).1]:=by rw[List.take_succ_eq_append_getElem zo];simp[exL]
  have lg:((Au m).take k).length=k:=by rw[List.length_take];omega
  have le:((exL m).take k).length=k:=by rw[List.length_take];omega
  have b1:=mt.en _ (List.getElem_mem n);generalize m.verts.l[k]=x at H tg te b1;rw[tg,te]at A;generalize(Au m).take k=W at lg A;generalize(exL m).take k=Y at le A;have M:IntKind.i64.wrap ((k:Int)+1)=(k:Int)+1:=Wy zo zo;refine Xm t ?_;refine Zf (zi t (zi H (zi n (zi Zz Yh)))) ?_;intro g13;refine AW.weak (Zl (λo=>o==13) (l:=[(1,.view .new (Zw c .old m)),(5,Za .new 6 (Yo .new) (Zd m.p.withR)),(2,.ptr 37 d 0),(104,Za c 8 (Yf .old) m.verts),(105,.int .i64 m.verts.l.length),(106,.int .i64 k),(13,.view .new (Yf .old x))]) (m:=[(37,.cells .any d 0 [.str m.name,Za .any 2 Z3 (m.cp b a).vars,Za .any 1 V.str (m.cp b a).events,Za .any 2 Z3 (m.cp b a).regions,Za .any 8 (Yf .any) (m.cp b a).verts,Za .any 8 (Yn .any) (m.cp b a).ways,Za .any 6 (Yo .any) (Zd m.p.withR),Za .new 2 (Um .new) (Zd (F6 m B.l)),Za .new 1 (Xd .new) (Zd (F7 m)),grown 120 K 1 W,grown 129 J 1 Y,.nils,Uj .any .any .any m.ix1,Rb .any .any .any .any .any m.ix2 (Zd m.kinds) m.p.regions.length]),(120,Yb K (Xd .new) W),(129,Yb J (Xd .new) Y)]) ?_ ?_) ?_;simp -implicitDefEqProofs only[go_sem,seval,Zi];exact⟨Zb,Zb,Zb,Zb,Zb,Zb,Fz.ptr (v:=Yf .old x) (c:=.new) (fz:=0) zp zp⟩;simp only[Zt,Zv,and_true];exact⟨FzO.keep rfl zp,FzO.keep rfl zp,FzO.keep rfl zp⟩
  repeat refine Z6 ?_
  refine Jc (.fork 10 14 (.ord [0,1,2,3,4,5,6,7,11,12,13,15,16,8,9,10,14,17,18,19,20,21,22,23,24,25]) (.ord [0,1,2,3,4,5,6,7,11,12,13,14,15,16,8,9,10,17,18,19,20,21,22,23,24,25])) []
   ⟨λi=>if i=8 then Xd .new (Tu x.entry).1 else Xd .new (Tu x.exit).1,λi=>if i=7 then .lend else if i=16 then .lend else .pure⟩ zk I zk zk ?_
  refine⟨?_,?_⟩
  all_goals
   refine Xr (zi @Zz @Nv) ?_;refine⟨⟨zk,?_⟩,λg87=>?_⟩;simp -implicitDefEqProofs only[go_sem,seval]
   exact(Lf G Q x.entry zo).mono λv _ e=>by rw[e,Og];rfl
   refine Ys (f:=Xd .new) (l:=W) (l2:=[(Tu x.entry).1]) (g:=K) (Ka _) rfl rfl rfl zp (Z4 zo zO) λg1=>?_;refine Xr (zi @Zz @Nv) ?_;refine⟨⟨zk,?_⟩,λg96=>?_⟩;simp -implicitDefEqProofs only[go_sem,seval]
   exact(Lf G Q x.exit zo).mono λv _ e=>by rw[e,Og];rfl
   refine Ys (f:=Xd .new) (l:=Y) (l2:=[(Tu x.exit).1]) (g:=J) (Ka _) rfl rfl rfl zp (Z4 zo zO) λL=>?_;refine Xr (zi @Zz @Nv) ?_;refine Zf M ?_;exact A _ ⟨n,(g1,L),trivial,Weak.st (zq @Zi) zp⟩
 have C:k=m.verts.l.length:=zo;have t:decide ((m.verts.l.length:Int)<(m.verts.l.length:Int))=false:=zF;rw[C,List.take_of_length_le zo,List.take_of_length_le zo];refine AW.weak (Zl (λo=>o==120||o==129) (l:=[(1,.view .new (Zw c .old m)),(5,Za .new 6 (Yo .new) (Zd m.p.withR)),(2,.ptr 37 d 0),(105,.int .i64 m.verts.l.length),(106,.int .i64 m.verts.l.length)]) (m:=[(37,.cells .any d 0 [.str m.name,Za .any 2 Z3 (m.cp b a).vars,Za .any 1 V.str (m.cp b a).events,Za .any 2 Z3 (m.cp b a).regions,Za .any 8 (Yf .any) (m.cp b a).verts,Za .any 8 (Yn .any) (m.cp b a).ways,Za .any 6 (Yo .any) (Zd m.p.withR),Za .new 2 (Um .new) (Zd (F6 m B.l)),Za .new 1 (Xd .new) (Zd (F7 m)),Za .new 1 (Xd .new) (Zd (Au m)),Za .new 1 (Xd .new) (Zd (exL m)),.nils,Uj .any .any .any m.ix1,Rb .any .any .any .any .any m.ix2 (Zd m.kinds) m.p.regions.length])]) ?_ ?_) ?_;simp -implicitDefEqProofs only[go_sem,seval];exact⟨Zb,Zb,Zb,Zb⟩;simp only[Zt,Zv,and_true]
 exact FzO.of (cs:=[.str m.name,Za .any 2 Z3 (m.cp b a).vars,Za .any 1 V.str (m.cp b a).events,Za .any 2 Z3 (m.cp b a).regions,Za .any 8 (Yf .any) (m.cp b a).verts,Za .any 8 (Yn .any) (m.cp b a).ways,Za .any 6 (Yo .any) (Zd m.p.withR),Za .new 2 (Um .new) (Zd (F6 m B.l)),Za .new 1 (Xd .new) (Zd (F7 m)),grown 120 K 1 (Au m),grown 129 J 1 (exL m),.nils,Uj .any .any .any m.ix1,Rb .any .any .any .any .any m.ix2 (Zd m.kinds) m.p.regions.length]) rfl zp
  ⟨Zb,Zb,Zb,Zb,Zb,Zb,Zb,Zb,Zb,Y5 rfl zp (Ka _),Y5 rfl zp (Ka _),Zb,Zb,Zb,trivial⟩
 refine Zf t ?_;intro g14;clear A L1 t C n hk k K J;refine AW.weak (Zl (λo=>o==14) (l:=[(1,.view .new (Zw c .old m)),(5,Za .new 6 (Yo .new) (Zd m.p.withR)),(2,.ptr 37 d 0),(14,.view .new (.agg [.nilf,.func (.func 32) [] [],.func (.func 33) [] [],.func (.func 34) [] []]))]) (m:=[(37,.cells .any d 0 [.str m.name,Za .any 2 Z3 (m.cp b a).vars,Za .any 1 V.str (m.cp b a).events,Za .any 2 Z3 (m.cp b a).regions,Za .any 8 (Yf .any) (m.cp b a).verts,Za .any 8 (Yn .any) (m.cp b a).ways,Za .any 6 (Yo .any) (Zd m.p.withR),Za .any 2 (Um .any) (Zd (F6 m B.l)),Za .any 1 (Xd .any) (Zd (F7 m)),Za .any 1 (Xd .any) (Zd (Au m)),Za .any 1 (Xd .any) (Zd (exL m)),.nils,Uj .any .any .any m.ix1,Rb .any .any .any .any .any m.ix2 (Zd m.kinds) m.p.regions.length])]) ?_ ?_) ?_;simp -implicitDefEqProofs only[go_sem,seval];exact⟨Zb,Zb,Zb,Fz.ptr (v:=.agg [.nilf,.func (.func 32) [] [],.func (.func 33) [] [],.func (.func 34) [] []]) (c:=.new) (fz:=0) rfl zp⟩;simp only[Zt,Zv,and_true]
 exact FzO.of (cs:=[.str m.name,Za .any 2 Z3 (m.cp b a).vars,Za .any 1 V.str (m.cp b a).events,Za .any 2 Z3 (m.cp b a).regions,Za .any 8 (Yf .any) (m.cp b a).verts,Za .any 8 (Yn .any) (m.cp b a).ways,Za .any 6 (Yo .any) (Zd m.p.withR),Za .new 2 (Um .new) (Zd (F6 m B.l)),Za .new 1 (Xd .new) (Zd (F7 m)),Za .new 1 (Xd .new) (Zd (Au m)),Za .new 1 (Xd .new) (Zd (exL m)),.nils,Uj .any .any .any m.ix1,Rb .any .any .any .any .any m.ix2 (Zd m.kinds) m.p.regions.length]) rfl zp
  ⟨Zb,Zb,Zb,Zb,Zb,Zb,Zb,Fz.any (Y8 _ _ 2 (Zui _ _) _),Fz.any (Y8 _ _ 1 (Og _ _) _),Fz.any (Y8 _ _ 1 (Og _ _) _),Fz.any (Y8 _ _ 1 (Og _ _) _),Zb,Zb,Zb,trivial⟩
 refine Z ?_
 refine Yc m.p.withR.length (λk (g:Nat)=>st [(1,.view .new (Zw c .old m)),(5,Za .new 6 (Yo .new) (Zd m.p.withR)),(2,.ptr 37 d 0),(14,.view .new (.agg [.nilf,.func (.func 32) [] [],.func (.func 33) [] [],.func (.func 34) [] []])),(136,Za .new 6 (Yo .new) (Zd m.p.withR)),(137,.int .i64 m.p.withR.length),(138,.int .i64 k)] [(37,.cells .any d 0 [.str m.name,Za .any 2 Z3 (m.cp b a).vars,Za .any 1 V.str (m.cp b a).events,Za .any 2 Z3 (m.cp b a).regions,Za .any 8 (Yf .any) (m.cp b a).verts,Za .any 8 (Yn .any) (m.cp b a).ways,Za .any 6 (Yo .any) (Zd m.p.withR),Za .any 2 (Um .any) (Zd (F6 m B.l)),Za .any 1 (Xd .any) (Zd (F7 m)),Za .any 1 (Xd .any) (Zd (Au m)),Za .any 1 (Xd .any) (Zd (exL m)),grown 160 g 1 ((m.p.withR.map m.p.leafR).take k),Uj .any .any .any m.ix1,Rb .any .any .any .any .any m.ix2 (Zd m.kinds) m.p.regions.length]),(160,Yb g (Tt .new) ((m.p.withR.map m.p.leafR).take k))])
  (λ_ _=>True) 0 0 (Nat.zero_le _) trivial (Weak.st zp (by simp -implicitDefEqProofs only[go_sem,seval,Vm,Wd];try rfl)) ?_
 intro k g hk _ L1 A;have lf:(m.p.withR.map m.p.leafR).length=m.p.withR.length:=List.length_map ..;have hwl:=Qr m.p;have hle:=ok.le
 by_cases n:k<m.p.withR.length
 .have t:decide ((k:Int)<(m.p.withR.length:Int))=true:=zT
  have H:=List.getElem?_eq_getElem n
  have tl:(m.p.withR.map m.p.leafR).take (k+1)=(m.p.withR.map m.p.leafR).take k++[m.p.leafR m.p.withR[k]]:=by rw[List.take_succ_eq_append_getElem zo];simp
  have ll:((m.p.withR.map m.p.leafR).take k).length=k:=by rw[List.length_take];omega
  have S:=PM.withR_lv ok _ (List.getElem_mem n);obtain⟨s0,hs0,e0⟩:=List.mem_map.1 (List.getElem_mem n);have F:=PM.allL_ok ok.wfd s0 hs0;have hsn:=F.sn;have O:=F.first
  have hrl:(m.p.withR[k]).2.length<=600:=by
   rw[<- e0]
   show(m.p.reachL m.p.allL s0).length<=600
   rw[PM.reachL,List.length_map];have:=List.length_filter_le (fun(v:Nat)=>(m.p.reachQ m.p.allL s0).contains (v:Int)) (List.range m.p.vertices.length);rw[List.length_range]at this;have hnv:=m.nv;omega
  have es0:(m.p.withR[k]).1=s0:=by rw[<- e0]
  rw[<- es0]at hsn O;generalize m.p.withR[k]=q at H tl S hsn O hrl;rw[tl]at A;generalize(m.p.withR.map m.p.leafR).take k=LF at ll A;have M:IntKind.i64.wrap ((k:Int)+1)=(k:Int)+1:=Wy zo zo;obtain⟨j,y,ej,hj,N,ey⟩:=MdM.wyAt O.1 O.2
  obtain⟨v,r,hq⟩:∃ v r,q.1.sources=v::r:=by
   cases hh:q.1.sources with
   |nil=>exact absurd hh S.so
   |cons v r=>exact⟨v,r,rfl⟩
  have hkd:y.kind=1\/y.kind=2\/y.kind=3:=by
   have h1:=ok.rt.way j (by rw[m.nw];exact hj);rw[O8 N]at h1;simp only[PM.wayB,Bool.and_eq_true,decide_eq_true_eq]at h1;have h2:1<=y.kind:=h1.1.1.1.2;have h3:y.kind<=3:=h1.1.1.2;omega
  refine Xm t ?_;refine Zf (zi t (zi H (zi n (zi Xc Yh)))) ?_;intro g16;refine AW.weak (Zl (λo=>o==16) (l:=[(1,.view .new (Zw c .old m)),(5,Za .new 6 (Yo .new) (Zd m.p.withR)),(2,.ptr 37 d 0),(14,.view .new (.agg [.nilf,.func (.func 32) [] [],.func (.func 33) [] [],.func (.func 34) [] []])),(136,Za .new 6 (Yo .new) (Zd m.p.withR)),(137,.int .i64 m.p.withR.length),(138,.int .i64 k),(16,.view .new (Yo .new q))]) (m:=[(37,.cells .any d 0 [.str m.name,Za .any 2 Z3 (m.cp b a).vars,Za .any 1 V.str (m.cp b a).events,Za .any 2 Z3 (m.cp b a).regions,Za .any 8 (Yf .any) (m.cp b a).verts,Za .any 8 (Yn .any) (m.cp b a).ways,Za .any 6 (Yo .any) (Zd m.p.withR),Za .any 2 (Um .any) (Zd (F6 m B.l)),Za .any 1 (Xd .any) (Zd (F7 m)),Za .any 1 (Xd .any) (Zd (Au m)),Za .any 1 (Xd .any) (Zd (exL m)),grown 160 g 1 LF,Uj .any .any .any m.ix1,Rb .any .any .any .any .any m.ix2 (Zd m.kinds) m.p.regions.length]),(160,Yb g (Tt .new) LF)]) ?_ ?_) ?_;simp -implicitDefEqProofs only[go_sem,seval];exact⟨Zb,Zb,Zb,Zb,Zb,Zb,Zb,Fz.ptr (v:=Yo .new q) (c:=.new) (fz:=0) zp (by rw[Xc];exact zp)⟩;simp only[Zt,Zv,and_true];exact⟨FzO.keep rfl zp,FzO.keep rfl zp⟩
  repeat refine Z6 ?_
  refine Zy ⟨λ_=>Tt .new (m.p.leafR q),λi=>if i=4 then .pure else .lend⟩ zk I zk zk ?_
  have ek:(m.p.wy q.1.first).kind=y.kind:=by rw[ey];rfl
  have hnw2:=m.nw;have hnr:m.p.regions.length<=600:=P.nr
  have hh:q.1.sources.headD 0=v:=by rw[hq];rfl
  rcases hkd with h|h|h
  have e1:m.p.leafR q=[m.p.homeL v (q.1.sources++q.2)]:=by rw[PM.leafR,ek,h,if_pos rfl,hh]
  have e5:Yo .new q=.agg [Za .new 1 (V.int .i64) (Zd q.1.sources),.int .i64 (j:Int),Za .new 1 (V.int .i64) (Zd q.1.guards),Za .new 1 (V.int .i64) (Zd q.1.effects),X6 .new q.1.ends,Za .new 1 (V.int .i64) (Zd q.2)]:=by rw[Xc,ej]
  simp -implicitDefEqProofs only[go_sem,seval,Xc,Zi,Yg,ej,N,hj,h,Int.ofNat_lt,Il];refine⟨?_,λR=>?_⟩;rw[<- e5,e1];exact BorC.inl 37 zk zp (Zbj G I d .new .any .any .any .any .any _ _ _ _ _ _ _ _ _ _ _ _ _ _ m.ix2 _ _ m.p ac m.ix2_p (λu u0 u1=>(ok.rt.toRt5.rgP u0 u1).1) q v r hq S.all zo zo rfl);refine Ys (f:=Tt .new) (l:=LF) (l2:=[m.p.leafR q]) (g:=g) (Ev _) rfl (by rw[List.map_cons,List.map_nil];show[_]=(Tt _ _).cells++[];rw[Zos];rfl) rfl zp (Z4 zo zO) λL=>?_;refine Zs ?_;refine Zf M ?_;exact A _ ⟨n,L,trivial,Weak.st (zq @Zi) zp⟩
  have e1:m.p.leafR q=m.p.regsL v:=by rw[PM.leafR,ek,h,if_neg zd,if_pos rfl,hh]
  have e5:Yo .new q=.agg [Za .new 1 (V.int .i64) (Zd q.1.sources),.int .i64 (j:Int),Za .new 1 (V.int .i64) (Zd q.1.guards),Za .new 1 (V.int .i64) (Zd q.1.effects),X6 .new q.1.ends,Za .new 1 (V.int .i64) (Zd q.2)]:=by rw[Xc,ej]
  simp -implicitDefEqProofs only[go_sem,seval,Xc,Zi,Yg,ej,N,hj,h,Int.ofNat_lt,Il];refine⟨?_,λR=>?_⟩;rw[<- e5,e1];exact BorC.inl 37 zk zp (Zcj G I d .any .any .any .any .new _ _ _ _ _ _ _ _ _ _ _ _ _ _ m.ix1 m.p m.ix1_o zo q v r hq rfl);refine Ys (f:=Tt .new) (l:=LF) (l2:=[m.p.leafR q]) (g:=g) (Ev _) rfl (by rw[List.map_cons,List.map_nil];show[_]=(Tt _ _).cells++[];rw[Zos];rfl) rfl zp (Z4 zo zO) λL=>?_;refine Zs ?_;refine Zf M ?_;exact A _ ⟨n,L,trivial,Weak.st (zq @Zi) zp⟩
  have e1:m.p.leafR q=[]:=by rw[PM.leafR,ek,h,if_neg zd,if_neg zd]
  have e5:Yo .new q=.agg [Za .new 1 (V.int .i64) (Zd q.1.sources),.int .i64 (j:Int),Za .new 1 (V.int .i64) (Zd q.1.guards),Za .new 1 (V.int .i64) (Zd q.1.effects),X6 .new q.1.ends,Za .new 1 (V.int .i64) (Zd q.2)]:=by rw[Xc,ej]
  simp -implicitDefEqProofs only[go_sem,seval,Xc,Zi,Yg,ej,N,hj,h,Int.ofNat_lt,Il];refine⟨?_,λR=>?_⟩;rw[<- e5,e1];exact BorC.inl 37 zk zp (Zwr G d _ _ _ _ _ _ _ _ _ _ _ _ _ _ .new q);refine Ys (f:=Tt .new) (l:=LF) (l2:=[m.p.leafR q]) (g:=g) (Ev _) rfl (by rw[List.map_cons,List.map_nil];show[_]=(Tt _ _).cells++[];rw[Zos];rfl) rfl zp (Z4 zo zO) λL=>?_;refine Zs ?_;refine Zf M ?_;exact A _ ⟨n,L,trivial,Weak.st (zq @Zi) zp⟩
 have C:k=m.p.withR.length:=zo;have t:decide ((m.p.withR.length:Int)<(m.p.withR.length:Int))=false:=zF;rw[C,List.take_of_length_le zo];refine AW.weak (Zl (λo=>o==160) (l:=[(1,.view .new (Zw c .old m)),(5,Za .new 6 (Yo .new) (Zd m.p.withR)),(2,.ptr 37 d 0),(137,.int .i64 m.p.withR.length),(138,.int .i64 m.p.withR.length)]) (m:=[(37,.cells .any d 0 [.str m.name,Za .any 2 Z3 (m.cp b a).vars,Za .any 1 V.str (m.cp b a).events,Za .any 2 Z3 (m.cp b a).regions,Za .any 8 (Yf .any) (m.cp b a).verts,Za .any 8 (Yn .any) (m.cp b a).ways,Za .any 6 (Yo .any) (Zd m.p.withR),Za .any 2 (Um .any) (Zd (F6 m B.l)),Za .any 1 (Xd .any) (Zd (F7 m)),Za .any 1 (Xd .any) (Zd (Au m)),Za .any 1 (Xd .any) (Zd (exL m)),Za .new 1 (Tt .new) (Zd (m.p.withR.map m.p.leafR)),Uj .any .any .any m.ix1,Rb .any .any .any .any .any m.ix2 (Zd m.kinds) m.p.regions.length])]) ?_ ?_) ?_;simp -implicitDefEqProofs only[go_sem,seval];exact⟨Zb,Zb,Zb,Zb⟩;simp only[Zt,Zv,and_true]
 exact FzO.of (cs:=[.str m.name,Za .any 2 Z3 (m.cp b a).vars,Za .any 1 V.str (m.cp b a).events,Za .any 2 Z3 (m.cp b a).regions,Za .any 8 (Yf .any) (m.cp b a).verts,Za .any 8 (Yn .any) (m.cp b a).ways,Za .any 6 (Yo .any) (Zd m.p.withR),Za .any 2 (Um .any) (Zd (F6 m B.l)),Za .any 1 (Xd .any) (Zd (F7 m)),Za .any 1 (Xd .any) (Zd (Au m)),Za .any 1 (Xd .any) (Zd (exL m)),grown 160 g 1 (m.p.withR.map m.p.leafR),Uj .any .any .any m.ix1,Rb .any .any .any .any .any m.ix2 (Zd m.kinds) m.p.regions.length]) rfl zp
  ⟨Zb,Zb,Zb,Zb,Zb,Zb,Zb,Zb,Zb,Zb,Zb,Y5 rfl zp (Ev _),Zb,Zb,trivial⟩
 refine AW.weak (Zl (λ_=>false) (l:=[(1,.view .new (Zw c .old m)),(5,Za .new 6 (Yo .new) (Zd m.p.withR)),(2,.ptr 37 d 0),(137,.int .i64 m.p.withR.length),(138,.int .i64 m.p.withR.length)]) (m:=[(37,.cells .any d 0 [.str m.name,Za .any 2 Z3 (m.cp b a).vars,Za .any 1 V.str (m.cp b a).events,Za .any 2 Z3 (m.cp b a).regions,Za .any 8 (Yf .any) (m.cp b a).verts,Za .any 8 (Yn .any) (m.cp b a).ways,Za .any 6 (Yo .any) (Zd m.p.withR),Za .any 2 (Um .any) (Zd (F6 m B.l)),Za .any 1 (Xd .any) (Zd (F7 m)),Za .any 1 (Xd .any) (Zd (Au m)),Za .any 1 (Xd .any) (Zd (exL m)),Za .any 1 (Tt .any) (Zd (m.p.withR.map m.p.leafR)),Uj .any .any .any m.ix1,Rb .any .any .any .any .any m.ix2 (Zd m.kinds) m.p.regions.length])]) ?_ ?_) ?_;simp -implicitDefEqProofs only[go_sem,seval];exact⟨Zb,Zb,Zb,Zb⟩;simp only[Zt,Zv,and_true]
 exact FzO.of (cs:=[.str m.name,Za .any 2 Z3 (m.cp b a).vars,Za .any 1 V.str (m.cp b a).events,Za .any 2 Z3 (m.cp b a).regions,Za .any 8 (Yf .any) (m.cp b a).verts,Za .any 8 (Yn .any) (m.cp b a).ways,Za .any 6 (Yo .any) (Zd m.p.withR),Za .any 2 (Um .any) (Zd (F6 m B.l)),Za .any 1 (Xd .any) (Zd (F7 m)),Za .any 1 (Xd .any) (Zd (Au m)),Za .any 1 (Xd .any) (Zd (exL m)),Za .new 1 (Tt .new) (Zd (m.p.withR.map m.p.leafR)),Uj .any .any .any m.ix1,Rb .any .any .any .any .any m.ix2 (Zd m.kinds) m.p.regions.length]) rfl zp
  ⟨Zb,Zb,Zb,Zb,Zb,Zb,Zb,Zb,Zb,Zb,Zb,Fz.any (Y8 _ _ 1 (Zti _ _) _),Zb,Zb,trivial⟩
 refine AW.weak (Zl (λo=>o==37) (l:=[(2,.view .any (.agg [.str m.name,Za .any 2 Z3 (m.cp b a).vars,Za .any 1 V.str (m.cp b a).events,Za .any 2 Z3 (m.cp b a).regions,Za .any 8 (Yf .any) (m.cp b a).verts,Za .any 8 (Yn .any) (m.cp b a).ways,Za .any 6 (Yo .any) (Zd m.p.withR),Za .any 2 (Um .any) (Zd (F6 m B.l)),Za .any 1 (Xd .any) (Zd (F7 m)),Za .any 1 (Xd .any) (Zd (Au m)),Za .any 1 (Xd .any) (Zd (exL m)),Za .any 1 (Tt .any) (Zd (m.p.withR.map m.p.leafR)),Uj .any .any .any m.ix1,Rb .any .any .any .any .any m.ix2 (Zd m.kinds) m.p.regions.length])),(137,.int .i64 m.p.withR.length),(138,.int .i64 m.p.withR.length)]) (m:=[]) ?_ trivial) ?_;simp -implicitDefEqProofs only[go_sem,seval];exact⟨Fz.ptr (v:=.agg [.str m.name,Za .any 2 Z3 (m.cp b a).vars,Za .any 1 V.str (m.cp b a).events,Za .any 2 Z3 (m.cp b a).regions,Za .any 8 (Yf .any) (m.cp b a).verts,Za .any 8 (Yn .any) (m.cp b a).ways,Za .any 6 (Yo .any) (Zd m.p.withR),Za .any 2 (Um .any) (Zd (F6 m B.l)),Za .any 1 (Xd .any) (Zd (F7 m)),Za .any 1 (Xd .any) (Zd (Au m)),Za .any 1 (Xd .any) (Zd (exL m)),Za .any 1 (Tt .any) (Zd (m.p.withR.map m.p.leafR)),Uj .any .any .any m.ix1,Rb .any .any .any .any .any m.ix2 (Zd m.kinds) m.p.regions.length]) (c:=.any) (fz:=0) rfl zp,Zb⟩;refine Zf t ?_;have ep:(m.cp b a).p=m.p:=Zi9 cv cw;refine .inr ⟨m.pg b a B.l,?_,ok,ep,rfl,rfl,?_,rfl⟩
 rw[Wn,show(m.pg b a B.l).m.p=m.p from ep];rfl
 constructor<;>(try rw[show(m.pg b a B.l).m.p=m.p from ep])
 exact ok.rt.toRt5;exact ac;exact m.ix1_p;exact⟨_,m.ix1_o⟩;exact m.ix2_p;exact⟨_,m.ix2_o⟩;exact Zn7 m;rw[m.nv];omega;have:m.p.regions.length<=600:=P.nr;omega
theorem Zyi(G:Nat->V)(i n:Int):Spec Tryz.prog G 15 [.int .i64 i,.int .i64 n] Zj (λv _=>v=.bool (decide (0<=i)&&decide (i<n))):=by
 refine Zo 0 12 [.tmp 4] Tryz.func15 λX=>?_
 by_cases a:0<=i
 have q:decide (i>=0)=true:=zT;rw[decide_eq_true a];exact Zq q;have q:decide (i>=0)=false:=zF;rw[decide_eq_false a];exact Zq q
theorem Zic(G:Nat->V)(B:Y6 G)(c d:Col)(m:MdM)(u:m.p.Rt5)(v:Int)(l:0<=v)(j:v<m.p.vertices.length):
  Spec Tryz.prog G 84 [Zw c d m,.int .i64 v] Zj (λw _=>w=.int .i64 (m.p.around v)):=by
 refine Zo 0 29 [.tmp 4] Tryz.func84 λX=>?_;have a:=u.pt l j;obtain⟨k,x,rfl,z,A,t⟩:=MdM.at l j;rw[PM.around];rw[t]at a⊢;simp only[Zi];have f:=zi A (zi z (zi Zz Yh));refine Z ?_;intro C
 by_cases i:0<=x.of
 have q:decide (x.of>=0)=true:=zT;refine Zf (zi f q) ?_
 rw[if_pos (show 0<=x.p.of from i)]<;>rfl
 have q:decide (x.of>=0)=false:=zF;obtain⟨_,o,n,_⟩:=a.resolve_left (λh=>i h.1);obtain⟨r,y,g,b,e,s⟩:=I3 o n;rw[if_neg (show ¬ 0<=x.p.of from i),s];have g:x.region=(r:Int):=g;refine Zf (zi f q) ?_;refine I7 (zi f (zi g (zi e (zi b Wb)))) B ?_;exact Zr
theorem Te(G:Nat->V)(c d:Col)(m:MdM)(v:Int)(f:0<=v)(e:v<m.p.vertices.length):
  Spec Tryz.prog G 46 [Zw c d m,.int .i64 v] Zj (λw _=>w=.bool true):=by
 refine Zo 0 15 [.tmp 4] Tryz.func46 λX=>?_;rw[m.nv]at e;have b:decide (v>=0)=true:=zT;have a:decide (v<(m.verts.l.length:Int))=true:=zT;refine Zf Zi ?_;intro g;exact Zq (zi b (zi a Zi))
theorem Zlh(G:Nat->V)(i:Y6 G)(c d:Col)(m:MdM)(v:Int)(e:0<=v)(b:v<m.p.vertices.length)(a:m.p.kd v=1):
  Spec Tryz.prog G 47 [Zw c d m,.int .i64 v] Zj (λw _=>w=.bool true):=by
 refine Zo 0 18 [.tmp 4] Tryz.func47 λX=>?_;refine Zf Zi ?_;intro k;refine Zf Zi ?_;refine Zc i ?_ (s:=Te G c.ent d.ent m v e b);obtain⟨n,x,rfl,g,h,j⟩:=MdM.at e b
 have f:x.kind=1:=by rw[PM.kd,j]at a;exact a
 have q:(x.kind==1)=true:=zu f;exact Zh (zi q (zi h (zi g (zi Zz (zi Zi Yh)))))
theorem Qk(G:Nat->V)(a:Y6 G)(c d:Col)(m:MdM)(f:m.p.Rt5)(v:Int)(e:0<=v)(b:v<m.p.vertices.length):
  Spec Tryz.prog G 48 [Zw c d m,.int .i64 v] Zj (λw _=>w=.int .i64 (m.p.around v)):=by
 refine Zo 0 13 [.tmp 4] Tryz.func48 λX=>?_;refine Zf Zi ?_;intro g;refine Zf Zi ?_;refine Zc a ?_ (s:=Te G c.ent d.ent m v e b);refine Zg Zi ?_;refine Zc a ?_ (s:=Zic G a c.ent d.ent m f v e b);exact Zr
theorem Jf(G:Nat->V)(z:Y6 G)(c d:Col)(m:MdM)(a:m.p.Acy)(v:Int)(t:0<=v)(r:v<m.p.vertices.length):
  Spec Tryz.prog G 45 [Zw c d m,.int .i64 v] Zj (λw _=>w=.int .i64 (m.p.rgO v)):=by
 refine Zo 0 37 [.tmp 4] Tryz.func45 λX=>?_;refine Zf Zi ?_;intro D;refine AW.weak (Zl (λo=>o==2) (l:=[(1,.int .i64 v),(2,.view .new (Zw c d m))]) (m:=[]) ?_ trivial) ?_;refine Zs ?_;exact⟨Zb,Fz.ptr (v:=Zw c d m) (c:=.new) (fz:=0) zp (by rw[Zi];exact zp)⟩;refine Zf Zi ?_;refine Zc z ?_ (s:=Te G c.ent d.ent m v t r);obtain⟨n,x,rfl,f,j,A⟩:=MdM.at t r;have e:=a.rng _ t r;rw[PM.rgO,A];rw[PM.around,A]at e
 by_cases u:0<=x.of
 have q:decide (x.of>=0)=true:=zT;have b:0<=x.p.of:=u;rw[if_pos b]at e⊢;obtain⟨k,y,B,g,i,C⟩:=MdM.at (m:=m) (v:=x.p.of) zo zo;have h:x.of=(k:Int):=B;rw[C];refine Zg (zi q (zi j (zi f (zi Zz (zi Zi Yh))))) ?_;refine I7 (zi j (zi f (zi h (zi i (zi g (zi Zz (zi Zi Yh))))))) z ?_;exact Zr;have q:decide (x.of>=0)=false:=zF;have b:¬0<=x.p.of:=u;rw[if_neg b];refine Zg (zi q (zi j (zi f (zi Zz (zi Zi Yh))))) ?_;rfl
theorem Zkh(G:Nat->V)(b:Y6 G)(c d:Col)(m:MdM)(n:m.p.Rt5)(a:m.p.Acy)(v s:Int)(k:0<=v)(j:v<m.p.vertices.length)(s0:0<=s)(r:s<m.p.vertices.length)(x:m.p.kd s=1):
  Spec Tryz.prog G 18 [Zw c d m,.int .i64 v,.int .i64 s] Zj (λw _=>w=.bool (m.p.inB v s)):=by
 refine Zo 0 29 [.tmp 6] Tryz.func18 λX=>?_;refine Zf Zi ?_;intro z;refine AW.weak (Zl (λo=>o==3) (l:=[(1,.int .i64 v),(2,.int .i64 s),(3,.view .new (Zw c d m))]) (m:=[]) ?_ trivial) ?_;refine Zs ?_;exact⟨Zb,Zb,Fz.ptr (v:=Zw c d m) (c:=.new) (fz:=0) zp (by rw[Zi];exact zp)⟩;refine Zf Zi ?_;refine Zc b ?_ (s:=Te G c.ent d.ent m v k j);refine Zg Zi ?_;refine Zc b ?_ (s:=Zlh G b c.ent d.ent m s s0 r x);refine Zg Zi ?_;refine Zc b ?_ (s:=Qk G b c.ent d.ent m n v k j);refine Z ?_;refine Vs (fun(p:Int)=>st [(2,.int .i64 s),(3,.view .new (Zw c d m)),(7,.int .i64 p)] []) (λp=>(0<=p->p<m.p.vertices.length/\m.p.inB v s=(p==s||m.p.inB p s))/\(p<0->m.p.inB v s=false)) (λp=>if 0<=p then(m.p.ups p).length+1 else 0) (m.p.around v) ⟨λh=>⟨by have:=a.rng v k j;omega,a.inB_up k j h⟩,λh=>PM.inB_nil h⟩ (Weak.st zp zp) ?_;rintro p ⟨t,u⟩ L y
 by_cases f:0<=p
 obtain⟨i,e⟩:=t f;have g:decide (p>=0)=true:=zT;cases q:(p==s);rw[q,Bool.false_or]at e;refine Zf (zi g (zi q Zi)) ?_;refine Zc b ?_ (s:=Qk G b c.ent d.ent m n p f i);refine Zs ?_;refine y _ ⟨m.p.around p,?_,⟨λh=>⟨by have:=a.rng p f i;omega,by rw[e];exact a.inB_up f i h⟩,λh=>by rw[e];exact PM.inB_nil h⟩,Weak.st zp zp⟩;rw[if_pos f]
 split
 rename_i h;rw[a.ups_cons f i h,List.length_cons];omega;omega;rw[e,q];exact Zq (zi g q);have g:decide (p>=0)=false:=zF;rw[u zo];exact Zq g
def W8(c d:Col)(m:MdM):V:=.agg [.str m.name,Za c 2 Z3 m.vars,Za c 1 V.str m.events,Za c 2 Z3 m.regions,Za c 8 (Yf d) m.verts,Za c 8 (Yn d) m.ways,.str m.name,Za c 2 Z3 m.vars,Za c 1 V.str m.events,Za c 2 Z3 m.regions,Za c 8 (Yf d) m.verts,Za c 8 (Yn d) m.ways]
theorem Ye(c d:Col)(m:MdM):W8 c d m=.agg [.str m.name,Za c 2 Z3 m.vars,Za c 1 V.str m.events,Za c 2 Z3 m.regions,Za c 8 (Yf d) m.verts,Za c 8 (Yn d) m.ways,.str m.name,Za c 2 Z3 m.vars,Za c 1 V.str m.events,Za c 2 Z3 m.regions,Za c 8 (Yf d) m.verts,Za c 8 (Yn d) m.ways]:=rfl
@[go_sem] theorem Rw(g:Col->Col)(c d:Col)(m:MdM):(W8 c d m).recol g=W8 (g c) (g d) m:=by simp only[Ye,Xl,List.map_cons,List.map_nil,Vf,Xy,Uq,Qt,Qu]
theorem Zt4(G:Nat->V)(c d:Col)(m:MdM):Spec Tryz.prog G 8 [Zw c d m] Zj (λw _=>w=W8 c d m):=by
 refine Zo 0 7 [.cell 2 48] Tryz.func8 λX=>?_;refine Zf Zi ?_;intro b a;refine Zf Zi ?_;rfl
def PM.vB(m:PM)(v:Int):Bool:=(decide (0<=v)&&decide (v<m.vertices.length))&&(m.kd v==1||m.kd v==2)
theorem Je(G:Nat->V)(c d:Col)(m:MdM)(v:Int):Spec Tryz.prog G 44 [W8 c d m,.int .i64 v] Zj (λw _=>w=.bool (m.p.vB v)):=by
 refine Zo 0 35 [.tmp 4] Tryz.func44 λX=>?_;refine Zf Ye ?_;intro q;unfold PM.vB
 by_cases k:0<=v
 rotate_left;have a:decide (v>=0)=false:=zF;have f:decide (0<=v)=false:=zF;rw[f];exact Zq (zi a Ye);have a:decide (v>=0)=true:=zT;have f:decide (0<=v)=true:=zT;rw[f]
 by_cases g:v<m.p.vertices.length
 rotate_left
 have b:decide (v<(m.verts.l.length:Int))=false:=by rw[m.nv]at g;exact zF
 have e:decide (v<m.p.vertices.length)=false:=zF;rw[e];exact Zq (zi a (zi b Ye));obtain⟨n,x,rfl,h,j,o⟩:=MdM.at k g;have b:decide ((n:Int)<(m.verts.l.length:Int))=true:=zT;have e:decide ((n:Int)<m.p.vertices.length)=true:=zT;rw[e,PM.kd,o]
 show AW _ _ _ (T3 _ _ λw _=>w=.bool (true&&true&&(x.kind==1||x.kind==2))) _
 cases i:x.kind==1<;>exact Zq (zi a (zi b (zi i (zi j (zi h (zi Zz (zi Ye Yh)))))))
theorem PM.okR_v(m:PM){l:List Int}{r:Nat}{v:Int}(h:l[r]?=some v):m.okR l r=(v == -1||m.vB v&&m.rgO v==(r:Int)):=m.okR_at h
theorem Zg9{m:PM}{v:Int}(h:m.vB v=true):0<=v/\v<m.vertices.length:=by
 simp only[PM.vB,Bool.and_eq_true,decide_eq_true_eq]at h;exact h.1
theorem Zba(G:Nat->V)(K:Y6 G)(c d c1:Col)(m:MdM)(a:m.p.Acy)(l:Sl Int)(O:l.l.length<1000000):Spec Tryz.prog G 35 [W8 c d m,Za c1 1 (V.int .i64) l] Zj (λw _=>w=.bool (m.p.rowB l.l)):=by
 refine Zo 0 44 [.tmp 4] Tryz.func35 λX=>?_;refine Zf Ye ?_;intro P;refine AW.weak (Zl (λo=>o==2) (l:=[(1,Za c1 1 (V.int .i64) l),(2,.view .new (W8 c d m))]) (m:=[]) ?_ trivial) ?_;simp -implicitDefEqProofs only[go_sem,seval];exact⟨Zb,Fz.ptr (v:=W8 c d m) (c:=.new) (fz:=0) zp (by rw[Ye];exact zp)⟩;rw[O7];have M:m.p.regions.length=m.regions.l.length:=rfl
 cases F:(l.l.length==m.p.regions.length)with
 |false=>
  have q:((l.l.length:Int) != (m.regions.l.length:Int))=true:=by
   rw[bne_iff_ne];rw[beq_eq_false_iff_ne]at F;omega
  exact Zq (zi q Ye)
 |true=>
 have q:((l.l.length:Int) != (m.regions.l.length:Int))=false:=by
  rw[beq_iff_eq]at F;rw[F,M];simp
 refine Zf (zi q Ye) ?_;refine Yc l.l.length (λr (_:Unit)=>st [(1,Za c1 1 (V.int .i64) l),(2,.view .new (W8 c d m)),(5,.int .i64 r)] []) (λr _=>∀ j,j<r->m.p.okR l.l j=true) 0 () (Nat.zero_le _) (λj A=>absurd A (Nat.not_lt_zero j)) (Weak.st (zq @Ye) zp) ?_;intro r _ N J Q u
 by_cases f:r<l.l.length
 rotate_left;have k:decide ((r:Int)<(l.l.length:Int))=false:=zF;refine Zf k ?_;rw[show(List.range l.l.length).all (m.p.okR l.l)=true from List.all_eq_true.2 λj A=>J j (by have:=List.mem_range.1 A;omega)];rfl;have k:decide ((r:Int)<(l.l.length:Int))=true:=zT;have E:=List.getElem?_eq_getElem f;generalize l.l[r]=v at E;have b:=m.p.okR_v E;have I:IntKind.i64.wrap ((r:Int)+1)=(r:Int)+1:=Wy zo zo
 have n:m.p.okR l.l r=false->((List.range l.l.length).all (m.p.okR l.l))=false:=λh=>by
  rw[List.all_eq_false];exact⟨r,List.mem_range.2 f,by rw[h];decide⟩
 have g:m.p.okR l.l r=true->∀ j,j<r+1->m.p.okR l.l j=true:=λh j A=>by
  by_cases e:j<r
  exact J j e;rwa [show j=r by omega]
 have C:=zi k (zi E (zi f (zi Ye Yh)));refine Xm k ?_;refine Z0f k ?_
 repeat first|refine AW.block ?_|refine Z6 ?_
 refine Zy ⟨λi=>if i=11 then .bool (m.p.vB v)else .int .i64 (m.p.rgO v),λ_=>.pure⟩ zk K zk zk ?_
 by_cases y:v = -1
 have s:(v != -1)=false:=by rw[y];rfl
 have H:(v == -1)=true:=by rw[y];rfl
 rw[H,Bool.true_or]at b;simp -implicitDefEqProofs only[go_sem,seval,s,C];refine Zf I ?_;exact u _ ⟨f,(),g b,Weak.st (zq @Ye) zp⟩;have s:(v != -1)=true:=bne_iff_ne.2 y;have H:(v == -1)=false:=beq_eq_false_iff_ne.2 y;rw[H,Bool.false_or]at b;have x:=Je G c.ent d.ent m v
 cases B:m.p.vB v with
 |false=>
  rw[B]at b x;simp -implicitDefEqProofs only[go_sem,seval,s,C];refine⟨⟨zk,?_⟩,?_⟩;simp only[<- Ye,List.map_cons,List.map_nil,Rw,Yj]
  exact x.mono λw _ e=>by rw[e];rfl
  refine Z ?_;rw[n b];rfl
 |true=>
  have t:=Zg9 B;rw[B,Bool.true_and]at b;rw[B]at x;have L:=Jf G K c.ent d.ent m a v t.1 t.2
  cases z:(m.p.rgO v==(r:Int))with
  |false=>
   have D:(m.p.rgO v != (r:Int))=true:=by rw[bne,z];rfl
   simp -implicitDefEqProofs only[go_sem,seval,s,D,C];refine⟨⟨zk,?_⟩,⟨zk,?_⟩,?_⟩;simp only[<- Ye,List.map_cons,List.map_nil,Rw,Yj]
   exact x.mono λw _ e=>by rw[e];rfl
   simp only[<- Zi,List.map_cons,List.map_nil,Vq,Yj]
   exact L.mono λw _ e=>by rw[e];rfl
   refine Z ?_;rw[n (b.trans z)];rfl
  |true=>
   have D:(m.p.rgO v != (r:Int))=false:=by rw[bne,z];rfl
   simp -implicitDefEqProofs only[go_sem,seval,s,D,C];refine⟨⟨zk,?_⟩,⟨zk,?_⟩,?_⟩;simp only[<- Ye,List.map_cons,List.map_nil,Rw,Yj]
   exact x.mono λw _ e=>by rw[e];rfl
   simp only[<- Zi,List.map_cons,List.map_nil,Vq,Yj]
   exact L.mono λw _ e=>by rw[e];rfl
   refine Zf I ?_;exact u _ ⟨f,(),g (b.trans z),Weak.st (zq @Ye) zp⟩
theorem Ez(G:Nat->V)(b:Y6 G)(c d c1:Col)(m:MdM)(e:m.p.Acy)(a l:Sl Int)(ha:a.l.length<1000000)(f:l.l.length<1000000):Spec Tryz.prog G 10 [W8 c d m,Td c1 a l] Zj (λw _=>w=.bool (m.p.fitB a.l l.l)):=by
 refine Zo 0 15 [.tmp 4] Tryz.func10 λX=>?_;refine Zf (zi Ye Yi) ?_;intro i h;refine AW.weak (Zl (λo=>o==2||o==3) (l:=[(2,.view .new (W8 c d m)),(3,.view .new (Td c1 a l))]) (m:=[]) ?_ trivial) ?_;simp -implicitDefEqProofs only[go_sem,seval];exact⟨Fz.ptr (v:=W8 c d m) (c:=.new) (fz:=0) zp (by rw[Ye];exact zp),Fz.ptr (v:=Td c1 a l) (c:=.new) (fz:=0) zp (by rw[Yi];exact zp)⟩;refine Zf (zi Ye Yi) ?_;simp only[<- Ye];refine Zc b ?_ (s:=Zba G b c.ent d.ent _ m e a ha);rw[PM.fitB]
 cases g:m.p.rowB a.l with
 |false=>exact Zh (zi Ye Yi)
 |true=>
  refine Zg (zi Ye Yi) ?_;simp only[<- Ye];refine Zc b ?_ (s:=Zba G b c.ent d.ent _ m e l f);exact Zr
theorem B2{m:PM}{a l:List Int}(h:m.fitB a l=true):a.length=m.regions.length:=by
 simp only[PM.fitB,PM.rowB,Bool.and_eq_true,beq_iff_eq]at h;exact h.1.1
theorem Ey(G:Nat->V)(y:Y6 G)(c d c1:Col)(m:MdM)(x:m.p.Rt5)(D:m.p.Acy)(a l:Sl Int)(C:m.p.fitB a.l l.l=true)(v:Int)(h:0<=v)(g:v<m.p.vertices.length):
  Spec Tryz.prog G 16 [W8 c d m,Td c1 a l,.int .i64 v] Zj (λw _=>w=.bool (m.p.isB a.l v)):=by
 refine Zo 0 22 [.tmp 6] Tryz.func16 λX=>?_;refine Zf (zi Ye Yi) ?_;intro I H;refine AW.weak (Zl (λo=>o==3||o==4) (l:=[(3,.view .new (W8 c d m)),(4,.view .new (Td c1 a l)),(2,.int .i64 v)]) (m:=[]) ?_ trivial) ?_;simp -implicitDefEqProofs only[go_sem,seval];exact⟨Fz.ptr (v:=W8 c d m) (c:=.new) (fz:=0) zp (by rw[Ye];exact zp),Fz.ptr (v:=Td c1 a l) (c:=.new) (fz:=0) zp (by rw[Yi];exact zp),Zb⟩;have F:=B2 C
 have t:m.p.vB v=(m.p.kd v==1||m.p.kd v==2):=by
  rw[PM.vB,decide_eq_true h,decide_eq_true g];rfl
 have j:=Je G c.ent d.ent m v
 repeat refine Z6 ?_
 refine Zy ⟨λi=>if i=2 then .bool (m.p.vB v)else .int .i64 (m.p.rgO v),λ_=>.pure⟩ zk y zk zk ?_
 cases b:m.p.vB v with
 |false=>
  rw[b]at j
  have s:m.p.isB a.l v=false:=by rw[PM.isB,<- t,b];rfl
  refine Xr (zi @Ye @Yi) ?_;refine⟨⟨zk,?_⟩,?_⟩;simp only[<- Ye,List.map_cons,List.map_nil,Rw,Yj]
  exact j.mono λw _ e=>by rw[e];rfl
  rw[s];exact Zr
 |true=>
  rw[b]at j
  have B:m.p.kd v=1\/m.p.kd v=2:=by rw[t]at b;simpa using b
  have A:=x.kdOk v h g B
  have k:m.p.rgO v=(m.p.vx v).region:=by rw[PM.rgO,if_neg zo]
  have E:0<=m.p.rgO v/\m.p.rgO v<m.p.regions.length:=x.rgP h g;obtain⟨n,q⟩:∃ n:Nat,m.p.rgO v=(n:Int):=⟨(m.p.rgO v).toNat,zo⟩;have f:n<a.l.length:=zo;have r:=List.getElem?_eq_getElem f
  have s:m.p.isB a.l v=(a.l[n]==v):=by
   rw[PM.isB,<- t,b,Bool.true_and,<- k,q,PM.actR,Int.toNat_natCast,List.getD_eq_getElem?_getD,r];rfl
  rw[s];have z:=Jf G y c.ent d.ent m D v h g;rw[q]at z;generalize a.l[n]=u at r;simp -implicitDefEqProofs only[go_sem,seval,Ye,Yi,q,r,f,Int.ofNat_lt];refine⟨⟨zk,?_⟩,⟨zk,?_⟩,?_⟩;simp only[<- Ye,List.map_cons,List.map_nil,Rw,Yj]
  exact j.mono λw _ e=>by rw[e];rfl
  simp only[<- Zi,List.map_cons,List.map_nil,Vq,Yj]
  exact z.mono λw _ e=>by rw[e];rfl
  exact Zr
def PM.actL(m:PM)(a:List Int)(n:Nat):List Int:=((List.range n).filter fun(v:Nat)=>m.isB a v).map fun(v:Nat)=>(v:Int)
theorem Zgh(m:PM)(a:List Int)(n:Nat):m.actL a (n+1)=m.actL a n++if m.isB a n=true then[(n:Int)]else[]:=by
 rw[PM.actL,List.range_succ,List.filter_append,List.map_append]
 by_cases h:m.isB a n=true
 rw[if_pos h,List.filter_cons_of_pos (p:=fun(v:Nat)=>m.isB a v) h];rfl;rw[if_neg h,List.filter_cons_of_neg (p:=fun(v:Nat)=>m.isB a v) h];rfl
theorem PM.actL_len(m:PM)(a:List Int)(n:Nat):(m.actL a n).length<=n:=by
 rw[PM.actL,List.length_map];have:=List.length_filter_le (fun(v:Nat)=>m.isB a v) (List.range n);rwa [List.length_range]at this
theorem Z5p{m:PM}{a:List Int}{n:Nat}{v:Int}(h:v∈m.actL a n):(0<=v/\v<n)/\m.isB a v=true:=by
 obtain⟨j,b,rfl⟩:=List.mem_map.1 h;obtain⟨d,c⟩:=List.mem_filter.1 b;have:=List.mem_range.1 d;exact⟨zo,c⟩
theorem Zob(G:Nat->V)(i:Y6 G)(c d c1:Col)(m:MdM)(A:m.p.Rt5)(z:m.p.Acy)(E:m.verts.l.length<100000)(a l:Sl Int)(ha:a.l.length<1000000)(B:l.l.length<1000000)(u:m.p.fitB a.l l.l=true):
  Spec Tryz.prog G 17 [W8 c d m,Td c1 a l] Zj (λw _=>w=Za .new 1 (V.int .i64) (Zd (m.p.actL a.l m.verts.l.length))):=by
 refine Zo 0 29 [.tmp 4] Tryz.func17 λX=>?_;refine Zf (zi Ye Yi) ?_;intro y I;refine AW.weak (Zl (λo=>o==2||o==3) (l:=[(2,.view .new (W8 c d m)),(3,.view .new (Td c1 a l))]) (m:=[]) ?_ trivial) ?_;simp -implicitDefEqProofs only[go_sem,seval];exact⟨Fz.ptr (v:=W8 c d m) (c:=.new) (fz:=0) zp (by rw[Ye];exact zp),Fz.ptr (v:=Td c1 a l) (c:=.new) (fz:=0) zp (by rw[Yi];exact zp)⟩;refine Z ?_;refine Yc m.verts.l.length (λk (g:Nat)=>st [(2,.view .new (W8 c d m)),(3,.view .new (Td c1 a l)),(5,grown 27 g 1 (m.p.actL a.l k)),(6,.int .i64 k)] [(27,Yb g (V.int .i64) (m.p.actL a.l k))]) (λ_ _=>True) 0 0 (Nat.zero_le _) trivial (Weak.st zp zp) ?_;intro k g H _ J b;have r:=Ez G i c.ent d.ent c1.ent m z a l ha B;rw[u]at r;have n:=m.p.actL_len a.l k;have t:IntKind.i64.wrap ((k:Int)+1)=(k:Int)+1:=Wy zo zo
 by_cases h:k<m.verts.l.length
 rotate_left;have j:k=m.verts.l.length:=zo;have e:decide ((m.verts.l.length:Int)<(m.verts.l.length:Int))=false:=zF;rw[j];generalize m.p.actL a.l m.verts.l.length=F;refine AW.weak (Zl (λo=>o==27) (l:=[(2,.view .new (W8 c d m)),(3,.view .new (Td c1 a l)),(5,Za .new 1 (V.int .i64) (Zd F)),(6,.int .i64 m.verts.l.length)]) (m:=[]) ?_ trivial) ?_;simp -implicitDefEqProofs only[go_sem,seval];exact⟨Zb,Zb,Y5 (l:=F) (g:=g) (f:=V.int .i64) rfl zp (λ_=>rfl),Zb⟩;refine Xm (zi Ye Yi) ?_;simp only[<- Ye,<- Yi];refine Zc i ?_ (s:=r);exact Zh (zi Ye e);have e:decide ((k:Int)<(m.verts.l.length:Int))=true:=zT;have D:=Ey G i c.ent d.ent c1.ent m A z a l u k (Int.natCast_nonneg k) (by rw[m.nv];omega);rw[Zgh]at b;generalize m.p.actL a.l k=q at n b;refine Xm (zi Ye Yi) ?_;simp only[<- Ye,<- Yi];refine Zc i ?_ (s:=r);refine Zg (zi Ye (zi Yi e)) ?_;simp only[<- Ye,<- Yi];refine Zc i ?_ (s:=D)
 cases x:m.p.isB a.l (k:Int)with
 |false=>
  rw[x,if_neg zd,List.append_nil]at b;refine Zf t ?_;exact b _ ⟨h,g,trivial,Weak.st zp zp⟩
 |true=>
  rw[x,if_pos rfl]at b;refine Z ?_;intro C;refine Ys (f:=V.int .i64) (l:=q) (l2:=[(k:Int)]) (g:=g) (λ_=>rfl) rfl rfl rfl zp (Z4 zo zO) λy=>?_;refine Zs ?_;refine Zf t ?_;exact b _ ⟨h,y,trivial,Weak.st zp zp⟩
theorem Zqb(G:Nat->V)(g:Y6 G)(c d:Col)(m:MdM)(v:Int)(b:0<=v)(a:v<m.p.vertices.length):
  Spec Tryz.prog G 47 [Zw c d m,.int .i64 v] Zj (λw _=>w=.bool (m.p.kd v==1)):=by
 refine Zo 0 18 [.tmp 4] Tryz.func47 λX=>?_;refine Zf Zi ?_;intro i;refine Zf Zi ?_;refine Zc g ?_ (s:=Te G c.ent d.ent m v b a);obtain⟨n,x,rfl,e,f,h⟩:=MdM.at b a;rw[PM.kd,h];exact Zh (zi f (zi e (zi Zz (zi Zi Yh))))
theorem Zpb(G:Nat->V)(b:Y6 G)(c d:Col)(m:MdM)(k:m.p.Rt5)(a:m.p.Acy)(v s:Int)(h:0<=v)(g:v<m.p.vertices.length)(s0:0<=s)(f:s<m.p.vertices.length):
  Spec Tryz.prog G 18 [Zw c d m,.int .i64 v,.int .i64 s] Zj (λw _=>w=.bool (m.p.inB v s&&m.p.kd s==1)):=by
 by_cases e:m.p.kd s=1
 rw[e,beq_self_eq_true,Bool.and_true];exact Zkh G b c d m k a v s h g s0 f e;have i:(m.p.kd s==1)=false:=beq_eq_false_iff_ne.2 e;have j:=Zqb G b c.ent d.ent m s s0 f;rw[i]at j;rw[i,Bool.and_false];refine Zo 0 29 [.tmp 6] Tryz.func18 λX=>?_;refine Zf Zi ?_;intro l;refine Zf Zi ?_;refine Zc b ?_ (s:=Te G c.ent d.ent m v h g);refine Zg Zi ?_;refine Zc b ?_ (s:=j);exact Zr
theorem PM.Acy.upB_step{m:PM}{act:List Int}(a:m.Acy){v s:Int}(c:0<=v)(b:v<m.vertices.length):m.upB act v s=if 0<=m.around v then m.around v==s||(m.isB act (m.around v)&&m.upB act (m.around v) s)else true:=by
 unfold PM.upB
 by_cases h:0<=m.around v
 .rw[if_pos h,a.ups_cons c b h]
  cases q:(m.around v==s)with
  |true=>rw[List.takeWhile_cons_of_neg (by rw[bne,q];decide)];rfl
  |false=>rw[List.takeWhile_cons_of_pos (by rw[bne,q];rfl),List.all_cons,Bool.false_or]
 rw[if_neg h,PM.Acy.ups_nil zo];rfl
theorem Ke(G:Nat->V)(f:Y6 G)(c d c1 i g:Col)(m:MdM)(r:m.p.Rt5)(j:m.p.Acy)(a l:Sl Int)(A:m.p.fitB a.l l.l=true)(v s:Int)(x:0<=v)(u:v<m.p.vertices.length):
  Spec Tryz.prog G 19 [W8 c d m,Td c1 a l,Zw i g m,.int .i64 v,.int .i64 s] Zj (λw _=>w=.bool (m.p.upB a.l v s)):=by
 refine Zo 0 30 [.tmp 10] Tryz.func19 λX=>?_;refine Zf (zi Ye (zi Yi Zi)) ?_;intro E D C;refine AW.weak (Zl (λo=>o==5||o==6||o==7) (l:=[(3,.int .i64 v),(4,.int .i64 s),(5,.view .new (W8 c d m)),(6,.view .new (Td c1 a l)),(7,.view .new (Zw i g m))]) (m:=[]) ?_ trivial) ?_;simp -implicitDefEqProofs only[go_sem,seval];exact⟨Zb,Zb,Fz.ptr (v:=W8 c d m) (c:=.new) (fz:=0) zp (by rw[Ye];exact zp),Fz.ptr (v:=Td c1 a l) (c:=.new) (fz:=0) zp (by rw[Yi];exact zp),Fz.ptr (v:=Zw i g m) (c:=.new) (fz:=0) zp (by rw[Zi];exact zp)⟩;refine Zf Zi ?_;refine Zc f ?_ (s:=Qk G f i.ent g.ent m r v x u);refine Z ?_;refine Vs (fun(p:Int)=>st [(4,.int .i64 s),(5,.view .new (W8 c d m)),(6,.view .new (Td c1 a l)),(7,.view .new (Zw i g m)),(11,.int .i64 p)] []) (λp=>(0<=p->p<m.p.vertices.length)/\m.p.upB a.l v s=if 0<=p then(p==s||(m.p.isB a.l p&&m.p.upB a.l p s))else true) (λp=>if 0<=p then(m.p.ups p).length+1 else 0) (m.p.around v) ⟨λh=>by have:=j.rng v x u;omega,?_⟩ (Weak.st (zq @Zi) zp) ?_;exact j.upB_step x u;rintro p ⟨z,e⟩ L B
 by_cases b:0<=p
 rotate_left;have n:decide (p>=0)=false:=zF;rw[e,if_neg b];exact Zq n;have n:decide (p>=0)=true:=zT;have k:=z b;rw[if_pos b]at e
 cases q:(p==s)with
 |true=>
  have t:(p != s)=false:=by rw[bne,q];rfl
  rw[e,q];exact Zq (zi n t)
 |false=>
  have t:(p != s)=true:=by rw[bne,q];rfl
  rw[q,Bool.false_or]at e;refine Zf (zi n (zi t (zi Ye Yi))) ?_;simp only[<- Ye,<- Yi];refine Zc f ?_ (s:=Ey G f c.ent d.ent c1.ent m r j a l A p b k)
  cases y:m.p.isB a.l p with
  |false=>
   rw[e,y];exact Zr
  |true=>
   rw[y,Bool.true_and]at e;refine Zf Zi ?_;refine Zc f ?_ (s:=Qk G f i.ent g.ent m r p b k);refine Zs ?_;refine B _ ⟨m.p.around p,?_,⟨λh=>by have:=j.rng p b k;omega,by rw[e];exact j.upB_step b k⟩,Weak.st zp zp⟩;rw[if_pos b]
   split
   rename_i h;rw[j.ups_cons b k h,List.length_cons];omega;omega
theorem Af(G:Nat->V)(f:Y6 G)(c d:Col)(m:MdM)(g:MdR m):Spec Tryz.prog G 4 [Zw c d m] Zj (λv _=>∃ b,v=.bool b/\(b=true->FewM m)):=by
 refine Zo 0 23 [.tmp 2] Tryz.func4 λX=>?_;refine Zf Zi ?_;intro j;refine Zf Zi ?_;refine Ze f ?_ (s:=Zd0 G f c.ent d.ent m g);rintro _ ⟨b,rfl,i⟩
 cases b with
 |false=>
  refine Zg Zi ?_;exact⟨_,rfl,λh=>by cases h⟩
 |true=>
  cases a:decide ((m.ways.l.length:Int)<=40);refine Zg (zi a Zi) ?_;exact⟨_,rfl,λh=>by cases h⟩;cases e:decide ((m.verts.l.length:Int)<=40);refine Zg (zi a (zi e Zi)) ?_;exact⟨_,rfl,λh=>by cases h⟩;refine Zg (zi a (zi e Zi)) ?_;exact⟨_,rfl,λ_=>i rfl⟩
theorem Z1b(G:Nat->V)(c:Col)(a l:Sl Int):Spec Tryz.prog G 5 [Td c a l] Zj (λv _=>∃ b,v=.bool b/\(b=true->a.l.length<=60/\l.l.length<=60)):=by
 refine Zo 0 13 [.tmp 2] Tryz.func5 λX=>?_;refine Zf Yi ?_;intro e;cases d:decide ((a.l.length:Int)<=60);refine Zf (zi d Yi) ?_;exact⟨_,rfl,λh=>by cases h⟩;have:=of_decide_eq_true d;refine Zf (zi d Yi) ?_;exact⟨_,rfl,λh=>by have:=of_decide_eq_true h;omega⟩
theorem Zk4{m:PM}{a l:List Int}(g:m.Rt5)(b:m.fitB a l=true){w:Int}(f:0<=w)(e:w<m.vertices.length)(ha:PM.Ac m a w):m.isB a w=true:=by
 obtain⟨k,c⟩:=ha;have h:0<=m.rgP w/\m.rgP w<m.regions.length:=g.rgP f e;rw[PM.rgP,if_neg zo]at h;have j:=B2 b;simp only[PM.fitB,PM.rowB,Bool.and_eq_true,beq_iff_eq,List.all_eq_true,List.mem_range,Bool.or_eq_true]at b;have d:=b.1.2 (m.vx w).region.toNat zo;rw[PM.actR]at c;rw[c]at d;have i:=d.resolve_left zo;rw[PM.isB,PM.actR,c,beq_self_eq_true,Bool.and_true,Bool.or_eq_true,beq_iff_eq,beq_iff_eq];exact i.1.2
theorem PM.LeftOk.len{m:PM}{act l:List Int}(o:PM.LeftOk m act l):l.length<=m.vertices.length:=nodup_len o.nd λv a=>(o.ok v a).1
theorem Z3w{m:PM}(q:StP×List Int)(h:m.regions.length<=512):(m.leafR q).length<600:=by
 unfold PM.leafR
 split
 simp
 split
 have:=m.regsL_len (q.1.sources.headD 0);omega;simp
theorem Zha{m:PM}{p:PgM}(st:m.StOk)(e:p.m.p=m)(g:p.L=m.withR)(ev:p.lv=m.withR.map m.leafR)(a l:List Int){n:Nat}{q:StP×List Int}(c:m.withR[n]?=some q):TkOk2 p a l n q/\PM.LvQ m q:=by
 have f:=List.mem_of_getElem? c;have lv:=PM.withR_lv st q f;obtain⟨s0,b,h⟩:=List.mem_map.1 f;have F:=PM.allL_ok st.wfd s0 b
 have d:q.1=s0:=by rw[<- h]
 rw[<- d]at F;have o:=F.sn;have k:=st.wfd.lw;have j:=(PM.leftL_ok (act:=a) (last:=l) st.rt.toRt5 st.rt.acy lv).len;have i:=st.wfd.lx;subst e;exact⟨⟨by rw[g];exact c,by rw[ev,List.getElem?_map,c];rfl,Z3w q st.rt.lr,F.first.1,F.first.2,zo,zo⟩,lv⟩
theorem Zgr(n:Nat):V5 n [V.int .i64 0]=(Ut n []).map (V.int .i64):=by
 rw[Zpr,List.map_replicate]
 induction n with
 |zero=>rfl
 |succ n ih=>exact congrArg (V.int .i64 0 :: ·) ih
theorem Z2i{n v:Nat}(l:List Int)(h:v<n):((Ut n l).map (V.int .i64))[v]?=some (.int .i64 (W5 l v)):=by
 rw[List.getElem?_map,Zrr l h];rfl
theorem Zsa(n:Nat)(l:List Int):((Ut n l).map (V.int .i64)).length=n:=by rw[List.length_map,Zqr]
theorem Cw(G:Nat->V)(hE:GExp G)(hW:Spec Tryz.prog G 6 [] Zj (λv _=>v=.bool true))(m:MdM)(hr:MdR m)(a l:Sl Int)(i0 j0:Int)(hi:InK .i64 i0)(hj:InK .i64 j0):
  Spec Tryz.prog G 3 [Zw .old .old m,Td .old a l,.int .i64 i0,.int .i64 j0] Zj (λv _=>v=.bool true):=by
 have r:=hE.ok;refine Zo 0 290 [.tmp 8] Tryz.func3 λX=>?_;refine Zf (zi Zi Yi) ?_;intro g4 g5;refine AW.weak (Zl (λo=>o==4||o==5) (l:=[(2,.int .i64 i0),(3,.int .i64 j0),(4,.view .new (Zw .old .old m)),(5,.view .new (Td .old a l))]) (m:=[]) ?_ trivial) ?_;simp -implicitDefEqProofs only[go_sem,seval];exact⟨Zb,Zb,Fz.ptr (v:=Zw .old .old m) (c:=.new) (fz:=0) zp (by rw[Zi];exact zp),Fz.ptr (v:=Td .old a l) (c:=.new) (fz:=0) zp (by rw[Yi];exact zp)⟩;refine Zf Zi ?_;refine Ze r ?_ (s:=Af G r .old .old m hr);rintro _ ⟨b,rfl,hb⟩
 cases b with
 |false=>
  refine Zg Zi ?_;refine Zc r ?_ (ha:=rfl) (s:=hW);exact Zr
 |true=>
 have fw:=hb rfl;have hB:=fw.b hr;refine Zg (zi Zi Yi) ?_;simp only[<- Yi];refine Ze r ?_ (s:=Z1b G .old a l);rintro _ ⟨b,rfl,hb2⟩
 cases b with
 |false=>
  refine Zg Zi ?_;refine Zc r ?_ (ha:=rfl) (s:=hW);exact Zr
 |true=>
 obtain⟨ha,hl⟩:=hb2 rfl;refine Zg (zi Zi Yi) ?_;refine Ze r ?_ (s:=Iq G hE .old m hB fw.t);rintro _ (⟨at_,er,he,rfl,_⟩|⟨p,rfl,ok⟩);have q:(er != 0)=true:=zu he;rw[show(V.tuple [.nilp,.int .i64 at_,.int .i64 er]).recol Col.bk=.tuple [.nilp,.int .i64 at_,.int .i64 er]from rfl];refine Zg (zi q Zi) ?_;refine Zc r ?_ (ha:=rfl) (s:=hW);exact Zr;have sto:=ok.st;have rt:=sto.rt.toRt5;have ac:=sto.rt.acy;have ep:=ok.pm;have pk:=ok.ok.rc Col.bk;have pL:=ok.L;have plv:=ok.lv;have eR:=H6 G r Col.new.ent Col.old.ent m hB;have E:=m.gr_p;have hnx:=hB.nx;have hnr:m.p.regions.length<=600:=hB.nr;have hnw:=hB.nw;have q0:((0:Int) != 0)=false:=rfl
 have rp:(V.tuple [Ph .any p,.int .i64 0,.int .i64 0]).recol Col.bk=.tuple [Ph .any (p.rc Col.bk),.int .i64 0,.int .i64 0]:=by
  simp only[V.recol,Yv,W4];rfl
 rw[rp];have P:(p.rc Col.bk).m.p=m.p:=ep;have epL:(p.rc Col.bk).L=m.p.withR:=pL;have epv:(p.rc Col.bk).lv=m.p.withR.map m.p.leafR:=plv;generalize p.rc Col.bk=p at pk P epL epv;clear rp ep pL plv ok;refine Zg (zi q0 Zi) ?_;refine Zc r ?_ (s:=H6 G r _ _ m hB);refine Zf Zi ?_;refine Zc r ?_ (s:=Zt4 G _ _ m.gr);refine Zf (zi Ye Yi) ?_;intro g12;refine Zf (zi Ye Yi) ?_;intro g13;refine AW.weak (Zl (λo=>o==12||o==13) (l:=[(2,.int .i64 i0),(3,.int .i64 j0),(4,.view .new (Zw .old .old m)),(5,.view .new (Td .old a l)),(9,Ph .any p),(12,.view .new (W8 .any .any m.gr)),(13,.view .new (Td .old a l))]) (m:=[]) ?_ trivial) ?_;simp -implicitDefEqProofs only[go_sem,seval,Zi];exact⟨Zb,Zb,Zb,Zb,Zb,Fz.ptr (v:=W8 .any .any m.gr) (c:=.new) (fz:=0) zp (by rw[Ye];exact zp),Fz.ptr (v:=Td .old a l) (c:=.new) (fz:=0) zp (by rw[Yi];exact zp)⟩;have F1:=Ez G r .any .any .old m.gr (E ▸ ac) a l zo zo;have rtg:m.gr.p.Rt5:=E ▸ rt;have acg:m.gr.p.Acy:=E ▸ ac;rw[E]at F1
 have eN:p.L.length=m.p.withR.length:=by rw[epL]
 refine Zf (zi Ye Yi) ?_;simp only[<- Ye,<- Yi];refine Zc r ?_ (s:=F1)
 cases hf:m.p.fitB a.l l.l with
 |false=>
  refine Zg (zi Zi Wn) ?_;refine Zc r ?_ (ha:=rfl) (s:=hW);exact Zr
 |true=>
 by_cases hn0:m.p.withR.length=0
 have A:((m.p.withR.length:Int)==0)=true:=by rw[hn0];rfl
 refine Zg (zi A (zi eN (zi Zi Wn))) ?_;refine Zc r ?_ (ha:=rfl) (s:=hW);exact Zr
 have A:((m.p.withR.length:Int)==0)=false:=by rw[beq_eq_false_iff_ne];omega
 refine Zg (zi A (zi eN (zi Zi Wn))) ?_;have hwl:=Qr m.p;have hle:=sto.le;refine Zc r ?_ (s:=Ci G i0 _ hi ⟨zo,zo⟩);refine Zg (zi eN (zi Zi Wn)) ?_;refine Zc r ?_ (s:=Ci G j0 _ hj ⟨zo,zo⟩);obtain⟨I,e1⟩:∃ n:Nat,i0%(m.p.withR.length:Int)=(n:Int):=⟨(i0%(m.p.withR.length:Int)).toNat,by have:=Int.emod_nonneg i0 (show(m.p.withR.length:Int)≠0 by omega);omega⟩;obtain⟨R,e2⟩:∃ n:Nat,j0%(m.p.withR.length:Int)=(n:Int):=⟨(j0%(m.p.withR.length:Int)).toNat,by have:=Int.emod_nonneg j0 (show(m.p.withR.length:Int)≠0 by omega);omega⟩
 have hn1:I<m.p.withR.length:=by have:=Int.emod_lt_of_pos i0 (show 0<(m.p.withR.length:Int) by omega);omega
 have hn2:R<m.p.withR.length:=by have:=Int.emod_lt_of_pos j0 (show 0<(m.p.withR.length:Int) by omega);omega
 rw[e1,e2];obtain⟨A,hq1⟩:∃ q,m.p.withR[I]?=some q:=⟨_,List.getElem?_eq_getElem hn1⟩;obtain⟨q2,hq2⟩:∃ q,m.p.withR[R]?=some q:=⟨_,List.getElem?_eq_getElem hn2⟩;obtain⟨T,v1⟩:=Zha (p:=p.rc Col.ent) sto P epL epv a.l l.l hq1;obtain⟨o2,v2⟩:=Zha (p:=p.rc Col.ent) sto P epL epv a.l l.l hq2;have v1':PM.LvQ (p.rc Col.ent).m.p A:=P ▸ v1;have v2':PM.LvQ (p.rc Col.ent).m.p q2:=P ▸ v2;have s1:=T.so;have s2:=o2.so;have M12:=Ga G r .any .old (p.rc Col.ent) (pk.rc _) a l zo zo I R A q2 T o2;have M21:=Ga G r .any .old (p.rc Col.ent) (pk.rc _) a l zo zo R I q2 A o2 T;rw[PM.meetL_comm]at M21;have A12:=N5 G r .any (p.rc Col.ent) (pk.rc _) I R A q2 T.at_ o2.at_ v1' v2' zo zo;have A21:=N5 G r .any (p.rc Col.ent) (pk.rc _) R I q2 A o2.at_ T.at_ v2' v1' zo zo;have A11:=N5 G r .any (p.rc Col.ent) (pk.rc _) I I A A T.at_ T.at_ v1' v1' zo zo;rw[PM.aheadB_self]at A11;have hA:=λh=>PM.aheadB_one (m:=(p.rc Col.ent).m.p) (d:=(p.rc Col.ent).x.dp) (a:=A) (b:=q2) h;have L1:=Z0c G r .any .old (p.rc Col.ent) (pk.rc _) a l zo zo I _ (show I<p.L.length by omega) T.lv T.rs (by have:=T.sm;exact(by omega:((p.rc Col.ent).m.p.leftL a.l l.l A).length<1000000))
 have hL0:((p.rc Col.ent).m.p.leafR A).flatMap ((p.rc Col.ent).m.p.exitL a.l l.l)=m.p.leftL a.l l.l A:=by rw[show(p.rc Col.ent).m.p=m.p from P];rfl
 rw[hL0]at L1;generalize PM.meetL ((p.rc Col.ent).m.p.takeL a.l l.l A) ((p.rc Col.ent).m.p.takeL a.l l.l q2)=B at M12 M21;generalize(p.rc Col.ent).m.p.aheadB (p.rc Col.ent).x.dp A q2=C at A12 hA;generalize(p.rc Col.ent).m.p.aheadB (p.rc Col.ent).x.dp q2 A=D at A21 hA
 have hB0:(B != B)=false:=by cases B<;>rfl
 refine AW.weak (Weak.st (l:=[(2,.int .i64 (I:Int)),(3,.int .i64 (R:Int)),(4,.view .new (Zw .old .old m)),(5,.view .new (Td .old a l)),(9,Ph .any p),(12,.view .new (W8 .any .any m.gr)),(13,.view .new (Td .old a l))]) (m:=[]) (zq (zi @Zi @Wn)) zp) ?_;refine Wq (fun(_:Unit)=>st [(2,.int .i64 (I:Int)),(3,.int .i64 (R:Int)),(4,.view .new (Zw .old .old m)),(5,.view .new (Td .old a l)),(9,Ph .any p),(12,.view .new (W8 .any .any m.gr)),(13,.view .new (Td .old a l))] []) (λ_=>True) (λK1 hK1=>?_) ?_
 .repeat refine Z6 ?_
  refine Zy ⟨λi=>if i=4 then .bool B else if i=9 then .bool B else if i=15 then .bool C else if i=20 then .bool D else .bool false,λ_=>.pure⟩ zk r zk zk ?_
  cases C with
  |true=>
   rw[hA rfl]at A21⊢;refine Xr (zi hB0 @Yi) ?_;refine⟨⟨zk,?_⟩,⟨zk,?_⟩,⟨zk,?_⟩,⟨zk,?_⟩,⟨zk,?_⟩,?_⟩;simp only[<- Yi,List.map_cons,List.map_nil,W4,Va,Yj]
   exact(M12).mono λw _ e=>by rw[e];rfl
   simp only[<- Yi,List.map_cons,List.map_nil,W4,Va,Yj]
   exact(M21).mono λw _ e=>by rw[e];rfl
   simp only[<- Yi,List.map_cons,List.map_nil,W4,Va,Yj]
   exact(A12).mono λw _ e=>by rw[e];rfl
   simp only[<- Yi,List.map_cons,List.map_nil,W4,Va,Yj]
   exact(A21).mono λw _ e=>by rw[e];rfl
   simp only[<- Yi,List.map_cons,List.map_nil,W4,Va,Yj]
   exact(A11).mono λw _ e=>by rw[e];rfl
   refine Z ?_;exact hK1 _ () trivial (Weak.st zp zp)
  |false=>
   refine Xr (zi hB0 @Yi) ?_;refine⟨⟨zk,?_⟩,⟨zk,?_⟩,⟨zk,?_⟩,⟨zk,?_⟩,?_⟩;simp only[<- Yi,List.map_cons,List.map_nil,W4,Va,Yj]
   exact(M12).mono λw _ e=>by rw[e];rfl
   simp only[<- Yi,List.map_cons,List.map_nil,W4,Va,Yj]
   exact(M21).mono λw _ e=>by rw[e];rfl
   simp only[<- Yi,List.map_cons,List.map_nil,W4,Va,Yj]
   exact(A12).mono λw _ e=>by rw[e];rfl
   simp only[<- Yi,List.map_cons,List.map_nil,W4,Va,Yj]
   exact(A11).mono λw _ e=>by rw[e];rfl
   refine Z ?_;exact hK1 _ () trivial (Weak.st zp zp)
 rintro _ _;refine Zf Yi ?_;simp only[<- Yi];refine Zc r ?_ (s:=L1);have Q:=PM.leftL_ok (act:=a.l) (last:=l.l) rt ac v1;have Lsrc:=fun(hk:(m.p.wy A.1.first).kind=1) (v:Int) (hv:v∈A.1.sources)=>PM.leftL_source (act:=a.l) (last:=l.l) rt ac v1 hf hk hv;generalize m.p.leftL a.l l.l A=f at Q Lsrc;have eLL:(Zd f).l=f:=Zm _;have hLL:=Q.len;have hnv:=m.nv;refine Zf Zi ?_;refine Zc r ?_ (s:=H6 G r _ _ m hB);refine Zg Zi ?_;intro g15;refine AW.weak (Zl (λo=>o==15) (l:=[(2,.int .i64 (I:Int)),(3,.int .i64 (R:Int)),(4,.view .new (Zw .old .old m)),(5,.view .new (Td .old a l)),(9,Ph .any p),(12,.view .new (W8 .any .any m.gr)),(13,.view .new (Td .old a l)),(14,Za .new 1 (V.int .i64) (Zd f)),(15,.view .new (Zw .new .new m.gr))]) (m:=[]) ?_ trivial) ?_;simp -implicitDefEqProofs only[go_sem,seval,Zi];exact⟨Zb,Zb,Zb,Zb,Zb,Zb,Zb,Zb,Fz.ptr (v:=Zw .new .new m.gr) (c:=.new) (fz:=0) zp (by rw[Zi];exact zp)⟩;refine Zf Zi ?_;refine⟨⟨Int.le_refl _,zo,zo⟩,λg=>?_⟩;generalize hnn:m.verts.l.length=nv at hnx hnv;refine Zf hnn ?_;refine Yc f.length (λi (_:Unit)=>st [(2,.int .i64 (I:Int)),(3,.int .i64 (R:Int)),(4,.view .new (Zw .old .old m)),(5,.view .new (Td .old a l)),(9,Ph .any p),(12,.view .new (W8 .any .any m.gr)),(13,.view .new (Td .old a l)),(14,Za .new 1 (V.int .i64) (Zd f)),(15,.view .new (Zw .new .new m.gr)),(16,.msl 123 g 0 nv 1),(17,.int .i64 i)] [(123,.cells .new g 0 ((Ut nv (f.take i)).map (V.int .i64)))]) (λ_ _=>True) 0 () (Nat.zero_le _) trivial (Weak.st (zq @Zi) ?_) ?_
 .simp -implicitDefEqProofs only[go_sem,seval,Zgr]
  try rfl
 have IS:=λv h0 h1=>Ey G r Col.any Col.any Col.old m.gr rtg acg a l (E ▸ hf) v h0 h1;rw[E]at IS;intro i _ hi _ L1 K
 by_cases z:i<f.length
 .have F:decide ((i:Int)<(f.length:Int))=true:=zT
  have hg:=List.getElem?_eq_getElem z;have htk:f.take (i+1)=f.take i++[f[i]]:=List.take_succ_eq_append_getElem z
  have hlk:(f.take i).length=i:=by rw[List.length_take];omega
  obtain⟨⟨w0,w1⟩,wac⟩:=Q.ok _ (List.getElem_mem z)
  have hno:f[i]∉f.take i:=by
   have:=Q.nd;rw[<- List.take_append_drop (i+1) f,htk,List.nodup_append]at this;have:=this.1;rw[List.nodup_append]at this;exact λh=>this.2.2 _ h _ (List.mem_singleton.2 rfl) rfl
  generalize f[i]=w at hg htk w0 w1 wac hno;have hB1:=Zk4 rt hf w0 w1 wac;have I1:=IS w w0 w1;rw[hB1]at I1;obtain⟨H,rfl⟩:∃ H:Nat,w=(H:Int):=⟨w.toNat,zo⟩;have U:H<nv:=zo;have M:=Z2i (f.take i) U;rw[Zta hno]at M
  have hst:((Ut nv (f.take i)).map (V.int .i64)).set H (.int .i64 ((i:Int)+1))=(Ut nv (f.take (i+1))).map (V.int .i64):=by
   rw[htk,<- List.map_set,<- Zor hno,hlk]
  have W:=Zsa nv (f.take i);generalize(Ut nv (f.take i)).map (V.int .i64)=PR at M hst W;have wi:IntKind.i64.wrap ((i:Int)+1)=(i:Int)+1:=Wy zo zo;have P1:=Zyi G (H:Int) (nv:Int);rw[show(decide (0<=(H:Int))&&decide ((H:Int)<(nv:Int)))=true by rw[Bool.and_eq_true];exact⟨zT,zT⟩]at P1;refine Xm F ?_;refine Z0f F ?_
  repeat first|refine AW.block ?_|refine Z6 ?_
  refine Zy ⟨λ_=>.bool true,λ_=>.pure⟩ zk r zk zk ?_;have hwn1:H+1<=nv:=U;have fs:=zi hg (zi z (zi M (zi U (zi hwn1 (zi W (zi wi (zi hst (zi Ye (zi Yi (zi @Nat.mul_one (zi @Nat.zero_le Yh)))))))))));simp -implicitDefEqProofs only[go_sem,seval,fs];refine⟨⟨zk,?_⟩,⟨zk,?_⟩,?_⟩;simp -implicitDefEqProofs only[go_sem,seval]
  exact P1.mono λw _ e=>by rw[e];rfl
  simp only[<- Ye,<- Yi,List.map_cons,List.map_nil,Rw,Va,Yj]
  exact I1.mono λw _ e=>by rw[e];rfl
  refine Zf fs ?_;exact K _ ⟨z,(),trivial,Weak.st (zq (zi @Ye (zi @Yi @Zi))) zp⟩
 have O:i=f.length:=zo;have F:decide ((f.length:Int)<(f.length:Int))=false:=zF;rw[O,List.take_length];have M:=λv (h:v<nv)=>Z2i f h;have W:=Zsa nv f;generalize(Ut nv f).map (V.int .i64)=PR at M W;have A1:=Zob G r Col.any Col.any Col.old m.gr rtg acg (by rw[MdM.gr];simp only[Zm,List.length_map];omega) a l zo zo (E ▸ hf);rw[E,show m.gr.verts.l.length=nv by rw[MdM.gr];simp only[Zm,List.length_map];omega]at A1;have hAL:=λv (h:v∈m.p.actL a.l nv)=>Z5p h;have hAn:=m.p.actL_len a.l nv;generalize m.p.actL a.l nv=Y at A1 hAL hAn;have eAL:(Zd Y).l=Y:=Zm _;refine Zf (zi F (zi Ye Yi)) ?_;simp only[<- Ye,<- Yi];refine Zc r ?_ (s:=A1);refine Z ?_;clear K L1 F O z hi i;refine Yc f.length (λi (_:Unit)=>st [(2,.int .i64 (I:Int)),(3,.int .i64 (R:Int)),(4,.view .new (Zw .old .old m)),(5,.view .new (Td .old a l)),(9,Ph .any p),(12,.view .new (W8 .any .any m.gr)),(13,.view .new (Td .old a l)),(14,Za .new 1 (V.int .i64) (Zd f)),(15,.view .new (Zw .new .new m.gr)),(16,.msl 123 g 0 nv 1),(18,Za .new 1 (V.int .i64) (Zd Y)),(19,.int .i64 i)] [(123,.cells .new g 0 PR)]) (λ_ _=>True) 0 () (Nat.zero_le _) trivial (Weak.st (zq (zi @Ye (zi @Yi @Zi))) zp) ?_;intro i _ hi _ L1 K
 by_cases z:i<f.length
 .have F:decide ((i:Int)<(f.length:Int))=true:=zT
  have hg:=List.getElem?_eq_getElem z;have hw:=Q.ok _ (List.getElem_mem z);generalize f[i]=w at hg hw;obtain⟨H,rfl⟩:∃ H:Nat,w=(H:Int):=⟨w.toNat,zo⟩;have U:H<nv:=zo;have wi:IntKind.i64.wrap ((i:Int)+1)=(i:Int)+1:=Wy zo zo;refine Zf F ?_;refine Yc Y.length (λk (_:Unit)=>st [(2,.int .i64 (I:Int)),(3,.int .i64 (R:Int)),(4,.view .new (Zw .old .old m)),(5,.view .new (Td .old a l)),(9,Ph .any p),(12,.view .new (W8 .any .any m.gr)),(13,.view .new (Td .old a l)),(14,Za .new 1 (V.int .i64) (Zd f)),(15,.view .new (Zw .new .new m.gr)),(16,.msl 123 g 0 nv 1),(18,Za .new 1 (V.int .i64) (Zd Y)),(19,.int .i64 i),(20,.int .i64 k)] [(123,.cells .new g 0 PR)]) (λ_ _=>True) 0 () (Nat.zero_le _) trivial (Weak.st (zq (zi @Ye (zi @Yi @Zi))) zp) ?_;intro k _ hk _ L2 hL2
  by_cases J:k<Y.length
  rotate_left;have hke:k=Y.length:=zo;have S:decide ((Y.length:Int)<(Y.length:Int))=false:=zF;rw[hke];refine Zf (zi S wi) ?_;exact K _ ⟨z,(),trivial,Weak.st (zq (zi @Ye (zi @Yi @Zi))) zp⟩;have S:decide ((k:Int)<(Y.length:Int))=true:=zT;have hgk:=List.getElem?_eq_getElem J;obtain⟨⟨k0,k1⟩,hkb⟩:=hAL _ (List.getElem_mem J);generalize Y[k]=u at hgk k0 k1 hkb;obtain⟨un,rfl⟩:∃ un:Nat,u=(un:Int):=⟨u.toNat,zo⟩;have hun:un<nv:=zo;have wk:IntKind.i64.wrap ((k:Int)+1)=(k:Int)+1:=Wy zo zo;have U1:=Zpb G r .old .old m.gr rtg acg (un:Int) (H:Int) k0 (by rw[E];omega) hw.1.1 (by rw[E];omega);have R1:=Ke G r .any .any .old .old .old m.gr rtg acg a l (E ▸ hf) (un:Int) (H:Int) k0 (by rw[E];omega);rw[E]at U1 R1;have hask:=λhin hp=>Q.asked ac rt.kdOk hg k0 zo hkb hin hp;have hau:=M un hun;have haw:=M H U;have fs:=zi hg (zi z (zi hgk (zi J (zi hau (zi haw (zi hun (zi U (zi W (zi Ye (zi Yi (zi Zi (zi @Nat.mul_one (zi @Nat.zero_le Yh)))))))))))));refine Xm S ?_;refine Z0f S ?_
  repeat first|refine AW.block ?_|refine Z6 ?_
  refine Zy ⟨λi=>if i=9 then .bool (m.p.inB (un:Int) (H:Int)&&m.p.kd (H:Int)==1)else .bool (m.p.upB a.l (un:Int) (H:Int)),λ_=>.pure⟩ zk r zk zk ?_
  cases hU:m.p.inB (un:Int) (H:Int)&&m.p.kd (H:Int)==1 with
  |false=>
   rw[hU]at U1;simp -implicitDefEqProofs only[go_sem,seval,fs];refine⟨⟨zk,?_⟩,?_⟩;simp only[<- Zi,List.map_cons,List.map_nil,Vq,Yj]
   exact U1.mono λw _ e=>by rw[e];rfl
   refine Zf wk ?_;exact hL2 _ ⟨J,(),trivial,Weak.st (zq (zi @Ye (zi @Yi @Zi))) zp⟩
  |true=>
   rw[hU]at U1;rw[Bool.and_eq_true]at hU
   cases hz:(W5 f (un:Int)==0)with
   |true=>
    have N:=hask hU.1 (.inl (zu hz));rw[N]at R1;simp -implicitDefEqProofs only[go_sem,seval,fs,hz,N];refine⟨⟨zk,?_⟩,⟨zk,?_⟩,?_⟩;simp only[<- Zi,List.map_cons,List.map_nil,Vq,Yj]
    exact U1.mono λw _ e=>by rw[e];rfl
    simp only[<- Zi,<- Ye,<- Yi,List.map_cons,List.map_nil,Vq,Rw,Va,Yj]
    exact R1.mono λw _ e=>by rw[e];rfl
    refine Zf wk ?_;exact hL2 _ ⟨J,(),trivial,Weak.st (zq (zi @Ye (zi @Yi @Zi))) zp⟩
   |false=>
    cases hgt:decide (W5 f (un:Int)>W5 f (H:Int))with
    |true=>
     have N:=hask hU.1 (.inr (of_decide_eq_true hgt));rw[N]at R1;simp -implicitDefEqProofs only[go_sem,seval,fs,hz,hgt,N];refine⟨⟨zk,?_⟩,⟨zk,?_⟩,?_⟩;simp only[<- Zi,List.map_cons,List.map_nil,Vq,Yj]
     exact U1.mono λw _ e=>by rw[e];rfl
     simp only[<- Zi,<- Ye,<- Yi,List.map_cons,List.map_nil,Vq,Rw,Va,Yj]
     exact R1.mono λw _ e=>by rw[e];rfl
     refine Zf wk ?_;exact hL2 _ ⟨J,(),trivial,Weak.st (zq (zi @Ye (zi @Yi @Zi))) zp⟩
    |false=>
     simp -implicitDefEqProofs only[go_sem,seval,fs,hz,hgt];refine⟨⟨zk,?_⟩,?_⟩;simp only[<- Zi,List.map_cons,List.map_nil,Vq,Yj]
     exact U1.mono λw _ e=>by rw[e];rfl
     refine Zf wk ?_;exact hL2 _ ⟨J,(),trivial,Weak.st (zq (zi @Ye (zi @Yi @Zi))) zp⟩
 have O:i=f.length:=zo;have F:decide ((f.length:Int)<(f.length:Int))=false:=zF;rw[O];obtain⟨jw,y,ej,hj,hgy,ey⟩:=MdM.wyAt (m:=m) (v:=A.1.first) (by have:=T.f0;omega) (by have:=T.f1;rw[show(p.rc Col.ent).m.p=m.p from P]at this;exact this)
 have ek:(m.p.wy A.1.first).kind=y.kind:=by rw[ey];rfl
 have hq1':p.L[I]?=some A:=by rw[epL];exact hq1
 have hn1':I<p.L.length:=zo;have gs:=zi ej (zi hgy (zi hj (zi hq1' (zi hn1' (zi Wn (zi Xc (zi Zi (zi Yg Yh))))))));refine Xm F ?_;refine Z0f F ?_;clear K L1 F O z hi i;refine Wq (fun(_:Unit)=>st [(2,.int .i64 (I:Int)),(3,.int .i64 (R:Int)),(4,.view .new (Zw .old .old m)),(5,.view .new (Td .old a l)),(9,Ph .any p),(12,.view .new (W8 .any .any m.gr)),(13,.view .new (Td .old a l)),(14,Za .new 1 (V.int .i64) (Zd f)),(15,.view .new (Zw .new .new m.gr)),(16,.msl 123 g 0 nv 1),(18,Za .new 1 (V.int .i64) (Zd Y))] [(123,.cells .new g 0 PR)]) (λ_=>y.kind=1) (λK1 hK1=>?_) ?_
 .repeat refine Z6 ?_
  refine Zy ⟨λ_=>.top,λ_=>.pure⟩ zk r zk zk ?_
  cases hk:(y.kind==1)with
  |true=>
   have hk':(y.kind != 1)=false:=by rw[bne,hk];rfl
   simp -implicitDefEqProofs only[go_sem,seval,gs,hk'];refine Z ?_;exact hK1 _ () (zu hk) (Weak.st (zq (zi @Ye (zi @Yi (zi @Zi @Wn)))) zp)
  |false=>
   have hk':(y.kind != 1)=true:=by rw[bne,hk];rfl
   simp -implicitDefEqProofs only[go_sem,seval,gs,hk'];refine Z ?_;refine Zc r ?_ (ha:=rfl) (s:=hW);exact Zr
 rintro _ hk;have J:(m.p.wy A.1.first).kind=1:=ek.trans hk;have eS:(Zd A.1.sources).l=A.1.sources:=Zm _;have hsl:=T.so;refine Z ?_;refine Yc A.1.sources.length (λi (_:Unit)=>st [(2,.int .i64 (I:Int)),(3,.int .i64 (R:Int)),(4,.view .new (Zw .old .old m)),(5,.view .new (Td .old a l)),(9,Ph .any p),(12,.view .new (W8 .any .any m.gr)),(13,.view .new (Td .old a l)),(14,Za .new 1 (V.int .i64) (Zd f)),(15,.view .new (Zw .new .new m.gr)),(16,.msl 123 g 0 nv 1),(18,Za .new 1 (V.int .i64) (Zd Y)),(21,.int .i64 i)] [(123,.cells .new g 0 PR)]) (λ_ _=>True) 0 () (Nat.zero_le _) trivial (Weak.st zp zp) ?_;intro i _ hi _ L1 K
 by_cases z:i<A.1.sources.length
 rotate_left;have O:i=A.1.sources.length:=zo;have F:decide ((A.1.sources.length:Int)<(A.1.sources.length:Int))=false:=zF;rw[O];refine Zf (zi gs (zi F @Nat.lt_irrefl)) ?_;refine Zc r ?_ (ha:=rfl) (s:=hW);exact Zr;have F:decide ((i:Int)<(A.1.sources.length:Int))=true:=zT;have hg:=List.getElem?_eq_getElem z;have hvm:=List.getElem_mem z;have hvr:=v1.src _ hvm;generalize A.1.sources[i]=v at hg hvm hvr;obtain⟨vn,rfl⟩:∃ vn:Nat,v=(vn:Int):=⟨v.toNat,zo⟩;have hvn:vn<nv:=zo;have hav:=M vn hvn;have wi:IntKind.i64.wrap ((i:Int)+1)=(i:Int)+1:=Wy zo zo;have fs:=zi hav (zi hvn (zi W (zi Ye (zi Yi (zi @Nat.mul_one (zi @Nat.zero_le Yh))))));have R1:=Ke G r .any .any .old .old .old m.gr rtg acg a l (E ▸ hf) (vn:Int) (-1) hvr.1 (by rw[E];omega);rw[E]at R1;refine Zf (zi gs (zi F (zi hg (zi z (zi Ye Yi))))) ?_;simp only[<- Ye,<- Yi];refine Zc r ?_ (s:=IS (vn:Int) hvr.1 hvr.2)
 cases hI:m.p.isB a.l (vn:Int)with
 |false=>
  refine Zf wi ?_;exact K _ ⟨z,(),trivial,Weak.st (zq (zi @Ye (zi @Yi (zi @Zi (zi @Wn wi))))) zp⟩
 |true=>
  cases hz:(W5 f (vn:Int)==0)with
  |false=>
   refine Zg (zi fs hz) ?_;refine Zf wi ?_;exact K _ ⟨z,(),trivial,Weak.st (zq (zi @Ye (zi @Yi (zi @Zi (zi @Wn wi))))) zp⟩
  |true=>
   have N:m.p.upB a.l (vn:Int) (-1)=false:=by
    rw[Bool.eq_false_iff];intro hu;obtain⟨j,hj,e⟩:=List.getElem_of_mem (Lsrc J _ hvm hI hu);have:=Lp Q.nd ((List.getElem?_eq_getElem hj).trans (congrArg some e));rw[this,beq_iff_eq]at hz;omega
   rw[N]at R1;refine Zg (zi fs (zi hz Zi)) ?_;simp only[<- Zi,<- Ye,<- Yi];refine Zc r ?_ (s:=R1);refine Zf wi ?_;exact K _ ⟨z,(),trivial,Weak.st (zq (zi @Ye (zi @Yi (zi @Zi @Wn)))) zp⟩
theorem GivesE.clear{P:Program}{E:Ent}{s:AS}{d:Option Nat}{t:TypeId}{x:Operand}{ty:TypeId}{pos:String}{af:Array Edge}{gd:Option (Nat×Bool)}{e:TypeId}{ob g fz off n:Nat}{c:Col}{cs:List V}
  (z:P.underlying t=some (.slice e)) (r:∀ w,(zeroValue e).run P w=.ok (.int .i64 0) w) (v:s.ev E x=.msl ob g off (n+1) 1) (B:s.H ob=.cells c g fz cs) (l:fz<=off) (F:off+(n+1)<=cs.length):
  GivesE P E ⟨d,.call ⟨.builtin .clear,#[x],#[t]⟩,ty,pos,af,gd⟩ s (.tuple []) (Ya s.H ob (.cells c g fz (setAt cs off (List.replicate (n+1) (.int .i64 0))))):=by
 intro X a w q;have j:=q.ev x;rw[v]at j
 have C:RelC X (List.replicate (n+1) (Value.int .i64 0)) (List.replicate (n+1) (V.int .i64 0)):=by
  refine⟨zS,?_,?_⟩;intro y u;rw[List.eq_of_mem_replicate u];rfl;intro i o D;simp only[List.getElem_replicate];exact .int _ _
 have k:(Builtin.zeroCells (Value.int .i64 0).cells (n+1)).toList=List.replicate (n+1) (Value.int .i64 0):=by
  rw[show(Value.int .i64 0).cells = #[.int .i64 0]from rfl];simp[Builtin.zeroCells];apply List.ext_getElem;simp;intro i o D;simp[Nat.mod_one]
 have m:∀ {p:Value},Rel X p (.msl ob g off (n+1) 1)->∃ Y,(Builtin.clear_ #[t] ty #[p]).run P X.w=.ok (.tuple #[]) Y.w/\Goes X s.H Y (Ya s.H ob (.cells c g fz (setAt cs off (List.replicate (n+1) (.int .i64 0))))):=by
  intro p A
  cases A with
  |msl _ _ _ _ _ b bs cap hβ hcap hb=>
   obtain⟨Y,f,h⟩:=I9 (P:=P) q.go.inv B hβ C l zO;refine⟨Y,?_,h⟩;simp only[Builtin.clear_,Sem.run_bind,Zk z,Result.andThen_ok,List.getElem?_toArray,List.getElem?_cons_zero,r,k,f];rfl
 obtain⟨Y,f,h⟩:=m j;refine⟨.tuple #[],Y,?_,h,.tuple _ _ rfl (λi o=>by simp at o)⟩;simp[execOp,resolve,invoke,builtin,f]
theorem Z31(G:Nat->V)(c:Col)(s:Sl Int)(a:s.l.length<1000000):InSp Tryz.prog G 86 [Za c 1 (V.int .i64) s] (Z5 Zj [(5505,.dead)])
  (λv H'=>∃ g,v=objV s.isNil 5505 g 1 s.l.length/\H' 5505=Sx s.isNil g s.l.length (flat (s.l.map (V.int .i64)))):=by
 refine Yr 5500 8 [.tmp 2] Tryz.func86 rfl rfl rfl rfl λX=>?_;simp only[Z5]
 cases s with
 |nil=>
  refine Z ?_;exact⟨0,by first|exact⟨rfl,rfl⟩|rfl⟩
 |mk b l=>
  have d:Za c 1 (V.int .i64) (.mk b l)=.slice c b 1 (l.map (V.int .i64)):=rfl;rw[d];have f:l.length<1000000:=a;refine Z ?_;intro g;refine⟨Z4 zo (by rw[List.length_map];omega),λe=>?_⟩;refine Zs ?_;refine Z ?_;exact⟨e,by rw[List.length_map,objV,if_neg (λq=>by cases q.1)],by rw[Sx,if_neg (λq=>by cases q.1)];first|rfl|(simp -implicitDefEqProofs only[go_sem,seval];try rfl)⟩
theorem Zaba(G:Nat->V)(j:Y6 G)(b c d:Col)(x:IxM)(m:PM)(o:IxP m x)(n:Nat)(p:PlM)(f:n<x.places.l.length)(i:x.places.l[n]?=some p)(h:p.out.l.length<1000000):InSp Tryz.prog G 55 [Uj b c d x,.int .i64 n] (Z5 Zj [(5505,.dead)])
  (λv H'=>∃ g,v=objV p.out.isNil 5505 g 1 p.out.l.length/\H' 5505=Sx p.out.isNil g p.out.l.length (flat (p.out.l.map (V.int .i64)))):=by
 refine Yr 5600 18 [.tmp 4] Tryz.func55 rfl rfl rfl rfl λX=>?_
 have k:(decide ((0:Int)<=(n:Int))&&decide ((n:Int)<x.places.l.length))=true:=by rw[Bool.and_eq_true];exact⟨zT,zT⟩
 refine Z ?_;refine Zc j ?_ (s:=Wm G _ _ _ _ _);refine Zg (zi k (zi i (zi f (zi Vj (zi V0 Yh))))) ?_;refine CallA.inl [(5505,.dead)] zk (by intro q a;rw[List.mem_singleton.1 a];rfl) ((Z31 G d p.out h).mono ?_);rintro v H' ⟨g,rfl,e⟩;simp only[List.map_cons,List.map_nil,e];simp -implicitDefEqProofs only[go_sem,seval,Z5];refine Z ?_;exact⟨g,rfl,zp⟩
theorem Zja(G:Nat->V)(k:Col)(v a:Int):Spec Tryz.prog G 56 [.int .i64 v,.view k (.int .i64 a)] Zj (λw _=>w=.bool (v==a)):=by
 refine Zo 0 7 [.tmp 3] Tryz.func56 λX=>?_;exact Zr
theorem zInt(w:World):(zeroValue 3).run Tryz.prog w=.ok (.int .i64 0) w:=zk
theorem del_in(G:Nat->V)(o:Y6 G)(k:Col)(g:Nat)(a b:Int)(i:a≠b):InSp Tryz.prog G 54 [.msl 5505 g 0 2 1,.func (.func 56) [] [.view k (.int .i64 a)]] (Z5 Zj [(5505,.cells .new g 0 [.int .i64 a,.int .i64 b])])
  (λv H'=>v=.msl 5505 g 0 1 1/\H' 5505=.cells .new g 0 [.int .i64 b,.int .i64 0]):=by
 refine Yr 5700 42 [.tmp 4] Tryz.func54 rfl rfl rfl rfl λX=>?_;refine Z ?_;refine CallA.bor o [Za .old 1 (V.int .i64) (.mk false [a,b]),.func (.func 56) [] [.view k.ent (.int .i64 a)]] zk ⟨?_,?_,trivial⟩ ((C1 G o .old 56 (λu=>∃ k,u=[.view k (.int .i64 a)]) ?_ _ ⟨_,rfl⟩ zk (· == a) (.mk false [a,b]) (show(2:Nat)<1000000 by decide) ?_).mono ?_);exact Rd.row (f:=V.int .i64) (l:=[a,b]) zp (λ_=>rfl) (λx y d=>by simp[V.cells]at d;subst d;exact .int _ _) (λ_=>rfl);exact Xf (.func _ _ _ (λx e=>by cases e) (λx e=>by rw[List.mem_singleton.1 e];exact .view _ _ λy d=>by simp[V.cells]at d;subst d;exact .int _ _)) rfl;rintro _ ⟨k,rfl⟩;exact⟨_,rfl⟩;rintro v _ _ ⟨k,rfl⟩;exact Zja G k v a;rintro _ _ rfl;refine⟨.int _ _,?_⟩
 have t:Rz (· == a) (Sl.mk false [a,b]).l=0:=by simp[Rz,Sl.l,List.findIdx?_cons]
 rw[t];refine Z ?_;refine Yc 2 (λj (_:Unit)=>st [(0,.msl 5505 g 0 2 1),(1,.func (.func 56) [] [.view k (.int .i64 a)]),(5,.int .i64 (if j=1 then 0 else 1)),(6,.int .i64 j)] [(5505,.cells .new g 0 (if j=1 then[.int .i64 a,.int .i64 b]else[.int .i64 b,.int .i64 b]))]) (λj _=>1<=j) 1 () zd (Nat.le_refl _) (Weak.st zp zp) ?_;intro j _ w p z m
 by_cases r:j=1
 subst r;have h:(b==a)=false:=beq_eq_false_iff_ne.2 (Ne.symm i);refine Z ?_;refine Zc o ?_ (s:=Zja G k.ent b a);rw[h];refine Z ?_;exact m _ ⟨zd,(),zd,Weak.st (by simp -implicitDefEqProofs only[go_sem,seval,show IntKind.i64.wrap 1=1 by decide,show IntKind.i64.wrap 2=2 by decide];try exact⟨rfl,rfl⟩) zp⟩;have q:j=2:=zo;subst q;refine Z1 ?_;refine Z0 ?_
 repeat refine Z6 ?_
 refine Jd 3 zk rfl rfl ?_;refine Zs ?_;refine⟨_,_,GivesE.clear Tryz.underlying29 zInt (ob:=5505) (g:=g) (n:=0) (off:=1) (cs:=[.int .i64 b,.int .i64 b]) (c:=.new) (fz:=0) (zp) (zp) (Nat.zero_le _) (Nat.le_refl _),?_⟩;refine Z ?_;exact⟨rfl,zp⟩
theorem Z9b(G:Nat->V)(d:Y6 G)(c:Col)(p:PgM)(A:IxP p.m.p p.x)(t:Nat)(y:TrM)(k:p.m.ways.l[t]?=some y)(n:Nat)(D:y.source=(n:Int))(f:PlM)(a:p.x.places.l[n]?=some f)(b:Int)(r:f.out.l=[(t:Int),b])(E:(t:Int)≠b):
  Spec Tryz.prog G 23 [Ph c p,.int .i64 t] Zj (λw _=>w=Za .new 1 (V.int .i64) (.mk false [b])):=by
 refine Zo 0 38 [.tmp 4] Tryz.func23 λX=>?_;have C:t<p.m.ways.l.length:=(List.getElem?_eq_some_iff.1 k).1;have j:n<p.x.places.l.length:=(List.getElem?_eq_some_iff.1 a).1;have z:decide ((t:Int)<0)=false:=zF;have u:decide ((t:Int)>=(p.m.ways.l.length:Int))=false:=zF;refine Z ?_;intro J;refine AW.weak (Zl (λo=>o==3) (l:=[(0,Ph c p),(3,.view .new (.int .i64 t))]) (m:=[]) ?_ trivial) ?_;simp -implicitDefEqProofs only[go_sem,seval];exact⟨Zb,Fz.ptr (v:=.int .i64 t) (c:=.new) (fz:=0) zp zp⟩;have s:=zi z (zi u (zi k (zi C (zi D (zi Wn (zi Yg Yh))))));refine I7 s d ?_;refine Z0 ?_
 repeat refine Z6 ?_
 refine B9 [0,1,2,3,4,5,6,7,8,9,10,11,12,13,15,14,16,17] [] ⟨λ_=>.top,λi=>if i=14 then .any else if i=16 then .any else .pure⟩ zk d zk zk zk zk ?_;simp -implicitDefEqProofs only[go_sem,seval,s];refine CallA.inl [(5505,.dead)] zk (by intro q h;rw[List.mem_singleton.1 h];rfl) ((Zaba G d c c c p.x p.m.p A n f j a (by rw[r];exact(by decide:(2:Nat)<1000000))).mono ?_);rintro v H ⟨g,rfl,e⟩;simp only[List.map_cons,List.map_nil,e,r];rw[Zrc (n:=[(t:Int),b].length) (Nat.succ_ne_zero _),Zsc (n:=[(t:Int),b].length) (Nat.succ_ne_zero _)];simp -implicitDefEqProofs only[go_sem,seval,Z5];refine CallA.inl [(5505,.cells .new g 0 [.int .i64 t,.int .i64 b])] zk (by intro q h;rw[List.mem_singleton.1 h];rfl) ((del_in G d .new g (t:Int) b E).mono ?_);rintro v H ⟨rfl,e⟩;simp only[List.map_cons,List.map_nil,e];simp -implicitDefEqProofs only[go_sem,seval,Z5];refine AW.weak (Zl (λo=>o==5505) (l:=[(4,Za .new 1 (V.int .i64) (.mk false [b]))]) (m:=[]) ?_ trivial) ?_;simp -implicitDefEqProofs only[go_sem,seval];refine Cv.msl (col:=id) 5505 g 0 1 1 .new 0 [.int .i64 b,.int .i64 0] [.int .i64 b] rfl zp rfl (λv B=>by rw[List.mem_singleton.1 B];rfl) (Nat.le_succ 1) λi I F=>?_
 obtain rfl:i=0:=by have:i<1:=F;omega
 exact Zb;exact Zr
theorem Rs(G:Nat->V)(r:Y6 G)(c c1:Col)(a b:Sl Int)(h:a.l=b.l)(ha:a.l.length<=1000000):
  Spec Tryz.prog G 22 [Za c 1 (V.int .i64) a,Za c1 1 (V.int .i64) b] Zj (λv _=>v=.bool true):=by
 refine Zo 0 26 [.tmp 4] Tryz.func22 λX=>?_
 have q:((a.l.length:Int) != (b.l.length:Int))=false:=by rw[h];simp
 refine Zf q ?_;refine Yc a.l.length (λk (_:Unit)=>st [(0,Za c 1 (V.int .i64) a),(1,Za c1 1 (V.int .i64) b),(5,.int .i64 k)] []) (λ_ _=>True) 0 () (Nat.zero_le _) trivial (Weak.st zp zp) ?_;intro k _ s _ t m
 by_cases e:k<a.l.length
 have d:decide ((k:Int)<(a.l.length:Int))=true:=zT;have j:=List.getElem?_eq_getElem e;generalize a.l[k]=p at j
 have i:b.l[k]?=some p:=by rw[<- h];exact j
 have g:k<b.l.length:=by rw[<- h];exact e
 have n:IntKind.i64.wrap ((k:Int)+1)=(k:Int)+1:=Wy zo zo;have o:(p != p)=false:=zS;refine Xm d ?_;refine I7 (zi o (zi j (zi i (zi e (zi g Yh))))) r ?_;refine Zf n ?_;exact m _ ⟨e,(),trivial,Weak.st zp zp⟩;have f:k=a.l.length:=zo;have d:decide ((k:Int)<(a.l.length:Int))=false:=zF;rw[f]at d⊢;exact Zq d
def plainV:Sl VtM:=.mk false (doorM.verts.l.take 9++[⟨[69,110,100],2,0,-1,[],[],.nil,[]⟩])
def plainW:Sl TrM:=.mk false (doorM.ways.l.set 6 ⟨[108,97,116,101],4,9,.nil,5,[],[],1⟩)
def plainM:MdM:={ doorM with verts:=plainV,ways:=plainW }
theorem Zvh(G:Nat->V)(q:Y6 G):Spec Tryz.prog G 21 [] Zj (λv _=>v=Zw .new .new plainM):=by
 refine Zo 0 18 [.cell 0 28] Tryz.func21 λX=>?_;refine Z ?_;intro i;refine Z ?_;refine CallA.inl [(7103,.dead),(7104,.dead),(7108,.dead),(7121,.dead),(7134,.dead)] zk (by intro p j;simp only[List.mem_cons,List.not_mem_nil,or_false]at j;rcases j with rfl|rfl|rfl|rfl|rfl<;>rfl) ?_;refine(Z7r G).mono ?_;rintro _ E ⟨h,e,d,k,b,rfl,x,w,u,t,s⟩;simp only[List.map_cons,List.map_nil,x,w,u,t,s];simp -implicitDefEqProofs only[go_sem,seval,Z5];intro g;refine AW.weak (Zl (λo=>o==7121) (l:=[(0,.ptr 0 i 0),(1,.ptr 1 g 0)]) (m:=[(0,.cells .new i 0 [.str [],.nils,.nils,.nils,.nils,.nils]),(1,.cells .new g 0 [.str doorM.name,.msl 7103 h 0 2 2,.msl 7104 e 0 3 1,.msl 7108 d 0 3 2,Za .new 8 (Yf .new) doorM.verts,.msl 7134 b 0 8 8]),(7103,.cells .new h 0 (flat (doorM.vars.l.map Z3))),(7104,.cells .new e 0 (flat (doorM.events.l.map V.str))),(7108,.cells .new d 0 (flat (doorM.regions.l.map Z3))),(7134,.cells .new b 0 (flat (doorM.ways.l.map (Yn .new))))]) ?_ ?_) ?_;simp -implicitDefEqProofs only[go_sem,seval];exact⟨Zb,Zb⟩;simp only[Zt,Zv,and_true];exact⟨FzO.keep rfl zp,FzO.of (cs:=[.str doorM.name,.msl 7103 h 0 2 2,.msl 7104 e 0 3 1,.msl 7108 d 0 3 2,.msl 7121 k 0 11 8,.msl 7134 b 0 8 8]) rfl zp ⟨Zb,Zb,Zb,Zb,Xa (f:=Yf .new) (l:=doorM.verts.l) (g:=k) (fz:=0) (c:=.new) rfl zp (Ej _),Zb,trivial⟩,FzO.keep rfl zp,FzO.keep rfl zp,FzO.keep rfl zp,FzO.keep rfl zp⟩
 repeat refine Z6 ?_
 refine Zy ⟨λ_=>.top,λ_=>.pure⟩ zk q zk zk ?_;have D:doorM.verts.l.length=11:=rfl;have C:doorM.verts.l[10]?=some ⟨[69,110,100],2,0,-1,[],[],.nil,[]⟩:=rfl
 have n:Ub Tryz.prog 25 (Za .new 8 (Yf .new) doorM.verts) none (some (.int .i64 9)) (some (.int .i64 9))=some (Za .new 8 (Yf .new) (.mk true (doorM.verts.l.take 9))):=by
  unfold Ub;rw[Tryz.underlying25];rfl
 have B:Za .new 8 (Yf .new) (.mk true (doorM.verts.l.take 9))=.slice .new true 8 ((doorM.verts.l.take 9).map (Yf .new)):=rfl;have A:((doorM.verts.l.take 9).map (Yf .new)).length=9:=rfl;rw[B]at n;simp -implicitDefEqProofs only[go_sem,seval,D,C,n,A,Zz];intro r;refine⟨Z4 zo zo,λa=>?_⟩;refine AW.weak (Weak.st (l:=[(0,.ptr 0 i 0),(1,.ptr 1 g 0)]) (m:=[(0,.cells .new i 0 [.str [],.nils,.nils,.nils,.nils,.nils]),(1,.cells .new g 0 [.str doorM.name,.msl 7103 h 0 2 2,.msl 7104 e 0 3 1,.msl 7108 d 0 3 2,.msl 11 a 0 10 8,.msl 7134 b 0 8 8]),(11,.cells .new a 0 (flat (plainV.l.map (Yf .new)))),(7103,.cells .new h 0 (flat (doorM.vars.l.map Z3))),(7104,.cells .new e 0 (flat (doorM.events.l.map V.str))),(7108,.cells .new d 0 (flat (doorM.regions.l.map Z3))),(7134,.cells .new b 0 (flat (doorM.ways.l.map (Yn .new))))]) zp zp) ?_;have z:(flat (doorM.ways.l.map (Yn .new))).set 50 (.int .i64 9)=flat (plainW.l.map (Yn .new)):=rfl;have y:(flat (doorM.ways.l.map (Yn .new))).length=64:=rfl;refine Xm (zi z y) ?_;refine AW.weak (Zl (λo=>o==7103||o==7104||o==7108||o==7134||o==11) (l:=[(0,.ptr 0 i 0),(1,.ptr 1 g 0)]) (m:=[(0,.cells .new i 0 [.str [],.nils,.nils,.nils,.nils,.nils]),(1,.cells .new g 0 (Zw .new .new plainM).cells)]) ?_ ?_) ?_;simp -implicitDefEqProofs only[go_sem,seval];exact⟨Zb,Zb⟩;simp only[Zt,Zv,and_true];exact⟨FzO.keep rfl zp,FzO.of (cs:=[.str doorM.name,.msl 7103 h 0 2 2,.msl 7104 e 0 3 1,.msl 7108 d 0 3 2,.msl 11 a 0 10 8,.msl 7134 b 0 8 8]) rfl zp ⟨Zb,Xa (f:=Z3) (l:=doorM.vars.l) rfl zp Pl,Xa (f:=V.str) (l:=doorM.events.l) rfl zp (λ_=>rfl),Xa (f:=Z3) (l:=doorM.regions.l) rfl zp Pl,Xa (f:=Yf .new) (l:=plainV.l) rfl zp (Ej _),Xa (f:=Yn .new) (l:=plainW.l) rfl zp (Z3b _),trivial⟩⟩
 refine Zf Zi ?_;rfl
deriving instance DecidableEq for StP
def G4(s t:Int)(u:Int):StP×List Int:=(⟨[s],t,[t],[t],[(u,[])]⟩,[u])
def plL:List (StP×List Int):=[G4 0 0 1,G4 2 1 3,G4 3 2 4,G4 4 3 3,G4 5 4 6,G4 6 5 7,G4 4 6 9,G4 1 7 1]
theorem Lo:plainM.p.withR=plL:=by decide +kernel
theorem Zg6:plL.map plainM.p.leafR=[[0],[1],[1],[1],[2],[2],[0],[]]:=by decide +kernel
theorem Zh6:Zuca plainM:=⟨by decide +kernel,zd⟩
theorem Zsaa:MdB plainM:=by constructor<;>decide
theorem Zraa:MdT plainM:=by constructor<;>decide
theorem Z0i:plainM.p.leftL [1,4,6] [-1,-1,-1] (G4 4 6 9)=[4,6,1]:=by decide +kernel
theorem Z1i:plainM.p.leftL [1,4,6] [-1,-1,-1] (G4 3 2 4)=[4]:=by decide +kernel
theorem Zxz:plainM.p.aheadB plainM.ix1.dp (G4 3 2 4) (G4 1 7 1)=true:=by decide +kernel
theorem Zwz:plainM.p.aheadB plainM.ix1.dp (G4 1 7 1) (G4 3 2 4)=false:=by decide +kernel
theorem Zyz:plainM.p.aheadB plainM.ix1.dp (G4 3 2 4) (G4 6 5 7)=false:=by decide +kernel
theorem Zuz:PM.meetL (plainM.p.takeL [1,4,6] [-1,-1,-1] (G4 3 2 4)) (plainM.p.takeL [1,4,6] [-1,-1,-1] (G4 4 6 9))=true:=by decide +kernel
theorem Ztz:(plF plainM.p 4).out.l=[3,6]:=by decide +kernel
def cfA:Sl Int:=.mk false [1,4,6]
def cfL:Sl Int:=.mk false [-1,-1,-1]
theorem Zxb(G:Nat->V)(Y:GExp G):Spec Tryz.prog G 6 [] Zj (λv _=>v=.bool true):=by
 have a:=Y.ok;refine Zo 0 95 [.tmp 0] Tryz.func6 λX=>?_;refine Z ?_;refine Zc a ?_ (ha:=rfl) (s:=Zvh G a);refine Ze a ?_ (s:=Iq G Y .old plainM Zsaa (λ_=>Zraa));rintro _ (⟨at_,er,he,rfl,M⟩|⟨p,rfl,ok⟩);exact absurd Zh6 M;have k:=ok.ok.rc Col.bk
 have T:(V.tuple [Ph .any p,.int .i64 0,.int .i64 0]).recol Col.bk=.tuple [Ph .any (p.rc Col.bk),.int .i64 0,.int .i64 0]:=by
  simp only[V.recol,Yv,W4];rfl
 rw[T];have b:(p.rc Col.bk).m.p=plainM.p:=ok.pm;have g:(p.rc Col.bk).L=plainM.p.withR:=ok.L;have e:(p.rc Col.bk).lv=plainM.p.withR.map plainM.p.leafR:=ok.lv
 have w:(p.rc Col.bk).x.dp=plainM.ix1.dp:=by
  show p.x.dp=_
  rw[ok.x]
 have t:(p.rc Col.bk).x.places=plainM.ix1.places:=by
  show p.x.places=_
  rw[ok.x]
 have st:=ok.st;generalize p.rc Col.bk=p at k b g e w t;clear T ok
 have h:p.lv=[[0],[1],[1],[1],[2],[2],[0],[]]:=by rw[e,Lo,Zg6]
 have R:p.lv[2]?=some [1]:=by rw[h];rfl
 have Q:p.lv[6]?=some [0]:=by rw[h];rfl
 have P:p.lv[7]?=some []:=by rw[h];rfl
 have u:p.lv.length=8:=by rw[h];rfl
 have q0:((0:Int) != 0)=false:=rfl;refine Zg (zi q0 (zi u Wn)) ?_;intro O N g4;refine AW.weak (Zl (λo=>o==25||o==26) (l:=[(1,Ph .any p),(4,.ptr 4 g4 0)]) (m:=[(4,.cells .new g4 0 [Za .new 1 (V.int .i64) cfA,Za .new 1 (V.int .i64) cfL])]) ?_ ?_) ?_;simp -implicitDefEqProofs only[go_sem,seval,Wn];exact⟨Zb,Zb⟩;simp only[Zt,Zv,and_true];exact FzO.of (cs:=[.msl 25 O 0 3 1,.msl 26 N 0 3 1]) rfl zp ⟨Xa (f:=V.int .i64) (l:=[1,4,6]) rfl zp (λ_=>rfl),Xa (f:=V.int .i64) (l:=[-1,-1,-1]) rfl zp (λ_=>rfl),trivial⟩;refine AW.weak (Zl (λo=>o==4) (l:=[(1,Ph .any p),(4,.view .new (Td .new cfA cfL))]) (m:=[]) ?_ trivial) ?_;simp -implicitDefEqProofs only[go_sem,seval];exact⟨Zb,Fz.ptr (v:=Td .new cfA cfL) (c:=.new) (fz:=0) rfl zp⟩
 have K:plainM.p.withR[2]?=some (G4 3 2 4):=by rw[Lo];rfl
 have J:plainM.p.withR[5]?=some (G4 6 5 7):=by rw[Lo];rfl
 have I:plainM.p.withR[6]?=some (G4 4 6 9):=by rw[Lo];rfl
 have H:plainM.p.withR[7]?=some (G4 1 7 1):=by rw[Lo];rfl
 have D:(p.rc Col.ent).m.p=plainM.p:=b;have ed:(p.rc Col.ent).x.dp=plainM.ix1.dp:=w;obtain⟨r,j⟩:=Zha (p:=p.rc Col.ent) st b g e cfA.l cfL.l K;obtain⟨o5,v5⟩:=Zha (p:=p.rc Col.ent) st b g e cfA.l cfL.l J;obtain⟨W,v6⟩:=Zha (p:=p.rc Col.ent) st b g e cfA.l cfL.l I;obtain⟨U,S⟩:=Zha (p:=p.rc Col.ent) st b g e cfA.l cfL.l H;have LF:=λn (hn:n<p.L.length) q (o:TkOk2 (p.rc Col.ent) cfA.l cfL.l n q)=>Z0c G a .any .old (p.rc Col.ent) (k.rc _) cfA cfL zd zd n _ hn o.lv o.rs (by have:=o.sm;exact(by omega:((p.rc Col.ent).m.p.leftL cfA.l cfL.l q).length<1000000))
 have hl:p.L.length=8:=by rw[g,Lo];rfl
 have L6:=LF 6 zo _ W;have L2:=LF 2 zo _ r;rw[show((p.rc Col.ent).m.p.leafR (G4 4 6 9)).flatMap ((p.rc Col.ent).m.p.exitL cfA.l cfL.l)=[4,6,1] by rw[D];exact Z0i]at L6;rw[show((p.rc Col.ent).m.p.leafR (G4 3 2 4)).flatMap ((p.rc Col.ent).m.p.exitL cfA.l cfL.l)=[4] by rw[D];exact Z1i]at L2;have E:=λn1 n2 q1 q2 h1 h2 v1 j s1 s2=>N5 G a .any (p.rc Col.ent) (k.rc _) n1 n2 q1 q2 h1 h2 v1 j s1 s2;rw[D,ed]at E;have B:=E 2 7 _ _ r.at_ U.at_ j S zd zd;have A:=E 7 2 _ _ U.at_ r.at_ S j zd zd;have C:=E 2 5 _ _ r.at_ o5.at_ j v5 zd zd;rw[Zxz]at B;rw[Zwz]at A;rw[Zyz]at C;have z:=Ga G a .any .old (p.rc Col.ent) (k.rc _) cfA cfL zd zd 2 6 _ _ r W;rw[D,show PM.meetL (plainM.p.takeL cfA.l cfL.l (G4 3 2 4)) (plainM.p.takeL cfA.l cfL.l (G4 4 6 9))=true from Zuz]at z;obtain⟨k3,y,e3,hk3,d,ey⟩:=MdM.wyAt (m:=p.m) (v:=3) zd (by rw[b];decide);obtain rfl:k3=3:=zo
 have F:y.source=((4:Nat):Int):=by
  have:(p.m.p.wy 3).source=y.source:=by rw[ey];rfl
  rw[<- this,b];rfl
 have S3:=Z9b G a .any (p.rc Col.ent) (k.rc _).x 3 y d 4 F (plF plainM.p 4) (by show p.x.places.l[4]?=_;rw[t];rfl) 6 Ztz zd;have i:=zi R (zi Q (zi P (zi u (zi Wn (zi Il (zi Yi Yh))))));refine Zf i ?_;simp -implicitDefEqProofs only[go_sem,seval,List.append_eq,i];intro g34;refine CallA.bor a [Za .any 1 (V.int .i64) (Zd [1]),Za .old 1 (V.int .i64) (.mk false [1])] zk ⟨Xf (Ra (c:=.any) (Zd [1])) rfl,Rd.row (f:=V.int .i64) (l:=[1]) zp (λ_=>rfl) (λx y d=>by simp[V.cells]at d;subst d;exact .int _ _) (λ_=>rfl),trivial⟩ ((Rs G a .any .old (Zd [1]) (.mk false [1]) rfl zd).mono ?_);rintro _ _ rfl;refine⟨.bool _,?_⟩;refine Zg i ?_;intro g43;refine CallA.bor a [Za .any 1 (V.int .i64) (Zd [0]),Za .old 1 (V.int .i64) (.mk false [0])] zk ⟨Xf (Ra (c:=.any) (Zd [0])) rfl,Rd.row (f:=V.int .i64) (l:=[0]) zp (λ_=>rfl) (λx y d=>by simp[V.cells]at d;subst d;exact .int _ _) (λ_=>rfl),trivial⟩ ((Rs G a .any .old (Zd [0]) (.mk false [0]) rfl zd).mono ?_);rintro _ _ rfl;refine⟨.bool _,?_⟩;refine Zg i ?_;simp only[<- Wn .any p,<- Yi];refine Zc a ?_ (s:=L6);intro g60;refine CallA.bor a [Za .old 1 (V.int .i64) (Zd [4,6,1]),Za .old 1 (V.int .i64) (.mk false [4,6,1])] zk ⟨Xf (Ra (c:=.new) (Zd [4,6,1])) rfl,Rd.row (f:=V.int .i64) (l:=[4,6,1]) zp (λ_=>rfl) (λx y d=>by simp[V.cells]at d;subst d;exact .int _ _) (λ_=>rfl),trivial⟩ ((Rs G a .old .old (Zd [4,6,1]) (.mk false [4,6,1]) rfl zd).mono ?_)
 rintro _ _ rfl;refine⟨.bool _,?_⟩;refine Zg i ?_;simp only[<- Wn .any p,<- Yi];refine Zc a ?_ (s:=L2);intro g67;refine CallA.bor a [Za .old 1 (V.int .i64) (Zd [4]),Za .old 1 (V.int .i64) (.mk false [4])] zk ⟨Xf (Ra (c:=.new) (Zd [4])) rfl,Rd.row (f:=V.int .i64) (l:=[4]) zp (λ_=>rfl) (λx y d=>by simp[V.cells]at d;subst d;exact .int _ _) (λ_=>rfl),trivial⟩ ((Rs G a .old .old (Zd [4]) (.mk false [4]) rfl zd).mono ?_);rintro _ _ rfl;refine⟨.bool _,?_⟩;refine Zg i ?_;simp only[<- Wn .any p,<- Yi];refine Zc a ?_ (s:=B);refine Zc a ?_ (s:=A);refine Zc a ?_ (s:=C);refine Zg i ?_;simp only[<- Wn .any p,<- Yi];refine Zc a ?_ (s:=z);refine Zc a ?_ (s:=S3);intro g92;refine CallA.bor a [Za .old 1 (V.int .i64) (.mk false [6]),Za .old 1 (V.int .i64) (.mk false [6])] zk ⟨Xf (Ra (c:=.new) (.mk false [6])) rfl,Rd.row (f:=V.int .i64) (l:=[6]) zp (λ_=>rfl) (λx y d=>by simp[V.cells]at d;subst d;exact .int _ _) (λ_=>rfl),trivial⟩ ((Rs G a .old .old (.mk false [6]) (.mk false [6]) rfl zd).mono ?_);rintro _ _ rfl;refine⟨.bool _,?_⟩;refine Zg i ?_;rfl
end Go.Hs
end

section
namespace Go.Proofs.YtjplgaebbfabnaaGreatDoor
open Go.RowKit Go.Hs Go.ChangeShapes Go.WideShapes Go.ChangeAt
set_option maxRecDepth 100000
theorem Dx(W:World):Reads Tryz.prog W 29 1 (λs:Sl Int=>[Za .any 1 (V.int .i64) s]):=
 Reads.slice Tryz.underlying29 (by kernel_rfl) (by decide) (Reads.int (W:=W) Tryz.underlying3 (by kernel_rfl))
theorem Z35(W:World):Reads Tryz.prog W 31 2 (λs:Sl Int×Sl Int=>(Td .any s.1 s.2).cells):=by
 refine⟨by kernel_rfl,λ_=>rfl,λenc f g m x h=>?_⟩;obtain⟨xs,n,_,_,d,c,e⟩:=DataW.trod_struct Tryz.underlying31 h
 have l:Tryz.prog.cellsOf 31=2:=by kernel_rfl
 rw[l]at d;have o:xs.length=2:=c;obtain⟨a,k⟩:=Reads.field (Dx W) (i:=0) (e 0 _ rfl) (by omega);obtain⟨b,j⟩:=Reads.field (Dx W) (i:=1) (e 1 _ rfl) (by omega)
 match m,d with
 |[c0,c1],_=>exact⟨(a,b),k.append j⟩
variable{W:World}{H:Type}{enc:TypeId×Value->H}{b0:Nat}{v:Value}{d:DataW H}{ps:List MemPlace}
theorem argC(c:Value.okWide Tryz.prog W .any b0 31 v)(h:DataW.Trod enc Tryz.prog W 0 (λ_=>true) true 31 v d ps):∃ x:Sl Int×Sl Int,Rel (Wj W) v (Td .old x.1 x.2):=by
 obtain⟨a,h⟩:=h;obtain⟨x,f⟩:=(Z35 W).2.2 enc true a _ _ h
 have b:Rel (Wj W) v (Td .any x.1 x.2):=by
  unfold Value.okWide at c;rw[Tryz.underlying31]at c;obtain⟨g,rfl,_,_⟩:=c;exact Ft f
 have e:=b.ofW_old;rw[Va]at e;exact⟨x,e⟩
end Go.Proofs.YtjplgaebbfabnaaGreatDoor
end

section
namespace Go.Proofs.YtjplgaebbfabnaaGreatDoor
open Go.RowKit Go.Hs Go.ChangeShapes Go.WideShapes Go.ChangeAt
set_option maxRecDepth 100000
set_option maxHeartbeats 4000000
theorem sfMaps:mapsRowed Tryz.prog=true:=by kernel_rfl
theorem Z79:(Tryz.prog.stops==[])=true:=by kernel_rfl
theorem Z89:(Tryz.prog.stopKnobs==[])=true:=by kernel_rfl
theorem sfKeys:(Rows.compileLeavesRow.plainKeys==Tryz.prog.plainKeys)=true:=by kernel_rfl
theorem Z99:Tryz.prog.stopsHeard=true:=by kernel_rfl
theorem Zaaa:Tryz.prog.mayEnter=true:=by kernel_rfl
theorem Zs5:(Rows.compileLeavesRow.lifted==Tryz.prog.liftsFinal)=true:=by kernel_rfl
theorem sfMake:(Tryz.prog.make==some Rows.compileLeavesRow.make)=true:=by kernel_rfl
end Go.Proofs.YtjplgaebbfabnaaGreatDoor
end
