/- A part. No condition. -/
import Derived.Test.YtoahejkahaimnaaGreatDoorP46
import Derived.Shelf.Sort.Plain
import Derived.Shelf.Slices.In.SortNone
set_option linter.all false
section
namespace Go.Hs
open Go.Proofs
set_option maxRecDepth 10000
set_option maxHeartbeats 2000000
def Rf(q:List Int):List V:=q.map (V.int .i64)
def Qg(q:List Int):List V:=q.map λ_=>V.agg []
theorem Ac(k:Int):∀ q:List Int,T3 (.int .i64) (.int .i64 k) (Rf q) (Qg q)=some (if q.contains k=true then some (.agg [])else none)
 |[]=>rfl
 |a::q=>by
  show T3 (.int .i64) (.int .i64 k) (.int .i64 a::Rf q) (.agg []::Qg q)=_
  rw[T3,if_pos rfl]
  by_cases e:k=a
  subst e;rw[if_pos rfl,if_pos zS];rw[if_neg e,Ac k q,List.contains_cons,beq_false_of_ne e,Bool.false_or]
theorem Zot{k:Int}:∀ {q:List Int},q.contains k=false->Ve (.int .i64) (.int .i64 k) (Rf q)=some none
 |[],_=>rfl
 |a::q,h=>by
  rw[List.contains_cons,Bool.or_eq_false_iff]at h
  show Ve (.int .i64) (.int .i64 k) (.int .i64 a::Rf q)=_
  rw[Ve,if_pos rfl,if_neg (λe=>by rw[e]at h;simp at h),Zot h.2];rfl
theorem Zr0{k:Int}{q:List Int}(h:q.contains k=false):Cr (.int .i64) (.int .i64 k) (.agg []) (Rf q) (Qg q)=some (Rf (q++[k]),Qg (q++[k])):=by
 unfold Cr;rw[Zot h];simp only[Rf,Qg,List.map_append,List.map_cons,List.map_nil]
@[go_sem] theorem build0:Tf Tryz.prog 139 []=some (.agg []):=zk
@[go_sem] theorem set_seen{a o b:Nat}{H:Heap}{k x:V}{K:V->Heap->Prop}:Tx Tryz.prog a H 138 (.mref o b) k x K=G6 a b (.int .i64) (H o) k x λlo p=>K (.tuple []) (Z3 H o (.mp lo b p.1 p.2)):=Oc Tryz.underlying138 Tryz.underlying3
theorem Z2v(q:List Int)(k:Int):Ov Tryz.prog 138 (.mapv (Rf q) (Qg q)) (.int .i64 k) true=some (.tuple [.agg [],.bool (q.contains k)]):=by
 unfold Ov;rw[Tryz.underlying138];simp only[Zgt,Tryz.underlying3,Ac]
 cases q.contains k<;>rfl
theorem N3{E:Ent}{τ : Nat->V}{H B:Heap}{l:List (Nat×V)}{m:List (Nat×AObj)}(h:T8 τ l)(g:T8 H m)(j:∀ o,(∀ p∈m,p.1≠o)->B o=.dead\/B o=H o):Weak E ⟨τ,H⟩ ⟨Z6 emp l,Z6 B m⟩:=by
 refine Ur (λ_=>false) (λt=>?_) (λo=>?_)
 rcases Wk (τ := emp) (f := τ) t l (Wq h)with d|d
 exact .inl d;refine .inr ?_
 show Fz _ H (τ t) (Z6 emp l t)
 rw[d];exact Fz.same _
 show FzO _ H o (Z6 B m o)
 by_cases c:∃ p∈m,p.1=o
 have:∀ (m:List (Nat×AObj)),(∀ p∈m,H p.1=p.2)->(∃ p∈m,p.1=o)->Z6 B m o=H o:=by
  intro m
  induction m with
  |nil=>rintro _ ⟨p,b,_⟩;cases b
  |cons p m ih=>
   intro i r;rw[Wb]
   by_cases e:o=p.1
   subst e;rw[Ye,i p (List.mem_cons_self ..)];rw[Zk _ _ e];obtain⟨n,a,k⟩:=r
   rcases List.mem_cons.1 a with rfl|a
   exact absurd k.symm e;exact ih (λp b=>i p (List.mem_cons_of_mem _ b)) ⟨n,a,k⟩
 rw[this m (Wq g) c];exact FzO.same rfl
 .have hno:∀ p∈m,p.1≠o:=λp b e=>c ⟨p,b,e⟩
  have:Z6 B m o=B o:=by
   try clear j h g c
   induction m with
   |nil=>rfl
   |cons p m ih=>
    rw[Wb,Zk _ _ (Ne.symm (hno p (List.mem_cons_self ..)))];exact ih λp b=>hno p (List.mem_cons_of_mem _ b)
  rw[this]
  rcases j o hno with q|q
  rw[q];trivial;rw[q];exact FzO.same rfl
def Jt(lost:Bool)(q es:List Int):List Int:=if lost=true then q else Sr q es
def Tl(cs:List Int)(off:Nat)(rest:List Int):Prop:=off+rest.length<=cs.length/\(cs.drop off).take rest.length=rest
theorem Tl.zero(l:List Int):Tl l 0 l:=⟨zo,by rw[List.drop_zero,List.take_length]⟩
theorem Tl.next{cs:List Int}{off:Nat}{v:Int}{r:List Int}(h:Tl cs off (v::r)):Tl cs (off+1) r:=by
 obtain⟨b,a⟩:=h;rw[List.length_cons]at b a;refine⟨zo,?_⟩;rw[List.drop_eq_getElem_cons zo,List.take_succ_cons]at a;exact(List.cons.inj a).2
theorem Tl.nil{cs:List Int}{off:Nat}{r:List Int}(h:Tl cs off r):Tl cs off []:=⟨by have:=h.1;simp;omega,rfl⟩
theorem Tl.at{cs:List Int}{off:Nat}{v:Int}{r:List Int}(h:Tl cs off (v::r)):cs[off]?=some v:=by
 obtain⟨b,a⟩:=h;rw[List.length_cons]at b a;rw[List.drop_eq_getElem_cons zo,List.take_succ_cons]at a;rw[List.getElem?_eq_getElem zo,(List.cons.inj a).1]
structure AQ where
 new:List Int
 cs:List Int
 off:Nat
 go:Nat
theorem Zg3(b:Bool)(q:List Int):Jt b q []=q:=by unfold Jt;split<;>rfl
theorem Zh3(b:Bool)(q a:List Int):(Jt b q a).length<=q.length+a.length:=by
 unfold Jt
 split
 omega
 .induction a generalizing q with
  |nil=>exact Nat.le_refl _
  |cons e a ih=>
   rw[Pr];have:=ih (if q.contains e=true then q else q++[e])
   split at this
   rename_i h;rw[if_pos h,List.length_cons];omega;rename_i h;rw[if_neg h];simp at this⊢;omega
theorem Ztx(b:Bool)(q a:List Int)(e:Int):Jt b q (a++[e])=if b=true then q else if(Jt b q a).contains e=true then Jt b q a else Jt b q a++[e]:=by
 unfold Jt;cases b;simp only[Bool.false_eq_true,if_false];rw[Zf3,Pr,Zfi];rfl
theorem Z7t(G:Nat->V)(hG:Y6 G)(N:Nat)(p:StP×V)(q cs rest:List Int)(off W C go b:Nat)(H:Heap)(hq:q.length<100000)(hT:Tl cs off rest)(hr:rest.length<100000)(he:p.1.ends.length<100000)(h6:H 6=.cells .new W 0 [.mref 19 b])(h7:H 7=.cells .new C 0 [.msl 20 go off rest.length 1])
  (U:H 19=.mp N b (Rf q) (Qg q)) (T:H 20=.cells .new go 0 (cs.map (V.int .i64))) (hd:∀ o,100<=o->o<200->H o=.dead):
  InlF Tryz.prog G N 62 [Uo .new p,.ptr 6 W 0,.ptr 7 C 0] H (λv H'=>v=.tuple []/\∃ w:AQ,q++w.new=Jt p.1.lost q (p.1.ends.map (·.1))/\Tl w.cs w.off (rest++w.new)/\H'=Z6 H [(7,.cells .new C 0 [.msl 20 w.go w.off (rest.length+w.new.length) 1]),(19,.mp N b (Rf (q++w.new)) (Qg (q++w.new))),(20,.cells .new w.go 0 (w.cs.map (V.int .i64)))]):=by
 refine ZoI 100 39 [] Tryz.func62 λX=>?_;refine Zf Su ?_;intro Y;have eEs:Xl .new p.1.ends=Za .new 2 (Wv .new) (Zb p.1.ends):=rfl;refine Zf (zi Su eEs) ?_
 refine Yf p.1.ends.length (λk (w:AQ)=>⟨Z6 emp [(1,.ptr 6 W 0),(2,.ptr 7 C 0),(3,.ptr 103 Y 0),(9,Za .new 2 (Wv .new) (Zb p.1.ends)),(10,.int .i64 p.1.ends.length),(11,.int .i64 k)],Z6 H [(7,.cells .new C 0 [.msl 20 w.go w.off (rest.length+w.new.length) 1]),(19,.mp N b (Rf (q++w.new)) (Qg (q++w.new))),(20,.cells .new w.go 0 (w.cs.map (V.int .i64))),(103,.cells .new Y 0 [Za .new 1 (V.int .i64) (Zb p.1.sources),.int .i64 p.1.first,Za .new 1 (V.int .i64) (Zb p.1.guards),Za .new 1 (V.int .i64) (Zb p.1.effects),Za .new 2 (Wv .new) (Zb p.1.ends),p.2])]⟩)
  (λk w=>q++w.new=Jt p.1.lost q ((p.1.ends.take k).map (·.1))/\Tl w.cs w.off (rest++w.new)) 0 ⟨[],cs,off,go⟩ (Nat.zero_le _) ⟨by rw[List.take_zero,List.map_nil,Zg3,List.append_nil],by rw[List.append_nil];exact hT⟩ (N3 zp ?_ λo n=>?_) ?_
 simp -implicitDefEqProofs only[go_sem,seval,h6,h7,U,T,List.append_nil,List.length_nil,Nat.add_zero];have t:o≠103:=λe=>n (103,.cells .new Y 0 [Za .new 1 (V.int .i64) (Zb p.1.sources),.int .i64 p.1.first,Za .new 1 (V.int .i64) (Zb p.1.guards),Za .new 1 (V.int .i64) (Zb p.1.effects),Za .new 2 (Wv .new) (Zb p.1.ends),p.2]) zS e.symm;exact .inr (Zk _ _ t).symm;rintro k ⟨new,D,of,I⟩ hk ⟨r,i⟩ L S;simp only at r i
 by_cases j:k<p.1.ends.length
 have x:decide ((k:Int)<(p.1.ends.length:Int))=true:=zT;have R:=List.getElem?_eq_getElem j;generalize p.1.ends[k]=u at R;have K:=zi Xq (zi h6 (zi (Z2v (q++new) u.1) (zi @Int.natCast_nonneg @Int.ofNat_lt)));refine Zf (zi x (zi R (zi j K))) ?_;intro g5;refine Zf K ?_;intro g66
 have O:(p.1.ends.take (k+1)).map (·.1)=(p.1.ends.take k).map (·.1)++[u.1]:=by
  rw[List.take_add_one,R,List.map_append]<;>rfl
 have g:=Ztx p.1.lost q ((p.1.ends.take k).map (·.1)) u.1;rw[<- O,<- r]at g;have Q:=Zh3 p.1.lost q ((p.1.ends.take k).map (·.1));rw[<- r,List.length_append,List.length_map,List.length_take]at Q;have hnw:new.length<200000:=zo;have M:IntKind.i64.wrap ((k:Int)+1)=(k:Int)+1:=W0 zo zo
 have h:∀ (X:Heap),(∀ o,o≠7->o≠19->o≠20->o≠103->o≠105->o≠106->o≠136->X o=H o)->∀ {a b c d:AObj} o,(∀ p∈[(7,a),(19,b),(20,c),(103,d)],p.1≠o)->H o=.dead\/H o=X o:=λX hX a b c d o n=>by
  have A:=n (7,a) zS;have y:=n (19,b) zS;have t:=n (20,c) zS;have J:=n (103,d) zS
  by_cases z1:100<=o/\o<200
  exact .inl (hd o z1.1 z1.2);exact .inr (hX o (Ne.symm A) (Ne.symm y) (Ne.symm t) (Ne.symm J) zo zo zo).symm
 cases F:(q++new).contains u.1;refine Zf (zi F K) ?_;refine Th [Uo .new (p.1,.top)] ⟨Zke ⟨Fz.same _,Fz.same _,Fz.same _,Fz.same _,Fz.same _,Fz.top _,trivial⟩,trivial⟩ ?_;refine Zc hG ?_ (ha:=by simp only[Su,List.map_cons,List.map_nil,Xy,Xf,Xu,Eb];rfl) (s:=Zko G hG .old (p.1,.top) (by show p.1.ends.length<_;omega));rw[F]at g;cases f:p.1.lost;rw[f]at g;refine Zf (zi f (zi (Zr0 F) (zi @Ii (zi @Nat.le_refl K)))) ?_;intro g36;have P:=i.1;rw[List.length_append]at P;refine⟨Yg zo zo,by rw[List.length_map];omega,Nat.zero_le _,λg2=>?_⟩
 have e1:((D.map (V.int .i64)).drop of).take ((rest.length+new.length)*1)=(rest++new).map (V.int .i64):=by
  rw[Nat.mul_one,<- List.length_append,<- List.map_drop,<- List.map_take,i.2]
 rw[e1,Nat.zero_sub];refine Zf M ?_;refine S _ ⟨j,⟨new++[u.1],rest++new++[u.1],0,g2⟩,⟨?_,(List.append_assoc rest new [u.1]) ▸ Tl.zero _⟩,N3 zp ?_ (h _ λo A y t J n5 n6 n7=>?_)⟩
 show q++(new++[u.1])=_
 rw[f,g,List.append_assoc]<;>rfl
 simp -implicitDefEqProofs only[go_sem,seval,List.length_append,List.append_assoc,List.map_append,List.length_nil,List.nil_append];exact rfl
 (repeat rw[Zk _ _ (by assumption)])
 refine Zf (zi f M) ?_;rw[f]at r;refine S _ ⟨j,⟨new,D,of,I⟩,⟨?_,i⟩,N3 zp zp (h _ λo A y t J n5 n6 n7=>?_)⟩
 show q++new=_
 rw[g,f];exact r
 (repeat rw[Zk _ _ (by assumption)])
 refine Zf (zi F M) ?_;rw[F]at g;refine S _ ⟨j,⟨new,D,of,I⟩,⟨?_,i⟩,N3 zp zp (h _ λo A y t J n5 n6 n7=>?_)⟩
 show q++new=_
 rw[g];cases f:p.1.lost;rfl;rw[f]at r;exact r
 (repeat rw[Zk _ _ (by assumption)])
 have E:k=p.1.ends.length:=zo;have x:decide ((p.1.ends.length:Int)<(p.1.ends.length:Int))=false:=zF;rw[E,List.take_length]at r;rw[E];refine AW.weak (N3 (B:=H) (l:=[(10,.int .i64 p.1.ends.length),(11,.int .i64 p.1.ends.length)]) (m:=[(7,.cells .new C 0 [.msl 20 I of (rest.length+new.length) 1]),(19,.mp N b (Rf (q++new)) (Qg (q++new))),(20,.cells .new I 0 (D.map (V.int .i64)))]) zp zp λo n=>?_) ?_
 by_cases z:o=103
 subst z;exact .inl (hd 103 zd zd);have A:=n (7,_) (List.mem_cons_self ..);have y:=n (19,_) (List.mem_cons_of_mem _ (List.mem_cons_self ..));have t:=n (20,_) (List.mem_cons_of_mem _ (List.mem_cons_of_mem _ (List.mem_cons_self ..)))
 right
 simp only[Wb,Fp,Z3,if_neg z,if_neg (Ne.symm A),if_neg (Ne.symm y),if_neg (Ne.symm t)];refine Zf x ?_;exact⟨_,rfl,rfl,⟨new,D,of,I⟩,r,i,rfl⟩
end Go.Hs
end

section
namespace Go.Proofs
open Go.Shelf
def Gt:Go.Shelf.Ren:=⟨fun|189=>64|125=>124|257=>123|128=>195|129=>196|294=>186|295=>187|296=>188|297=>189|298=>190|299=>191|216=>192|300=>193|301=>194|328=>220|329=>221|330=>222|331=>223|332=>224|215=>225|343=>250|n=>n,fun|28=>45|3=>3|46=>172|0=>0|51=>219|53=>221|4=>4|183=>212|182=>211|131=>216|5=>5|9=>9|218=>251|222=>255|228=>283|229=>284|n=>n,fun|n=>n⟩
theorem H9:Go.Proofs.Lays.n189 Tryz.prog Gt:={
 mixed:=by kernel_rfl
 f125:=Tryz.func124.trans (congrArg some (by kernel_rfl))
 f128:=Tryz.func195.trans (congrArg some (by kernel_rfl))
 f129:=Tryz.func196.trans (congrArg some (by kernel_rfl))
 f189:=Tryz.func64.trans (congrArg some (by kernel_rfl))
 f215:=Tryz.func225.trans (congrArg some (by kernel_rfl))
 f216:=Tryz.func192.trans (congrArg some (by kernel_rfl))
 f257:=Tryz.func123.trans (congrArg some (by kernel_rfl))
 f294:=Tryz.func186.trans (congrArg some (by kernel_rfl))
 f295:=Tryz.func187.trans (congrArg some (by kernel_rfl))
 f296:=Tryz.func188.trans (congrArg some (by kernel_rfl))
 f297:=Tryz.func189.trans (congrArg some (by kernel_rfl))
 f298:=Tryz.func190.trans (congrArg some (by kernel_rfl))
 f299:=Tryz.func191.trans (congrArg some (by kernel_rfl))
 f300:=Tryz.func193.trans (congrArg some (by kernel_rfl))
 f301:=Tryz.func194.trans (congrArg some (by kernel_rfl))
 f328:=Tryz.func220.trans (congrArg some (by kernel_rfl))
 f329:=Tryz.func221.trans (congrArg some (by kernel_rfl))
 f330:=Tryz.func222.trans (congrArg some (by kernel_rfl))
 f331:=Tryz.func223.trans (congrArg some (by kernel_rfl))
 f332:=Tryz.func224.trans (congrArg some (by kernel_rfl))
 f343:=Tryz.func250.trans (congrArg some (by kernel_rfl))
 t0:=Tryz.underlying0
 a0:=Tryz.isAgg0
 z0:=Tryz.sizeOf0
 v0:=Tryz.zeroValue0
 t3:=Tryz.underlying3
 a3:=Tryz.isAgg3
 z3:=Tryz.sizeOf3
 v3:=Tryz.zeroValue3
 t4:=Tryz.underlying4
 a4:=Tryz.isAgg4
 z4:=Tryz.sizeOf4
 v4:=Tryz.zeroValue4
 t5:=Tryz.underlying5
 a5:=Tryz.isAgg5
 z5:=Tryz.sizeOf5
 v5:=Tryz.zeroValue5
 t9:=Tryz.underlying9
 a9:=Tryz.isAgg9
 z9:=Tryz.sizeOf9
 v9:=Tryz.zeroValue9
 t28:=Tryz.underlying45
 a28:=Tryz.isAgg45
 z28:=Tryz.sizeOf45
 v28:=Tryz.zeroValue45
 t46:=Tryz.underlying172
 a46:=Tryz.isAgg172
 z46:=Tryz.sizeOf172
 v46:=Tryz.zeroValue172
 t51:=Tryz.underlying219
 a51:=Tryz.isAgg219
 z51:=Tryz.sizeOf219
 v51:=Tryz.zeroValue219
 t53:=Tryz.underlying221
 a53:=Tryz.isAgg221
 z53:=Tryz.sizeOf221
 v53:=Tryz.zeroValue221
 t131:=Tryz.underlying216
 a131:=Tryz.isAgg216
 z131:=Tryz.sizeOf216
 v131:=Tryz.zeroValue216
 t182:=Tryz.underlying211
 a182:=Tryz.isAgg211
 z182:=Tryz.sizeOf211
 v182:=Tryz.zeroValue211
 t183:=Tryz.underlying212
 a183:=Tryz.isAgg212
 z183:=Tryz.sizeOf212
 v183:=Tryz.zeroValue212
 t218:=Tryz.underlying251
 a218:=Tryz.isAgg251
 z218:=Tryz.sizeOf251
 v218:=Tryz.zeroValue251
 t222:=Tryz.underlying255
 a222:=Tryz.isAgg255
 z222:=Tryz.sizeOf255
 v222:=Tryz.zeroValue255
 t228:=Tryz.underlying283
 a228:=Tryz.isAgg283
 z228:=Tryz.sizeOf283
 v228:=Tryz.zeroValue283
 t229:=Tryz.underlying284
 a229:=Tryz.isAgg284
 z229:=Tryz.sizeOf284
 v229:=Tryz.zeroValue284 }
end Go.Proofs
end

section
namespace Go.Hs
open Go.Sort
section
variable{X:Cx}{H:Heap}
theorem Zff(u:Inv X H){o g:Nat}{l f:List Int}(s:H o=.cells .new g 0 (l.map (V.int .i64)))(M:f.length=l.length){b c:Nat}(r : X.β o g=some (b,c))(n:Nat)(os:Array Obj):
  ∃ Y:Cx,Y.w=grow (putRow (Value.int .i64) (Sort.ahead X.w n) b c f.toArray) os/\Goes X H Y (Z3 H o (.cells .new g 0 (f.map (V.int .i64)))):=by
 have B:=Goes.drew u (X.w.drawn+n);obtain⟨R,J,y,Q,c1,t,v,F,P⟩:=u.obj o .new g 0 _ s;rw[r]at y;cases y;rw[List.length_map]at F
 let d:Cx:={ X with w:=Sort.ahead X.w n }
 let a:Array Value:=putCells (Value.int .i64) c f.toArray c1
 have m:a.size=c1.size:=by simp[a,putCells]
 have A:=L0 (X:=d) B.inv s r (c1:=c1) (t:=t) v a m (λi N=>by
  simp only[a,putCells,Array.getElem?_mapIdx]
  cases O:c1[i]? with
  |none=>rfl
  |some x=>grind) .new (.inl rfl) g c 0 (f.map (V.int .i64)) (.inl ⟨rfl,rfl⟩) (Nat.le_refl _) (by grind) (by
  rw[List.length_map]
  have e:(a.toList.drop c).take f.length=f.map (Value.int .i64):=by
   apply List.ext_getElem?;intro j
   by_cases E:j<f.length
   have p:c+j<c1.size:=zo;simp[a,putCells,E,p]
   grind
  rw[e];refine⟨zS,λx C=>?_,λi L K=>?_⟩;obtain⟨z,_,rfl⟩:=List.mem_map.1 C;rfl;simp only[List.getElem_map]
  exact .int _ _)
 have q:=B.trans A
 have I:(d.add o g b c (d.w.setRow b a)).w=putRow (Value.int .i64) (Sort.ahead X.w n) b c f.toArray:=by
  show d.w.setRow b a=_
  unfold putRow mapBlock World.setRow
  congr 1
  apply Array.ext_getElem?;intro i;simp only[Array.getElem?_modify]
  split
  rename_i h;subst h;rw[show(Sort.ahead X.w n).heap[b]?=some (Obj.cells c1 t (0,0))from v];rfl;rfl
 have G:=Goes.below (X:=d.add o g b c (d.w.setRow b a)) A.inv (w':=grow (d.add o g b c (d.w.setRow b a)).w os) (by
  refine⟨rfl,rfl,rfl,by simp[grow],λk D=>?_⟩
  show((d.add o g b c (d.w.setRow b a)).w.heap++os)[k]?=_
  rw[Array.getElem?_append_left D])
 exact⟨_,by rw[<- I],q.trans G⟩
end
end Go.Hs
end

section
namespace Go.Hs
open Go.Proofs Go.Sort
set_option maxRecDepth 10000
theorem Zqu{G:Nat->V}{o g:Nat}{l:List Int}{H:Heap}{K:V->Heap->Prop}(T:l.length<1000000)(m:H o=Yb g (V.int .i64) l)(h:K (.tuple []) (Z3 H o (Yb g (V.int .i64) (srt l)))):
  CallA Tryz.prog G 64 [grown o g 1 l] H K:=by
 refine⟨zk,λX A v _ N=>?_⟩;obtain⟨x,rfl,s⟩:=N.one
 cases l with
 |nil=>
  cases s;refine(show Calls Tryz.prog 64 _ _ _ from Any.slices_Sort_int_none H9 none 0 X.w).mono ?_;rintro e w' ⟨rfl,rfl⟩
  have Q:Z3 H o (Yb g (V.int .i64) (srt []))=H:=by
   rw[show srt []=[]from by simp[srt]];exact Yq H _ _ m
  rw[Q]at h;exact⟨_,.tuple [],H,X,rfl,rfl,Goes.refl v,.tuple #[] [] rfl (λi q p=>by simp at p),h⟩
 |cons a r=>
  have u:Yb g (V.int .i64) (a::r)=.cells .new g 0 ((a::r).map (V.int .i64)):=by
   show AObj.cells .new g 0 (flat ((a::r).map (V.int .i64)))=_
   congr 1
   exact I4 _
  rw[u]at m;generalize J:a::r=L at *
  have f:L≠[]:=by rw[<- J];simp
  rw[Xa _ _ _ f]at s
  cases s with
  |msl _ _ _ _ _ b bs cap hβ hcap hb=>
  obtain⟨U,S,q,p,R,t,z,P,y⟩:=v.obj o .new g 0 _ m;rw[hβ]at q;cases q;rw[List.length_map]at P y
  have M:Holds (Value.int .i64) X.w b bs L.toArray:=by
   intro j d;have d:j<L.length:=zu d;have c:=y.len;have C:=y.rel j (by rw[c,List.length_map];exact d) (by rw[List.length_map];exact d);rw[List.getElem_map]at C;refine⟨?_,by simp[World.frozen?,z]⟩;have O:=C.int_inv
   have B:((R.toList.drop bs).take L.length)[j]?=some (.int .i64 L[j]):=by
    rw[List.getElem?_eq_getElem (by rw[c,List.length_map];exact d),O]
   rw[List.getElem?_take_of_lt d,List.getElem?_drop,Array.getElem?_toList]at B;simp[World.cell?,z,B,d]
  have k:b<X.w.heap.size:=(Array.getElem?_eq_some_iff.1 z).1;refine(show Calls Tryz.prog 64 _ _ _ from Any.slices_Sort_int H9 b bs cap L X.w M k zo).mono ?_;rintro e w' ⟨rfl,n,D,rfl⟩;obtain⟨Y,E,I⟩:=Zff v m (Zda L) hβ n D
  have F:Yb g (V.int .i64) (srt L)=.cells .new g 0 ((srt L).map (V.int .i64)):=by
   rw[We _ _ (by intro e;have:=Zda L;rw[e]at this;exact f (List.length_eq_zero_iff.1 this.symm))]
   congr 1
   exact I4 _
  rw[F]at h;exact⟨_,.tuple [],_,Y,rfl,E,I,.tuple #[] [] rfl (λi q p=>by simp at p),h⟩
end Go.Hs
end

section
namespace Go.Hs
section
def Lj:StP:=⟨[],0,[],[],[]⟩
def frL(L:List StP)(v:Int)(k:Nat):List Nat:=(List.range k).filter λi=>(L.getD i Lj).sources.contains v
theorem Za2(L:List StP)(v:Int)(k:Nat):frL L v (k+1)=frL L v k++(if(L.getD k Lj).sources.contains v=true then[k]else[]):=by
 unfold frL;rw[List.range_succ,List.filter_append]
 grind
theorem frL_lt{L:List StP}{v:Int}{k i:Nat}(h:i∈frL L v k):i<k:=List.mem_range.1 (List.mem_filter.1 h).1
theorem Z5g{σ : Type}(L:List StP)(v:Int)(F : σ -> StP -> σ):∀ (k:Nat) (q : σ),k<=L.length->(frL L v k).foldl (λq i=>F q (L.getD i Lj)) q=((L.take k).filter λs=>s.sources.contains v).foldl F q
 |0,q,_=>rfl
 |k+1,q,h=>by
  have a:=List.getElem?_eq_getElem (show k<L.length by omega)
  have b:L.getD k Lj=L[k]'(by omega):=by grind
  rw[Za2,List.foldl_append,Z5g L v F k q (by omega),List.take_add_one,a,List.filter_append,List.foldl_append,b]
  grind
namespace PM
variable{m:PM}
def stepQ(m:PM)(L:List StP)(v:Int)(q:List Int)(l:List Nat):List Int:=if m.kd v=4 then l.foldl (λq i=>Sr q (L.getD i Lj).at_) q else q
theorem stepQ_all(L:List StP)(v:Int)(q:List Int):m.stepQ L v q (frL L v L.length)=m.nextQ L q v:=by
 unfold stepQ nextQ
 split
 rw[Z5g L v (λq s=>Sr q s.at_) L.length q (Nat.le_refl _),List.take_length];rfl
theorem I3(L:List StP):∀ (l:List Nat) (q:List Int),∃ t,l.foldl (λq i=>Sr q (L.getD i Lj).at_) q=q++t
 |[],q=>⟨[],(List.append_nil q).symm⟩
 |i::l,q=>by
  obtain⟨t,b⟩:=D9 (L.getD i Lj).at_ q;obtain⟨u,a⟩:=I3 L l (Sr q (L.getD i Lj).at_)
  grind
theorem stepQ_pre(L:List StP)(v:Int)(q:List Int)(l:List Nat):∃ t,m.stepQ L v q l=q++t:=by
 unfold stepQ
 split
 exact I3 L l q;simp_all
theorem stepQ_snoc(L:List StP)(v:Int)(q:List Int)(l:List Nat)(i:Nat):m.stepQ L v q (l++[i])=if m.kd v=4 then Sr (m.stepQ L v q l) (L.getD i Lj).at_ else m.stepQ L v q l:=by
 unfold stepQ
 grind
theorem stepQ_len(L:List StP)(v:Int)(q:List Int)(l:List Nat){j:Nat}:(m.stepQ L v q (l.take j)).length<=(m.stepQ L v q l).length:=by
 unfold stepQ
 split
 obtain⟨t,a⟩:=I3 L (l.drop j) ((l.take j).foldl (λq i=>Sr q (L.getD i Lj).at_) q);rw[<- List.foldl_append,List.take_append_drop]at a
 grind
 grind
end PM
end
end Go.Hs
end

section
namespace Go.Hs
open Go.Proofs
set_option maxRecDepth 10000
set_option maxHeartbeats 4000000
def lv(L:List StP)(rv:Nat->V):List (StP×V):=(List.range L.length).map λj=>(L.getD j Lj,rv j)
def Pu(L:List StP)(rv:Nat->V):List V:=flat ((lv L rv).map (Uo .new))
theorem E3(L:List StP)(rv:Nat->V):(lv L rv).length=L.length:=by rw[lv,List.length_map,List.length_range]
theorem Ki(c:Col)(q:StP×V):(Uo c q).cells.length=6:=rfl
theorem Qk(L:List StP)(rv:Nat->V):(Pu L rv).length=L.length*6:=by rw[Pu,Xo (Ki _),E3]
theorem Zht{L:List StP}{rv:Nat->V}{i:Nat}(h:i<L.length):(lv L rv)[i]?=some (L.getD i Lj,rv i):=by
 rw[lv,List.getElem?_map,List.getElem?_range h]<;>rfl
theorem Zit{L:List StP}{rv:Nat->V}{i:Nat}(h:i<L.length):((Pu L rv).drop (i*6)).take 6=(Uo .new (L.getD i Lj,rv i)).cells:=by
 have:=Aa (f:=Uo .new) (Ki _) (lv L rv) (off:=i) (n:=1) (by rw[E3];omega);rw[Pu];rw[Nat.one_mul]at this;rw[this,List.take_one,List.head?_drop,Zht h]
 show flat [Uo .new _]=_
 simp[flat]
theorem Zm1{L:List StP}{rv:Nat->V}{i:Nat}(h:i<L.length):(Pu L rv)[i*6+5]?=some (rv i):=G8 (Ki _) (j:=5) zd (Zht h) rfl
theorem Zb5{L:List StP}{rv:Nat->V}{i:Nat}(h:i<L.length)(u:V):(Pu L rv).set (i*6+5) u=Pu L (Z3 rv i u):=by
 rw[Pu,Dh (Ki _) zd (y:=(L.getD i Lj,u)) (Zht h) rfl,Pu]
 congr 2
 apply List.ext_getElem;simp[lv];intro j b a;rw[List.getElem_set];simp only[lv,List.getElem_map,List.getElem_range,Z3]
 by_cases e:i=j
 subst e;simp;rw[if_neg e,if_neg (Ne.symm e)]
theorem Z0v{L:List StP}{rv rv':Nat->V}(h:∀ j,j<L.length->rv j=rv' j):Pu L rv=Pu L rv':=by
 unfold Pu lv;rw[List.map_congr_left (g:=λj=>(L.getD j Lj,rv' j)) λj a=>by rw[h j (List.mem_range.1 a)]]
theorem Z91(L:List StP)(rv:Nat->V)(v:Int):R4 (lv L rv) v (lv L rv).length=(frL L v L.length).map fun(i:Nat)=>(i:Int):=by
 unfold R4 frL;rw[E3]
 congr 1
 refine List.filter_congr λi a=>?_;rw[Zht (List.mem_range.1 a)]
theorem RdL.app{H:Heap}:∀ {a b c d:List V},RdL H a b->RdL H c d->RdL H (a++c) (b++d)
 |[],[],_,_,_,h=>h
 |[],_::_,_,_,h,_=>h.elim
 |_::_,[],_,_,h,_=>h.elim
 |_::_,_::_,_,_,h,k=>⟨h.1,RdL.app h.2 k⟩
theorem Z66(c:Col)(l:List (Int×List Int)):(Xl c l).Im:=V8 (λx y a=>by
 rw[Xq]at a;simp only[V.cells,List.mem_cons,List.not_mem_nil,or_false]at a
 rcases a with rfl|rfl
 exact .int _ _
 exact Sa _) _
theorem Zo3{H:Heap}{L:List StP}{rv rv':Nat->V}:∀ {js:List Nat},(∀ j∈js,Rd H (rv j) (rv' j))->RdL H (flat ((js.map λj=>(L.getD j Lj,rv j)).map (Uo .new))) (flat ((js.map λj=>(L.getD j Lj,rv' j)).map (Uo .old)))
 |[],_=>trivial
 |j::js,h=>RdL.app (a:=(Uo .new (L.getD j Lj,rv j)).cells) (b:=(Uo .old (L.getD j Lj,rv' j)).cells)
   ⟨Yv (Sa _) (Xu ..),Yv (.int _ _) rfl,Yv (Sa _) (Xu ..),Yv (Sa _) (Xu ..),Yv (Z66 _ _) (Eb _ _ _),h j (List.mem_cons_self ..),trivial⟩
   (Zo3 λj c=>h j (List.mem_cons_of_mem _ c))
theorem Rd.lv{H:Heap}{L:List StP}{rv rv':Nat->V}{c:Col}{o a fz:Nat}(e:H o=.cells c a fz (Pu L rv))(h:∀ j,j<L.length->Rd H (rv j) (rv' j)):Rd H (.msl o a 0 L.length 6) (.slice .old false 6 ((lv L rv').map (Uo .old))):=by
 refine Cv.msl (col:=λ_=>.old) o a 0 L.length 6 c fz _ _ rfl e (by rw[List.length_map,E3]) (λv b=>?_) (by rw[Qk];omega) λi g f=>?_;obtain⟨x,_,rfl⟩:=List.mem_map.1 b;exact Ki _ x;have:=(Zo3 (H:=H) (L:=L) (rv:=rv) (rv':=rv') (js:=List.range L.length) λj d=>h j (List.mem_range.1 d)).get.2 i (by have:=g;rw[Nat.zero_add]at this;exact this) f;simp only[Nat.zero_add];exact this
theorem Z8t(s:StP)(q:List Int):Jt s.lost q (s.ends.map (·.1))=Sr q s.at_:=by
 rw[Jt,StP.at_]
 split<;>rfl
theorem Zq3{F:Nat->Bool}{H:Heap}{L:List StP}{rv rv':Nat->V}{o a:Nat}(c:H o=.cells .new a 0 (Pu L rv))(d:F o=false)(h:∀ j,j<L.length->Fz F H (rv j) (rv' j)):FzO F H o (.cells .new a 0 (Pu L rv')):=by
 refine⟨.new,0,Pu L rv,c,.inl rfl,Nat.le_refl _,λe=>(by rw[d]at e;cases e),by rw[Qk,Qk],?_⟩
 have:FzL F H (Pu L rv) (Pu L rv'):=by
  unfold Pu Hs.lv;rw[List.map_map,List.map_map];refine FzL.flat (f:=λj=>Uo .new (L.getD j Lj,rv j)) (f':=λj=>Uo .new (L.getD j Lj,rv' j)) λj b=>?_;exact⟨Fz.same _,Fz.same _,Fz.same _,Fz.same _,Fz.same _,h j (List.mem_range.1 b),trivial⟩
 exact this.get.2
theorem Zmw{α : Type}(o g m:Nat){l c:List α}(h:l.length=c.length):grown o g m l=grown o g m c:=by
 cases l with
 |nil=>obtain rfl:c=[]:=List.length_eq_zero_iff.1 h.symm;rfl
 |cons a r=>cases c with
  |nil=>cases h
  |cons b t=>show V.msl .. = V.msl ..;rw[h]
structure RQ where
 q:List Int
 i:Nat
 cs:List Int
 off:Nat
 go:Nat
 gr:Nat
def P4(m:PM)(L:List StP)(i j:Nat):V:=if j<i then Za .new 1 (V.int .i64) (Zb (m.reachL L (L.getD j Lj)))else .nils
theorem Zrn(G:Nat->V)(hG:Y6 G)(c1 W U T S R:Col)(m:MdM)(x:IxM)(hx:IxP m.p x)(L:List StP)(hne:L≠[])(hl:L.length<100000)(hnv:m.p.vertices.length<100000)(he:∀ s∈L,s.ends.length<100000)(hso:∀ s∈L,s.sources.length<100000)(J:∀ s∈L,m.p.AtOk s)(d:Nat):
  InSp Tryz.prog G 29 [X8 c1 W U T S R m x,.msl 3000 d 0 L.length 6] (Z6 Zi [(3000,.cells .new d 0 (Pu L (P4 m.p L 0)))]) (λ_ H'=>H' 3000=.cells .new d 0 (Pu L (P4 m.p L L.length))):=by
 refine X9 0 71 [] Tryz.func29 rfl rfl rfl rfl λX=>?_;refine Z ?_;refine Yf L.length (λi (_:Unit)=>st [(0,X8 c1 W U T S R m x),(1,.msl 3000 d 0 L.length 6),(12,.msl 3000 d 0 L.length 6),(13,.int .i64 L.length),(14,.int .i64 i)] [(3000,.cells .new d 0 (Pu L (P4 m.p L i)))]) (λ_ _=>True) 0 () (Nat.zero_le _) trivial (Weak.st zp zp) ?_;intro i _ hi _ L1 hL1
 by_cases t:i<L.length
 have hlt:decide ((i:Int)<(L.length:Int))=true:=zT
 have B:L.getD i Lj∈L:=by
  rw[List.getD_eq_getElem?_getD,List.getElem?_eq_getElem t];exact List.getElem_mem t
 have hsg:=Zit (rv:=P4 m.p L i) t;have hrv:P4 m.p L i i=.nils:=if_neg (Nat.lt_irrefl _);rw[hrv]at hsg;have k6:i*6+6<=L.length*6:=zo;have k6':i*6<L.length*6:=zo;have fs:=zi t (zi hsg (zi Qk (zi k6 (zi k6' (zi Su (zi @Int.natCast_nonneg @Int.ofNat_lt))))));refine Xc (zi hlt fs) ?_;refine Xc (zi hlt fs) ?_;intro Q;refine Xc fs ?_;intro b K;refine Xc fs ?_;intro go A;refine Xc fs ?_;generalize hs:L.getD i Lj=s at *;have hes:=he s B;have hss:=hso s B;refine AW.weak (Weak.st (l:=[(0,X8 c1 W U T S R m x),(1,.msl 3000 d 0 L.length 6),(4,.int .i64 i),(5,.ptr 5 Q 0),(7,.ptr 7 A 0),(8,.func (.func 62) [] [.ptr 6 K 0,.ptr 7 A 0]),(12,.msl 3000 d 0 L.length 6),(13,.int .i64 L.length),(14,.int .i64 i)]) (m:=[(5,.cells .new Q 0 [Za .new 1 (V.int .i64) (Zb s.sources),.int .i64 s.first,Za .new 1 (V.int .i64) (Zb s.guards),Za .new 1 (V.int .i64) (Zb s.effects),Xl .new s.ends,.nils]),(6,.cells .new K 0 [.mref 19 b]),(7,.cells .new A 0 [.msl 20 go 0 0 1]),(19,.mp X.w.heap.size b [] []),(20,.cells .new go 0 []),(3000,.cells .new d 0 (Pu L (P4 m.p L i)))]) zp zp) ?_;refine Z4 (Z4 (Wm [2] zk (by rfl) ?_));simp -implicitDefEqProofs only[go_sem,seval,My,Su];refine⟨_,rfl,Cg (Z7t G hG X.w.heap.size (s,.nils) [] [] [] 0 K A go b _ zd (Tl.zero _) zd hes zp zp zp zp (λo h1 h2=>?_)) zp zp (λv H' hk=>?_) zk (k:=2) rfl zp⟩
 dsimp only
 (repeat rw[Zk _ _ zo])
 rfl;obtain⟨rfl,w,hw1,hw2,rfl⟩:=hk;obtain⟨q0,cs0,of0,go0⟩:=w
 have hq0:q0=Sr [] s.at_:=by
  have:q0=Jt s.lost [] (s.ends.map (·.1)):=hw1;rw[this,Z8t]
 have hQ0:m.p.QInv L s q0 0:=hq0 ▸ PM.QInv.zero (J s B);refine AW.block ?_;refine Vz (λz:RQ=>st [(0,X8 c1 W U T S R m x),(1,.msl 3000 d 0 L.length 6),(4,.int .i64 i),(5,.ptr 5 Q 0),(7,.ptr 7 A 0),(8,.func (.func 62) [] [.ptr 6 K 0,.ptr 7 A 0]),(12,.msl 3000 d 0 L.length 6),(13,.int .i64 L.length),(14,.int .i64 i)] [(5,.cells .new Q 0 [Za .new 1 (V.int .i64) (Zb s.sources),.int .i64 s.first,Za .new 1 (V.int .i64) (Zb s.guards),Za .new 1 (V.int .i64) (Zb s.effects),Xl .new s.ends,.nils]),(6,.cells .new K 0 [.mref 19 b]),(7,.cells .new A 0 [.msl 20 z.go z.off (z.q.length-z.i) 1]),(19,.mp X.w.heap.size b (Rf z.q) (Qg z.q)),(20,.cells .new z.go 0 (z.cs.map (V.int .i64))),(42,Yb z.gr (V.int .i64) (z.q.take z.i)),(3000,.cells .new d 0 (Pu L (Z3 (P4 m.p L i) i (grown 42 z.gr 1 (z.q.take z.i)))))]) (λz=>m.p.QInv L s z.q z.i/\Tl z.cs z.off (z.q.drop z.i)) (λz=>m.p.vertices.length-z.i) ⟨q0,0,cs0,of0,go0,0⟩ ⟨hQ0,hw2⟩ (Weak.st zp ?_) ?_
 dsimp only
 have e1:Z3 (P4 m.p L i) i .nils=P4 m.p L i:=Yq _ _ _ hrv;simp -implicitDefEqProofs only[go_sem,seval,List.take_zero,List.nil_append,List.drop_zero,List.length_nil,Nat.sub_zero,Nat.zero_add,Rv,Vr,e1];rintro⟨q,a,cs,of,gq,M⟩ ⟨hQ,hT⟩ L2 hL2;simp only at hQ hT;have hql:=hQ.len;have hii:=hQ.le
 by_cases hlq:a<q.length
 have O:decide (((q.length-a:Nat):Int)>0)=true:=zT;have hv:=List.getElem?_eq_getElem hlq;have hvm:=List.getElem_mem hlq;generalize q[a]=v at hv hvm
 have hdr:q.drop a=v::q.drop (a+1):=by
  have h1:=List.getElem?_eq_some_iff.1 hv;rw[<- h1.2];exact List.drop_eq_getElem_cons hlq
 rw[hdr]at hT
 have hcell:(cs.map (V.int .i64))[of]?=some (.int .i64 v):=by rw[List.getElem?_map,hT.at]<;>rfl
 have hcl:(cs.map (V.int .i64)).length=cs.length:=List.length_map ..;have hT1:=hT.1;rw[List.length_cons,List.length_drop]at hT1;have c1':0<q.length-a:=zo;have c2':of+1<=cs.length:=zo;have c3':1<=q.length-a:=zo;have i1:(0:Int)<((q.length-a:Nat):Int):=zo;have i2:(1:Int)<=((q.length-a:Nat):Int):=zo;have f8:=zi i1 (zi i2 (zi hcell (zi hcl (zi c1' (zi c2' (zi c3' (zi @Int.natCast_nonneg @Int.ofNat_lt)))))));refine Xc (zi O f8) ?_;refine Xc (zi O f8) ?_;have e7:q.length-a=(q.length-(a+1))+1:=zo
 have hin:(List.take a q).length=a:=by rw[List.length_take];omega
 have htk:q.take a++[v]=q.take (a+1):=by rw[List.take_add_one,hv]<;>rfl
 generalize hrest:q.length-(a+1)=nr at *;rw[e7];refine Z4 (Wm [1] zk (by rfl) ?_);simp -implicitDefEqProofs only[go_sem,seval,My];refine⟨_,rfl,Z6l (e:=3) (len:=nr) (ob:=20) (g:=gq) (off:=of) (m:=1) zk zk zp rfl (λof' hof=>?_) zk (n:=1) rfl (by rfl)⟩
 have hT':Tl cs of' (q.drop (a+1)):=by
  rcases hof with h|⟨h,h'⟩
  rw[h];exact hT.next;have:q.drop (a+1)=[]:=List.length_eq_zero_iff.1 (by rw[List.length_drop];omega);rw[this,h'];exact hT.nil
 simp -implicitDefEqProofs only[go_sem,seval,My]
 have hcg:(Pu L (Z3 (P4 m.p L i) i (grown 42 M 1 (q.take a))))[i*6+5]?=some (grown 42 M 1 (q.take a)):=by rw[Zm1 t,Ye]
 have hst:∀ u,(Pu L (Z3 (P4 m.p L i) i (grown 42 M 1 (q.take a)))).set (i*6+5) u=Pu L (Z3 (P4 m.p L i) i u):=λu=>by
  rw[Zb5 t];refine Z0v λj _=>?_
  simp only[Z3];split<;>rfl
 have f10:=zi t (zi hcg (zi hst (zi Qk (zi k6 (zi k6' (zi @Int.natCast_nonneg @Int.ofNat_lt))))));refine Xc f10 ?_;intro g41;refine X2 (f:=V.int .i64) (l:=q.take a) (l2:=[v]) (g:=M) (λ_=>rfl) rfl rfl rfl zp (Yg zo zO) λg2=>?_;rw[htk];have f10b:=zi t (zi hcg (zi hst (zi Qk (zi k6 (zi k6' (zi @Int.natCast_nonneg @Int.ofNat_lt))))));refine Xw f10b ?_;subst hrest;refine AW.weak (Weak.st (l:=[(0,X8 c1 W U T S R m x),(1,.msl 3000 d 0 L.length 6),(4,.int .i64 i),(5,.ptr 5 Q 0),(7,.ptr 7 A 0),(8,.func (.func 62) [] [.ptr 6 K 0,.ptr 7 A 0]),(12,.msl 3000 d 0 L.length 6),(13,.int .i64 L.length),(14,.int .i64 i),(9,.int .i64 v)]) (m:=[(5,.cells .new Q 0 [Za .new 1 (V.int .i64) (Zb s.sources),.int .i64 s.first,Za .new 1 (V.int .i64) (Zb s.guards),Za .new 1 (V.int .i64) (Zb s.effects),Xl .new s.ends,.nils]),(6,.cells .new K 0 [.mref 19 b]),(7,.cells .new A 0 [.msl 20 gq of' (q.length-(a+1)) 1]),(19,.mp X.w.heap.size b (Rf q) (Qg q)),(20,.cells .new gq 0 (cs.map (V.int .i64))),(42,Yb g2 (V.int .i64) (q.take (a+1))),(3000,.cells .new d 0 (Pu L (Z3 (P4 m.p L i) i (grown 42 g2 1 (q.take (a+1))))))]) zp zp) ?_;refine Xc f10 ?_;have hqi:a+1<=q.length:=zo;refine L5 hG [.slice .old false 6 ((lv L (Z3 (λj=>(P4 m.p L i j).recol Col.ent) i (Za .old 1 (V.int .i64) (Zb (q.take (a+1)))))).map (Uo .old)),.int .i64 v] zk ⟨Rd.lv (c:=.new) (fz:=0) (rv:=Z3 (P4 m.p L i) i (grown 42 g2 1 (q.take (a+1)))) zp (λj _=>?_),Yv (.int _ _) rfl,trivial⟩ ?_
 by_cases e:j=i
 subst e;rw[Ye,Ye];exact N5 (f:=V.int .i64) (f':=V.int .i64) (g:=g2) zp (λ_=>rfl) (λx y hy=>by simp[V.cells]at hy;subst hy;exact .int _ _) λ_=>rfl;rw[Zk _ _ e,Zk _ _ e];unfold P4
 split
 exact Yv (Sa _) rfl;exact Yv .nils rfl
 refine(B4 G hG .old .old (.mk false (lv L (Z3 (λj=>(P4 m.p L i j).recol Col.ent) i (Za .old 1 (V.int .i64) (Zb (q.take (a+1))))))) v (by show(lv L _).length<_;rw[E3];exact hl) (λy hy=>by
  have hy:y∈lv L _:=hy;obtain⟨j,N,rfl⟩:=List.mem_map.1 hy;refine hso _ ?_
  show L.getD j Lj∈L
  rw[List.getD_eq_getElem?_getD,List.getElem?_eq_getElem (List.mem_range.1 N)];exact List.getElem_mem (List.mem_range.1 N))).mono λw _ hw=>?_
 have hw:w=Za .new 1 (V.int .i64) (Zb (R4 (lv L _) v (lv L _).length)):=hw;rw[Z91]at hw;subst hw;refine⟨Zje (λx y hy=>by simp[V.cells]at hy;subst hy;exact .int _ _) _,?_⟩;have hF:∀ j∈frL L v L.length,j<L.length:=λj N=>frL_lt N;have E:=PM.stepQ_all (m:=m.p) L v q;have hsl:=λk=>PM.stepQ_len (m:=m.p) L v q (frL L v L.length) (j:=k);have hFl:(frL L v L.length).length<=L.length:=Nat.le_trans (List.length_filter_le _ _) (by rw[List.length_range];exact Nat.le_refl _);generalize frL L v L.length=F at hF E hsl hFl;have hQ':=hQ.next J hv;rw[<- E]at hQ';have hF':(F.map fun(i:Nat)=>(i:Int)).length=F.length:=List.length_map ..;refine Xw hF' ?_;refine AW.block ?_;refine Yf F.length (λk (z:RQ)=>st [(0,X8 c1 W U T S R m x),(1,.msl 3000 d 0 L.length 6),(4,.int .i64 i),(5,.ptr 5 Q 0),(7,.ptr 7 A 0),(8,.func (.func 62) [] [.ptr 6 K 0,.ptr 7 A 0]),(12,.msl 3000 d 0 L.length 6),(13,.int .i64 L.length),(14,.int .i64 i),(9,.int .i64 v),(47,Za .new 1 (V.int .i64) (Zb (F.map fun(i:Nat)=>(i:Int)))),(48,.int .i64 F.length),(49,.int .i64 k)] [(5,.cells .new Q 0 [Za .new 1 (V.int .i64) (Zb s.sources),.int .i64 s.first,Za .new 1 (V.int .i64) (Zb s.guards),Za .new 1 (V.int .i64) (Zb s.effects),Xl .new s.ends,.nils]),(6,.cells .new K 0 [.mref 19 b]),(7,.cells .new A 0 [.msl 20 z.go z.off (z.q.length-z.i) 1]),(19,.mp X.w.heap.size b (Rf z.q) (Qg z.q)),(20,.cells .new z.go 0 (z.cs.map (V.int .i64))),(42,Yb z.gr (V.int .i64) (z.q.take z.i)),(3000,.cells .new d 0 (Pu L (Z3 (P4 m.p L i) i (grown 42 z.gr 1 (z.q.take z.i)))))]) (λk z=>z.q=m.p.stepQ L v q (F.take k)/\z.i=a+1/\Tl z.cs z.off (z.q.drop (a+1))) 0 ⟨q,a+1,cs,of',gq,g2⟩ (Nat.zero_le _) ⟨?_,rfl,hT'⟩ (Weak.st zp zp) ?_
 show q=_
 rw[List.take_zero];unfold PM.stepQ;split<;>rfl
 rintro k ⟨r,i3,cs3,Y,P,C⟩ hk ⟨H,hi3,hT3⟩ L3 hL3;simp only at H hi3 hT3;subst hi3
 have hl3:r.length<100000:=by
  have:=hsl k;have:=hQ'.len;rw[H];omega
 obtain⟨t3,ht3⟩:=PM.stepQ_pre (m:=m.p) L v q (F.take k);rw[<- H]at ht3
 have hp3:r.take (a+1)=q.take (a+1):=by rw[ht3,List.take_append_of_le_length hqi]
 by_cases I:k<F.length
 have D:decide ((k:Int)<(F.length:Int))=true:=zT;have hgk:=List.getElem?_eq_getElem I;have hjm:=List.getElem_mem I;generalize F[k]=j at hgk hjm;have N:=hF j hjm
 have hgk':(F.map fun(i:Nat)=>(i:Int))[k]?=some (j:Int):=by rw[List.getElem?_map,hgk]<;>rfl
 have w1:IntKind.i64.wrap ((k:Int)+1)=(k:Int)+1:=W0 zo zo
 have hkl:k<(F.map fun(i:Nat)=>(i:Int)).length:=by rw[hF'];exact I
 have f12:=zi hgk' (zi I (zi hkl (zi hF' (zi @Int.natCast_nonneg @Int.ofNat_lt))));refine Xc (zi D f12) ?_;refine Xc (zi D f12) ?_;refine Xc f12 ?_;intro g55;obtain⟨v0,v1⟩:=hQ.rng v hvm;refine Xx 55 [X8 c1 W U T S R m x,.int .i64 v,Za .new 1 (V.int .u8) (.mk false [4])] ⟨Fz.same _,Fz.same _,Xm (f:=V.int .u8) (l:=[4]) (m:=1) (g:=g55) (fz:=0) (c:=.new) rfl zp (λ_=>rfl),trivial⟩ ?_;refine Zc hG ?_ (s:=Ut G hG _ _ _ _ _ _ _ m _ v v0 v1 _ zd);rw[C4]
 have hsn:m.p.stepQ L v q (F.take (k+1))=if m.p.kd v=4 then Sr r (L.getD j Lj).at_ else r:=by
  rw[List.take_add_one,hgk]
  show m.p.stepQ L v q (F.take k++[j])=_
  rw[PM.stepQ_snoc,<- H]
 have hq3l:a+1<=r.length:=by rw[ht3,List.length_append];omega
 cases qk:(m.p.kd v==4)
 have hkd:¬ m.p.kd v=4:=λe=>by rw[e]at qk;cases qk
 rw[if_neg hkd]at hsn;refine Zf (zi qk w1) ?_;exact hL3 _ ⟨I,⟨r,a+1,cs3,Y,P,C⟩,⟨hsn.symm,rfl,hT3⟩,Weak.st zp zp⟩;have hkd:m.p.kd v=4:=zu qk;rw[if_pos hkd]at hsn;refine Zm (b:=true) zp (λ_=>?_) (λh=>by cases h);refine AW.weak (Weak.st (l:=[(0,X8 c1 W U T S R m x),(1,.msl 3000 d 0 L.length 6),(4,.int .i64 i),(5,.ptr 5 Q 0),(7,.ptr 7 A 0),(8,.func (.func 62) [] [.ptr 6 K 0,.ptr 7 A 0]),(12,.msl 3000 d 0 L.length 6),(13,.int .i64 L.length),(14,.int .i64 i),(9,.int .i64 v),(47,Za .new 1 (V.int .i64) (Zb (F.map fun(i:Nat)=>(i:Int)))),(48,.int .i64 F.length),(11,.int .i64 j),(49,.int .i64 k)]) (m:=[(5,.cells .new Q 0 [Za .new 1 (V.int .i64) (Zb s.sources),.int .i64 s.first,Za .new 1 (V.int .i64) (Zb s.guards),Za .new 1 (V.int .i64) (Zb s.effects),Xl .new s.ends,.nils]),(6,.cells .new K 0 [.mref 19 b]),(7,.cells .new A 0 [.msl 20 P Y (r.length-(a+1)) 1]),(19,.mp X.w.heap.size b (Rf r) (Qg r)),(20,.cells .new P 0 (cs3.map (V.int .i64))),(42,Yb C (V.int .i64) (r.take (a+1))),(3000,.cells .new d 0 (Pu L (Z3 (P4 m.p L i) i (grown 42 C 1 (r.take (a+1))))))]) zp zp) ?_
 have hmj:L.getD j Lj∈L:=by
  rw[List.getD_eq_getElem?_getD,List.getElem?_eq_getElem N];exact List.getElem_mem N
 have hsj:=Zit (rv:=Z3 (P4 m.p L i) i (grown 42 C 1 (r.take (a+1)))) N;have hdl:(r.drop (a+1)).length=r.length-(a+1):=List.length_drop ..;have k7:j*6+6<=L.length*6:=zo;have k7':j*6<L.length*6:=zo;refine Wm [5] zk (by rfl) ?_;simp -implicitDefEqProofs only[go_sem,seval,My,N,hsj,Qk,k7,k7',Su,Int.ofNat_lt,Int.natCast_nonneg];refine⟨_,rfl,Cg (Z7t G hG X.w.heap.size (L.getD j Lj,Z3 (P4 m.p L i) i (grown 42 C 1 (r.take (a+1))) j) r cs3 (r.drop (a+1)) Y K A P b _ hl3 hT3 (by rw[hdl];omega) (he _ hmj) zp (by rw[hdl];exact zp) zp zp (λo h1 h2=>?_)) zp zp (λv H' hk=>?_) zk (k:=5) rfl zp⟩
 dsimp only
 (repeat rw[Zk _ _ zo])
 rfl;obtain⟨rfl,w,hw1,hw2,rfl⟩:=hk;obtain⟨new,cs4,of4,go4⟩:=w;simp only at hw1 hw2;have hp4:(r++new).take (a+1)=r.take (a+1):=List.take_append_of_le_length hq3l;refine Zf w1 ?_;refine hL3 _ ⟨I,⟨r++new,a+1,cs4,of4,go4,C⟩,⟨?_,rfl,?_⟩,Weak.st zp ?_⟩
 show r++new=_
 rw[hw1,hsn,Z8t]
 show Tl cs4 of4 ((r++new).drop (a+1))
 rw[List.drop_append_of_le_length hq3l];exact hw2
 dsimp only
 rw[hp4];have hle:r.length-(a+1)+new.length=r.length+new.length-(a+1):=zo;simp -implicitDefEqProofs only[go_sem,seval,hdl,List.length_append,hle];have hke:k=F.length:=zo;rw[hke,List.take_length,E]at H;have D:decide ((F.length:Int)<(F.length:Int))=false:=zF;rw[hke];refine Zf D ?_;refine hL2 _ ⟨⟨r,a+1,cs3,Y,P,C⟩,?_,⟨?_,hT3⟩,Weak.st zp zp⟩
 show m.p.vertices.length-(a+1)<m.p.vertices.length-a
 omega
 show m.p.QInv L s r (a+1)
 rw[H,<- E];exact hQ';have hie:a=q.length:=zo;rw[hie]at hQ⊢;have hE:=hQ.fin
 have O:decide (((q.length-q.length:Nat):Int)>0)=false:=by rw[Nat.sub_self]<;>rfl
 have hcg:(Pu L (Z3 (P4 m.p L i) i (grown 42 M 1 q)))[i*6+5]?=some (grown 42 M 1 q):=by rw[Zm1 t,Ye]
 refine AW.weak (Weak.st (l:=[(0,X8 c1 W U T S R m x),(1,.msl 3000 d 0 L.length 6),(4,.int .i64 i),(5,.ptr 5 Q 0),(7,.ptr 7 A 0),(8,.func (.func 62) [] [.ptr 6 K 0,.ptr 7 A 0]),(12,.msl 3000 d 0 L.length 6),(13,.int .i64 L.length),(14,.int .i64 i)]) (m:=[(7,.cells .new A 0 [.msl 20 gq of (q.length-q.length) 1]),(42,Yb M (V.int .i64) q),(3000,.cells .new d 0 (Pu L (Z3 (P4 m.p L i) i (grown 42 M 1 q))))]) zp (by simp -implicitDefEqProofs only[go_sem,seval,List.take_length])) ?_;have f17:=zi t (zi hcg (zi Qk (zi k6 (zi k6' (zi @Int.natCast_nonneg @Int.ofNat_lt)))));refine Xc (zi O f17) ?_;refine Xc (zi O f17) ?_;refine Zqu (g:=M) (l:=q) zo zp ?_
 have hrl:q.length=(m.p.reachL L s).length:=by rw[<- PM.reach_sort J (J s B) hE,Zda]
 rw[PM.reach_sort J (J s B) hE];have w1:IntKind.i64.wrap ((i:Int)+1)=(i:Int)+1:=W0 zo zo;refine Zs ?_;refine AW.weak (Zw (λo=>o==42) (l:=[(0,X8 c1 W U T S R m x),(1,.msl 3000 d 0 L.length 6),(12,.msl 3000 d 0 L.length 6),(13,.int .i64 L.length),(14,.int .i64 i)]) (m:=[(3000,.cells .new d 0 (Pu L (Z3 (P4 m.p L i) i (Za .new 1 (V.int .i64) (Zb (m.p.reachL L s))))))]) ?_ ⟨Zq3 (rv:=Z3 (P4 m.p L i) i (grown 42 M 1 q)) zp rfl λj N=>?_,trivial⟩) ?_;refine Zs ?_;exact⟨Fz.same _,Fz.same _,Fz.same _,Fz.same _,Fz.same _⟩
 by_cases e:j=i
 subst e;rw[Ye,Ye,Zmw 42 M 1 hrl];exact W7 (g:=M) (f:=V.int .i64) rfl zp λ_=>rfl;rw[Zk _ _ e,Zk _ _ e];exact Fz.same _;refine AW.weak (Zw (λ_=>false) (l:=[(0,X8 c1 W U T S R m x),(1,.msl 3000 d 0 L.length 6),(12,.msl 3000 d 0 L.length 6),(13,.int .i64 L.length),(14,.int .i64 i)]) (m:=[(3000,.cells .new d 0 (Pu L (P4 m.p L (i+1))))]) ?_ ⟨Zq3 (rv:=Z3 (P4 m.p L i) i (Za .new 1 (V.int .i64) (Zb (m.p.reachL L s)))) zp rfl λj N=>?_,trivial⟩) ?_;refine Zs ?_;exact⟨Fz.same _,Fz.same _,Fz.same _,Fz.same _,Fz.same _⟩
 by_cases e:j=i
 subst e;rw[Ye,P4,if_pos (Nat.lt_succ_self _),hs];exact Fz.same _;rw[Zk _ _ e]
 have:P4 m.p L (i+1) j=P4 m.p L i j:=by
  unfold P4
  by_cases h:j<i
  rw[if_pos h,if_pos zo];rw[if_neg h,if_neg zo]
 rw[this];exact Fz.same _;refine Zf w1 ?_;exact hL1 _ ⟨t,(),trivial,Weak.st zp zp⟩;have hie:i=L.length:=zo;have hlt:decide ((L.length:Int)<(L.length:Int))=false:=zF;rw[hie];refine Zf hlt ?_;exact⟨_,rfl,rfl⟩
end Go.Hs
end

section
namespace Go.Hs
open Go.Proofs
set_option maxRecDepth 10000
set_option maxHeartbeats 2000000
theorem Zgw{m:PM}(a:m.Acy){v r:Int}(f:0<=v)(h:v<m.vertices.length)(j:0<=r):((Oy m v).any λu=>m.rgO u==r)=m.withinB v r:=by
 have i:Oy m v=v::m.ups v:=if_pos f;rw[i,PM.withinB,Bool.eq_iff_iff,List.any_eq_true,List.any_eq_true]
 constructor
 rintro⟨u,d,e⟩;have b:=a.chain f h d;rw[beq_iff_eq,PM.rgO]at e
 by_cases c:0<=(m.vx u).of
 rw[if_pos c]at e
 have g:m.around u=(m.vx u).of:=by rw[PM.around,if_pos c]
 refine⟨(m.vx u).of,List.mem_cons_of_mem _ (a.ups_tr g c f h d),by rw[e];exact beq_self_eq_true _⟩;rw[if_neg c]at e;exact⟨u,d,by rw[e];exact beq_self_eq_true _⟩;rintro⟨u,d,e⟩;have b:=a.chain f h d;rw[beq_iff_eq]at e
 by_cases c:0<=(m.vx u).of
 have:=a.pt u b.1 b.2 c;omega;exact⟨u,d,by rw[PM.rgO,if_neg c,e];exact beq_self_eq_true _⟩
theorem Zlw(G:Nat->V)(i:Y6 G)(b c d:Col)(x:IxM)(m:PM)(a:m.Acy)(g:IxP m x)(v r:Int)(f:0<=v)(e:v<m.vertices.length)(h:0<=r):
  Spec Tryz.prog G 69 [Mz b c d x,.int .i64 v,.int .i64 r] Zi (λw _=>w=.bool (m.withinB v r)):=by
 rw[<- Zgw a f e h];exact Z51 G i b c d x m a g v r f e
theorem Z1e(G:Nat->V)(j:Y6 G)(b c d:Col)(x:IxM)(m:PM)(a:m.Acy)(h:IxP m x)(v s:Int)(n:0<=v)(l:v<m.vertices.length)(g:0<=s)(f:s<m.vertices.length)(i:m.kd s=1):
  Spec Tryz.prog G 70 [Mz b c d x,.int .i64 v,.int .i64 s] Zi (λw _=>w=.bool (m.inB v s)):=by
 have e:m.inB v s=(m.ups v).any λk=>k==s:=by
  rw[PM.inB,List.contains_eq_any_beq]
  congr 1
  funext k
  exact BEq.comm
 rw[e];exact Zmm G j b c d x m a h v s n l g f i
end Go.Hs
end

section
namespace Go.Hs
open Go.Proofs
set_option maxRecDepth 10000
set_option maxHeartbeats 2000000
theorem Hm(G:Nat->V)(t:Y6 G)(cr:Col)(b1 b2 b3 b4 b c d e f g:Col)(m:MdM)(x:IxM)(P:IxP m.p x)(z:m.p.Wfd)(q:StP×List Int)(j v:Int)(I:j=PM.srcOf q.1)(S:0<=v)(R:v<m.p.vertices.length)(E:0<=j)(D:j<m.p.vertices.length)
  (W:0<=q.1.first) (U:q.1.first<m.p.ways.length):
  Spec Tryz.prog G 68 [.int .i64 v,.view b1 (.bool (m.p.fixB j)),.view b2 (X8 b c d e f g m x),.view b3 (.int .i64 j),.view b4 (Yr cr q)] Zi (λw _=>w=.bool (!(m.p.inReach q.1 v))):=by
 refine Zo 0 51 [.tmp 6] Tryz.func68 λX=>?_;generalize k:m.p.inReach q.1 v=rb;rw[PM.inReach,<- I]at k;have a:=z.acy;obtain⟨ns,H,ev,J,K,Y⟩:=m.at E D;obtain⟨nf,N,T,A,B,M⟩:=m.wyAt W U
 have o:(m.p.vx j).region=H.region:=by rw[Y]<;>rfl
 have C:(m.p.wy q.1.first).kind=N.kind:=by rw[M]<;>rfl
 refine Z ?_;cases u:m.p.fixB j;refine Zf u ?_;refine Zp ⟨λ_=>.top,λi=>if i=3 then .any else .pure⟩ zk t zk zk ?_;refine Zs ?_;intro L;rw[u,if_neg zS]at k;refine Xx 28 [X8 b c d e f g m x,.int .i64 j,Za .new 1 (V.int .u8) (.mk false [1])] ⟨Fz.same _,Fz.same _,Xm (f:=V.int .u8) (l:=[1]) (m:=1) (g:=L) (fz:=0) (c:=.new) rfl zp (λ_=>rfl),trivial⟩ ?_;refine Zc t ?_ (s:=Ut G t _ _ _ _ _ _ _ m _ j E D _ zd);rw[C4];cases y:(m.p.kd j==1);have n:¬m.p.kd j=1:=zu y;rw[if_neg (λh=>n h.1)]at k;subst k;refine Zg y ?_;rfl;have n:m.p.kd j=1:=zu y;cases F:(N.kind==2)
 have r:¬(m.p.wy q.1.first).kind=2:=by rw[C];simpa using F
 rw[if_neg (λh=>r h.2)]at k;subst k;refine Zg (zi T (zi y (zi F (zi B (zi A (zi Ue (zi Z8 (zi Yc (zi @Int.natCast_nonneg @Int.ofNat_lt))))))))) ?_;rfl
 have r:(m.p.wy q.1.first).kind=2:=by rw[C];simpa using F
 rw[if_pos ⟨n,r⟩]at k;subst k;refine Zg (zi T (zi y (zi F (zi B (zi A (zi Ue (zi Z8 (zi Yc (zi @Int.natCast_nonneg @Int.ofNat_lt))))))))) ?_;refine Zp ⟨λ_=>.bool (m.p.inB v j),λ_=>.pure⟩ zk t zk zk ?_;refine Xw @Ue ?_;refine⟨⟨zk,?_⟩,?_⟩;simp -implicitDefEqProofs only[go_sem,seval,List.map_cons,List.map_nil]
 exact(Z1e G t _ _ _ _ m.p a (P.rc _) v j S R E D n).mono λw _ e=>by rw[e]<;>rfl
 exact Zr
 have Q:m.p.kd j≠10/\m.p.kd j≠11:=by
  unfold PM.fixB at u;simp only[Bool.or_eq_true,beq_iff_eq]at u;omega
 obtain⟨_,O,r1⟩:=z.fix j E D Q.1 Q.2;rw[u,if_pos rfl,o]at k;rw[o]at O;subst k;refine Zf u ?_;refine Zp ⟨λ_=>.bool (m.p.withinB v H.region),λ_=>.pure⟩ zk t zk zk ?_;rw[ev];simp -implicitDefEqProofs only[go_sem,seval,K,J,Ue,Zt,@Int.natCast_nonneg,@Int.ofNat_lt];refine⟨⟨zk,?_⟩,?_⟩;simp -implicitDefEqProofs only[go_sem,seval,List.map_cons,List.map_nil]
 exact(Zlw G t _ _ _ _ m.p a (P.rc _) v H.region S R O).mono λw _ e=>by rw[e]<;>rfl
 exact Zr
end Go.Hs
end

section
namespace Go.Hs
open Go.Proofs
set_option maxRecDepth 10000
set_option maxHeartbeats 4000000
theorem con3(k a b c:Int):[a,b,c].contains k=(k==a||k==b||k==c):=by
 show List.elem k [a,b,c]=_
 simp only[List.elem]
 cases k==a<;>cases k==b<;>cases k==c<;>rfl
theorem Zze(G:Nat->V)(B:Y6 G)(y:Col)(b c d e f g:Col)(m:MdM)(x:IxM)(M:IxP m.p x)(hw:m.p.ways.length<=600)(E:m.p.Wfd)(q:StP×List Int)(hsn:q.1.sources≠[])(s0:0<=PM.srcOf q.1)(s1:PM.srcOf q.1<m.p.vertices.length)(f0:0<=q.1.first)(f1:q.1.first<m.p.ways.length)
  (hel:q.1.ends.length<100000) (her:∀ e∈q.1.ends,e.1 = -1\/(0<=e.1/\e.1<m.p.vertices.length)) (hbr:∀ e∈q.1.ends,∀ t∈e.2,0<=t/\t<m.p.ways.length) (hbl:∀ e∈q.1.ends,e.2.length<100000) (hfl:q.1.effects.length<400000) (hfr:∀ t∈q.1.effects,0<=t/\t<m.p.ways.length)
  (hrl:q.2.length<100000) (hrr:∀ v∈q.2,0<=v/\v<m.p.vertices.length):
  Spec Tryz.prog G 32 [X8 b c d e f g m x,Yr y q] Zi (λw _=>w=.bool (m.p.rightS q.1 q.2)):=by
 refine Zo 0 85 [.tmp 4] Tryz.func32 λX=>?_
 have hsr:∃ r,q.1.sources=PM.srcOf q.1::r:=by
  cases h:q.1.sources with
  |nil=>exact absurd h hsn
  |cons a r=>exact⟨r,by rw[PM.srcOf,h]<;>rfl⟩
 obtain⟨r,hsr⟩:=hsr;generalize N:PM.srcOf q.1=u at *
 have h0:q.1.sources[0]?=some u:=by rw[hsr]<;>rfl
 have hp:0<q.1.sources.length:=by rw[hsr];exact Nat.succ_pos _
 refine Zf Yc ?_;intro g2 g3;refine AW.weak (Zw (λo=>o==2||o==3) (l:=[(2,.view .new (X8 b c d e f g m x)),(3,.view .new (Yr y q)),(4,.bool false)]) (m:=[]) ?_ trivial) ?_;refine Zs ?_;exact⟨Fz.ptr (v:=X8 b c d e f g m x) (c:=.new) (fz:=0) zp zp,Fz.ptr (v:=Yr y q) (c:=.new) (fz:=0) zp zp,Fz.same _⟩;refine Zf (zi h0 (zi hp Yc)) ?_;intro g5;have hEs:Xl y q.1.ends=Za y 2 (Wv y) (Zb q.1.ends):=rfl;refine AW.weak (Zw (λo=>o==5) (l:=[(2,.view .new (X8 b c d e f g m x)),(3,.view .new (Yr y q)),(5,.view .new (.int .i64 u))]) (m:=[]) ?_ trivial) ?_;refine Zs ?_;exact⟨Fz.same _,Fz.same _,Fz.ptr (v:=.int .i64 u) (c:=.new) (fz:=0) zp zp⟩;refine Zf (zi Yc hEs) ?_;refine Yf q.1.ends.length (λk (_:Unit)=>st [(2,.view .new (X8 b c d e f g m x)),(3,.view .new (Yr y q)),(5,.view .new (.int .i64 u)),(16,Za y 2 (Wv y) (Zb q.1.ends)),(17,.int .i64 q.1.ends.length),(18,.int .i64 k)] []) (λk _=>∀ i,i<k->m.p.endB q.1 i=true) 0 () (Nat.zero_le _) (λi h=>absurd h (Nat.not_lt_zero _)) (Weak.st zp zp) ?_;intro k _ hk hR L hL
 by_cases J:k<q.1.ends.length
 have hlt:decide ((k:Int)<(q.1.ends.length:Int))=true:=zT;have hg:=List.getElem?_eq_getElem J;have I:=List.getElem_mem J;generalize q.1.ends[k]=z at hg I;refine Zf (zi hlt (zi hg (zi J (zi Xq (zi @Int.natCast_nonneg @Int.ofNat_lt))))) ?_;intro g7;refine AW.weak (Zw (λo=>o==7) (l:=[(2,.view .new (X8 b c d e f g m x)),(3,.view .new (Yr y q)),(5,.view .new (.int .i64 u)),(6,.int .i64 k),(7,.view .new (Wv y z)),(16,Za y 2 (Wv y) (Zb q.1.ends)),(17,.int .i64 q.1.ends.length),(18,.int .i64 k)]) (m:=[]) ?_ trivial) ?_;refine Zs ?_;exact⟨Fz.same _,Fz.same _,Fz.same _,Fz.same _,Fz.ptr (v:=Wv y z) (c:=.new) (fz:=0) zp zp,Fz.same _,Fz.same _,Fz.same _⟩
 have T:PM.endAt q.1 k=z:=by rw[PM.endAt,List.getD_eq_getElem?_getD,hg]<;>rfl
 have O:m.p.endB q.1 k=false->m.p.rightS q.1 q.2=false:=λh=>by
  have:((List.range q.1.ends.length).all λi=>m.p.endB q.1 i)=false:=by
   rw[List.all_eq_false];exact⟨k,List.mem_range.2 J,by rw[h];simp⟩
  rw[PM.rightS,this]<;>rfl
 by_cases e1:z.1 = -1
 have Y:(z.1 == -1)=true:=by rw[e1]<;>rfl
 rw[O (by rw[PM.endB,T,Y]<;>rfl)];refine Zf (zi Y Xq) ?_;rfl
 .have Y:(z.1 == -1)=false:=beq_false_of_ne e1
  obtain⟨en0,en1⟩:0<=z.1/\z.1<m.p.vertices.length:=by
   rcases her z I with h|h
   exact absurd h e1;exact h
  cases hbe:z.2 with
  |nil=>
   have hn:Za y 1 (V.int .i64) (Zb z.2)=.nils:=by rw[hbe]<;>rfl
   refine Zf (zi Y (zi Xq hn)) ?_;refine Th [X8 b c d e f g m x,Za y 1 (V.int .i64) .nil] ⟨Fz.same _,Fz.same _,trivial⟩ ?_;refine Zc B ?_ (s:=Nl G B _ _ _ _ _ _ _ m _ .nil zd (λt ht=>by cases ht) E.sc)
   have hB:m.p.endB q.1 k=((List.range k).all λi=>m.p.orthoB (PM.endAt q.1 i).1 z.1):=by
    rw[PM.endB,T,Y,hbe]<;>rfl
   refine Zs ?_
   have hsl:((Zb q.1.ends).sub 0 k).l=q.1.ends.take k:=by rw[N4,Zl];simp
   have hsn:((Zb q.1.ends).sub 0 k).l.length=k:=by rw[hsl,List.length_take];omega
   have P:min k q.1.ends.length=k:=zo;refine Zf (zi Yc (zi hEs (zi hk (zi (Nat.zero_le k) (zi P (zi @Int.natCast_nonneg @Int.ofNat_lt)))))) ?_
   refine Yf k (λj (_:Unit)=>st [(2,.view .new (X8 b c d e f g m x)),(3,.view .new (Yr y q)),(5,.view .new (.int .i64 u)),(6,.int .i64 k),(7,.view .new (Wv y z)),(16,Za y 2 (Wv y) (Zb q.1.ends)),(17,.int .i64 q.1.ends.length),(18,.int .i64 k),(48,Za y 2 (Wv y) ((Zb q.1.ends).sub 0 k)),(49,.int .i64 k),(50,.int .i64 j)] [])
    (λj _=>∀ i,i<j->m.p.orthoB (PM.endAt q.1 i).1 z.1=true) 0 () (Nat.zero_le _) (λi h=>absurd h (Nat.not_lt_zero _)) (Weak.st (by refine Zs ?_;exact⟨rfl,by rw[Xq,hn],by rw[List.length_take,Nat.sub_zero,P]⟩) zp) ?_
   intro j _ hj hJ L2 hL2
   by_cases A:j<k
   .have C:decide ((j:Int)<(k:Int))=true:=zT
    have F:=List.getElem?_eq_getElem (l:=q.1.ends) (i:=j) zo;have Q:=List.getElem_mem (l:=q.1.ends) (n:=j) zo;generalize q.1.ends[j]'zo=D at F Q
    have H:PM.endAt q.1 j=D:=by rw[PM.endAt,List.getD_eq_getElem?_getD,F]<;>rfl
    have hgs:(List.take (k-0) q.1.ends)[j]?=some D:=by rw[Nat.sub_zero,List.getElem?_take,if_pos A,F]
    have hjl:j<(List.take (k-0) q.1.ends).length:=by rw[List.length_take,Nat.sub_zero];omega
    have S:=hR j A
    obtain⟨fn0,fn1⟩:0<=D.1/\D.1<m.p.vertices.length:=by
     rcases her D Q with h|h
     rw[PM.endB,H,h]at S;simp at S;exact h
    have w2:IntKind.i64.wrap ((j:Int)+1)=(j:Int)+1:=W0 zo zo;have R:decide (j<k)=true:=decide_eq_true A;refine Zf (zi R (zi A (zi hgs (zi hjl (zi Xq (zi @Int.natCast_nonneg @Int.ofNat_lt)))))) ?_;intro g9;refine Z ?_
    repeat first|refine AW.block ?_|refine Z4 ?_
    refine Zp ⟨λ_=>.bool (m.p.orthoB D.1 z.1),λ_=>.pure⟩ zk B zk zk ?_;refine Xw (zi @Xq @Ue) ?_;refine⟨⟨zk,?_⟩,?_⟩;simp -implicitDefEqProofs only[go_sem,seval,List.map_cons,List.map_nil]
    exact(Ej G B _ _ _ _ m.p E.acy (M.rc _) D.1 z.1 fn0 fn1 en0 en1).mono λw _ e=>by rw[e]<;>rfl
    cases W:m.p.orthoB D.1 z.1
    have hf:m.p.endB q.1 k=false:=by
     rw[hB,List.all_eq_false];exact⟨j,List.mem_range.2 A,by rw[H,W];simp⟩
    rw[O hf];refine Zf W ?_;rfl;refine Zf (zi W w2) ?_;refine hL2 _ ⟨A,(),λi K=>?_,Weak.st (by refine Zs ?_;exact⟨rfl,rfl,rfl⟩) zp⟩
    rcases Nat.lt_succ_iff_lt_or_eq.1 K with h|h
    exact hJ i h;subst h;rw[H];exact W
   have hje:j=k:=zo;have C:decide ((k:Int)<(k:Int))=false:=zF;rw[hje]at hJ⊢;have w1:IntKind.i64.wrap ((k:Int)+1)=(k:Int)+1:=W0 zo zo;refine Zf (zi C w1) ?_;refine hL _ ⟨J,(),λi K=>?_,Weak.st zp zp⟩
   rcases Nat.lt_succ_iff_lt_or_eq.1 K with h|h
   exact hR i h;subst h;rw[hB,List.all_eq_true];exact λi K=>hJ i (List.mem_range.1 K)
  |cons t0 tr=>
   have hn:Za y 1 (V.int .i64) (Zb z.2)=.slice y false 1 (z.2.map (V.int .i64)):=by rw[hbe]<;>rfl
   refine Zf (zi Y (zi Xq hn)) ?_;intro g34;refine Xx 34 [X8 b c d e f g m x,.int .i64 z.1,Za .new 1 (V.int .u8) (.mk false [1])] ⟨Fz.same _,Fz.same _,Xm (f:=V.int .u8) (l:=[1]) (m:=1) (g:=g34) (fz:=0) (c:=.new) rfl zp (λ_=>rfl),trivial⟩ ?_;refine Zc B ?_ (s:=Ut G B _ _ _ _ _ _ _ m _ z.1 en0 en1 _ zd);rw[C4]
   have hne:(z.2==[])=false:=by rw[hbe]<;>rfl
   cases qk:(m.p.kd z.1==1);rw[O (by rw[PM.endB,T,Y,hne,qk]<;>rfl)];refine Zg (zi qk hn) ?_;rfl;refine Zg (zi qk hn) ?_;refine Th [X8 b c d e f g m x,Za y 1 (V.int .i64) (Zb z.2)] ⟨Fz.same _,by rw[hn];exact Fz.same _,trivial⟩ ?_;refine Zc B ?_ (s:=Nl G B _ _ _ _ _ _ _ m _ (Zb z.2) (by rw[Zl];exact Nat.lt_of_lt_of_le (hbl z I) zd) (λt ht=>hbr z I t (by rw[Zl]at ht;exact ht)) E.sc);cases qf:m.p.forkedB z.2
   have hB:m.p.endB q.1 k=((List.range k).all λi=>m.p.orthoB (PM.endAt q.1 i).1 z.1):=by
    rw[PM.endB,T,Y,hne,qk,qf]<;>rfl
   refine Xw qf ?_
   have hsl:((Zb q.1.ends).sub 0 k).l=q.1.ends.take k:=by rw[N4,Zl];simp
   have hsn:((Zb q.1.ends).sub 0 k).l.length=k:=by rw[hsl,List.length_take];omega
   have P:min k q.1.ends.length=k:=zo;refine Zf (zi Yc (zi hEs (zi hk (zi (Nat.zero_le k) (zi P (zi @Int.natCast_nonneg @Int.ofNat_lt)))))) ?_
   refine Yf k (λj (_:Unit)=>st [(2,.view .new (X8 b c d e f g m x)),(3,.view .new (Yr y q)),(5,.view .new (.int .i64 u)),(6,.int .i64 k),(7,.view .new (Wv y z)),(16,Za y 2 (Wv y) (Zb q.1.ends)),(17,.int .i64 q.1.ends.length),(18,.int .i64 k),(48,Za y 2 (Wv y) ((Zb q.1.ends).sub 0 k)),(49,.int .i64 k),(50,.int .i64 j)] [])
    (λj _=>∀ i,i<j->m.p.orthoB (PM.endAt q.1 i).1 z.1=true) 0 () (Nat.zero_le _) (λi h=>absurd h (Nat.not_lt_zero _)) (Weak.st (by refine Zs ?_;exact⟨rfl,by rw[Xq,hn],by rw[List.length_take,Nat.sub_zero,P]⟩) zp) ?_
   intro j _ hj hJ L2 hL2
   by_cases A:j<k
   .have C:decide ((j:Int)<(k:Int))=true:=zT
    have F:=List.getElem?_eq_getElem (l:=q.1.ends) (i:=j) zo;have Q:=List.getElem_mem (l:=q.1.ends) (n:=j) zo;generalize q.1.ends[j]'zo=D at F Q
    have H:PM.endAt q.1 j=D:=by rw[PM.endAt,List.getD_eq_getElem?_getD,F]<;>rfl
    have hgs:(List.take (k-0) q.1.ends)[j]?=some D:=by rw[Nat.sub_zero,List.getElem?_take,if_pos A,F]
    have hjl:j<(List.take (k-0) q.1.ends).length:=by rw[List.length_take,Nat.sub_zero];omega
    have S:=hR j A
    obtain⟨fn0,fn1⟩:0<=D.1/\D.1<m.p.vertices.length:=by
     rcases her D Q with h|h
     rw[PM.endB,H,h]at S;simp at S;exact h
    have w2:IntKind.i64.wrap ((j:Int)+1)=(j:Int)+1:=W0 zo zo;have R:decide (j<k)=true:=decide_eq_true A;refine Zf (zi R (zi A (zi hgs (zi hjl (zi Xq (zi @Int.natCast_nonneg @Int.ofNat_lt)))))) ?_;intro g9;refine Z ?_
    repeat first|refine AW.block ?_|refine Z4 ?_
    refine Zp ⟨λ_=>.bool (m.p.orthoB D.1 z.1),λ_=>.pure⟩ zk B zk zk ?_;refine Xw (zi @Xq @Ue) ?_;refine⟨⟨zk,?_⟩,?_⟩;simp -implicitDefEqProofs only[go_sem,seval,List.map_cons,List.map_nil]
    exact(Ej G B _ _ _ _ m.p E.acy (M.rc _) D.1 z.1 fn0 fn1 en0 en1).mono λw _ e=>by rw[e]<;>rfl
    cases W:m.p.orthoB D.1 z.1
    have hf:m.p.endB q.1 k=false:=by
     rw[hB,List.all_eq_false];exact⟨j,List.mem_range.2 A,by rw[H,W];simp⟩
    rw[O hf];refine Zf W ?_;rfl;refine Zf (zi W w2) ?_;refine hL2 _ ⟨A,(),λi K=>?_,Weak.st (by refine Zs ?_;exact⟨rfl,rfl,rfl⟩) zp⟩
    rcases Nat.lt_succ_iff_lt_or_eq.1 K with h|h
    exact hJ i h;subst h;rw[H];exact W
   have hje:j=k:=zo;have C:decide ((k:Int)<(k:Int))=false:=zF;rw[hje]at hJ⊢;have w1:IntKind.i64.wrap ((k:Int)+1)=(k:Int)+1:=W0 zo zo;refine Zf (zi C w1) ?_;refine hL _ ⟨J,(),λi K=>?_,Weak.st zp zp⟩
   rcases Nat.lt_succ_iff_lt_or_eq.1 K with h|h
   exact hR i h;subst h;rw[hB,List.all_eq_true];exact λi K=>hJ i (List.mem_range.1 K);rw[O (by rw[PM.endB,T,Y,hne,qk,qf]<;>rfl)];refine Zg qf ?_;rfl
 .have hke:k=q.1.ends.length:=zo
  have hlt:decide ((q.1.ends.length:Int)<(q.1.ends.length:Int))=false:=zF;rw[hke]at hR⊢
  have hall:((List.range q.1.ends.length).all λi=>m.p.endB q.1 i)=true:=by
   rw[List.all_eq_true];exact λi K=>hR i (List.mem_range.1 K)
  rw[PM.rightS,hall,Bool.true_and,N];refine Zf (zi hlt Yc) ?_;intro g68;refine Xx 68 [X8 b c d e f g m x,.int .i64 u,Za .new 1 (V.int .u8) (.mk false [3,8,9])] ⟨Fz.same _,Fz.same _,Xm (f:=V.int .u8) (l:=[3,8,9]) (m:=1) (g:=g68) (fz:=0) (c:=.new) rfl zp (λ_=>rfl),trivial⟩ ?_;refine Zc B ?_ (s:=Ut G B _ _ _ _ _ _ _ m _ u s0 s1 _ zd);rw[con3,<- show m.p.fixB u=(m.p.kd u==3||m.p.kd u==8||m.p.kd u==9)from rfl];cases qx:m.p.fixB u
  .refine Zg (zi qx Yc) ?_
   intro g10;refine Zf (zi qx Yc) ?_;refine Xx 10 [Za y 1 (V.int .i64) (Zb q.2),.func (.func 68) [] [.view .new (.bool (m.p.fixB u)),.view .new (X8 b c d e f g m x),.view .new (.int .i64 u),.view .new (Yr y q)]] ⟨Fz.same _,by rw[qx];exact Fz.func ⟨Fz.ptr (c:=.new) (fz:=0) zp zp,Fz.same _,Fz.same _,Fz.same _,trivial⟩,trivial⟩ ?_
   refine Zc B ?_ (ha:=by simp only[List.map_cons,List.map_nil,Xu,V.recol,Yt,U2,U3]) (s:=Lu G B y.ent 68 (λU=>∃ y b1 b2 b3 b4 b c d e f g x,IxP m.p x/\U=[.view b1 (.bool (m.p.fixB u)),.view b2 (X8 b c d e f g m x),.view b3 (.int .i64 u),.view b4 (Yr y q)]) (by
    rintro _ ⟨y,b1,b2,b3,b4,b,c,d,e,f,g,x,M,rfl⟩
    exact⟨_,_,_,_,_,_,_,_,_,_,_,_,M.rc _,by simp only[List.map_cons,List.map_nil,V.recol,U2,U3];rfl⟩) [.view Col.new.ent (.bool (m.p.fixB u)),.view Col.new.ent (X8 b.ent c.ent d.ent e.ent f.ent g.ent m (x.rc Col.ent)),.view Col.new.ent (.int .i64 u),.view Col.new.ent (Yr y.ent q)] ⟨_,_,_,_,_,_,_,_,_,_,_,_,M.rc _,rfl⟩ zk (λv => !(m.p.inReach q.1 v)) (Zb q.2) (by rw[Zl];exact Nat.lt_of_lt_of_le hrl zd) (by
    rintro v hv _ ⟨y,b1,b2,b3,b4,b,c,d,e,f,g,x,M,rfl⟩;rw[Zl]at hv;obtain⟨v0,v1⟩:=hrr v hv
    exact Hm G B y b1 b2 b3 b4 b c d e f g m x M E q u v N.symm v0 v1 s0 s1 f0 f1))
   refine Z ?_
   skip
   first|rfl|(rw[List.all_eq_not_any_not];first|rfl|simp)
  .refine Zg (zi qx Yc) ?_
   intro g10;refine Zf (zi qx Yc) ?_;refine Th [X8 b c d e f g m x,Za y 1 (V.int .i64) (Zb q.1.effects)] ⟨Fz.same _,Fz.same _,trivial⟩ ?_;refine Zc B ?_ (s:=Nl G B _ _ _ _ _ _ _ m _ (Zb q.1.effects) (by rw[Zl];exact Nat.lt_of_lt_of_le hfl zd) (λt ht=>hfr t (by rw[Zl]at ht;exact ht)) E.sc);cases qf:m.p.forkedB q.1.effects
   .refine Zg (zi qf Yc) ?_
    refine Xx 10 [Za y 1 (V.int .i64) (Zb q.2),.func (.func 68) [] [.view .new (.bool (m.p.fixB u)),.view .new (X8 b c d e f g m x),.view .new (.int .i64 u),.view .new (Yr y q)]] ⟨Fz.same _,by rw[qx];exact Fz.func ⟨Fz.ptr (c:=.new) (fz:=0) zp zp,Fz.same _,Fz.same _,Fz.same _,trivial⟩,trivial⟩ ?_
    refine Zc B ?_ (ha:=by simp only[List.map_cons,List.map_nil,Xu,V.recol,Yt,U2,U3]) (s:=Lu G B y.ent 68 (λU=>∃ y b1 b2 b3 b4 b c d e f g x,IxP m.p x/\U=[.view b1 (.bool (m.p.fixB u)),.view b2 (X8 b c d e f g m x),.view b3 (.int .i64 u),.view b4 (Yr y q)]) (by
     rintro _ ⟨y,b1,b2,b3,b4,b,c,d,e,f,g,x,M,rfl⟩
     exact⟨_,_,_,_,_,_,_,_,_,_,_,_,M.rc _,by simp only[List.map_cons,List.map_nil,V.recol,U2,U3];rfl⟩) [.view Col.new.ent (.bool (m.p.fixB u)),.view Col.new.ent (X8 b.ent c.ent d.ent e.ent f.ent g.ent m (x.rc Col.ent)),.view Col.new.ent (.int .i64 u),.view Col.new.ent (Yr y.ent q)] ⟨_,_,_,_,_,_,_,_,_,_,_,_,M.rc _,rfl⟩ zk (λv => !(m.p.inReach q.1 v)) (Zb q.2) (by rw[Zl];exact Nat.lt_of_lt_of_le hrl zd) (by
     rintro v hv _ ⟨y,b1,b2,b3,b4,b,c,d,e,f,g,x,M,rfl⟩;rw[Zl]at hv;obtain⟨v0,v1⟩:=hrr v hv
     exact Hm G B y b1 b2 b3 b4 b c d e f g m x M E q u v N.symm v0 v1 s0 s1 f0 f1))
    refine Z ?_
    skip
    first|rfl|(rw[List.all_eq_not_any_not];first|rfl|simp)
   refine Zg (zi qf Yc) ?_
   first|rfl|simp
end Go.Hs
end

section
namespace Go.Hs
open Go.Proofs
set_option maxHeartbeats 1000000
set_option maxRecDepth 10000
theorem isI(s:List UInt8):((Rh s:Int)==2)=(Rh s==2):=by rw[Bool.eq_iff_iff,beq_iff_eq,beq_iff_eq];omega
theorem Z5f(c d:Col)(m:MdM):[V.view .old (Zv c.ent d.ent m)].map (V.recol Col.ent)=[V.view .old (Zv c.ent d.ent m)]:=by
 simp only[List.map_cons,List.map_nil,V.recol,O9,Jf];rfl
theorem Zyw(G:Nat->V)(g:GExp G)(c1 c d:Col)(m:MdM)(t:m.vars.l.length<1000000)(i:Nat){x:List UInt8×Int}(f:m.vars.l[i]?=some x)(k:x.1.length<1000000000000000):
  Spec Tryz.prog G 148 [.int .i64 i,Yw x,.view c1 (Zv c d m)] Zi (λv _=>v=.bool (m.p.varB i)):=by
 have e:=g.ok;refine Zo 0 24 [.tmp 5] Tryz.func148 λX=>?_;have r:i<m.vars.l.length:=(List.getElem?_eq_some_iff.1 f).1
 have n:m.p.nameAt i=x.1:=by
  show(m.vars.l.getD i ([],0)).1=x.1
  rw[List.getD_eq_getElem?_getD,f]<;>rfl
 rw[PM.varB,n];simp only[Zd,Wn];refine Z ?_;intro u;refine AW.weak (Zw (λo=>o==4) (l:=[(0,.int .i64 i),(2,.view c1 (Zv c d m)),(4,.view .new (Yw x))]) (m:=[]) ?_ trivial) ?_;refine Xw @Zd ?_;exact⟨Fz.same _,Fz.same _,Fz.ptr (v:=Yw x) (c:=.new) (fz:=0) zp zp⟩;simp only[Zd];refine Zf Wn ?_;refine Zc e ?_ (s:=Sz G g x.1 k);have b:=isI x.1
 cases j:(Rh x.1==2)with
 |false=>
  rw[j]at b;exact Zh b
 |true=>
  rw[j]at b
  cases h:(x.1==Qb)with
  |true=>
   have q:(x.1==[97,114,103])=true:=h;exact Zh (zi b (zi q Wn))
  |false=>
   have q:(x.1==[97,114,103])=false:=h;refine Zg (zi b (zi q (zi Wn (zi (Nat.zero_le i) (Nat.le_of_lt r))))) ?_;have a:=Z9w G e c.ent .old (m.vars.sub 0 i) (by rw[J2];simp;omega) x;rw[J2]at a;refine Zcf @Wn e ?_ (s:=a);exact Zr
theorem Zzw(G:Nat->V)(g:GExp G)(c1 c d:Col)(m:MdM)(o:m.events.l.length<1000000)(i:Nat){x:List UInt8}(f:m.events.l[i]?=some x)(j:x.length<1000000000000000):
  Spec Tryz.prog G 152 [.int .i64 i,.str x,.view c1 (Zv c d m)] Zi (λv _=>v=.bool (m.p.signalB i)):=by
 have e:=g.ok;refine Zo 0 18 [.tmp 5] Tryz.func152 λX=>?_;have n:i<m.events.l.length:=(List.getElem?_eq_some_iff.1 f).1
 have k:m.p.events.getD i []=x:=by
  show m.events.l.getD i []=x
  rw[List.getD_eq_getElem?_getD,f]<;>rfl
 rw[PM.signalB,k];simp only[Zd];refine Z ?_;refine Zc e ?_ (s:=Sz G g x j);have b:=isI x
 cases h:(Rh x==2)with
 |false=>
  rw[h]at b;exact Zh b
 |true=>
  rw[h]at b;refine Zg (zi b (zi (Nat.zero_le i) (Nat.le_of_lt n))) ?_;have a:=Ui G e c.ent x (m.events.sub 0 i) (by rw[J2];simp;omega);rw[J2]at a;refine Zc e ?_ (s:=a);exact Zr
theorem Z0w(G:Nat->V)(j:GExp G)(c1 c d:Col)(m:MdM)(i:Nat){x:List UInt8×Int}(r:m.regions.l[i]?=some x)(o:x.1.length<1000000000000000):
  Spec Tryz.prog G 155 [.int .i64 i,Yw x,.view c1 (Zv c d m)] Zi (λv _=>v=.bool (m.p.regionB i)):=by
 have g:=j.ok;refine Zo 0 35 [.tmp 5] Tryz.func155 λX=>?_
 have w:(m.p.regions.getD i ([],0))=x:=by
  show m.regions.l.getD i ([],0)=x
  rw[List.getD_eq_getElem?_getD,r]<;>rfl
 have b:m.p.ow (i:Int)=x.2:=He r;rw[PM.regionB,w];simp only[Zd,Wn];refine Z ?_;intro A
 by_cases h:i=0
 .rw[if_pos h]
  rw[h]at b;rw[show m.p.ow 0=x.2 from b]
  have q:((i:Int)==0)=true:=by simp[h]
  refine Zf q ?_;refine Zc g ?_ (s:=To G j x.1 o)
  cases a:Tb x.1 with
  |false=>exact Zh a
  |true=>exact Zh a
 .rw[if_neg h,b]
  have q:((i:Int)==0)=false:=by
   have:¬ (i:Int)=0:=zo;simpa using this
  refine Zf q ?_;refine Zc g ?_ (s:=To G j x.1 o)
  cases a:Tb x.1 with
  |false=>exact Zh a
  |true=>
   refine Zg a ?_;refine Zc g ?_ (s:=Nh G c.ent d.ent m x.2)
   cases t:m.p.stateB x.2 with
   |false=>exact Zh t
   |true=>
    have n:=t;simp only[PM.stateB,Bool.and_eq_true,decide_eq_true_eq]at n;obtain⟨k,y,f,z,e,u⟩:=MdM.at n.1.1 n.1.2;rw[u];exact Zh (zi f (zi e (zi z (zi Zt (zi @Int.natCast_nonneg @Int.ofNat_lt)))))
theorem Zxw(G:Nat->V)(w:GExp G)(c1 c d e:Col)(m:MdM)(B:m.events.l.length<1000000)(i:Nat){x:VtM}(E:m.verts.l[i]?=some x)(H:x.name.length<1000000000000000)(D:x.sub.length<1000000000000000)(C:x.defers.l.length<1000000):
  Spec Tryz.prog G 159 [.int .i64 i,Y0 e x,.view c1 (Zv c d m)] Zi (λv _=>v=.bool (m.p.vertexB (m.p.vx i))):=by
 have k:=w.ok;refine Zo 0 75 [.tmp 5] Tryz.func159 λX=>?_;rw[Ps E]
 have F:m.p.vertexB x.p=(Tb x.name&&decide (1<=x.kind)&&decide (x.kind<=12)&&m.p.liesB x.p&&((x.entry==[]&&x.exit==[]&&decide (x.defers.l.length=0)&&x.sub==[])||x.kind==1)&&Tb x.sub &&
  decide (x.entry.length<=4096)&&decide (x.exit.length<=4096)&&evB m.events.l x.defers.l):=rfl
 rw[F];simp only[Zd,Zt];refine Z ?_;intro I;refine AW.weak (Zw (λo=>o==4) (l:=[(2,.view c1 (Zv c d m)),(4,.view .new (Y0 e x))]) (m:=[]) ?_ trivial) ?_;refine Xw @Zd ?_;exact⟨Fz.same _,Fz.ptr (v:=Y0 e x) (c:=.new) (fz:=0) zp zp⟩;generalize a:(x.entry==[]&&x.exit==[]&&decide (x.defers.l.length=0)&&x.sub==[])=A;refine Wr (fun(_:Unit)=>st [(2,.view c1 (Zv c d m)),(4,.view .new (Y0 e x)),(6,.bool A)] []) (λ_=>True) (λJ j=>?_) ?_
 .have hz:(((x.defers.l.length:Nat):Int)==0)=decide (x.defers.l.length=0):=by
   rw[Bool.eq_iff_iff,beq_iff_eq,decide_eq_true_eq];omega
  cases f:(x.entry==[])with
  |false=>
   rw[f]at a;subst a;refine Zf (zi f Zt) ?_;exact j _ () trivial (Weak.st (V9 (zi @Zt @Zd)) zp)
  |true=>
  cases h:(x.exit==[])with
  |false=>
   rw[f,h]at a;subst a;refine Zf (zi f (zi h Zt)) ?_;exact j _ () trivial (Weak.st (V9 (zi @Zt @Zd)) zp)
  |true=>
  cases t:decide (x.defers.l.length=0)with
  |false=>
   rw[t]at hz;rw[f,h,t]at a;subst a;refine Zf (zi f (zi h (zi hz Zt))) ?_;exact j _ () trivial (Weak.st (V9 (zi @Zt @Zd)) zp)
  |true=>
   rw[t]at hz;rw[f,h,t]at a;subst a;refine Zf (zi f (zi h (zi hz Zt))) ?_;exact j _ () trivial (Weak.st (V9 (zi @Zt @Zd)) zp)
 intro _ _;refine Zf Zt ?_;refine Zc k ?_ (s:=To G w x.name H);cases f:Tb x.name;exact Zh f
 by_cases h:1<=x.kind
 rotate_left;have y:decide (x.kind>=1)=false:=zF;rw[decide_eq_false h];exact Zh y;have y:decide (x.kind>=1)=true:=zT;rw[decide_eq_true h]
 by_cases t:x.kind<=12
 rotate_left;have f3:decide (x.kind<=12)=false:=zF;rw[f3];exact Zh (zi y (zi f3 Zt));have f3:decide (x.kind<=12)=true:=zT;rw[f3];refine Zg (zi y (zi f3 (zi Zt Zd))) ?_;refine Zc k ?_ (s:=Zio G k c.ent d.ent e.ent m x);cases u:m.p.liesB x.p;exact Zh u;cases A;cases z:(x.kind==1);exact Zh (zi u (zi z Zt));refine Zg (zi u (zi z (zi Zt Zd))) ?_;refine Zc k ?_ (s:=To G w x.sub D);cases g:Tb x.sub;exact Zh g;have b:decide (((x.entry.length:Nat):Int)<=4096)=decide (x.entry.length<=4096):=decide_eq_decide.2 zo;have n:decide (((x.exit.length:Nat):Int)<=4096)=decide (x.exit.length<=4096):=decide_eq_decide.2 zo;cases r:decide (x.entry.length<=4096);rw[r]at b;exact Zh (zi g (zi b Zt));rw[r]at b;cases q:decide (x.exit.length<=4096);rw[q]at n;exact Zh (zi g (zi b (zi n Zt)));rw[q]at n;refine Zg (zi g (zi b (zi n (zi Zt Zd)))) ?_;refine Zc k ?_ (s:=Od G k c.ent d.ent e.ent m x.defers B C);exact Zr;refine Zg (zi u (zi Zt Zd)) ?_;refine Zc k ?_ (s:=To G w x.sub D);cases g:Tb x.sub;exact Zh g;have b:decide (((x.entry.length:Nat):Int)<=4096)=decide (x.entry.length<=4096):=decide_eq_decide.2 zo;have n:decide (((x.exit.length:Nat):Int)<=4096)=decide (x.exit.length<=4096):=decide_eq_decide.2 zo;cases r:decide (x.entry.length<=4096);rw[r]at b;exact Zh (zi g (zi b Zt));rw[r]at b;cases q:decide (x.exit.length<=4096);rw[q]at n;exact Zh (zi g (zi b (zi n Zt)))
 rw[q]at n;refine Zg (zi g (zi b (zi n (zi Zt Zd)))) ?_;refine Zc k ?_ (s:=Od G k c.ent d.ent e.ent m x.defers B C);exact Zr
theorem Zbp(G:Nat->V)(a:Y6 G)(c1 c d e:Col)(m:MdM)(b:m.p.Rt5)(i:Nat){x:VtM}(f:m.verts.l[i]?=some x):
  Spec Tryz.prog G 162 [.int .i64 i,Y0 e x,.view c1 (Zv c d m)] Zi (λv _=>v=.bool (m.p.deepB i)):=by
 refine Zo 0 10 [.tmp 5] Tryz.func162 λX=>?_;have h:i<m.verts.l.length:=(List.getElem?_eq_some_iff.1 f).1;have g:m.p.deepB i=decide (((m.p.depth i:Nat):Int)<=64):=decide_eq_decide.2 zo;rw[g];simp only[Zd,Zt];refine Z ?_;intro j;refine Z ?_;refine Zc a ?_ (s:=Ztg G a c.ent d.ent m b i zo (by rw[m.nv];omega));exact Zr
theorem Zkh(G:Nat->V)(c1 c d:Col)(m:MdM)(v:Int):Spec Tryz.prog G 164 [.int .i64 v,.view c1 (Zv c d m)] Zi (λw _=>w=.bool (m.p.inV v)):=by
 refine Zo 0 13 [.tmp 3] Tryz.func164 λX=>?_;rw[PM.inV,m.nv];simp only[Zd]
 by_cases a:0<=v
 have q:decide (v>=0)=true:=zT;rw[decide_eq_true a];exact Zq q;have q:decide (v>=0)=false:=zF;rw[decide_eq_false a];exact Zq q
theorem Zww(G:Nat->V)(F:GExp G)(c1 K w c d y u e:Col)(m:MdM)(I:m.events.l.length<1000000)(i:Nat){x:TrM}(H:m.ways.l[i]?=some x)(M:x.name.length<1000000000000000)(L:x.triggers.l.length<1000000):
  Spec Tryz.prog G 166 [.int .i64 i,Xp e x,.view K (.func (.func 164) [] [.view w (Zv y u m)]),.view c1 (Zv c d m)] Zi (λv _=>v=.bool (m.p.wayB (m.p.wy i))):=by
 have o:=F.ok;refine Zo 0 71 [.tmp 6] Tryz.func166 λX=>?_;rw[Mw H]
 have J:m.p.wayB x.p=(Tb x.name&&m.p.inV x.source&&m.p.inV x.target&&evB m.events.l x.triggers.l&&decide (0<=x.after)&&decide (x.after<=65535)&&(x.after==0||decide (x.triggers.l.length=0)) &&
  decide (1<=x.kind)&&decide (x.kind<=3)&&decide (x.guard.length<=4096)&&decide (x.effect.length<=4096)):=rfl
 rw[J];simp only[Z8];refine Z ?_;intro N;refine Vp zk ?_;simp -implicitDefEqProofs only[go_sem,seval,Z8,List.append_eq,List.cons_append,List.nil_append];refine Zc o ?_ (s:=To G F x.name M);cases E:Tb x.name;exact Zh E;refine Zg E ?_;refine Zc o ?_ (s:=Zkh G w.ent y.ent u.ent m x.source);cases D:m.p.inV x.source;exact Zh D;refine Zg D ?_;refine Zc o ?_ (s:=Zkh G w.ent y.ent u.ent m x.target);cases C:m.p.inV x.target;exact Zh C;refine Zg (zi C Zd) ?_;refine Zc o ?_ (s:=Od G o c.ent d.ent e.ent m x.triggers I L);cases q:evB m.events.l x.triggers.l;exact Zh q
 by_cases B:0<=x.after
 rotate_left;have r:decide (x.after>=0)=false:=zF;rw[decide_eq_false B];exact Zh (zi q r);have r:decide (x.after>=0)=true:=zT;rw[decide_eq_true B];cases A:decide (x.after<=65535);exact Zh (zi q (zi r A));have f:=zi q (zi r A);cases b:(x.after==0)
 have j:(((x.triggers.l.length:Nat):Int)==0)=decide (x.triggers.l.length=0):=by
  rw[Bool.eq_iff_iff,beq_iff_eq,decide_eq_true_eq];omega
 cases z:decide (x.triggers.l.length=0);rw[z]at j;exact Zh (zi f (zi b j))
 .rw[z]at j
  by_cases n:1<=x.kind
  rotate_left;have a:decide (x.kind>=1)=false:=zF;rw[decide_eq_false n];exact Zh (zi (zi f (zi b j)) a);have a:decide (x.kind>=1)=true:=zT;rw[decide_eq_true n];cases h:decide (x.kind<=3);exact Zh (zi (zi f (zi b j)) (zi a h));have g:decide (((x.guard.length:Nat):Int)<=4096)=decide (x.guard.length<=4096):=decide_eq_decide.2 zo;have t:decide (((x.effect.length:Nat):Int)<=4096)=decide (x.effect.length<=4096):=decide_eq_decide.2 zo;cases k:decide (x.guard.length<=4096);rw[k]at g;exact Zh (zi (zi f (zi b j)) (zi a (zi h g)));rw[k]at g;exact Zh (zi (zi f (zi b j)) (zi a (zi h (zi g t))))
 .by_cases n:1<=x.kind
  rotate_left;have a:decide (x.kind>=1)=false:=zF;rw[decide_eq_false n];exact Zh (zi (zi f b) a);have a:decide (x.kind>=1)=true:=zT;rw[decide_eq_true n];cases h:decide (x.kind<=3);exact Zh (zi (zi f b) (zi a h));have g:decide (((x.guard.length:Nat):Int)<=4096)=decide (x.guard.length<=4096):=decide_eq_decide.2 zo;have t:decide (((x.effect.length:Nat):Int)<=4096)=decide (x.effect.length<=4096):=decide_eq_decide.2 zo;cases k:decide (x.guard.length<=4096);rw[k]at g;exact Zh (zi (zi f b) (zi a (zi h g)));rw[k]at g;exact Zh (zi (zi f b) (zi a (zi h (zi g t))))
theorem mdIm(b c d:Col)(m:MdM):(V.view b (Zv c d m)).Im:=.view _ _ λy a=>by
 simp only[Zd,V.cells,List.mem_cons,List.not_mem_nil,or_false]at a
 rcases a with rfl|rfl|rfl|rfl|rfl|rfl
 exact .str _;exact V8 Z23 _;exact V8 Zpu _;exact V8 Z23 _;exact V8 (vtIm d) _;exact V8 (trIm d) _
theorem Zho(G:Nat->V)(b:GExp G)(c d:Col)(m:MdM)(e:m.name.length<1000000000000000):Spec Tryz.prog G 88 [Zv c d m] Zi (λv _=>v=Up (m.p.ruleF 0)):=by
 have g:=b.ok;refine Zo 0 9 [.cell 2 154] Tryz.func88 λX=>?_
 have f:m.p.ruleF 0=if Rh m.name=2 then(0,0,0)else(1,0,130):=rfl
 rw[f];simp only[Zd];refine Z ?_;intro j i;refine Z ?_;refine Zc g ?_ (s:=Sz G b m.name e)
 by_cases h:Rh m.name=2
 rw[if_pos h]
 have a:((Rh m.name:Int) != 2)=false:=by simp[h]
 exact Zh a;rw[if_neg h]
 have a:((Rh m.name:Int) != 2)=true:=by
  have:¬ (Rh m.name:Int)=2:=zo;simpa using this
 exact Zh a
theorem Zgo(G:Nat->V)(g:GExp G)(c d:Col)(m:MdM)(b:MdB m):Spec Tryz.prog G 89 [Zv c d m] Zi (λv _=>v=Up (m.p.ruleF 1)):=by
 have e:=g.ok;refine Zo 0 7 [.cell 2 154] Tryz.func89 λX=>?_;have j:m.p.ruleF 1=Y8 2 64 m.p.varB m.vars.l.length:=rfl;rw[j];have k:=b.nv;simp only[Zd];refine Z ?_;intro n h;refine AW.weak (Zw (λo=>o==1) (l:=[(1,.view .new (Zv c d m)),(2,.ptr 2 h 0)]) (m:=[(2,.cells .new h 0 [.int .u8 0,.int .i64 0,.int .i64 0])]) ?_ ?_) ?_;refine Zs ?_;exact⟨Fz.ptr (v:=Zv c d m) (c:=.new) (fz:=0) zp zp,Fz.same _⟩;simp only[Zy,Z2,and_true];exact FzO.keep rfl zp;refine Zf Zd ?_;refine Zn e ?_ (s:=Ax G e c.ent 2 64 m.vars zo (f:=148) (cap:=[.view .old (Zv c.ent d.ent m)]) (p:=m.p.varB) ⟨zk,Z5f c d m,λi x a=>Zyw G g .old c.ent d.ent m zo i a (b.var x (List.mem_of_getElem? a))⟩);generalize Y8 2 64 m.p.varB m.vars.l.length=r;simp only[Up];refine Zs ?_;exact Zr
theorem Zyv(G:Nat->V)(g:GExp G)(c d:Col)(m:MdM)(b:MdB m):Spec Tryz.prog G 90 [Zv c d m] Zi (λv _=>v=Up (m.p.ruleF 2)):=by
 have e:=g.ok;refine Zo 0 7 [.cell 2 154] Tryz.func90 λX=>?_;have j:m.p.ruleF 2=Y8 3 64 m.p.signalB m.events.l.length:=rfl;rw[j];have k:=b.ne;simp only[Zd];refine Z ?_;intro n h;refine AW.weak (Zw (λo=>o==1) (l:=[(1,.view .new (Zv c d m)),(2,.ptr 2 h 0)]) (m:=[(2,.cells .new h 0 [.int .u8 0,.int .i64 0,.int .i64 0])]) ?_ ?_) ?_;refine Zs ?_;exact⟨Fz.ptr (v:=Zv c d m) (c:=.new) (fz:=0) zp zp,Fz.same _⟩;simp only[Zy,Z2,and_true];exact FzO.keep rfl zp;refine Zf Zd ?_;refine Zn e ?_ (s:=Az G e c.ent 3 64 m.events zo (f:=152) (cap:=[.view .old (Zv c.ent d.ent m)]) (p:=m.p.signalB) ⟨zk,Z5f c d m,λi x a=>Zzw G g .old c.ent d.ent m zo i a (b.ev x (List.mem_of_getElem? a))⟩);generalize Y8 3 64 m.p.signalB m.events.l.length=r;simp only[Up];refine Zs ?_;exact Zr
theorem Zzv(G:Nat->V)(j:GExp G)(c d:Col)(m:MdM)(b:MdB m):Spec Tryz.prog G 91 [Zv c d m] Zi (λv _=>v=Up (m.p.ruleF 3)):=by
 have g:=j.ok;refine Zo 0 12 [.cell 2 154] Tryz.func91 λX=>?_
 have n:m.p.ruleF 3=if m.regions.l=[]then(4,0,130)else Y8 4 512 m.p.regionB m.regions.l.length:=rfl
 rw[n];have t:=b.nr;simp only[Zd];refine Z ?_;intro u k;refine AW.weak (Zw (λo=>o==1) (l:=[(1,.view .new (Zv c d m)),(2,.ptr 2 k 0)]) (m:=[(2,.cells .new k 0 [.int .u8 0,.int .i64 0,.int .i64 0])]) ?_ ?_) ?_;refine Zs ?_;exact⟨Fz.ptr (v:=Zv c d m) (c:=.new) (fz:=0) zp zp,Fz.same _⟩;simp only[Zy,Z2,and_true];exact FzO.keep rfl zp
 by_cases h:m.regions.l=[]
 rw[if_pos h]
 have q:(((m.regions.l.length:Nat):Int)==0)=true:=by rw[h]<;>rfl
 exact Zq (zi q Zd);rw[if_neg h]
 have q:(((m.regions.l.length:Nat):Int)==0)=false:=by
  have:m.regions.l.length≠0:=λe=>h (List.length_eq_zero_iff.1 e);have:¬ ((m.regions.l.length:Nat):Int)=0:=zo;simpa using this
 refine Zf (zi q Zd) ?_;refine Zn g ?_ (s:=A0 G g c.ent 4 512 m.regions zo (f:=155) (cap:=[.view .old (Zv c.ent d.ent m)]) (p:=m.p.regionB) ⟨zk,Z5f c d m,λi x a=>Z0w G j .old c.ent d.ent m i a (b.rg x (List.mem_of_getElem? a))⟩);generalize Y8 4 512 m.p.regionB m.regions.l.length=r;simp only[Up];refine Zs ?_;exact Zr
theorem Zxv(G:Nat->V)(g:GExp G)(c d:Col)(m:MdM)(a:MdB m):Spec Tryz.prog G 92 [Zv c d m] Zi (λv _=>v=Up (m.p.ruleF 4)):=by
 have e:=g.ok;refine Zo 0 7 [.cell 2 154] Tryz.func92 λX=>?_
 have j:m.p.ruleF 4=Y8 5 512 (λi=>m.p.vertexB (m.p.vx i)) m.verts.l.length:=by
  show Y8 5 512 _ m.p.vertices.length=_
  rw[m.nv]
 rw[j];have k:=a.nx;have n:=a.ne;simp only[Zd];refine Z ?_;intro q h;refine AW.weak (Zw (λo=>o==1) (l:=[(1,.view .new (Zv c d m)),(2,.ptr 2 h 0)]) (m:=[(2,.cells .new h 0 [.int .u8 0,.int .i64 0,.int .i64 0])]) ?_ ?_) ?_;refine Zs ?_;exact⟨Fz.ptr (v:=Zv c d m) (c:=.new) (fz:=0) zp zp,Fz.same _⟩;simp only[Zy,Z2,and_true];exact FzO.keep rfl zp;refine Zf Zd ?_
 refine Zn e ?_ (s:=L9 G e c.ent d.ent 5 512 m.verts zo (f:=159) (cap:=[.view .old (Zv c.ent d.ent m)]) (p:=λi=>m.p.vertexB (m.p.vx i)) ⟨zk,Z5f c d m,λi x b=>by
  obtain⟨k1,k2,k3⟩:=a.vt x (List.mem_of_getElem? b)
  exact Zxw G g .old c.ent d.ent _ m zo i b k1 k2 k3⟩)
 generalize Y8 5 512 (λi=>m.p.vertexB (m.p.vx i)) m.verts.l.length=r;simp only[Up];refine Zs ?_;exact Zr
theorem Zjo(G:Nat->V)(k:GExp G)(c d:Col)(m:MdM)(h:MdB m)(g:m.p.Rt5):Spec Tryz.prog G 93 [Zv c d m] Zi (λv _=>v=Up (m.p.ruleF 5)):=by
 have a:=k.ok;refine Zo 0 7 [.cell 2 154] Tryz.func93 λX=>?_
 have j:m.p.ruleF 5=Y8 5 512 m.p.deepB m.verts.l.length:=by
  show Y8 5 512 _ m.p.vertices.length=_
  rw[m.nv]
 rw[j];have n:=h.nx;simp only[Zd];refine Z ?_;intro q b;refine AW.weak (Zw (λo=>o==1) (l:=[(1,.view .new (Zv c d m)),(2,.ptr 2 b 0)]) (m:=[(2,.cells .new b 0 [.int .u8 0,.int .i64 0,.int .i64 0])]) ?_ ?_) ?_;refine Zs ?_;exact⟨Fz.ptr (v:=Zv c d m) (c:=.new) (fz:=0) zp zp,Fz.same _⟩;simp only[Zy,Z2,and_true];exact FzO.keep rfl zp;refine Zf Zd ?_;refine Zn a ?_ (s:=L9 G a c.ent d.ent 5 512 m.verts zo (f:=162) (cap:=[.view .old (Zv c.ent d.ent m)]) (p:=m.p.deepB) ⟨zk,Z5f c d m,λi x e=>Zbp G a .old c.ent d.ent _ m g i e⟩);generalize Y8 5 512 m.p.deepB m.verts.l.length=r;simp only[Up];refine Zs ?_;exact Zr
theorem rc_way(c d:Col)(m:MdM):[V.view .old (.func (.func 164) [] [.view .old (Zv c.ent d.ent m)]),.view .old (Zv c.ent d.ent m)].map (V.recol Col.ent)=[V.view .old (.func (.func 164) [] [.view .old (Zv c.ent d.ent m)]),.view .old (Zv c.ent d.ent m)]:=by
 simp only[List.map_cons,List.map_nil,V.recol,Yh,O9,Jf];rfl
theorem Zfo(G:Nat->V)(h:GExp G)(c d:Col)(m:MdM)(b:MdB m):Spec Tryz.prog G 94 [Zv c d m] Zi (λv _=>v=Up (m.p.ruleF 6)):=by
 have g:=h.ok;refine Zo 0 9 [.cell 2 154] Tryz.func94 λX=>?_
 have j:m.p.ruleF 6=Y8 6 512 (λi=>m.p.wayB (m.p.wy i)) m.ways.l.length:=by
  show Y8 6 512 _ m.p.ways.length=_
  rw[m.nw]
 rw[j];have k:=b.nw;have n:=b.ne;simp only[Zd];refine Z ?_;intro t a;refine AW.weak (Zw (λo=>o==1) (l:=[(1,.view .new (Zv c d m)),(2,.ptr 2 a 0)]) (m:=[(2,.cells .new a 0 [.int .u8 0,.int .i64 0,.int .i64 0])]) ?_ ?_) ?_;refine Zs ?_;exact⟨Fz.ptr (v:=Zv c d m) (c:=.new) (fz:=0) zp zp,Fz.same _⟩;simp only[Zy,Z2,and_true];exact FzO.keep rfl zp;refine Z ?_;intro q;refine AW.weak (Zw (λo=>o==3) (l:=[(1,.view .new (Zv c d m)),(2,.ptr 2 a 0),(3,.view .new (.func (.func 164) [] [.view .new (Zv c d m)]))]) (m:=[(2,.cells .new a 0 [.int .u8 0,.int .i64 0,.int .i64 0])]) ?_ ?_) ?_;refine Zs ?_;exact⟨Fz.same _,Fz.same _,Fz.ptr (v:=.func (.func 164) [] [.view .new (Zv c d m)]) (c:=.new) (fz:=0) zp zp⟩;simp only[Zy,Z2,and_true];exact FzO.keep rfl zp;refine Zf Zd ?_
 refine Zn g ?_ (s:=Ay G g c.ent d.ent 6 512 m.ways zo (f:=166) (cap:=[.view .old (.func (.func 164) [] [.view .old (Zv c.ent d.ent m)]),.view .old (Zv c.ent d.ent m)]) (p:=λi=>m.p.wayB (m.p.wy i)) ⟨zk,rc_way c d m,λi x e=>by
  obtain⟨k1,k2⟩:=b.wy x (List.mem_of_getElem? e)
  exact Zww G h .old .old .old c.ent d.ent c.ent d.ent _ m zo i e k1 k2⟩)
 generalize Y8 6 512 (λi=>m.p.wayB (m.p.wy i)) m.ways.l.length=r;simp only[Up];refine Zs ?_;exact Zr
def Ls(rs:Nat->Nat×Int×Int)(n:Nat):Nat×Int×Int:=match(List.range n).find? (λi=>(rs i).1 != 0)with|some i=>rs i|none=>(0,0,0)
theorem Vo{a:Nat->Nat×Int×Int}{n i:Nat}(hi:i<n)(h:∀ j,j<i->(a j).1=0)(c:(a i).1≠0):Ls a n=a i:=by
 have:(List.range n).find? (λi=>(a i).1 != 0)=some i:=by
  rw[List.find?_range_eq_some];exact⟨zu c,List.mem_range.2 hi,λj b=>by simp[h j b]⟩
 rw[Ls,this]
theorem Hw{a:Nat->Nat×Int×Int}{n:Nat}(h:∀ j,j<n->(a j).1=0):Ls a n=(0,0,0):=by
 rw[Ls,List.find?_eq_none.2 (λj b=>by simp[h j (List.mem_range.1 b)])]
theorem Zdn{a b:Nat}{p:Nat->Bool}{n:Nat}(c:a≠0)(h:(Y8 a b p n).1=0):Y8 a b p n=(0,0,0):=by
 rw[Y8]at h⊢
 cases d:(List.range n).find? (λi=>i==b || !p i)with
 |some i=>rw[d]at h;exact absurd h c
 |none=>rfl
theorem Zrf(m:PM):m.rightP=Ls m.ruleF 7:=by
 by_cases a:(m.ruleF 0).1=0
 rotate_left;rw[Vo (i:=0) zd (λj b=>absurd b (Nat.not_lt_zero _)) a,PM.rightP,Ot,if_pos a]
 by_cases c:(m.ruleF 1).1=0
 rotate_left
 rw[Vo (i:=1) zd (λj b=>by
  have:j=0:=zo
  rw[this];exact a) c,PM.rightP,Ot,if_neg (λh=>h a),Ot,if_pos c]
 by_cases d:(m.ruleF 2).1=0
 rotate_left
 rw[Vo (i:=2) zd (λj b=>by
  have:j=0\/j=1:=zo
  rcases this with h|h<;>rw[h]<;>assumption) d,PM.rightP,Ot,if_neg (λh=>h a),Ot,if_neg (λh=>h c),Ot,if_pos d]
 by_cases f:(m.ruleF 3).1=0
 rotate_left
 rw[Vo (i:=3) zd (λj b=>by
  have:j=0\/j=1\/j=2:=zo
  rcases this with h|h|h<;>rw[h]<;>assumption) f,PM.rightP,Ot,if_neg (λh=>h a),Ot,if_neg (λh=>h c),Ot,if_neg (λh=>h d),Ot,if_pos f]
 by_cases g:(m.ruleF 4).1=0
 rotate_left
 rw[Vo (i:=4) zd (λj b=>by
  have:j=0\/j=1\/j=2\/j=3:=zo
  rcases this with h|h|h|h<;>rw[h]<;>assumption) g,PM.rightP,Ot,if_neg (λh=>h a),Ot,if_neg (λh=>h c),Ot,if_neg (λh=>h d),Ot,if_neg (λh=>h f),Ot,if_pos g]
 by_cases k:(m.ruleF 5).1=0
 rotate_left
 rw[Vo (i:=5) zd (λj b=>by
  have:j=0\/j=1\/j=2\/j=3\/j=4:=zo
  rcases this with h|h|h|h|h<;>rw[h]<;>assumption) k,PM.rightP,Ot,if_neg (λh=>h a),Ot,if_neg (λh=>h c),Ot,if_neg (λh=>h d),Ot,if_neg (λh=>h f),Ot,if_neg (λh=>h g),Ot,if_pos k]
 have e:m.rightP=m.ruleF 6:=by
  rw[PM.rightP,Ot,if_neg (λh=>h a),Ot,if_neg (λh=>h c),Ot,if_neg (λh=>h d),Ot,if_neg (λh=>h f),Ot,if_neg (λh=>h g),Ot,if_neg (λh=>h k)]
 rw[e]
 by_cases l:(m.ruleF 6).1=0
 rotate_left
 rw[Vo (i:=6) zd (λj b=>by
  have:j=0\/j=1\/j=2\/j=3\/j=4\/j=5:=zo
  rcases this with h|h|h|h|h|h<;>rw[h]<;>assumption) l]
 rw[Hw (λj b=>by
  have:j=0\/j=1\/j=2\/j=3\/j=4\/j=5\/j=6:=zo
  rcases this with h|h|h|h|h|h|h<;>rw[h]<;>assumption)]
 exact Zdn zd (show(Y8 6 512 (λi=>m.wayB (m.wy i)) m.ways.length).1=0 from l)
def Ns(c d:Col)(m:MdM)(f:FuncId):V:=.func (.func f) [Zv c d m] []
theorem Zab(c d:Col)(m:MdM)(f:FuncId):Ns c d m f=.func (.func f) [Zv c d m] []:=rfl
theorem Ze0(g:Col->Col)(c d:Col)(m:MdM)(f:FuncId):(Ns c d m f).recol g=Ns (g c) (g d) m f:=by
 simp only[Zab,V.recol,Yh,List.map_cons,List.map_nil,O9]
theorem Z8o(G:Nat->V)(C:Y6 G)(c1 c d:Col)(m:MdM)(l:Sl FuncId)(E:l.l.length<1000000)(g:Nat->Nat×Int×Int)
  (h:∀ k f,l.l[k]?=some f->(∀ j,j<k->(g j).1=0)->Z5 Tryz.prog f=true/\Spec Tryz.prog G f [Zv c.ent d.ent m] Zi (λv _=>v=Up (g k))):
  Spec Tryz.prog G 87 [Za c1 1 (Ns c d m) l] Zi (λv _=>v=Up (Ls g l.l.length)):=by
 refine Zo 0 20 [.cell 2 154] Tryz.func87 λX=>?_;refine Z ?_;intro z;refine Z ?_
 refine Yf l.l.length (λk (_:Unit)=>st [(2,.ptr 2 z 0),(6,Za c1 1 (Ns c d m) l),(7,.int .i64 l.l.length),(8,.int .i64 k)] [(2,.cells .new z 0 [.int .u8 0,.int .i64 0,.int .i64 0])])
  (λk _=>∀ j,j<k->(g j).1=0) 0 () (Nat.zero_le _) (λi h=>absurd h (Nat.not_lt_zero _)) (Weak.st zp zp) ?_
 intro k _ F o J y
 by_cases b:k<l.l.length
 have a:decide ((k:Int)<(l.l.length:Int))=true:=zT;have w:=List.getElem?_eq_getElem b;generalize l.l[k]=x at w;have A:IntKind.i64.wrap ((k:Int)+1)=(k:Int)+1:=W0 zo zo;obtain⟨B,n⟩:=h k x w o;refine Zf (zi a (zi w Zab)) ?_;refine Zn C ?_ (e:=B) (s:=n);generalize t:g k=r at n;simp only[Up];refine Zs ?_;intro I
 by_cases p:r.1=0
 have q:(((r.1:Nat):Int) != 0)=false:=by simp[p]
 refine Zf (zi q A) ?_;refine y _ ⟨b,(),λj H=>?_,Weak.st zp zp⟩
 by_cases D:j=k
 rw[D,t];exact p;exact o j zo
 have q:(((r.1:Nat):Int) != 0)=true:=by
  have:¬ ((r.1:Nat):Int)=0:=zo;simpa using this
 rw[Vo b o (by rw[t];exact p),t];exact Zq q;have u:k=l.l.length:=zo;subst u;have a:decide ((l.l.length:Int)<(l.l.length:Int))=false:=zS;rw[Hw o];exact Zq a
theorem fmIm(c d:Col)(m:MdM)(f:FuncId):∀ y∈(Ns c d m f).cells,y.Im:=λy b=>by
 simp only[Zab,V.cells,List.mem_cons,List.not_mem_nil,or_false]at b;rw[b];refine .func _ _ _ (λx a=>?_) (λx a=>by cases a);rw[List.mem_singleton.1 a]
 cases mdIm .old c d m with
 |view _ _ h=>exact .agg _ h
def rgF:List FuncId:=[88,89,90,91,92,93,94]
theorem Rd.rgF{H:Heap}{g:Nat}{c d:Col}{m:MdM}(h:H 20=.cells .new g 0 (flat (rgF.map (Ns c d m)))):Rd H (.msl 20 g 0 7 1) (Za .old 1 (Ns c.ent d.ent m) (.mk false Go.Hs.rgF)):=
 Rd.msl (l:=Go.Hs.rgF) (off:=0) (n:=7) (m:=1) (f:=Ns c d m) (f':=Ns c.ent d.ent m) (g:=g) (fz:=0) (c:=.new) h (λ_=>rfl) (fmIm c d m) (λf=>Ze0 _ c d m f) zd
theorem flFl(r:Nat×Int×Int):(Up r).Fl:=.agg _ λy a=>by
 simp only[List.mem_cons,List.not_mem_nil,or_false]at a
 rcases a with rfl|rfl|rfl<;>exact .int _ _
theorem F5(G:Nat->V)(a:GExp G)(c d:Col)(m:MdM)(b:MdB m):Spec Tryz.prog G 52 [Zv c d m] Zi (λv _=>v=.tuple [.int .u8 m.p.rightP.1,.int .i64 m.p.rightP.2.1,.int .i64 m.p.rightP.2.2]):=by
 have e:=a.ok;refine Zo 0 28 [.tmp 2,.tmp 3,.tmp 4] Tryz.func52 λX=>?_;rw[Zrf];simp only[Zd];refine Z ?_;intro i;refine Z ?_;intro g;refine Zs ?_;refine CallA.bor e [Za .old 1 (Ns c.ent d.ent m) (.mk false rgF)] zk ⟨Rd.rgF zp,trivial⟩ ?_;refine(Z8o G e .old c.ent d.ent m (.mk false rgF) zd m.p.ruleF ?_).mono ?_
 .intro k f hk h0
  rw[Jf,Jf]
  match k,hk with
  |0,hk=>obtain rfl:=Option.some.inj hk;exact⟨zk,Zho G a _ _ m b.nm⟩
  |1,hk=>obtain rfl:=Option.some.inj hk;exact⟨zk,Zgo G a _ _ m b⟩
  |2,hk=>obtain rfl:=Option.some.inj hk;exact⟨zk,Zyv G a _ _ m b⟩
  |3,hk=>obtain rfl:=Option.some.inj hk;exact⟨zk,Zzv G a _ _ m b⟩
  |4,hk=>obtain rfl:=Option.some.inj hk;exact⟨zk,Zxv G a _ _ m b⟩
  |5,hk=>obtain rfl:=Option.some.inj hk;exact⟨zk,Zjo G a _ _ m b (PM.rt_vt (h0 3 zd) (h0 4 zd))⟩
  |6,hk=>obtain rfl:=Option.some.inj hk;exact⟨zk,Zfo G a _ _ m b⟩
  |k+7,hk=>cases hk
 rintro _ _ rfl;refine⟨flFl _,?_⟩
 show _
 simp only[show(Sl.mk false rgF).l.length=7 from rfl];generalize Ls m.p.ruleF 7=r;simp only[Up];refine Zs ?_;intro h;refine ZT e ?_;exact Zr
end Go.Hs
end

section
namespace Go.Hs
section
namespace PM
variable(m:PM)
def ownK(n:Nat):List (Int×List Int):=(List.range n).foldl (λL (r:Nat)=>Sb L (m.ow (r:Int)) (r:Int)) []
def pntK(n:Nat):List (Int×List Int):=(List.range n).foldl (λL (i:Nat)=>if 0<=(m.vx (i:Int)).of then Sb L (m.vx (i:Int)).of (i:Int)else L) []
def kidL(n:Nat)(r:Nat):List Int:=((List.range n).filter fun(i:Nat)=>decide ((m.vx (i:Int)).of<0)&&(m.vx (i:Int)).region==(r:Int)).map fun(i:Nat)=>(i:Int)
variable{m}
theorem ownK_succ(n:Nat):m.ownK (n+1)=Sb (m.ownK n) (m.ow (n:Int)) (n:Int):=by
 rw[ownK,List.range_succ,List.foldl_append];rfl
theorem pntK_pt{n:Nat}(h:0<=(m.vx (n:Int)).of):m.pntK (n+1)=Sb (m.pntK n) (m.vx (n:Int)).of (n:Int):=by
 rw[pntK,List.range_succ,List.foldl_append]
 show(if _ then _ else _)=_
 rw[if_pos h];rfl
theorem pntK_no{n:Nat}(h:¬ 0<=(m.vx (n:Int)).of):m.pntK (n+1)=m.pntK n:=by
 rw[pntK,List.range_succ,List.foldl_append]
 show(if _ then _ else _)=_
 rw[if_neg h];rfl
theorem kidL_pt{n:Nat}(h:0<=(m.vx (n:Int)).of):m.kidL (n+1)=m.kidL n:=by
 funext r
 rw[kidL,List.range_succ,List.filter_append,List.filter_cons_of_neg (by grind)];simp[kidL]
theorem kidL_at{n r:Nat}(h:(m.vx (n:Int)).of<0)(a:(m.vx (n:Int)).region=(r:Int)):m.kidL (n+1)=Z3 (m.kidL n) r (m.kidL n r++[(n:Int)]):=by
 funext q
 rw[kidL,List.range_succ,List.filter_append]
 by_cases e:q=r
 subst e;rw[List.filter_cons_of_pos (by grind)];simp[kidL];rw[Zk _ _ e,List.filter_cons_of_neg (by grind)];simp[kidL]
theorem ownK_len:∀ n,(m.ownK n).length<=n
 |0=>Nat.le_refl _
 |n+1=>by
  rw[ownK_succ];have:=ownK_len n;have:=Eh (m.ownK n) (m.ow (n:Int)) (n:Int);omega
theorem pntK_len:∀ n,(m.pntK n).length<=n
 |0=>Nat.le_refl _
 |n+1=>by
  have a:=pntK_len n
  by_cases h:0<=(m.vx (n:Int)).of
  rw[pntK_pt h];have:=Eh (m.pntK n) (m.vx (n:Int)).of (n:Int);omega;rw[pntK_no h];omega
theorem kidL_len(n r:Nat):(m.kidL n r).length<=n:=by
 rw[kidL,List.length_map]
 grind
end PM
theorem Zpf{B:Nat}:∀ {L:List (Int×List Int)} {k r:Int} (j:Nat),(∀ j,(Yz L j).length<=B)->(Yz (Sb L k r) j).length<=B+1:=fun{L k r} j h=>by
 rw[O7]
 by_cases e:j=S1 L k
 simp_all;rw[Zk _ _ e];grind
namespace PM
variable{m:PM}
theorem ownK_row:∀ n j,(Yz (m.ownK n) j).length<=n
 |0,j=>by simp[ownK,Yz]
 |n+1,j=>by rw[ownK_succ];exact Zpf j (ownK_row n)
theorem pntK_row:∀ n j,(Yz (m.pntK n) j).length<=n
 |0,j=>by simp[pntK,Yz]
 |n+1,j=>by
  by_cases h:0<=(m.vx (n:Int)).of
  rw[pntK_pt h];exact Zpf j (pntK_row n);rw[pntK_no h];have:=pntK_row n j;omega
end PM
namespace PM
variable{m:PM}
theorem Z9y(v:Int)(t:Nat):m.wysI v false (t+1)=if(m.wy (t:Int)).source=v then m.wysI v false t++[(t:Int)]else m.wysI v false t:=by
 rw[Bf]
 grind
theorem Zau(v:Int)(t:Nat):m.wysI v true (t+1)=if(m.wy (t:Int)).target=v then m.wysI v true t++[(t:Int)]else m.wysI v true t:=by
 rw[Bf]
 grind
theorem outs_next{t a:Nat}(h:(m.wy (t:Int)).source=(a:Int)):(λj:Nat=>m.wysI (j:Int) false (t+1))=Z3 (λj:Nat=>m.wysI (j:Int) false t) a (m.wysI (a:Int) false t++[(t:Int)]):=by
 funext j
 rw[Z9y,h]
 by_cases e:j=a
 simp_all;rw[Zk _ _ e,if_neg (by omega)]
theorem intos_next{t a:Nat}(h:(m.wy (t:Int)).target=(a:Int)):(λj:Nat=>m.wysI (j:Int) true (t+1))=Z3 (λj:Nat=>m.wysI (j:Int) true t) a (m.wysI (a:Int) true t++[(t:Int)]):=by
 funext j
 rw[Zau,h]
 by_cases e:j=a
 simp_all;rw[Zk _ _ e,if_neg (by omega)]
end PM
end
end Go.Hs
end
