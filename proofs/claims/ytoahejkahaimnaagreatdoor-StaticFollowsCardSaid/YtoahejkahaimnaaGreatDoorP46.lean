/- A part. No condition. -/
import Derived.Test.YtoahejkahaimnaaGreatDoorP43
import Derived.Test.YtoahejkahaimnaaGreatDoorP45
set_option linter.all false
section
namespace Go.Hs
open Go.Proofs
set_option maxRecDepth 10000
set_option maxHeartbeats 2000000
theorem HandX.weak{P:Program}{E:Ent}{ops:Array Oper}{R:Exit->Act->World->Prop}{o:Oper}{s s':AS}{K:AS->Prop}(d:Weak E s s')(f:o.guard=none)(h:HandX P E ops R o s' K):HandX P E ops R o s K:=by
 have b:∀ τ,Zz ops τ o=some true:=λτ => by unfold Zz;rw[f]
 rcases h with ⟨_,h⟩|⟨h,_⟩
 refine .inl ⟨b _,λX a g=>?_⟩;obtain⟨Y,c⟩:=d a X.w ⟨X,g⟩;have e:=c.hw;rw[<- e]at c⊢;exact h Y a c;rw[b]at h;cases h
theorem Xx{P:Program}(b:Nat){G:Nat->V}{f:FuncId}{args:List V}{H:Heap}{K:V->Heap->Prop}(args':List V)(a:FzL (λo=>o==b) H args args')(h:CallA P G f args' (Z3 H b .dead) K):CallA P G f args H K:=
 Mx _ a.get.1 a.get.2 (λo=>by
  by_cases e:o=b
  subst e;rw[Ye];trivial
  rw[Zk _ _ e];exact FzO.same (by simp[e])) h
theorem Weak.tm{E:Ent}{τ : Nat->V}{H:Heap}{l:List (Nat×V)}(h:T8 τ l):Weak E ⟨τ,H⟩ ⟨Z6 emp l,H⟩:=
 Ur (λ_=>false) (λt=>by
  rcases Wk (τ := emp) (f := τ) t l (Wq h)with a|a
  exact .inl a;refine .inr ?_
  dsimp only
  rw[a];exact Fz.same _) λo=>FzO.same rfl
def Wv(c:Col)(e:Int×List Int):V:=.agg [.int .i64 e.1,Za c 1 (V.int .i64) (Zb e.2)]
theorem Xq(c:Col)(e:Int×List Int):Wv c e=.agg [.int .i64 e.1,Za c 1 (V.int .i64) (Zb e.2)]:=rfl
theorem Zbb(c:Col)(e:Int×List Int):(Wv c e).cells.length=2:=rfl
theorem Zka(g:Col->Col)(c:Col)(e:Int×List Int):(Wv c e).recol g=Wv (g c) e:=by simp only[Xq,Xy,List.map_cons,List.map_nil,Xf,Xu]
def Xl(c:Col)(l:List (Int×List Int)):V:=Za c 2 (Wv c) (Zb l)
@[go_sem] theorem Eb(g:Col->Col)(c:Col)(l:List (Int×List Int)):(Xl c l).recol g=Xl (g c) l:=Wd g c 2 (Zka g c) _
theorem Ag(c:Col):Xl c []=.nils:=rfl
theorem Dq{c:Col}{l:List (Int×List Int)}(h:l≠[]):Xl c l=.slice c false 2 (l.map (Wv c)):=by cases l with|nil=>exact absurd rfl h|cons=>rfl
@[go_sem] theorem cells_es(c:Col)(l:List (Int×List Int)):(Xl c l).cells=[Xl c l]:=by cases l<;>rfl
@[go_sem] theorem solid_es(c:Col)(l:List (Int×List Int)):(Xl c l).solid=true:=by cases l<;>rfl
theorem OwnC.of{P:Program}{G:Nat->V}{f:FuncId}{args:List V}{v:V}(a:Z5 P f=true)(h:InSp P G f args Zi (λv' _=>v'=v)):OwnC P G f args v:=λH K c=>
 CallA.inl [] a (λp b=>by cases b) (h.mono λv' d e=>by subst e;exact c)
theorem Z55(G:Nat->V)(l:List (Int×List Int))(a:l.length<1000000):InSp Tryz.prog G 183 [Xl .new l] Zi (λv _=>v=Xl .new l):=by
 refine X9 0 8 [.tmp 2] Tryz.func183 rfl rfl rfl rfl λX=>?_
 by_cases h:l=[]
 subst h;rw[Ag];exact Zr;rw[Dq h];refine Z ?_;intro g;refine⟨Yg zo (by rw[List.length_map];omega),λb=>?_⟩;refine Zs ?_;refine AW.weak (Zw (λo=>o==5) (l:=[(2,.slice .new false 2 (l.map (Wv .new)))]) (m:=[]) ?_ trivial) ?_;refine Zs ?_;rw[List.length_map];exact Xm (f:=Wv .new) rfl zp (Zbb _);exact Zr
theorem Th{P:Program}{G:Nat->V}{f:FuncId}{args:List V}{H:Heap}{K:V->Heap->Prop}(args':List V)(a:FzL (λ_=>false) H args args')(h:CallA P G f args' H K):CallA P G f args H K:=
 Mx _ a.get.1 a.get.2 (λo=>FzO.same rfl) h
def nxF{σ κ κ2:Type}(nx : σ -> κ2->Bool × σ)(f : κ -> List κ2)(w : σ × Bool)(k : κ) : σ × Bool:=((Yl nx w.1 (f k)).2,(Yl nx w.1 (f k)).1)
def jB{σ : Type}(w : σ × Bool):Option Code:=if w.2=true then none else some .ret
theorem I1{σ κ b:Type}(a : σ -> b->Bool × σ)(f : κ -> List b):∀ (xs:List κ) (s : σ),Yl a s (xs.flatMap f)=((Yl (λw k=>((jB (nxF a f w k)).isNone,nxF a f w k)) (s,true) xs).2.2,(Yl (λw k=>((jB (nxF a f w k)).isNone,nxF a f w k)) (s,true) xs).2.1)
 |[],s=>rfl
 |k::r,s=>by
  rw[List.flatMap_cons,I2,Yl];have e:nxF a f (s,true) k=((Yl a s (f k)).2,(Yl a s (f k)).1):=rfl;rw[e];cases c:(Yl a s (f k)).1;simp[jB];simp only[jB,if_true,Option.isNone_none];exact I1 a f r _
theorem Dt{σ κ d:Type}{c : σ -> d->Prop}{a : σ -> d->Bool × σ}{f : κ -> List d}:∀ {xs:List κ} {s : σ},R9 c a s (xs.flatMap f)->R9 (λw k=>R9 c a w.1 (f k)/\jB w=none) (λw k=>((jB (nxF a f w k)).isNone,nxF a f w k)) (s,true) xs
 |[],s,_=>trivial
 |k::r,s,h=>by
  rw[List.flatMap_cons]at h;obtain⟨g,e⟩:=Jh h;refine⟨⟨g,rfl⟩,λq=>?_⟩;simp only[nxF]at q⊢;generalize Yl a s (f k)=z at e q⊢;obtain⟨b,i⟩:=z;cases b;cases q;exact Dt (e rfl)
def Zth(c:Col)(l:List (Int×List Int)):V:=match l with|[]=>.nils|_::_=>.slice c true 2 (l.map (Wv c))
theorem Zsh{c:Col}{l:List (Int×List Int)}(h:l≠[]):Zth c l=.slice c true 2 (l.map (Wv c)):=by cases l with|nil=>exact absurd rfl h|cons=>rfl
theorem Z6m(c:Col)(l:List V):Uh Tryz.prog 47 (.slice c false 2 l) none (some (.int .i64 l.length)) (some (.int .i64 l.length))=some (.slice c true 2 l):=by
 have e:Tryz.prog.underlying 47=some (.slice 64):=zk;have b:Yp Tryz.prog 64=some 2:=zk
 have a:∀ d,Yj d (some (.int .i64 (l.length:Int)))=some l.length:=λd=>by simp[Yj]
 unfold Uh;rw[e];simp only[a];rw[show Yj 0 none=some 0 from rfl];simp only[b,Nat.zero_le,Nat.le_refl,and_self,if_true,List.drop_zero,Nat.sub_zero,List.take_length];rw[a];simp only[Nat.le_refl,and_self,if_true,beq_self_eq_true]
theorem Zq2(G:Nat->V)(c:Col)(l:List (Int×List Int))(a:l.length<1000000):InSp Tryz.prog G 184 [Xl c l] Zi (λv _=>v=Zth c l):=by
 refine X9 0 9 [.tmp 2] Tryz.func184 rfl rfl rfl rfl λX=>?_
 by_cases h:l=[]
 subst h;rw[Ag];exact Zr;rw[Dq h,Zsh h];refine Z ?_;rw[Z6m];refine Zs ?_;refine Z ?_;rfl
theorem Lp{a lo:Nat}(H:Heap)(h:a<=lo):Z7 a (Z7 lo H)=Z7 lo H:=by
 funext o
 rcases Nat.lt_or_ge o lo with q|q
 rw[X5 q]
 rcases Nat.lt_or_ge o a with b|b
 rw[X5 b]
 rw[W8 b,X5 q]<;>rfl
 rw[W8 (Nat.le_trans h q),W8 q,Pb]
@[go_sem] theorem mask_10(H:Heap):Z7 100 (Z7 1000 H)=Z7 1000 H:=Lp H zd
theorem hpEqM2{lo:Nat}{H:Heap}{a b c d e:AObj}(h:lo=1000):Z3 (Z3 (Z3 (Z3 (Z3 (Z3 (Z3 (Z7 lo H) 108 e) 107 d) 106 c) 105 b) 104 a) 108 e) 190 .dead=Z3 (Z3 (Z3 (Z3 (Z3 (Z7 lo H) 108 e) 107 d) 106 c) 105 b) 104 a:=by
 subst h
 funext o
 by_cases q:o=190
 subst q;simp[Z3,X5];rw[Zk _ _ q]
 by_cases f:o=108
 subst f;simp[Z3];rw[Zk _ _ f]
theorem Zx6{lo:Nat}{H:Heap}{a b c d e:AObj}(h:lo=1000):Z3 (Z3 (Z3 (Z3 (Z3 (Z3 (Z7 lo H) 108 e) 107 d) 106 c) 105 b) 104 a) 190 .dead=Z3 (Z3 (Z3 (Z3 (Z3 (Z7 lo H) 108 e) 107 d) 106 c) 105 b) 104 a:=by
 subst h
 funext o
 by_cases q:o=190
 subst q;simp[Z3,X5];rw[Zk _ _ q]
theorem Hb{E:Ent}{lo:Nat}(F:Nat->Bool){τ : Nat->V}{H B:Heap}{l:List (Nat×V)}{m:List (Nat×AObj)}(j:∀ o,lo<=o->F o=false)(h:Js F H τ l)(i:∀ p∈m,F p.1=false)(g:T8 H m)(k:Z7 lo H=Z7 lo B):Weak E ⟨τ,H⟩ (Hs.stM lo B l m):=by
 refine Ur F (λt=>Ko t h) (λo=>?_)
 show FzO _ H o (Z6 (Z7 lo B) m o)
 by_cases a:∃ p∈m,p.1=o
 rcases Wk (τ := Z7 lo B) (f:=H) o m (Wq g)with b|b
 rw[b,<- k]
 rcases Nat.lt_or_ge o lo with q|q
 rw[X5 q];trivial
 .rw[W8 q]
  have:=FzO.same (H:=H) (j o q)
  cases d:H o with
  |mp=>trivial
  |_=>rw[d]at this;exact this
 obtain⟨p,s,rfl⟩:=a;rw[b];exact FzO.same (i p s)
 .have b:Z6 (Z7 lo B) m o=Z7 lo B o:=by
   try clear g i
   induction m with
   |nil=>rfl
   |cons p r ih=>
    rw[Z6,Zk _ _ (λe=>a ⟨p,List.mem_cons_self ..,e.symm⟩)];exact ih fun⟨n,c,e⟩=>a ⟨n,List.mem_cons_of_mem _ c,e⟩
  rw[b,<- k]
  rcases Nat.lt_or_ge o lo with q|q
  rw[X5 q];trivial
  .rw[W8 q]
   have:=FzO.same (H:=H) (j o q)
   cases d:H o with
   |mp=>trivial
   |_=>rw[d]at this;exact this
theorem Za3{P:Program}{E:Ent}{ops:Array Oper}{Q:AS->Prop}{rest:List Oper}{τ : Nat->V}{H:Heap}{e bytes:Nat}{c:Col}{l:List (Int×List Int)}(x:Int×List Int){ob:AObj}{xc:List V}(d:xc=(Wv c x).cells)(b:V7 bytes (l.length+1))
  (h:∀ g,Yi P E ops Q rest ⟨Z3 τ e (.msl (E.q+e) g 0 (l++[x]).length 2),Z3 H (E.q+e) (.cells .new g 0 (flat ((l++[x]).map (Wv c))))⟩):Gn P E ops Q rest e τ H 2 bytes (Zth c l) (some (1,xc)) ob:=by
 subst d
 cases l with
 |nil=>
  rw[show Zth c []=.nils from rfl,Zpx];exact⟨zu b,λa=>absurd a zd,λ_ g=>h g⟩
 |cons y r=>
  rw[Zsh zS,D5];refine⟨rfl,zu b,λa=>absurd a zd,λ_=>⟨rfl,λg=>?_⟩⟩;have:=h g;rw[List.length_append,List.map_append,Um]at this;rw[List.length_map];exact this
theorem Zhp{σ κ : Type}{A : σ -> κ -> Prop}{J : σ -> Prop}{Q : κ -> Prop}{a : σ -> κ -> Bool × σ}:∀ {xs:List κ} {s : σ},R9 (λw k=>A w k/\J w) a s xs->(∀ k∈xs,Q k)->R9 (λw k=>(A w k/\Q k)/\J w) a s xs
 |[],_,_,_=>trivial
 |k::r,s,h,hq=>⟨⟨⟨h.1.1,hq k (List.mem_cons_self ..)⟩,h.1.2⟩,λz=>Zhp (h.2 z) λk' b=>hq k' (List.mem_cons_of_mem _ b)⟩
theorem Qw(m:PM):∀ (f:Nat) (v:Int) (p:List Int),p≠[]->∀ w∈m.walkF f v p,w.1≠[]
 |0,v,p,hp,w,a=>by cases a;exact hp;rename_i h;cases h
 |f+1,v,p,hp,w,a=>by
  rw[Lb]at a
  split at a
  obtain⟨t,_,a⟩:=List.mem_flatMap.1 a;unfold PM.walkG at a
  split at a
  rw[List.mem_singleton]at a;subst a;simp;exact Qw m f _ _ zS w a;rw[List.mem_singleton]at a;subst a;exact hp
theorem Pi{l:List Int}(h:l≠[]):Zb l=.mk false l:=by cases l with|nil=>exact absurd rfl h|cons=>rfl
theorem Zb2(G:Nat->V)(hG:Y6 G)(m:MdM)(x:IxM)(hx:IxP m.p x)(hw:m.p.ways.length<100000)(hr:∀ t:Int,0<=t->t<m.p.ways.length->0<=m.p.tg t/\m.p.tg t<m.p.vertices.length):
  ∀ (outs:List Int) (ends:List (Int×List Int)) (q:Bool) (b c d e f g co:Col) (H:Heap),(∀ t∈outs,0<=t/\t<m.p.ways.length)->outs.length+ends.length<100000 ->
   YfSp Tryz.prog G 1000 119 (λy=>[X8 b c d e f g m x,Za co 1 (V.int .i64) (.mk q outs),Xl .new ends,y]) H (λes=>[Xl .new es]) (m.p.forkF outs ends) V.bool:=by
 intro outs
 induction outs with
 |nil=>
  intro ends q b c d e f g co H W hn;refine Vc .marks 100 50 4 [.cell 8 4] Tryz.func119 λX t cl σ R dom L U hy hd hR _=>?_;refine AW.weak (Y5 (lo:=1000) (B:=H) (l:=[(0,X8 b c d e f g m x),(1,Za co 1 (V.int .i64) (.mk q [])),(2,Xl .new ends),(3,.func t [] cl)]) (m:=[]) ⟨rfl,rfl,rfl,rfl,trivial⟩ trivial rfl) ?_;refine Z ?_;intro I F N E s;refine Z ?_;refine Ge 3 ⟨λ_=>Xl .new ends,λ_=>.own⟩ zk hG zk zk zk zk ?_;refine Zs ?_;refine⟨OwnC.of zk (Z55 G ends zo),_,rfl,?_⟩;refine HandX.weak (Ss (lo:=1000) (B:=H) (l:=[(8,.ptr 108 s 0),(14,.func t [] cl),(16,Xl .new ends)]) (m:=[(108,.cells .new s 0 [.bool false])]) (by refine Zs ?_;exact⟨Fz.same _,Fz.same _,Fz.same _⟩) ⟨zp,trivial⟩ zp) rfl (S8 hy U ends zp zm hd.1 ?_ (λH2 C a=>?_) zk (n:=3) rfl zp);refine Zs ?_;exact hR;have j:=a 108 zd;simp -implicitDefEqProofs only[go_sem,seval]at j;refine Zg j ?_
  show(_/\R (Yl L U [ends]).2 _)
  rw[PM.forkF,Mk];refine⟨.inl rfl,?_⟩;refine Zs ?_;exact C
 |cons o r ih=>
  intro ends q b c d e f g co H W hn;obtain⟨o0,o1⟩:=W o (List.mem_cons_self ..);obtain⟨n,y,rfl,hn',hgy,ey⟩:=m.wyAt o0 o1
  have etg:m.p.tg (n:Int)=y.target:=by rw[PM.tg,ey]<;>rfl
  refine Vc .marks 100 50 4 [.cell 8 4] Tryz.func119 λX t cl σ R dom L U hy hd hR _=>?_;refine AW.weak (Y5 (lo:=1000) (B:=H) (l:=[(0,X8 b c d e f g m x),(1,Za co 1 (V.int .i64) (.mk q ((n:Int)::r))),(2,Xl .new ends),(3,.func t [] cl)]) (m:=[]) ⟨rfl,rfl,rfl,rfl,trivial⟩ trivial rfl) ?_;have hq:Za co 1 (V.int .i64) (.mk q ((n:Int)::r))=.slice co q 1 (((n:Int)::r).map (V.int .i64)):=rfl
  have hne:((((n:Int)::r).length:Int)==0)=false:=by rw[List.length_cons];exact beq_false_of_ne zo
  refine Z ?_;intro I F N E s;refine Zf (zi hne hq) ?_;refine Zp ⟨λ_=>.top,λi=>if i=16 then .any else .pure⟩ zk hG zk zk ?_;simp -implicitDefEqProofs only[go_sem,seval,hgy,hn',Ue,Z8,@Int.natCast_nonneg,@Int.ofNat_lt,List.map_cons];refine⟨rfl,λg33=>?_⟩;refine Xx 133 [X8 b c d e f g m x,.int .i64 (m.p.tg n),Za .new 1 (V.int .i64) (.mk false [(n:Int)])] ⟨Fz.same _,by rw[etg];exact Fz.same _,Xm (f:=V.int .i64) (l:=[(n:Int)]) (m:=1) (g:=g33) (fz:=0) (c:=.new) rfl zp (λ_=>rfl),trivial⟩ ?_;refine Th [X8 b c d e f g m x,.int .i64 (m.p.tg n),Za .new 1 (V.int .i64) (.mk false [(n:Int)])] ⟨Fz.same _,Fz.same _,Fz.same _,trivial⟩ ?_;refine CallA.inl [(63,.dead),(64,.dead),(65,.dead)] zk ?_ ((Bh G b c d e f g m x _ (.mk false [(n:Int)])).mono ?_);intro p A;simp only[List.mem_cons,List.not_mem_nil,or_false]at A
  rcases A with rfl|rfl|rfl<;>rfl
  rintro w H' ⟨w3,w4,w5,rfl,e3,e4,e5⟩;simp -implicitDefEqProofs only[go_sem,seval,Z6,e3,e4,e5];refine AW.block ?_;rw[PM.forkF]at hd⊢;rw[I1]
  refine AW.weak (Y5 (lo:=1000) (B:=H) (l:=[(4,.ptr 104 I 0),(5,.ptr 105 F 0),(6,.ptr 106 N 0),(7,.ptr 107 E 0),(8,.ptr 108 s 0),(34,.func (.func 180) [] [.ptr 63 w3 0,.ptr 64 w4 0,.ptr 65 w5 0])])
   (m:=[(104,.cells .new I 0 [X8 b c d e f g m x]),(105,.cells .new F 0 [Za co 1 (V.int .i64) (.mk q ((n:Int)::r))]),(106,.cells .new N 0 [Xl .new ends]),(107,.cells .new E 0 [.func t [] cl]),(108,.cells .new s 0 [.bool false]),
    (63,.cells .new w3 0 [X8 b c d e f g m x]),(64,.cells .new w4 0 [.int .i64 (m.p.tg n)]),(65,.cells .new w5 0 [Za .new 1 (V.int .i64) (.mk false [(n:Int)])])]) ⟨rfl,rfl,rfl,rfl,rfl,rfl,trivial⟩ ⟨zr,zr,zr,zr,zr,zr,zr,zr,trivial⟩ zp) ?_
  refine AW.range 50 100 190 150 (fun(w : σ × Bool) (H:Heap)=>R w.1 (Z7 1000 H)/\H=Z6 (Z7 1000 H) [(104,.cells .new I 0 [X8 b c d e f g m x]),(105,.cells .new F 0 [Za co 1 (V.int .i64) (.mk q ((n:Int)::r))]),(106,.cells .new N 0 [Xl .new ends]),(107,.cells .new E 0 [.func t [] cl]),(108,.cells .new s 0 [.bool false])])
   (nxF L λw=>m.p.forkF r (ends++[(w.2,w.1)])) jB (λw k=>R9 dom L w.1 (m.p.forkF r (ends++[(k.2,k.1)]))/\k.1≠[]) (U,true) rfl zk (by exact λ_ h=>nomatch h) (λp A=>?_) (λ_=>rfl) zd zd
   (λl r'=>Zwe G hG b c d e f g m x hx hw hr n o0 o1 w3 w4 w5 _ zp zp zp) (λ_ _ _=>trivial) rfl ?_ (Zhp (Dt hd) (Qw _ _ _ _ zS)) ?_ ?_
  simp only[List.mem_cons,List.not_mem_nil,or_false]at A
  rcases A with rfl|rfl
  exact(by decide:35<50);exact(by decide:36<50);refine⟨?_,?_⟩
  show R U _
  refine Zs ?_;exact hR;refine Zs ?_;exact Zx6 rfl
  .rintro l Y ⟨s1,b1⟩ ⟨path,v⟩ Hk _ hrd J hjm ⟨rk,hB⟩
   obtain⟨J,u⟩:=J;simp only at J rk u;generalize Z3 (Z7 100 Hk) 190 .dead=B at *;cases b1;cases hjm;generalize hM:Z7 1000 B=M at rk hB;subst hB
   have D:Z7 1000 M=M:=by simp -implicitDefEqProofs only[go_sem,seval]at hM;exact hM
   try clear hM
   refine Xw Zk2 ?_;refine Vp zk ?_;refine Zs ?_;refine AW.region zk ?_;refine Zs ?_;intro Zx hXZ _
   have hMd:∀ o,o<1000->M o=.dead:=λo W=>by rw[<- D,X5 W]
   have d195:=hMd 195 zd;have d196:=hMd 196 zd;refine AW.weak (Weak.tm (l:=[(4,.ptr 104 I 0),(5,.ptr 105 F 0),(6,.ptr 106 N 0),(7,.ptr 107 E 0),(8,.ptr 108 s 0),(9,Za .new 1 (V.int .i64) (.mk false path)),(10,.int .i64 v)]) ⟨rfl,rfl,rfl,rfl,rfl,rfl,rfl,trivial⟩) ?_;refine AW.block ?_
   repeat refine Z4 ?_
   refine Zcm 11 [0,1,2,3,4,5,6,7,8,10,9] [(89,.ptr 104 I 0,X8 b c d e f g m x),(45,.ptr 105 F 0,Za co 1 (V.int .i64) (.mk q ((n:Int)::r))),(167,.ptr 107 E 0,.func t [] cl)]
    ⟨λi=>if i=0 then X8 b c d e f g m x else if i=1 then Za co 1 (V.int .i64) (.mk q ((n:Int)::r))else if i=4 then Zth .new ends else .func t [] cl,λi=>if i=0 then .keep else if i=1 then .keep else if i=10 then .keep else .own⟩ zk hG zk zk zk zk zk zk ?_
   have T:∀ H':Heap,H' 104=.cells .new I 0 [X8 b c d e f g m x]->H' 105=.cells .new F 0 [Za co 1 (V.int .i64) (.mk q ((n:Int)::r))]->H' 107=.cells .new E 0 [.func t [] cl] ->
     KpH Tryz.prog [(89,.ptr 104 I 0,X8 b c d e f g m x),(45,.ptr 105 F 0,Za co 1 (V.int .i64) (.mk q ((n:Int)::r))),(167,.ptr 107 E 0,.func t [] cl)] H':=by
    intro H' q4 q5 q7 p A;simp only[List.mem_cons,List.not_mem_nil,or_false]at A
    rcases A with rfl|rfl|rfl
    exact V9 q4;exact V9 (zi q5 hq);exact V9 q7
   have hsub:Za co 1 (V.int .i64) ((Sl.mk q ((n:Int)::r)).sub 1 (r.length+1))=Za co 1 (V.int .i64) (.mk q r):=by
    simp[Sl.sub]
   simp -implicitDefEqProofs only[go_sem,seval,List.getElem?_cons_zero,List.getElem?_cons_succ];refine⟨⟨zS,T _ zp zp zp⟩,⟨zS,T _ zp zp zp⟩,?_⟩;simp -implicitDefEqProofs only[go_sem,seval,hsub,Nat.le_refl,List.getElem?_cons_zero,List.getElem?_cons_succ,d195];refine⟨OwnC.of zk (Zq2 G _ ends zo),λg195=>?_⟩;refine⟨⟨zS,T _ zp zp zp⟩,?_⟩;refine Za3 (v,path) (by rw[Xq,Pi u]<;>rfl) (Yg zo zo) λg196=>?_;refine Zs ?_;refine⟨_,rfl,?_⟩
   have hlen:(ends++[(v,path)]).length=ends.length+1:=by rw[List.length_append]<;>rfl
   refine HandX.weak (Hb (lo:=1000) (B:=M) (λo=>o==196) (l:=[(8,.ptr 108 s 0),(37,X8 b c d e f g m x),(39,Za co 1 (V.int .i64) (.mk q r)),(46,Xl .new (ends++[(v,path)])),(47,.func t [] cl)])
    (m:=[(104,.cells .new I 0 [X8 b c d e f g m x]),(105,.cells .new F 0 [Za co 1 (V.int .i64) (.mk q ((n:Int)::r))]),(106,.cells .new N 0 [Xl .new ends]),(107,.cells .new E 0 [.func t [] cl]),(108,.cells .new s 0 [.bool false])])
    (λo W=>zO) (by refine Zs ?_;exact⟨Fz.same _,Fz.same _,Fz.same _,by rw[Dq (l:=ends++[(v,path)]) zS];exact Xm (f:=Wv .new) (fz:=0) (c:=.new) rfl zp (Zbb _),Fz.same _⟩) (λp A=>by
     simp only[List.mem_cons,List.not_mem_nil,or_false]at A
     rcases A with rfl|rfl|rfl|rfl|rfl<;>rfl) ⟨zr,zr,zr,zr,zr,trivial⟩ zp) rfl ?_
   refine HandX.weak (Ss (lo:=1000) (B:=M) (l:=[(8,.ptr 108 s 0),(37,X8 b c d e f g m x),(39,Za co 1 (V.int .i64) (.mk q r)),(46,Xl .new (ends++[(v,path)])),(47,.func t [] cl)])
    (m:=[(104,.cells .new I 0 [X8 b c d e f g m x]),(105,.cells .new F 0 [Za co 1 (V.int .i64) (.mk q ((n:Int)::r))]),(106,.cells .new N 0 [Xl .new ends]),(107,.cells .new E 0 [.func t [] cl]),(108,.cells .new s 0 [.bool false])])
    (by refine Zs ?_;exact⟨Fz.same _,Fz.same _,Fz.same _,Fz.same _,Fz.same _⟩) ⟨zr,zr,zr,zr,zr,trivial⟩ zp) rfl ?_
   refine Jv 1000 (Nat.le_refl _) (ih (ends++[(v,path)]) q b c d e f g co _ (λt ht=>W t (List.mem_cons_of_mem _ ht)) (by rw[hlen];rw[List.length_cons]at hn;omega)) zk (λX' hle=>hy.at (hXZ.trans hle)) s1 rfl zm J ?_ (λH2 C a=>?_) zk (n:=11) rfl zp (λ_ _ _=>trivial);refine Zs ?_;rw[D];exact rk;have S:=a 104 zd;have Q:=a 105 zd;have P:=a 106 zd;have O:=a 107 zd;have j:=a 108 zd;simp -implicitDefEqProofs only[go_sem,seval]at S Q P O j;generalize hz:Yl L s1 (m.p.forkF r (ends++[(v,path)]))=z at C
   have enx:nxF L (λw=>m.p.forkF r (ends++[(w.2,w.1)])) (s1,true) (path,v)=(z.2,z.1):=by rw[<- hz]<;>rfl
   obtain⟨bb,s2⟩:=z;refine Zs ?_
   refine AW.weak (Y5 (lo:=1000) (B:=H2) (l:=[(8,.ptr 108 s 0),(49,.bool !bb)]) (m:=[(104,.cells .new I 0 [X8 b c d e f g m x]),(105,.cells .new F 0 [Za co 1 (V.int .i64) (.mk q ((n:Int)::r))]),(106,.cells .new N 0 [Xl .new ends]),(107,.cells .new E 0 [.func t [] cl]),(108,.cells .new s 0 [.bool false])])
    ⟨rfl,rfl,trivial⟩ ⟨S,Q,P,O,j,trivial⟩ rfl) ?_
   cases bb;refine Z ?_;refine AW.ret ?_;refine Zs ?_;rw[enx];refine⟨rfl,C,?_⟩;exact hpEqM2 rfl;refine Z ?_;rw[enx];exact⟨rfl,C,Zx6 rfl⟩
  rintro H2 ⟨K,hH⟩ _ _;generalize(Yl (λw k=>((jB (nxF L (λw=>m.p.forkF r (ends++[(w.2,w.1)])) w k)).isNone,nxF L (λw=>m.p.forkF r (ends++[(w.2,w.1)])) w k)) (U,true) (m.p.waysL (n:Int))).2=z at K⊢;generalize hM:Z7 1000 (Z3 (Z7 100 H2) 190 .dead)=M at K hH
  have D:Z7 1000 M=M:=by rw[<- hM,Iv]
  obtain⟨s2,b2⟩:=z;cases b2;refine AW.weak (Weak.rng (l:=[(8,.ptr 108 s 0)]) hH ⟨rfl,trivial⟩) ?_;refine Z ?_;refine⟨.inl rfl,?_⟩;refine Zs ?_;rw[D];exact K;refine AW.weak (Weak.rng (l:=[(8,.ptr 108 s 0)]) hH ⟨rfl,trivial⟩) ?_;refine Z ?_;refine⟨.inl rfl,?_⟩;refine Zs ?_;rw[D];exact K
end Go.Hs
end

section
namespace Go.Hs
open Go.Proofs
set_option maxRecDepth 10000
set_option maxHeartbeats 2000000
theorem Zaq{P:Program}{G:Nat->V}{X:Cx}{lo:Nat}{σ κ : Type}{f:FuncId}{a:List V}{enc : κ -> List V}{R : σ -> Heap->Prop}{b : σ -> κ -> Prop}{g : σ -> κ -> Bool × σ}{d:Func}{c:Code}(k:RK)(q n m:Nat)(t:List ResultVar)(y:P.funcs[f]?=some d)
  (h:∀ s κ' Y H,b s κ'->X.le Y->R s (Z7 lo H)->AW P ⟨Y,Z7 lo H,n,q,G,none,[],k⟩ c (Tr P t λv H'=>v=.bool (g s κ').1/\R (g s κ').2 (Z7 lo H')) ⟨Ud 0 (enc κ'++a),Z7 lo H⟩)
  (o:Z5 P f=true:=by kernel_rfl) (A:d.body=some c:=by rfl) (x:d.ntmps=n:=by rfl) (w:d.results.toList=t:=by rfl) (E:∀ v,(enc v++a).length=m:=by exact λ_=>rfl) (i:Nat.ble m n=true:=by rfl) (l:k=.plain\/k=.marks:=by first|exact .inl rfl|exact .inr rfl):Yd P G X lo (.func f) a enc R b g:=by
 subst x w;refine⟨λ_ h=>(by cases h),λs κ' Y H r z j C B D p=>⟨o,?_⟩⟩;refine(O5 l (λ_=>rfl) q y A (by rw[E];exact i) C D p (h s κ' Y H z j B)).mono ?_;rintro e w' ⟨c,v,H',L,⟨rfl,I,F⟩|⟨k,l,_⟩,K,J,u⟩;rw[I]at u;cases u;exact⟨L,H',rfl,K,J,F⟩;cases l
def Un(s:StP):V:=.agg [Za .new 1 (V.int .i64) (Zb s.sources),.int .i64 s.first,Za .new 1 (V.int .i64) (Zb s.guards),Za .new 1 (V.int .i64) (Zb s.effects),Xl .new s.ends,.nils]
theorem Zmh(s:StP):Un s=.agg [Za .new 1 (V.int .i64) (Zb s.sources),.int .i64 s.first,Za .new 1 (V.int .i64) (Zb s.guards),Za .new 1 (V.int .i64) (Zb s.effects),Xl .new s.ends,.nils]:=rfl
def StP.fork(s:StP)(es:List (Int×List Int)):StP:=⟨s.sources,s.first,s.guards++es.flatMap (·.2),s.effects,es⟩
@[go_sem] theorem mask_1020(H:Heap):Z7 1000 (Z7 2000 H)=Z7 2000 H:=Lp H zd
@[go_sem] theorem mask_2010(H:Heap):Z7 2000 (Z7 1000 H)=Z7 2000 H:=Pd H zd
theorem Ztz(G:Nat->V)(hG:Y6 G){X:Cx}{t:Fn}{cl:List V}{σ : Type}{R : σ -> Heap->Prop}{u : σ -> StP->Prop}{J : σ -> StP->Bool × σ}(hy:Yd Tryz.prog G X 2000 t cl (λs:StP=>[Un s]) R u J)(b:StP)(O:b.guards≠[])(I F E D C j r:Nat)(z y x w v:V):
  Yd Tryz.prog G X 1000 (.func 120) [.ptr 1209 r 0,.ptr 1106 j 0] (λes=>[Xl .new es]) (λs H=>R s (Z7 2000 H)/\H=Z6 (Z7 2000 H) [(1004,.cells .new I 0 [z]),(1005,.cells .new F 0 [y]),(1006,.cells .new E 0 [x]),(1007,.cells .new D 0 [w]),(1009,.cells .new C 0 [v]),(1106,.cells .new j 0 [.func t [] cl]),(1209,.cells .new r 0 [Za .new 1 (V.int .i64) (Zb b.sources),.int .i64 b.first,Za .new 1 (V.int .i64) (Zb b.guards),Za .new 1 (V.int .i64) (Zb b.effects),.nils,.nils])])
   (λs es=>u s (b.fork es)/\(b.guards++es.flatMap (·.2)).length<390000/\es.length<100000) (λs es=>J s (b.fork es)):=by
 refine Zaq .plain 1300 27 3 [.tmp 4] Tryz.func120 λs es Y H ⟨hd,N,hle⟩ P ⟨hR,hH⟩=>?_;generalize Z7 1000 H=B at *;generalize T:Z7 2000 B=M at hR hH;subst hH
 have S:Z7 2000 M=M:=by simp -implicitDefEqProofs only[go_sem,seval]at T;exact T
 clear T;refine Z ?_;intro c;have U:Xl .new es=Za .new 2 (Wv .new) (Zb es):=rfl;rw[U]at *;refine Zf (Zl es) ?_
 refine Yf es.length (λk (_:Unit)=>Hs.stM 2000 M [(2,.ptr 1106 j 0),(5,.ptr 1305 c 0),(11,Za .new 2 (Wv .new) (Zb es)),(12,.int .i64 es.length),(13,.int .i64 k)]
   ((1305,.cells .new c 0 [Za .new 1 (V.int .i64) (Zb b.sources),.int .i64 b.first,Za .new 1 (V.int .i64) (Zb (b.guards++(es.take k).flatMap (·.2))),Za .new 1 (V.int .i64) (Zb b.effects),Za .new 2 (Wv .new) (Zb es),.nils])::[(1004,.cells .new I 0 [z]),(1005,.cells .new F 0 [y]),(1006,.cells .new E 0 [x]),(1007,.cells .new D 0 [w]),(1009,.cells .new C 0 [v]),(1106,.cells .new j 0 [.func t [] cl]),(1209,.cells .new r 0 [Za .new 1 (V.int .i64) (Zb b.sources),.int .i64 b.first,Za .new 1 (V.int .i64) (Zb b.guards),Za .new 1 (V.int .i64) (Zb b.effects),.nils,.nils])]))
  (λ_ _=>True) 0 () (Nat.zero_le _) trivial (Y5 ⟨rfl,rfl,zp,zp,zp,trivial⟩ ⟨by simp -implicitDefEqProofs only[go_sem,seval,List.take_zero,List.flatMap_nil,List.append_nil],zp,zp,zp,zp,zp,zp,zp,trivial⟩ zp) ?_
 intro k _ hk _ L hL
 have p:∀ n,(b.guards++(es.take n).flatMap (·.2)).length<390000:=λn=>by
  refine Nat.lt_of_le_of_lt ?_ N
  conv=>rhs;rw[<- List.take_append_drop n es,List.flatMap_append]
  simp only[List.length_append];omega
 have o:∀ n,b.guards++(es.take n).flatMap (·.2)≠[]:=λn h=>O (List.append_eq_nil_iff.1 h).1
 by_cases f:k<es.length
 have d:decide ((k:Int)<(es.length:Int))=true:=zT;have A:=List.getElem?_eq_getElem f
 have g:(es.take (k+1)).flatMap (·.2)=(es.take k).flatMap (·.2)++es[k].2:=by
  rw[List.take_add_one,A,List.flatMap_append];simp
 have i:=p (k+1);rw[g]at i;generalize es[k]=e at A g i;have w1:IntKind.i64.wrap ((k:Int)+1)=(k:Int)+1:=W0 zo zo
 have hg2:(Zb es).l[k]?=some e:=by rw[Zl];exact A
 have hk2:k<(Zb es).l.length:=by rw[Zl];exact f
 refine Zf (zi d (zi A (zi f (zi (Zl es) (zi Xq (zi @Int.natCast_nonneg @Int.ofNat_lt)))))) ?_;intro g7';refine Z ?_
 have W:(b.guards++(es.take k).flatMap (·.2)).length+e.2.length<390000:=by
  have:=i;simp only[List.length_append]at this⊢;omega
 have K:Za .new 1 (V.int .i64) (.mk false (b.guards++(es.take k).flatMap (·.2)++e.2))=Za .new 1 (V.int .i64) (Zb (b.guards++(es.take (k+1)).flatMap (·.2))):=by
  rw[g,<- List.append_assoc,Pi (l:=b.guards++(es.take k).flatMap (·.2)++e.2) (by
   intro h
   exact o k (List.append_eq_nil_iff.1 h).1)]
 refine Zc hG ?_ (s:=Jz G hG _ _ _ _ (by rw[Zl];omega) (by rw[Zl];omega) (by
  rw[Zl,Zl];have:=List.length_pos_iff.2 (o k)
  omega))
 refine Zf (zi w1 K) ?_;refine hL _ ⟨f,(),trivial,Y5 ⟨rfl,rfl,zp,zp,zp,trivial⟩ ⟨zp,zp,zp,zp,zp,zp,zp,zp,trivial⟩ zp⟩;have q:k=es.length:=zo;have d:decide ((k:Int)<(es.length:Int))=false:=zF;rw[q,List.take_length];rw[q]at d;refine Zs ?_;refine Vp zk ?_;refine Xw d ?_;refine Z4 ?_;refine Wx rfl ?_;refine AW.exit ?_;refine Zs ?_;refine Z4 (Wm [2] zk (by rfl) ?_);simp -implicitDefEqProofs only[go_sem,seval,My];refine⟨_,rfl,?_⟩
 refine HandX.weak (Ss (lo:=2000) (B:=M) (l:=[(24,.func t [] cl),(25,Un (b.fork es))]) (m:=[(1004,.cells .new I 0 [z]),(1005,.cells .new F 0 [y]),(1006,.cells .new E 0 [x]),(1007,.cells .new D 0 [w]),(1009,.cells .new C 0 [v]),(1106,.cells .new j 0 [.func t [] cl]),(1209,.cells .new r 0 [Za .new 1 (V.int .i64) (Zb b.sources),.int .i64 b.first,Za .new 1 (V.int .i64) (Zb b.guards),Za .new 1 (V.int .i64) (Zb b.effects),.nils,.nils])])
  (by
   simp -implicitDefEqProofs only[go_sem,seval]
   exact⟨Fz.same _,Fz.same _⟩) ⟨zp,zp,zp,zp,zp,zp,zp,trivial⟩ zp) rfl (S8 (hy.at P) s (b.fork es) rfl zm hd ?_ (λH2 Q a=>?_) zk (n:=2) rfl zp)
 simp -implicitDefEqProofs only[go_sem,seval];rw[S];exact hR;have e1:=a 1004 zd;have e2:=a 1005 zd;have e3:=a 1006 zd;have e4:=a 1007 zd;have e5:=a 1009 zd;have e6:=a 1106 zd;have e7:=a 1209 zd;simp -implicitDefEqProofs only[go_sem,seval]at e1 e2 e3 e4 e5 e6 e7;refine Zs ?_;refine AW.weak (Y5 (lo:=2000) (B:=H2) (l:=[(4,.bool (J s (b.fork es)).1)]) (m:=[(1004,.cells .new I 0 [z]),(1005,.cells .new F 0 [y]),(1006,.cells .new E 0 [x]),(1007,.cells .new D 0 [w]),(1009,.cells .new C 0 [v]),(1106,.cells .new j 0 [.func t [] cl]),(1209,.cells .new r 0 [Za .new 1 (V.int .i64) (Zb b.sources),.int .i64 b.first,Za .new 1 (V.int .i64) (Zb b.guards),Za .new 1 (V.int .i64) (Zb b.effects),.nils,.nils])]) ⟨rfl,trivial⟩ ⟨e1,e2,e3,e4,e5,e6,e7,trivial⟩ rfl) ?_;refine Z ?_;refine⟨rfl,?_,?_⟩;simp -implicitDefEqProofs only[go_sem,seval];exact Q;simp -implicitDefEqProofs only[go_sem,seval]
end Go.Hs
end

section
namespace Go.Hs
open Go.Proofs
set_option maxRecDepth 10000
set_option maxHeartbeats 2000000
theorem Z6g(m:PM)(a:List Int)(first:Int)(b:List Int)(w:List Int×Int)(h:w.2 ≠ -1/\m.allP w.2=true):m.strW a first b w=(m.forkF (m.outI w.2) []).map (StP.fork ⟨a,first,w.1,b++w.1,[]⟩):=by
 rw[PM.strW,if_pos h]<;>rfl
theorem G5(m:PM)(a:List Int)(first:Int)(b:List Int)(w:List Int×Int)(h:¬(w.2 ≠ -1/\m.allP w.2=true)):m.strW a first b w=[⟨a,first,w.1,b++w.1,[(w.2,[])]⟩]:=by
 rw[PM.strW,if_neg h]
theorem B7{σ κ b:Type}(a : σ -> b->Bool × σ)(f : κ -> b):∀ (xs:List κ) (s : σ),Yl a s (xs.map f)=Yl (λs k=>a s (f k)) s xs
 |[],_=>rfl
 |k::r,s=>by
  rw[List.map_cons,Yl,Yl]
  split
  exact B7 a f r _;rfl
theorem Zph{σ κ b:Type}{a : σ -> b->Prop}{c : σ -> b->Bool × σ}{f : κ -> b}{Q : κ -> Prop}:∀ {xs:List κ} {s : σ},R9 a c s (xs.map f)->(∀ k∈xs,Q k)->R9 (λs k=>a s (f k)/\Q k) (λs k=>c s (f k)) s xs
 |[],_,_,_=>trivial
 |k::r,s,h,hq=>⟨⟨h.1,hq k (List.mem_cons_self ..)⟩,λz=>Zph (h.2 z) λk' d=>hq k' (List.mem_cons_of_mem _ d)⟩
theorem Dc(G:Nat->V)(e:Y6 G)(b c d:Col)(x:IxM)(m:PM)(f:IxP m x)(g:m.ways.length<1000000)(n:Nat)(p:PlM)(a:x.places.l[n]?=some p)(k:(n:Int)<m.vertices.length):
  Spec Tryz.prog G 60 [Mz b c d x,.int .i64 n] Zi (λw _=>w=Za .new 1 (V.int .i64) p.out.co):=by
 refine Zo 0 18 [.tmp 4] Tryz.func60 λX=>?_;have i:n<x.places.l.length:=(List.getElem?_eq_some_iff.1 a).1
 have j:(decide ((0:Int)<=(n:Int))&&decide ((n:Int)<x.places.l.length))=true:=by rw[Bool.and_eq_true];exact⟨zT,zT⟩
 refine Z ?_;refine Zc e ?_ (s:=Uf G _ _ _ _ _);refine Zg (zi j (zi a (zi i (zi Uw (zi S0 (zi @Int.natCast_nonneg @Int.ofNat_lt)))))) ?_
 have h:p.out.l.length<1000000:=by rw[f.out n p a,PM.outI];exact Nat.lt_of_le_of_lt (PM.wysI_len _ _ _) g
 refine Zc e ?_ (s:=Ms G _ _ h);exact Zr
@[go_sem] theorem mask_1002(H:Heap):Z7 100 (Z7 2000 H)=Z7 2000 H:=Lp H zd
@[go_sem] theorem mask_2001(H:Heap):Z7 2000 (Z7 100 H)=Z7 2000 H:=Pd H zd
theorem Dd{lo:Nat}{H:Heap}{a b c d e f:AObj}(h:lo=2000):Z3 (Z3 (Z3 (Z3 (Z3 (Z3 (Z3 (Z7 lo H) 1106 f) 1009 e) 1007 d) 1006 c) 1005 b) 1004 a) 1190 .dead=Z3 (Z3 (Z3 (Z3 (Z3 (Z3 (Z7 lo H) 1106 f) 1009 e) 1007 d) 1006 c) 1005 b) 1004 a:=by
 subst h
 funext o
 by_cases q:o=1190
 subst q;simp[Z3,X5];rw[Zk _ _ q]
theorem Zke{F:Nat->Bool}{H:Heap}{xs a:List V}(h:FzL F H xs a):Fz F H (.agg xs) (.agg a):=.agg xs a h.get.1.symm h.get.2
theorem Znw(l:List Int):(Zb l).co=Zb l:=by cases l<;>rfl
theorem Zxs(G:Nat->V)(hG:Y6 G)(b c d e f g P O:Col)(m:MdM)(x:IxM)(hx:IxP m.p x)(hw:m.p.ways.length<=600)(hr:∀ t:Int,0<=t->t<m.p.ways.length->0<=m.p.tg t/\m.p.tg t<m.p.vertices.length)
  (S:m.p.Wfd) (a j:List Int) (hsn:a≠[]) (hsl:a.length<1000) (hil:j.length<1000) (first t:Int) (t0:0<=t) (t1:t<m.p.ways.length) (J I F K E:Nat) (H:Heap) (q4:H 1004=.cells .new J 0 [X8 b c d e f g m x]) (q5:H 1005=.cells .new I 0 [Za P 1 (V.int .i64) (Zb a)]) (q6:H 1006=.cells .new F 0 [Za O 1 (V.int .i64) (Zb j)]) (q7:H 1007=.cells .new K 0 [.int .i64 t]) (q9:H 1009=.cells .new E 0 [.int .i64 first]):
  Z5l Tryz.prog G 2000 115 [.ptr 1004 J 0,.ptr 1007 K 0,.ptr 1005 I 0,.ptr 1009 E 0,.ptr 1006 F 0] H (λs:StP=>[Un s]) ((m.p.waysL t).flatMap (m.p.strW a first j)):=by
 refine Vc .marks 1100 59 6 [] Tryz.func115 λX ty cl σ R dom C s0 hy hd hR _=>?_;obtain⟨n,y,rfl,hn',hgy,ey⟩:=m.wyAt t0 t1
 have etg:m.p.tg (n:Int)=y.target:=by rw[PM.tg,ey]<;>rfl
 refine AW.weak (Y5 (lo:=2000) (B:=H) (l:=[(0,.func ty [] cl),(1,.ptr 1004 J 0),(2,.ptr 1007 K 0),(3,.ptr 1005 I 0),(4,.ptr 1009 E 0),(5,.ptr 1006 F 0)]) (m:=[(1004,.cells .new J 0 [X8 b c d e f g m x]),(1005,.cells .new I 0 [Za P 1 (V.int .i64) (Zb a)]),(1006,.cells .new F 0 [Za O 1 (V.int .i64) (Zb j)]),(1007,.cells .new K 0 [.int .i64 n]),(1009,.cells .new E 0 [.int .i64 first])]) ⟨rfl,rfl,rfl,rfl,rfl,rfl,trivial⟩ ⟨q4,q5,q6,q7,q9,trivial⟩ rfl) ?_;refine Z ?_;intro r;refine Z ?_;refine Zp ⟨λ_=>.top,λi=>if i=12 then .any else .pure⟩ zk hG zk zk ?_;simp -implicitDefEqProofs only[go_sem,seval,hgy,hn',Ue,Z8,@Int.natCast_nonneg,@Int.ofNat_lt];refine⟨by rw[X5 zd],λg22=>?_⟩;refine Xx 1122 [X8 b c d e f g m x,.int .i64 (m.p.tg n),Za .new 1 (V.int .i64) (.mk false [(n:Int)])] ⟨Fz.same _,by rw[etg];exact Fz.same _,Xm (f:=V.int .i64) (l:=[(n:Int)]) (m:=1) (g:=g22) (fz:=0) (c:=.new) rfl zp (λ_=>rfl),trivial⟩ ?_;refine Th [X8 b c d e f g m x,.int .i64 (m.p.tg n),Za .new 1 (V.int .i64) (.mk false [(n:Int)])] ⟨Fz.same _,Fz.same _,Fz.same _,trivial⟩ ?_;refine CallA.inl [(63,.dead),(64,.dead),(65,.dead)] zk ?_ ((Bh G b c d e f g m x _ (.mk false [(n:Int)])).mono ?_);intro p T;simp only[List.mem_cons,List.not_mem_nil,or_false]at T
 rcases T with rfl|rfl|rfl
 refine Zs ?_;exact X5 zd;refine Zs ?_;exact X5 zd;refine Zs ?_;exact X5 zd;rintro w H' ⟨w3,w4,w5,rfl,e3,e4,e5⟩;simp -implicitDefEqProofs only[go_sem,seval,Z6,e3,e4,e5];refine AW.block ?_;rw[I1]
 refine AW.weak (Y5 (lo:=2000) (B:=H) (l:=[(1,.ptr 1004 J 0),(3,.ptr 1005 I 0),(4,.ptr 1009 E 0),(5,.ptr 1006 F 0),(6,.ptr 1106 r 0),(23,.func (.func 180) [] [.ptr 63 w3 0,.ptr 64 w4 0,.ptr 65 w5 0])])
  (m:=(63,.cells .new w3 0 [X8 b c d e f g m x])::(64,.cells .new w4 0 [.int .i64 (m.p.tg n)])::(65,.cells .new w5 0 [Za .new 1 (V.int .i64) (.mk false [(n:Int)])])::[(1004,.cells .new J 0 [X8 b c d e f g m x]),(1005,.cells .new I 0 [Za P 1 (V.int .i64) (Zb a)]),(1006,.cells .new F 0 [Za O 1 (V.int .i64) (Zb j)]),(1007,.cells .new K 0 [.int .i64 n]),(1009,.cells .new E 0 [.int .i64 first]),(1106,.cells .new r 0 [.func ty [] cl])]) ⟨rfl,rfl,rfl,rfl,rfl,rfl,trivial⟩ ⟨zr,zr,zr,zr,zr,zr,zr,zr,zr,trivial⟩ zp) ?_
 refine AW.range 50 100 1190 1200 (fun(w : σ × Bool) (H:Heap)=>R w.1 (Z7 2000 H)/\H=Z6 (Z7 2000 H) [(1004,.cells .new J 0 [X8 b c d e f g m x]),(1005,.cells .new I 0 [Za P 1 (V.int .i64) (Zb a)]),(1006,.cells .new F 0 [Za O 1 (V.int .i64) (Zb j)]),(1007,.cells .new K 0 [.int .i64 n]),(1009,.cells .new E 0 [.int .i64 first]),(1106,.cells .new r 0 [.func ty [] cl])])
  (nxF C (m.p.strW a first j)) jB (λw k=>R9 dom C w.1 (m.p.strW a first j k)/\k∈m.p.waysL n) (s0,true) rfl zk (by exact λ_ h=>nomatch h) (λp T=>?_) (λ_=>rfl) zd zd
  (λl r'=>Zwe G hG b c d e f g m x hx zo hr n t0 t1 w3 w4 w5 _ zp zp zp) (λ_ _ _=>trivial) rfl ?_ (Zhp (Dt hd) λ_ h=>h) ?_ ?_
 simp only[List.mem_cons,List.not_mem_nil,or_false]at T
 rcases T with rfl|rfl
 exact(by decide:24<59);exact(by decide:25<59);refine⟨?_,?_⟩
 show R s0 _
 refine Zs ?_;exact hR;refine Zs ?_;exact Dd rfl
 .rintro l Y ⟨s',b1⟩ ⟨path,v⟩ Hk _ hrd ⟨hdk,hmem⟩ hjm ⟨rk,hB⟩
  simp only at hdk rk;generalize Z3 (Z7 100 Hk) 1190 .dead=B at *;cases b1;cases hjm;generalize hM:Z7 2000 B=M at rk hB;subst hB
  have Q:Z7 2000 M=M:=by simp -implicitDefEqProofs only[go_sem,seval]at hM;exact hM
  try clear hM
  have hMd:∀ o,o<2000->M o=.dead:=λo ho=>by rw[<- Q,X5 ho]
  refine Xw Zk2 ?_;refine Vp zk ?_;refine Zs ?_;refine AW.region zk ?_;refine Zs ?_;intro Zx hXZ _;refine AW.weak (Weak.tm (l:=[(1,.ptr 1004 J 0),(3,.ptr 1005 I 0),(4,.ptr 1009 E 0),(5,.ptr 1006 F 0),(6,.ptr 1106 r 0),(7,Za .new 1 (V.int .i64) (.mk false path)),(8,.int .i64 v)]) ⟨rfl,rfl,rfl,rfl,rfl,rfl,rfl,trivial⟩) ?_;refine AW.block ?_
  repeat refine Z4 ?_
  have wf:=m.p.waysL_ok S t0 t1 _ hmem;have hpl:path.length<=601:=Nat.le_trans wf.len zo;have hpn:path≠[]:=Qw _ _ _ _ zS _ hmem;have d1209:=hMd 1209 zd;refine Zp ⟨λi=>if i=1 then Za .new 1 (V.int .i64) (Zb a)else Za .new 1 (V.int .i64) (.mk false (j++path)),λ_=>.pure⟩ zk hG zk zk ?_;refine Xw d1209 ?_;refine⟨⟨zk,?_⟩,⟨zk,?_⟩,λN=>?_⟩;simp -implicitDefEqProofs only[go_sem,seval,List.map_cons,List.map_nil]
  exact(Ms G _ _ (by rw[Zl];omega)).mono λv _ e=>by rw[e,Znw];simp -implicitDefEqProofs only[go_sem,seval]
  simp -implicitDefEqProofs only[go_sem,seval,List.map_cons,List.map_nil]
  exact(Jz G hG _ _ _ _ (by rw[Zl];omega) (by show path.length<_;omega) (by
   have:=List.length_pos_iff.2 hpn
   show _+path.length≠0
   omega)).mono λv _ e=>by rw[e,Zl];simp -implicitDefEqProofs only[go_sem,seval]
  have hip:j++path≠[]:=λh=>hpn (List.append_eq_nil_iff.1 h).2;rw[<- Pi hip,<- Pi hpn]
  by_cases hv:v = -1
  have hv1:(v != -1)=false:=by rw[hv]<;>rfl
  rw[G5 _ _ _ _ _ (λh=>h.1 hv)]at hdk;refine Zf hv1 ?_;intro L
  have A:nxF C (m.p.strW a first j) (s',true) (path,v)=((C s' ⟨a,first,path,j++path,[(v,[])]⟩).2,(C s' ⟨a,first,path,j++path,[(v,[])]⟩).1):=by
   show((Yl C s' _).2,(Yl C s' _).1)=_
   rw[G5 _ _ _ _ _ (λh=>h.1 hv),Mk]
  refine Wm [2] zk (by rfl) ?_;simp -implicitDefEqProofs only[go_sem,seval,My];refine⟨_,rfl,?_⟩
  refine HandX.weak (Hb (lo:=2000) (B:=M) (λo=>o==1252) (l:=[(54,.func ty [] cl),(55,.agg [Za .new 1 (V.int .i64) (Zb a),.int .i64 first,Za .new 1 (V.int .i64) (Zb path),Za .new 1 (V.int .i64) (Zb (j++path)),Xl .new [(v,[])],.nils])]) (m:=[(1004,.cells .new J 0 [X8 b c d e f g m x]),(1005,.cells .new I 0 [Za P 1 (V.int .i64) (Zb a)]),(1006,.cells .new F 0 [Za O 1 (V.int .i64) (Zb j)]),(1007,.cells .new K 0 [.int .i64 n]),(1009,.cells .new E 0 [.int .i64 first]),(1106,.cells .new r 0 [.func ty [] cl])])
   (λo ho=>zO) (by
    refine Zs ?_
    exact⟨Fz.same _,Zke ⟨Fz.same _,Fz.same _,Fz.same _,Fz.same _,Xm (f:=Wv .new) (l:=[(v,[])]) (m:=2) (g:=L) (fz:=0) (c:=.new) rfl zp (Zbb _),Fz.same _,trivial⟩⟩) (λp T=>by
     simp only[List.mem_cons,List.not_mem_nil,or_false]at T
     rcases T with rfl|rfl|rfl|rfl|rfl|rfl<;>rfl) ⟨zp,zp,zp,zp,zp,zp,trivial⟩ zp) rfl ?_
  refine HandX.weak (Ss (lo:=2000) (B:=M) (l:=[(54,.func ty [] cl),(55,Un ⟨a,first,path,j++path,[(v,[])]⟩)]) (m:=[(1004,.cells .new J 0 [X8 b c d e f g m x]),(1005,.cells .new I 0 [Za P 1 (V.int .i64) (Zb a)]),(1006,.cells .new F 0 [Za O 1 (V.int .i64) (Zb j)]),(1007,.cells .new K 0 [.int .i64 n]),(1009,.cells .new E 0 [.int .i64 first]),(1106,.cells .new r 0 [.func ty [] cl])])
   (by
    refine Zs ?_
    exact⟨Fz.same _,Fz.same _⟩) ⟨zp,zp,zp,zp,zp,zp,trivial⟩ zp) rfl (S8 (hy.at hXZ) s' ⟨a,first,path,j++path,[(v,[])]⟩ rfl zm hdk.1 ?_ (λW D u=>?_) zk (n:=2) rfl zp)
  refine Zs ?_;rw[Q];exact rk;have e1:=u 1004 zd;have e2:=u 1005 zd;have e3:=u 1006 zd;have e4:=u 1007 zd;have e5:=u 1009 zd;have e6:=u 1106 zd;simp -implicitDefEqProofs only[go_sem,seval]at e1 e2 e3 e4 e5 e6;generalize C s' ⟨a,first,path,j++path,[(v,[])]⟩=z at D A⊢;obtain⟨bb,s3⟩:=z;refine Zs ?_;refine AW.weak (Y5 (lo:=2000) (B:=W) (l:=[(10,.bool bb)]) (m:=[(1004,.cells .new J 0 [X8 b c d e f g m x]),(1005,.cells .new I 0 [Za P 1 (V.int .i64) (Zb a)]),(1006,.cells .new F 0 [Za O 1 (V.int .i64) (Zb j)]),(1007,.cells .new K 0 [.int .i64 n]),(1009,.cells .new E 0 [.int .i64 first]),(1106,.cells .new r 0 [.func ty [] cl])]) ⟨rfl,trivial⟩ ⟨e1,e2,e3,e4,e5,e6,trivial⟩ rfl) ?_;cases bb;refine Z ?_;refine AW.ret ?_;refine Zs ?_;rw[A];exact⟨rfl,D,Dd rfl⟩;refine Z ?_;rw[A];exact⟨rfl,D,Dd rfl⟩
  have hv1:(v != -1)=true:=by simp[bne,hv]
  obtain⟨v0,v1⟩:0<=v/\v<m.p.vertices.length:=by
   rcases wf.fo with h|h
   exact absurd h hv;exact h.1
  refine Zf hv1 ?_;refine Zc hG ?_ (s:=Zun G hG _ _ _ _ _ _ m _ (hx.rc _) zo v v0 v1);cases q:m.p.allP v
  have hnf:¬(v ≠ -1/\m.p.allP v=true):=λh=>by rw[q]at h;cases h.2
  rw[G5 _ _ _ _ _ hnf]at hdk;refine Zf q ?_;intro L
  have A:nxF C (m.p.strW a first j) (s',true) (path,v)=((C s' ⟨a,first,path,j++path,[(v,[])]⟩).2,(C s' ⟨a,first,path,j++path,[(v,[])]⟩).1):=by
   show((Yl C s' _).2,(Yl C s' _).1)=_
   rw[G5 _ _ _ _ _ hnf,Mk]
  refine Wm [2] zk (by rfl) ?_;simp -implicitDefEqProofs only[go_sem,seval,My];refine⟨_,rfl,?_⟩
  refine HandX.weak (Hb (lo:=2000) (B:=M) (λo=>o==1252) (l:=[(54,.func ty [] cl),(55,.agg [Za .new 1 (V.int .i64) (Zb a),.int .i64 first,Za .new 1 (V.int .i64) (Zb path),Za .new 1 (V.int .i64) (Zb (j++path)),Xl .new [(v,[])],.nils])]) (m:=[(1004,.cells .new J 0 [X8 b c d e f g m x]),(1005,.cells .new I 0 [Za P 1 (V.int .i64) (Zb a)]),(1006,.cells .new F 0 [Za O 1 (V.int .i64) (Zb j)]),(1007,.cells .new K 0 [.int .i64 n]),(1009,.cells .new E 0 [.int .i64 first]),(1106,.cells .new r 0 [.func ty [] cl])])
   (λo ho=>zO) (by
    refine Zs ?_
    exact⟨Fz.same _,Zke ⟨Fz.same _,Fz.same _,Fz.same _,Fz.same _,Xm (f:=Wv .new) (l:=[(v,[])]) (m:=2) (g:=L) (fz:=0) (c:=.new) rfl zp (Zbb _),Fz.same _,trivial⟩⟩) (λp T=>by
     simp only[List.mem_cons,List.not_mem_nil,or_false]at T
     rcases T with rfl|rfl|rfl|rfl|rfl|rfl<;>rfl) ⟨zp,zp,zp,zp,zp,zp,trivial⟩ zp) rfl ?_
  refine HandX.weak (Ss (lo:=2000) (B:=M) (l:=[(54,.func ty [] cl),(55,Un ⟨a,first,path,j++path,[(v,[])]⟩)]) (m:=[(1004,.cells .new J 0 [X8 b c d e f g m x]),(1005,.cells .new I 0 [Za P 1 (V.int .i64) (Zb a)]),(1006,.cells .new F 0 [Za O 1 (V.int .i64) (Zb j)]),(1007,.cells .new K 0 [.int .i64 n]),(1009,.cells .new E 0 [.int .i64 first]),(1106,.cells .new r 0 [.func ty [] cl])])
   (by
    refine Zs ?_
    exact⟨Fz.same _,Fz.same _⟩) ⟨zp,zp,zp,zp,zp,zp,trivial⟩ zp) rfl (S8 (hy.at hXZ) s' ⟨a,first,path,j++path,[(v,[])]⟩ rfl zm hdk.1 ?_ (λW D u=>?_) zk (n:=2) rfl zp)
  refine Zs ?_;rw[Q];exact rk;have e1:=u 1004 zd;have e2:=u 1005 zd;have e3:=u 1006 zd;have e4:=u 1007 zd;have e5:=u 1009 zd;have e6:=u 1106 zd;simp -implicitDefEqProofs only[go_sem,seval]at e1 e2 e3 e4 e5 e6;generalize C s' ⟨a,first,path,j++path,[(v,[])]⟩=z at D A⊢;obtain⟨bb,s3⟩:=z;refine Zs ?_;refine AW.weak (Y5 (lo:=2000) (B:=W) (l:=[(10,.bool bb)]) (m:=[(1004,.cells .new J 0 [X8 b c d e f g m x]),(1005,.cells .new I 0 [Za P 1 (V.int .i64) (Zb a)]),(1006,.cells .new F 0 [Za O 1 (V.int .i64) (Zb j)]),(1007,.cells .new K 0 [.int .i64 n]),(1009,.cells .new E 0 [.int .i64 first]),(1106,.cells .new r 0 [.func ty [] cl])]) ⟨rfl,trivial⟩ ⟨e1,e2,e3,e4,e5,e6,trivial⟩ rfl) ?_;cases bb;refine Z ?_;refine AW.ret ?_;refine Zs ?_;rw[A];exact⟨rfl,D,Dd rfl⟩;refine Z ?_;rw[A];exact⟨rfl,D,Dd rfl⟩;have hf:v ≠ -1/\m.p.allP v=true:=⟨hv,q⟩;rw[Z6g _ _ _ _ _ hf]at hdk
  have houts:m.p.outI v≠[]:=by
   intro h0;unfold PM.allP at q;rw[Bool.or_eq_true,Bool.and_eq_true,h0]at q
   rcases q with q|⟨_,q⟩
   have:=S.fork v v0 v1 (zu q);rw[h0]at this;cases this;simp at q
  obtain⟨nv,pv,ev,hkv,hgv,_,_,_,_,hov,_⟩:=hx.at v0 v1
  have hco:pv.out.co=.mk false (m.p.outI v):=by
   cases h:pv.out with
   |nil=>rw[h]at hov;exact absurd hov.symm houts
   |mk b l=>rw[h]at hov;rw[<- hov]<;>rfl
  have hlo:(m.p.outI v).length<=512:=Nat.le_trans (PM.wysI_len _ _ _) S.lw
  let b0:StP:=⟨a,first,path,j++path,[]⟩
  refine Xw q ?_;refine U8 rfl ?_;refine Ge 8 ⟨λ_=>Za .new 1 (V.int .i64) (.mk false (m.p.outI v)),λ_=>.pure⟩ zk hG zk zk zk zk ?_;refine Xw @Ue ?_;refine⟨⟨zk,?_⟩,_,rfl,?_⟩;simp -implicitDefEqProofs only[go_sem,seval,List.map_cons,List.map_nil];have:=Dc G hG e.ent f.ent g.ent (x.rc Col.ent) m.p (hx.rc _) zo nv pv hgv (by rw[<- ev];exact v1);rw[<- ev,hco]at this
  exact this.mono λv _ e=>by rw[e];simp -implicitDefEqProofs only[go_sem,seval]
  have A:nxF C (m.p.strW a first j) (s',true) (path,v)=((Yl (λs es=>C s (b0.fork es)) s' (m.p.forkF (m.p.outI v) [])).2,(Yl (λs es=>C s (b0.fork es)) s' (m.p.forkF (m.p.outI v) [])).1):=by
   show((Yl C s' _).2,(Yl C s' _).1)=_
   rw[Z6g _ _ _ _ _ hf,B7]
  refine HandX.weak (Ss (lo:=2000) (B:=M) (l:=[(41,X8 b c d e f g m x),(47,Za .new 1 (V.int .i64) (.mk false (m.p.outI v))),(48,.func (.func 120) [] [.ptr 1209 N 0,.ptr 1106 r 0])])
   (m:=[(1004,.cells .new J 0 [X8 b c d e f g m x]),(1005,.cells .new I 0 [Za P 1 (V.int .i64) (Zb a)]),(1006,.cells .new F 0 [Za O 1 (V.int .i64) (Zb j)]),(1007,.cells .new K 0 [.int .i64 n]),(1009,.cells .new E 0 [.int .i64 first]),(1106,.cells .new r 0 [.func ty [] cl]),(1209,.cells .new N 0 [Za .new 1 (V.int .i64) (Zb b0.sources),.int .i64 b0.first,Za .new 1 (V.int .i64) (Zb b0.guards),Za .new 1 (V.int .i64) (Zb b0.effects),.nils,.nils])])
   (by refine Zs ?_;exact⟨Fz.same _,Fz.same _,Fz.same _⟩) ⟨zr,zr,zr,zr,zr,zr,zr,trivial⟩ zp) rfl ?_
  refine Jv 1000 (Nat.le_refl _) (Zb2 G hG m x hx zo hr (m.p.outI v) [] false b c d e f g .new _ (λt ht=>(PM.mem_out.1 ht).1) zO) zk
   (λX' hle=>Ztz G hG ((hy.at hXZ).at hle) b0 hpn J I F K E r N (X8 b c d e f g m x) (Za P 1 (V.int .i64) (Zb a)) (Za O 1 (V.int .i64) (Zb j)) (.int .i64 n) (.int .i64 first)) s' rfl ?_ (Zph hdk λes hes=>?_) ?_ (λW D u=>?_) zk (n:=8) rfl zp (λ_ _ _=>trivial)
  refine Xw @Ue ?_;rfl;obtain⟨f1,f2⟩:=m.p.forkF_ok (m.p.outI v) [] es hes
  have f3:=PM.flat_le (n:=513) es λe' he'=>by
   rcases f2 e' he' with h|⟨o,ho,h⟩
   cases h;have:=(PM.mem_out.1 ho).1;exact Nat.le_trans (m.p.waysL_ok S this.1 this.2 _ h).len (by have:=S.lw;omega)
  have f4:es.length<=512:=by rw[f1];simpa using hlo
  refine⟨?_,zo⟩
  show(path++_).length<_
  rw[List.length_append];have:es.length*513<=512*513:=Nat.mul_le_mul_right _ f4;omega;refine⟨?_,?_⟩;refine Zs ?_;rw[Q];exact rk;exact zp;obtain⟨hR3,hE⟩:=D;generalize Yl (λs es=>C s (b0.fork es)) s' (m.p.forkF (m.p.outI v) [])=z at hR3 A⊢;obtain⟨bb,s3⟩:=z;refine Zs ?_;refine AW.weak (Y5 (lo:=1000) (B:=W) (l:=[(10,.bool bb)]) (m:=[]) ⟨rfl,trivial⟩ trivial rfl) ?_;generalize hM2:Z7 2000 (Z7 1000 W)=M2 at hR3 hE
  have hM3:Z7 2000 M2=M2:=by rw[<- hM2,Iv]
  unfold Hs.stM;rw[show Z6 (Z7 1000 W) []=Z7 1000 W from rfl,hE];refine AW.weak (Y5 (lo:=2000) (B:=M2) (l:=[(10,.bool bb)]) (m:=[(1004,.cells .new J 0 [X8 b c d e f g m x]),(1005,.cells .new I 0 [Za P 1 (V.int .i64) (Zb a)]),(1006,.cells .new F 0 [Za O 1 (V.int .i64) (Zb j)]),(1007,.cells .new K 0 [.int .i64 n]),(1009,.cells .new E 0 [.int .i64 first]),(1106,.cells .new r 0 [.func ty [] cl])]) ⟨rfl,trivial⟩ ⟨zp,zp,zp,zp,zp,zp,trivial⟩ zp) ?_;cases bb;refine Z ?_;refine AW.ret ?_;refine Zs ?_;rw[A,hM3];refine⟨rfl,hR3,?_⟩;rw[<- hM3];exact Dd rfl;refine Z ?_;rw[A,hM3];refine⟨rfl,hR3,?_⟩;rw[<- hM3];exact Dd rfl
 rintro W ⟨U,hH⟩ _ _;generalize(Yl (λw k=>((jB (nxF C (m.p.strW a first j) w k)).isNone,nxF C (m.p.strW a first j) w k)) (s0,true) (m.p.waysL (n:Int))).2=z at U⊢;generalize hM:Z7 2000 (Z3 (Z7 100 W) 1190 .dead)=M at U hH
 have Q:Z7 2000 M=M:=by rw[<- hM,Iv]
 obtain⟨s2',b2⟩:=z
 have hM2:M=Z7 2000 W:=by rw[<- hM];simp -implicitDefEqProofs only[go_sem,seval]
 cases b2;refine AW.weak (Weak.rng (l:=[]) hH trivial) ?_;refine Z ?_;refine⟨.inr trivial,?_⟩;refine Zs ?_;rw[Q];exact U;refine⟨_,rfl,.inr trivial,?_⟩;rw[hM2]at U;exact U
end Go.Hs
end

section
namespace Go.Hs
open Go.Proofs
set_option maxRecDepth 10000
set_option maxHeartbeats 2000000
theorem O2(G:Nat->V)(b c d e f g k j:Col)(m:MdM)(x:IxM)(a h:List Int)(t:Int):InSp Tryz.prog G 59 [X8 b c d e f g m x,Za k 1 (V.int .i64) (Zb a),Za j 1 (V.int .i64) (Zb h),.int .i64 t] (Z6 Zi [(1004,.dead),(1005,.dead),(1006,.dead),(1007,.dead),(1009,.dead)])
  (λw H'=>∃ g4 g5 g6 g7 g9,w=.func (.func 115) [] [.ptr 1004 g4 0,.ptr 1007 g7 0,.ptr 1005 g5 0,.ptr 1009 g9 0,.ptr 1006 g6 0]/\H' 1004=.cells .new g4 0 [X8 b c d e f g m x]/\H' 1005=.cells .new g5 0 [Za k 1 (V.int .i64) (Zb a)] /\
   H' 1006=.cells .new g6 0 [Za j 1 (V.int .i64) (Zb h)]/\H' 1007=.cells .new g7 0 [.int .i64 t]/\H' 1009=.cells .new g9 0 [.int .i64 (h.headD t)]):=by
 refine X9 1000 18 [.tmp 8] Tryz.func59 rfl rfl rfl rfl λX=>?_;simp only[Z6];refine Z ?_;intro g4 g5 g6 g7;refine Z ?_;intro g9
 cases h with
 |nil=>
  refine Z ?_;exact⟨g4,g5,g6,g7,g9,rfl,zr,zr,zr,zr,zr⟩
 |cons o r=>
  have i:decide (((r.length+1:Nat):Int)>0)=true:=zT;have n:(o::r)[0]?=some o:=rfl;have l:0<r.length+1:=Nat.succ_pos _;refine Zf (zi i (zi n l)) ?_;exact⟨g4,g5,g6,g7,g9,rfl,zr,zr,zr,zr,zr⟩
end Go.Hs
end

section
namespace Go.Hs
open Go.Proofs
set_option maxRecDepth 10000
set_option maxHeartbeats 2000000
theorem Z2g(G:Nat->V)(e:Y6 G)(b c d:Col)(x:IxM)(m:PM)(f:IxP m x)(g:m.ways.length<1000000)(n:Nat)(p:PlM)(a:x.places.l[n]?=some p)(k:(n:Int)<m.vertices.length):
  Spec Tryz.prog G 57 [Mz b c d x,.int .i64 n] Zi (λw _=>w=Za .new 1 (V.int .i64) p.into.co):=by
 refine Zo 0 18 [.tmp 4] Tryz.func57 λX=>?_;have i:n<x.places.l.length:=(List.getElem?_eq_some_iff.1 a).1
 have j:(decide ((0:Int)<=(n:Int))&&decide ((n:Int)<x.places.l.length))=true:=by rw[Bool.and_eq_true];exact⟨zT,zT⟩
 refine Z ?_;refine Zc e ?_ (s:=Uf G _ _ _ _ _);refine Zg (zi j (zi a (zi i (zi Uw (zi S0 (zi @Int.natCast_nonneg @Int.ofNat_lt)))))) ?_
 have h:p.into.l.length<1000000:=by rw[f.into n p a,PM.intoI];exact Nat.lt_of_le_of_lt (PM.wysI_len _ _ _) g
 refine Zc e ?_ (s:=Ms G _ _ h);exact Zr
theorem Zct(G:Nat->V)(H:Heap):Z5l Tryz.prog G 2000 61 [] H (λs:StP=>[Un s]) []:=by
 refine Vc .plain 0 2 1 [] Tryz.func61 λX ty cl σ R b d c e f a _=>?_;refine AW.skip ?_;exact⟨_,rfl,.inr rfl,a⟩
theorem con5(k:Int):[(1:Int),3,4,8,9].contains k=decide (k=1\/k=3\/k=4\/k=8\/k=9):=by
 rw[Bool.eq_iff_iff,List.contains_iff_mem,decide_eq_true_eq];simp only[List.mem_cons,List.not_mem_nil,or_false]
theorem Z1h(G:Nat->V)(C:Y6 G)(b c d e f g:Col)(m:MdM)(x:IxM)(hx:IxP m.p x)(hw:m.p.ways.length<=600)(u:m.p.Wfd)(t:Int)(t0:0<=t)(t1:t<m.p.ways.length):
  InSp Tryz.prog G 28 [X8 b c d e f g m x,.int .i64 t] (Z6 Zi [(1004,.dead),(1005,.dead),(1006,.dead),(1007,.dead),(1009,.dead)])
   (λw H'=>∃ fid caps,w=.func (.func fid) [] caps/\Z5 Tryz.prog fid=true/\∀ H:Heap,H 1004=(H' 1004).noMp->H 1005=(H' 1005).noMp->H 1006=(H' 1006).noMp->H 1007=(H' 1007).noMp->H 1009=(H' 1009).noMp->Z5l Tryz.prog G 2000 fid caps H (λs:StP=>[Un s]) (m.p.beginL t)):=by
 refine X9 1100 90 [.tmp 4] Tryz.func28 rfl rfl rfl rfl λX=>?_;simp only[Z6];obtain⟨D,q⟩:=u.tg t t0 t1;obtain⟨sc0,sc1⟩:=u.sc t t0 t1;obtain⟨n,y,rfl,hn',hgy,ey⟩:=m.wyAt t0 t1
 have B:m.p.tg (n:Int)=y.target:=by rw[PM.tg,ey]<;>rfl
 have esc:m.p.sc (n:Int)=y.source:=by rw[PM.sc,ey]<;>rfl
 obtain⟨nv,Q,ev,hkv,hgv,_,_,_,_,E,F⟩:=hx.at D q;refine Zf (zi hgy (zi hn' (zi Z8 (zi Ue (zi @Int.natCast_nonneg @Int.ofNat_lt))))) ?_;intro j;refine Z ?_;refine Zp ⟨λ_=>Za .new 1 (V.int .i64) Q.into.co,λ_=>.pure⟩ zk C zk zk ?_;refine Zs ?_;refine⟨⟨zk,?_⟩,?_⟩;simp -implicitDefEqProofs only[go_sem,seval,List.map_cons,List.map_nil];have:=Z2g G C e.ent f.ent g.ent (x.rc Col.ent) m.p (hx.rc _) zo nv Q hgv (by rw[<- ev];exact q);rw[<- ev,B]at this
 exact this.mono λv _ e=>by rw[e];simp -implicitDefEqProofs only[go_sem,seval]
 rw[B]at D q ev F E;refine Z ?_;intro g1129;refine Xx 1129 [X8 b c d e f g m x,.int .i64 y.target,Za .new 1 (V.int .u8) (.mk false [7])] ⟨Fz.same _,Fz.same _,?_,trivial⟩ ?_;exact Xm (f:=V.int .u8) (l:=[7]) (m:=1) (g:=g1129) (fz:=0) (c:=.new) rfl zp λ_=>rfl;refine Zc C ?_ (s:=Ut G C _ _ _ _ _ _ _ m _ y.target D q _ zd);rw[C4]
 have e7:m.p.kd (m.p.tg n)=m.p.kd y.target:=by rw[B]
 have e8:m.p.kd (m.p.sc n)=m.p.kd y.source:=by rw[esc]
 rw[esc]at sc0 sc1;cases M:(m.p.kd y.target==7)
 have h7:¬m.p.kd (m.p.tg n)=7:=by rw[e7];simpa using M
 refine Zg M ?_;intro A;refine Xx 1174 [X8 b c d e f g m x,.int .i64 y.target,Za .new 1 (V.int .u8) (.mk false [7])] ⟨Fz.same _,Fz.same _,?_,trivial⟩ ?_;exact Xm (f:=V.int .u8) (l:=[7]) (m:=1) (g:=A) (fz:=0) (c:=.new) rfl zp λ_=>rfl;refine Zc C ?_ (s:=Ut G C _ _ _ _ _ _ _ m _ y.target D q _ zd);rw[C4];refine Zg M ?_;intro Y;refine Xx 1181 [X8 b c d e f g m x,.int .i64 y.source,Za .new 1 (V.int .u8) (.mk false [1,3,4,8,9])] ⟨Fz.same _,Fz.same _,?_,trivial⟩ ?_;exact Xm (f:=V.int .u8) (l:=[1,3,4,8,9]) (m:=1) (g:=Y) (fz:=0) (c:=.new) rfl zp λ_=>rfl;refine Zc C ?_ (s:=Ut G C _ _ _ _ _ _ _ m _ y.source sc0 sc1 _ zd);rw[con5]
 by_cases h8:m.p.kd y.source=1\/m.p.kd y.source=3\/m.p.kd y.source=4\/m.p.kd y.source=8\/m.p.kd y.source=9
 have q8:decide (m.p.kd y.source=1\/m.p.kd y.source=3\/m.p.kd y.source=4\/m.p.kd y.source=8\/m.p.kd y.source=9)=true:=decide_eq_true h8
 have O:m.p.beginL n=m.p.strL [y.source] [] n:=by rw[PM.beginL,if_neg h7,e8,if_pos h8,esc]
 rw[O];refine Zg q8 ?_;intro W;refine Xx 1187 [X8 b c d e f g m x,Za .new 1 (V.int .i64) (Zb [y.source]),Za .new 1 (V.int .i64) (Zb []),.int .i64 n] ⟨Fz.same _,Xm (f:=V.int .i64) (l:=[y.source]) (m:=1) (g:=W) (fz:=0) (c:=.new) rfl zp (λ_=>rfl),Fz.same _,Fz.same _,trivial⟩ ?_;refine CallA.inl [(1004,.dead),(1005,.dead),(1006,.dead),(1007,.dead),(1009,.dead)] zk ?_ ((O2 G b c d e f g .new .new m x [y.source] [] n).mono ?_);intro p hp;simp only[List.mem_cons,List.not_mem_nil,or_false]at hp
 rcases hp with rfl|rfl|rfl|rfl|rfl<;>rfl
 rintro w H' ⟨a4,a5,a6,a7,a9,rfl,q4,q5,q6,P,J⟩;simp -implicitDefEqProofs only[go_sem,seval,Z6,q4,q5,q6,P,J];refine Z ?_;exact⟨_,_,rfl,zk,λH h4 h5 h6 U h9=>Zxs G C b c d e f g .new .new m x hx hw u.tg u [y.source] [] zS (show 1<1000 by decide) (show 0<1000 by decide) n n t0 t1 a4 a5 a6 a7 a9 H (h4.trans zr) (h5.trans zr) (h6.trans zr) (U.trans zr) (h9.trans zr)⟩;have q8:decide (m.p.kd y.source=1\/m.p.kd y.source=3\/m.p.kd y.source=4\/m.p.kd y.source=8\/m.p.kd y.source=9)=false:=decide_eq_false h8
 have O:m.p.beginL n=[]:=by rw[PM.beginL,if_neg h7,e8,if_neg h8]
 rw[O];refine Zg q8 ?_;exact⟨_,_,rfl,zk,λH _ _ _ _ _=>Zct G H⟩
 have h7:m.p.kd (m.p.tg n)=7:=by rw[e7];simpa using M
 obtain⟨j1,j2,_⟩:=u.join _ D q (zu M);rw[<- B]at j1 j2
 have z:∃ a r,m.p.intoI (m.p.tg n)=a::r:=by
  cases h:m.p.intoI (m.p.tg n)with
  |nil=>rw[h]at j2;cases j2
  |cons a r=>exact⟨a,r,rfl⟩
 obtain⟨a,r,z⟩:=z;rw[<- B,z]at F
 have hco:Q.into.co=.mk false (a::r):=by
  cases h:Q.into with
  |nil=>rw[h]at F;cases F
  |mk b l=>rw[h]at F;rw[<- F]<;>rfl
 have h0:(a::r)[0]?=some a:=rfl;have R:0<r.length+1:=Nat.succ_pos _;rw[hco];cases J:(a==(n:Int))
 have O:m.p.beginL n=[]:=by
  rw[PM.beginL,if_pos h7,z,if_neg];intro h;rw[show(a::r).headD (-1)=a from rfl]at h;rw[h]at J;simp at J
 rw[O];refine Zg (zi M (zi J (zi h0 R))) ?_;intro A;refine Xx 1174 [X8 b c d e f g m x,.int .i64 y.target,Za .new 1 (V.int .u8) (.mk false [7])] ⟨Fz.same _,Fz.same _,?_,trivial⟩ ?_;exact Xm (f:=V.int .u8) (l:=[7]) (m:=1) (g:=A) (fz:=0) (c:=.new) rfl zp λ_=>rfl;refine Zc C ?_ (s:=Ut G C _ _ _ _ _ _ _ m _ y.target D q _ zd);rw[C4];refine Zg M ?_;exact⟨_,_,rfl,zk,λH _ _ _ _ _=>Zct G H⟩
 .have hi0:a=n:=zu J
  have O:m.p.beginL n=m.p.strL ((a::r).map m.p.sc) (a::r) ((m.p.outI (m.p.tg n)).headD 0):=by
   rw[PM.beginL,if_pos h7,z,if_pos (show(a::r).headD (-1)=n from hi0)]
  have hl:(a::r).length<=600:=by rw[<- z];exact Nat.le_trans (PM.wysI_len _ _ _) hw
  have hrg:∀ t∈a::r,0<=t/\t<m.p.ways.length:=λt ht=>by rw[<- z]at ht;exact(PM.mem_into.1 ht).1
  refine Zg (zi M (zi J (zi h0 R))) ?_;rw[O];have hl0:(a::r)≠[]:=zS
  try clear J O h0 R
  have h0:(a::r).length=r.length+1:=rfl;rw[<- h0];generalize a::r=l at *
  refine Yf l.length (λk (gg:Nat)=>st [(0,X8 b c d e f g m x),(5,.ptr 1105 j 0),(6,Za .new 1 (V.int .i64) (.mk false l)),(7,grown 1155 gg 1 ((l.take k).map m.p.sc)),(38,Za .new 1 (V.int .i64) (.mk false l)),(39,.int .i64 l.length),(40,.int .i64 k)] [(1105,(.cells .new j 0 [.str y.name,.int .i64 y.source,.int .i64 y.target,Za d 1 V.str y.triggers,.int .i64 y.after,.str y.guard,.str y.effect,.int .u8 y.kind])),(1155,Yb gg (V.int .i64) ((l.take k).map m.p.sc))])
   (λ_ _=>True) 0 0 (Nat.zero_le _) trivial (Weak.st ⟨rfl,rfl,zp,zp,zp,zp,zp,trivial⟩ ⟨zr,zr,trivial⟩) ?_
  intro k gg hk _ L hL
  by_cases K:k<l.length
  have T:decide ((k:Int)<(l.length:Int))=true:=zT;have hg:=List.getElem?_eq_getElem K
  have htk:(l.take (k+1)).map m.p.sc=(l.take k).map m.p.sc++[m.p.sc l[k]]:=by
   rw[List.take_add_one,hg,List.map_append]<;>rfl
  have N:=List.getElem_mem K;generalize l[k]=tt at hg htk N;obtain⟨tt0,tt1⟩:=hrg tt N;obtain⟨n2,y2,rfl,hn2,hgy2,ey2⟩:=m.wyAt tt0 tt1
  have esc2:m.p.sc (n2:Int)=y2.source:=by rw[PM.sc,ey2]<;>rfl
  have w1:IntKind.i64.wrap ((k:Int)+1)=(k:Int)+1:=W0 zo zo;refine Zf (zi T (zi hg (zi K (zi hgy2 (zi hn2 (zi Z8 (zi Ue (zi @Int.natCast_nonneg @Int.ofNat_lt)))))))) ?_;intro g1154;refine X2 (f:=V.int .i64) (l:=(l.take k).map m.p.sc) (l2:=[y2.source]) (g:=gg) (λ_=>rfl) rfl rfl rfl zp (Yg zo zO) λg2=>?_;rw[<- esc2,<- htk];refine Zf w1 ?_;refine hL _ ⟨K,g2,trivial,Weak.st ⟨rfl,zp,zp,zp,zp,zp,zp,trivial⟩ ⟨zp,zp,trivial⟩⟩;have hke:k=l.length:=zo;subst hke;rw[List.take_length];have T:decide ((l.length:Int)<(l.length:Int))=false:=zF
  obtain⟨I,S⟩:∃ I,m.p.outI y.target=[I]:=by
   rw[B]at j1
   cases h:m.p.outI y.target with
   |nil=>rw[h]at j1;cases j1
   |cons I r'=>
    rw[h]at j1
    cases r' with
    |nil=>exact⟨I,rfl⟩
    |cons=>simp at j1
  obtain⟨o0,o2⟩:=(PM.mem_out.1 (show I∈m.p.outI y.target by rw[S];exact List.mem_cons_self ..)).1;rw[S]at E
  have hoc:Q.out.co=.mk false [I]:=by
   cases h:Q.out with
   |nil=>rw[h]at E;cases E
   |mk b l=>rw[h]at E;rw[<- E]<;>rfl
  rw[B,S];refine AW.weak (Zw (λo=>o==1155) (l:=[(0,X8 b c d e f g m x),(5,.ptr 1105 j 0),(6,Za .new 1 (V.int .i64) (Zb l)),(7,Za .new 1 (V.int .i64) (Zb (l.map m.p.sc))),(39,.int .i64 l.length),(40,.int .i64 l.length)]) (m:=[(1105,(.cells .new j 0 [.str y.name,.int .i64 y.source,.int .i64 y.target,Za d 1 V.str y.triggers,.int .i64 y.after,.str y.guard,.str y.effect,.int .u8 y.kind]))]) ?_ ?_) ?_;rw[Pi hl0];refine Zs ?_;exact⟨Fz.same _,Fz.same _,Fz.same _,W7 (l:=l.map m.p.sc) (g:=gg) (f:=V.int .i64) rfl zp (λ_=>rfl),Fz.same _⟩;simp only[Zy,Z2,and_true];exact FzO.same rfl;refine Zf T ?_;refine Zp ⟨λ_=>Za .new 1 (V.int .i64) (.mk false [I]),λi=>if i=12 then .any else .pure⟩ zk C zk zk ?_;have h00:[I][0]?=some I:=rfl;refine Xw (zi @Ue h00) ?_;refine⟨⟨zk,?_⟩,?_⟩;simp -implicitDefEqProofs only[go_sem,seval,List.map_cons,List.map_nil];have:=Dc G C e.ent f.ent g.ent (x.rc Col.ent) m.p (hx.rc _) zo nv Q hgv (by rw[<- ev];exact q);rw[<- ev,hoc]at this
  exact this.mono λv _ e=>by rw[e];simp -implicitDefEqProofs only[go_sem,seval]
  refine CallA.inl [(1004,.dead),(1005,.dead),(1006,.dead),(1007,.dead),(1009,.dead)] zk ?_ ((O2 G b c d e f g .new .new m x (l.map m.p.sc) l I).mono ?_);intro p hp;simp only[List.mem_cons,List.not_mem_nil,or_false]at hp
  rcases hp with rfl|rfl|rfl|rfl|rfl<;>rfl
  rintro w H' ⟨a4,a5,a6,a7,a9,rfl,q4,q5,q6,P,J⟩;simp -implicitDefEqProofs only[go_sem,seval,Z6,q4,q5,q6,P,J];refine Z ?_;exact⟨_,_,rfl,zk,λH h4 h5 h6 U h9=>Zxs G C b c d e f g .new .new m x hx hw u.tg u (l.map m.p.sc) l (zu hl0) (by rw[List.length_map];omega) zo (l.headD I) I o0 o2 a4 a5 a6 a7 a9 H (h4.trans zr) (h5.trans zr) (h6.trans zr) (U.trans zr) (h9.trans zr)⟩
end Go.Hs
end

section
namespace Go.Hs
open Go.Proofs
set_option maxRecDepth 10000
set_option maxHeartbeats 2000000
def Yr(c:Col)(q:StP×List Int):V:=.agg [Za c 1 (V.int .i64) (Zb q.1.sources),.int .i64 q.1.first,Za c 1 (V.int .i64) (Zb q.1.guards),Za c 1 (V.int .i64) (Zb q.1.effects),Xl c q.1.ends,Za c 1 (V.int .i64) (Zb q.2)]
theorem Yc(c:Col)(q:StP×List Int):Yr c q=.agg [Za c 1 (V.int .i64) (Zb q.1.sources),.int .i64 q.1.first,Za c 1 (V.int .i64) (Zb q.1.guards),Za c 1 (V.int .i64) (Zb q.1.effects),Xl c q.1.ends,Za c 1 (V.int .i64) (Zb q.2)]:=rfl
def Uo(c:Col)(q:StP×V):V:=.agg [Za c 1 (V.int .i64) (Zb q.1.sources),.int .i64 q.1.first,Za c 1 (V.int .i64) (Zb q.1.guards),Za c 1 (V.int .i64) (Zb q.1.effects),Xl c q.1.ends,q.2]
theorem Su(c:Col)(q:StP×V):Uo c q=.agg [Za c 1 (V.int .i64) (Zb q.1.sources),.int .i64 q.1.first,Za c 1 (V.int .i64) (Zb q.1.guards),Za c 1 (V.int .i64) (Zb q.1.effects),Xl c q.1.ends,q.2]:=rfl
def Zlz(c:Col)(q:StP×List Int):StP×V:=(q.1,Za c 1 (V.int .i64) (Zb q.2))
@[go_sem] theorem U3(g:Col->Col)(c:Col)(q:StP×List Int):(Yr c q).recol g=Yr (g c) q:=by
 simp only[Yc,Xy,List.map_cons,List.map_nil,Xf,Xu,Eb]
def Sl.map{α β : Type}(f : α -> β):Sl α -> Sl β
 |.nil=>.nil
 |.mk b l=>.mk b (l.map f)
theorem Zl2(c c1:Col)(s:Sl (StP×List Int)):Za c 6 (Yr c1) s=Za c 6 (Uo c1) (s.map (Zlz c1)):=by
 cases s with
 |nil=>rfl
 |mk b l=>show V.slice c b 6 _=V.slice c b 6 _;rw[List.map_map]<;>rfl
def R4{β : Type}(L:List (StP × β))(v:Int)(k:Nat):List Int:=((List.range k).filter λi=>match L[i]? with|some s=>s.1.sources.contains v|none=>false).map fun(i:Nat)=>(i:Int)
theorem Zrw{β : Type}(L:List (StP × β))(v:Int)(k:Nat):(R4 L v k).length<=k:=by
 unfold R4;rw[List.length_map];exact Nat.le_trans (List.length_filter_le _ _) (by rw[List.length_range];exact Nat.le_refl _)
theorem Z7o{β : Type}(L:List (StP × β))(v:Int)(k:Nat){s:StP × β}(h:L[k]?=some s):R4 L v (k+1)=if s.1.sources.contains v=true then R4 L v k++[(k:Int)]else R4 L v k:=by
 unfold R4;rw[List.range_succ,List.filter_append,List.map_append];cases q:s.1.sources.contains v;rw[List.filter_cons_of_neg (by simp[h];simpa using q)];simp;rw[List.filter_cons_of_pos (by simp[h];simpa using q)];simp
theorem B4(G:Nat->V)(t:Y6 G)(c c1:Col)(a:Sl (StP×V))(v:Int)(B:a.l.length<100000)(x:∀ s∈a.l,s.1.sources.length<100000):
  Spec Tryz.prog G 14 [Za c 6 (Uo c1) a,.int .i64 v] Zi (λw _=>w=Za .new 1 (V.int .i64) (Zb (R4 a.l v a.l.length))):=by
 refine Zo 0 25 [.tmp 4] Tryz.func14 λX=>?_;refine Z ?_
 refine Yf a.l.length (λk (g:Nat)=>st [(1,.int .i64 v),(5,grown 22 g 1 (R4 a.l v k)),(8,Za c 6 (Uo c1) a),(9,.int .i64 a.l.length),(10,.int .i64 k)] [(22,Yb g (V.int .i64) (R4 a.l v k))])
  (λ_ _=>True) 0 0 (Nat.zero_le _) trivial (Weak.st zp zp) ?_
 intro k g C _ L r
 by_cases b:k<a.l.length
 have h:decide ((k:Int)<(a.l.length:Int))=true:=zT;have n:=List.getElem?_eq_getElem b;have e:=List.getElem_mem b;have y:=Zrw a.l v k;generalize a.l[k]=s at n e;have u:=x s e;have d:=Z7o a.l v k n;have p:IntKind.i64.wrap ((k:Int)+1)=(k:Int)+1:=W0 zo zo;refine Zf (zi h (zi n (zi b (zi Su (zi @Int.natCast_nonneg @Int.ofNat_lt))))) ?_;intro D;refine Z ?_;refine Zc t ?_ (s:=Mr G t _ _ _ (by rw[Zl];omega));cases q:s.1.sources.contains v;rw[q,if_neg zS]at d;refine Zf (zi q p) ?_;exact r _ ⟨b,g,trivial,Weak.st (by rw[d];exact zp) (by rw[d];exact zp)⟩;rw[q,if_pos rfl]at d;refine Zf q ?_;intro z;refine X2 (f:=V.int .i64) (l:=R4 a.l v k) (l2:=[(k:Int)]) (g:=g) (λ_=>rfl) rfl rfl rfl zp (Yg zo zO) λA=>?_;rw[<- d];refine Zf p ?_;exact r _ ⟨b,A,trivial,Weak.st zp zp⟩;have j:k=a.l.length:=zo;rw[j];have h:decide ((a.l.length:Int)<(a.l.length:Int))=false:=zF;generalize R4 a.l v a.l.length=i;refine AW.weak (Zw (λo=>o==22) (l:=[(5,Za .new 1 (V.int .i64) (Zb i)),(9,.int .i64 a.l.length),(10,.int .i64 a.l.length)]) (m:=[]) ?_ trivial) ?_;refine Zs ?_;exact⟨W7 (l:=i) (g:=g) (f:=V.int .i64) rfl zp (λ_=>rfl),Fz.same _⟩;exact Zq h
end Go.Hs
end

section
namespace Go.Hs
open Go.Proofs
set_option maxRecDepth 10000
set_option maxHeartbeats 2000000
theorem Ee(f:Col->Col):∀ l:List V,Yt f l=l.map (V.recol f)
 |[]=>rfl
 |v::r=>by rw[List.map_cons,<- Ee f r]<;>rfl
theorem Z3o(G:Nat->V)(u:Y6 G)(c:Col)(b:FuncId)(C:List V->Prop)(z:∀ cx,C cx->C (cx.map (V.recol Col.ent)))(cx:List V)(m:C cx)(j:Z5 Tryz.prog b=true)(p:Int->Bool)(s:Sl Int)(A:s.l.length<1000000)(i:∀ v∈s.l,∀ cx,C cx->Spec Tryz.prog G b (.int .i64 v::cx) Zi (λw _=>w=.bool (p v))):
  Spec Tryz.prog G 127 [Za c 1 (V.int .i64) s,.func (.func b) [] cx] Zi (λv _=>v=.int .i64 (Qf p s.l)):=by
 have t:=λv g=>i v g (cx.map (V.recol Col.ent)) (z cx m);refine Zo 0 19 [.tmp 4] Tryz.func127 λX=>?_;refine Z ?_
 refine Yf s.l.length (λk (_:Unit)=>st [(0,Za c 1 (V.int .i64) s),(1,.func (.func b) [] cx),(7,.int .i64 s.l.length),(8,.int .i64 k)] []) (λk _=>∀ y∈s.l.take k,p y=false) 0 () (Nat.zero_le _) zS
  (Weak.st zp zp) ?_
 intro k _ B f D n
 by_cases a:k<s.l.length
 .have d:decide ((k:Int)<(s.l.length:Int))=true:=zT
  have e:=List.getElem?_eq_getElem a;have o:=t s.l[k] (List.getElem_mem a);generalize s.l[k]=x at e o;refine Zf (zi d (zi e (zi a (zi a (zi @Int.natCast_nonneg @Int.ofNat_lt))))) ?_;refine CallA.pure u j ?_;refine(show Spec Tryz.prog G b (((.int .i64 x::cx):List V).map (V.recol Col.ent)) Zi _ from ?_);rw[show((.int .i64 x::cx):List V).map (V.recol Col.ent)=(.int .i64 x::cx.map (V.recol Col.ent))from by simp only[List.map_cons,List.map_nil,Xf]];refine o.mono λv _ g=>?_;rw[g]
  cases q:p x with
  |true=>
   refine Z ?_;rw[V3 (p:=p) e f q]
  |false=>
   have r:IntKind.i64.wrap ((k:Int)+1)=(k:Int)+1:=W0 zo zo;refine Zg r ?_;exact n _ ⟨a,(),U1 e f q,Weak.st zp zp⟩
 have h:k=s.l.length:=zo;have d:decide ((k:Int)<(s.l.length:Int))=false:=zF;rw[h,List.take_length]at f;refine Zf d ?_;rw[V4 (p:=p) f]
theorem Lu(G:Nat->V)(f:Y6 G)(c:Col)(a:FuncId)(C:List V->Prop)(g:∀ cx,C cx->C (cx.map (V.recol Col.ent)))(cx:List V)(e:C cx)(d:Z5 Tryz.prog a=true)(p:Int->Bool)(s:Sl Int)(h:s.l.length<1000000)(b:∀ v∈s.l,∀ cx,C cx->Spec Tryz.prog G a (.int .i64 v::cx) Zi (λw _=>w=.bool (p v))):
  Spec Tryz.prog G 67 [Za c 1 (V.int .i64) s,.func (.func a) [] cx] Zi (λv _=>v=.bool (s.l.any p)):=by
 refine Zo 0 9 [.tmp 4] Tryz.func67 λX=>?_;refine Z ?_;refine Zc f ?_ (ha:=by simp only[List.map_cons,List.map_nil,Xu,V.recol,Yt,Ee]) (s:=Z3o G f c.ent a C g (cx.map (V.recol Col.ent)) (g cx e) d p s h b);refine Z ?_;rw[Ph]
theorem Z2o(G:Nat->V)(u:Y6 G)(c c1:Col)(a:FuncId)(C:List V->Prop)(z:∀ cx,C cx->C (cx.map (V.recol Col.ent)))(cx:List V)(m:C cx)(j:Z5 Tryz.prog a=true)(p:StP×List Int->Bool)(s:Sl (StP×List Int))(A:s.l.length<1000000)(i:∀ v∈s.l,∀ c' cx,C cx->Spec Tryz.prog G a (Yr c' v::cx) Zi (λw _=>w=.bool (p v))):
  Spec Tryz.prog G 30 [Za c 6 (Yr c1) s,.func (.func a) [] cx] Zi (λv _=>v=.int .i64 (Qf p s.l)):=by
 have t:=λv g=>i v g c1.ent (cx.map (V.recol Col.ent)) (z cx m);refine Zo 0 19 [.tmp 4] Tryz.func30 λX=>?_;refine Z ?_
 refine Yf s.l.length (λk (_:Unit)=>st [(0,Za c 6 (Yr c1) s),(1,.func (.func a) [] cx),(7,.int .i64 s.l.length),(8,.int .i64 k)] []) (λk _=>∀ y∈s.l.take k,p y=false) 0 () (Nat.zero_le _) zS
  (Weak.st zp zp) ?_
 intro k _ B f D n
 by_cases b:k<s.l.length
 .have d:decide ((k:Int)<(s.l.length:Int))=true:=zT
  have e:=List.getElem?_eq_getElem b;have o:=t s.l[k] (List.getElem_mem b);generalize s.l[k]=x at e o;refine Zf (zi d (zi e (zi b (zi Yc (zi @Int.natCast_nonneg @Int.ofNat_lt))))) ?_;refine CallA.pure u j ?_;refine(show Spec Tryz.prog G a (((Yr c1 x::cx):List V).map (V.recol Col.ent)) Zi _ from ?_);rw[show((Yr c1 x::cx):List V).map (V.recol Col.ent)=(Yr c1.ent x::cx.map (V.recol Col.ent))from by simp only[List.map_cons,List.map_nil,U3]];refine o.mono λv _ g=>?_;rw[g]
  cases q:p x with
  |true=>
   refine Z ?_;rw[V3 (p:=p) e f q]
  |false=>
   have r:IntKind.i64.wrap ((k:Int)+1)=(k:Int)+1:=W0 zo zo;refine Zg r ?_;exact n _ ⟨b,(),U1 e f q,Weak.st zp zp⟩
 have h:k=s.l.length:=zo;have d:decide ((k:Int)<(s.l.length:Int))=false:=zF;rw[h,List.take_length]at f;refine Zf d ?_;rw[V4 (p:=p) f]
theorem Z4o(G:Nat->V)(r:Y6 G)(c c1:Col)(a:FuncId)(j:Z5 Tryz.prog a=true)(p:Int×List Int->Bool)(s:Sl (Int×List Int))(t:s.l.length<1000000)(i:∀ v∈s.l,∀ c',Spec Tryz.prog G a [Wv c' v] Zi (λw _=>w=.bool (p v))):
  Spec Tryz.prog G 185 [Za c 2 (Wv c1) s,.func (.func a) [] []] Zi (λv _=>v=.int .i64 (Qf p s.l)):=by
 have i:=λv g=>i v g c1.ent;refine Zo 0 19 [.tmp 4] Tryz.func185 λX=>?_;refine Z ?_
 refine Yf s.l.length (λk (_:Unit)=>st [(0,Za c 2 (Wv c1) s),(1,.func (.func a) [] []),(7,.int .i64 s.l.length),(8,.int .i64 k)] []) (λk _=>∀ y∈s.l.take k,p y=false) 0 () (Nat.zero_le _) zS
  (Weak.st zp zp) ?_
 intro k _ u f z m
 by_cases b:k<s.l.length
 .have d:decide ((k:Int)<(s.l.length:Int))=true:=zT
  have e:=List.getElem?_eq_getElem b;have n:=i s.l[k] (List.getElem_mem b);generalize s.l[k]=x at e n;refine Zf (zi d (zi e (zi b (zi Xq (zi @Int.natCast_nonneg @Int.ofNat_lt))))) ?_;refine CallA.pure r j ?_;refine(show Spec Tryz.prog G a (([Wv c1 x]:List V).map (V.recol Col.ent)) Zi _ from ?_);rw[show([Wv c1 x]:List V).map (V.recol Col.ent)=[Wv c1.ent x]from by simp only[List.map_cons,List.map_nil,Zka]];refine n.mono λv _ g=>?_;rw[g]
  cases o:p x with
  |true=>
   refine Z ?_;rw[V3 (p:=p) e f o]
  |false=>
   have q:IntKind.i64.wrap ((k:Int)+1)=(k:Int)+1:=W0 zo zo;refine Zg q ?_;exact m _ ⟨b,(),U1 e f o,Weak.st zp zp⟩
 have h:k=s.l.length:=zo;have d:decide ((k:Int)<(s.l.length:Int))=false:=zF;rw[h,List.take_length]at f;refine Zf d ?_;rw[V4 (p:=p) f]
theorem Zrp(G:Nat->V)(d:Y6 G)(c c1:Col)(a:FuncId)(b:Z5 Tryz.prog a=true)(p:Int×List Int->Bool)(s:Sl (Int×List Int))(e:s.l.length<1000000)(f:∀ v∈s.l,∀ c',Spec Tryz.prog G a [Wv c' v] Zi (λw _=>w=.bool (p v))):
  Spec Tryz.prog G 121 [Za c 2 (Wv c1) s,.func (.func a) [] []] Zi (λv _=>v=.bool (s.l.any p)):=by
 refine Zo 0 9 [.tmp 4] Tryz.func121 λX=>?_;refine Z ?_;refine Zc d ?_ (ha:=by simp only[List.map_cons,List.map_nil,Wd Col.ent c 2 (Zka Col.ent c1) s,V.recol,Yt]) (s:=Z4o G d c.ent c1.ent a b p s e f);refine Z ?_;rw[Ph]
theorem Zlo(G:Nat->V)(a:Y6 G)(c:Col)(e:Int×List Int):Spec Tryz.prog G 122 [Wv c e] Zi (λw _=>w=.bool (e.1 == -1)):=by
 refine Zo 0 6 [.tmp 2] Tryz.func122 λX=>?_;rw[Xq];refine Z ?_;intro b;exact Zr
theorem Zko(G:Nat->V)(a:Y6 G)(c:Col)(q:StP×V)(b:q.1.ends.length<1000000):Spec Tryz.prog G 63 [Uo c q] Zi (λw _=>w=.bool q.1.lost):=by
 refine Zo 0 6 [.tmp 2] Tryz.func63 λX=>?_;rw[Su];refine Z ?_;intro f;refine Z ?_;refine Zc a ?_ (s:=Zrp G a c.ent c.ent 122 zk (λe=>e.1 == -1) (Zb q.1.ends) (by rw[Zl];exact b) (λv _ d=>Zlo G a d v));refine Z ?_;rfl
@[go_sem] theorem loadK_vv(n:Nat)(ob:AObj)(q b:Col)(v:V):Tz (some (false,n)) ob (.view q (.view b v))=some (.view b v):=rfl
@[go_sem] theorem loadK_wk(n:Nat)(ob:AObj)(q b c d e f g:Col)(m:MdM)(x:IxM):Tz (some (false,n)) ob (.view q (X8 b c d e f g m x))=some (X8 b c d e f g m x):=rfl
theorem Z8a(G:Nat->V)(k:Y6 G)(z b c d e f g:Col)(m:MdM)(x:IxM)(t:Int)(t0:0<=t)(t1:t<m.p.ways.length)(a:0<=m.p.sc t/\m.p.sc t<m.p.vertices.length):
  Spec Tryz.prog G 125 [.int .i64 t,.view z (X8 b c d e f g m x)] Zi (λw _=>w=.bool (m.p.kd (m.p.sc t)==5)):=by
 refine Zo 0 16 [.tmp 3] Tryz.func125 λX=>?_;obtain⟨n,y,rfl,h,j,v⟩:=m.wyAt t0 t1
 have q:m.p.sc (n:Int)=y.source:=by rw[PM.sc,v]<;>rfl
 rw[q]at a⊢;obtain⟨u,r⟩:=a;refine Z ?_;refine Zp ⟨λ_=>.top,λi=>if i=11 then .any else .pure⟩ zk k zk zk ?_;simp -implicitDefEqProofs only[go_sem,seval,j,h,Ue,Z8,@Int.natCast_nonneg,@Int.ofNat_lt];intro o;refine Xx 14 [X8 b c d e f g m x,.int .i64 y.source,Za .new 1 (V.int .u8) (.mk false [5])] ⟨Fz.same _,Fz.same _,Xm (f:=V.int .u8) (l:=[5]) (m:=1) (g:=o) (fz:=0) (c:=.new) rfl zp (λ_=>rfl),trivial⟩ ?_;refine Zc k ?_ (s:=Ut G k _ _ _ _ _ _ _ m _ y.source u r _ zd);rw[C4];exact Zr
theorem Nl(G:Nat->V)(i:Y6 G)(b c d e f g c1:Col)(m:MdM)(x:IxM)(l:Sl Int)(r:l.l.length<1000000)(q:∀ t∈l.l,0<=t/\t<m.p.ways.length)(h:∀ t:Int,0<=t->t<m.p.ways.length->0<=m.p.sc t/\m.p.sc t<m.p.vertices.length):
  Spec Tryz.prog G 65 [X8 b c d e f g m x,Za c1 1 (V.int .i64) l] Zi (λw _=>w=.bool (m.p.forkedB l.l)):=by
 refine Zo 0 8 [.tmp 4] Tryz.func65 λX=>?_;refine Z ?_;intro y;refine AW.weak (Zw (λo=>o==2) (l:=[(1,Za c1 1 (V.int .i64) l),(2,.view .new (X8 b c d e f g m x))]) (m:=[]) ?_ trivial) ?_;refine Zs ?_;exact⟨Fz.same _,Fz.ptr (v:=X8 b c d e f g m x) (c:=.new) (fz:=0) zp zp⟩;refine Z ?_
 refine Zc i ?_ (ha:=by simp only[List.map_cons,List.map_nil,Xu,V.recol,Yt,U2]) (s:=Lu G i c1.ent 125 (λu=>∃ a b c d e f g x,u=[.view a (X8 b c d e f g m x)]) (by
  rintro _ ⟨a,b,c,d,e,f,g,x,rfl⟩
  exact⟨_,_,_,_,_,_,_,_,by simp only[List.map_cons,List.map_nil,V.recol,U2];rfl⟩) [.view Col.new.ent (X8 b.ent c.ent d.ent e.ent f.ent g.ent m (x.rc Col.ent))] ⟨_,_,_,_,_,_,_,_,rfl⟩ zk (λt=>m.p.kd (m.p.sc t)==5) l r (by
  rintro v n _ ⟨a,b,c,d,e,f,g,x,rfl⟩;obtain⟨k,j⟩:=q v n
  exact Z8a G i a b c d e f g m x v k j (h v k j)))
 exact Zr
end Go.Hs
end

section
namespace Go.Hs
section
def srt(l:List Int):List Int:=l.mergeSort λx y=>decide (x<=y)
theorem Zda(l:List Int):(srt l).length=l.length:=List.length_mergeSort _
theorem srt_eq{l k:List Int}(i:l.Nodup)(e:k.Pairwise (· < ·))(h:∀ v,v∈l↔v∈k):srt l=k:=by
 have d:k.Nodup:=e.imp fun{a b} h=>by omega
 have p:List.Perm (srt l) k:=(List.mergeSort_perm _ _).trans ((List.perm_ext_iff_of_nodup i d).2 h);refine List.Perm.eq_of_pairwise (le:=(· <= ·)) (λa b _ _ g f=>Int.le_antisymm g f) ?_ (e.imp fun{a b} h=>Int.le_of_lt h) p;have:=List.pairwise_mergeSort (le:=λx y:Int=>decide (x<=y)) (λa b c g f=>by grind) (λa b=>by grind) l
 exact this.imp fun{a b} h=>by grind
namespace PM
variable{m:PM}
theorem reach_sort{L:List StP}{s:StP}{q:List Int}(c:∀ x∈L,m.AtOk x)(b:m.AtOk s)(h:QEnd m L s q):srt q=m.reachL L s:=by
 refine srt_eq h.nd (Z4f L s) λv=>?_;rw[Z5u c b h,List.mem_map]
 constructor
 intro a;have d:=h.rng v a;refine⟨v.toNat,List.mem_filter.2 ⟨List.mem_range.2 (by omega),?_⟩,by omega⟩
 grind
 grind
end PM
end
@[go_sem] theorem keepK_two{P:Program}(t t1 d:TypeId)(a v f c e b:V)(H:Heap)(A:Prop):Znt P [(t1,f,c),(d,e,b)] t a v H A=(((t=t1/\a=f/\v=c)\/(t=d/\a=e/\v=b))/\(Xt P H t1 f=some c/\Xt P H d e=some b)/\A):=by
 apply propext
 constructor
 rintro⟨⟨k,h⟩,g⟩;have j:=h _ (List.mem_cons_self ..);have i:=h _ (List.mem_cons_of_mem _ (List.mem_cons_self ..))
 grind
 rintro⟨k,⟨j,i⟩,g⟩;refine⟨⟨by grind,λp l=>?_⟩,g⟩
 grind
def Wh(B:Nat)(g:Nat->Nat)(l:Nat->List Int)(H:Heap):Heap:=λo=>if B<=o/\o<B+1000000 then Yb (g (o-B)) (V.int .i64) (l (o-B))else H o
def Ts(B:Nat)(g:Nat->Nat)(l:Nat->List Int)(j:Nat):V:=grown (B+j) (g j) 1 (l j)
theorem T4{B:Nat}{g:Nat->Nat}{l:Nat->List Int}{H:Heap}{j:Nat}(a:j<1000000):Wh B g l H (B+j)=Yb (g j) (V.int .i64) (l j):=by
 unfold Wh
 grind
theorem Uv{B:Nat}{g:Nat->Nat}{l:Nat->List Int}{H:Heap}{o:Nat}(a:o<B\/B+1000000<=o):Wh B g l H o=H o:=by
 unfold Wh
 grind
theorem Zi2{B:Nat}{g:Nat->Nat}{l:Nat->List Int}{H:Heap}{j k:Nat}{r:List Int}(a:j<1000000):Z3 (Wh B g l H) (B+j) (Yb k (V.int .i64) r)=Wh B (Z3 g j k) (Z3 l j r) H:=by
 funext o
 by_cases e:o=B+j
 subst e;rw[Ye,T4 a,Ye,Ye];rw[Zk _ _ e];unfold Wh
 split
 rw[Zk _ _ zo,Zk _ _ zo];rfl
theorem Zih{B:Nat}{g:Nat->Nat}{l:Nat->List Int}{j k:Nat}{r:List Int}:Ts B (Z3 g j k) (Z3 l j r) j=grown (B+j) k 1 r:=by
 unfold Ts;simp_all
theorem Dn{B:Nat}{g:Nat->Nat}{l:Nat->List Int}{i j k:Nat}{r:List Int}(h:i≠j):Ts B (Z3 g j k) (Z3 l j r) i=Ts B g l i:=by
 unfold Ts;rw[Zk _ _ h,Zk _ _ h]
theorem Zjh{B:Nat}{g:Nat->Nat}{l:Nat->List Int}{n j k:Nat}{r:List Int}(a:j<n):((List.range n).map (Ts B g l)).set j (grown (B+j) k 1 r)=(List.range n).map (Ts B (Z3 g j k) (Z3 l j r)):=by
 apply List.ext_getElem;simp;intro i c b;rw[List.getElem_set];simp only[List.getElem_map,List.getElem_range]
 split
 rename_i h;subst h;rw[Zih];rename_i h;rw[Dn (λe=>h e.symm)]
theorem Zh2{B:Nat}{g:Nat->Nat}{l:Nat->List Int}{n k:Nat}{r:List Int}:(List.range n).map (Ts B g l)++[grown (B+n) k 1 r]=(List.range (n+1)).map (Ts B (Z3 g n k) (Z3 l n r)):=by
 rw[List.range_succ,List.map_append,List.map_singleton,Zih]
 congr 1
 refine List.map_congr_left λi a=>?_;rw[Dn (by grind)]
def Sb:List (Int×List Int)->Int->Int->List (Int×List Int)
 |[],k,r=>[(k,[r])]
 |p::L,k,r=>if p.1=k then(p.1,p.2++[r])::L else p::Sb L k r
def S1:List (Int×List Int)->Int->Nat
 |[],_=>0
 |p::L,k=>if p.1=k then 0 else S1 L k+1
def Yz(L:List (Int×List Int))(j:Nat):List Int:=(L.getD j (0,[])).2
theorem Iy:∀ (L:List (Int×List Int)) (k:Int),S1 L k<=L.length
 |[],_=>Nat.le_refl _
 |p::L,k=>by
  rw[S1]
  split
  grind
  exact Nat.succ_le_succ (Iy L k)
theorem Eh:∀ (L:List (Int×List Int)) (k r:Int),(Sb L k r).length<=L.length+1
 |[],_,_=>Nat.le_refl _
 |p::L,k,r=>by
  rw[Sb]
  split
  grind
  exact Nat.succ_le_succ (Eh L k r)
theorem O7:∀ (L:List (Int×List Int)) (k r:Int) (j:Nat),Yz (Sb L k r) j=Z3 (Yz L) (S1 L k) (Yz L (S1 L k)++[r]) j
 |[],k,r,j=>by
  cases j<;>rfl
 |p::L,k,r,j=>by
  rw[Sb,S1]
  split
  cases j<;>rfl
  .cases j with
   |zero=>rfl
   |succ j=>
    have:=O7 L k r j
    show Yz (Sb L k r) j=_
    rw[this];simp only[Z3]
    by_cases e:j=S1 L k
    subst e;rw[if_pos rfl,if_pos rfl];rfl;rw[if_neg e,if_neg zo];rfl
def Y2(L:List (Int×List Int)):List V:=L.map λp=>.int .i64 p.1
theorem Ib:∀ (L:List (Int×List Int)) (k r:Int),S1 L k<L.length->Y2 (Sb L k r)=Y2 L/\(Sb L k r).length=L.length
 |[],_,_,h=>absurd h (Nat.not_lt_zero _)
 |p::L,k,r,h=>by
  rw[S1]at h;rw[Sb]
  split
  exact⟨rfl,rfl⟩;rename_i a;rw[if_neg a]at h;obtain⟨b,c⟩:=Ib L k r (Nat.lt_of_succ_lt_succ h);exact⟨by show _::_=_::_;rw[show List.map _ (Sb L k r)=Y2 (Sb L k r)from rfl,b];rfl,by grind⟩
theorem Eg:∀ (L:List (Int×List Int)) (k r:Int),S1 L k=L.length->Y2 (Sb L k r)=Y2 L++[.int .i64 k]/\(Sb L k r).length=L.length+1
 |[],_,_,_=>⟨rfl,rfl⟩
 |p::L,k,r,h=>by
  rw[S1]at h;rw[Sb]
  split
  grind
  rename_i a;rw[if_neg a]at h;obtain⟨b,c⟩:=Eg L k r (Nat.succ.inj h);exact⟨by show _::_=_::_;rw[show List.map _ (Sb L k r)=Y2 (Sb L k r)from rfl,b];rfl,by grind⟩
theorem Hx:∀ (L:List (Int×List Int)) (k:Int),Ve (.int .i64) (.int .i64 k) (Y2 L)=some (if S1 L k<L.length then some (S1 L k)else none)
 |[],k=>by rfl
 |p::L,k=>by
  show Ve (.int .i64) (.int .i64 k) (.int .i64 p.1::Y2 L)=_
  rw[Ve,if_pos rfl,S1,List.length_cons]
  by_cases e:p.1=k
  grind
  rw[if_neg e,if_neg (λh=>e h.symm),Hx L k]
  grind
theorem Ad(k:Int):∀ (L:List (Int×List Int)) (vs:List V),vs.length=L.length->T3 (.int .i64) (.int .i64 k) (Y2 L) vs=some vs[S1 L k]?
 |[],vs,h=>by
  rw[List.length_eq_zero_iff.1 h];rfl
 |p::L,[],h=>by grind
 |p::L,v::vs,h=>by
  show T3 (.int .i64) (.int .i64 k) (.int .i64 p.1::Y2 L) (v::vs)=_
  rw[T3,if_pos rfl,S1]
  by_cases e:p.1=k
  grind
  rw[if_neg (λh=>e h.symm),if_neg e,Ad k L vs (by grind)];rfl
def R6(B:Nat)(g:Nat->Nat)(L:List (Int×List Int)):List V:=(List.range L.length).map (Ts B g (Yz L))
theorem Zf2(B:Nat)(g:Nat->Nat)(L:List (Int×List Int)):(R6 B g L).length=L.length:=by simp[R6]
theorem Zg2(B:Nat)(g:Nat->Nat)(L:List (Int×List Int))(k:Int):((R6 B g L)[S1 L k]?).getD .nils=Ts B g (Yz L) (S1 L k):=by
 unfold R6
 by_cases q:S1 L k<L.length
 grind
 have h:S1 L k=L.length:=by have:=Iy L k;omega
 rw[List.getElem?_eq_none (by grind),h];unfold Ts Yz;rw[List.getD_eq_getElem?_getD,List.getElem?_eq_none (Nat.le_refl _)];rfl
def Ll(B:Nat)(g:Nat->Nat)(L:List (Int×List Int))(k:Int)(u:V):List V:=if S1 L k<L.length then(R6 B g L).set (S1 L k) u else R6 B g L++[u]
theorem Z6f(B:Nat)(g:Nat->Nat)(L:List (Int×List Int))(k r:Int)(u:V):Cr (.int .i64) (.int .i64 k) u (Y2 L) (R6 B g L)=some (Y2 (Sb L k r),Ll B g L k u):=by
 unfold Cr Ll;rw[Hx]
 by_cases q:S1 L k<L.length
 rw[if_pos q,if_pos q,(Ib L k r q).1];rw[if_neg q,if_neg q,(Eg L k r (by have:=Iy L k;omega)).1]
theorem Zkf(B:Nat)(g:Nat->Nat)(L:List (Int×List Int))(k r:Int)(t:Nat):Ll B g L k (grown (B+S1 L k) t 1 (Yz L (S1 L k)++[r]))=R6 B (Z3 g (S1 L k) t) (Sb L k r):=by
 have e:Yz (Sb L k r)=Z3 (Yz L) (S1 L k) (Yz L (S1 L k)++[r]):=funext λj=>O7 L k r j;unfold Ll R6;rw[e]
 by_cases q:S1 L k<L.length
 rw[if_pos q,Zjh q,(Ib L k r q).2]
 have h:S1 L k=L.length:=by have:=Iy L k;omega
 rw[if_neg q,(Eg L k r h).2,h,Zh2]
theorem Z1s(B:Nat)(g:Nat->Nat)(L:List (Int×List Int))(k:Int)(a t b s:Nat){u c:V}(h:Rn a t b s u c):(Ll B g L k c).length=(Ll B g L k u).length/\∀ i (h1:i<(Ll B g L k u).length) (h2:i<(Ll B g L k c).length),Rn a t b s (Ll B g L k u)[i] (Ll B g L k c)[i]:=by
 unfold Ll
 split
 exact h.set _ _;exact h.app _
theorem S7{E:Ent}{τ : Nat->V}{H B:Heap}{l:List (Nat×V)}{m:List (Nat×AObj)}(h:T8 τ l)(c:T8 H m)(d:∀ o,B o=.dead\/B o=H o):Weak E ⟨τ,H⟩ ⟨Z6 emp l,Z6 B m⟩:=by
 refine Ur (λ_=>false) (λt=>?_) (λo=>?_)
 rcases Wk (τ := emp) (f := τ) t l (Wq h)with a|a
 exact .inl a;refine .inr ?_
 show Fz _ H (τ t) (Z6 emp l t)
 rw[a];exact Fz.same _
 show FzO _ H o (Z6 B m o)
 rcases Wk (τ := B) (f:=H) o m (Wq c)with a|a
 rw[a]
 rcases d o with b|b
 rw[b];trivial;rw[b];exact FzO.same rfl;rw[a];exact FzO.same rfl
theorem U9{α : Type}{G:Nat -> α}{o:Nat}:∀ {m:List (Nat × α)} {lo:Nat},(m.all λp=>Nat.blt p.1 lo)=true->lo<=o->Z6 G m o=G o
 |[],_,_,_=>rfl
 |p::m,lo,h,ho=>by
  rw[List.all_cons,Bool.and_eq_true,Nat.blt_eq]at h;rw[Wb,Zk _ _ zo,U9 h.2 ho]
theorem Mn{B B':Nat}{g b:Nat->Nat}{l a:Nat->List Int}{H:Heap}(h:B+1000000<=B'\/B'+1000000<=B):Wh B g l (Wh B' b a H)=Wh B' b a (Wh B g l H):=by
 funext o
 unfold Wh
 grind
theorem Zhh{B:Nat}{g:Nat->Nat}{l:Nat->List Int}{H:Heap}{j t:Nat}{r:List Int}(a:j<1000000):∀ {m:List (Nat×AObj)},(m.all λp=>Nat.blt p.1 B)=true->Z3 (Z6 (Wh B g l H) m) (B+j) (Yb t (V.int .i64) r)=Z6 (Wh B (Z3 g j t) (Z3 l j r) H) m
 |[],_=>Zi2 a
 |p::m,h=>by
  rw[List.all_cons,Bool.and_eq_true,Nat.blt_eq]at h;rw[Wb,Wb,<- Zhh a h.2]
  funext o
  simp only[Z3]
  grind
theorem Gd{P:Program}{E:Ent}{c:Code}{Q:Exit->AS->Prop}{n:Nat->V}{H' H0:Heap}{g:Nat->Nat}{l:Nat->List Int}{m:List (Nat×AObj)}(lt:List (Nat×V))(x B d j:Nat)(F:V->AObj){o2 g2:Nat}{r:List Int}(u:r≠[])(v:o2=B+j\/o2=d)(y:j<1000000)
  (A:∀ a g b k,RnX a g b k (F (grown a g 1 r)) (F (grown b k 1 r))) (C:H' o2=Yb g2 (V.int .i64) r) (s:H' x=F (grown o2 g2 1 r)) (z:∀ o,o≠x->o≠B+j->o≠d->Z6 (Wh B g l H0) m o=.dead\/H' o=Z6 (Wh B g l H0) m o) (q : ∀ t,Z6 emp lt t=.top\/Z6 emp lt t = n t)
  (h:∀ t,AW P E c Q ⟨Z6 emp lt,Z6 (Wh B (Z3 g j t) (Z3 l j r) H0) ((x,F (grown (B+j) t 1 r))::(d,.dead)::m)⟩)
  (w:(((x,AObj.dead)::(d,.dead)::m).all λp=>Nat.blt p.1 B)=true:=by rfl) (i:x≠d:=by decide):AW P E c Q ⟨n,H'⟩:=by
 have f:=w;rw[List.all_cons,List.all_cons,Bool.and_eq_true,Bool.and_eq_true,Nat.blt_eq,Nat.blt_eq]at f;obtain⟨I,G,D⟩:=f;refine Z1y (τ := Z6 emp lt) (H:=Z6 (Wh B g l H0) m) x F (B+j) d o2 g2 u v zo i zo A C s z q λt=>?_;have e:=Zhh (B:=B) (g:=g) (l:=l) (H:=H0) (t:=t) (r:=r) y (m:=(x,F (grown (B+j) t 1 r))::(d,.dead)::m) (by grind);have:=h t;rw[<- e]at this;exact this
theorem Oo{P:Program}{E:Ent}{c:Code}{Q:Exit->AS->Prop}{e:Nat->V}{H' H0:Heap}{g:Nat->Nat}{l:Nat->List Int}{m:List (Nat×AObj)}(lt:List (Nat×V))(x B d j:Nat)(F:V->AObj){o2 g2:Nat}{r:List Int}(s:r≠[])(u:o2=B+j\/o2=d)(w:j<1000000)
  (z:∀ a g b k,RnX a g b k (F (grown a g 1 r)) (F (grown b k 1 r))) (A:H' o2=Yb g2 (V.int .i64) r) (q:H' x=F (grown o2 g2 1 r)) (y:∀ o,o≠x->o≠B+j->o≠d->Z6 (Wh B g l H0) m o=.dead\/H' o=Z6 (Wh B g l H0) m o) (n : T8 e lt)
  (h:∀ t,AW P E c Q ⟨Z6 emp lt,Z6 (Wh B (Z3 g j t) (Z3 l j r) H0) ((x,F (grown (B+j) t 1 r))::(d,.dead)::m)⟩)
  (v:(((x,AObj.dead)::(d,.dead)::m).all λp=>Nat.blt p.1 B)=true:=by rfl) (i:x≠d:=by decide):AW P E c Q ⟨e,H'⟩:=
 Gd lt x B d j F s u w z A q y (λt=>Wk (τ := emp) (f := e) t lt (Wq n)) h v i
theorem Ze2{B:Nat}{g:Nat->Nat}{l:Nat->List Int}{m:List (Nat×AObj)}(a:(m.all λp=>Nat.blt p.1 B)=true)(o:Nat):Wh B g l Zi o=.dead\/Wh B g l Zi o=Z6 (Wh B g l Zi) m o:=by
 rcases Nat.lt_or_ge o B with h|h
 exact .inl (Uv (.inl h));exact .inr (U9 a h).symm
theorem RnX.mp{a g b k B lo e:Nat}{G:Nat->Nat}{L:List (Int×List Int)}{c:Int}{ks:List V}{u d:V}(h:Rn a g b k u d):RnX a g b k (.mp lo e ks (Ll B G L c u)) (.mp lo e ks (Ll B G L c d)):=
 .inr ⟨_,_,_,_,_,rfl,rfl,(Z1s B G L c a g b k h).1,(Z1s B G L c a g b k h).2⟩
theorem RnX.cl{a g b k i fz t:Nat}{c:Col}{cs:List V}{u d:V}(h:Rn a g b k u d):RnX a g b k (.cells c t fz (cs.set i u)) (.cells c t fz (cs.set i d)):=
 .inl ⟨_,_,_,_,_,rfl,rfl,(h.set cs i).1,(h.set cs i).2⟩
theorem Ao{E:Ent}(F:Nat->Bool){τ : Nat->V}{H B:Heap}{l:List (Nat×V)}{m:List (Nat×AObj)}(h:Js F H τ l)(a:N2 F H m)(d:∀ o,B o=.dead\/(F o=false/\B o=H o)):Weak E ⟨τ,H⟩ ⟨Z6 emp l,Z6 B m⟩:=by
 refine Ur F (λt=>Ko t h) (λo=>?_)
 show FzO F H o (Z6 B m o)
 induction m with
 |nil=>
  show FzO F H o (B o)
  rcases d o with q|⟨c,b⟩
  rw[q];trivial;rw[b];exact FzO.same c
 |cons p m ih=>
  rw[Wb]
  by_cases e:o=p.1
  subst e;rw[Ye];exact a.1;rw[Zk _ _ e];exact ih a.2
theorem FzL.map{F:Nat->Bool}{H:Heap}{α : Type}{f f' : α -> V}:∀ {l:List α},(∀ x∈l,Fz F H (f x) (f' x))->FzL F H (l.map f) (l.map f')
 |[],_=>trivial
 |x::r,h=>⟨h x (List.mem_cons_self ..),FzL.map λy a=>h y (List.mem_cons_of_mem _ a)⟩
def Ys(l:Nat->List Int)(n:Nat):List V:=(List.range n).map λj=>Za .new 1 (V.int .i64) (Zb (l j))
theorem FzL.fam{F:Nat->Bool}{H:Heap}{B:Nat}{g:Nat->Nat}{l:Nat->List Int}{n:Nat}(c:n<=1000000)(b:∀ j,j<1000000->F (B+j)=true)(a:∀ j,j<1000000->H (B+j)=Yb (g j) (V.int .i64) (l j)):FzL F H ((List.range n).map (Ts B g l)) (Ys l n):=
 FzL.map λj d=>W7 (f:=V.int .i64) (b j (by grind)) (a j (by grind)) λ_=>rfl
theorem Zqg(o b:Nat)(ks vs:List V):∀ l:List V,mzL o b ks vs l l
 |[]=>trivial
 |_::l=>⟨.inl rfl,Zqg o b ks vs l⟩
theorem MZO.same(o b:Nat)(ks vs:List V)(ob:AObj):MZO o b ks vs ob ob:=by
 cases ob with
 |dead=>trivial
 |mp lo b' ks' vs'=>rfl
 |lp b r=>rfl
 |cells c g fz cs=>exact⟨cs,rfl,Zqg o b ks vs cs⟩
def Lows(lo:Nat)(G:Heap):Prop:=∀ o,o<lo->G o=.dead
theorem Lows.none(lo:Nat):Lows lo Zi:=λ_ _=>rfl
theorem Lows.fam{lo B:Nat}{g:Nat->Nat}{l:Nat->List Int}{H:Heap}(h:Lows lo H)(b:lo<=B):Lows lo (Wh B g l H):=λo a=>(Uv (.inl zo)).trans (h o a)
theorem Lows.base{lo:Nat}{G:Heap}(h:Lows lo G){m:List (Nat×AObj)}(a:(m.all λp=>Nat.blt p.1 lo)=true)(o:Nat):G o=.dead\/G o=Z6 G m o:=by
 rcases Nat.lt_or_ge o lo with q|q
 exact .inl (h o q);exact .inr (U9 a q).symm
theorem Ce{lo:Nat}{G:Heap}(h:Lows lo G){F:Nat->Bool}(b:∀ o,lo<=o->F o=false){m:List (Nat×AObj)}(a:(m.all λp=>Nat.blt p.1 lo)=true)(o:Nat):G o=.dead\/(F o=false/\G o=Z6 G m o):=by
 rcases Nat.lt_or_ge o lo with q|q
 exact .inl (h o q);exact .inr ⟨b o q,(U9 a q).symm⟩
theorem Zyt{B:Nat}{g:Nat->Nat}{l:Nat->List Int}{H H':Heap}{o:Nat}(h:H o=H' o):Wh B g l H o=Wh B g l H' o:=by
 unfold Wh
 grind
theorem Zga{α : Type}{G a:Nat -> α}{o:Nat}(h:G o=a o):∀ m:List (Nat × α),Z6 G m o=Z6 a m o
 |[]=>h
 |p::m=>by
  rw[Wb,Wb];simp only[Z3]
  split
  rfl;exact Zga h m
theorem Zgs{P:Program}{E:Ent}{c:Code}{Q:Exit->AS->Prop}{W:Nat->V}{H':Heap}{gO gI:Nat->Nat}{lO lI:Nat->List Int}(m:List (Nat×AObj))(lt:List (Nat×V))(x d f a e:Nat)(F:V->V->AObj){o2 g2 o3 g3:Nat}{r r':List Int}(hr:r≠[])(N:r'≠[])
  (ho:o2=4000000+a\/o2=d) (y:o3=5000000+e\/o3=f) (ha:a<1000000) (he:e<1000000)
  (S:∀ v a g b k,RnX a g b k (F (grown a g 1 r) v) (F (grown b k 1 r) v)) (R:∀ u a g b k,RnX a g b k (F u (grown a g 1 r')) (F u (grown b k 1 r')))
  (h2:H' o2=Yb g2 (V.int .i64) r) (h3:H' o3=Yb g3 (V.int .i64) r') (hx:H' x=F (grown o2 g2 1 r) (grown o3 g3 1 r'))
  (hH:∀ o,o≠x->o≠4000000+a->o≠d->o≠5000000+e->o≠f->Z6 (Wh 4000000 gO lO (Wh 5000000 gI lI Zi)) m o=.dead\/H' o=Z6 (Wh 4000000 gO lO (Wh 5000000 gI lI Zi)) m o) (hτ : T8 W lt)
  (h:∀ t t',AW P E c Q ⟨Z6 emp lt,Z6 (Wh 4000000 (Z3 gO a t) (Z3 lO a r) (Wh 5000000 (Z3 gI e t') (Z3 lI e r') Zi)) ((x,F (grown (4000000+a) t 1 r) (grown (5000000+e) t' 1 r'))::(f,.dead)::(d,.dead)::m)⟩)
  (X:(((x,AObj.dead)::(f,.dead)::(d,.dead)::m).all λp=>Nat.blt p.1 4000000)=true:=by rfl) (D:(m.all λp => !Nat.beq p.1 d && !Nat.beq p.1 f)=true:=by rfl) (M:x≠d:=by decide) (L:x≠f:=by decide) (h12:d≠f:=by decide):AW P E c Q ⟨W,H'⟩:=by
 have H:=X;simp only[List.all_cons,Bool.and_eq_true,Nat.blt_eq]at H;obtain⟨b0,b2,b1,z⟩:=H
 have w:∀ (G:Heap) (s:Nat),(s=d\/s=f)->Z6 G m s=G s:=by
  intro G s hs;clear h hH X z
  induction m with
  |nil=>rfl
  |cons p m ih=>
   rw[List.all_cons,Bool.and_eq_true,Bool.and_eq_true]at D;obtain⟨⟨n,j⟩,J⟩:=D;rw[Wb,Zk _ _ (by rintro rfl;rcases hs with q|q<;>rw[q]at n j<;>simp at n j),ih J]
 have U:(m.all λp=>Nat.blt p.1 5000000)=true:=by
  rw[List.all_eq_true]at z⊢;intro p hp;have:=z p hp;rw[Nat.blt_eq]at this⊢;omega
 let Z:Heap:=Z3 (Z3 (Wh 5000000 gI lI Zi) (5000000+e) .dead) o3 (Yb g3 (V.int .i64) r')
 have Y:∀ o,o≠o3->o≠5000000+e->Z o=Wh 5000000 gI lI Zi o:=λo n j=>(Zk _ _ n).trans (Zk _ _ j);have i:Z o3=Yb g3 (V.int .i64) r':=Ye ..;have O:5000000+e≠o3->Z (5000000+e)=.dead:=λq=>(Zk _ _ q).trans (Ye ..);clear_value Z
 refine Oo lt (g:=gO) (l:=lO) (H0:=Z) (m:=m) x 4000000 d a (λu=>F u (grown o3 g3 1 r')) hr ho ha (λa g b k=>S _ a g b k) h2 hx (λo n j J=>?_) hτ (λt=>?_)
  (by simp only[List.all_cons,Bool.and_eq_true,Nat.blt_eq];exact⟨b0,b1,z⟩) M
 by_cases C:o=o3
 subst C
 right
 rw[h3]
 rcases y with q|q
 rw[U9 z zo,Uv zo,i];rw[w _ _ (.inr q),Uv zo,i]
 by_cases T:o=5000000+e
 subst T
 left
 rw[U9 z zo,Uv zo,O C];rw[Zga (Zyt (Y o C T)) m]
 by_cases e5:o=f
 left
 rw[w _ _ (.inr e5),Uv zo,Uv zo];rfl;exact hH o n j J T e5
 refine Gd lt (g:=gI) (g2:=g3) (o2:=o3) (l:=lI) (H0:=Wh 4000000 (Z3 gO a t) (Z3 lO a r) Zi) (m:=(x,F (grown (4000000+a) t 1 r) (grown o3 g3 1 r'))::(d,.dead)::m) x 5000000 f e (λu=>F (grown (4000000+a) t 1 r) u) N y he (λa g b k=>R _ a g b k) ?_ ?_ (λo n j J=>?_) ?_ (λt'=>?_)
  (by simp only[List.all_cons,Bool.and_eq_true,Nat.blt_eq];exact⟨zo,zo,zo,zo,U⟩) L
 have n1:o3≠x:=zo;have n2:o3≠d:=zo;rw[Wb,Wb,Zk _ _ n1,Zk _ _ n2]
 rcases y with q|q
 rw[U9 z zo,Uv zo,i];rw[w _ _ (.inr q),Uv zo,i];rw[Wb,Ye]
 by_cases C:o=o3
 subst C;omega
 right
 refine Zga ?_ _;rw[Mn zo];exact Zyt (Y o C j);exact λ_=>.inr rfl;rw[Mn zo]
 have K:∀ (G:Heap) (A B:AObj),Z6 G ((x,A)::(f,.dead)::(x,B)::(d,.dead)::m)=Z6 G ((x,A)::(f,.dead)::(d,.dead)::m):=λG A B=>by
  funext o
  simp only[Wb,Z3]
  by_cases I:o=x
  rw[if_pos I,if_pos I];rw[if_neg I,if_neg I,if_neg I]
 rw[K];exact h t t'
theorem Ze6{a g b k i j fz t:Nat}{c:Col}{cs:List V}{u d v:V}(h:Rn a g b k u d):RnX a g b k (.cells c t fz ((cs.set i u).set j v)) (.cells c t fz ((cs.set i d).set j v)):=
 .inl ⟨_,_,_,_,_,rfl,rfl,zS,λq f e=>by
  rw[List.getElem_set,List.getElem_set,List.getElem_set,List.getElem_set]
  split
  exact .same _
  split
  exact h
  exact .same _⟩
theorem FzL.app{F:Nat->Bool}{H:Heap}:∀ {a a' b b':List V},FzL F H a a'->FzL F H b b'->FzL F H (a++b) (a'++b')
 |[],[],_,_,_,h=>h
 |[],_::_,_,_,h,_=>h.elim
 |_::_,[],_,_,h,_=>h.elim
 |_::_,_::_,_,_,h,k=>⟨h.1,FzL.app h.2 k⟩
theorem FzL.flat{F:Nat->Bool}{H:Heap}{α : Type}{f f' : α -> V}:∀ {l:List α},(∀ x∈l,FzL F H (f x).cells (f' x).cells)->FzL F H (flat (l.map f)) (flat (l.map f'))
 |[],_=>trivial
 |x::r,h=>FzL.app (h x (List.mem_cons_self ..)) (FzL.flat λy a=>h y (List.mem_cons_of_mem _ a))
section
variable{P:Program}{E:Ent}
theorem Zl4{N:Nat}{G:Nat->V}{f:FuncId}{b:Func}{c:Code}{args:List V}{H:Heap}{K:V->Heap->Prop}(q:Nat)(y:P.funcs[f]?=some b)(B:b.body=some c)(m:Nat.ble args.length b.ntmps=true)
  {X:Cx} {a:Array Value} (D:Inv X H) (E:∀ g,RelG X g (G g)) (J:RelA X a args) (C:N<=X.w.heap.size) (h:AW P ⟨X,H,b.ntmps,q,G,none,[],.inl N⟩ c (Tr P b.results.toList K) ⟨Ud 0 args,H⟩):
  Calls P f a X.w (λe w'=>∃ c v H' Y,e=.returned c/\Y.w=w'/\GoesN N X H Y H'/\Rel Y c v/\(∀ g,RelG Y g (G g))/\K v H'):=by
 have I:RK.F (.inl N)=Fence.wide:=Hd rfl;refine(callsIn_wide (n:=0)).1 (callsIn_of_wp_marks y B trivial ?_);have s:=h _ _ ⟨X,Bo b.ntmps q (Nat.le_of_ble_eq_true m) D E J⟩;rw[I]at s;refine wpIn_mono s ?_;rintro e r w' (⟨k,⟨Y,j⟩,d⟩|⟨L,rfl,x⟩);rotate_left;exact(x.no rfl).elim;have p:Ent.N ⟨X,H,b.ntmps,q,G,none,[],.inl N⟩=N:=Nat.min_eq_left C
 have fin:(∃ v,Zvf P k b.results.toList=some v/\K v k.H)->LeavesInM Fence.wide 0 P b r.tmps (λe w'=>∃ c v H' Y,e=.returned c/\Y.w=w'/\GoesN N X H Y H'/\Rel Y c v/\(∀ g,RelG Y g (G g))/\K v H') r.defers .returning w':=by
  intro⟨v,t,o⟩;obtain⟨c,A,u⟩:=Zuf j t;have z:r.defers=[]:=DefR.nil j.df;rw[z];have i:=j.go;rw[p]at i;exact⟨c,A,c,v,k.H,Y,rfl,j.hw,i,u,j.gl,o⟩
 cases e with
 |normal=>exact fin d
 |ret=>exact fin d
 |exit id=>exact d.elim
 |goto l=>exact d.elim
 |panic L=>exact d.elim
 |outgrown=>exact d.elim
theorem HandX.inl{ops:Array Oper}{R:Exit->Act->World->Prop}{st:AS}{K:AS->Prop}{dst:Option Nat}{f:Operand}{args:Array Operand}{ats:Array TypeId}{ty:TypeId}{pos:String}{af:Array Edge}{gd:Option (Nat×Bool)}{fid:FuncId}{fn:Func}{c:Code}{cl ags:List V}
  (q n:Nat) (rs:List ResultVar) (hfn:P.funcs[fid]?=some fn) (hf:st.ev E f=.func (.func fid) [] cl) (ha:args.toList.map (st.ev E)++cl=ags)
  (h:∀ X1,AW P ⟨X1,st.H,n,q,E.G,none,[],.inl E.N⟩ c (Tr P rs (λv H'=>K (AS.put ⟨st.τ,H'⟩ dst v))) ⟨Ud 0 ags,st.H⟩)
  (hd:(ops.all (Xz E.n))=true) {k:Nat} (ho:ops[k]?=some ⟨dst,.call ⟨.value f,args,ats⟩,ty,pos,af,gd⟩) (hw:Zz ops st.τ ⟨dst,.call ⟨.value f,args,ats⟩,ty,pos,af,gd⟩=some true)
  (hen:Z5 P fid=true:=by kernel_rfl) (hb:fn.body=some c:=by rfl) (hn:fn.ntmps=n:=by rfl) (hr:fn.results.toList=rs:=by rfl) (hn0:Nat.ble ags.length n=true:=by rfl) (hdf:E.df=[]:=by rfl) (hrk:E.rk ≠ .marks:=by exact RK.noConfusion):
  HandX P E ops R ⟨dst,.call ⟨.value f,args,ats⟩,ty,pos,af,gd⟩ st K:=by
 subst hn hr;refine Or.inl ⟨hw,λX a hX=>?_⟩;refine⟨λ_ _=>trivial,?_⟩;rw[Oper.semAt_eq _ _ _ (λ_ h=>by cases h)];have hfv:=hX.ev f;rw[hf]at hfv;generalize hq:a.eval f=qv at hfv
 cases hfv with
 |func _ xs ys _ _ hx hy hxr hyr=>
  have hx0:xs = #[]:=by
   have:xs.size=0:=hx;exact Array.eq_empty_of_size_eq_zero this
  subst hx0
  have hA:RelA X (args.map a.eval++ys) (args.toList.map (st.ev E)++cl):=by
   refine⟨by simp[hy],λi h1 h2=>?_⟩
   by_cases hi:i<args.size
   rw[Array.getElem_append_left (zu hi),List.getElem_append_left (zu hi)];simp only[Array.getElem_map,List.getElem_map,Array.getElem_toList];exact hX.ev _;rw[Array.getElem_append_right zO,List.getElem_append_right zO];simp only[Array.size_map,List.length_map,Array.length_toList];exact hyr _ _ _
  rw[ha]at hA;have hk:=Zl4 q hfn hb hn0 hX.go.inv hX.gl hA hX.size (h X)
  have hdm:∀ d,dst=some d->d<E.n:=by
   intro d hdst;rw[Array.all_eq_true']at hd;obtain⟨hlt,e⟩:=Array.getElem?_eq_some_iff.1 ho;have:=hd _ (Array.getElem_mem hlt);rw[e]at this;simp only[Xz,hdst]at this;simpa using this
  have hrun:(execOp a.eval ⟨dst,.call ⟨.value f,args,ats⟩,ty,pos,af,gd⟩).run P X.w=.ok (.enter fid (args.map a.eval++ys)) X.w:=by
   unfold Z5 at hen
   split at hen
   rename_i fn' hfn';simp only[Bool.and_eq_true]at hen;obtain⟨hn1,hn2⟩:=hen
   have hn1':(fn'.name == "runtime.NumGoroutine")=false:=zu hn1
   have hn2':fn'.body.isNone=false:=by cases hb':fn'.body<;>simp_all
   simp only[execOp,resolve,hq,Deferred.ofValue,Sem.run_bind,Sem.run_pure,Result.andThen_ok,invoke,callFunc,run_program,hfn',hn1',hn2'];simp;simp at hen
  rw[hrun,Oper.uponIn_enter];refine⟨λh=>(by cases h),(E.rk.calls).2 (hk.mono ?_)⟩;rintro e w' ⟨c,v,H',Y,rfl,rfl,hg,hr,hgl,hK⟩
  have hdn:a.defers=[]:=by
   have:=hX.df;rw[hdf]at this;exact DefR.nil this hrk
  refine⟨_,⟨Y,rfl,?_,?_,?_,λt=>?_,hgl⟩,hK⟩;have:=hX.go.then hg (Nat.le_refl _)
  cases dst<;>exact this
  have:(a.put dst c).defers=[]:=by cases dst<;>exact hdn
  rw[this,hdf];exact .none _ _ _
  cases dst<;>simp[Act.put,hX.sz]
  .have h0:=(hX.tm t).mono hg.le
   cases dst with
   |none=>exact h0
   |some d=>
    simp only[Act.put,AS.put,Z3]
    by_cases htd:t=d
    subst htd
    have:t<a.tmps.size:=by rw[hX.sz];exact hdm _ rfl
    simp[this,hr];simp only[htd,if_false]
    have:(a.tmps.setIfInBounds d c).getD t undef=a.tmps.getD t undef:=by
     simp[Array.getD_eq_getD_getElem?,Array.getElem?_setIfInBounds_ne (Ne.symm htd)]
    rw[this];exact h0
def InlF(P:Program)(G:Nat->V)(N:Nat)(f:FuncId)(args:List V)(H:Heap)(K:V->Heap->Prop):Prop:=
 ∃ fn c q,P.funcs[f]?=some fn/\fn.body=some c/\Nat.ble args.length fn.ntmps=true/\∀ X1,AW P ⟨X1,H,fn.ntmps,q,G,none,[],.inl N⟩ c (Tr P fn.results.toList K) ⟨Ud 0 args,H⟩
theorem ZoI{G:Nat->V}{N:Nat}{f:FuncId}{a:Func}{c:Code}{args:List V}{H:Heap}{K:V->Heap->Prop}(q n:Nat)(d:List ResultVar)(i:P.funcs[f]?=some a)(h:∀ X1,AW P ⟨X1,H,n,q,G,none,[],.inl N⟩ c (Tr P d K) ⟨Ud 0 args,H⟩)
  (j:a.body=some c:=by rfl) (g:a.ntmps=n:=by rfl) (e:a.results.toList=d:=by rfl) (b:Nat.ble args.length n=true:=by rfl):InlF P G N f args H K:=by
 subst g e;exact⟨a,c,q,i,j,b,h⟩
theorem Cg{ops:Array Oper}{R:Exit->Act->World->Prop}{st:AS}{K:AS->Prop}{dst:Option Nat}{f:Operand}{args:Array Operand}{b:Array TypeId}{ty:TypeId}{pos:String}{af:Array Edge}{gd:Option (Nat×Bool)}{a:FuncId}{cl g:List V}{u:V->Heap->Prop}
  (z:InlF P E.G E.N a g st.H u) (y:st.ev E f=.func (.func a) [] cl) (ha:args.toList.map (st.ev E)++cl=g) (r:∀ v H',u v H'->K (AS.put ⟨st.τ,H'⟩ dst v))
  (hd:(ops.all (Xz E.n))=true) {k:Nat} (x:ops[k]?=some ⟨dst,.call ⟨.value f,args,b⟩,ty,pos,af,gd⟩) (w:Zz ops st.τ ⟨dst,.call ⟨.value f,args,b⟩,ty,pos,af,gd⟩=some true)
  (o:Z5 P a=true:=by kernel_rfl) (p:E.df=[]:=by rfl) (m:E.rk ≠ .marks:=by exact RK.noConfusion):
  HandX P E ops R ⟨dst,.call ⟨.value f,args,b⟩,ty,pos,af,gd⟩ st K:=by
 obtain⟨t,c,q,D,C,B,A⟩:=z;refine HandX.inl q t.ntmps t.results.toList D y ha (λF=>(A F).mono ?_) hd x w o C rfl rfl B p m;intro e s d
 cases e with
 |ret=>obtain⟨v,j,h⟩:=d;exact⟨v,j,r _ _ h⟩
 |normal=>obtain⟨v,j,h⟩:=d;exact⟨v,j,r _ _ h⟩
 |exit i=>exact d.elim
 |goto l=>exact d.elim
 |panic ch=>exact d.elim
 |outgrown=>exact d.elim
def Gives1(P:Program)(a:Act)(X:Cx)(o:Oper)(v:V):Prop:=∃ c,(execOp a.eval o).run P X.w=.ok (.value c) X.w/\Rel X c v
theorem Z6l{ops:Array Oper}{R:Exit->Act->World->Prop}{st:AS}{K:AS->Prop}{dst:Option Nat}{t:TypeId}{x lo:Operand}{ty:TypeId}{pos:String}{af:Array Edge}{gd:Option (Nat×Bool)}{e:TypeId}{m ob g off len:Nat}
  (I:P.underlying t=some (.slice e)) (J:Yp P e=some m) (G:st.ev E x=.msl ob g off (len+1) m) (z:st.ev E lo=.int .i64 1)
  (N:∀ off',off'=off+m\/(len=0/\off'=off)->K (AS.put st dst (.msl ob g off' len m)))
  (hd:(ops.all (Xz E.n))=true) {n:Nat} (L:ops[n]?=some ⟨dst,.slice t x (some lo) none none,ty,pos,af,gd⟩) (H:Zz ops st.τ ⟨dst,.slice t x (some lo) none none,ty,pos,af,gd⟩=some true):
  HandX P E ops R ⟨dst,.slice t x (some lo) none none,ty,pos,af,gd⟩ st K:=by
 refine Or.inl ⟨H,λX a s=>?_⟩
 have u:∃ off',(off'=off+m\/(len=0/\off'=off))/\Gives1 P a X ⟨dst,.slice t x (some lo) none none,ty,pos,af,gd⟩ (.msl ob g off' len m):=by
  have v:=s.ev x;rw[G]at v;have D:=s.ev lo;rw[z]at D;have l:execOp a.eval ⟨dst,.slice t x (some lo) none none,ty,pos,af,gd⟩=(do pure (Next.value (<- Instr.sliceAt t (a.eval x) (some (a.eval lo)) none none))):=rfl;generalize T:a.eval x=y at v l
  cases v with
  |msl _ _ _ _ _ b bs cap hβ hcap hb=>
   have B:=Vf (P:=P) (w:=X.w) (X:=X) (isSlice:=true) (len:=len+1) (cap:=cap) (lo:=some (a.eval lo)) (hi:=none) (mx:=none) (lo':=some (.int .i64 1)) (hi':=none) (mx':=none) (i:=1) (j:=len+1) (k:=cap) D trivial trivial rfl rfl rfl (.inl rfl) zo zo (Nat.le_refl _)
   have f:(Instr.sliceAt t (.slice (some ⟨b,bs+off,none⟩) (len+1) cap) (some (a.eval lo)) none none).run P X.w=.ok (.slice (if cap=1 then some ⟨b,bs+off,none⟩else(some (⟨b,bs+off,none⟩:Addr)).map (·.add (1*m))) (len+1-1) (cap-1)) X.w:=by
    simp only[Instr.sliceAt,Instr.slice,Zj I,B,Yn J,Sem.run_bind,Result.andThen_ok,Sem.run_pure]
   obtain⟨F,C,r,M⟩:=hb
   by_cases q:cap=1
   subst q;have A:len=0:=zo;subst A;refine⟨off,.inr ⟨rfl,rfl⟩,_,by rw[l];simp only[Sem.run_bind,f,Result.andThen_ok,Sem.run_pure];rfl,?_⟩
   show Rel X (.slice (if True then _ else _) _ _) _
   rw[if_pos trivial];exact .msl _ _ _ _ _ b bs 0 hβ (Nat.le_refl _) ⟨F,C,r,zo⟩;refine⟨off+m,.inl rfl,_,by rw[l];simp only[Sem.run_bind,f,Result.andThen_ok,Sem.run_pure];rfl,?_⟩;rw[if_neg q,Option.map_some,Addr.add_lit,Nat.one_mul,Nat.add_assoc,Nat.add_sub_cancel];refine .msl _ _ _ _ _ b bs (cap-1) hβ zo ⟨F,C,r,?_⟩
   have:m+(cap-1)*m=cap*m:=by rw[Nat.add_comm,<- Nat.succ_mul];congr 1;omega
   omega
 obtain⟨off',S,c,Q,O⟩:=u;refine R3 _ (λ_ h=>nomatch h) ?_;unfold Oper.wp;rw[Q,Oper.upon_value];refine⟨_,⟨X,s.step (Goes.refl s.go.inv) O λd p=>?_⟩,N _ S⟩;rw[Array.all_eq_true']at hd;have:=hd _ (Array.mem_of_getElem? L);unfold Xz at this;have o:dst=some d:=p;subst o;simpa using this
end
end Go.Hs
end
