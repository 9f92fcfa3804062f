/- A part. No condition. -/
import Derived.Test.YtjplgaebbfabnaaGreatDoorP48
import Derived.Test.YtjplgaebbfabnaaGreatDoorP49
set_option linter.all false
section
namespace Go.Hs
open Go.Proofs
set_option maxHeartbeats 2000000
set_option maxRecDepth 10000
theorem HandX.weak{P:Program}{E:Ent}{ops:Array Oper}{R:Exit->Act->World->Prop}{o:Oper}{s s':AS}{K:AS->Prop}(d:Weak E s s')(f:o.guard=none)(h:HandX P E ops R o s' K):HandX P E ops R o s K:=by
 have b:∀ τ,Z8 ops τ o=some true:=λτ => by unfold Z8;rw[f]
 rcases h with ⟨_,h⟩|⟨h,_⟩
 refine .inl ⟨b _,λX a g=>?_⟩;obtain⟨Y,c⟩:=d a X.w ⟨X,g⟩;have e:=c.hw;rw[<- e]at c⊢;exact h Y a c;rw[b]at h;cases h
theorem Wg{P:Program}(b:Nat){G:Nat->V}{f:FuncId}{args:List V}{H:Heap}{K:V->Heap->Prop}(args':List V)(a:FzL (λo=>o==b) H args args')(h:CallA P G f args' (Ya H b .dead) K):CallA P G f args H K:=
 Kc _ a.get.1 a.get.2 (λo=>by
  by_cases e:o=b
  subst e;rw[Ym];trivial
  rw[Zp _ _ e];exact FzO.same (by simp[e])) h
theorem Weak.tm{E:Ent}{τ : Nat->V}{H:Heap}{l:List (Nat×V)}(h:S8 τ l):Weak E ⟨τ,H⟩ ⟨Z5 La l,H⟩:=
 Tc (λ_=>false) (λt=>by
  rcases Ww (τ := La) (f := τ) t l (W9 h)with a|a
  exact .inl a;refine .inr ?_
  dsimp only
  rw[a];exact Zb) λo=>FzO.same rfl
def Vx(c:Col)(e:Int×List Int):V:=.agg [.int .i64 e.1,Za c 1 (V.int .i64) (Zd e.2)]
theorem U9(c:Col)(e:Int×List Int):Vx c e=.agg [.int .i64 e.1,Za c 1 (V.int .i64) (Zd e.2)]:=rfl
theorem Zdd(c:Col)(e:Int×List Int):(Vx c e).cells.length=2:=rfl
theorem Zfc(g:Col->Col)(c:Col)(e:Int×List Int):(Vx c e).recol g=Vx (g c) e:=by simp only[U9,Xl,List.map_cons,List.map_nil,Yj,Y1]
def X6(c:Col)(l:List (Int×List Int)):V:=Za c 2 (Vx c) (Zd l)
@[go_sem] theorem Du(g:Col->Col)(c:Col)(l:List (Int×List Int)):(X6 c l).recol g=X6 (g c) l:=Y8 g c 2 (Zfc g c) _
theorem Zab(c:Col):X6 c []=.nils:=rfl
theorem Be{c:Col}{l:List (Int×List Int)}(h:l≠[]):X6 c l=.slice c false 2 (l.map (Vx c)):=by cases l with|nil=>exact absurd rfl h|cons=>rfl
@[go_sem] theorem cells_es(c:Col)(l:List (Int×List Int)):(X6 c l).cells=[X6 c l]:=by cases l<;>rfl
@[go_sem] theorem solid_es(c:Col)(l:List (Int×List Int)):(X6 c l).solid=true:=by cases l<;>rfl
theorem OwnC.of{P:Program}{G:Nat->V}{f:FuncId}{args:List V}{v:V}(a:Z7 P f=true)(h:InSp P G f args Zj (λv' _=>v'=v)):OwnC P G f args v:=λH K c=>
 CallA.inl [] a (λp b=>by cases b) (h.mono λv' d e=>by subst e;exact c)
theorem Zxba(G:Nat->V)(l:List (Int×List Int))(a:l.length<1000000):InSp Tryz.prog G 200 [X6 .new l] Zj (λv _=>v=X6 .new l):=by
 refine Yr 0 8 [.tmp 2] Tryz.func200 rfl rfl rfl rfl λX=>?_
 by_cases h:l=[]
 subst h;rw[Zab];exact Zr;rw[Be h];refine Z ?_;intro g;refine⟨Z4 zo (by rw[List.length_map];omega),λb=>?_⟩;refine Zs ?_;refine AW.weak (Zl (λo=>o==5) (l:=[(2,.slice .new false 2 (l.map (Vx .new)))]) (m:=[]) ?_ trivial) ?_;refine Zs ?_;rw[List.length_map];exact Xa (f:=Vx .new) rfl zp (Zdd _);exact Zr
theorem Si{P:Program}{G:Nat->V}{f:FuncId}{args:List V}{H:Heap}{K:V->Heap->Prop}(args':List V)(a:FzL (λ_=>false) H args args')(h:CallA P G f args' H K):CallA P G f args H K:=
 Kc _ a.get.1 a.get.2 (λo=>FzO.same rfl) h
def Cj{σ κ κ2:Type}(nx : σ -> κ2->Bool × σ)(f : κ -> List κ2)(w : σ × Bool)(k : κ) : σ × Bool:=((Yx nx w.1 (f k)).2,(Yx nx w.1 (f k)).1)
def jB{σ : Type}(w : σ × Bool):Option Code:=if w.2=true then none else some .ret
theorem Lv{σ κ b:Type}(a : σ -> b->Bool × σ)(f : κ -> List b):∀ (xs:List κ) (s : σ),Yx a s (xs.flatMap f)=((Yx (λw k=>((jB (Cj a f w k)).isNone,Cj a f w k)) (s,true) xs).2.2,(Yx (λw k=>((jB (Cj a f w k)).isNone,Cj a f w k)) (s,true) xs).2.1)
 |[],s=>rfl
 |k::r,s=>by
  rw[List.flatMap_cons,Lw,Yx];have e:Cj a f (s,true) k=((Yx a s (f k)).2,(Yx a s (f k)).1):=rfl;rw[e];cases c:(Yx a s (f k)).1;simp[jB];simp only[jB,if_true,Option.isNone_none];exact Lv a f r _
theorem Ip{σ κ d:Type}{c : σ -> d->Prop}{a : σ -> d->Bool × σ}{f : κ -> List d}:∀ {xs:List κ} {s : σ},R6 c a s (xs.flatMap f)->R6 (λw k=>R6 c a w.1 (f k)/\jB w=none) (λw k=>((jB (Cj a f w k)).isNone,Cj a f w k)) (s,true) xs
 |[],s,_=>trivial
 |k::r,s,h=>by
  rw[List.flatMap_cons]at h;obtain⟨g,e⟩:=Lb h;refine⟨⟨g,rfl⟩,λq=>?_⟩;simp only[Cj]at q⊢;generalize Yx a s (f k)=z at e q⊢;obtain⟨b,i⟩:=z;cases b;cases q;exact Ip (e rfl)
def Zsk(c:Col)(l:List (Int×List Int)):V:=match l with|[]=>.nils|_::_=>.slice c true 2 (l.map (Vx c))
theorem Zrk{c:Col}{l:List (Int×List Int)}(h:l≠[]):Zsk c l=.slice c true 2 (l.map (Vx c)):=by cases l with|nil=>exact absurd rfl h|cons=>rfl
theorem Z2q(c:Col)(l:List V):Ub Tryz.prog 72 (.slice c false 2 l) none (some (.int .i64 l.length)) (some (.int .i64 l.length))=some (.slice c true 2 l):=by
 have e:Tryz.prog.underlying 72=some (.slice 178):=zk;have b:Yw Tryz.prog 178=some 2:=zk
 have a:∀ d,Yu d (some (.int .i64 (l.length:Int)))=some l.length:=λd=>by simp[Yu]
 unfold Ub;rw[e];simp only[a];rw[show Yu 0 none=some 0 from rfl];simp only[b,Nat.zero_le,Nat.le_refl,and_self,if_true,List.drop_zero,Nat.sub_zero,List.take_length];rw[a];simp only[Nat.le_refl,and_self,if_true,beq_self_eq_true]
theorem Zh8(G:Nat->V)(c:Col)(l:List (Int×List Int))(a:l.length<1000000):InSp Tryz.prog G 201 [X6 c l] Zj (λv _=>v=Zsk c l):=by
 refine Yr 0 9 [.tmp 2] Tryz.func201 rfl rfl rfl rfl λX=>?_
 by_cases h:l=[]
 subst h;rw[Zab];exact Zr;rw[Be h,Zrk h];refine Z ?_;rw[Z2q];refine Zs ?_;refine Z ?_;rfl
theorem K3{a lo:Nat}(H:Heap)(h:a<=lo):Z9 a (Z9 lo H)=Z9 lo H:=by
 funext o
 rcases Nat.lt_or_ge o lo with q|q
 rw[Xi q]
 rcases Nat.lt_or_ge o a with b|b
 rw[Xi b]
 rw[W6 b,Xi q]<;>rfl
 rw[W6 (Nat.le_trans h q),W6 q,Qv]
@[go_sem] theorem mask_10(H:Heap):Z9 100 (Z9 1000 H)=Z9 1000 H:=K3 H zd
theorem hpEqM2{lo:Nat}{H:Heap}{a b c d e:AObj}(h:lo=1000):Ya (Ya (Ya (Ya (Ya (Ya (Ya (Z9 lo H) 108 e) 107 d) 106 c) 105 b) 104 a) 108 e) 190 .dead=Ya (Ya (Ya (Ya (Ya (Z9 lo H) 108 e) 107 d) 106 c) 105 b) 104 a:=by
 subst h
 funext o
 by_cases q:o=190
 subst q;simp[Ya,Xi];rw[Zp _ _ q]
 by_cases f:o=108
 subst f;simp[Ya];rw[Zp _ _ f]
theorem Zkca{lo:Nat}{H:Heap}{a b c d e:AObj}(h:lo=1000):Ya (Ya (Ya (Ya (Ya (Ya (Z9 lo H) 108 e) 107 d) 106 c) 105 b) 104 a) 190 .dead=Ya (Ya (Ya (Ya (Ya (Z9 lo H) 108 e) 107 d) 106 c) 105 b) 104 a:=by
 subst h
 funext o
 by_cases q:o=190
 subst q;simp[Ya,Xi];rw[Zp _ _ q]
theorem Gp{E:Ent}{lo:Nat}(F:Nat->Bool){τ : Nat->V}{H B:Heap}{l:List (Nat×V)}{m:List (Nat×AObj)}(j:∀ o,lo<=o->F o=false)(h:Iy F H τ l)(i:∀ p∈m,F p.1=false)(g:S8 H m)(k:Z9 lo H=Z9 lo B):Weak E ⟨τ,H⟩ (Hs.stM lo B l m):=by
 refine Tc F (λt=>Jq t h) (λo=>?_)
 show FzO _ H o (Z5 (Z9 lo B) m o)
 by_cases a:∃ p∈m,p.1=o
 rcases Ww (τ := Z9 lo B) (f:=H) o m (W9 g)with b|b
 rw[b,<- k]
 rcases Nat.lt_or_ge o lo with q|q
 rw[Xi q];trivial
 .rw[W6 q]
  have:=FzO.same (H:=H) (j o q)
  cases d:H o with
  |mp=>trivial
  |_=>rw[d]at this;exact this
 obtain⟨p,s,rfl⟩:=a;rw[b];exact FzO.same (i p s)
 .have b:Z5 (Z9 lo B) m o=Z9 lo B o:=by
   try clear g i
   induction m with
   |nil=>rfl
   |cons p r ih=>
    rw[Z5,Zp _ _ (λe=>a ⟨p,List.mem_cons_self ..,e.symm⟩)];exact ih fun⟨n,c,e⟩=>a ⟨n,List.mem_cons_of_mem _ c,e⟩
  rw[b,<- k]
  rcases Nat.lt_or_ge o lo with q|q
  rw[Xi q];trivial
  .rw[W6 q]
   have:=FzO.same (H:=H) (j o q)
   cases d:H o with
   |mp=>trivial
   |_=>rw[d]at this;exact this
theorem Z48{P:Program}{E:Ent}{ops:Array Oper}{Q:AS->Prop}{rest:List Oper}{τ : Nat->V}{H:Heap}{e bytes:Nat}{c:Col}{l:List (Int×List Int)}(x:Int×List Int){ob:AObj}{xc:List V}(d:xc=(Vx c x).cells)(b:U3 bytes (l.length+1))
  (h:∀ g,Yt P E ops Q rest ⟨Ya τ e (.msl (E.q+e) g 0 (l++[x]).length 2),Ya H (E.q+e) (.cells .new g 0 (flat ((l++[x]).map (Vx c))))⟩):Bu P E ops Q rest e τ H 2 bytes (Zsk c l) (some (1,xc)) ob:=by
 subst d
 cases l with
 |nil=>
  rw[show Zsk c []=.nils from rfl,Zk2];exact⟨zu b,λa=>absurd a zd,λ_ g=>h g⟩
 |cons y r=>
  rw[Zrk zS,Bt];refine⟨rfl,zu b,λa=>absurd a zd,λ_=>⟨rfl,λg=>?_⟩⟩;have:=h g;rw[List.length_append,List.map_append,U6]at this;rw[List.length_map];exact this
theorem Zmt{σ κ : Type}{A : σ -> κ -> Prop}{J : σ -> Prop}{Q : κ -> Prop}{a : σ -> κ -> Bool × σ}:∀ {xs:List κ} {s : σ},R6 (λw k=>A w k/\J w) a s xs->(∀ k∈xs,Q k)->R6 (λw k=>(A w k/\Q k)/\J w) a s xs
 |[],_,_,_=>trivial
 |k::r,s,h,hq=>⟨⟨⟨h.1.1,hq k (List.mem_cons_self ..)⟩,h.1.2⟩,λz=>Zmt (h.2 z) λk' b=>hq k' (List.mem_cons_of_mem _ b)⟩
theorem P5(m:PM):∀ (f:Nat) (v:Int) (p:List Int),p≠[]->∀ w∈m.walkF f v p,w.1≠[]
 |0,v,p,hp,w,a=>by cases a;exact hp;rename_i h;cases h
 |f+1,v,p,hp,w,a=>by
  rw[Ko]at a
  split at a
  obtain⟨t,_,a⟩:=List.mem_flatMap.1 a;unfold PM.walkG at a
  split at a
  rw[List.mem_singleton]at a;subst a;simp;exact P5 m f _ _ zS w a;rw[List.mem_singleton]at a;subst a;exact hp
theorem Ou{l:List Int}(h:l≠[]):Zd l=.mk false l:=by cases l with|nil=>exact absurd rfl h|cons=>rfl
theorem Z37(G:Nat->V)(hG:Y6 G)(m:MdM)(x:IxM)(hx:IxP m.p x)(hw:m.p.ways.length<100000)(hr:∀ t:Int,0<=t->t<m.p.ways.length->0<=m.p.tg t/\m.p.tg t<m.p.vertices.length):
  ∀ (outs:List Int) (ends:List (Int×List Int)) (q:Bool) (b c d e f g co:Col) (H:Heap),(∀ t∈outs,0<=t/\t<m.p.ways.length)->outs.length+ends.length<100000 ->
   YfSp Tryz.prog G 1000 142 (λy=>[Wl b c d e f g m x,Za co 1 (V.int .i64) (.mk q outs),X6 .new ends,y]) H (λes=>[X6 .new es]) (m.p.forkF outs ends) V.bool:=by
 intro outs
 induction outs with
 |nil=>
  intro ends q b c d e f g co H U hn;refine Wz .marks 100 50 4 [.cell 8 4] Tryz.func142 λX t cl σ R dom L s0 hy hd hR _=>?_;refine AW.weak (Y7 (lo:=1000) (B:=H) (l:=[(0,Wl b c d e f g m x),(1,Za co 1 (V.int .i64) (.mk q [])),(2,X6 .new ends),(3,.func t [] cl)]) (m:=[]) ⟨rfl,rfl,rfl,rfl,trivial⟩ trivial rfl) ?_;refine Z ?_;intro I F N E s;refine Z ?_;refine Fv 3 ⟨λ_=>X6 .new ends,λ_=>.own⟩ zk hG zk zk zk zk ?_;refine Zs ?_;refine⟨OwnC.of zk (Zxba G ends zo),_,rfl,?_⟩;refine HandX.weak (Rp (lo:=1000) (B:=H) (l:=[(8,.ptr 108 s 0),(14,.func t [] cl),(16,X6 .new ends)]) (m:=[(108,.cells .new s 0 [.bool false])]) (by refine Zs ?_;exact⟨Zb,Zb,Zb⟩) ⟨zp,trivial⟩ zp) rfl (T7 hy s0 ends zp zm hd.1 ?_ (λH2 C a=>?_) zk (n:=3) rfl zp);refine Zs ?_;exact hR;have j:=a 108 zd;simp -implicitDefEqProofs only[go_sem,seval]at j;refine Zg j ?_
  show(_/\R (Yx L s0 [ends]).2 _)
  rw[PM.forkF,Qw];refine⟨.inl rfl,?_⟩;refine Zs ?_;exact C
 |cons o r ih=>
  intro ends q b c d e f g co H U hn;obtain⟨o0,o1⟩:=U o (List.mem_cons_self ..);obtain⟨n,y,rfl,hn',hgy,ey⟩:=m.wyAt o0 o1
  have etg:m.p.tg (n:Int)=y.target:=by rw[PM.tg,ey]<;>rfl
  refine Wz .marks 100 50 4 [.cell 8 4] Tryz.func142 λX t cl σ R dom L s0 hy hd hR _=>?_;refine AW.weak (Y7 (lo:=1000) (B:=H) (l:=[(0,Wl b c d e f g m x),(1,Za co 1 (V.int .i64) (.mk q ((n:Int)::r))),(2,X6 .new ends),(3,.func t [] cl)]) (m:=[]) ⟨rfl,rfl,rfl,rfl,trivial⟩ trivial rfl) ?_;have hq:Za co 1 (V.int .i64) (.mk q ((n:Int)::r))=.slice co q 1 (((n:Int)::r).map (V.int .i64)):=rfl
  have hne:((((n:Int)::r).length:Int)==0)=false:=by rw[List.length_cons];exact beq_false_of_ne zo
  refine Z ?_;intro I F N E s;refine Zf (zi hne hq) ?_;refine Zy ⟨λ_=>.top,λi=>if i=16 then .any else .pure⟩ zk hG zk zk ?_;simp -implicitDefEqProofs only[go_sem,seval,hgy,hn',Uz,Yg,@Int.natCast_nonneg,@Int.ofNat_lt];refine⟨rfl,λg33=>?_⟩;refine Wg 133 [Wl b c d e f g m x,.int .i64 (m.p.tg n),Za .new 1 (V.int .i64) (.mk false [(n:Int)])] ⟨Zb,by rw[etg];exact Zb,Xa (f:=V.int .i64) (l:=[(n:Int)]) (m:=1) (g:=g33) (fz:=0) (c:=.new) rfl zp (λ_=>rfl),trivial⟩ ?_;refine Si [Wl b c d e f g m x,.int .i64 (m.p.tg n),Za .new 1 (V.int .i64) (.mk false [(n:Int)])] ⟨Zb,Zb,Zb,trivial⟩ ?_;refine CallA.inl [(63,.dead),(64,.dead),(65,.dead)] zk ?_ ((Zda G b c d e f g m x _ (.mk false [(n:Int)])).mono ?_);intro p A;simp only[List.mem_cons,List.not_mem_nil,or_false]at A
  rcases A with rfl|rfl|rfl<;>rfl
  rintro w W ⟨w3,w4,w5,rfl,e3,e4,e5⟩;simp -implicitDefEqProofs only[go_sem,seval,Z5,e3,e4,e5];refine AW.block ?_;rw[PM.forkF]at hd⊢;rw[Lv]
  refine AW.weak (Y7 (lo:=1000) (B:=H) (l:=[(4,.ptr 104 I 0),(5,.ptr 105 F 0),(6,.ptr 106 N 0),(7,.ptr 107 E 0),(8,.ptr 108 s 0),(34,.func (.func 198) [] [.ptr 63 w3 0,.ptr 64 w4 0,.ptr 65 w5 0])])
   (m:=[(104,.cells .new I 0 [Wl b c d e f g m x]),(105,.cells .new F 0 [Za co 1 (V.int .i64) (.mk q ((n:Int)::r))]),(106,.cells .new N 0 [X6 .new ends]),(107,.cells .new E 0 [.func t [] cl]),(108,.cells .new s 0 [.bool false]),
    (63,.cells .new w3 0 [Wl b c d e f g m x]),(64,.cells .new w4 0 [.int .i64 (m.p.tg n)]),(65,.cells .new w5 0 [Za .new 1 (V.int .i64) (.mk false [(n:Int)])])]) ⟨rfl,rfl,rfl,rfl,rfl,rfl,trivial⟩ ⟨zr,zr,zr,zr,zr,zr,zr,zr,trivial⟩ zp) ?_
  refine AW.range 50 100 190 150 (fun(w : σ × Bool) (H:Heap)=>R w.1 (Z9 1000 H)/\H=Z5 (Z9 1000 H) [(104,.cells .new I 0 [Wl b c d e f g m x]),(105,.cells .new F 0 [Za co 1 (V.int .i64) (.mk q ((n:Int)::r))]),(106,.cells .new N 0 [X6 .new ends]),(107,.cells .new E 0 [.func t [] cl]),(108,.cells .new s 0 [.bool false])])
   (Cj L λw=>m.p.forkF r (ends++[(w.2,w.1)])) jB (λw k=>R6 dom L w.1 (m.p.forkF r (ends++[(k.2,k.1)]))/\k.1≠[]) (s0,true) rfl zk (by exact λ_ h=>nomatch h) (λp A=>?_) (λ_=>rfl) zd zd
   (λl r'=>Zqh G hG b c d e f g m x hx hw hr n o0 o1 w3 w4 w5 _ zp zp zp) (λ_ _ _=>trivial) rfl ?_ (Zmt (Ip hd) (P5 _ _ _ _ zS)) ?_ ?_
  simp only[List.mem_cons,List.not_mem_nil,or_false]at A
  rcases A with rfl|rfl
  exact(by decide:35<50);exact(by decide:36<50);refine⟨?_,?_⟩
  show R s0 _
  refine Zs ?_;exact hR;refine Zs ?_;exact Zkca rfl
  .rintro l Y ⟨s1,b1⟩ ⟨path,v⟩ Hk _ hrd J hjm ⟨rk,hB⟩
   obtain⟨J,u⟩:=J;simp only at J rk u;generalize Ya (Z9 100 Hk) 190 .dead=B at *;cases b1;cases hjm;generalize hM:Z9 1000 B=M at rk hB;subst hB
   have D:Z9 1000 M=M:=by simp -implicitDefEqProofs only[go_sem,seval]at hM;exact hM
   try clear hM
   refine Xr Zd8 ?_;refine Ua zk ?_;refine Zs ?_;refine AW.region zk ?_;refine Zs ?_;intro Zx hXZ _
   have hMd:∀ o,o<1000->M o=.dead:=λo U=>by rw[<- D,Xi U]
   have d195:=hMd 195 zd;have d196:=hMd 196 zd;refine AW.weak (Weak.tm (l:=[(4,.ptr 104 I 0),(5,.ptr 105 F 0),(6,.ptr 106 N 0),(7,.ptr 107 E 0),(8,.ptr 108 s 0),(9,Za .new 1 (V.int .i64) (.mk false path)),(10,.int .i64 v)]) ⟨rfl,rfl,rfl,rfl,rfl,rfl,rfl,trivial⟩) ?_;refine AW.block ?_
   repeat refine Z6 ?_
   refine Zcq 11 [0,1,2,3,4,5,6,7,8,10,9] [(122,.ptr 104 I 0,Wl b c d e f g m x),(29,.ptr 105 F 0,Za co 1 (V.int .i64) (.mk q ((n:Int)::r))),(212,.ptr 107 E 0,.func t [] cl)]
    ⟨λi=>if i=0 then Wl b c d e f g m x else if i=1 then Za co 1 (V.int .i64) (.mk q ((n:Int)::r))else if i=4 then Zsk .new ends else .func t [] cl,λi=>if i=0 then .keep else if i=1 then .keep else if i=10 then .keep else .own⟩ zk hG zk zk zk zk zk zk ?_
   have T:∀ W:Heap,W 104=.cells .new I 0 [Wl b c d e f g m x]->W 105=.cells .new F 0 [Za co 1 (V.int .i64) (.mk q ((n:Int)::r))]->W 107=.cells .new E 0 [.func t [] cl] ->
     KpH Tryz.prog [(122,.ptr 104 I 0,Wl b c d e f g m x),(29,.ptr 105 F 0,Za co 1 (V.int .i64) (.mk q ((n:Int)::r))),(212,.ptr 107 E 0,.func t [] cl)] W:=by
    intro W q4 q5 q7 p A;simp only[List.mem_cons,List.not_mem_nil,or_false]at A
    rcases A with rfl|rfl|rfl
    exact T9 q4;exact T9 (zi q5 hq);exact T9 q7
   have hsub:Za co 1 (V.int .i64) ((Sl.mk q ((n:Int)::r)).sub 1 (r.length+1))=Za co 1 (V.int .i64) (.mk q r):=by
    simp[Sl.sub]
   refine Zs ?_;refine⟨⟨zS,T _ zp zp zp⟩,⟨zS,T _ zp zp zp⟩,?_⟩;simp -implicitDefEqProofs only[go_sem,seval,hsub,Nat.le_refl,d195];refine⟨OwnC.of zk (Zh8 G _ ends zo),λg195=>?_⟩;refine⟨⟨zS,T _ zp zp zp⟩,?_⟩;refine Z48 (v,path) (by rw[U9,Ou u]<;>rfl) (Z4 zo zo) λg196=>?_;refine Zs ?_;refine⟨_,rfl,?_⟩
   have hlen:(ends++[(v,path)]).length=ends.length+1:=by rw[List.length_append]<;>rfl
   refine HandX.weak (Gp (lo:=1000) (B:=M) (λo=>o==196) (l:=[(8,.ptr 108 s 0),(37,Wl b c d e f g m x),(39,Za co 1 (V.int .i64) (.mk q r)),(46,X6 .new (ends++[(v,path)])),(47,.func t [] cl)])
    (m:=[(104,.cells .new I 0 [Wl b c d e f g m x]),(105,.cells .new F 0 [Za co 1 (V.int .i64) (.mk q ((n:Int)::r))]),(106,.cells .new N 0 [X6 .new ends]),(107,.cells .new E 0 [.func t [] cl]),(108,.cells .new s 0 [.bool false])])
    (λo U=>zO) (by refine Zs ?_;exact⟨Zb,Zb,Zb,by rw[Be (l:=ends++[(v,path)]) zS];exact Xa (f:=Vx .new) (fz:=0) (c:=.new) rfl zp (Zdd _),Zb⟩) (λp A=>by
     simp only[List.mem_cons,List.not_mem_nil,or_false]at A
     rcases A with rfl|rfl|rfl|rfl|rfl<;>rfl) ⟨zr,zr,zr,zr,zr,trivial⟩ zp) rfl ?_
   refine HandX.weak (Rp (lo:=1000) (B:=M) (l:=[(8,.ptr 108 s 0),(37,Wl b c d e f g m x),(39,Za co 1 (V.int .i64) (.mk q r)),(46,X6 .new (ends++[(v,path)])),(47,.func t [] cl)])
    (m:=[(104,.cells .new I 0 [Wl b c d e f g m x]),(105,.cells .new F 0 [Za co 1 (V.int .i64) (.mk q ((n:Int)::r))]),(106,.cells .new N 0 [X6 .new ends]),(107,.cells .new E 0 [.func t [] cl]),(108,.cells .new s 0 [.bool false])])
    (by refine Zs ?_;exact⟨Zb,Zb,Zb,Zb,Zb⟩) ⟨zr,zr,zr,zr,zr,trivial⟩ zp) rfl ?_
   refine I4 1000 (Nat.le_refl _) (ih (ends++[(v,path)]) q b c d e f g co _ (λt ht=>U t (List.mem_cons_of_mem _ ht)) (by rw[hlen];rw[List.length_cons]at hn;omega)) zk (λX' hle=>hy.at (hXZ.trans hle)) s1 rfl zm J ?_ (λH2 C a=>?_) zk (n:=11) rfl zp (λ_ _ _=>trivial);refine Zs ?_;rw[D];exact rk;have S:=a 104 zd;have Q:=a 105 zd;have P:=a 106 zd;have O:=a 107 zd;have j:=a 108 zd;simp -implicitDefEqProofs only[go_sem,seval]at S Q P O j;generalize hz:Yx L s1 (m.p.forkF r (ends++[(v,path)]))=z at C
   have enx:Cj L (λw=>m.p.forkF r (ends++[(w.2,w.1)])) (s1,true) (path,v)=(z.2,z.1):=by rw[<- hz]<;>rfl
   obtain⟨bb,s2⟩:=z;refine Zs ?_
   refine AW.weak (Y7 (lo:=1000) (B:=H2) (l:=[(8,.ptr 108 s 0),(49,.bool !bb)]) (m:=[(104,.cells .new I 0 [Wl b c d e f g m x]),(105,.cells .new F 0 [Za co 1 (V.int .i64) (.mk q ((n:Int)::r))]),(106,.cells .new N 0 [X6 .new ends]),(107,.cells .new E 0 [.func t [] cl]),(108,.cells .new s 0 [.bool false])])
    ⟨rfl,rfl,trivial⟩ ⟨S,Q,P,O,j,trivial⟩ rfl) ?_
   cases bb;refine Z ?_;refine AW.ret ?_;refine Zs ?_;rw[enx];refine⟨rfl,C,?_⟩;exact hpEqM2 rfl;refine Z ?_;rw[enx];exact⟨rfl,C,Zkca rfl⟩
  rintro H2 ⟨K,hH⟩ _ _;generalize(Yx (λw k=>((jB (Cj L (λw=>m.p.forkF r (ends++[(w.2,w.1)])) w k)).isNone,Cj L (λw=>m.p.forkF r (ends++[(w.2,w.1)])) w k)) (s0,true) (m.p.waysL (n:Int))).2=z at K⊢;generalize hM:Z9 1000 (Ya (Z9 100 H2) 190 .dead)=M at K hH
  have D:Z9 1000 M=M:=by rw[<- hM,Rh]
  obtain⟨s2,b2⟩:=z;cases b2;refine AW.weak (Weak.rng (l:=[(8,.ptr 108 s 0)]) hH ⟨rfl,trivial⟩) ?_;refine Z ?_;refine⟨.inl rfl,?_⟩;refine Zs ?_;rw[D];exact K;refine AW.weak (Weak.rng (l:=[(8,.ptr 108 s 0)]) hH ⟨rfl,trivial⟩) ?_;refine Z ?_;refine⟨.inl rfl,?_⟩;refine Zs ?_;rw[D];exact K
theorem Zhu{P:Program}{G:Nat->V}{X:Cx}{lo:Nat}{σ κ : Type}{f:FuncId}{a:List V}{enc : κ -> List V}{R : σ -> Heap->Prop}{b : σ -> κ -> Prop}{g : σ -> κ -> Bool × σ}{d:Func}{c:Code}(k:RK)(q n m:Nat)(t:List ResultVar)(y:P.funcs[f]?=some d)
  (h:∀ s κ' Y H,b s κ'->X.le Y->R s (Z9 lo H)->AW P ⟨Y,Z9 lo H,n,q,G,none,[],k⟩ c (T3 P t λv H'=>v=.bool (g s κ').1/\R (g s κ').2 (Z9 lo H')) ⟨Uy 0 (enc κ'++a),Z9 lo H⟩)
  (o:Z7 P f=true:=by kernel_rfl) (A:d.body=some c:=by rfl) (x:d.ntmps=n:=by rfl) (w:d.results.toList=t:=by rfl) (E:∀ v,(enc v++a).length=m:=by exact λ_=>rfl) (i:Nat.ble m n=true:=by rfl) (l:k=.plain\/k=.marks:=by first|exact .inl rfl|exact .inr rfl):Yd P G X lo (.func f) a enc R b g:=by
 subst x w;refine⟨λ_ h=>(by cases h),λs κ' Y H r z j C B D p=>⟨o,?_⟩⟩;refine(Od l (λ_=>rfl) q y A (by rw[E];exact i) C D p (h s κ' Y H z j B)).mono ?_;rintro e w' ⟨c,v,H',L,⟨rfl,I,F⟩|⟨k,l,_⟩,K,J,u⟩;rw[I]at u;cases u;exact⟨L,H',rfl,K,J,F⟩;cases l
def U7(s:StP):V:=.agg [Za .new 1 (V.int .i64) (Zd s.sources),.int .i64 s.first,Za .new 1 (V.int .i64) (Zd s.guards),Za .new 1 (V.int .i64) (Zd s.effects),X6 .new s.ends,.nils]
theorem Zik(s:StP):U7 s=.agg [Za .new 1 (V.int .i64) (Zd s.sources),.int .i64 s.first,Za .new 1 (V.int .i64) (Zd s.guards),Za .new 1 (V.int .i64) (Zd s.effects),X6 .new s.ends,.nils]:=rfl
def StP.fork(s:StP)(es:List (Int×List Int)):StP:=⟨s.sources,s.first,s.guards++es.flatMap (·.2),s.effects,es⟩
@[go_sem] theorem mask_1020(H:Heap):Z9 1000 (Z9 2000 H)=Z9 2000 H:=K3 H zd
@[go_sem] theorem mask_2010(H:Heap):Z9 2000 (Z9 1000 H)=Z9 2000 H:=On H zd
theorem Zb5(G:Nat->V)(hG:Y6 G){X:Cx}{t:Fn}{cl:List V}{σ : Type}{R : σ -> Heap->Prop}{u : σ -> StP->Prop}{J : σ -> StP->Bool × σ}(hy:Yd Tryz.prog G X 2000 t cl (λs:StP=>[U7 s]) R u J)(b:StP)(O:b.guards≠[])(I F E D C j r:Nat)(z y x w v:V):
  Yd Tryz.prog G X 1000 (.func 143) [.ptr 1209 r 0,.ptr 1106 j 0] (λes=>[X6 .new es]) (λs H=>R s (Z9 2000 H)/\H=Z5 (Z9 2000 H) [(1004,.cells .new I 0 [z]),(1005,.cells .new F 0 [y]),(1006,.cells .new E 0 [x]),(1007,.cells .new D 0 [w]),(1009,.cells .new C 0 [v]),(1106,.cells .new j 0 [.func t [] cl]),(1209,.cells .new r 0 [Za .new 1 (V.int .i64) (Zd b.sources),.int .i64 b.first,Za .new 1 (V.int .i64) (Zd b.guards),Za .new 1 (V.int .i64) (Zd b.effects),.nils,.nils])])
   (λs es=>u s (b.fork es)/\(b.guards++es.flatMap (·.2)).length<390000/\es.length<100000) (λs es=>J s (b.fork es)):=by
 refine Zhu .plain 1300 27 3 [.tmp 4] Tryz.func143 λs es Y H ⟨hd,N,hle⟩ P ⟨hR,hH⟩=>?_;generalize Z9 1000 H=B at *;generalize T:Z9 2000 B=M at hR hH;subst hH
 have S:Z9 2000 M=M:=by simp -implicitDefEqProofs only[go_sem,seval]at T;exact T
 clear T;refine Z ?_;intro c;have U:X6 .new es=Za .new 2 (Vx .new) (Zd es):=rfl;rw[U]at *;refine Zf (Zm es) ?_
 refine Yc es.length (λk (_:Unit)=>Hs.stM 2000 M [(2,.ptr 1106 j 0),(5,.ptr 1305 c 0),(11,Za .new 2 (Vx .new) (Zd es)),(12,.int .i64 es.length),(13,.int .i64 k)]
   ((1305,.cells .new c 0 [Za .new 1 (V.int .i64) (Zd b.sources),.int .i64 b.first,Za .new 1 (V.int .i64) (Zd (b.guards++(es.take k).flatMap (·.2))),Za .new 1 (V.int .i64) (Zd b.effects),Za .new 2 (Vx .new) (Zd es),.nils])::[(1004,.cells .new I 0 [z]),(1005,.cells .new F 0 [y]),(1006,.cells .new E 0 [x]),(1007,.cells .new D 0 [w]),(1009,.cells .new C 0 [v]),(1106,.cells .new j 0 [.func t [] cl]),(1209,.cells .new r 0 [Za .new 1 (V.int .i64) (Zd b.sources),.int .i64 b.first,Za .new 1 (V.int .i64) (Zd b.guards),Za .new 1 (V.int .i64) (Zd b.effects),.nils,.nils])]))
  (λ_ _=>True) 0 () (Nat.zero_le _) trivial (Y7 ⟨rfl,rfl,zp,zp,zp,trivial⟩ ⟨by simp -implicitDefEqProofs only[go_sem,seval,List.flatMap_nil],zp,zp,zp,zp,zp,zp,zp,trivial⟩ zp) ?_
 intro k _ hk _ L hL
 have p:∀ n,(b.guards++(es.take n).flatMap (·.2)).length<390000:=λn=>by
  refine Nat.lt_of_le_of_lt ?_ N
  conv=>rhs;rw[<- List.take_append_drop n es,List.flatMap_append]
  simp only[List.length_append];omega
 have o:∀ n,b.guards++(es.take n).flatMap (·.2)≠[]:=λn h=>O (List.append_eq_nil_iff.1 h).1
 by_cases f:k<es.length
 have d:decide ((k:Int)<(es.length:Int))=true:=zT;have A:=List.getElem?_eq_getElem f
 have g:(es.take (k+1)).flatMap (·.2)=(es.take k).flatMap (·.2)++es[k].2:=by
  rw[List.take_add_one,A,List.flatMap_append];simp
 have i:=p (k+1);rw[g]at i;generalize es[k]=e at A g i;have w1:IntKind.i64.wrap ((k:Int)+1)=(k:Int)+1:=Wy zo zo
 have hg2:(Zd es).l[k]?=some e:=by rw[Zm];exact A
 have hk2:k<(Zd es).l.length:=by rw[Zm];exact f
 refine Zf (zi d (zi A (zi f (zi (Zm es) (zi U9 Yh))))) ?_;intro g7';refine Z ?_
 have W:(b.guards++(es.take k).flatMap (·.2)).length+e.2.length<390000:=by
  have:=i;simp only[List.length_append]at this⊢;omega
 have K:Za .new 1 (V.int .i64) (.mk false (b.guards++(es.take k).flatMap (·.2)++e.2))=Za .new 1 (V.int .i64) (Zd (b.guards++(es.take (k+1)).flatMap (·.2))):=by
  rw[g,<- List.append_assoc,Ou (l:=b.guards++(es.take k).flatMap (·.2)++e.2) (by
   intro h
   exact o k (List.append_eq_nil_iff.1 h).1)]
 refine Zc hG ?_ (s:=Ha G hG _ _ _ _ (by rw[Zm];omega) (by rw[Zm];omega) (by
  rw[Zm,Zm];have:=List.length_pos_iff.2 (o k)
  omega))
 refine Zf (zi w1 K) ?_;refine hL _ ⟨f,(),trivial,Y7 ⟨rfl,rfl,zp,zp,zp,trivial⟩ ⟨zp,zp,zp,zp,zp,zp,zp,zp,trivial⟩ zp⟩;have q:k=es.length:=zo;have d:decide ((k:Int)<(es.length:Int))=false:=zF;rw[q,List.take_length];rw[q]at d;refine Zs ?_;refine Ua zk ?_;refine Xr d ?_;refine Z6 ?_;refine Ve rfl ?_;refine AW.exit ?_;refine Zs ?_;refine Z6 (Wh [2] zk (by rfl) ?_);simp -implicitDefEqProofs only[go_sem,seval,Mf];refine⟨_,rfl,?_⟩
 refine HandX.weak (Rp (lo:=2000) (B:=M) (l:=[(24,.func t [] cl),(25,U7 (b.fork es))]) (m:=[(1004,.cells .new I 0 [z]),(1005,.cells .new F 0 [y]),(1006,.cells .new E 0 [x]),(1007,.cells .new D 0 [w]),(1009,.cells .new C 0 [v]),(1106,.cells .new j 0 [.func t [] cl]),(1209,.cells .new r 0 [Za .new 1 (V.int .i64) (Zd b.sources),.int .i64 b.first,Za .new 1 (V.int .i64) (Zd b.guards),Za .new 1 (V.int .i64) (Zd b.effects),.nils,.nils])])
  (by
   simp -implicitDefEqProofs only[go_sem,seval]
   exact⟨Zb,Zb⟩) ⟨zp,zp,zp,zp,zp,zp,zp,trivial⟩ zp) rfl (T7 (hy.at P) s (b.fork es) rfl zm hd ?_ (λH2 Q a=>?_) zk (n:=2) rfl zp)
 simp -implicitDefEqProofs only[go_sem,seval];rw[S];exact hR;have e1:=a 1004 zd;have e2:=a 1005 zd;have e3:=a 1006 zd;have e4:=a 1007 zd;have e5:=a 1009 zd;have e6:=a 1106 zd;have e7:=a 1209 zd;simp -implicitDefEqProofs only[go_sem,seval]at e1 e2 e3 e4 e5 e6 e7;refine Zs ?_;refine AW.weak (Y7 (lo:=2000) (B:=H2) (l:=[(4,.bool (J s (b.fork es)).1)]) (m:=[(1004,.cells .new I 0 [z]),(1005,.cells .new F 0 [y]),(1006,.cells .new E 0 [x]),(1007,.cells .new D 0 [w]),(1009,.cells .new C 0 [v]),(1106,.cells .new j 0 [.func t [] cl]),(1209,.cells .new r 0 [Za .new 1 (V.int .i64) (Zd b.sources),.int .i64 b.first,Za .new 1 (V.int .i64) (Zd b.guards),Za .new 1 (V.int .i64) (Zd b.effects),.nils,.nils])]) ⟨rfl,trivial⟩ ⟨e1,e2,e3,e4,e5,e6,e7,trivial⟩ rfl) ?_;refine Z ?_;refine⟨rfl,?_,?_⟩;simp -implicitDefEqProofs only[go_sem,seval];exact Q;simp -implicitDefEqProofs only[go_sem,seval]
theorem Z5j(m:PM)(a:List Int)(first:Int)(b:List Int)(w:List Int×Int)(h:w.2 ≠ -1/\m.allP w.2=true):m.strW a first b w=(m.forkF (m.outI w.2) []).map (StP.fork ⟨a,first,w.1,b++w.1,[]⟩):=by
 rw[PM.strW,if_pos h]<;>rfl
theorem Es(m:PM)(a:List Int)(first:Int)(b:List Int)(w:List Int×Int)(h:¬(w.2 ≠ -1/\m.allP w.2=true)):m.strW a first b w=[⟨a,first,w.1,b++w.1,[(w.2,[])]⟩]:=by
 rw[PM.strW,if_neg h]
theorem Z3a{σ κ b:Type}(a : σ -> b->Bool × σ)(f : κ -> b):∀ (xs:List κ) (s : σ),Yx a s (xs.map f)=Yx (λs k=>a s (f k)) s xs
 |[],_=>rfl
 |k::r,s=>by
  rw[List.map_cons,Yx,Yx]
  split
  exact Z3a a f r _;rfl
theorem Zmk{σ κ b:Type}{a : σ -> b->Prop}{c : σ -> b->Bool × σ}{f : κ -> b}{Q : κ -> Prop}:∀ {xs:List κ} {s : σ},R6 a c s (xs.map f)->(∀ k∈xs,Q k)->R6 (λs k=>a s (f k)/\Q k) (λs k=>c s (f k)) s xs
 |[],_,_,_=>trivial
 |k::r,s,h,hq=>⟨⟨h.1,hq k (List.mem_cons_self ..)⟩,λz=>Zmk (h.2 z) λk' d=>hq k' (List.mem_cons_of_mem _ d)⟩
theorem C2(G:Nat->V)(e:Y6 G)(b c d:Col)(x:IxM)(m:PM)(f:IxP m x)(g:m.ways.length<1000000)(n:Nat)(p:PlM)(a:x.places.l[n]?=some p)(k:(n:Int)<m.vertices.length):
  Spec Tryz.prog G 55 [Uj b c d x,.int .i64 n] Zj (λw _=>w=Za .new 1 (V.int .i64) p.out.co):=by
 refine Zo 0 18 [.tmp 4] Tryz.func55 λX=>?_;have i:n<x.places.l.length:=(List.getElem?_eq_some_iff.1 a).1
 have j:(decide ((0:Int)<=(n:Int))&&decide ((n:Int)<x.places.l.length))=true:=by rw[Bool.and_eq_true];exact⟨zT,zT⟩
 refine Z ?_;refine Zc e ?_ (s:=Wm G _ _ _ _ _);refine Zg (zi j (zi a (zi i (zi Vj (zi V0 Yh))))) ?_
 have h:p.out.l.length<1000000:=by rw[f.out n p a,PM.outI];exact Nat.lt_of_le_of_lt (PM.wysI_len _ _ _) g
 refine Zc e ?_ (s:=O1 G _ _ h);exact Zr
@[go_sem] theorem mask_1002(H:Heap):Z9 100 (Z9 2000 H)=Z9 2000 H:=K3 H zd
@[go_sem] theorem mask_2001(H:Heap):Z9 2000 (Z9 100 H)=Z9 2000 H:=On H zd
theorem C3{lo:Nat}{H:Heap}{a b c d e f:AObj}(h:lo=2000):Ya (Ya (Ya (Ya (Ya (Ya (Ya (Z9 lo H) 1106 f) 1009 e) 1007 d) 1006 c) 1005 b) 1004 a) 1190 .dead=Ya (Ya (Ya (Ya (Ya (Ya (Z9 lo H) 1106 f) 1009 e) 1007 d) 1006 c) 1005 b) 1004 a:=by
 subst h
 funext o
 by_cases q:o=1190
 subst q;simp[Ya,Xi];rw[Zp _ _ q]
theorem Zjh{F:Nat->Bool}{H:Heap}{xs a:List V}(h:FzL F H xs a):Fz F H (.agg xs) (.agg a):=.agg xs a h.get.1.symm h.get.2
theorem Z0a(l:List Int):(Zd l).co=Zd l:=by cases l<;>rfl
theorem Zlx(G:Nat->V)(hG:Y6 G)(b c d e f g P O:Col)(m:MdM)(x:IxM)(hx:IxP m.p x)(hw:m.p.ways.length<=600)(hr:∀ t:Int,0<=t->t<m.p.ways.length->0<=m.p.tg t/\m.p.tg t<m.p.vertices.length)
  (S:m.p.Wfd) (a j:List Int) (hsn:a≠[]) (hsl:a.length<1000) (hil:j.length<1000) (first t:Int) (t0:0<=t) (t1:t<m.p.ways.length) (J I F K E:Nat) (H:Heap) (q4:H 1004=.cells .new J 0 [Wl b c d e f g m x]) (q5:H 1005=.cells .new I 0 [Za P 1 (V.int .i64) (Zd a)]) (q6:H 1006=.cells .new F 0 [Za O 1 (V.int .i64) (Zd j)]) (q7:H 1007=.cells .new K 0 [.int .i64 t]) (q9:H 1009=.cells .new E 0 [.int .i64 first]):
  Eh Tryz.prog G 2000 138 [.ptr 1004 J 0,.ptr 1007 K 0,.ptr 1005 I 0,.ptr 1009 E 0,.ptr 1006 F 0] H (λs:StP=>[U7 s]) ((m.p.waysL t).flatMap (m.p.strW a first j)):=by
 refine Wz .marks 1100 59 6 [] Tryz.func138 λX ty cl σ R dom C s0 hy hd hR _=>?_;obtain⟨n,y,rfl,hn',hgy,ey⟩:=m.wyAt t0 t1
 have etg:m.p.tg (n:Int)=y.target:=by rw[PM.tg,ey]<;>rfl
 refine AW.weak (Y7 (lo:=2000) (B:=H) (l:=[(0,.func ty [] cl),(1,.ptr 1004 J 0),(2,.ptr 1007 K 0),(3,.ptr 1005 I 0),(4,.ptr 1009 E 0),(5,.ptr 1006 F 0)]) (m:=[(1004,.cells .new J 0 [Wl b c d e f g m x]),(1005,.cells .new I 0 [Za P 1 (V.int .i64) (Zd a)]),(1006,.cells .new F 0 [Za O 1 (V.int .i64) (Zd j)]),(1007,.cells .new K 0 [.int .i64 n]),(1009,.cells .new E 0 [.int .i64 first])]) ⟨rfl,rfl,rfl,rfl,rfl,rfl,trivial⟩ ⟨q4,q5,q6,q7,q9,trivial⟩ rfl) ?_;refine Z ?_;intro r;refine Z ?_;refine Zy ⟨λ_=>.top,λi=>if i=12 then .any else .pure⟩ zk hG zk zk ?_;simp -implicitDefEqProofs only[go_sem,seval,hgy,hn',Uz,Yg,@Int.natCast_nonneg,@Int.ofNat_lt];refine⟨by rw[Xi zd],λg22=>?_⟩;refine Wg 1122 [Wl b c d e f g m x,.int .i64 (m.p.tg n),Za .new 1 (V.int .i64) (.mk false [(n:Int)])] ⟨Zb,by rw[etg];exact Zb,Xa (f:=V.int .i64) (l:=[(n:Int)]) (m:=1) (g:=g22) (fz:=0) (c:=.new) rfl zp (λ_=>rfl),trivial⟩ ?_;refine Si [Wl b c d e f g m x,.int .i64 (m.p.tg n),Za .new 1 (V.int .i64) (.mk false [(n:Int)])] ⟨Zb,Zb,Zb,trivial⟩ ?_;refine CallA.inl [(63,.dead),(64,.dead),(65,.dead)] zk ?_ ((Zda G b c d e f g m x _ (.mk false [(n:Int)])).mono ?_);intro p T;simp only[List.mem_cons,List.not_mem_nil,or_false]at T
 rcases T with rfl|rfl|rfl
 refine Zs ?_;exact Xi zd;refine Zs ?_;exact Xi zd;refine Zs ?_;exact Xi zd;rintro w H' ⟨w3,w4,w5,rfl,e3,e4,e5⟩;simp -implicitDefEqProofs only[go_sem,seval,Z5,e3,e4,e5];refine AW.block ?_;rw[Lv]
 refine AW.weak (Y7 (lo:=2000) (B:=H) (l:=[(1,.ptr 1004 J 0),(3,.ptr 1005 I 0),(4,.ptr 1009 E 0),(5,.ptr 1006 F 0),(6,.ptr 1106 r 0),(23,.func (.func 198) [] [.ptr 63 w3 0,.ptr 64 w4 0,.ptr 65 w5 0])])
  (m:=(63,.cells .new w3 0 [Wl b c d e f g m x])::(64,.cells .new w4 0 [.int .i64 (m.p.tg n)])::(65,.cells .new w5 0 [Za .new 1 (V.int .i64) (.mk false [(n:Int)])])::[(1004,.cells .new J 0 [Wl b c d e f g m x]),(1005,.cells .new I 0 [Za P 1 (V.int .i64) (Zd a)]),(1006,.cells .new F 0 [Za O 1 (V.int .i64) (Zd j)]),(1007,.cells .new K 0 [.int .i64 n]),(1009,.cells .new E 0 [.int .i64 first]),(1106,.cells .new r 0 [.func ty [] cl])]) ⟨rfl,rfl,rfl,rfl,rfl,rfl,trivial⟩ ⟨zr,zr,zr,zr,zr,zr,zr,zr,zr,trivial⟩ zp) ?_
 refine AW.range 50 100 1190 1200 (fun(w : σ × Bool) (H:Heap)=>R w.1 (Z9 2000 H)/\H=Z5 (Z9 2000 H) [(1004,.cells .new J 0 [Wl b c d e f g m x]),(1005,.cells .new I 0 [Za P 1 (V.int .i64) (Zd a)]),(1006,.cells .new F 0 [Za O 1 (V.int .i64) (Zd j)]),(1007,.cells .new K 0 [.int .i64 n]),(1009,.cells .new E 0 [.int .i64 first]),(1106,.cells .new r 0 [.func ty [] cl])])
  (Cj C (m.p.strW a first j)) jB (λw k=>R6 dom C w.1 (m.p.strW a first j k)/\k∈m.p.waysL n) (s0,true) rfl zk (by exact λ_ h=>nomatch h) (λp T=>?_) (λ_=>rfl) zd zd
  (λl r'=>Zqh G hG b c d e f g m x hx zo hr n t0 t1 w3 w4 w5 _ zp zp zp) (λ_ _ _=>trivial) rfl ?_ (Zmt (Ip hd) λ_ h=>h) ?_ ?_
 simp only[List.mem_cons,List.not_mem_nil,or_false]at T
 rcases T with rfl|rfl
 exact(by decide:24<59);exact(by decide:25<59);refine⟨?_,?_⟩
 show R s0 _
 refine Zs ?_;exact hR;refine Zs ?_;exact C3 rfl
 .rintro l Y ⟨s',b1⟩ ⟨path,v⟩ Hk _ hrd ⟨hdk,hmem⟩ hjm ⟨rk,hB⟩
  simp only at hdk rk;generalize Ya (Z9 100 Hk) 1190 .dead=B at *;cases b1;cases hjm;generalize hM:Z9 2000 B=M at rk hB;subst hB
  have Q:Z9 2000 M=M:=by simp -implicitDefEqProofs only[go_sem,seval]at hM;exact hM
  try clear hM
  have hMd:∀ o,o<2000->M o=.dead:=λo ho=>by rw[<- Q,Xi ho]
  refine Xr Zd8 ?_;refine Ua zk ?_;refine Zs ?_;refine AW.region zk ?_;refine Zs ?_;intro Zx hXZ _;refine AW.weak (Weak.tm (l:=[(1,.ptr 1004 J 0),(3,.ptr 1005 I 0),(4,.ptr 1009 E 0),(5,.ptr 1006 F 0),(6,.ptr 1106 r 0),(7,Za .new 1 (V.int .i64) (.mk false path)),(8,.int .i64 v)]) ⟨rfl,rfl,rfl,rfl,rfl,rfl,rfl,trivial⟩) ?_;refine AW.block ?_
  repeat refine Z6 ?_
  have wf:=m.p.waysL_ok S t0 t1 _ hmem;have hpl:path.length<=601:=Nat.le_trans wf.len zo;have hpn:path≠[]:=P5 _ _ _ _ zS _ hmem;have d1209:=hMd 1209 zd;refine Zy ⟨λi=>if i=1 then Za .new 1 (V.int .i64) (Zd a)else Za .new 1 (V.int .i64) (.mk false (j++path)),λ_=>.pure⟩ zk hG zk zk ?_;refine Xr d1209 ?_;refine⟨⟨zk,?_⟩,⟨zk,?_⟩,λN=>?_⟩;simp -implicitDefEqProofs only[go_sem,seval]
  exact(O1 G _ _ (by rw[Zm];omega)).mono λv _ e=>by rw[e,Z0a];simp -implicitDefEqProofs only[go_sem,seval]
  simp -implicitDefEqProofs only[go_sem,seval]
  exact(Ha G hG _ _ _ _ (by rw[Zm];omega) (by show path.length<_;omega) (by
   have:=List.length_pos_iff.2 hpn
   show _+path.length≠0
   omega)).mono λv _ e=>by rw[e,Zm];simp -implicitDefEqProofs only[go_sem,seval]
  have hip:j++path≠[]:=λh=>hpn (List.append_eq_nil_iff.1 h).2;rw[<- Ou hip,<- Ou hpn]
  by_cases hv:v = -1
  have hv1:(v != -1)=false:=by rw[hv]<;>rfl
  rw[Es _ _ _ _ _ (λh=>h.1 hv)]at hdk;refine Zf hv1 ?_;intro L
  have A:Cj C (m.p.strW a first j) (s',true) (path,v)=((C s' ⟨a,first,path,j++path,[(v,[])]⟩).2,(C s' ⟨a,first,path,j++path,[(v,[])]⟩).1):=by
   show((Yx C s' _).2,(Yx C s' _).1)=_
   rw[Es _ _ _ _ _ (λh=>h.1 hv),Qw]
  refine Wh [2] zk (by rfl) ?_;simp -implicitDefEqProofs only[go_sem,seval,Mf];refine⟨_,rfl,?_⟩
  refine HandX.weak (Gp (lo:=2000) (B:=M) (λo=>o==1252) (l:=[(54,.func ty [] cl),(55,.agg [Za .new 1 (V.int .i64) (Zd a),.int .i64 first,Za .new 1 (V.int .i64) (Zd path),Za .new 1 (V.int .i64) (Zd (j++path)),X6 .new [(v,[])],.nils])]) (m:=[(1004,.cells .new J 0 [Wl b c d e f g m x]),(1005,.cells .new I 0 [Za P 1 (V.int .i64) (Zd a)]),(1006,.cells .new F 0 [Za O 1 (V.int .i64) (Zd j)]),(1007,.cells .new K 0 [.int .i64 n]),(1009,.cells .new E 0 [.int .i64 first]),(1106,.cells .new r 0 [.func ty [] cl])])
   (λo ho=>zO) (by
    refine Zs ?_
    exact⟨Zb,Zjh ⟨Zb,Zb,Zb,Zb,Xa (f:=Vx .new) (l:=[(v,[])]) (m:=2) (g:=L) (fz:=0) (c:=.new) rfl zp (Zdd _),Zb,trivial⟩⟩) (λp T=>by
     simp only[List.mem_cons,List.not_mem_nil,or_false]at T
     rcases T with rfl|rfl|rfl|rfl|rfl|rfl<;>rfl) ⟨zp,zp,zp,zp,zp,zp,trivial⟩ zp) rfl ?_
  refine HandX.weak (Rp (lo:=2000) (B:=M) (l:=[(54,.func ty [] cl),(55,U7 ⟨a,first,path,j++path,[(v,[])]⟩)]) (m:=[(1004,.cells .new J 0 [Wl b c d e f g m x]),(1005,.cells .new I 0 [Za P 1 (V.int .i64) (Zd a)]),(1006,.cells .new F 0 [Za O 1 (V.int .i64) (Zd j)]),(1007,.cells .new K 0 [.int .i64 n]),(1009,.cells .new E 0 [.int .i64 first]),(1106,.cells .new r 0 [.func ty [] cl])])
   (by
    refine Zs ?_
    exact⟨Zb,Zb⟩) ⟨zp,zp,zp,zp,zp,zp,trivial⟩ zp) rfl (T7 (hy.at hXZ) s' ⟨a,first,path,j++path,[(v,[])]⟩ rfl zm hdk.1 ?_ (λW D u=>?_) zk (n:=2) rfl zp)
  refine Zs ?_;rw[Q];exact rk;have e1:=u 1004 zd;have e2:=u 1005 zd;have e3:=u 1006 zd;have e4:=u 1007 zd;have e5:=u 1009 zd;have e6:=u 1106 zd;simp -implicitDefEqProofs only[go_sem,seval]at e1 e2 e3 e4 e5 e6;generalize C s' ⟨a,first,path,j++path,[(v,[])]⟩=z at D A⊢;obtain⟨bb,s3⟩:=z;refine Zs ?_;refine AW.weak (Y7 (lo:=2000) (B:=W) (l:=[(10,.bool bb)]) (m:=[(1004,.cells .new J 0 [Wl b c d e f g m x]),(1005,.cells .new I 0 [Za P 1 (V.int .i64) (Zd a)]),(1006,.cells .new F 0 [Za O 1 (V.int .i64) (Zd j)]),(1007,.cells .new K 0 [.int .i64 n]),(1009,.cells .new E 0 [.int .i64 first]),(1106,.cells .new r 0 [.func ty [] cl])]) ⟨rfl,trivial⟩ ⟨e1,e2,e3,e4,e5,e6,trivial⟩ rfl) ?_;cases bb;refine Z ?_;refine AW.ret ?_;refine Zs ?_;rw[A];exact⟨rfl,D,C3 rfl⟩;refine Z ?_;rw[A];exact⟨rfl,D,C3 rfl⟩
  have hv1:(v != -1)=true:=by simp[bne,hv]
  obtain⟨v0,v1⟩:0<=v/\v<m.p.vertices.length:=by
   rcases wf.fo with h|h
   exact absurd h hv;exact h.1
  refine Zf hv1 ?_;refine Zc hG ?_ (s:=Ztr G hG _ _ _ _ _ _ m _ (hx.rc _) zo v v0 v1);cases q:m.p.allP v
  have hnf:¬(v ≠ -1/\m.p.allP v=true):=λh=>by rw[q]at h;cases h.2
  rw[Es _ _ _ _ _ hnf]at hdk;refine Zf q ?_;intro L
  have A:Cj C (m.p.strW a first j) (s',true) (path,v)=((C s' ⟨a,first,path,j++path,[(v,[])]⟩).2,(C s' ⟨a,first,path,j++path,[(v,[])]⟩).1):=by
   show((Yx C s' _).2,(Yx C s' _).1)=_
   rw[Es _ _ _ _ _ hnf,Qw]
  refine Wh [2] zk (by rfl) ?_;simp -implicitDefEqProofs only[go_sem,seval,Mf];refine⟨_,rfl,?_⟩
  refine HandX.weak (Gp (lo:=2000) (B:=M) (λo=>o==1252) (l:=[(54,.func ty [] cl),(55,.agg [Za .new 1 (V.int .i64) (Zd a),.int .i64 first,Za .new 1 (V.int .i64) (Zd path),Za .new 1 (V.int .i64) (Zd (j++path)),X6 .new [(v,[])],.nils])]) (m:=[(1004,.cells .new J 0 [Wl b c d e f g m x]),(1005,.cells .new I 0 [Za P 1 (V.int .i64) (Zd a)]),(1006,.cells .new F 0 [Za O 1 (V.int .i64) (Zd j)]),(1007,.cells .new K 0 [.int .i64 n]),(1009,.cells .new E 0 [.int .i64 first]),(1106,.cells .new r 0 [.func ty [] cl])])
   (λo ho=>zO) (by
    refine Zs ?_
    exact⟨Zb,Zjh ⟨Zb,Zb,Zb,Zb,Xa (f:=Vx .new) (l:=[(v,[])]) (m:=2) (g:=L) (fz:=0) (c:=.new) rfl zp (Zdd _),Zb,trivial⟩⟩) (λp T=>by
     simp only[List.mem_cons,List.not_mem_nil,or_false]at T
     rcases T with rfl|rfl|rfl|rfl|rfl|rfl<;>rfl) ⟨zp,zp,zp,zp,zp,zp,trivial⟩ zp) rfl ?_
  refine HandX.weak (Rp (lo:=2000) (B:=M) (l:=[(54,.func ty [] cl),(55,U7 ⟨a,first,path,j++path,[(v,[])]⟩)]) (m:=[(1004,.cells .new J 0 [Wl b c d e f g m x]),(1005,.cells .new I 0 [Za P 1 (V.int .i64) (Zd a)]),(1006,.cells .new F 0 [Za O 1 (V.int .i64) (Zd j)]),(1007,.cells .new K 0 [.int .i64 n]),(1009,.cells .new E 0 [.int .i64 first]),(1106,.cells .new r 0 [.func ty [] cl])])
   (by
    refine Zs ?_
    exact⟨Zb,Zb⟩) ⟨zp,zp,zp,zp,zp,zp,trivial⟩ zp) rfl (T7 (hy.at hXZ) s' ⟨a,first,path,j++path,[(v,[])]⟩ rfl zm hdk.1 ?_ (λW D u=>?_) zk (n:=2) rfl zp)
  refine Zs ?_;rw[Q];exact rk;have e1:=u 1004 zd;have e2:=u 1005 zd;have e3:=u 1006 zd;have e4:=u 1007 zd;have e5:=u 1009 zd;have e6:=u 1106 zd;simp -implicitDefEqProofs only[go_sem,seval]at e1 e2 e3 e4 e5 e6;generalize C s' ⟨a,first,path,j++path,[(v,[])]⟩=z at D A⊢;obtain⟨bb,s3⟩:=z;refine Zs ?_;refine AW.weak (Y7 (lo:=2000) (B:=W) (l:=[(10,.bool bb)]) (m:=[(1004,.cells .new J 0 [Wl b c d e f g m x]),(1005,.cells .new I 0 [Za P 1 (V.int .i64) (Zd a)]),(1006,.cells .new F 0 [Za O 1 (V.int .i64) (Zd j)]),(1007,.cells .new K 0 [.int .i64 n]),(1009,.cells .new E 0 [.int .i64 first]),(1106,.cells .new r 0 [.func ty [] cl])]) ⟨rfl,trivial⟩ ⟨e1,e2,e3,e4,e5,e6,trivial⟩ rfl) ?_;cases bb;refine Z ?_;refine AW.ret ?_;refine Zs ?_;rw[A];exact⟨rfl,D,C3 rfl⟩;refine Z ?_;rw[A];exact⟨rfl,D,C3 rfl⟩;have hf:v ≠ -1/\m.p.allP v=true:=⟨hv,q⟩;rw[Z5j _ _ _ _ _ hf]at hdk
  have houts:m.p.outI v≠[]:=by
   intro h0;unfold PM.allP at q;rw[Bool.or_eq_true,Bool.and_eq_true,h0]at q
   rcases q with q|⟨_,q⟩
   have:=S.fork v v0 v1 (zu q);rw[h0]at this;cases this;simp at q
  obtain⟨nv,pv,ev,hkv,hgv,_,_,_,_,hov,_⟩:=hx.at v0 v1
  have hco:pv.out.co=.mk false (m.p.outI v):=by
   cases h:pv.out with
   |nil=>rw[h]at hov;exact absurd hov.symm houts
   |mk b l=>rw[h]at hov;rw[<- hov]<;>rfl
  have hlo:(m.p.outI v).length<=512:=Nat.le_trans (PM.wysI_len _ _ _) S.lw
  let b0:StP:=⟨a,first,path,j++path,[]⟩
  refine Xr q ?_;refine T8 rfl ?_;refine Fv 8 ⟨λ_=>Za .new 1 (V.int .i64) (.mk false (m.p.outI v)),λ_=>.pure⟩ zk hG zk zk zk zk ?_;refine Xr @Uz ?_;refine⟨⟨zk,?_⟩,_,rfl,?_⟩;simp -implicitDefEqProofs only[go_sem,seval];have:=C2 G hG e.ent f.ent g.ent (x.rc Col.ent) m.p (hx.rc _) zo nv pv hgv (by rw[<- ev];exact v1);rw[<- ev,hco]at this
  exact this.mono λv _ e=>by rw[e];simp -implicitDefEqProofs only[go_sem,seval]
  have A:Cj C (m.p.strW a first j) (s',true) (path,v)=((Yx (λs es=>C s (b0.fork es)) s' (m.p.forkF (m.p.outI v) [])).2,(Yx (λs es=>C s (b0.fork es)) s' (m.p.forkF (m.p.outI v) [])).1):=by
   show((Yx C s' _).2,(Yx C s' _).1)=_
   rw[Z5j _ _ _ _ _ hf,Z3a]
  refine HandX.weak (Rp (lo:=2000) (B:=M) (l:=[(41,Wl b c d e f g m x),(47,Za .new 1 (V.int .i64) (.mk false (m.p.outI v))),(48,.func (.func 143) [] [.ptr 1209 N 0,.ptr 1106 r 0])])
   (m:=[(1004,.cells .new J 0 [Wl b c d e f g m x]),(1005,.cells .new I 0 [Za P 1 (V.int .i64) (Zd a)]),(1006,.cells .new F 0 [Za O 1 (V.int .i64) (Zd j)]),(1007,.cells .new K 0 [.int .i64 n]),(1009,.cells .new E 0 [.int .i64 first]),(1106,.cells .new r 0 [.func ty [] cl]),(1209,.cells .new N 0 [Za .new 1 (V.int .i64) (Zd b0.sources),.int .i64 b0.first,Za .new 1 (V.int .i64) (Zd b0.guards),Za .new 1 (V.int .i64) (Zd b0.effects),.nils,.nils])])
   (by refine Zs ?_;exact⟨Zb,Zb,Zb⟩) ⟨zr,zr,zr,zr,zr,zr,zr,trivial⟩ zp) rfl ?_
  refine I4 1000 (Nat.le_refl _) (Z37 G hG m x hx zo hr (m.p.outI v) [] false b c d e f g .new _ (λt ht=>(PM.mem_out.1 ht).1) zO) zk
   (λX' hle=>Zb5 G hG ((hy.at hXZ).at hle) b0 hpn J I F K E r N (Wl b c d e f g m x) (Za P 1 (V.int .i64) (Zd a)) (Za O 1 (V.int .i64) (Zd j)) (.int .i64 n) (.int .i64 first)) s' rfl ?_ (Zmk hdk λes hes=>?_) ?_ (λW D u=>?_) zk (n:=8) rfl zp (λ_ _ _=>trivial)
  refine Xr @Uz ?_;rfl;obtain⟨f1,f2⟩:=m.p.forkF_ok (m.p.outI v) [] es hes
  have f3:=PM.flat_le (n:=513) es λe' he'=>by
   rcases f2 e' he' with h|⟨o,ho,h⟩
   cases h;have:=(PM.mem_out.1 ho).1;exact Nat.le_trans (m.p.waysL_ok S this.1 this.2 _ h).len (by have:=S.lw;omega)
  have f4:es.length<=512:=by rw[f1];simpa using hlo
  refine⟨?_,zo⟩
  show(path++_).length<_
  rw[List.length_append];have:es.length*513<=512*513:=Nat.mul_le_mul_right _ f4;omega;refine⟨?_,?_⟩;refine Zs ?_;rw[Q];exact rk;exact zp;obtain⟨hR3,hE⟩:=D;generalize Yx (λs es=>C s (b0.fork es)) s' (m.p.forkF (m.p.outI v) [])=z at hR3 A⊢;obtain⟨bb,s3⟩:=z;refine Zs ?_;refine AW.weak (Y7 (lo:=1000) (B:=W) (l:=[(10,.bool bb)]) (m:=[]) ⟨rfl,trivial⟩ trivial rfl) ?_;generalize hM2:Z9 2000 (Z9 1000 W)=M2 at hR3 hE
  have hM3:Z9 2000 M2=M2:=by rw[<- hM2,Rh]
  unfold Hs.stM;rw[show Z5 (Z9 1000 W) []=Z9 1000 W from rfl,hE];refine AW.weak (Y7 (lo:=2000) (B:=M2) (l:=[(10,.bool bb)]) (m:=[(1004,.cells .new J 0 [Wl b c d e f g m x]),(1005,.cells .new I 0 [Za P 1 (V.int .i64) (Zd a)]),(1006,.cells .new F 0 [Za O 1 (V.int .i64) (Zd j)]),(1007,.cells .new K 0 [.int .i64 n]),(1009,.cells .new E 0 [.int .i64 first]),(1106,.cells .new r 0 [.func ty [] cl])]) ⟨rfl,trivial⟩ ⟨zp,zp,zp,zp,zp,zp,trivial⟩ zp) ?_;cases bb;refine Z ?_;refine AW.ret ?_;refine Zs ?_;rw[A,hM3];refine⟨rfl,hR3,?_⟩;rw[<- hM3];exact C3 rfl;refine Z ?_;rw[A,hM3];refine⟨rfl,hR3,?_⟩;rw[<- hM3];exact C3 rfl
 rintro W ⟨U,hH⟩ _ _;generalize(Yx (λw k=>((jB (Cj C (m.p.strW a first j) w k)).isNone,Cj C (m.p.strW a first j) w k)) (s0,true) (m.p.waysL (n:Int))).2=z at U⊢;generalize hM:Z9 2000 (Ya (Z9 100 W) 1190 .dead)=M at U hH
 have Q:Z9 2000 M=M:=by rw[<- hM,Rh]
 obtain⟨s2',b2⟩:=z
 have hM2:M=Z9 2000 W:=by rw[<- hM];simp -implicitDefEqProofs only[go_sem,seval]
 cases b2;refine AW.weak (Weak.rng (l:=[]) hH trivial) ?_;refine Z ?_;refine⟨.inr trivial,?_⟩;refine Zs ?_;rw[Q];exact U;refine⟨_,rfl,.inr trivial,?_⟩;rw[hM2]at U;exact U
theorem Ml(G:Nat->V)(b c d e f g k j:Col)(m:MdM)(x:IxM)(a h:List Int)(t:Int):InSp Tryz.prog G 92 [Wl b c d e f g m x,Za k 1 (V.int .i64) (Zd a),Za j 1 (V.int .i64) (Zd h),.int .i64 t] (Z5 Zj [(1004,.dead),(1005,.dead),(1006,.dead),(1007,.dead),(1009,.dead)])
  (λw H'=>∃ g4 g5 g6 g7 g9,w=.func (.func 138) [] [.ptr 1004 g4 0,.ptr 1007 g7 0,.ptr 1005 g5 0,.ptr 1009 g9 0,.ptr 1006 g6 0]/\H' 1004=.cells .new g4 0 [Wl b c d e f g m x]/\H' 1005=.cells .new g5 0 [Za k 1 (V.int .i64) (Zd a)] /\
   H' 1006=.cells .new g6 0 [Za j 1 (V.int .i64) (Zd h)]/\H' 1007=.cells .new g7 0 [.int .i64 t]/\H' 1009=.cells .new g9 0 [.int .i64 (h.headD t)]):=by
 refine Yr 1000 18 [.tmp 8] Tryz.func92 rfl rfl rfl rfl λX=>?_;simp only[Z5];refine Z ?_;intro g4 g5 g6 g7;refine Z ?_;intro g9
 cases h with
 |nil=>
  refine Z ?_;exact⟨g4,g5,g6,g7,g9,rfl,zr,zr,zr,zr,zr⟩
 |cons o r=>
  have i:decide (((r.length+1:Nat):Int)>0)=true:=zT;have n:(o::r)[0]?=some o:=rfl;have l:0<r.length+1:=Nat.succ_pos _;refine Zf (zi i (zi n l)) ?_;exact⟨g4,g5,g6,g7,g9,rfl,zr,zr,zr,zr,zr⟩
theorem Zzj(G:Nat->V)(e:Y6 G)(b c d:Col)(x:IxM)(m:PM)(f:IxP m x)(g:m.ways.length<1000000)(n:Nat)(p:PlM)(a:x.places.l[n]?=some p)(k:(n:Int)<m.vertices.length):
  Spec Tryz.prog G 90 [Uj b c d x,.int .i64 n] Zj (λw _=>w=Za .new 1 (V.int .i64) p.into.co):=by
 refine Zo 0 18 [.tmp 4] Tryz.func90 λX=>?_;have i:n<x.places.l.length:=(List.getElem?_eq_some_iff.1 a).1
 have j:(decide ((0:Int)<=(n:Int))&&decide ((n:Int)<x.places.l.length))=true:=by rw[Bool.and_eq_true];exact⟨zT,zT⟩
 refine Z ?_;refine Zc e ?_ (s:=Wm G _ _ _ _ _);refine Zg (zi j (zi a (zi i (zi Vj (zi V0 Yh))))) ?_
 have h:p.into.l.length<1000000:=by rw[f.into n p a,PM.intoI];exact Nat.lt_of_le_of_lt (PM.wysI_len _ _ _) g
 refine Zc e ?_ (s:=O1 G _ _ h);exact Zr
theorem Zxx(G:Nat->V)(H:Heap):Eh Tryz.prog G 2000 93 [] H (λs:StP=>[U7 s]) []:=by
 refine Wz .plain 0 2 1 [] Tryz.func93 λX ty cl σ R b c s0 d e a _=>?_;refine AW.skip ?_;exact⟨_,rfl,.inr rfl,a⟩
theorem con5(k:Int):[(1:Int),3,4,8,9].contains k=decide (k=1\/k=3\/k=4\/k=8\/k=9):=by
 rw[Bool.eq_iff_iff,List.contains_iff_mem,decide_eq_true_eq];simp only[List.mem_cons,List.not_mem_nil,or_false]
theorem Z1k(G:Nat->V)(C:Y6 G)(b c d e f g:Col)(m:MdM)(x:IxM)(hx:IxP m.p x)(hw:m.p.ways.length<=600)(u:m.p.Wfd)(t:Int)(t0:0<=t)(t1:t<m.p.ways.length):
  InSp Tryz.prog G 58 [Wl b c d e f g m x,.int .i64 t] (Z5 Zj [(1004,.dead),(1005,.dead),(1006,.dead),(1007,.dead),(1009,.dead)])
   (λw H'=>∃ fid caps,w=.func (.func fid) [] caps/\Z7 Tryz.prog fid=true/\∀ H:Heap,H 1004=(H' 1004).noMp->H 1005=(H' 1005).noMp->H 1006=(H' 1006).noMp->H 1007=(H' 1007).noMp->H 1009=(H' 1009).noMp->Eh Tryz.prog G 2000 fid caps H (λs:StP=>[U7 s]) (m.p.beginL t)):=by
 refine Yr 1100 90 [.tmp 4] Tryz.func58 rfl rfl rfl rfl λX=>?_;simp only[Z5];obtain⟨D,q⟩:=u.tg t t0 t1;obtain⟨sc0,sc1⟩:=u.sc t t0 t1;obtain⟨n,y,rfl,hn',hgy,ey⟩:=m.wyAt t0 t1
 have B:m.p.tg (n:Int)=y.target:=by rw[PM.tg,ey]<;>rfl
 have esc:m.p.sc (n:Int)=y.source:=by rw[PM.sc,ey]<;>rfl
 obtain⟨nv,Q,ev,hkv,hgv,_,_,_,_,E,F⟩:=hx.at D q;refine Zf (zi hgy (zi hn' (zi Yg (zi Uz Yh)))) ?_;intro j;refine Z ?_;refine Zy ⟨λ_=>Za .new 1 (V.int .i64) Q.into.co,λ_=>.pure⟩ zk C zk zk ?_;refine Zs ?_;refine⟨⟨zk,?_⟩,?_⟩;simp -implicitDefEqProofs only[go_sem,seval];have:=Zzj G C e.ent f.ent g.ent (x.rc Col.ent) m.p (hx.rc _) zo nv Q hgv (by rw[<- ev];exact q);rw[<- ev,B]at this
 exact this.mono λv _ e=>by rw[e];simp -implicitDefEqProofs only[go_sem,seval]
 rw[B]at D q ev F E;refine Z ?_;intro g1129;refine Wg 1129 [Wl b c d e f g m x,.int .i64 y.target,Za .new 1 (V.int .u8) (.mk false [7])] ⟨Zb,Zb,?_,trivial⟩ ?_;exact Xa (f:=V.int .u8) (l:=[7]) (m:=1) (g:=g1129) (fz:=0) (c:=.new) rfl zp λ_=>rfl;refine Zc C ?_ (s:=Ti G C _ _ _ _ _ _ _ m _ y.target D q _ zd);rw[Ax]
 have e7:m.p.kd (m.p.tg n)=m.p.kd y.target:=by rw[B]
 have e8:m.p.kd (m.p.sc n)=m.p.kd y.source:=by rw[esc]
 rw[esc]at sc0 sc1;cases M:(m.p.kd y.target==7)
 have h7:¬m.p.kd (m.p.tg n)=7:=by rw[e7];simpa using M
 refine Zg M ?_;intro A;refine Wg 1174 [Wl b c d e f g m x,.int .i64 y.target,Za .new 1 (V.int .u8) (.mk false [7])] ⟨Zb,Zb,?_,trivial⟩ ?_;exact Xa (f:=V.int .u8) (l:=[7]) (m:=1) (g:=A) (fz:=0) (c:=.new) rfl zp λ_=>rfl;refine Zc C ?_ (s:=Ti G C _ _ _ _ _ _ _ m _ y.target D q _ zd);rw[Ax];refine Zg M ?_;intro Y;refine Wg 1181 [Wl b c d e f g m x,.int .i64 y.source,Za .new 1 (V.int .u8) (.mk false [1,3,4,8,9])] ⟨Zb,Zb,?_,trivial⟩ ?_;exact Xa (f:=V.int .u8) (l:=[1,3,4,8,9]) (m:=1) (g:=Y) (fz:=0) (c:=.new) rfl zp λ_=>rfl;refine Zc C ?_ (s:=Ti G C _ _ _ _ _ _ _ m _ y.source sc0 sc1 _ zd);rw[con5]
 by_cases h8:m.p.kd y.source=1\/m.p.kd y.source=3\/m.p.kd y.source=4\/m.p.kd y.source=8\/m.p.kd y.source=9
 have q8:decide (m.p.kd y.source=1\/m.p.kd y.source=3\/m.p.kd y.source=4\/m.p.kd y.source=8\/m.p.kd y.source=9)=true:=decide_eq_true h8
 have O:m.p.beginL n=m.p.strL [y.source] [] n:=by rw[PM.beginL,if_neg h7,e8,if_pos h8,esc]
 rw[O];refine Zg q8 ?_;intro W;refine Wg 1187 [Wl b c d e f g m x,Za .new 1 (V.int .i64) (Zd [y.source]),Za .new 1 (V.int .i64) (Zd []),.int .i64 n] ⟨Zb,Xa (f:=V.int .i64) (l:=[y.source]) (m:=1) (g:=W) (fz:=0) (c:=.new) rfl zp (λ_=>rfl),Zb,Zb,trivial⟩ ?_;refine CallA.inl [(1004,.dead),(1005,.dead),(1006,.dead),(1007,.dead),(1009,.dead)] zk ?_ ((Ml G b c d e f g .new .new m x [y.source] [] n).mono ?_);intro p hp;simp only[List.mem_cons,List.not_mem_nil,or_false]at hp
 rcases hp with rfl|rfl|rfl|rfl|rfl<;>rfl
 rintro w H' ⟨a4,a5,a6,a7,a9,rfl,q4,q5,q6,P,J⟩;simp -implicitDefEqProofs only[go_sem,seval,Z5,q4,q5,q6,P,J];refine Z ?_;exact⟨_,_,rfl,zk,λH h4 h5 h6 U h9=>Zlx G C b c d e f g .new .new m x hx hw u.tg u [y.source] [] zS (show 1<1000 by decide) (show 0<1000 by decide) n n t0 t1 a4 a5 a6 a7 a9 H (h4.trans zr) (h5.trans zr) (h6.trans zr) (U.trans zr) (h9.trans zr)⟩;have q8:decide (m.p.kd y.source=1\/m.p.kd y.source=3\/m.p.kd y.source=4\/m.p.kd y.source=8\/m.p.kd y.source=9)=false:=decide_eq_false h8
 have O:m.p.beginL n=[]:=by rw[PM.beginL,if_neg h7,e8,if_neg h8]
 rw[O];refine Zg q8 ?_;exact⟨_,_,rfl,zk,λH _ _ _ _ _=>Zxx G H⟩
 have h7:m.p.kd (m.p.tg n)=7:=by rw[e7];simpa using M
 obtain⟨j1,j2,_⟩:=u.join _ D q (zu M);rw[<- B]at j1 j2
 have z:∃ a r,m.p.intoI (m.p.tg n)=a::r:=by
  cases h:m.p.intoI (m.p.tg n)with
  |nil=>rw[h]at j2;cases j2
  |cons a r=>exact⟨a,r,rfl⟩
 obtain⟨a,r,z⟩:=z;rw[<- B,z]at F
 have hco:Q.into.co=.mk false (a::r):=by
  cases h:Q.into with
  |nil=>rw[h]at F;cases F
  |mk b l=>rw[h]at F;rw[<- F]<;>rfl
 have h0:(a::r)[0]?=some a:=rfl;have R:0<r.length+1:=Nat.succ_pos _;rw[hco];cases J:(a==(n:Int))
 have O:m.p.beginL n=[]:=by
  rw[PM.beginL,if_pos h7,z,if_neg];intro h;rw[show(a::r).headD (-1)=a from rfl]at h;rw[h]at J;simp at J
 rw[O];refine Zg (zi M (zi J (zi h0 R))) ?_;intro A;refine Wg 1174 [Wl b c d e f g m x,.int .i64 y.target,Za .new 1 (V.int .u8) (.mk false [7])] ⟨Zb,Zb,?_,trivial⟩ ?_;exact Xa (f:=V.int .u8) (l:=[7]) (m:=1) (g:=A) (fz:=0) (c:=.new) rfl zp λ_=>rfl;refine Zc C ?_ (s:=Ti G C _ _ _ _ _ _ _ m _ y.target D q _ zd);rw[Ax];refine Zg M ?_;exact⟨_,_,rfl,zk,λH _ _ _ _ _=>Zxx G H⟩
 .have hi0:a=n:=zu J
  have O:m.p.beginL n=m.p.strL ((a::r).map m.p.sc) (a::r) ((m.p.outI (m.p.tg n)).headD 0):=by
   rw[PM.beginL,if_pos h7,z,if_pos (show(a::r).headD (-1)=n from hi0)]
  have hl:(a::r).length<=600:=by rw[<- z];exact Nat.le_trans (PM.wysI_len _ _ _) hw
  have hrg:∀ t∈a::r,0<=t/\t<m.p.ways.length:=λt ht=>by rw[<- z]at ht;exact(PM.mem_into.1 ht).1
  refine Zg (zi M (zi J (zi h0 R))) ?_;rw[O];have hl0:(a::r)≠[]:=zS
  try clear J O h0 R
  have h0:(a::r).length=r.length+1:=rfl;rw[<- h0];generalize a::r=l at *
  refine Yc l.length (λk (gg:Nat)=>st [(0,Wl b c d e f g m x),(5,.ptr 1105 j 0),(6,Za .new 1 (V.int .i64) (.mk false l)),(7,grown 1155 gg 1 ((l.take k).map m.p.sc)),(38,Za .new 1 (V.int .i64) (.mk false l)),(39,.int .i64 l.length),(40,.int .i64 k)] [(1105,(.cells .new j 0 [.str y.name,.int .i64 y.source,.int .i64 y.target,Za d 1 V.str y.triggers,.int .i64 y.after,.str y.guard,.str y.effect,.int .u8 y.kind])),(1155,Yb gg (V.int .i64) ((l.take k).map m.p.sc))])
   (λ_ _=>True) 0 0 (Nat.zero_le _) trivial (Weak.st ⟨rfl,rfl,zp,zp,zp,zp,zp,trivial⟩ ⟨zr,zr,trivial⟩) ?_
  intro k gg hk _ L hL
  by_cases K:k<l.length
  have T:decide ((k:Int)<(l.length:Int))=true:=zT;have hg:=List.getElem?_eq_getElem K
  have htk:(l.take (k+1)).map m.p.sc=(l.take k).map m.p.sc++[m.p.sc l[k]]:=by
   rw[List.take_add_one,hg,List.map_append]<;>rfl
  have N:=List.getElem_mem K;generalize l[k]=tt at hg htk N;obtain⟨tt0,tt1⟩:=hrg tt N;obtain⟨n2,y2,rfl,hn2,hgy2,ey2⟩:=m.wyAt tt0 tt1
  have esc2:m.p.sc (n2:Int)=y2.source:=by rw[PM.sc,ey2]<;>rfl
  have w1:IntKind.i64.wrap ((k:Int)+1)=(k:Int)+1:=Wy zo zo;refine Zf (zi T (zi hg (zi K (zi hgy2 (zi hn2 (zi Yg (zi Uz Yh))))))) ?_;intro g1154;refine Ys (f:=V.int .i64) (l:=(l.take k).map m.p.sc) (l2:=[y2.source]) (g:=gg) (λ_=>rfl) rfl rfl rfl zp (Z4 zo zO) λg2=>?_;rw[<- esc2,<- htk];refine Zf w1 ?_;refine hL _ ⟨K,g2,trivial,Weak.st ⟨rfl,zp,zp,zp,zp,zp,zp,trivial⟩ ⟨zp,zp,trivial⟩⟩;have hke:k=l.length:=zo;subst hke;rw[List.take_length];have T:decide ((l.length:Int)<(l.length:Int))=false:=zF
  obtain⟨I,S⟩:∃ I,m.p.outI y.target=[I]:=by
   rw[B]at j1
   cases h:m.p.outI y.target with
   |nil=>rw[h]at j1;cases j1
   |cons I r'=>
    rw[h]at j1
    cases r' with
    |nil=>exact⟨I,rfl⟩
    |cons=>simp at j1
  obtain⟨o0,o2⟩:=(PM.mem_out.1 (show I∈m.p.outI y.target by rw[S];exact List.mem_cons_self ..)).1;rw[S]at E
  have hoc:Q.out.co=.mk false [I]:=by
   cases h:Q.out with
   |nil=>rw[h]at E;cases E
   |mk b l=>rw[h]at E;rw[<- E]<;>rfl
  rw[B,S];refine AW.weak (Zl (λo=>o==1155) (l:=[(0,Wl b c d e f g m x),(5,.ptr 1105 j 0),(6,Za .new 1 (V.int .i64) (Zd l)),(7,Za .new 1 (V.int .i64) (Zd (l.map m.p.sc))),(39,.int .i64 l.length),(40,.int .i64 l.length)]) (m:=[(1105,(.cells .new j 0 [.str y.name,.int .i64 y.source,.int .i64 y.target,Za d 1 V.str y.triggers,.int .i64 y.after,.str y.guard,.str y.effect,.int .u8 y.kind]))]) ?_ ?_) ?_;rw[Ou hl0];refine Zs ?_;exact⟨Zb,Zb,Zb,Y5 (l:=l.map m.p.sc) (g:=gg) (f:=V.int .i64) rfl zp (λ_=>rfl),Zb⟩;simp only[Zt,Zv,and_true];exact FzO.same rfl;refine Zf T ?_;refine Zy ⟨λ_=>Za .new 1 (V.int .i64) (.mk false [I]),λi=>if i=12 then .any else .pure⟩ zk C zk zk ?_;have h00:[I][0]?=some I:=rfl;refine Xr (zi @Uz h00) ?_;refine⟨⟨zk,?_⟩,?_⟩;simp -implicitDefEqProofs only[go_sem,seval];have:=C2 G C e.ent f.ent g.ent (x.rc Col.ent) m.p (hx.rc _) zo nv Q hgv (by rw[<- ev];exact q);rw[<- ev,hoc]at this
  exact this.mono λv _ e=>by rw[e];simp -implicitDefEqProofs only[go_sem,seval]
  refine CallA.inl [(1004,.dead),(1005,.dead),(1006,.dead),(1007,.dead),(1009,.dead)] zk ?_ ((Ml G b c d e f g .new .new m x (l.map m.p.sc) l I).mono ?_);intro p hp;simp only[List.mem_cons,List.not_mem_nil,or_false]at hp
  rcases hp with rfl|rfl|rfl|rfl|rfl<;>rfl
  rintro w H' ⟨a4,a5,a6,a7,a9,rfl,q4,q5,q6,P,J⟩;simp -implicitDefEqProofs only[go_sem,seval,Z5,q4,q5,q6,P,J];refine Z ?_;exact⟨_,_,rfl,zk,λH h4 h5 h6 U h9=>Zlx G C b c d e f g .new .new m x hx hw u.tg u (l.map m.p.sc) l (zu hl0) (by rw[List.length_map];omega) zo (l.headD I) I o0 o2 a4 a5 a6 a7 a9 H (h4.trans zr) (h5.trans zr) (h6.trans zr) (U.trans zr) (h9.trans zr)⟩
def Yo(c:Col)(q:StP×List Int):V:=.agg [Za c 1 (V.int .i64) (Zd q.1.sources),.int .i64 q.1.first,Za c 1 (V.int .i64) (Zd q.1.guards),Za c 1 (V.int .i64) (Zd q.1.effects),X6 c q.1.ends,Za c 1 (V.int .i64) (Zd q.2)]
theorem Xc(c:Col)(q:StP×List Int):Yo c q=.agg [Za c 1 (V.int .i64) (Zd q.1.sources),.int .i64 q.1.first,Za c 1 (V.int .i64) (Zd q.1.guards),Za c 1 (V.int .i64) (Zd q.1.effects),X6 c q.1.ends,Za c 1 (V.int .i64) (Zd q.2)]:=rfl
def Ts(c:Col)(q:StP×V):V:=.agg [Za c 1 (V.int .i64) (Zd q.1.sources),.int .i64 q.1.first,Za c 1 (V.int .i64) (Zd q.1.guards),Za c 1 (V.int .i64) (Zd q.1.effects),X6 c q.1.ends,q.2]
theorem Rr(c:Col)(q:StP×V):Ts c q=.agg [Za c 1 (V.int .i64) (Zd q.1.sources),.int .i64 q.1.first,Za c 1 (V.int .i64) (Zd q.1.guards),Za c 1 (V.int .i64) (Zd q.1.effects),X6 c q.1.ends,q.2]:=rfl
@[go_sem] theorem Tw(g:Col->Col)(c:Col)(q:StP×List Int):(Yo c q).recol g=Yo (g c) q:=by
 simp only[Xc,Xl,List.map_cons,List.map_nil,Yj,Y1,Du]
def Pv{β : Type}(L:List (StP × β))(v:Int)(k:Nat):List Int:=((List.range k).filter λi=>match L[i]? with|some s=>s.1.sources.contains v|none=>false).map fun(i:Nat)=>(i:Int)
theorem Zi1{β : Type}(L:List (StP × β))(v:Int)(k:Nat):(Pv L v k).length<=k:=by
 unfold Pv;rw[List.length_map];exact Nat.le_trans (List.length_filter_le _ _) (by rw[List.length_range];exact Nat.le_refl _)
theorem Zct{β : Type}(L:List (StP × β))(v:Int)(k:Nat){s:StP × β}(h:L[k]?=some s):Pv L v (k+1)=if s.1.sources.contains v=true then Pv L v k++[(k:Int)]else Pv L v k:=by
 unfold Pv;rw[List.range_succ,List.filter_append,List.map_append];cases q:s.1.sources.contains v;rw[List.filter_cons_of_neg (by simp[h];simpa using q)];simp;rw[List.filter_cons_of_pos (by simp[h];simpa using q)];simp
theorem Zh1(G:Nat->V)(t:Y6 G)(c c1:Col)(a:Sl (StP×V))(v:Int)(B:a.l.length<100000)(x:∀ s∈a.l,s.1.sources.length<100000):
  Spec Tryz.prog G 96 [Za c 6 (Ts c1) a,.int .i64 v] Zj (λw _=>w=Za .new 1 (V.int .i64) (Zd (Pv a.l v a.l.length))):=by
 refine Zo 0 25 [.tmp 4] Tryz.func96 λX=>?_;refine Z ?_
 refine Yc a.l.length (λk (g:Nat)=>st [(1,.int .i64 v),(5,grown 22 g 1 (Pv a.l v k)),(8,Za c 6 (Ts c1) a),(9,.int .i64 a.l.length),(10,.int .i64 k)] [(22,Yb g (V.int .i64) (Pv a.l v k))])
  (λ_ _=>True) 0 0 (Nat.zero_le _) trivial (Weak.st zp zp) ?_
 intro k g C _ L r
 by_cases b:k<a.l.length
 have h:decide ((k:Int)<(a.l.length:Int))=true:=zT;have n:=List.getElem?_eq_getElem b;have e:=List.getElem_mem b;have y:=Zi1 a.l v k;generalize a.l[k]=s at n e;have u:=x s e;have d:=Zct a.l v k n;have p:IntKind.i64.wrap ((k:Int)+1)=(k:Int)+1:=Wy zo zo;refine Zf (zi h (zi n (zi b (zi Rr Yh)))) ?_;intro D;refine Z ?_;refine Zc t ?_ (s:=O0 G t _ _ _ (by rw[Zm];omega));cases q:s.1.sources.contains v;rw[q,if_neg zS]at d;refine Zf (zi q p) ?_;exact r _ ⟨b,g,trivial,Weak.st (by rw[d];exact zp) (by rw[d];exact zp)⟩;rw[q,if_pos rfl]at d;refine Zf q ?_;intro z;refine Ys (f:=V.int .i64) (l:=Pv a.l v k) (l2:=[(k:Int)]) (g:=g) (λ_=>rfl) rfl rfl rfl zp (Z4 zo zO) λA=>?_;rw[<- d];refine Zf p ?_;exact r _ ⟨b,A,trivial,Weak.st zp zp⟩;have j:k=a.l.length:=zo;rw[j];have h:decide ((a.l.length:Int)<(a.l.length:Int))=false:=zF;generalize Pv a.l v a.l.length=i;refine AW.weak (Zl (λo=>o==22) (l:=[(5,Za .new 1 (V.int .i64) (Zd i)),(9,.int .i64 a.l.length),(10,.int .i64 a.l.length)]) (m:=[]) ?_ trivial) ?_;refine Zs ?_;exact⟨Y5 (l:=i) (g:=g) (f:=V.int .i64) rfl zp (λ_=>rfl),Zb⟩;exact Zq h
theorem Q3(f:Col->Col):∀ l:List V,Yv f l=l.map (V.recol f)
 |[]=>rfl
 |v::r=>by rw[List.map_cons,<- Q3 f r]<;>rfl
theorem C1(G:Nat->V)(u:Y6 G)(c:Col)(b:FuncId)(C:List V->Prop)(z:∀ cx,C cx->C (cx.map (V.recol Col.ent)))(cx:List V)(m:C cx)(j:Z7 Tryz.prog b=true)(p:Int->Bool)(s:Sl Int)(A:s.l.length<1000000)(i:∀ v∈s.l,∀ cx,C cx->Spec Tryz.prog G b (.int .i64 v::cx) Zj (λw _=>w=.bool (p v))):
  Spec Tryz.prog G 77 [Za c 1 (V.int .i64) s,.func (.func b) [] cx] Zj (λv _=>v=.int .i64 (Rz p s.l)):=by
 have t:=λv g=>i v g (cx.map (V.recol Col.ent)) (z cx m);refine Zo 0 19 [.tmp 4] Tryz.func77 λX=>?_;refine Z ?_
 refine Yc s.l.length (λk (_:Unit)=>st [(0,Za c 1 (V.int .i64) s),(1,.func (.func b) [] cx),(7,.int .i64 s.l.length),(8,.int .i64 k)] []) (λk _=>∀ y∈s.l.take k,p y=false) 0 () (Nat.zero_le _) zS
  (Weak.st zp zp) ?_
 intro k _ B f D n
 by_cases a:k<s.l.length
 .have d:decide ((k:Int)<(s.l.length:Int))=true:=zT
  have e:=List.getElem?_eq_getElem a;have o:=t s.l[k] (List.getElem_mem a);generalize s.l[k]=x at e o;refine Zf (zi d (zi e (zi a (zi a Yh)))) ?_;refine CallA.pure u j ?_;refine(show Spec Tryz.prog G b (((.int .i64 x::cx):List V).map (V.recol Col.ent)) Zj _ from ?_);rw[show((.int .i64 x::cx):List V).map (V.recol Col.ent)=(.int .i64 x::cx.map (V.recol Col.ent))from by simp only[List.map_cons,List.map_nil,Yj]];refine o.mono λv _ g=>?_;rw[g]
  cases q:p x with
  |true=>
   refine Z ?_;rw[V2 (p:=p) e f q]
  |false=>
   have r:IntKind.i64.wrap ((k:Int)+1)=(k:Int)+1:=Wy zo zo;refine Zg r ?_;exact n _ ⟨a,(),take_all e f q,Weak.st zp zp⟩
 have h:k=s.l.length:=zo;have d:decide ((k:Int)<(s.l.length:Int))=false:=zF;rw[h,List.take_length]at f;refine Zf d ?_;rw[V3 (p:=p) f]
theorem Rk(G:Nat->V)(f:Y6 G)(c:Col)(a:FuncId)(C:List V->Prop)(g:∀ cx,C cx->C (cx.map (V.recol Col.ent)))(cx:List V)(e:C cx)(d:Z7 Tryz.prog a=true)(p:Int->Bool)(s:Sl Int)(h:s.l.length<1000000)(b:∀ v∈s.l,∀ cx,C cx->Spec Tryz.prog G a (.int .i64 v::cx) Zj (λw _=>w=.bool (p v))):
  Spec Tryz.prog G 37 [Za c 1 (V.int .i64) s,.func (.func a) [] cx] Zj (λv _=>v=.bool (s.l.any p)):=by
 refine Zo 0 9 [.tmp 4] Tryz.func37 λX=>?_;refine Z ?_;refine Zc f ?_ (ha:=by simp only[List.map_cons,List.map_nil,Y1,V.recol,Yv,Q3]) (s:=C1 G f c.ent a C g (cx.map (V.recol Col.ent)) (g cx e) d p s h b);refine Z ?_;rw[Ot]
theorem Z9s(G:Nat->V)(u:Y6 G)(c c1:Col)(a:FuncId)(C:List V->Prop)(z:∀ cx,C cx->C (cx.map (V.recol Col.ent)))(cx:List V)(m:C cx)(j:Z7 Tryz.prog a=true)(p:StP×List Int->Bool)(s:Sl (StP×List Int))(A:s.l.length<1000000)(i:∀ v∈s.l,∀ c' cx,C cx->Spec Tryz.prog G a (Yo c' v::cx) Zj (λw _=>w=.bool (p v))):
  Spec Tryz.prog G 60 [Za c 6 (Yo c1) s,.func (.func a) [] cx] Zj (λv _=>v=.int .i64 (Rz p s.l)):=by
 have t:=λv g=>i v g c1.ent (cx.map (V.recol Col.ent)) (z cx m);refine Zo 0 19 [.tmp 4] Tryz.func60 λX=>?_;refine Z ?_
 refine Yc s.l.length (λk (_:Unit)=>st [(0,Za c 6 (Yo c1) s),(1,.func (.func a) [] cx),(7,.int .i64 s.l.length),(8,.int .i64 k)] []) (λk _=>∀ y∈s.l.take k,p y=false) 0 () (Nat.zero_le _) zS
  (Weak.st zp zp) ?_
 intro k _ B f D n
 by_cases b:k<s.l.length
 .have d:decide ((k:Int)<(s.l.length:Int))=true:=zT
  have e:=List.getElem?_eq_getElem b;have o:=t s.l[k] (List.getElem_mem b);generalize s.l[k]=x at e o;refine Zf (zi d (zi e (zi b (zi Xc Yh)))) ?_;refine CallA.pure u j ?_;refine(show Spec Tryz.prog G a (((Yo c1 x::cx):List V).map (V.recol Col.ent)) Zj _ from ?_);rw[show((Yo c1 x::cx):List V).map (V.recol Col.ent)=(Yo c1.ent x::cx.map (V.recol Col.ent))from by simp only[List.map_cons,List.map_nil,Tw]];refine o.mono λv _ g=>?_;rw[g]
  cases q:p x with
  |true=>
   refine Z ?_;rw[V2 (p:=p) e f q]
  |false=>
   have r:IntKind.i64.wrap ((k:Int)+1)=(k:Int)+1:=Wy zo zo;refine Zg r ?_;exact n _ ⟨b,(),take_all e f q,Weak.st zp zp⟩
 have h:k=s.l.length:=zo;have d:decide ((k:Int)<(s.l.length:Int))=false:=zF;rw[h,List.take_length]at f;refine Zf d ?_;rw[V3 (p:=p) f]
theorem Zat(G:Nat->V)(r:Y6 G)(c c1:Col)(a:FuncId)(j:Z7 Tryz.prog a=true)(p:Int×List Int->Bool)(s:Sl (Int×List Int))(t:s.l.length<1000000)(i:∀ v∈s.l,∀ c',Spec Tryz.prog G a [Vx c' v] Zj (λw _=>w=.bool (p v))):
  Spec Tryz.prog G 202 [Za c 2 (Vx c1) s,.func (.func a) [] []] Zj (λv _=>v=.int .i64 (Rz p s.l)):=by
 have i:=λv g=>i v g c1.ent;refine Zo 0 19 [.tmp 4] Tryz.func202 λX=>?_;refine Z ?_
 refine Yc s.l.length (λk (_:Unit)=>st [(0,Za c 2 (Vx c1) s),(1,.func (.func a) [] []),(7,.int .i64 s.l.length),(8,.int .i64 k)] []) (λk _=>∀ y∈s.l.take k,p y=false) 0 () (Nat.zero_le _) zS
  (Weak.st zp zp) ?_
 intro k _ u f z m
 by_cases b:k<s.l.length
 .have d:decide ((k:Int)<(s.l.length:Int))=true:=zT
  have e:=List.getElem?_eq_getElem b;have n:=i s.l[k] (List.getElem_mem b);generalize s.l[k]=x at e n;refine Zf (zi d (zi e (zi b (zi U9 Yh)))) ?_;refine CallA.pure r j ?_;refine(show Spec Tryz.prog G a (([Vx c1 x]:List V).map (V.recol Col.ent)) Zj _ from ?_);rw[show([Vx c1 x]:List V).map (V.recol Col.ent)=[Vx c1.ent x]from by simp only[List.map_cons,List.map_nil,Zfc]];refine n.mono λv _ g=>?_;rw[g]
  cases o:p x with
  |true=>
   refine Z ?_;rw[V2 (p:=p) e f o]
  |false=>
   have q:IntKind.i64.wrap ((k:Int)+1)=(k:Int)+1:=Wy zo zo;refine Zg q ?_;exact m _ ⟨b,(),take_all e f o,Weak.st zp zp⟩
 have h:k=s.l.length:=zo;have d:decide ((k:Int)<(s.l.length:Int))=false:=zF;rw[h,List.take_length]at f;refine Zf d ?_;rw[V3 (p:=p) f]
theorem Zvt(G:Nat->V)(d:Y6 G)(c c1:Col)(a:FuncId)(b:Z7 Tryz.prog a=true)(p:Int×List Int->Bool)(s:Sl (Int×List Int))(e:s.l.length<1000000)(f:∀ v∈s.l,∀ c',Spec Tryz.prog G a [Vx c' v] Zj (λw _=>w=.bool (p v))):
  Spec Tryz.prog G 144 [Za c 2 (Vx c1) s,.func (.func a) [] []] Zj (λv _=>v=.bool (s.l.any p)):=by
 refine Zo 0 9 [.tmp 4] Tryz.func144 λX=>?_;refine Z ?_;refine Zc d ?_ (ha:=by simp only[List.map_cons,List.map_nil,Y8 Col.ent c 2 (Zfc Col.ent c1) s,V.recol,Yv]) (s:=Zat G d c.ent c1.ent a b p s e f);refine Z ?_;rw[Ot]
theorem Zqs(G:Nat->V)(a:Y6 G)(c:Col)(e:Int×List Int):Spec Tryz.prog G 145 [Vx c e] Zj (λw _=>w=.bool (e.1 == -1)):=by
 refine Zo 0 6 [.tmp 2] Tryz.func145 λX=>?_;rw[U9];refine Z ?_;intro b;exact Zr
theorem Zps(G:Nat->V)(a:Y6 G)(c:Col)(q:StP×V)(b:q.1.ends.length<1000000):Spec Tryz.prog G 95 [Ts c q] Zj (λw _=>w=.bool q.1.lost):=by
 refine Zo 0 6 [.tmp 2] Tryz.func95 λX=>?_;rw[Rr];refine Z ?_;intro f;refine Z ?_;refine Zc a ?_ (s:=Zvt G a c.ent c.ent 145 zk (λe=>e.1 == -1) (Zd q.1.ends) (by rw[Zm];exact b) (λv _ d=>Zqs G a d v));refine Z ?_;rfl
@[go_sem] theorem loadK_vv(n:Nat)(ob:AObj)(q b:Col)(v:V):Ty (some (false,n)) ob (.view q (.view b v))=some (.view b v):=rfl
@[go_sem] theorem loadK_wk(n:Nat)(ob:AObj)(q b c d e f g:Col)(m:MdM)(x:IxM):Ty (some (false,n)) ob (.view q (Wl b c d e f g m x))=some (Wl b c d e f g m x):=rfl
theorem Zad(G:Nat->V)(k:Y6 G)(z b c d e f g:Col)(m:MdM)(x:IxM)(t:Int)(t0:0<=t)(t1:t<m.p.ways.length)(a:0<=m.p.sc t/\m.p.sc t<m.p.vertices.length):
  Spec Tryz.prog G 148 [.int .i64 t,.view z (Wl b c d e f g m x)] Zj (λw _=>w=.bool (m.p.kd (m.p.sc t)==5)):=by
 refine Zo 0 16 [.tmp 3] Tryz.func148 λX=>?_;obtain⟨n,y,rfl,h,j,v⟩:=m.wyAt t0 t1
 have q:m.p.sc (n:Int)=y.source:=by rw[PM.sc,v]<;>rfl
 rw[q]at a⊢;obtain⟨u,r⟩:=a;refine Z ?_;refine Zy ⟨λ_=>.top,λi=>if i=11 then .any else .pure⟩ zk k zk zk ?_;simp -implicitDefEqProofs only[go_sem,seval,j,h,Uz,Yg,@Int.natCast_nonneg,@Int.ofNat_lt];intro o;refine Wg 14 [Wl b c d e f g m x,.int .i64 y.source,Za .new 1 (V.int .u8) (.mk false [5])] ⟨Zb,Zb,Xa (f:=V.int .u8) (l:=[5]) (m:=1) (g:=o) (fz:=0) (c:=.new) rfl zp (λ_=>rfl),trivial⟩ ?_;refine Zc k ?_ (s:=Ti G k _ _ _ _ _ _ _ m _ y.source u r _ zd);rw[Ax];exact Zr
theorem M0(G:Nat->V)(i:Y6 G)(b c d e f g c1:Col)(m:MdM)(x:IxM)(l:Sl Int)(r:l.l.length<1000000)(q:∀ t∈l.l,0<=t/\t<m.p.ways.length)(h:∀ t:Int,0<=t->t<m.p.ways.length->0<=m.p.sc t/\m.p.sc t<m.p.vertices.length):
  Spec Tryz.prog G 98 [Wl b c d e f g m x,Za c1 1 (V.int .i64) l] Zj (λw _=>w=.bool (m.p.forkedB l.l)):=by
 refine Zo 0 8 [.tmp 4] Tryz.func98 λX=>?_;refine Z ?_;intro y;refine AW.weak (Zl (λo=>o==2) (l:=[(1,Za c1 1 (V.int .i64) l),(2,.view .new (Wl b c d e f g m x))]) (m:=[]) ?_ trivial) ?_;refine Zs ?_;exact⟨Zb,Fz.ptr (v:=Wl b c d e f g m x) (c:=.new) (fz:=0) zp zp⟩;refine Z ?_
 refine Zc i ?_ (ha:=by simp only[List.map_cons,List.map_nil,Y1,V.recol,Yv,Tv]) (s:=Rk G i c1.ent 148 (λu=>∃ a b c d e f g x,u=[.view a (Wl b c d e f g m x)]) (by
  rintro _ ⟨a,b,c,d,e,f,g,x,rfl⟩
  exact⟨_,_,_,_,_,_,_,_,by simp only[List.map_cons,List.map_nil,V.recol,Tv];rfl⟩) [.view Col.new.ent (Wl b.ent c.ent d.ent e.ent f.ent g.ent m (x.rc Col.ent))] ⟨_,_,_,_,_,_,_,_,rfl⟩ zk (λt=>m.p.kd (m.p.sc t)==5) l r (by
  rintro v n _ ⟨a,b,c,d,e,f,g,x,rfl⟩;obtain⟨k,j⟩:=q v n
  exact Zad G i a b c d e f g m x v k j (h v k j)))
 exact Zr
theorem Z60{m:PM}(a:m.Acy){v r:Int}(f:0<=v)(h:v<m.vertices.length)(j:0<=r):((Ma m v).any λu=>m.rgO u==r)=m.withinB v r:=by
 have i:Ma m v=v::m.ups v:=if_pos f;rw[i,PM.withinB,Bool.eq_iff_iff,List.any_eq_true,List.any_eq_true]
 constructor
 rintro⟨u,d,e⟩;have b:=a.chain f h d;rw[beq_iff_eq,PM.rgO]at e
 by_cases c:0<=(m.vx u).of
 rw[if_pos c]at e
 have g:m.around u=(m.vx u).of:=by rw[PM.around,if_pos c]
 refine⟨(m.vx u).of,List.mem_cons_of_mem _ (a.ups_tr g c f h d),by rw[e];exact beq_self_eq_true _⟩;rw[if_neg c]at e;exact⟨u,d,by rw[e];exact beq_self_eq_true _⟩;rintro⟨u,d,e⟩;have b:=a.chain f h d;rw[beq_iff_eq]at e
 by_cases c:0<=(m.vx u).of
 have:=a.pt u b.1 b.2 c;omega;exact⟨u,d,by rw[PM.rgO,if_neg c,e];exact beq_self_eq_true _⟩
theorem Zya(G:Nat->V)(i:Y6 G)(b c d:Col)(x:IxM)(m:PM)(a:m.Acy)(g:IxP m x)(v r:Int)(f:0<=v)(e:v<m.vertices.length)(h:0<=r):
  Spec Tryz.prog G 101 [Uj b c d x,.int .i64 v,.int .i64 r] Zj (λw _=>w=.bool (m.withinB v r)):=by
 rw[<- Z60 a f e h];exact Zw7 G i b c d x m a g v r f e
theorem Gx(G:Nat->V)(i:Y6 G)(b c d:Col)(x:IxM)(m:PM)(a:m.Acy)(g:IxP m x)(v s:Int)(l:0<=v)(j:v<m.vertices.length)(s0:0<=s)(f:s<m.vertices.length)(h:m.kd s=1):
  Spec Tryz.prog G 80 [Uj b c d x,.int .i64 v,.int .i64 s] Zj (λw _=>w=.bool (m.inB v s)):=by
 have e:m.inB v s=(m.ups v).any λk=>k==s:=by
  rw[PM.inB,List.contains_eq_any_beq]
  congr 1
  funext k
  exact BEq.comm
 rw[e];exact Ziq G i b c d x m a g v s l j s0 f h
theorem mdIm(b c d:Col)(m:MdM):(V.view b (Zw c d m)).Im:=.view _ _ λy a=>by
 simp only[Zi,V.cells,List.mem_cons,List.not_mem_nil,or_false]at a
 rcases a with rfl|rfl|rfl|rfl|rfl|rfl
 exact .str _;exact Uu Zv9 _;exact Uu Z4y _;exact Uu Zv9 _;exact Uu (vtIm d) _;exact Uu (trIm d) _
theorem Zjs(G:Nat->V)(b:GExp G)(c d:Col)(m:MdM)(e:m.name.length<1000000000000000):Spec Tryz.prog G 103 [Zw c d m] Zj (λv _=>v=U8 (m.p.ruleF 0)):=by
 have g:=b.ok;refine Zo 0 9 [.cell 2 185] Tryz.func103 λX=>?_
 have f:m.p.ruleF 0=if P6 m.name=2 then(0,0,0)else(1,0,130):=rfl
 rw[f];simp only[Zi];refine Z ?_;intro j i;refine Z ?_;refine Zc g ?_ (s:=Ry G b m.name e)
 by_cases h:P6 m.name=2
 rw[if_pos h]
 have a:((P6 m.name:Int) != 2)=false:=by simp[h]
 exact Zh a;rw[if_neg h]
 have a:((P6 m.name:Int) != 2)=true:=by
  have:¬ (P6 m.name:Int)=2:=zo;simpa using this
 exact Zh a
theorem Zis(G:Nat->V)(g:GExp G)(c d:Col)(m:MdM)(b:MdB m):Spec Tryz.prog G 104 [Zw c d m] Zj (λv _=>v=U8 (m.p.ruleF 1)):=by
 have e:=g.ok;refine Zo 0 7 [.cell 2 185] Tryz.func104 λX=>?_;have j:m.p.ruleF 1=Xq 2 64 m.p.varB m.vars.l.length:=rfl;rw[j];have k:=b.nv;simp only[Zi];refine Z ?_;intro n h;refine AW.weak (Zl (λo=>o==1) (l:=[(1,.view .new (Zw c d m)),(2,.ptr 2 h 0)]) (m:=[(2,.cells .new h 0 [.int .u8 0,.int .i64 0,.int .i64 0])]) ?_ ?_) ?_;refine Zs ?_;exact⟨Fz.ptr (v:=Zw c d m) (c:=.new) (fz:=0) zp zp,Zb⟩;simp only[Zt,Zv,and_true];exact FzO.keep rfl zp;refine Zf Zi ?_;refine Zn e ?_ (s:=Zsb G e c.ent 2 64 m.vars zo (f:=152) (cap:=[.view .old (Zw c.ent d.ent m)]) (p:=m.p.varB) ⟨zk,Zxi c d m,λi x a=>Zq1 G g .old c.ent d.ent m zo i a (b.var x (List.mem_of_getElem? a))⟩);generalize Xq 2 64 m.p.varB m.vars.l.length=r;simp only[U8];refine Zs ?_;exact Zr
theorem Zo0(G:Nat->V)(g:GExp G)(c d:Col)(m:MdM)(b:MdB m):Spec Tryz.prog G 105 [Zw c d m] Zj (λv _=>v=U8 (m.p.ruleF 2)):=by
 have e:=g.ok;refine Zo 0 7 [.cell 2 185] Tryz.func105 λX=>?_;have j:m.p.ruleF 2=Xq 3 64 m.p.signalB m.events.l.length:=rfl;rw[j];have k:=b.ne;simp only[Zi];refine Z ?_;intro n h;refine AW.weak (Zl (λo=>o==1) (l:=[(1,.view .new (Zw c d m)),(2,.ptr 2 h 0)]) (m:=[(2,.cells .new h 0 [.int .u8 0,.int .i64 0,.int .i64 0])]) ?_ ?_) ?_;refine Zs ?_;exact⟨Fz.ptr (v:=Zw c d m) (c:=.new) (fz:=0) zp zp,Zb⟩;simp only[Zt,Zv,and_true];exact FzO.keep rfl zp;refine Zf Zi ?_;refine Zn e ?_ (s:=Zub G e c.ent 3 64 m.events zo (f:=156) (cap:=[.view .old (Zw c.ent d.ent m)]) (p:=m.p.signalB) ⟨zk,Zxi c d m,λi x a=>Zr1 G g .old c.ent d.ent m zo i a (b.ev x (List.mem_of_getElem? a))⟩);generalize Xq 3 64 m.p.signalB m.events.l.length=r;simp only[U8];refine Zs ?_;exact Zr
theorem Zp0(G:Nat->V)(j:GExp G)(c d:Col)(m:MdM)(b:MdB m):Spec Tryz.prog G 106 [Zw c d m] Zj (λv _=>v=U8 (m.p.ruleF 3)):=by
 have g:=j.ok;refine Zo 0 12 [.cell 2 185] Tryz.func106 λX=>?_
 have n:m.p.ruleF 3=if m.regions.l=[]then(4,0,130)else Xq 4 512 m.p.regionB m.regions.l.length:=rfl
 rw[n];have t:=b.nr;simp only[Zi];refine Z ?_;intro u k;refine AW.weak (Zl (λo=>o==1) (l:=[(1,.view .new (Zw c d m)),(2,.ptr 2 k 0)]) (m:=[(2,.cells .new k 0 [.int .u8 0,.int .i64 0,.int .i64 0])]) ?_ ?_) ?_;refine Zs ?_;exact⟨Fz.ptr (v:=Zw c d m) (c:=.new) (fz:=0) zp zp,Zb⟩;simp only[Zt,Zv,and_true];exact FzO.keep rfl zp
 by_cases h:m.regions.l=[]
 rw[if_pos h]
 have q:(((m.regions.l.length:Nat):Int)==0)=true:=by rw[h]<;>rfl
 exact Zq (zi q Zi);rw[if_neg h]
 have q:(((m.regions.l.length:Nat):Int)==0)=false:=by
  have:m.regions.l.length≠0:=λe=>h (List.length_eq_zero_iff.1 e);have:¬ ((m.regions.l.length:Nat):Int)=0:=zo;simpa using this
 refine Zf (zi q Zi) ?_;refine Zn g ?_ (s:=Zvb G g c.ent 4 512 m.regions zo (f:=159) (cap:=[.view .old (Zw c.ent d.ent m)]) (p:=m.p.regionB) ⟨zk,Zxi c d m,λi x a=>Zs1 G j .old c.ent d.ent m i a (b.rg x (List.mem_of_getElem? a))⟩);generalize Xq 4 512 m.p.regionB m.regions.l.length=r;simp only[U8];refine Zs ?_;exact Zr
theorem Zn0(G:Nat->V)(g:GExp G)(c d:Col)(m:MdM)(a:MdB m):Spec Tryz.prog G 107 [Zw c d m] Zj (λv _=>v=U8 (m.p.ruleF 4)):=by
 have e:=g.ok;refine Zo 0 7 [.cell 2 185] Tryz.func107 λX=>?_
 have j:m.p.ruleF 4=Xq 5 512 (λi=>m.p.vertexB (m.p.vx i)) m.verts.l.length:=by
  show Xq 5 512 _ m.p.vertices.length=_
  rw[m.nv]
 rw[j];have k:=a.nx;have n:=a.ne;simp only[Zi];refine Z ?_;intro q h;refine AW.weak (Zl (λo=>o==1) (l:=[(1,.view .new (Zw c d m)),(2,.ptr 2 h 0)]) (m:=[(2,.cells .new h 0 [.int .u8 0,.int .i64 0,.int .i64 0])]) ?_ ?_) ?_;refine Zs ?_;exact⟨Fz.ptr (v:=Zw c d m) (c:=.new) (fz:=0) zp zp,Zb⟩;simp only[Zt,Zv,and_true];exact FzO.keep rfl zp;refine Zf Zi ?_
 refine Zn e ?_ (s:=Jh G e c.ent d.ent 5 512 m.verts zo (f:=163) (cap:=[.view .old (Zw c.ent d.ent m)]) (p:=λi=>m.p.vertexB (m.p.vx i)) ⟨zk,Zxi c d m,λi x b=>by
  obtain⟨k1,k2,k3⟩:=a.vt x (List.mem_of_getElem? b)
  exact Zp1 G g .old c.ent d.ent _ m zo i b k1 k2 k3⟩)
 generalize Xq 5 512 (λi=>m.p.vertexB (m.p.vx i)) m.verts.l.length=r;simp only[U8];refine Zs ?_;exact Zr
theorem Zls(G:Nat->V)(k:GExp G)(c d:Col)(m:MdM)(h:MdB m)(g:m.p.Rt5):Spec Tryz.prog G 108 [Zw c d m] Zj (λv _=>v=U8 (m.p.ruleF 5)):=by
 have a:=k.ok;refine Zo 0 7 [.cell 2 185] Tryz.func108 λX=>?_
 have j:m.p.ruleF 5=Xq 5 512 m.p.deepB m.verts.l.length:=by
  show Xq 5 512 _ m.p.vertices.length=_
  rw[m.nv]
 rw[j];have n:=h.nx;simp only[Zi];refine Z ?_;intro q b;refine AW.weak (Zl (λo=>o==1) (l:=[(1,.view .new (Zw c d m)),(2,.ptr 2 b 0)]) (m:=[(2,.cells .new b 0 [.int .u8 0,.int .i64 0,.int .i64 0])]) ?_ ?_) ?_;refine Zs ?_;exact⟨Fz.ptr (v:=Zw c d m) (c:=.new) (fz:=0) zp zp,Zb⟩;simp only[Zt,Zv,and_true];exact FzO.keep rfl zp;refine Zf Zi ?_;refine Zn a ?_ (s:=Jh G a c.ent d.ent 5 512 m.verts zo (f:=166) (cap:=[.view .old (Zw c.ent d.ent m)]) (p:=m.p.deepB) ⟨zk,Zxi c d m,λi x e=>Zgt G a .old c.ent d.ent _ m g i e⟩);generalize Xq 5 512 m.p.deepB m.verts.l.length=r;simp only[U8];refine Zs ?_;exact Zr
theorem rc_way(c d:Col)(m:MdM):[V.view .old (.func (.func 168) [] [.view .old (Zw c.ent d.ent m)]),.view .old (Zw c.ent d.ent m)].map (V.recol Col.ent)=[V.view .old (.func (.func 168) [] [.view .old (Zw c.ent d.ent m)]),.view .old (Zw c.ent d.ent m)]:=by
 simp only[List.map_cons,List.map_nil,V.recol,Yq,Vq,Ij];rfl
theorem Zhs(G:Nat->V)(h:GExp G)(c d:Col)(m:MdM)(b:MdB m):Spec Tryz.prog G 109 [Zw c d m] Zj (λv _=>v=U8 (m.p.ruleF 6)):=by
 have g:=h.ok;refine Zo 0 9 [.cell 2 185] Tryz.func109 λX=>?_
 have j:m.p.ruleF 6=Xq 6 512 (λi=>m.p.wayB (m.p.wy i)) m.ways.l.length:=by
  show Xq 6 512 _ m.p.ways.length=_
  rw[m.nw]
 rw[j];have k:=b.nw;have n:=b.ne;simp only[Zi];refine Z ?_;intro t a;refine AW.weak (Zl (λo=>o==1) (l:=[(1,.view .new (Zw c d m)),(2,.ptr 2 a 0)]) (m:=[(2,.cells .new a 0 [.int .u8 0,.int .i64 0,.int .i64 0])]) ?_ ?_) ?_;refine Zs ?_;exact⟨Fz.ptr (v:=Zw c d m) (c:=.new) (fz:=0) zp zp,Zb⟩;simp only[Zt,Zv,and_true];exact FzO.keep rfl zp;refine Z ?_;intro q;refine AW.weak (Zl (λo=>o==3) (l:=[(1,.view .new (Zw c d m)),(2,.ptr 2 a 0),(3,.view .new (.func (.func 168) [] [.view .new (Zw c d m)]))]) (m:=[(2,.cells .new a 0 [.int .u8 0,.int .i64 0,.int .i64 0])]) ?_ ?_) ?_;refine Zs ?_;exact⟨Zb,Zb,Fz.ptr (v:=.func (.func 168) [] [.view .new (Zw c d m)]) (c:=.new) (fz:=0) zp zp⟩;simp only[Zt,Zv,and_true];exact FzO.keep rfl zp;refine Zf Zi ?_
 refine Zn g ?_ (s:=Ztb G g c.ent d.ent 6 512 m.ways zo (f:=170) (cap:=[.view .old (.func (.func 168) [] [.view .old (Zw c.ent d.ent m)]),.view .old (Zw c.ent d.ent m)]) (p:=λi=>m.p.wayB (m.p.wy i)) ⟨zk,rc_way c d m,λi x e=>by
  obtain⟨k1,k2⟩:=b.wy x (List.mem_of_getElem? e)
  exact Zo1 G h .old .old .old c.ent d.ent c.ent d.ent _ m zo i e k1 k2⟩)
 generalize Xq 6 512 (λi=>m.p.wayB (m.p.wy i)) m.ways.l.length=r;simp only[U8];refine Zs ?_;exact Zr
def K5(rs:Nat->Nat×Int×Int)(n:Nat):Nat×Int×Int:=match(List.range n).find? (λi=>(rs i).1 != 0)with|some i=>rs i|none=>(0,0,0)
theorem V9{a:Nat->Nat×Int×Int}{n i:Nat}(hi:i<n)(h:∀ j,j<i->(a j).1=0)(c:(a i).1≠0):K5 a n=a i:=by
 have:(List.range n).find? (λi=>(a i).1 != 0)=some i:=by
  rw[List.find?_range_eq_some];exact⟨zu c,List.mem_range.2 hi,λj b=>by simp[h j b]⟩
 rw[K5,this]
theorem Fa{a:Nat->Nat×Int×Int}{n:Nat}(h:∀ j,j<n->(a j).1=0):K5 a n=(0,0,0):=by
 rw[K5,List.find?_eq_none.2 (λj b=>by simp[h j (List.mem_range.1 b)])]
theorem Z8q{a b:Nat}{p:Nat->Bool}{n:Nat}(c:a≠0)(h:(Xq a b p n).1=0):Xq a b p n=(0,0,0):=by
 rw[Xq]at h⊢
 cases d:(List.range n).find? (λi=>i==b || !p i)with
 |some i=>rw[d]at h;exact absurd h c
 |none=>rfl
theorem Zki(m:PM):m.rightP=K5 m.ruleF 7:=by
 by_cases a:(m.ruleF 0).1=0
 rotate_left;rw[V9 (i:=0) zd (λj b=>absurd b (Nat.not_lt_zero _)) a,PM.rightP,N8,if_pos a]
 by_cases c:(m.ruleF 1).1=0
 rotate_left
 rw[V9 (i:=1) zd (λj b=>by
  have:j=0:=zo
  rw[this];exact a) c,PM.rightP,N8,if_neg (λh=>h a),N8,if_pos c]
 by_cases d:(m.ruleF 2).1=0
 rotate_left
 rw[V9 (i:=2) zd (λj b=>by
  have:j=0\/j=1:=zo
  rcases this with h|h<;>rw[h]<;>assumption) d,PM.rightP,N8,if_neg (λh=>h a),N8,if_neg (λh=>h c),N8,if_pos d]
 by_cases f:(m.ruleF 3).1=0
 rotate_left
 rw[V9 (i:=3) zd (λj b=>by
  have:j=0\/j=1\/j=2:=zo
  rcases this with h|h|h<;>rw[h]<;>assumption) f,PM.rightP,N8,if_neg (λh=>h a),N8,if_neg (λh=>h c),N8,if_neg (λh=>h d),N8,if_pos f]
 by_cases g:(m.ruleF 4).1=0
 rotate_left
 rw[V9 (i:=4) zd (λj b=>by
  have:j=0\/j=1\/j=2\/j=3:=zo
  rcases this with h|h|h|h<;>rw[h]<;>assumption) g,PM.rightP,N8,if_neg (λh=>h a),N8,if_neg (λh=>h c),N8,if_neg (λh=>h d),N8,if_neg (λh=>h f),N8,if_pos g]
 by_cases k:(m.ruleF 5).1=0
 rotate_left
 rw[V9 (i:=5) zd (λj b=>by
  have:j=0\/j=1\/j=2\/j=3\/j=4:=zo
  rcases this with h|h|h|h|h<;>rw[h]<;>assumption) k,PM.rightP,N8,if_neg (λh=>h a),N8,if_neg (λh=>h c),N8,if_neg (λh=>h d),N8,if_neg (λh=>h f),N8,if_neg (λh=>h g),N8,if_pos k]
 have e:m.rightP=m.ruleF 6:=by
  rw[PM.rightP,N8,if_neg (λh=>h a),N8,if_neg (λh=>h c),N8,if_neg (λh=>h d),N8,if_neg (λh=>h f),N8,if_neg (λh=>h g),N8,if_neg (λh=>h k)]
 rw[e]
 by_cases l:(m.ruleF 6).1=0
 rotate_left
 rw[V9 (i:=6) zd (λj b=>by
  have:j=0\/j=1\/j=2\/j=3\/j=4\/j=5:=zo
  rcases this with h|h|h|h|h|h<;>rw[h]<;>assumption) l]
 rw[Fa (λj b=>by
  have:j=0\/j=1\/j=2\/j=3\/j=4\/j=5\/j=6:=zo
  rcases this with h|h|h|h|h|h|h<;>rw[h]<;>assumption)]
 exact Z8q zd (show(Xq 6 512 (λi=>m.wayB (m.wy i)) m.ways.length).1=0 from l)
def M8(c d:Col)(m:MdM)(f:FuncId):V:=.func (.func f) [Zw c d m] []
theorem Zcd(c d:Col)(m:MdM)(f:FuncId):M8 c d m f=.func (.func f) [Zw c d m] []:=rfl
theorem Z05(g:Col->Col)(c d:Col)(m:MdM)(f:FuncId):(M8 c d m f).recol g=M8 (g c) (g d) m f:=by
 simp only[Zcd,V.recol,Yq,List.map_cons,List.map_nil,Vq]
theorem Zdt(G:Nat->V)(C:Y6 G)(c1 c d:Col)(m:MdM)(l:Sl FuncId)(E:l.l.length<1000000)(g:Nat->Nat×Int×Int)
  (h:∀ k f,l.l[k]?=some f->(∀ j,j<k->(g j).1=0)->Z7 Tryz.prog f=true/\Spec Tryz.prog G f [Zw c.ent d.ent m] Zj (λv _=>v=U8 (g k))):
  Spec Tryz.prog G 102 [Za c1 1 (M8 c d m) l] Zj (λv _=>v=U8 (K5 g l.l.length)):=by
 refine Zo 0 20 [.cell 2 185] Tryz.func102 λX=>?_;refine Z ?_;intro z;refine Z ?_
 refine Yc l.l.length (λk (_:Unit)=>st [(2,.ptr 2 z 0),(6,Za c1 1 (M8 c d m) l),(7,.int .i64 l.l.length),(8,.int .i64 k)] [(2,.cells .new z 0 [.int .u8 0,.int .i64 0,.int .i64 0])])
  (λk _=>∀ j,j<k->(g j).1=0) 0 () (Nat.zero_le _) (λi h=>absurd h (Nat.not_lt_zero _)) (Weak.st zp zp) ?_
 intro k _ F o J y
 by_cases b:k<l.l.length
 have a:decide ((k:Int)<(l.l.length:Int))=true:=zT;have w:=List.getElem?_eq_getElem b;generalize l.l[k]=x at w;have A:IntKind.i64.wrap ((k:Int)+1)=(k:Int)+1:=Wy zo zo;obtain⟨B,n⟩:=h k x w o;refine Zf (zi a (zi w Zcd)) ?_;refine Zn C ?_ (e:=B) (s:=n);generalize t:g k=r at n;simp only[U8];refine Zs ?_;intro I
 by_cases p:r.1=0
 have q:(((r.1:Nat):Int) != 0)=false:=by simp[p]
 refine Zf (zi q A) ?_;refine y _ ⟨b,(),λj H=>?_,Weak.st zp zp⟩
 by_cases D:j=k
 rw[D,t];exact p;exact o j zo
 have q:(((r.1:Nat):Int) != 0)=true:=by
  have:¬ ((r.1:Nat):Int)=0:=zo;simpa using this
 rw[V9 b o (by rw[t];exact p),t];exact Zq q;have u:k=l.l.length:=zo;subst u;have a:decide ((l.l.length:Int)<(l.l.length:Int))=false:=zS;rw[Fa o];exact Zq a
theorem fmIm(c d:Col)(m:MdM)(f:FuncId):∀ y∈(M8 c d m f).cells,y.Im:=λy b=>by
 simp only[Zcd,V.cells,List.mem_cons,List.not_mem_nil,or_false]at b;rw[b];refine .func _ _ _ (λx a=>?_) (λx a=>by cases a);rw[List.mem_singleton.1 a]
 cases mdIm .old c d m with
 |view _ _ h=>exact .agg _ h
def rgF:List FuncId:=[103,104,105,106,107,108,109]
theorem Rd.rgF{H:Heap}{g:Nat}{c d:Col}{m:MdM}(h:H 20=.cells .new g 0 (flat (rgF.map (M8 c d m)))):Rd H (.msl 20 g 0 7 1) (Za .old 1 (M8 c.ent d.ent m) (.mk false Go.Hs.rgF)):=
 Rd.msl (l:=Go.Hs.rgF) (off:=0) (n:=7) (m:=1) (f:=M8 c d m) (f':=M8 c.ent d.ent m) (g:=g) (fz:=0) (c:=.new) h (λ_=>rfl) (fmIm c d m) (λf=>Z05 _ c d m f) zd
theorem flFl(r:Nat×Int×Int):(U8 r).Fl:=.agg _ λy a=>by
 simp only[List.mem_cons,List.not_mem_nil,or_false]at a
 rcases a with rfl|rfl|rfl<;>exact .int _ _
theorem Dn(G:Nat->V)(a:GExp G)(c d:Col)(m:MdM)(b:MdB m):Spec Tryz.prog G 68 [Zw c d m] Zj (λv _=>v=.tuple [.int .u8 m.p.rightP.1,.int .i64 m.p.rightP.2.1,.int .i64 m.p.rightP.2.2]):=by
 have e:=a.ok;refine Zo 0 28 [.tmp 2,.tmp 3,.tmp 4] Tryz.func68 λX=>?_;rw[Zki];simp only[Zi];refine Z ?_;intro i;refine Z ?_;intro g;refine Zs ?_;refine CallA.bor e [Za .old 1 (M8 c.ent d.ent m) (.mk false rgF)] zk ⟨Rd.rgF zp,trivial⟩ ?_;refine(Zdt G e .old c.ent d.ent m (.mk false rgF) zd m.p.ruleF ?_).mono ?_
 .intro k f hk h0
  rw[Ij,Ij]
  match k,hk with
  |0,hk=>obtain rfl:=Option.some.inj hk;exact⟨zk,Zjs G a _ _ m b.nm⟩
  |1,hk=>obtain rfl:=Option.some.inj hk;exact⟨zk,Zis G a _ _ m b⟩
  |2,hk=>obtain rfl:=Option.some.inj hk;exact⟨zk,Zo0 G a _ _ m b⟩
  |3,hk=>obtain rfl:=Option.some.inj hk;exact⟨zk,Zp0 G a _ _ m b⟩
  |4,hk=>obtain rfl:=Option.some.inj hk;exact⟨zk,Zn0 G a _ _ m b⟩
  |5,hk=>obtain rfl:=Option.some.inj hk;exact⟨zk,Zls G a _ _ m b (PM.rt_vt (h0 3 zd) (h0 4 zd))⟩
  |6,hk=>obtain rfl:=Option.some.inj hk;exact⟨zk,Zhs G a _ _ m b⟩
  |k+7,hk=>cases hk
 rintro _ _ rfl;refine⟨flFl _,?_⟩
 show _
 simp only[show(Sl.mk false rgF).l.length=7 from rfl];generalize K5 m.p.ruleF 7=r;simp only[U8];refine Zs ?_;intro h;refine ZT e ?_;exact Zr
end Go.Hs
end

section
namespace Go.Hs
@[go_sem] theorem keepK_two{P:Program}(t t1 d:TypeId)(a v f c e b:V)(H:Heap)(A:Prop):Z4x P [(t1,f,c),(d,e,b)] t a v H A=(((t=t1/\a=f/\v=c)\/(t=d/\a=e/\v=b))/\(Wc P H t1 f=some c/\Wc P H d e=some b)/\A):=by
 apply propext
 constructor
 rintro⟨⟨k,h⟩,g⟩;have j:=h _ (List.mem_cons_self ..);have i:=h _ (List.mem_cons_of_mem _ (List.mem_cons_self ..))
 grind
 rintro⟨k,⟨j,i⟩,g⟩;refine⟨⟨by grind,λp l=>?_⟩,g⟩
 grind
def Wt(B:Nat)(g:Nat->Nat)(l:Nat->List Int)(H:Heap):Heap:=λo=>if B<=o/\o<B+1000000 then Yb (g (o-B)) (V.int .i64) (l (o-B))else H o
def Su(B:Nat)(g:Nat->Nat)(l:Nat->List Int)(j:Nat):V:=grown (B+j) (g j) 1 (l j)
theorem S5{B:Nat}{g:Nat->Nat}{l:Nat->List Int}{H:Heap}{j:Nat}(a:j<1000000):Wt B g l H (B+j)=Yb (g j) (V.int .i64) (l j):=by
 unfold Wt
 grind
theorem Tj{B:Nat}{g:Nat->Nat}{l:Nat->List Int}{H:Heap}{o:Nat}(a:o<B\/B+1000000<=o):Wt B g l H o=H o:=by
 unfold Wt
 grind
theorem Zc8{B:Nat}{g:Nat->Nat}{l:Nat->List Int}{H:Heap}{j k:Nat}{r:List Int}(a:j<1000000):Ya (Wt B g l H) (B+j) (Yb k (V.int .i64) r)=Wt B (Ya g j k) (Ya l j r) H:=by
 funext o
 by_cases e:o=B+j
 subst e;rw[Ym,S5 a,Ym,Ym];rw[Zp _ _ e];unfold Wt
 split
 rw[Zp _ _ zo,Zp _ _ zo];rfl
theorem Zek{B:Nat}{g:Nat->Nat}{l:Nat->List Int}{j k:Nat}{r:List Int}:Su B (Ya g j k) (Ya l j r) j=grown (B+j) k 1 r:=by
 unfold Su;simp_all
theorem Bb{B:Nat}{g:Nat->Nat}{l:Nat->List Int}{i j k:Nat}{r:List Int}(h:i≠j):Su B (Ya g j k) (Ya l j r) i=Su B g l i:=by
 unfold Su;rw[Zp _ _ h,Zp _ _ h]
theorem Zfk{B:Nat}{g:Nat->Nat}{l:Nat->List Int}{n j k:Nat}{r:List Int}(a:j<n):((List.range n).map (Su B g l)).set j (grown (B+j) k 1 r)=(List.range n).map (Su B (Ya g j k) (Ya l j r)):=by
 apply List.ext_getElem;simp;intro i c b;rw[List.getElem_set];simp only[List.getElem_map,List.getElem_range]
 split
 rename_i h;subst h;rw[Zek];rename_i h;rw[Bb (λe=>h e.symm)]
theorem Zb8{B:Nat}{g:Nat->Nat}{l:Nat->List Int}{n k:Nat}{r:List Int}:(List.range n).map (Su B g l)++[grown (B+n) k 1 r]=(List.range (n+1)).map (Su B (Ya g n k) (Ya l n r)):=by
 rw[List.range_succ,List.map_append,List.map_singleton,Zek]
 congr 1
 refine List.map_congr_left λi a=>?_;rw[Bb (by grind)]
def Sb:List (Int×List Int)->Int->Int->List (Int×List Int)
 |[],k,r=>[(k,[r])]
 |p::L,k,r=>if p.1=k then(p.1,p.2++[r])::L else p::Sb L k r
def St:List (Int×List Int)->Int->Nat
 |[],_=>0
 |p::L,k=>if p.1=k then 0 else St L k+1
def Y9(L:List (Int×List Int))(j:Nat):List Int:=(L.getD j (0,[])).2
theorem Gc:∀ (L:List (Int×List Int)) (k:Int),St L k<=L.length
 |[],_=>Nat.le_refl _
 |p::L,k=>by
  rw[St]
  split
  grind
  exact Nat.succ_le_succ (Gc L k)
theorem D0:∀ (L:List (Int×List Int)) (k r:Int),(Sb L k r).length<=L.length+1
 |[],_,_=>Nat.le_refl _
 |p::L,k,r=>by
  rw[Sb]
  split
  grind
  exact Nat.succ_le_succ (D0 L k r)
theorem Mo:∀ (L:List (Int×List Int)) (k r:Int) (j:Nat),Y9 (Sb L k r) j=Ya (Y9 L) (St L k) (Y9 L (St L k)++[r]) j
 |[],k,r,j=>by
  cases j<;>rfl
 |p::L,k,r,j=>by
  rw[Sb,St]
  split
  cases j<;>rfl
  .cases j with
   |zero=>rfl
   |succ j=>
    have:=Mo L k r j
    show Y9 (Sb L k r) j=_
    rw[this];simp only[Ya]
    by_cases e:j=St L k
    subst e;rw[if_pos rfl,if_pos rfl];rfl;rw[if_neg e,if_neg zo];rfl
def Xh(L:List (Int×List Int)):List V:=L.map λp=>.int .i64 p.1
theorem Ho:∀ (L:List (Int×List Int)) (k r:Int),St L k<L.length->Xh (Sb L k r)=Xh L/\(Sb L k r).length=L.length
 |[],_,_,h=>absurd h (Nat.not_lt_zero _)
 |p::L,k,r,h=>by
  rw[St]at h;rw[Sb]
  split
  exact⟨rfl,rfl⟩;rename_i a;rw[if_neg a]at h;obtain⟨b,c⟩:=Ho L k r (Nat.lt_of_succ_lt_succ h);exact⟨by show _::_=_::_;rw[show List.map _ (Sb L k r)=Xh (Sb L k r)from rfl,b];rfl,by grind⟩
theorem Dz:∀ (L:List (Int×List Int)) (k r:Int),St L k=L.length->Xh (Sb L k r)=Xh L++[.int .i64 k]/\(Sb L k r).length=L.length+1
 |[],_,_,_=>⟨rfl,rfl⟩
 |p::L,k,r,h=>by
  rw[St]at h;rw[Sb]
  split
  grind
  rename_i a;rw[if_neg a]at h;obtain⟨b,c⟩:=Dz L k r (Nat.succ.inj h);exact⟨by show _::_=_::_;rw[show List.map _ (Sb L k r)=Xh (Sb L k r)from rfl,b];rfl,by grind⟩
theorem Fb:∀ (L:List (Int×List Int)) (k:Int),Vu (.int .i64) (.int .i64 k) (Xh L)=some (if St L k<L.length then some (St L k)else none)
 |[],k=>by rfl
 |p::L,k=>by
  show Vu (.int .i64) (.int .i64 k) (.int .i64 p.1::Xh L)=_
  rw[Vu,if_pos rfl,St,List.length_cons]
  by_cases e:p.1=k
  grind
  rw[if_neg e,if_neg (λh=>e h.symm),Fb L k]
  grind
theorem Gh(k:Int):∀ (L:List (Int×List Int)) (vs:List V),vs.length=L.length->S4 (.int .i64) (.int .i64 k) (Xh L) vs=some vs[St L k]?
 |[],vs,h=>by
  rw[List.length_eq_zero_iff.1 h];rfl
 |p::L,[],h=>by grind
 |p::L,v::vs,h=>by
  show S4 (.int .i64) (.int .i64 k) (.int .i64 p.1::Xh L) (v::vs)=_
  rw[S4,if_pos rfl,St]
  by_cases e:p.1=k
  grind
  rw[if_neg (λh=>e h.symm),if_neg e,Gh k L vs (by grind)];rfl
def Q9(B:Nat)(g:Nat->Nat)(L:List (Int×List Int)):List V:=(List.range L.length).map (Su B g (Y9 L))
theorem Z97(B:Nat)(g:Nat->Nat)(L:List (Int×List Int)):(Q9 B g L).length=L.length:=by simp[Q9]
theorem Za8(B:Nat)(g:Nat->Nat)(L:List (Int×List Int))(k:Int):((Q9 B g L)[St L k]?).getD .nils=Su B g (Y9 L) (St L k):=by
 unfold Q9
 by_cases q:St L k<L.length
 grind
 have h:St L k=L.length:=by have:=Gc L k;omega
 rw[List.getElem?_eq_none (by grind),h];unfold Su Y9;rw[List.getD_eq_getElem?_getD,List.getElem?_eq_none (Nat.le_refl _)];rfl
def Kx(B:Nat)(g:Nat->Nat)(L:List (Int×List Int))(k:Int)(u:V):List V:=if St L k<L.length then(Q9 B g L).set (St L k) u else Q9 B g L++[u]
theorem Zzi(B:Nat)(g:Nat->Nat)(L:List (Int×List Int))(k r:Int)(u:V):Ak (.int .i64) (.int .i64 k) u (Xh L) (Q9 B g L)=some (Xh (Sb L k r),Kx B g L k u):=by
 unfold Ak Kx;rw[Fb]
 by_cases q:St L k<L.length
 rw[if_pos q,if_pos q,(Ho L k r q).1];rw[if_neg q,if_neg q,(Dz L k r (by have:=Gc L k;omega)).1]
theorem Zfi(B:Nat)(g:Nat->Nat)(L:List (Int×List Int))(k r:Int)(t:Nat):Kx B g L k (grown (B+St L k) t 1 (Y9 L (St L k)++[r]))=Q9 B (Ya g (St L k) t) (Sb L k r):=by
 have e:Y9 (Sb L k r)=Ya (Y9 L) (St L k) (Y9 L (St L k)++[r]):=funext λj=>Mo L k r j;unfold Kx Q9;rw[e]
 by_cases q:St L k<L.length
 rw[if_pos q,Zfk q,(Ho L k r q).2]
 have h:St L k=L.length:=by have:=Gc L k;omega
 rw[if_neg q,(Dz L k r h).2,h,Zb8]
theorem Zox(B:Nat)(g:Nat->Nat)(L:List (Int×List Int))(k:Int)(a t b s:Nat){u c:V}(h:Rn a t b s u c):(Kx B g L k c).length=(Kx B g L k u).length/\∀ i (h1:i<(Kx B g L k u).length) (h2:i<(Kx B g L k c).length),Rn a t b s (Kx B g L k u)[i] (Kx B g L k c)[i]:=by
 unfold Kx
 split
 exact h.set _ _;exact h.app _
theorem Qc{E:Ent}{τ : Nat->V}{H B:Heap}{l:List (Nat×V)}{m:List (Nat×AObj)}(h:S8 τ l)(c:S8 H m)(d:∀ o,B o=.dead\/B o=H o):Weak E ⟨τ,H⟩ ⟨Z5 La l,Z5 B m⟩:=by
 refine Tc (λ_=>false) (λt=>?_) (λo=>?_)
 rcases Ww (τ := La) (f := τ) t l (W9 h)with a|a
 exact .inl a;refine .inr ?_
 show Fz _ H (τ t) (Z5 La l t)
 rw[a];exact Zb
 show FzO _ H o (Z5 B m o)
 rcases Ww (τ := B) (f:=H) o m (W9 c)with a|a
 rw[a]
 rcases d o with b|b
 rw[b];trivial;rw[b];exact FzO.same rfl;rw[a];exact FzO.same rfl
theorem Sa{α : Type}{G:Nat -> α}{o:Nat}:∀ {m:List (Nat × α)} {lo:Nat},(m.all λp=>Nat.blt p.1 lo)=true->lo<=o->Z5 G m o=G o
 |[],_,_,_=>rfl
 |p::m,lo,h,ho=>by
  rw[List.all_cons,Bool.and_eq_true,Nat.blt_eq]at h;rw[Wp,Zp _ _ zo,Sa h.2 ho]
theorem L0{B B':Nat}{g b:Nat->Nat}{l a:Nat->List Int}{H:Heap}(h:B+1000000<=B'\/B'+1000000<=B):Wt B g l (Wt B' b a H)=Wt B' b a (Wt B g l H):=by
 funext o
 unfold Wt
 grind
theorem Zdk{B:Nat}{g:Nat->Nat}{l:Nat->List Int}{H:Heap}{j t:Nat}{r:List Int}(a:j<1000000):∀ {m:List (Nat×AObj)},(m.all λp=>Nat.blt p.1 B)=true->Ya (Z5 (Wt B g l H) m) (B+j) (Yb t (V.int .i64) r)=Z5 (Wt B (Ya g j t) (Ya l j r) H) m
 |[],_=>Zc8 a
 |p::m,h=>by
  rw[List.all_cons,Bool.and_eq_true,Nat.blt_eq]at h;rw[Wp,Wp,<- Zdk a h.2]
  funext o
  simp only[Ya]
  grind
theorem Fu{P:Program}{E:Ent}{c:Code}{Q:Exit->AS->Prop}{n:Nat->V}{H' H0:Heap}{g:Nat->Nat}{l:Nat->List Int}{m:List (Nat×AObj)}(lt:List (Nat×V))(x B d j:Nat)(F:V->AObj){o2 g2:Nat}{r:List Int}(u:r≠[])(v:o2=B+j\/o2=d)(y:j<1000000)
  (A:∀ a g b k,RnX a g b k (F (grown a g 1 r)) (F (grown b k 1 r))) (C:H' o2=Yb g2 (V.int .i64) r) (s:H' x=F (grown o2 g2 1 r)) (z:∀ o,o≠x->o≠B+j->o≠d->Z5 (Wt B g l H0) m o=.dead\/H' o=Z5 (Wt B g l H0) m o) (q : ∀ t,Z5 La lt t=.top\/Z5 La lt t = n t)
  (h:∀ t,AW P E c Q ⟨Z5 La lt,Z5 (Wt B (Ya g j t) (Ya l j r) H0) ((x,F (grown (B+j) t 1 r))::(d,.dead)::m)⟩)
  (w:(((x,AObj.dead)::(d,.dead)::m).all λp=>Nat.blt p.1 B)=true:=by rfl) (i:x≠d:=by decide):AW P E c Q ⟨n,H'⟩:=by
 have f:=w;rw[List.all_cons,List.all_cons,Bool.and_eq_true,Bool.and_eq_true,Nat.blt_eq,Nat.blt_eq]at f;obtain⟨I,G,D⟩:=f;refine Zo4 (τ := Z5 La lt) (H:=Z5 (Wt B g l H0) m) x F (B+j) d o2 g2 u v zo i zo A C s z q λt=>?_;have e:=Zdk (B:=B) (g:=g) (l:=l) (H:=H0) (t:=t) (r:=r) y (m:=(x,F (grown (B+j) t 1 r))::(d,.dead)::m) (by grind);have:=h t;rw[<- e]at this;exact this
theorem N6{P:Program}{E:Ent}{c:Code}{Q:Exit->AS->Prop}{e:Nat->V}{H' H0:Heap}{g:Nat->Nat}{l:Nat->List Int}{m:List (Nat×AObj)}(lt:List (Nat×V))(x B d j:Nat)(F:V->AObj){o2 g2:Nat}{r:List Int}(s:r≠[])(u:o2=B+j\/o2=d)(w:j<1000000)
  (z:∀ a g b k,RnX a g b k (F (grown a g 1 r)) (F (grown b k 1 r))) (A:H' o2=Yb g2 (V.int .i64) r) (q:H' x=F (grown o2 g2 1 r)) (y:∀ o,o≠x->o≠B+j->o≠d->Z5 (Wt B g l H0) m o=.dead\/H' o=Z5 (Wt B g l H0) m o) (n : S8 e lt)
  (h:∀ t,AW P E c Q ⟨Z5 La lt,Z5 (Wt B (Ya g j t) (Ya l j r) H0) ((x,F (grown (B+j) t 1 r))::(d,.dead)::m)⟩)
  (v:(((x,AObj.dead)::(d,.dead)::m).all λp=>Nat.blt p.1 B)=true:=by rfl) (i:x≠d:=by decide):AW P E c Q ⟨e,H'⟩:=
 Fu lt x B d j F s u w z A q y (λt=>Ww (τ := La) (f := e) t lt (W9 n)) h v i
theorem Z87{B:Nat}{g:Nat->Nat}{l:Nat->List Int}{m:List (Nat×AObj)}(a:(m.all λp=>Nat.blt p.1 B)=true)(o:Nat):Wt B g l Zj o=.dead\/Wt B g l Zj o=Z5 (Wt B g l Zj) m o:=by
 rcases Nat.lt_or_ge o B with h|h
 exact .inl (Tj (.inl h));exact .inr (Sa a h).symm
theorem RnX.mp{a g b k B lo e:Nat}{G:Nat->Nat}{L:List (Int×List Int)}{c:Int}{ks:List V}{u d:V}(h:Rn a g b k u d):RnX a g b k (.mp lo e ks (Kx B G L c u)) (.mp lo e ks (Kx B G L c d)):=
 .inr ⟨_,_,_,_,_,rfl,rfl,(Zox B G L c a g b k h).1,(Zox B G L c a g b k h).2⟩
theorem RnX.cl{a g b k i fz t:Nat}{c:Col}{cs:List V}{u d:V}(h:Rn a g b k u d):RnX a g b k (.cells c t fz (cs.set i u)) (.cells c t fz (cs.set i d)):=
 .inl ⟨_,_,_,_,_,rfl,rfl,(h.set cs i).1,(h.set cs i).2⟩
theorem Zfb{E:Ent}(F:Nat->Bool){τ : Nat->V}{H B:Heap}{l:List (Nat×V)}{m:List (Nat×AObj)}(h:Iy F H τ l)(a:Lh F H m)(d:∀ o,B o=.dead\/(F o=false/\B o=H o)):Weak E ⟨τ,H⟩ ⟨Z5 La l,Z5 B m⟩:=by
 refine Tc F (λt=>Jq t h) (λo=>?_)
 show FzO F H o (Z5 B m o)
 induction m with
 |nil=>
  show FzO F H o (B o)
  rcases d o with q|⟨c,b⟩
  rw[q];trivial;rw[b];exact FzO.same c
 |cons p m ih=>
  rw[Wp]
  by_cases e:o=p.1
  subst e;rw[Ym];exact a.1;rw[Zp _ _ e];exact ih a.2
theorem FzL.map{F:Nat->Bool}{H:Heap}{α : Type}{f f' : α -> V}:∀ {l:List α},(∀ x∈l,Fz F H (f x) (f' x))->FzL F H (l.map f) (l.map f')
 |[],_=>trivial
 |x::r,h=>⟨h x (List.mem_cons_self ..),FzL.map λy a=>h y (List.mem_cons_of_mem _ a)⟩
def Y2(l:Nat->List Int)(n:Nat):List V:=(List.range n).map λj=>Za .new 1 (V.int .i64) (Zd (l j))
theorem FzL.fam{F:Nat->Bool}{H:Heap}{B:Nat}{g:Nat->Nat}{l:Nat->List Int}{n:Nat}(c:n<=1000000)(b:∀ j,j<1000000->F (B+j)=true)(a:∀ j,j<1000000->H (B+j)=Yb (g j) (V.int .i64) (l j)):FzL F H ((List.range n).map (Su B g l)) (Y2 l n):=
 FzL.map λj d=>Y5 (f:=V.int .i64) (b j (by grind)) (a j (by grind)) λ_=>rfl
theorem Znj(o b:Nat)(ks vs:List V):∀ l:List V,mzL o b ks vs l l
 |[]=>trivial
 |_::l=>⟨.inl rfl,Znj o b ks vs l⟩
theorem MZO.same(o b:Nat)(ks vs:List V)(ob:AObj):MZO o b ks vs ob ob:=by
 cases ob with
 |dead=>trivial
 |mp lo b' ks' vs'=>rfl
 |lp b r=>rfl
 |cells c g fz cs=>exact⟨cs,rfl,Znj o b ks vs cs⟩
def Lows(lo:Nat)(G:Heap):Prop:=∀ o,o<lo->G o=.dead
theorem Lows.none(lo:Nat):Lows lo Zj:=λ_ _=>rfl
theorem Lows.fam{lo B:Nat}{g:Nat->Nat}{l:Nat->List Int}{H:Heap}(h:Lows lo H)(b:lo<=B):Lows lo (Wt B g l H):=λo a=>(Tj (.inl zo)).trans (h o a)
theorem Lows.base{lo:Nat}{G:Heap}(h:Lows lo G){m:List (Nat×AObj)}(a:(m.all λp=>Nat.blt p.1 lo)=true)(o:Nat):G o=.dead\/G o=Z5 G m o:=by
 rcases Nat.lt_or_ge o lo with q|q
 exact .inl (h o q);exact .inr (Sa a q).symm
theorem B3{lo:Nat}{G:Heap}(h:Lows lo G){F:Nat->Bool}(b:∀ o,lo<=o->F o=false){m:List (Nat×AObj)}(a:(m.all λp=>Nat.blt p.1 lo)=true)(o:Nat):G o=.dead\/(F o=false/\G o=Z5 G m o):=by
 rcases Nat.lt_or_ge o lo with q|q
 exact .inl (h o q);exact .inr ⟨b o q,(Sa a q).symm⟩
theorem Zgy{B:Nat}{g:Nat->Nat}{l:Nat->List Int}{H H':Heap}{o:Nat}(h:H o=H' o):Wt B g l H o=Wt B g l H' o:=by
 unfold Wt
 grind
theorem Zbc{α : Type}{G a:Nat -> α}{o:Nat}(h:G o=a o):∀ m:List (Nat × α),Z5 G m o=Z5 a m o
 |[]=>h
 |p::m=>by
  rw[Wp,Wp];simp only[Ya]
  split
  rfl;exact Zbc h m
theorem Z7w{P:Program}{E:Ent}{c:Code}{Q:Exit->AS->Prop}{W:Nat->V}{H':Heap}{gO gI:Nat->Nat}{lO lI:Nat->List Int}(m:List (Nat×AObj))(lt:List (Nat×V))(x d f a e:Nat)(F:V->V->AObj){o2 g2 o3 g3:Nat}{r r':List Int}(hr:r≠[])(N:r'≠[])
  (ho:o2=4000000+a\/o2=d) (y:o3=5000000+e\/o3=f) (ha:a<1000000) (he:e<1000000)
  (S:∀ v a g b k,RnX a g b k (F (grown a g 1 r) v) (F (grown b k 1 r) v)) (R:∀ u a g b k,RnX a g b k (F u (grown a g 1 r')) (F u (grown b k 1 r')))
  (h2:H' o2=Yb g2 (V.int .i64) r) (h3:H' o3=Yb g3 (V.int .i64) r') (hx:H' x=F (grown o2 g2 1 r) (grown o3 g3 1 r'))
  (hH:∀ o,o≠x->o≠4000000+a->o≠d->o≠5000000+e->o≠f->Z5 (Wt 4000000 gO lO (Wt 5000000 gI lI Zj)) m o=.dead\/H' o=Z5 (Wt 4000000 gO lO (Wt 5000000 gI lI Zj)) m o) (hτ : S8 W lt)
  (h:∀ t t',AW P E c Q ⟨Z5 La lt,Z5 (Wt 4000000 (Ya gO a t) (Ya lO a r) (Wt 5000000 (Ya gI e t') (Ya lI e r') Zj)) ((x,F (grown (4000000+a) t 1 r) (grown (5000000+e) t' 1 r'))::(f,.dead)::(d,.dead)::m)⟩)
  (X:(((x,AObj.dead)::(f,.dead)::(d,.dead)::m).all λp=>Nat.blt p.1 4000000)=true:=by rfl) (D:(m.all λp => !Nat.beq p.1 d && !Nat.beq p.1 f)=true:=by rfl) (M:x≠d:=by decide) (L:x≠f:=by decide) (h12:d≠f:=by decide):AW P E c Q ⟨W,H'⟩:=by
 have H:=X;simp only[List.all_cons,Bool.and_eq_true,Nat.blt_eq]at H;obtain⟨b0,b2,b1,z⟩:=H
 have w:∀ (G:Heap) (s:Nat),(s=d\/s=f)->Z5 G m s=G s:=by
  intro G s hs;clear h hH X z
  induction m with
  |nil=>rfl
  |cons p m ih=>
   rw[List.all_cons,Bool.and_eq_true,Bool.and_eq_true]at D;obtain⟨⟨n,j⟩,J⟩:=D;rw[Wp,Zp _ _ (by rintro rfl;rcases hs with q|q<;>rw[q]at n j<;>simp at n j),ih J]
 have U:(m.all λp=>Nat.blt p.1 5000000)=true:=by
  rw[List.all_eq_true]at z⊢;intro p hp;have:=z p hp;rw[Nat.blt_eq]at this⊢;omega
 let Z:Heap:=Ya (Ya (Wt 5000000 gI lI Zj) (5000000+e) .dead) o3 (Yb g3 (V.int .i64) r')
 have Y:∀ o,o≠o3->o≠5000000+e->Z o=Wt 5000000 gI lI Zj o:=λo n j=>(Zp _ _ n).trans (Zp _ _ j);have i:Z o3=Yb g3 (V.int .i64) r':=Ym ..;have O:5000000+e≠o3->Z (5000000+e)=.dead:=λq=>(Zp _ _ q).trans (Ym ..);clear_value Z
 refine N6 lt (g:=gO) (l:=lO) (H0:=Z) (m:=m) x 4000000 d a (λu=>F u (grown o3 g3 1 r')) hr ho ha (λa g b k=>S _ a g b k) h2 hx (λo n j J=>?_) hτ (λt=>?_)
  (by simp only[List.all_cons,Bool.and_eq_true,Nat.blt_eq];exact⟨b0,b1,z⟩) M
 by_cases C:o=o3
 subst C
 right
 rw[h3]
 rcases y with q|q
 rw[Sa z zo,Tj zo,i];rw[w _ _ (.inr q),Tj zo,i]
 by_cases T:o=5000000+e
 subst T
 left
 rw[Sa z zo,Tj zo,O C];rw[Zbc (Zgy (Y o C T)) m]
 by_cases e5:o=f
 left
 rw[w _ _ (.inr e5),Tj zo,Tj zo];rfl;exact hH o n j J T e5
 refine Fu lt (g:=gI) (g2:=g3) (o2:=o3) (l:=lI) (H0:=Wt 4000000 (Ya gO a t) (Ya lO a r) Zj) (m:=(x,F (grown (4000000+a) t 1 r) (grown o3 g3 1 r'))::(d,.dead)::m) x 5000000 f e (λu=>F (grown (4000000+a) t 1 r) u) N y he (λa g b k=>R _ a g b k) ?_ ?_ (λo n j J=>?_) ?_ (λt'=>?_)
  (by simp only[List.all_cons,Bool.and_eq_true,Nat.blt_eq];exact⟨zo,zo,zo,zo,U⟩) L
 have n1:o3≠x:=zo;have n2:o3≠d:=zo;rw[Wp,Wp,Zp _ _ n1,Zp _ _ n2]
 rcases y with q|q
 rw[Sa z zo,Tj zo,i];rw[w _ _ (.inr q),Tj zo,i];rw[Wp,Ym]
 by_cases C:o=o3
 subst C;omega
 right
 refine Zbc ?_ _;rw[L0 zo];exact Zgy (Y o C j);exact λ_=>.inr rfl;rw[L0 zo]
 have K:∀ (G:Heap) (A B:AObj),Z5 G ((x,A)::(f,.dead)::(x,B)::(d,.dead)::m)=Z5 G ((x,A)::(f,.dead)::(d,.dead)::m):=λG A B=>by
  funext o
  simp only[Wp,Ya]
  by_cases I:o=x
  rw[if_pos I,if_pos I];rw[if_neg I,if_neg I,if_neg I]
 rw[K];exact h t t'
theorem Z4ba{a g b k i j fz t:Nat}{c:Col}{cs:List V}{u d v:V}(h:Rn a g b k u d):RnX a g b k (.cells c t fz ((cs.set i u).set j v)) (.cells c t fz ((cs.set i d).set j v)):=
 .inl ⟨_,_,_,_,_,rfl,rfl,zS,λq f e=>by
  rw[List.getElem_set,List.getElem_set,List.getElem_set,List.getElem_set]
  split
  exact .same _
  split
  exact h
  exact .same _⟩
theorem FzL.app{F:Nat->Bool}{H:Heap}:∀ {a a' b b':List V},FzL F H a a'->FzL F H b b'->FzL F H (a++b) (a'++b')
 |[],[],_,_,_,h=>h
 |[],_::_,_,_,h,_=>h.elim
 |_::_,[],_,_,h,_=>h.elim
 |_::_,_::_,_,_,h,k=>⟨h.1,FzL.app h.2 k⟩
theorem FzL.flat{F:Nat->Bool}{H:Heap}{α : Type}{f f' : α -> V}:∀ {l:List α},(∀ x∈l,FzL F H (f x).cells (f' x).cells)->FzL F H (flat (l.map f)) (flat (l.map f'))
 |[],_=>trivial
 |x::r,h=>FzL.app (h x (List.mem_cons_self ..)) (FzL.flat λy a=>h y (List.mem_cons_of_mem _ a))
section
namespace PM
variable(m:PM)
def ownK(n:Nat):List (Int×List Int):=(List.range n).foldl (λL (r:Nat)=>Sb L (m.ow (r:Int)) (r:Int)) []
def pntK(n:Nat):List (Int×List Int):=(List.range n).foldl (λL (i:Nat)=>if 0<=(m.vx (i:Int)).of then Sb L (m.vx (i:Int)).of (i:Int)else L) []
def kidL(n:Nat)(r:Nat):List Int:=((List.range n).filter fun(i:Nat)=>decide ((m.vx (i:Int)).of<0)&&(m.vx (i:Int)).region==(r:Int)).map fun(i:Nat)=>(i:Int)
variable{m}
theorem ownK_succ(n:Nat):m.ownK (n+1)=Sb (m.ownK n) (m.ow (n:Int)) (n:Int):=by
 rw[ownK,List.range_succ,List.foldl_append];rfl
theorem pntK_pt{n:Nat}(h:0<=(m.vx (n:Int)).of):m.pntK (n+1)=Sb (m.pntK n) (m.vx (n:Int)).of (n:Int):=by
 rw[pntK,List.range_succ,List.foldl_append]
 show(if _ then _ else _)=_
 rw[if_pos h];rfl
theorem pntK_no{n:Nat}(h:¬ 0<=(m.vx (n:Int)).of):m.pntK (n+1)=m.pntK n:=by
 rw[pntK,List.range_succ,List.foldl_append]
 show(if _ then _ else _)=_
 rw[if_neg h];rfl
theorem kidL_pt{n:Nat}(h:0<=(m.vx (n:Int)).of):m.kidL (n+1)=m.kidL n:=by
 funext r
 rw[kidL,List.range_succ,List.filter_append,List.filter_cons_of_neg (by grind)];simp[kidL]
theorem kidL_at{n r:Nat}(h:(m.vx (n:Int)).of<0)(a:(m.vx (n:Int)).region=(r:Int)):m.kidL (n+1)=Ya (m.kidL n) r (m.kidL n r++[(n:Int)]):=by
 funext q
 rw[kidL,List.range_succ,List.filter_append]
 by_cases e:q=r
 subst e;rw[List.filter_cons_of_pos (by grind)];simp[kidL];rw[Zp _ _ e,List.filter_cons_of_neg (by grind)];simp[kidL]
theorem ownK_len:∀ n,(m.ownK n).length<=n
 |0=>Nat.le_refl _
 |n+1=>by
  rw[ownK_succ];have:=ownK_len n;have:=D0 (m.ownK n) (m.ow (n:Int)) (n:Int);omega
theorem pntK_len:∀ n,(m.pntK n).length<=n
 |0=>Nat.le_refl _
 |n+1=>by
  have a:=pntK_len n
  by_cases h:0<=(m.vx (n:Int)).of
  rw[pntK_pt h];have:=D0 (m.pntK n) (m.vx (n:Int)).of (n:Int);omega;rw[pntK_no h];omega
theorem kidL_len(n r:Nat):(m.kidL n r).length<=n:=by
 rw[kidL,List.length_map]
 grind
end PM
theorem Zji{B:Nat}:∀ {L:List (Int×List Int)} {k r:Int} (j:Nat),(∀ j,(Y9 L j).length<=B)->(Y9 (Sb L k r) j).length<=B+1:=fun{L k r} j h=>by
 rw[Mo]
 by_cases e:j=St L k
 simp_all;rw[Zp _ _ e];grind
namespace PM
variable{m:PM}
theorem ownK_row:∀ n j,(Y9 (m.ownK n) j).length<=n
 |0,j=>by simp[ownK,Y9]
 |n+1,j=>by rw[ownK_succ];exact Zji j (ownK_row n)
theorem pntK_row:∀ n j,(Y9 (m.pntK n) j).length<=n
 |0,j=>by simp[pntK,Y9]
 |n+1,j=>by
  by_cases h:0<=(m.vx (n:Int)).of
  rw[pntK_pt h];exact Zji j (pntK_row n);rw[pntK_no h];have:=pntK_row n j;omega
end PM
namespace PM
variable{m:PM}
theorem Zu4(v:Int)(t:Nat):m.wysI v false (t+1)=if(m.wy (t:Int)).source=v then m.wysI v false t++[(t:Int)]else m.wysI v false t:=by
 rw[Zca]
 grind
theorem Zsy(v:Int)(t:Nat):m.wysI v true (t+1)=if(m.wy (t:Int)).target=v then m.wysI v true t++[(t:Int)]else m.wysI v true t:=by
 rw[Zca]
 grind
theorem outs_next{t a:Nat}(h:(m.wy (t:Int)).source=(a:Int)):(λj:Nat=>m.wysI (j:Int) false (t+1))=Ya (λj:Nat=>m.wysI (j:Int) false t) a (m.wysI (a:Int) false t++[(t:Int)]):=by
 funext j
 rw[Zu4,h]
 by_cases e:j=a
 simp_all;rw[Zp _ _ e,if_neg (by omega)]
theorem intos_next{t a:Nat}(h:(m.wy (t:Int)).target=(a:Int)):(λj:Nat=>m.wysI (j:Int) true (t+1))=Ya (λj:Nat=>m.wysI (j:Int) true t) a (m.wysI (a:Int) true t++[(t:Int)]):=by
 funext j
 rw[Zsy,h]
 by_cases e:j=a
 simp_all;rw[Zp _ _ e,if_neg (by omega)]
end PM
end
end Go.Hs
end
