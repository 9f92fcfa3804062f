/- A part. No condition. -/
import Derived.Test.YtoahejkahaimnaaGreatDoorP43
import Derived.Test.YtoahejkahaimnaaGreatDoorP46
set_option linter.all false
section
namespace Go.Hs
open Go.Proofs
set_option maxRecDepth 10000
set_option maxHeartbeats 2000000
theorem HandX.weak{P:Program}{E:Ent}{ops:Array Oper}{R:Exit->Act->World->Prop}{o:Oper}{s s':AS}{K:AS->Prop}(hw:Weak E s s')(hn:o.guard=none)(h:HandX P E ops R o s' K):HandX P E ops R o s K:=by
 have hwa:∀ τ,Zz ops τ o=some true:=λτ => by unfold Zz;rw[hn]
 rcases h with ⟨_,h⟩|⟨h,_⟩
 refine .inl ⟨hwa _,λX a hX=>?_⟩;obtain⟨Y,hY⟩:=hw a X.w ⟨X,hX⟩;have e:=hY.hw;rw[<- e]at hY⊢;exact h Y a hY;rw[hwa]at h;cases h
theorem Z1a{P:Program}(b:Nat){G:Nat->V}{f:FuncId}{args:List V}{H:Heap}{K:V->Heap->Prop}(args':List V)(hA:FzL (λo=>o==b) H args args')(h:CallA P G f args' (upd H b .dead) K):CallA P G f args H K:=
 Zrk _ hA.get.1 hA.get.2 (λo=>by
  by_cases e:o=b
  subst e;rw[Z3];trivial
  rw[Zi _ _ e];exact FzO.same (by simp[e])) h
theorem Weak.tm{E:Ent}{τ : Nat->V}{H:Heap}{l:List (Nat×V)}(h:Ztg τ l):Weak E ⟨τ,H⟩ ⟨Zfa emp l,H⟩:=
 Zqd (λ_=>false) (λt=>by
  rcases Zob (τ := emp) (f := τ) t l (Z1b h)with h1|h1
  exact .inl h1;refine .inr ?_
  dsimp only
  rw[h1];exact Fz.same _) λo=>FzO.same rfl
def Zpf(c:Col)(e:Int×List Int):V:=.agg [.int .i64 e.1,Za c 1 (V.int .i64) (Zb e.2)]
theorem Z8c(c:Col)(e:Int×List Int):Zpf c e=.agg [.int .i64 e.1,Za c 1 (V.int .i64) (Zb e.2)]:=rfl
theorem Zy6(c:Col)(e:Int×List Int):(Zpf c e).cells.length=2:=rfl
theorem Z2z(g:Col->Col)(c:Col)(e:Int×List Int):(Zpf c e).recol g=Zpf (g c) e:=by simp only[Z8c,Z4a,List.map_cons,List.map_nil,Zwa,Z7a]
def Z0b(c:Col)(l:List (Int×List Int)):V:=Za c 2 (Zpf c) (Zb l)
@[go_sem] theorem Zds(g:Col->Col)(c:Col)(l:List (Int×List Int)):(Z0b c l).recol g=Z0b (g c) l:=Zdb g c 2 (Z2z g c) _
theorem Zvv(c:Col):Z0b c []=.nils:=rfl
theorem Z9s{c:Col}{l:List (Int×List Int)}(h:l≠[]):Z0b c l=.slice c false 2 (l.map (Zpf c)):=by cases l with|nil=>exact absurd rfl h|cons=>rfl
@[go_sem] theorem cells_es(c:Col)(l:List (Int×List Int)):(Z0b c l).cells=[Z0b c l]:=by cases l<;>rfl
@[go_sem] theorem solid_es(c:Col)(l:List (Int×List Int)):(Z0b c l).solid=true:=by cases l<;>rfl
theorem OwnC.of{P:Program}{G:Nat->V}{f:FuncId}{args:List V}{v:V}(hen:Z2 P f=true)(h:InSp P G f args Zk (λv' _=>v'=v)):OwnC P G f args v:=λH K hk=>
 CallA.inl [] hen (λp hp=>by cases hp) (h.mono λv' H' e=>by subst e;exact hk)
theorem cloE_in(G:Nat->V)(l:List (Int×List Int))(hl:l.length<1000000):InSp Tryz.prog G 183 [Z0b .new l] Zk (λv _=>v=Z0b .new l):=by
 refine Z3a 0 8 [.tmp 2] Tryz.func183 rfl rfl rfl rfl λX=>?_
 by_cases h:l=[]
 subst h;rw[Zvv];exact Zr;rw[Z9s h];refine Z ?_;intro g;refine⟨Z9 zo (by rw[List.length_map];omega),λg2=>?_⟩;refine Zs ?_;refine AW.weak (Zw (λo=>o==5) (l:=[(2,.slice .new false 2 (l.map (Zpf .new)))]) (m:=[]) ?_ trivial) ?_;simp -implicitDefEqProofs only[go_sem,seval];rw[List.length_map];exact Z2b (f:=Zpf .new) rfl zp (Zy6 _);exact Zr
theorem Z8d{P:Program}{G:Nat->V}{f:FuncId}{args:List V}{H:Heap}{K:V->Heap->Prop}(args':List V)(hA:FzL (λ_=>false) H args args')(h:CallA P G f args' H K):CallA P G f args H K:=
 Zrk _ hA.get.1 hA.get.2 (λo=>FzO.same rfl) h
def nxF{σ κ κ2:Type}(nx : σ -> κ2->Bool × σ)(f : κ -> List κ2)(w : σ × Bool)(k : κ) : σ × Bool:=((Zla nx w.1 (f k)).2,(Zla nx w.1 (f k)).1)
def jB{σ : Type}(w : σ × Bool):Option Code:=if w.2=true then none else some .ret
theorem Zlo{σ κ κ2:Type}(nx : σ -> κ2->Bool × σ)(f : κ -> List κ2):∀ (xs:List κ) (s : σ),Zla nx s (xs.flatMap f)=((Zla (λw k=>((jB (nxF nx f w k)).isNone,nxF nx f w k)) (s,true) xs).2.2,(Zla (λw k=>((jB (nxF nx f w k)).isNone,nxF nx f w k)) (s,true) xs).2.1)
 |[],s=>rfl
 |k::r,s=>by
  rw[List.flatMap_cons,Zmo,Zla];have e:nxF nx f (s,true) k=((Zla nx s (f k)).2,(Zla nx s (f k)).1):=rfl;rw[e];cases hb:(Zla nx s (f k)).1;simp[jB];simp only[jB,if_true,Option.isNone_none];exact Zlo nx f r _
theorem Zbt{σ κ κ2:Type}{dom : σ -> κ2->Prop}{nx : σ -> κ2->Bool × σ}{f : κ -> List κ2}:∀ {xs:List κ} {s : σ},Z0o dom nx s (xs.flatMap f)->Z0o (λw k=>Z0o dom nx w.1 (f k)/\jB w=none) (λw k=>((jB (nxF nx f w k)).isNone,nxF nx f w k)) (s,true) xs
 |[],s,_=>trivial
 |k::r,s,h=>by
  rw[List.flatMap_cons]at h;obtain⟨h1,h2⟩:=Zsm h;refine⟨⟨h1,rfl⟩,λq=>?_⟩;simp only[nxF]at q⊢;generalize Zla nx s (f k)=z at h2 q⊢;obtain⟨b,s2⟩:=z;cases b;cases q;exact Zbt (h2 rfl)
def Z1ha(c:Col)(l:List (Int×List Int)):V:=match l with|[]=>.nils|_::_=>.slice c true 2 (l.map (Zpf c))
theorem Z26{c:Col}{l:List (Int×List Int)}(h:l≠[]):Z1ha c l=.slice c true 2 (l.map (Zpf c)):=by cases l with|nil=>exact absurd rfl h|cons=>rfl
theorem Za8(c:Col)(l:List V):Zge Tryz.prog 47 (.slice c false 2 l) none (some (.int .i64 l.length)) (some (.int .i64 l.length))=some (.slice c true 2 l):=by
 have h1:Tryz.prog.underlying 47=some (.slice 64):=by kernel_rfl
 have h2:Z9a Tryz.prog 64=some 2:=by kernel_rfl
 have h3:∀ d,Zga d (some (.int .i64 (l.length:Int)))=some l.length:=λd=>by simp[Zga]
 unfold Zge;rw[h1];simp only[h3];rw[show Zga 0 none=some 0 from rfl];simp only[h2,Nat.zero_le,Nat.le_refl,and_self,if_true,List.drop_zero,Nat.sub_zero,List.take_length];rw[h3];simp only[Nat.le_refl,and_self,if_true,beq_self_eq_true]
theorem Zgna(G:Nat->V)(c:Col)(l:List (Int×List Int))(hl:l.length<1000000):InSp Tryz.prog G 184 [Z0b c l] Zk (λv _=>v=Z1ha c l):=by
 refine Z3a 0 9 [.tmp 2] Tryz.func184 rfl rfl rfl rfl λX=>?_
 by_cases h:l=[]
 subst h;rw[Zvv];exact Zr;rw[Z9s h,Z26 h];refine Z ?_;rw[Za8];refine Zs ?_;refine Z ?_;rfl
theorem Z5k{a lo:Nat}(H:Heap)(h:a<=lo):Zia a (Zia lo H)=Zia lo H:=by
 funext o
 rcases Nat.lt_or_ge o lo with q|q
 rw[Zib q]
 rcases Nat.lt_or_ge o a with q2|q2
 rw[Zib q2];rw[Zrc q2,Zib q];rfl;rw[Zrc (Nat.le_trans h q),Zrc q,Z7g]
@[go_sem] theorem mask_10(H:Heap):Zia 100 (Zia 1000 H)=Zia 1000 H:=Z5k H zd
theorem hpEqM2{lo:Nat}{H:Heap}{a b c d e:AObj}(h:lo=1000):upd (upd (upd (upd (upd (upd (upd (Zia lo H) 108 e) 107 d) 106 c) 105 b) 104 a) 108 e) 190 .dead=upd (upd (upd (upd (upd (Zia lo H) 108 e) 107 d) 106 c) 105 b) 104 a:=by
 subst h
 funext o
 by_cases q:o=190
 subst q;simp[upd,Zib];rw[Zi _ _ q]
 by_cases q2:o=108
 subst q2;simp[upd];rw[Zi _ _ q2]
theorem hpEqM{lo:Nat}{H:Heap}{a b c d e:AObj}(h:lo=1000):upd (upd (upd (upd (upd (upd (Zia lo H) 108 e) 107 d) 106 c) 105 b) 104 a) 190 .dead=upd (upd (upd (upd (upd (Zia lo H) 108 e) 107 d) 106 c) 105 b) 104 a:=by
 subst h
 funext o
 by_cases q:o=190
 subst q;simp[upd,Zib];rw[Zi _ _ q]
theorem Zdp{E:Ent}{lo:Nat}(F:Nat->Bool){τ : Nat->V}{H B:Heap}{l:List (Nat×V)}{m:List (Nat×AObj)}(hF:∀ o,lo<=o->F o=false)(h:Zot F H τ l)(hf:∀ p∈m,F p.1=false)(hm:Ztg H m)(hB:Zia lo H=Zia lo B):Weak E ⟨τ,H⟩ (Hs.stM lo B l m):=by
 refine Zqd F (λt=>Zin t h) (λo=>?_)
 show FzO _ H o (Zfa (Zia lo B) m o)
 by_cases hin:∃ p∈m,p.1=o
 rcases Zob (τ := Zia lo B) (f:=H) o m (Z1b hm)with h1|h1
 rw[h1,<- hB]
 rcases Nat.lt_or_ge o lo with q|q
 rw[Zib q];trivial
 .rw[Zrc q]
  have:=FzO.same (H:=H) (hF o q)
  cases hh:H o with
  |mp=>trivial
  |_=>rw[hh]at this;exact this
 obtain⟨p,hp,rfl⟩:=hin;rw[h1];exact FzO.same (hf p hp)
 have h1:Zfa (Zia lo B) m o=Zia lo B o:=by
  clear hm hf
  induction m with
  |nil=>rfl
  |cons p r ih=>
   rw[Zfa,Zi _ _ (λe=>hin ⟨p,List.mem_cons_self ..,e.symm⟩)];exact ih fun⟨p',hp',e⟩=>hin ⟨p',List.mem_cons_of_mem _ hp',e⟩
 rw[h1,<- hB]
 rcases Nat.lt_or_ge o lo with q|q
 rw[Zib q];trivial
 .rw[Zrc q]
  have:=FzO.same (H:=H) (hF o q)
  cases hh:H o with
  |mp=>trivial
  |_=>rw[hh]at this;exact this
theorem Zwna{P:Program}{E:Ent}{ops:Array Oper}{Q:AS->Prop}{rest:List Oper}{τ : Nat->V}{H:Heap}{e bytes:Nat}{c:Col}{l:List (Int×List Int)}(x:Int×List Int){ob:AObj}{xc:List V}(hx:xc=(Zpf c x).cells)(hr:Zhe bytes (l.length+1))
  (h:∀ g,Zsa P E ops Q rest ⟨upd τ e (.msl (E.q+e) g 0 (l++[x]).length 2),upd H (E.q+e) (.cells .new g 0 (flat ((l++[x]).map (Zpf c))))⟩):appE P E ops Q rest e τ H 2 bytes (Z1ha c l) (some (1,xc)) ob:=by
 subst hx
 cases l with
 |nil=>
  rw[show Z1ha c []=.nils from rfl,Zmk];exact⟨zu hr,λh0=>absurd h0 zd,λ_ g=>h g⟩
 |cons y r=>
  rw[Z26 zS,Zmr];refine⟨rfl,zu hr,λh0=>absurd h0 zd,λ_=>⟨rfl,λg=>?_⟩⟩;have:=h g;rw[List.length_append,List.map_append,Zee]at this;rw[List.length_map];exact this
theorem Zwha{σ κ : Type}{A : σ -> κ -> Prop}{J : σ -> Prop}{Q : κ -> Prop}{nx : σ -> κ -> Bool × σ}:∀ {xs:List κ} {s : σ},Z0o (λw k=>A w k/\J w) nx s xs->(∀ k∈xs,Q k)->Z0o (λw k=>(A w k/\Q k)/\J w) nx s xs
 |[],_,_,_=>trivial
 |k::r,s,h,hq=>⟨⟨⟨h.1.1,hq k (List.mem_cons_self ..)⟩,h.1.2⟩,λz=>Zwha (h.2 z) λk' hk=>hq k' (List.mem_cons_of_mem _ hk)⟩
theorem Zug(m:PM):∀ (f:Nat) (v:Int) (p:List Int),p≠[]->∀ w∈m.walkF f v p,w.1≠[]
 |0,v,p,hp,w,hw=>by cases hw;exact hp;rename_i h;cases h
 |f+1,v,p,hp,w,hw=>by
  rw[Zpk]at hw
  split at hw
  obtain⟨t,_,hw⟩:=List.mem_flatMap.1 hw;unfold PM.walkG at hw
  split at hw
  rw[List.mem_singleton]at hw;subst hw;simp;exact Zug m f _ _ zS w hw;rw[List.mem_singleton]at hw;subst hw;exact hp
theorem Zlh{l:List Int}(h:l≠[]):Zb l=.mk false l:=by cases l with|nil=>exact absurd rfl h|cons=>rfl
theorem Z4ma(G:Nat->V)(hG:GOk G)(m:MdM)(x:IxM)(hx:IxP m.p x)(hw:m.p.ways.length<100000)(hr:∀ t:Int,0<=t->t<m.p.ways.length->0<=m.p.tg t/\m.p.tg t<m.p.vertices.length):
  ∀ (outs:List Int) (ends:List (Int×List Int)) (q:Bool) (b c d e f g co:Col) (H:Heap),(∀ t∈outs,0<=t/\t<m.p.ways.length)->outs.length+ends.length<100000 ->
   YfSp Tryz.prog G 1000 119 (λy=>[wkV b c d e f g m x,Za co 1 (V.int .i64) (.mk q outs),Z0b .new ends,y]) H (λes=>[Z0b .new es]) (m.p.forkF outs ends) V.bool:=by
 intro outs
 induction outs with
 |nil=>
  intro ends q b c d e f g co H ho hn;refine Zdc .marks 100 50 4 [.cell 8 4] Tryz.func119 λX t cl σ R dom nx s0 hy hd hR _=>?_;refine AW.weak (Zva (lo:=1000) (B:=H) (l:=[(0,wkV b c d e f g m x),(1,Za co 1 (V.int .i64) (.mk q [])),(2,Z0b .new ends),(3,.func t [] cl)]) (m:=[]) ⟨rfl,rfl,rfl,rfl,trivial⟩ trivial rfl) ?_;refine Z ?_;intro g4 g5 g6 g7 g8;refine Z ?_;refine Zup 3 ⟨λ_=>Z0b .new ends,λ_=>.own⟩ zk hG zk zk zk zk ?_;refine Zs ?_;refine⟨OwnC.of zk (cloE_in G ends zo),_,rfl,?_⟩;refine HandX.weak (Zgf (lo:=1000) (B:=H) (l:=[(8,.ptr 108 g8 0),(14,.func t [] cl),(16,Z0b .new ends)]) (m:=[(108,.cells .new g8 0 [.bool false])]) (by refine Zs ?_;exact⟨Fz.same _,Fz.same _,Fz.same _⟩) ⟨zp,trivial⟩ zp) rfl (Zvf hy s0 ends zp zm hd.1 ?_ (λH2 hR2 hlow=>?_) zk (n:=3) rfl zp);simp -implicitDefEqProofs only[go_sem,seval];exact hR;have e108:=hlow 108 zd;simp -implicitDefEqProofs only[go_sem,seval]at e108;refine Zg e108 ?_
  show(_/\R (Zla nx s0 [ends]).2 _)
  rw[PM.forkF,Zak];refine⟨.inl rfl,?_⟩;refine Zs ?_;exact hR2
 |cons o r ih=>
  intro ends q b c d e f g co H ho hn;obtain⟨o0,o1⟩:=ho o (List.mem_cons_self ..);obtain⟨n,y,rfl,hn',hgy,ey⟩:=m.wyAt o0 o1
  have etg:m.p.tg (n:Int)=y.target:=by rw[PM.tg,ey];rfl
  refine Zdc .marks 100 50 4 [.cell 8 4] Tryz.func119 λX t cl σ R dom nx s0 hy hd hR _=>?_;refine AW.weak (Zva (lo:=1000) (B:=H) (l:=[(0,wkV b c d e f g m x),(1,Za co 1 (V.int .i64) (.mk q ((n:Int)::r))),(2,Z0b .new ends),(3,.func t [] cl)]) (m:=[]) ⟨rfl,rfl,rfl,rfl,trivial⟩ trivial rfl) ?_;have hq:Za co 1 (V.int .i64) (.mk q ((n:Int)::r))=.slice co q 1 (((n:Int)::r).map (V.int .i64)):=rfl
  have hne:((((n:Int)::r).length:Int)==0)=false:=by rw[List.length_cons];exact beq_false_of_ne zo
  refine Z ?_;intro g4 g5 g6 g7 g8;refine Zf (zi hne hq) ?_;refine Zp ⟨λ_=>.top,λi=>if i=16 then .any else .pure⟩ zk hG zk zk ?_;simp -implicitDefEqProofs only[go_sem,seval,hgy,hn',Z1e,Z8,@Int.natCast_nonneg,@Int.ofNat_lt,List.map_cons];refine⟨rfl,λg33=>?_⟩;refine Z1a 133 [wkV b c d e f g m x,.int .i64 (m.p.tg n),Za .new 1 (V.int .i64) (.mk false [(n:Int)])] ⟨Fz.same _,by rw[etg];exact Fz.same _,Z2b (f:=V.int .i64) (l:=[(n:Int)]) (m:=1) (g:=g33) (fz:=0) (c:=.new) rfl zp (λ_=>rfl),trivial⟩ ?_;refine Z8d [wkV b c d e f g m x,.int .i64 (m.p.tg n),Za .new 1 (V.int .i64) (.mk false [(n:Int)])] ⟨Fz.same _,Fz.same _,Fz.same _,trivial⟩ ?_;refine CallA.inl [(63,.dead),(64,.dead),(65,.dead)] zk ?_ ((Z8t G b c d e f g m x _ (.mk false [(n:Int)])).mono ?_);intro p hp;simp only[List.mem_cons,List.not_mem_nil,or_false]at hp
  rcases hp with rfl|rfl|rfl<;>rfl
  rintro w H' ⟨w3,w4,w5,rfl,e3,e4,e5⟩;simp -implicitDefEqProofs only[go_sem,seval,Zfa,e3,e4,e5];refine AW.block ?_;rw[PM.forkF]at hd⊢;rw[Zlo]
  refine AW.weak (Zva (lo:=1000) (B:=H) (l:=[(4,.ptr 104 g4 0),(5,.ptr 105 g5 0),(6,.ptr 106 g6 0),(7,.ptr 107 g7 0),(8,.ptr 108 g8 0),(34,.func (.func 180) [] [.ptr 63 w3 0,.ptr 64 w4 0,.ptr 65 w5 0])])
   (m:=[(104,.cells .new g4 0 [wkV b c d e f g m x]),(105,.cells .new g5 0 [Za co 1 (V.int .i64) (.mk q ((n:Int)::r))]),(106,.cells .new g6 0 [Z0b .new ends]),(107,.cells .new g7 0 [.func t [] cl]),(108,.cells .new g8 0 [.bool false]),
    (63,.cells .new w3 0 [wkV b c d e f g m x]),(64,.cells .new w4 0 [.int .i64 (m.p.tg n)]),(65,.cells .new w5 0 [Za .new 1 (V.int .i64) (.mk false [(n:Int)])])]) ⟨rfl,rfl,rfl,rfl,rfl,rfl,trivial⟩ ⟨zr,zr,zr,zr,zr,zr,zr,zr,trivial⟩ zp) ?_
  refine AW.range 50 100 190 150 (fun(w : σ × Bool) (H:Heap)=>R w.1 (Zia 1000 H)/\H=Zfa (Zia 1000 H) [(104,.cells .new g4 0 [wkV b c d e f g m x]),(105,.cells .new g5 0 [Za co 1 (V.int .i64) (.mk q ((n:Int)::r))]),(106,.cells .new g6 0 [Z0b .new ends]),(107,.cells .new g7 0 [.func t [] cl]),(108,.cells .new g8 0 [.bool false])])
   (nxF nx λw=>m.p.forkF r (ends++[(w.2,w.1)])) jB (λw k=>Z0o dom nx w.1 (m.p.forkF r (ends++[(k.2,k.1)]))/\k.1≠[]) (s0,true) rfl zk (by exact λ_ h=>nomatch h) (λp hp=>?_) (λ_=>rfl) zd zd
   (λl r'=>Zb5 G hG b c d e f g m x hx hw hr n o0 o1 w3 w4 w5 _ zp zp zp) (λ_ _ _=>trivial) rfl ?_ (Zwha (Zbt hd) (Zug _ _ _ _ zS)) ?_ ?_
  simp only[List.mem_cons,List.not_mem_nil,or_false]at hp
  rcases hp with rfl|rfl
  exact(by decide:35<50);exact(by decide:36<50);refine⟨?_,?_⟩
  show R s0 _
  refine Zs ?_;exact hR;simp -implicitDefEqProofs only[go_sem,seval];exact hpEqM rfl
  .rintro l Y ⟨s1,b1⟩ ⟨path,v⟩ Hk _ hrd hdk hjm ⟨rk,hB⟩
   obtain⟨hdk,hpath⟩:=hdk;simp only at hdk rk hpath;generalize upd (Zia 100 Hk) 190 .dead=B at *;cases b1;cases hjm;generalize hM:Zia 1000 B=M at rk hB;subst hB
   have hMM:Zia 1000 M=M:=by simp -implicitDefEqProofs only[go_sem,seval]at hM;exact hM
   clear hM;refine Zsf Zroa ?_;refine Zne zk ?_;refine Zs ?_;refine AW.region zk ?_;refine Zs ?_;intro Zx hXZ _
   have hMd:∀ o,o<1000->M o=.dead:=λo ho=>by rw[<- hMM,Zib ho]
   have d195:=hMd 195 zd;have d196:=hMd 196 zd;refine AW.weak (Weak.tm (l:=[(4,.ptr 104 g4 0),(5,.ptr 105 g5 0),(6,.ptr 106 g6 0),(7,.ptr 107 g7 0),(8,.ptr 108 g8 0),(9,Za .new 1 (V.int .i64) (.mk false path)),(10,.int .i64 v)]) ⟨rfl,rfl,rfl,rfl,rfl,rfl,rfl,trivial⟩) ?_;refine AW.block ?_
   repeat refine Z6 ?_
   refine Z74 11 [0,1,2,3,4,5,6,7,8,10,9] [(89,.ptr 104 g4 0,wkV b c d e f g m x),(45,.ptr 105 g5 0,Za co 1 (V.int .i64) (.mk q ((n:Int)::r))),(167,.ptr 107 g7 0,.func t [] cl)]
    ⟨λi=>if i=0 then wkV b c d e f g m x else if i=1 then Za co 1 (V.int .i64) (.mk q ((n:Int)::r))else if i=4 then Z1ha .new ends else .func t [] cl,λi=>if i=0 then .keep else if i=1 then .keep else if i=10 then .keep else .own⟩ zk hG zk zk zk zk zk zk ?_
   have hKp:∀ H':Heap,H' 104=.cells .new g4 0 [wkV b c d e f g m x]->H' 105=.cells .new g5 0 [Za co 1 (V.int .i64) (.mk q ((n:Int)::r))]->H' 107=.cells .new g7 0 [.func t [] cl] ->
     KpH Tryz.prog [(89,.ptr 104 g4 0,wkV b c d e f g m x),(45,.ptr 105 g5 0,Za co 1 (V.int .i64) (.mk q ((n:Int)::r))),(167,.ptr 107 g7 0,.func t [] cl)] H':=by
    intro H' q4 q5 q7 p hp;simp only[List.mem_cons,List.not_mem_nil,or_false]at hp
    rcases hp with rfl|rfl|rfl
    simp -implicitDefEqProofs only[go_sem,seval,q4];simp -implicitDefEqProofs only[go_sem,seval,q5,hq];simp -implicitDefEqProofs only[go_sem,seval,q7]
   have hsub:Za co 1 (V.int .i64) ((Sl.mk q ((n:Int)::r)).sub 1 (r.length+1))=Za co 1 (V.int .i64) (.mk q r):=by
    simp[Sl.sub]
   simp -implicitDefEqProofs only[go_sem,seval,List.getElem?_cons_zero,List.getElem?_cons_succ];refine⟨⟨zS,hKp _ zp zp zp⟩,⟨zS,hKp _ zp zp zp⟩,?_⟩;simp -implicitDefEqProofs only[go_sem,seval,hsub,Nat.le_refl,List.getElem?_cons_zero,List.getElem?_cons_succ,d195];refine⟨OwnC.of zk (Zgna G _ ends zo),λg195=>?_⟩;refine⟨⟨zS,hKp _ zp zp zp⟩,?_⟩;refine Zwna (v,path) (by rw[Z8c,Zlh hpath];rfl) (Z9 zo zo) λg196=>?_;refine Zs ?_;refine⟨_,rfl,?_⟩
   have hlen:(ends++[(v,path)]).length=ends.length+1:=by rw[List.length_append];rfl
   refine HandX.weak (Zdp (lo:=1000) (B:=M) (λo=>o==196) (l:=[(8,.ptr 108 g8 0),(37,wkV b c d e f g m x),(39,Za co 1 (V.int .i64) (.mk q r)),(46,Z0b .new (ends++[(v,path)])),(47,.func t [] cl)])
    (m:=[(104,.cells .new g4 0 [wkV b c d e f g m x]),(105,.cells .new g5 0 [Za co 1 (V.int .i64) (.mk q ((n:Int)::r))]),(106,.cells .new g6 0 [Z0b .new ends]),(107,.cells .new g7 0 [.func t [] cl]),(108,.cells .new g8 0 [.bool false])])
    (λo ho=>zO) (by refine Zs ?_;exact⟨Fz.same _,Fz.same _,Fz.same _,by rw[Z9s (l:=ends++[(v,path)]) zS];exact Z2b (f:=Zpf .new) (fz:=0) (c:=.new) rfl zp (Zy6 _),Fz.same _⟩) (λp hp=>by
     simp only[List.mem_cons,List.not_mem_nil,or_false]at hp
     rcases hp with rfl|rfl|rfl|rfl|rfl<;>rfl) ⟨zr,zr,zr,zr,zr,trivial⟩ zp) rfl ?_
   refine HandX.weak (Zgf (lo:=1000) (B:=M) (l:=[(8,.ptr 108 g8 0),(37,wkV b c d e f g m x),(39,Za co 1 (V.int .i64) (.mk q r)),(46,Z0b .new (ends++[(v,path)])),(47,.func t [] cl)])
    (m:=[(104,.cells .new g4 0 [wkV b c d e f g m x]),(105,.cells .new g5 0 [Za co 1 (V.int .i64) (.mk q ((n:Int)::r))]),(106,.cells .new g6 0 [Z0b .new ends]),(107,.cells .new g7 0 [.func t [] cl]),(108,.cells .new g8 0 [.bool false])])
    (by refine Zs ?_;exact⟨Fz.same _,Fz.same _,Fz.same _,Fz.same _,Fz.same _⟩) ⟨zr,zr,zr,zr,zr,trivial⟩ zp) rfl ?_
   refine Zzm 1000 (Nat.le_refl _) (ih (ends++[(v,path)]) q b c d e f g co _ (λt ht=>ho t (List.mem_cons_of_mem _ ht)) (by rw[hlen];rw[List.length_cons]at hn;omega)) zk (λX' hle=>hy.at (hXZ.trans hle)) s1 rfl zm hdk ?_ (λH2 hR2 hlow=>?_) zk (n:=11) rfl zp (λ_ _ _=>trivial);simp -implicitDefEqProofs only[go_sem,seval];rw[hMM];exact rk;have e104:=hlow 104 zd;have e105:=hlow 105 zd;have e106:=hlow 106 zd;have e107:=hlow 107 zd;have e108:=hlow 108 zd;simp -implicitDefEqProofs only[go_sem,seval]at e104 e105 e106 e107 e108;generalize hz:Zla nx s1 (m.p.forkF r (ends++[(v,path)]))=z at hR2
   have enx:nxF nx (λw=>m.p.forkF r (ends++[(w.2,w.1)])) (s1,true) (path,v)=(z.2,z.1):=by rw[<- hz];rfl
   obtain⟨bb,s2⟩:=z;refine Zs ?_
   refine AW.weak (Zva (lo:=1000) (B:=H2) (l:=[(8,.ptr 108 g8 0),(49,.bool !bb)]) (m:=[(104,.cells .new g4 0 [wkV b c d e f g m x]),(105,.cells .new g5 0 [Za co 1 (V.int .i64) (.mk q ((n:Int)::r))]),(106,.cells .new g6 0 [Z0b .new ends]),(107,.cells .new g7 0 [.func t [] cl]),(108,.cells .new g8 0 [.bool false])])
    ⟨rfl,rfl,trivial⟩ ⟨e104,e105,e106,e107,e108,trivial⟩ rfl) ?_
   cases bb;refine Z ?_;refine AW.ret ?_;refine Zs ?_;rw[enx];refine⟨rfl,hR2,?_⟩;exact hpEqM2 rfl;refine Z ?_;rw[enx];exact⟨rfl,hR2,hpEqM rfl⟩
  rintro H2 ⟨hRf,hH⟩ _ _;generalize(Zla (λw k=>((jB (nxF nx (λw=>m.p.forkF r (ends++[(w.2,w.1)])) w k)).isNone,nxF nx (λw=>m.p.forkF r (ends++[(w.2,w.1)])) w k)) (s0,true) (m.p.waysL (n:Int))).2=z at hRf⊢;generalize hM:Zia 1000 (upd (Zia 100 H2) 190 .dead)=M at hRf hH
  have hMM:Zia 1000 M=M:=by rw[<- hM,Zbo]
  obtain⟨s2,b2⟩:=z;cases b2;refine AW.weak (Weak.rng (l:=[(8,.ptr 108 g8 0)]) hH ⟨rfl,trivial⟩) ?_;refine Z ?_;refine⟨.inl rfl,?_⟩;refine Zs ?_;rw[hMM];exact hRf;refine AW.weak (Weak.rng (l:=[(8,.ptr 108 g8 0)]) hH ⟨rfl,trivial⟩) ?_;refine Z ?_;refine⟨.inl rfl,?_⟩;refine Zs ?_;rw[hMM];exact hRf
end Go.Hs
end

section
namespace Go.Hs
open Go.Proofs
set_option maxRecDepth 10000
set_option maxHeartbeats 2000000
theorem Z8aa{P:Program}{G:Nat->V}{X:Cx}{lo:Nat}{σ κ : Type}{f:FuncId}{caps:List V}{enc : κ -> List V}{R : σ -> Heap->Prop}{dom : σ -> κ -> Prop}{nx : σ -> κ -> Bool × σ}{fn:Func}{c:Code}(k:RK)(q n m:Nat)(rs:List ResultVar)(hf:P.funcs[f]?=some fn)
  (h:∀ s κ' Y H,dom s κ'->X.le Y->R s (Zia lo H)->AW P ⟨Y,Zia lo H,n,q,G,none,[],k⟩ c (Zeg P rs λv H'=>v=.bool (nx s κ').1/\R (nx s κ').2 (Zia lo H')) ⟨Zve 0 (enc κ'++caps),Zia lo H⟩)
  (hen:Z2 P f=true:=by kernel_rfl) (hb:fn.body=some c:=by rfl) (hn:fn.ntmps=n:=by rfl) (hr:fn.results.toList=rs:=by rfl) (hA:∀ v,(enc v++caps).length=m:=by exact λ_=>rfl) (hn0:Nat.ble m n=true:=by rfl) (hk:k=.plain\/k=.marks:=by first|exact .inl rfl|exact .inr rfl):Yd P G X lo (.func f) caps enc R dom nx:=by
 subst hn hr;refine⟨λ_ h=>(by cases h),λs κ' Y H cargs hd hle hI hR hG hA'=>⟨hen,?_⟩⟩;refine(Znj hk (λ_=>rfl) q hf hb (by rw[hA];exact hn0) hI hG hA' (h s κ' Y H hd hle hR)).mono ?_;rintro e w' ⟨c,v,H',Y',⟨rfl,h1,h2⟩|⟨k,hk,_⟩,a2,a3,a4⟩;rw[h1]at a4;cases a4;exact⟨Y',H',rfl,a2,a3,h2⟩;cases hk
def Zme(s:StP):V:=.agg [Za .new 1 (V.int .i64) (Zb s.sources),.int .i64 s.first,Za .new 1 (V.int .i64) (Zb s.guards),Za .new 1 (V.int .i64) (Zb s.effects),Z0b .new s.ends,.nils]
theorem Zx6(s:StP):Zme s=.agg [Za .new 1 (V.int .i64) (Zb s.sources),.int .i64 s.first,Za .new 1 (V.int .i64) (Zb s.guards),Za .new 1 (V.int .i64) (Zb s.effects),Z0b .new s.ends,.nils]:=rfl
def StP.fork(s:StP)(es:List (Int×List Int)):StP:=⟨s.sources,s.first,s.guards++es.flatMap (·.2),s.effects,es⟩
@[go_sem] theorem mask_1020(H:Heap):Zia 1000 (Zia 2000 H)=Zia 2000 H:=Z5k H zd
@[go_sem] theorem mask_2010(H:Heap):Zia 2000 (Zia 1000 H)=Zia 2000 H:=Z9g H zd
theorem Zqka(G:Nat->V)(hG:GOk G){X:Cx}{t:Fn}{cl:List V}{σ : Type}{R : σ -> Heap->Prop}{dom : σ -> StP->Prop}{nx : σ -> StP->Bool × σ}(hy:Yd Tryz.prog G X 2000 t cl (λs:StP=>[Zme s]) R dom nx)(b:StP)(hbg:b.guards≠[])(g4 g5 g6 g7 g9 h6 h9:Nat)(v4 v5 v6 v7 v9:V):
  Yd Tryz.prog G X 1000 (.func 120) [.ptr 1209 h9 0,.ptr 1106 h6 0] (λes=>[Z0b .new es]) (λs H=>R s (Zia 2000 H)/\H=Zfa (Zia 2000 H) [(1004,.cells .new g4 0 [v4]),(1005,.cells .new g5 0 [v5]),(1006,.cells .new g6 0 [v6]),(1007,.cells .new g7 0 [v7]),(1009,.cells .new g9 0 [v9]),(1106,.cells .new h6 0 [.func t [] cl]),(1209,.cells .new h9 0 [Za .new 1 (V.int .i64) (Zb b.sources),.int .i64 b.first,Za .new 1 (V.int .i64) (Zb b.guards),Za .new 1 (V.int .i64) (Zb b.effects),.nils,.nils])])
   (λs es=>dom s (b.fork es)/\(b.guards++es.flatMap (·.2)).length<390000/\es.length<100000) (λs es=>nx s (b.fork es)):=by
 refine Z8aa .plain 1300 27 3 [.tmp 4] Tryz.func120 λs es Y H ⟨hd,hlg,hle⟩ hXY ⟨hR,hH⟩=>?_;generalize Zia 1000 H=B at *;generalize hM:Zia 2000 B=M at hR hH;subst hH
 have hMM:Zia 2000 M=M:=by simp -implicitDefEqProofs only[go_sem,seval]at hM;exact hM
 clear hM;refine Z ?_;intro g1305;have hEs:Z0b .new es=Za .new 2 (Zpf .new) (Zb es):=rfl;rw[hEs]at *;refine Zf (Zl es) ?_
 refine Zaa es.length (λk (_:Unit)=>Hs.stM 2000 M [(2,.ptr 1106 h6 0),(5,.ptr 1305 g1305 0),(11,Za .new 2 (Zpf .new) (Zb es)),(12,.int .i64 es.length),(13,.int .i64 k)]
   ((1305,.cells .new g1305 0 [Za .new 1 (V.int .i64) (Zb b.sources),.int .i64 b.first,Za .new 1 (V.int .i64) (Zb (b.guards++(es.take k).flatMap (·.2))),Za .new 1 (V.int .i64) (Zb b.effects),Za .new 2 (Zpf .new) (Zb es),.nils])::[(1004,.cells .new g4 0 [v4]),(1005,.cells .new g5 0 [v5]),(1006,.cells .new g6 0 [v6]),(1007,.cells .new g7 0 [v7]),(1009,.cells .new g9 0 [v9]),(1106,.cells .new h6 0 [.func t [] cl]),(1209,.cells .new h9 0 [Za .new 1 (V.int .i64) (Zb b.sources),.int .i64 b.first,Za .new 1 (V.int .i64) (Zb b.guards),Za .new 1 (V.int .i64) (Zb b.effects),.nils,.nils])]))
  (λ_ _=>True) 0 () (Nat.zero_le _) trivial (Zva ⟨rfl,rfl,zp,zp,zp,trivial⟩ ⟨by simp -implicitDefEqProofs only[go_sem,seval,List.take_zero,List.flatMap_nil,List.append_nil],zp,zp,zp,zp,zp,zp,zp,trivial⟩ zp) ?_
 intro k _ hk _ L hL
 have hle0:∀ n,(b.guards++(es.take n).flatMap (·.2)).length<390000:=λn=>by
  refine Nat.lt_of_le_of_lt ?_ hlg
  conv=>rhs;rw[<- List.take_append_drop n es,List.flatMap_append]
  simp only[List.length_append];omega
 have hne:∀ n,b.guards++(es.take n).flatMap (·.2)≠[]:=λn h=>hbg (List.append_eq_nil_iff.1 h).1
 by_cases hk1:k<es.length
 have hlt:decide ((k:Int)<(es.length:Int))=true:=zT;have hg:=List.getElem?_eq_getElem hk1
 have htk:(es.take (k+1)).flatMap (·.2)=(es.take k).flatMap (·.2)++es[k].2:=by
  rw[List.take_add_one,hg,List.flatMap_append];simp
 have hl1:=hle0 (k+1);rw[htk]at hl1;generalize es[k]=e at hg htk hl1;have w1:IntKind.i64.wrap ((k:Int)+1)=(k:Int)+1:=w64 zo zo
 have hg2:(Zb es).l[k]?=some e:=by rw[Zl];exact hg
 have hk2:k<(Zb es).l.length:=by rw[Zl];exact hk1
 refine Zf (zi hlt (zi hg (zi hk1 (zi (Zl es) (zi Z8c (zi @Int.natCast_nonneg @Int.ofNat_lt)))))) ?_;intro g7';refine Z ?_
 have hlen:(b.guards++(es.take k).flatMap (·.2)).length+e.2.length<390000:=by
  have:=hl1;simp only[List.length_append]at this⊢;omega
 have hwr:Za .new 1 (V.int .i64) (.mk false (b.guards++(es.take k).flatMap (·.2)++e.2))=Za .new 1 (V.int .i64) (Zb (b.guards++(es.take (k+1)).flatMap (·.2))):=by
  rw[htk,<- List.append_assoc,Zlh (l:=b.guards++(es.take k).flatMap (·.2)++e.2) (by
   intro h
   exact hne k (List.append_eq_nil_iff.1 h).1)]
 refine Zc hG ?_ (s:=Z2m G hG _ _ _ _ (by rw[Zl];omega) (by rw[Zl];omega) (by
  rw[Zl,Zl];have:=List.length_pos_iff.2 (hne k)
  omega))
 refine Zf (zi w1 hwr) ?_;refine hL _ ⟨hk1,(),trivial,Zva ⟨rfl,rfl,zp,zp,zp,trivial⟩ ⟨zp,zp,zp,zp,zp,zp,zp,zp,trivial⟩ zp⟩;have hke:k=es.length:=zo;have hlt:decide ((k:Int)<(es.length:Int))=false:=zF;rw[hke,List.take_length];rw[hke]at hlt;refine Zs ?_;refine Zne zk ?_;refine Zsf hlt ?_;refine Z6 ?_;refine Zad rfl ?_;refine AW.exit ?_;refine Zs ?_;refine Z6 (Zrb [2] zk (by rfl) ?_);simp -implicitDefEqProofs only[go_sem,seval,Z7y];refine⟨_,rfl,?_⟩
 refine HandX.weak (Zgf (lo:=2000) (B:=M) (l:=[(24,.func t [] cl),(25,Zme (b.fork es))]) (m:=[(1004,.cells .new g4 0 [v4]),(1005,.cells .new g5 0 [v5]),(1006,.cells .new g6 0 [v6]),(1007,.cells .new g7 0 [v7]),(1009,.cells .new g9 0 [v9]),(1106,.cells .new h6 0 [.func t [] cl]),(1209,.cells .new h9 0 [Za .new 1 (V.int .i64) (Zb b.sources),.int .i64 b.first,Za .new 1 (V.int .i64) (Zb b.guards),Za .new 1 (V.int .i64) (Zb b.effects),.nils,.nils])])
  (by
   simp -implicitDefEqProofs only[go_sem,seval]
   exact⟨Fz.same _,Fz.same _⟩) ⟨zp,zp,zp,zp,zp,zp,zp,trivial⟩ zp) rfl (Zvf (hy.at hXY) s (b.fork es) rfl zm hd ?_ (λH2 hR2 hlow=>?_) zk (n:=2) rfl zp)
 simp -implicitDefEqProofs only[go_sem,seval];rw[hMM];exact hR;have e1:=hlow 1004 zd;have e2:=hlow 1005 zd;have e3:=hlow 1006 zd;have e4:=hlow 1007 zd;have e5:=hlow 1009 zd;have e6:=hlow 1106 zd;have e7:=hlow 1209 zd;simp -implicitDefEqProofs only[go_sem,seval]at e1 e2 e3 e4 e5 e6 e7;refine Zs ?_;refine AW.weak (Zva (lo:=2000) (B:=H2) (l:=[(4,.bool (nx s (b.fork es)).1)]) (m:=[(1004,.cells .new g4 0 [v4]),(1005,.cells .new g5 0 [v5]),(1006,.cells .new g6 0 [v6]),(1007,.cells .new g7 0 [v7]),(1009,.cells .new g9 0 [v9]),(1106,.cells .new h6 0 [.func t [] cl]),(1209,.cells .new h9 0 [Za .new 1 (V.int .i64) (Zb b.sources),.int .i64 b.first,Za .new 1 (V.int .i64) (Zb b.guards),Za .new 1 (V.int .i64) (Zb b.effects),.nils,.nils])]) ⟨rfl,trivial⟩ ⟨e1,e2,e3,e4,e5,e6,e7,trivial⟩ rfl) ?_;refine Z ?_;refine⟨rfl,?_,?_⟩;simp -implicitDefEqProofs only[go_sem,seval];exact hR2;simp -implicitDefEqProofs only[go_sem,seval]
end Go.Hs
end

section
namespace Go.Hs
open Go.Proofs
set_option maxRecDepth 10000
set_option maxHeartbeats 2000000
theorem Zl6(m:PM)(sources:List Int)(first:Int)(into:List Int)(w:List Int×Int)(h:w.2 ≠ -1/\m.allP w.2=true):m.strW sources first into w=(m.forkF (m.outI w.2) []).map (StP.fork ⟨sources,first,w.1,into++w.1,[]⟩):=by
 rw[PM.strW,if_pos h];rfl
theorem Zqs(m:PM)(sources:List Int)(first:Int)(into:List Int)(w:List Int×Int)(h:¬(w.2 ≠ -1/\m.allP w.2=true)):m.strW sources first into w=[⟨sources,first,w.1,into++w.1,[(w.2,[])]⟩]:=by
 rw[PM.strW,if_neg h]
theorem Zlv{σ κ κ2:Type}(nx : σ -> κ2->Bool × σ)(f : κ -> κ2):∀ (xs:List κ) (s : σ),Zla nx s (xs.map f)=Zla (λs k=>nx s (f k)) s xs
 |[],_=>rfl
 |k::r,s=>by
  rw[List.map_cons,Zla,Zla]
  split
  exact Zlv nx f r _;rfl
theorem Zz6{σ κ κ2:Type}{dom : σ -> κ2->Prop}{nx : σ -> κ2->Bool × σ}{f : κ -> κ2}{Q : κ -> Prop}:∀ {xs:List κ} {s : σ},Z0o dom nx s (xs.map f)->(∀ k∈xs,Q k)->Z0o (λs k=>dom s (f k)/\Q k) (λs k=>nx s (f k)) s xs
 |[],_,_,_=>trivial
 |k::r,s,h,hq=>⟨⟨h.1,hq k (List.mem_cons_self ..)⟩,λz=>Zz6 (h.2 z) λk' hk=>hq k' (List.mem_cons_of_mem _ hk)⟩
theorem Z9q(G:Nat->V)(hG:GOk G)(b c d:Col)(x:IxM)(m:PM)(hx:IxP m x)(hw:m.ways.length<1000000)(n:Nat)(p:PlM)(hg:x.places.l[n]?=some p)(h1:(n:Int)<m.vertices.length):
  Spec Tryz.prog G 60 [ixV b c d x,.int .i64 n] Zk (λw _=>w=Za .new 1 (V.int .i64) p.out.co):=by
 refine Zo 0 18 [.tmp 4] Tryz.func60 λX=>?_;have hk:n<x.places.l.length:=(List.getElem?_eq_some_iff.1 hg).1
 have e0:(decide ((0:Int)<=(n:Int))&&decide ((n:Int)<x.places.l.length))=true:=by rw[Bool.and_eq_true];exact⟨zT,zT⟩
 refine Z ?_;refine Zc hG ?_ (s:=Zhd G _ _ _ _ _);refine Zg (zi e0 (zi hg (zi hk (zi Z4d (zi Zhh (zi @Int.natCast_nonneg @Int.ofNat_lt)))))) ?_
 have hl:p.out.l.length<1000000:=by rw[hx.out n p hg,PM.outI];exact Nat.lt_of_le_of_lt (PM.wysI_len _ _ _) hw
 refine Zc hG ?_ (s:=Zjk G _ _ hl);exact Zr
@[go_sem] theorem mask_1002(H:Heap):Zia 100 (Zia 2000 H)=Zia 2000 H:=Z5k H zd
@[go_sem] theorem mask_2001(H:Heap):Zia 2000 (Zia 100 H)=Zia 2000 H:=Z9g H zd
theorem Zo0{lo:Nat}{H:Heap}{a b c d e f:AObj}(h:lo=2000):upd (upd (upd (upd (upd (upd (upd (Zia lo H) 1106 f) 1009 e) 1007 d) 1006 c) 1005 b) 1004 a) 1190 .dead=upd (upd (upd (upd (upd (upd (Zia lo H) 1106 f) 1009 e) 1007 d) 1006 c) 1005 b) 1004 a:=by
 subst h
 funext o
 by_cases q:o=1190
 subst q;simp[upd,Zib];rw[Zi _ _ q]
theorem Z44{F:Nat->Bool}{H:Heap}{xs ys:List V}(h:FzL F H xs ys):Fz F H (.agg xs) (.agg ys):=.agg xs ys h.get.1.symm h.get.2
theorem Zyga(l:List Int):(Zb l).co=Zb l:=by cases l<;>rfl
theorem Z7da(G:Nat->V)(hG:GOk G)(b c d e f g s1 s2:Col)(m:MdM)(x:IxM)(hx:IxP m.p x)(hw:m.p.ways.length<=600)(hr:∀ t:Int,0<=t->t<m.p.ways.length->0<=m.p.tg t/\m.p.tg t<m.p.vertices.length)
  (hwf:m.p.Wfd) (sources into:List Int) (hsn:sources≠[]) (hsl:sources.length<1000) (hil:into.length<1000) (first t:Int) (t0:0<=t) (t1:t<m.p.ways.length) (g4 g5 g6 g7 g9:Nat) (H:Heap) (q4:H 1004=.cells .new g4 0 [wkV b c d e f g m x]) (q5:H 1005=.cells .new g5 0 [Za s1 1 (V.int .i64) (Zb sources)]) (q6:H 1006=.cells .new g6 0 [Za s2 1 (V.int .i64) (Zb into)]) (q7:H 1007=.cells .new g7 0 [.int .i64 t]) (q9:H 1009=.cells .new g9 0 [.int .i64 first]):
  ItSp Tryz.prog G 2000 115 [.ptr 1004 g4 0,.ptr 1007 g7 0,.ptr 1005 g5 0,.ptr 1009 g9 0,.ptr 1006 g6 0] H (λs:StP=>[Zme s]) ((m.p.waysL t).flatMap (m.p.strW sources first into)):=by
 refine Zdc .marks 1100 59 6 [] Tryz.func115 λX ty cl σ R dom nx s0 hy hd hR _=>?_;obtain⟨n,y,rfl,hn',hgy,ey⟩:=m.wyAt t0 t1
 have etg:m.p.tg (n:Int)=y.target:=by rw[PM.tg,ey];rfl
 refine AW.weak (Zva (lo:=2000) (B:=H) (l:=[(0,.func ty [] cl),(1,.ptr 1004 g4 0),(2,.ptr 1007 g7 0),(3,.ptr 1005 g5 0),(4,.ptr 1009 g9 0),(5,.ptr 1006 g6 0)]) (m:=[(1004,.cells .new g4 0 [wkV b c d e f g m x]),(1005,.cells .new g5 0 [Za s1 1 (V.int .i64) (Zb sources)]),(1006,.cells .new g6 0 [Za s2 1 (V.int .i64) (Zb into)]),(1007,.cells .new g7 0 [.int .i64 n]),(1009,.cells .new g9 0 [.int .i64 first])]) ⟨rfl,rfl,rfl,rfl,rfl,rfl,trivial⟩ ⟨q4,q5,q6,q7,q9,trivial⟩ rfl) ?_;refine Z ?_;intro g1106;refine Z ?_;refine Zp ⟨λ_=>.top,λi=>if i=12 then .any else .pure⟩ zk hG zk zk ?_;simp -implicitDefEqProofs only[go_sem,seval,hgy,hn',Z1e,Z8,@Int.natCast_nonneg,@Int.ofNat_lt];refine⟨by rw[Zib zd],λg22=>?_⟩;refine Z1a 1122 [wkV b c d e f g m x,.int .i64 (m.p.tg n),Za .new 1 (V.int .i64) (.mk false [(n:Int)])] ⟨Fz.same _,by rw[etg];exact Fz.same _,Z2b (f:=V.int .i64) (l:=[(n:Int)]) (m:=1) (g:=g22) (fz:=0) (c:=.new) rfl zp (λ_=>rfl),trivial⟩ ?_;refine Z8d [wkV b c d e f g m x,.int .i64 (m.p.tg n),Za .new 1 (V.int .i64) (.mk false [(n:Int)])] ⟨Fz.same _,Fz.same _,Fz.same _,trivial⟩ ?_;refine CallA.inl [(63,.dead),(64,.dead),(65,.dead)] zk ?_ ((Z8t G b c d e f g m x _ (.mk false [(n:Int)])).mono ?_);intro p hp;simp only[List.mem_cons,List.not_mem_nil,or_false]at hp
 rcases hp with rfl|rfl|rfl
 simp -implicitDefEqProofs only[go_sem,seval];exact Zib zd;simp -implicitDefEqProofs only[go_sem,seval];exact Zib zd;simp -implicitDefEqProofs only[go_sem,seval];exact Zib zd;rintro w H' ⟨w3,w4,w5,rfl,e3,e4,e5⟩;simp -implicitDefEqProofs only[go_sem,seval,Zfa,e3,e4,e5];refine AW.block ?_;rw[Zlo]
 refine AW.weak (Zva (lo:=2000) (B:=H) (l:=[(1,.ptr 1004 g4 0),(3,.ptr 1005 g5 0),(4,.ptr 1009 g9 0),(5,.ptr 1006 g6 0),(6,.ptr 1106 g1106 0),(23,.func (.func 180) [] [.ptr 63 w3 0,.ptr 64 w4 0,.ptr 65 w5 0])])
  (m:=(63,.cells .new w3 0 [wkV b c d e f g m x])::(64,.cells .new w4 0 [.int .i64 (m.p.tg n)])::(65,.cells .new w5 0 [Za .new 1 (V.int .i64) (.mk false [(n:Int)])])::[(1004,.cells .new g4 0 [wkV b c d e f g m x]),(1005,.cells .new g5 0 [Za s1 1 (V.int .i64) (Zb sources)]),(1006,.cells .new g6 0 [Za s2 1 (V.int .i64) (Zb into)]),(1007,.cells .new g7 0 [.int .i64 n]),(1009,.cells .new g9 0 [.int .i64 first]),(1106,.cells .new g1106 0 [.func ty [] cl])]) ⟨rfl,rfl,rfl,rfl,rfl,rfl,trivial⟩ ⟨zr,zr,zr,zr,zr,zr,zr,zr,zr,trivial⟩ zp) ?_
 refine AW.range 50 100 1190 1200 (fun(w : σ × Bool) (H:Heap)=>R w.1 (Zia 2000 H)/\H=Zfa (Zia 2000 H) [(1004,.cells .new g4 0 [wkV b c d e f g m x]),(1005,.cells .new g5 0 [Za s1 1 (V.int .i64) (Zb sources)]),(1006,.cells .new g6 0 [Za s2 1 (V.int .i64) (Zb into)]),(1007,.cells .new g7 0 [.int .i64 n]),(1009,.cells .new g9 0 [.int .i64 first]),(1106,.cells .new g1106 0 [.func ty [] cl])])
  (nxF nx (m.p.strW sources first into)) jB (λw k=>Z0o dom nx w.1 (m.p.strW sources first into k)/\k∈m.p.waysL n) (s0,true) rfl zk (by exact λ_ h=>nomatch h) (λp hp=>?_) (λ_=>rfl) zd zd
  (λl r'=>Zb5 G hG b c d e f g m x hx zo hr n t0 t1 w3 w4 w5 _ zp zp zp) (λ_ _ _=>trivial) rfl ?_ (Zwha (Zbt hd) λ_ h=>h) ?_ ?_
 simp only[List.mem_cons,List.not_mem_nil,or_false]at hp
 rcases hp with rfl|rfl
 exact(by decide:24<59);exact(by decide:25<59);refine⟨?_,?_⟩
 show R s0 _
 refine Zs ?_;exact hR;simp -implicitDefEqProofs only[go_sem,seval];exact Zo0 rfl
 .rintro l Y ⟨s',b1⟩ ⟨path,v⟩ Hk _ hrd ⟨hdk,hmem⟩ hjm ⟨rk,hB⟩
  simp only at hdk rk;generalize upd (Zia 100 Hk) 1190 .dead=B at *;cases b1;cases hjm;generalize hM:Zia 2000 B=M at rk hB;subst hB
  have hMM:Zia 2000 M=M:=by simp -implicitDefEqProofs only[go_sem,seval]at hM;exact hM
  clear hM
  have hMd:∀ o,o<2000->M o=.dead:=λo ho=>by rw[<- hMM,Zib ho]
  refine Zsf Zroa ?_;refine Zne zk ?_;refine Zs ?_;refine AW.region zk ?_;refine Zs ?_;intro Zx hXZ _;refine AW.weak (Weak.tm (l:=[(1,.ptr 1004 g4 0),(3,.ptr 1005 g5 0),(4,.ptr 1009 g9 0),(5,.ptr 1006 g6 0),(6,.ptr 1106 g1106 0),(7,Za .new 1 (V.int .i64) (.mk false path)),(8,.int .i64 v)]) ⟨rfl,rfl,rfl,rfl,rfl,rfl,rfl,trivial⟩) ?_;refine AW.block ?_
  repeat refine Z6 ?_
  have wf:=m.p.waysL_ok hwf t0 t1 _ hmem;have hpl:path.length<=601:=Nat.le_trans wf.len zo;have hpn:path≠[]:=Zug _ _ _ _ zS _ hmem;have d1209:=hMd 1209 zd;refine Zp ⟨λi=>if i=1 then Za .new 1 (V.int .i64) (Zb sources)else Za .new 1 (V.int .i64) (.mk false (into++path)),λ_=>.pure⟩ zk hG zk zk ?_;simp -implicitDefEqProofs only[go_sem,seval,d1209];refine⟨⟨by kernel_rfl,?_⟩,⟨by kernel_rfl,?_⟩,λg1209=>?_⟩;simp -implicitDefEqProofs only[go_sem,seval,List.map_cons,List.map_nil]
  exact(Zjk G _ _ (by rw[Zl];omega)).mono λv _ e=>by rw[e,Zyga];simp -implicitDefEqProofs only[go_sem,seval]
  simp -implicitDefEqProofs only[go_sem,seval,List.map_cons,List.map_nil]
  exact(Z2m G hG _ _ _ _ (by rw[Zl];omega) (by show path.length<_;omega) (by
   have:=List.length_pos_iff.2 hpn
   show _+path.length≠0
   omega)).mono λv _ e=>by rw[e,Zl];simp -implicitDefEqProofs only[go_sem,seval]
  have hip:into++path≠[]:=λh=>hpn (List.append_eq_nil_iff.1 h).2;rw[<- Zlh hip,<- Zlh hpn]
  by_cases hv:v = -1
  have hv1:(v != -1)=false:=by rw[hv];rfl
  rw[Zqs _ _ _ _ _ (λh=>h.1 hv)]at hdk;refine Zf hv1 ?_;intro g1252
  have enx:nxF nx (m.p.strW sources first into) (s',true) (path,v)=((nx s' ⟨sources,first,path,into++path,[(v,[])]⟩).2,(nx s' ⟨sources,first,path,into++path,[(v,[])]⟩).1):=by
   show((Zla nx s' _).2,(Zla nx s' _).1)=_
   rw[Zqs _ _ _ _ _ (λh=>h.1 hv),Zak]
  refine Zrb [2] zk (by rfl) ?_;simp -implicitDefEqProofs only[go_sem,seval,Z7y];refine⟨_,rfl,?_⟩
  refine HandX.weak (Zdp (lo:=2000) (B:=M) (λo=>o==1252) (l:=[(54,.func ty [] cl),(55,.agg [Za .new 1 (V.int .i64) (Zb sources),.int .i64 first,Za .new 1 (V.int .i64) (Zb path),Za .new 1 (V.int .i64) (Zb (into++path)),Z0b .new [(v,[])],.nils])]) (m:=[(1004,.cells .new g4 0 [wkV b c d e f g m x]),(1005,.cells .new g5 0 [Za s1 1 (V.int .i64) (Zb sources)]),(1006,.cells .new g6 0 [Za s2 1 (V.int .i64) (Zb into)]),(1007,.cells .new g7 0 [.int .i64 n]),(1009,.cells .new g9 0 [.int .i64 first]),(1106,.cells .new g1106 0 [.func ty [] cl])])
   (λo ho=>zO) (by
    simp -implicitDefEqProofs only[go_sem,seval]
    exact⟨Fz.same _,Z44 ⟨Fz.same _,Fz.same _,Fz.same _,Fz.same _,Z2b (f:=Zpf .new) (l:=[(v,[])]) (m:=2) (g:=g1252) (fz:=0) (c:=.new) rfl zp (Zy6 _),Fz.same _,trivial⟩⟩) (λp hp=>by
     simp only[List.mem_cons,List.not_mem_nil,or_false]at hp
     rcases hp with rfl|rfl|rfl|rfl|rfl|rfl<;>rfl) ⟨zp,zp,zp,zp,zp,zp,trivial⟩ zp) rfl ?_
  refine HandX.weak (Zgf (lo:=2000) (B:=M) (l:=[(54,.func ty [] cl),(55,Zme ⟨sources,first,path,into++path,[(v,[])]⟩)]) (m:=[(1004,.cells .new g4 0 [wkV b c d e f g m x]),(1005,.cells .new g5 0 [Za s1 1 (V.int .i64) (Zb sources)]),(1006,.cells .new g6 0 [Za s2 1 (V.int .i64) (Zb into)]),(1007,.cells .new g7 0 [.int .i64 n]),(1009,.cells .new g9 0 [.int .i64 first]),(1106,.cells .new g1106 0 [.func ty [] cl])])
   (by
    simp -implicitDefEqProofs only[go_sem,seval]
    exact⟨Fz.same _,Fz.same _⟩) ⟨zp,zp,zp,zp,zp,zp,trivial⟩ zp) rfl (Zvf (hy.at hXZ) s' ⟨sources,first,path,into++path,[(v,[])]⟩ rfl zm hdk.1 ?_ (λH2 hR2 hlow=>?_) zk (n:=2) rfl zp)
  simp -implicitDefEqProofs only[go_sem,seval];rw[hMM];exact rk;have e1:=hlow 1004 zd;have e2:=hlow 1005 zd;have e3:=hlow 1006 zd;have e4:=hlow 1007 zd;have e5:=hlow 1009 zd;have e6:=hlow 1106 zd;simp -implicitDefEqProofs only[go_sem,seval]at e1 e2 e3 e4 e5 e6;generalize nx s' ⟨sources,first,path,into++path,[(v,[])]⟩=z at hR2 enx⊢;obtain⟨bb,s3⟩:=z;refine Zs ?_;refine AW.weak (Zva (lo:=2000) (B:=H2) (l:=[(10,.bool bb)]) (m:=[(1004,.cells .new g4 0 [wkV b c d e f g m x]),(1005,.cells .new g5 0 [Za s1 1 (V.int .i64) (Zb sources)]),(1006,.cells .new g6 0 [Za s2 1 (V.int .i64) (Zb into)]),(1007,.cells .new g7 0 [.int .i64 n]),(1009,.cells .new g9 0 [.int .i64 first]),(1106,.cells .new g1106 0 [.func ty [] cl])]) ⟨rfl,trivial⟩ ⟨e1,e2,e3,e4,e5,e6,trivial⟩ rfl) ?_;cases bb;refine Z ?_;refine AW.ret ?_;refine Zs ?_;rw[enx];exact⟨rfl,hR2,Zo0 rfl⟩;refine Z ?_;rw[enx];exact⟨rfl,hR2,Zo0 rfl⟩
  have hv1:(v != -1)=true:=by simp[bne,hv]
  obtain⟨v0,v1⟩:0<=v/\v<m.p.vertices.length:=by
   rcases wf.fo with h|h
   exact absurd h hv;exact h.1
  refine Zf hv1 ?_;refine Zc hG ?_ (s:=Zx8 G hG _ _ _ _ _ _ m _ (hx.rc _) zo v v0 v1);cases q:m.p.allP v
  have hnf:¬(v ≠ -1/\m.p.allP v=true):=λh=>by rw[q]at h;cases h.2
  rw[Zqs _ _ _ _ _ hnf]at hdk;refine Zf q ?_;intro g1252
  have enx:nxF nx (m.p.strW sources first into) (s',true) (path,v)=((nx s' ⟨sources,first,path,into++path,[(v,[])]⟩).2,(nx s' ⟨sources,first,path,into++path,[(v,[])]⟩).1):=by
   show((Zla nx s' _).2,(Zla nx s' _).1)=_
   rw[Zqs _ _ _ _ _ hnf,Zak]
  refine Zrb [2] zk (by rfl) ?_;simp -implicitDefEqProofs only[go_sem,seval,Z7y];refine⟨_,rfl,?_⟩
  refine HandX.weak (Zdp (lo:=2000) (B:=M) (λo=>o==1252) (l:=[(54,.func ty [] cl),(55,.agg [Za .new 1 (V.int .i64) (Zb sources),.int .i64 first,Za .new 1 (V.int .i64) (Zb path),Za .new 1 (V.int .i64) (Zb (into++path)),Z0b .new [(v,[])],.nils])]) (m:=[(1004,.cells .new g4 0 [wkV b c d e f g m x]),(1005,.cells .new g5 0 [Za s1 1 (V.int .i64) (Zb sources)]),(1006,.cells .new g6 0 [Za s2 1 (V.int .i64) (Zb into)]),(1007,.cells .new g7 0 [.int .i64 n]),(1009,.cells .new g9 0 [.int .i64 first]),(1106,.cells .new g1106 0 [.func ty [] cl])])
   (λo ho=>zO) (by
    simp -implicitDefEqProofs only[go_sem,seval]
    exact⟨Fz.same _,Z44 ⟨Fz.same _,Fz.same _,Fz.same _,Fz.same _,Z2b (f:=Zpf .new) (l:=[(v,[])]) (m:=2) (g:=g1252) (fz:=0) (c:=.new) rfl zp (Zy6 _),Fz.same _,trivial⟩⟩) (λp hp=>by
     simp only[List.mem_cons,List.not_mem_nil,or_false]at hp
     rcases hp with rfl|rfl|rfl|rfl|rfl|rfl<;>rfl) ⟨zp,zp,zp,zp,zp,zp,trivial⟩ zp) rfl ?_
  refine HandX.weak (Zgf (lo:=2000) (B:=M) (l:=[(54,.func ty [] cl),(55,Zme ⟨sources,first,path,into++path,[(v,[])]⟩)]) (m:=[(1004,.cells .new g4 0 [wkV b c d e f g m x]),(1005,.cells .new g5 0 [Za s1 1 (V.int .i64) (Zb sources)]),(1006,.cells .new g6 0 [Za s2 1 (V.int .i64) (Zb into)]),(1007,.cells .new g7 0 [.int .i64 n]),(1009,.cells .new g9 0 [.int .i64 first]),(1106,.cells .new g1106 0 [.func ty [] cl])])
   (by
    simp -implicitDefEqProofs only[go_sem,seval]
    exact⟨Fz.same _,Fz.same _⟩) ⟨zp,zp,zp,zp,zp,zp,trivial⟩ zp) rfl (Zvf (hy.at hXZ) s' ⟨sources,first,path,into++path,[(v,[])]⟩ rfl zm hdk.1 ?_ (λH2 hR2 hlow=>?_) zk (n:=2) rfl zp)
  simp -implicitDefEqProofs only[go_sem,seval];rw[hMM];exact rk;have e1:=hlow 1004 zd;have e2:=hlow 1005 zd;have e3:=hlow 1006 zd;have e4:=hlow 1007 zd;have e5:=hlow 1009 zd;have e6:=hlow 1106 zd;simp -implicitDefEqProofs only[go_sem,seval]at e1 e2 e3 e4 e5 e6;generalize nx s' ⟨sources,first,path,into++path,[(v,[])]⟩=z at hR2 enx⊢;obtain⟨bb,s3⟩:=z;refine Zs ?_;refine AW.weak (Zva (lo:=2000) (B:=H2) (l:=[(10,.bool bb)]) (m:=[(1004,.cells .new g4 0 [wkV b c d e f g m x]),(1005,.cells .new g5 0 [Za s1 1 (V.int .i64) (Zb sources)]),(1006,.cells .new g6 0 [Za s2 1 (V.int .i64) (Zb into)]),(1007,.cells .new g7 0 [.int .i64 n]),(1009,.cells .new g9 0 [.int .i64 first]),(1106,.cells .new g1106 0 [.func ty [] cl])]) ⟨rfl,trivial⟩ ⟨e1,e2,e3,e4,e5,e6,trivial⟩ rfl) ?_;cases bb;refine Z ?_;refine AW.ret ?_;refine Zs ?_;rw[enx];exact⟨rfl,hR2,Zo0 rfl⟩;refine Z ?_;rw[enx];exact⟨rfl,hR2,Zo0 rfl⟩;have hf:v ≠ -1/\m.p.allP v=true:=⟨hv,q⟩;rw[Zl6 _ _ _ _ _ hf]at hdk
  have houts:m.p.outI v≠[]:=by
   intro h0;unfold PM.allP at q;rw[Bool.or_eq_true,Bool.and_eq_true,h0]at q
   rcases q with q|⟨_,q⟩
   have:=hwf.fork v v0 v1 (zu q);rw[h0]at this;cases this;simp at q
  obtain⟨nv,pv,ev,hkv,hgv,_,_,_,_,hov,_⟩:=hx.at v0 v1
  have hco:pv.out.co=.mk false (m.p.outI v):=by
   cases h:pv.out with
   |nil=>rw[h]at hov;exact absurd hov.symm houts
   |mk b l=>rw[h]at hov;rw[<- hov];rfl
  have hlo:(m.p.outI v).length<=512:=Nat.le_trans (PM.wysI_len _ _ _) hwf.lw
  let b0:StP:=⟨sources,first,path,into++path,[]⟩
  refine Zsf q ?_;refine Z2f rfl ?_;refine Zup 8 ⟨λ_=>Za .new 1 (V.int .i64) (.mk false (m.p.outI v)),λ_=>.pure⟩ zk hG zk zk zk zk ?_;simp -implicitDefEqProofs only[go_sem,seval,Z1e];refine⟨⟨by kernel_rfl,?_⟩,_,rfl,?_⟩;simp -implicitDefEqProofs only[go_sem,seval,List.map_cons,List.map_nil];have:=Z9q G hG e.ent f.ent g.ent (x.rc Col.ent) m.p (hx.rc _) zo nv pv hgv (by rw[<- ev];exact v1);rw[<- ev,hco]at this
  exact this.mono λv _ e=>by rw[e];simp -implicitDefEqProofs only[go_sem,seval]
  have enx:nxF nx (m.p.strW sources first into) (s',true) (path,v)=((Zla (λs es=>nx s (b0.fork es)) s' (m.p.forkF (m.p.outI v) [])).2,(Zla (λs es=>nx s (b0.fork es)) s' (m.p.forkF (m.p.outI v) [])).1):=by
   show((Zla nx s' _).2,(Zla nx s' _).1)=_
   rw[Zl6 _ _ _ _ _ hf,Zlv]
  refine HandX.weak (Zgf (lo:=2000) (B:=M) (l:=[(41,wkV b c d e f g m x),(47,Za .new 1 (V.int .i64) (.mk false (m.p.outI v))),(48,.func (.func 120) [] [.ptr 1209 g1209 0,.ptr 1106 g1106 0])])
   (m:=[(1004,.cells .new g4 0 [wkV b c d e f g m x]),(1005,.cells .new g5 0 [Za s1 1 (V.int .i64) (Zb sources)]),(1006,.cells .new g6 0 [Za s2 1 (V.int .i64) (Zb into)]),(1007,.cells .new g7 0 [.int .i64 n]),(1009,.cells .new g9 0 [.int .i64 first]),(1106,.cells .new g1106 0 [.func ty [] cl]),(1209,.cells .new g1209 0 [Za .new 1 (V.int .i64) (Zb b0.sources),.int .i64 b0.first,Za .new 1 (V.int .i64) (Zb b0.guards),Za .new 1 (V.int .i64) (Zb b0.effects),.nils,.nils])])
   (by refine Zs ?_;exact⟨Fz.same _,Fz.same _,Fz.same _⟩) ⟨zr,zr,zr,zr,zr,zr,zr,trivial⟩ zp) rfl ?_
  refine Zzm 1000 (Nat.le_refl _) (Z4ma G hG m x hx zo hr (m.p.outI v) [] false b c d e f g .new _ (λt ht=>(PM.mem_out.1 ht).1) zO) zk
   (λX' hle=>Zqka G hG ((hy.at hXZ).at hle) b0 hpn g4 g5 g6 g7 g9 g1106 g1209 (wkV b c d e f g m x) (Za s1 1 (V.int .i64) (Zb sources)) (Za s2 1 (V.int .i64) (Zb into)) (.int .i64 n) (.int .i64 first)) s' rfl ?_ (Zz6 hdk λes hes=>?_) ?_ (λH2 hR2 hlow=>?_) zk (n:=8) rfl zp (λ_ _ _=>trivial)
  simp -implicitDefEqProofs only[go_sem,seval,Z1e];rfl;obtain⟨f1,f2⟩:=m.p.forkF_ok (m.p.outI v) [] es hes
  have f3:=PM.flat_le (n:=513) es λe' he'=>by
   rcases f2 e' he' with h|⟨o,ho,h⟩
   cases h;have:=(PM.mem_out.1 ho).1;exact Nat.le_trans (m.p.waysL_ok hwf this.1 this.2 _ h).len (by have:=hwf.lw;omega)
  have f4:es.length<=512:=by rw[f1];simpa using hlo
  refine⟨?_,zo⟩
  show(path++_).length<_
  rw[List.length_append];have:es.length*513<=512*513:=Nat.mul_le_mul_right _ f4;omega;refine⟨?_,?_⟩;simp -implicitDefEqProofs only[go_sem,seval];rw[hMM];exact rk;simp -implicitDefEqProofs only[go_sem,seval];obtain⟨hR3,hE⟩:=hR2;generalize Zla (λs es=>nx s (b0.fork es)) s' (m.p.forkF (m.p.outI v) [])=z at hR3 enx⊢;obtain⟨bb,s3⟩:=z;refine Zs ?_;refine AW.weak (Zva (lo:=1000) (B:=H2) (l:=[(10,.bool bb)]) (m:=[]) ⟨rfl,trivial⟩ trivial rfl) ?_;generalize hM2:Zia 2000 (Zia 1000 H2)=M2 at hR3 hE
  have hM3:Zia 2000 M2=M2:=by rw[<- hM2,Zbo]
  unfold Hs.stM;rw[show Zfa (Zia 1000 H2) []=Zia 1000 H2 from rfl,hE];refine AW.weak (Zva (lo:=2000) (B:=M2) (l:=[(10,.bool bb)]) (m:=[(1004,.cells .new g4 0 [wkV b c d e f g m x]),(1005,.cells .new g5 0 [Za s1 1 (V.int .i64) (Zb sources)]),(1006,.cells .new g6 0 [Za s2 1 (V.int .i64) (Zb into)]),(1007,.cells .new g7 0 [.int .i64 n]),(1009,.cells .new g9 0 [.int .i64 first]),(1106,.cells .new g1106 0 [.func ty [] cl])]) ⟨rfl,trivial⟩ ⟨zp,zp,zp,zp,zp,zp,trivial⟩ zp) ?_;cases bb;refine Z ?_;refine AW.ret ?_;refine Zs ?_;rw[enx,hM3];refine⟨rfl,hR3,?_⟩;rw[<- hM3];exact Zo0 rfl;refine Z ?_;rw[enx,hM3];refine⟨rfl,hR3,?_⟩;rw[<- hM3];exact Zo0 rfl
 rintro H2 ⟨hRf,hH⟩ _ _;generalize(Zla (λw k=>((jB (nxF nx (m.p.strW sources first into) w k)).isNone,nxF nx (m.p.strW sources first into) w k)) (s0,true) (m.p.waysL (n:Int))).2=z at hRf⊢;generalize hM:Zia 2000 (upd (Zia 100 H2) 1190 .dead)=M at hRf hH
 have hMM:Zia 2000 M=M:=by rw[<- hM,Zbo]
 obtain⟨s2',b2⟩:=z
 have hM2:M=Zia 2000 H2:=by rw[<- hM];simp -implicitDefEqProofs only[go_sem,seval]
 cases b2;refine AW.weak (Weak.rng (l:=[]) hH trivial) ?_;refine Z ?_;refine⟨.inr trivial,?_⟩;refine Zs ?_;rw[hMM];exact hRf;refine⟨_,rfl,.inr trivial,?_⟩;rw[hM2]at hRf;exact hRf
end Go.Hs
end

section
namespace Go.Hs
open Go.Proofs
set_option maxRecDepth 10000
set_option maxHeartbeats 2000000
theorem Zhi(G:Nat->V)(b c d e f g s1 s2:Col)(m:MdM)(x:IxM)(sources into:List Int)(t:Int):InSp Tryz.prog G 59 [wkV b c d e f g m x,Za s1 1 (V.int .i64) (Zb sources),Za s2 1 (V.int .i64) (Zb into),.int .i64 t] (Zfa Zk [(1004,.dead),(1005,.dead),(1006,.dead),(1007,.dead),(1009,.dead)])
  (λw H'=>∃ g4 g5 g6 g7 g9,w=.func (.func 115) [] [.ptr 1004 g4 0,.ptr 1007 g7 0,.ptr 1005 g5 0,.ptr 1009 g9 0,.ptr 1006 g6 0]/\H' 1004=.cells .new g4 0 [wkV b c d e f g m x]/\H' 1005=.cells .new g5 0 [Za s1 1 (V.int .i64) (Zb sources)] /\
   H' 1006=.cells .new g6 0 [Za s2 1 (V.int .i64) (Zb into)]/\H' 1007=.cells .new g7 0 [.int .i64 t]/\H' 1009=.cells .new g9 0 [.int .i64 (into.headD t)]):=by
 refine Z3a 1000 18 [.tmp 8] Tryz.func59 rfl rfl rfl rfl λX=>?_;simp only[Zfa];refine Z ?_;intro g4 g5 g6 g7;refine Z ?_;intro g9
 cases into with
 |nil=>
  refine Z ?_;exact⟨g4,g5,g6,g7,g9,rfl,zr,zr,zr,zr,zr⟩
 |cons o r=>
  have hlt:decide (((r.length+1:Nat):Int)>0)=true:=zT;have h0:(o::r)[0]?=some o:=rfl;have hp:0<r.length+1:=Nat.succ_pos _;refine Zf (zi hlt (zi h0 hp)) ?_;exact⟨g4,g5,g6,g7,g9,rfl,zr,zr,zr,zr,zr⟩
end Go.Hs
end

section
namespace Go.Hs
open Go.Proofs
set_option maxRecDepth 10000
set_option maxHeartbeats 2000000
theorem Zn0(G:Nat->V)(hG:GOk G)(b c d:Col)(x:IxM)(m:PM)(hx:IxP m x)(hw:m.ways.length<1000000)(n:Nat)(p:PlM)(hg:x.places.l[n]?=some p)(h1:(n:Int)<m.vertices.length):
  Spec Tryz.prog G 57 [ixV b c d x,.int .i64 n] Zk (λw _=>w=Za .new 1 (V.int .i64) p.into.co):=by
 refine Zo 0 18 [.tmp 4] Tryz.func57 λX=>?_;have hk:n<x.places.l.length:=(List.getElem?_eq_some_iff.1 hg).1
 have e0:(decide ((0:Int)<=(n:Int))&&decide ((n:Int)<x.places.l.length))=true:=by rw[Bool.and_eq_true];exact⟨zT,zT⟩
 refine Z ?_;refine Zc hG ?_ (s:=Zhd G _ _ _ _ _);refine Zg (zi e0 (zi hg (zi hk (zi Z4d (zi Zhh (zi @Int.natCast_nonneg @Int.ofNat_lt)))))) ?_
 have hl:p.into.l.length<1000000:=by rw[hx.into n p hg,PM.intoI];exact Nat.lt_of_le_of_lt (PM.wysI_len _ _ _) hw
 refine Zc hG ?_ (s:=Zjk G _ _ hl);exact Zr
theorem Zofa(G:Nat->V)(H:Heap):ItSp Tryz.prog G 2000 61 [] H (λs:StP=>[Zme s]) []:=by
 refine Zdc .plain 0 2 1 [] Tryz.func61 λX ty cl σ R dom nx s0 hy hd hR _=>?_;refine AW.skip ?_;exact⟨_,rfl,.inr rfl,hR⟩
theorem con5(k:Int):[(1:Int),3,4,8,9].contains k=decide (k=1\/k=3\/k=4\/k=8\/k=9):=by
 rw[Bool.eq_iff_iff,List.contains_iff_mem,decide_eq_true_eq];simp only[List.mem_cons,List.not_mem_nil,or_false]
theorem Z10(G:Nat->V)(hG:GOk G)(b c d e f g:Col)(m:MdM)(x:IxM)(hx:IxP m.p x)(hw:m.p.ways.length<=600)(hwf:m.p.Wfd)(t:Int)(t0:0<=t)(t1:t<m.p.ways.length):
  InSp Tryz.prog G 28 [wkV b c d e f g m x,.int .i64 t] (Zfa Zk [(1004,.dead),(1005,.dead),(1006,.dead),(1007,.dead),(1009,.dead)])
   (λw H'=>∃ fid caps,w=.func (.func fid) [] caps/\Z2 Tryz.prog fid=true/\∀ H:Heap,H 1004=(H' 1004).noMp->H 1005=(H' 1005).noMp->H 1006=(H' 1006).noMp->H 1007=(H' 1007).noMp->H 1009=(H' 1009).noMp->ItSp Tryz.prog G 2000 fid caps H (λs:StP=>[Zme s]) (m.p.beginL t)):=by
 refine Z3a 1100 90 [.tmp 4] Tryz.func28 rfl rfl rfl rfl λX=>?_;simp only[Zfa];obtain⟨tg0,tg1⟩:=hwf.tg t t0 t1;obtain⟨sc0,sc1⟩:=hwf.sc t t0 t1;obtain⟨n,y,rfl,hn',hgy,ey⟩:=m.wyAt t0 t1
 have etg:m.p.tg (n:Int)=y.target:=by rw[PM.tg,ey];rfl
 have esc:m.p.sc (n:Int)=y.source:=by rw[PM.sc,ey];rfl
 obtain⟨nv,pv,ev,hkv,hgv,_,_,_,_,hov,hiv⟩:=hx.at tg0 tg1;refine Zf (zi hgy (zi hn' (zi Z8 (zi Z1e (zi @Int.natCast_nonneg @Int.ofNat_lt))))) ?_;intro g1105;refine Z ?_;refine Zp ⟨λ_=>Za .new 1 (V.int .i64) pv.into.co,λ_=>.pure⟩ zk hG zk zk ?_;refine Zs ?_;refine⟨⟨by kernel_rfl,?_⟩,?_⟩;simp -implicitDefEqProofs only[go_sem,seval,List.map_cons,List.map_nil];have:=Zn0 G hG e.ent f.ent g.ent (x.rc Col.ent) m.p (hx.rc _) zo nv pv hgv (by rw[<- ev];exact tg1);rw[<- ev,etg]at this
 exact this.mono λv _ e=>by rw[e];simp -implicitDefEqProofs only[go_sem,seval]
 rw[etg]at tg0 tg1 ev hiv hov;refine Z ?_;intro g1129;refine Z1a 1129 [wkV b c d e f g m x,.int .i64 y.target,Za .new 1 (V.int .u8) (.mk false [7])] ⟨Fz.same _,Fz.same _,?_,trivial⟩ ?_;exact Z2b (f:=V.int .u8) (l:=[7]) (m:=1) (g:=g1129) (fz:=0) (c:=.new) rfl zp λ_=>rfl;refine Zc hG ?_ (s:=Z1d G hG _ _ _ _ _ _ _ m _ y.target tg0 tg1 _ zd);rw[con1]
 have e7:m.p.kd (m.p.tg n)=m.p.kd y.target:=by rw[etg]
 have e8:m.p.kd (m.p.sc n)=m.p.kd y.source:=by rw[esc]
 rw[esc]at sc0 sc1;cases q7:(m.p.kd y.target==7)
 have h7:¬m.p.kd (m.p.tg n)=7:=by rw[e7];simpa using q7
 refine Zg q7 ?_;intro g1174;refine Z1a 1174 [wkV b c d e f g m x,.int .i64 y.target,Za .new 1 (V.int .u8) (.mk false [7])] ⟨Fz.same _,Fz.same _,?_,trivial⟩ ?_;exact Z2b (f:=V.int .u8) (l:=[7]) (m:=1) (g:=g1174) (fz:=0) (c:=.new) rfl zp λ_=>rfl;refine Zc hG ?_ (s:=Z1d G hG _ _ _ _ _ _ _ m _ y.target tg0 tg1 _ zd);rw[con1];refine Zg q7 ?_;intro g1181;refine Z1a 1181 [wkV b c d e f g m x,.int .i64 y.source,Za .new 1 (V.int .u8) (.mk false [1,3,4,8,9])] ⟨Fz.same _,Fz.same _,?_,trivial⟩ ?_;exact Z2b (f:=V.int .u8) (l:=[1,3,4,8,9]) (m:=1) (g:=g1181) (fz:=0) (c:=.new) rfl zp λ_=>rfl;refine Zc hG ?_ (s:=Z1d G hG _ _ _ _ _ _ _ m _ y.source sc0 sc1 _ zd);rw[con5]
 by_cases h8:m.p.kd y.source=1\/m.p.kd y.source=3\/m.p.kd y.source=4\/m.p.kd y.source=8\/m.p.kd y.source=9
 have q8:decide (m.p.kd y.source=1\/m.p.kd y.source=3\/m.p.kd y.source=4\/m.p.kd y.source=8\/m.p.kd y.source=9)=true:=decide_eq_true h8
 have eb:m.p.beginL n=m.p.strL [y.source] [] n:=by rw[PM.beginL,if_neg h7,e8,if_pos h8,esc]
 rw[eb];refine Zg q8 ?_;intro g1187;refine Z1a 1187 [wkV b c d e f g m x,Za .new 1 (V.int .i64) (Zb [y.source]),Za .new 1 (V.int .i64) (Zb []),.int .i64 n] ⟨Fz.same _,Z2b (f:=V.int .i64) (l:=[y.source]) (m:=1) (g:=g1187) (fz:=0) (c:=.new) rfl zp (λ_=>rfl),Fz.same _,Fz.same _,trivial⟩ ?_;refine CallA.inl [(1004,.dead),(1005,.dead),(1006,.dead),(1007,.dead),(1009,.dead)] zk ?_ ((Zhi G b c d e f g .new .new m x [y.source] [] n).mono ?_);intro p hp;simp only[List.mem_cons,List.not_mem_nil,or_false]at hp
 rcases hp with rfl|rfl|rfl|rfl|rfl<;>rfl
 rintro w H' ⟨a4,a5,a6,a7,a9,rfl,q4,q5,q6,q7',q9⟩;simp -implicitDefEqProofs only[go_sem,seval,Zfa,q4,q5,q6,q7',q9];refine Z ?_;exact⟨_,_,rfl,by kernel_rfl,λH h4 h5 h6 h7' h9=>Z7da G hG b c d e f g .new .new m x hx hw hwf.tg hwf [y.source] [] zS (show 1<1000 by decide) (show 0<1000 by decide) n n t0 t1 a4 a5 a6 a7 a9 H (h4.trans zr) (h5.trans zr) (h6.trans zr) (h7'.trans zr) (h9.trans zr)⟩;have q8:decide (m.p.kd y.source=1\/m.p.kd y.source=3\/m.p.kd y.source=4\/m.p.kd y.source=8\/m.p.kd y.source=9)=false:=decide_eq_false h8
 have eb:m.p.beginL n=[]:=by rw[PM.beginL,if_neg h7,e8,if_neg h8]
 rw[eb];refine Zg q8 ?_;exact⟨_,_,rfl,by kernel_rfl,λH _ _ _ _ _=>Zofa G H⟩
 have h7:m.p.kd (m.p.tg n)=7:=by rw[e7];simpa using q7
 obtain⟨j1,j2,_⟩:=hwf.join _ tg0 tg1 (zu q7);rw[<- etg]at j1 j2
 have hin:∃ i0 r,m.p.intoI (m.p.tg n)=i0::r:=by
  cases h:m.p.intoI (m.p.tg n)with
  |nil=>rw[h]at j2;cases j2
  |cons i0 r=>exact⟨i0,r,rfl⟩
 obtain⟨i0,r,hin⟩:=hin;rw[<- etg,hin]at hiv
 have hco:pv.into.co=.mk false (i0::r):=by
  cases h:pv.into with
  |nil=>rw[h]at hiv;cases hiv
  |mk b l=>rw[h]at hiv;rw[<- hiv];rfl
 have h0:(i0::r)[0]?=some i0:=rfl;have hp0:0<r.length+1:=Nat.succ_pos _;rw[hco];cases q9:(i0==(n:Int))
 have eb:m.p.beginL n=[]:=by
  rw[PM.beginL,if_pos h7,hin,if_neg];intro h;rw[show(i0::r).headD (-1)=i0 from rfl]at h;rw[h]at q9;simp at q9
 rw[eb];refine Zg (zi q7 (zi q9 (zi h0 hp0))) ?_;intro g1174;refine Z1a 1174 [wkV b c d e f g m x,.int .i64 y.target,Za .new 1 (V.int .u8) (.mk false [7])] ⟨Fz.same _,Fz.same _,?_,trivial⟩ ?_;exact Z2b (f:=V.int .u8) (l:=[7]) (m:=1) (g:=g1174) (fz:=0) (c:=.new) rfl zp λ_=>rfl;refine Zc hG ?_ (s:=Z1d G hG _ _ _ _ _ _ _ m _ y.target tg0 tg1 _ zd);rw[con1];refine Zg q7 ?_;exact⟨_,_,rfl,by kernel_rfl,λH _ _ _ _ _=>Zofa G H⟩;have hi0:i0=n:=zu q9
 have eb:m.p.beginL n=m.p.strL ((i0::r).map m.p.sc) (i0::r) ((m.p.outI (m.p.tg n)).headD 0):=by
  rw[PM.beginL,if_pos h7,hin,if_pos (show(i0::r).headD (-1)=n from hi0)]
 have hl:(i0::r).length<=600:=by rw[<- hin];exact Nat.le_trans (PM.wysI_len _ _ _) hw
 have hrg:∀ t∈i0::r,0<=t/\t<m.p.ways.length:=λt ht=>by rw[<- hin]at ht;exact(PM.mem_into.1 ht).1
 refine Zg (zi q7 (zi q9 (zi h0 hp0))) ?_;rw[eb];have hl0:(i0::r)≠[]:=zS;clear q9 eb h0 hp0;have h0:(i0::r).length=r.length+1:=rfl;rw[<- h0];generalize i0::r=l at *
 refine Zaa l.length (λk (gg:Nat)=>st [(0,wkV b c d e f g m x),(5,.ptr 1105 g1105 0),(6,Za .new 1 (V.int .i64) (.mk false l)),(7,grown 1155 gg 1 ((l.take k).map m.p.sc)),(38,Za .new 1 (V.int .i64) (.mk false l)),(39,.int .i64 l.length),(40,.int .i64 k)] [(1105,(.cells .new g1105 0 [.str y.name,.int .i64 y.source,.int .i64 y.target,Za d 1 V.str y.triggers,.int .i64 y.after,.str y.guard,.str y.effect,.int .u8 y.kind])),(1155,Zca gg (V.int .i64) ((l.take k).map m.p.sc))])
  (λ_ _=>True) 0 0 (Nat.zero_le _) trivial (Weak.st ⟨rfl,rfl,zp,zp,zp,zp,zp,trivial⟩ ⟨zr,zr,trivial⟩) ?_
 intro k gg hk _ L hL
 by_cases hk1:k<l.length
 have hlt:decide ((k:Int)<(l.length:Int))=true:=zT;have hg:=List.getElem?_eq_getElem hk1
 have htk:(l.take (k+1)).map m.p.sc=(l.take k).map m.p.sc++[m.p.sc l[k]]:=by
  rw[List.take_add_one,hg,List.map_append];rfl
 have hmem:=List.getElem_mem hk1;generalize l[k]=tt at hg htk hmem;obtain⟨tt0,tt1⟩:=hrg tt hmem;obtain⟨n2,y2,rfl,hn2,hgy2,ey2⟩:=m.wyAt tt0 tt1
 have esc2:m.p.sc (n2:Int)=y2.source:=by rw[PM.sc,ey2];rfl
 have w1:IntKind.i64.wrap ((k:Int)+1)=(k:Int)+1:=w64 zo zo;refine Zf (zi hlt (zi hg (zi hk1 (zi hgy2 (zi hn2 (zi Z8 (zi Z1e (zi @Int.natCast_nonneg @Int.ofNat_lt)))))))) ?_;intro g1154;refine Zhb (f:=V.int .i64) (l:=(l.take k).map m.p.sc) (l2:=[y2.source]) (g:=gg) (λ_=>rfl) rfl rfl rfl zp (Z9 zo zO) λg2=>?_;rw[<- esc2,<- htk];refine Zf w1 ?_;refine hL _ ⟨hk1,g2,trivial,Weak.st ⟨rfl,zp,zp,zp,zp,zp,zp,trivial⟩ ⟨zp,zp,trivial⟩⟩;have hke:k=l.length:=zo;subst hke;rw[List.take_length];have hlt:decide ((l.length:Int)<(l.length:Int))=false:=zF
 obtain⟨o1,ho1⟩:∃ o1,m.p.outI y.target=[o1]:=by
  rw[etg]at j1
  cases h:m.p.outI y.target with
  |nil=>rw[h]at j1;cases j1
  |cons o1 r'=>
   rw[h]at j1
   cases r' with
   |nil=>exact⟨o1,rfl⟩
   |cons=>simp at j1
 obtain⟨o0,o2⟩:=(PM.mem_out.1 (show o1∈m.p.outI y.target by rw[ho1];exact List.mem_cons_self ..)).1;rw[ho1]at hov
 have hoc:pv.out.co=.mk false [o1]:=by
  cases h:pv.out with
  |nil=>rw[h]at hov;cases hov
  |mk b l=>rw[h]at hov;rw[<- hov];rfl
 rw[etg,ho1];refine AW.weak (Zw (λo=>o==1155) (l:=[(0,wkV b c d e f g m x),(5,.ptr 1105 g1105 0),(6,Za .new 1 (V.int .i64) (Zb l)),(7,Za .new 1 (V.int .i64) (Zb (l.map m.p.sc))),(39,.int .i64 l.length),(40,.int .i64 l.length)]) (m:=[(1105,(.cells .new g1105 0 [.str y.name,.int .i64 y.source,.int .i64 y.target,Za d 1 V.str y.triggers,.int .i64 y.after,.str y.guard,.str y.effect,.int .u8 y.kind]))]) ?_ ?_) ?_;rw[Zlh hl0];refine Zs ?_;exact⟨Fz.same _,Fz.same _,Fz.same _,Zkc (l:=l.map m.p.sc) (g:=gg) (f:=V.int .i64) rfl zp (λ_=>rfl),Fz.same _⟩;simp only[Zv,Zy,and_true];exact FzO.same rfl;refine Zf hlt ?_;refine Zp ⟨λ_=>Za .new 1 (V.int .i64) (.mk false [o1]),λi=>if i=12 then .any else .pure⟩ zk hG zk zk ?_;have h00:[o1][0]?=some o1:=rfl;simp -implicitDefEqProofs only[go_sem,seval,Z1e,h00];refine⟨⟨by kernel_rfl,?_⟩,?_⟩;simp -implicitDefEqProofs only[go_sem,seval,List.map_cons,List.map_nil];have:=Z9q G hG e.ent f.ent g.ent (x.rc Col.ent) m.p (hx.rc _) zo nv pv hgv (by rw[<- ev];exact tg1);rw[<- ev,hoc]at this
 exact this.mono λv _ e=>by rw[e];simp -implicitDefEqProofs only[go_sem,seval]
 refine CallA.inl [(1004,.dead),(1005,.dead),(1006,.dead),(1007,.dead),(1009,.dead)] zk ?_ ((Zhi G b c d e f g .new .new m x (l.map m.p.sc) l o1).mono ?_);intro p hp;simp only[List.mem_cons,List.not_mem_nil,or_false]at hp
 rcases hp with rfl|rfl|rfl|rfl|rfl<;>rfl
 rintro w H' ⟨a4,a5,a6,a7,a9,rfl,q4,q5,q6,q7',q9⟩;simp -implicitDefEqProofs only[go_sem,seval,Zfa,q4,q5,q6,q7',q9];refine Z ?_;exact⟨_,_,rfl,by kernel_rfl,λH h4 h5 h6 h7' h9=>Z7da G hG b c d e f g .new .new m x hx hw hwf.tg hwf (l.map m.p.sc) l (zu hl0) (by rw[List.length_map];omega) zo (l.headD o1) o1 o0 o2 a4 a5 a6 a7 a9 H (h4.trans zr) (h5.trans zr) (h6.trans zr) (h7'.trans zr) (h9.trans zr)⟩
end Go.Hs
end

section
namespace Go.Hs
open Go.Proofs
set_option maxRecDepth 10000
set_option maxHeartbeats 2000000
def Z6a(c:Col)(q:StP×List Int):V:=.agg [Za c 1 (V.int .i64) (Zb q.1.sources),.int .i64 q.1.first,Za c 1 (V.int .i64) (Zb q.1.guards),Za c 1 (V.int .i64) (Zb q.1.effects),Z0b c q.1.ends,Za c 1 (V.int .i64) (Zb q.2)]
theorem Zna(c:Col)(q:StP×List Int):Z6a c q=.agg [Za c 1 (V.int .i64) (Zb q.1.sources),.int .i64 q.1.first,Za c 1 (V.int .i64) (Zb q.1.guards),Za c 1 (V.int .i64) (Zb q.1.effects),Z0b c q.1.ends,Za c 1 (V.int .i64) (Zb q.2)]:=rfl
def Zbf(c:Col)(q:StP×V):V:=.agg [Za c 1 (V.int .i64) (Zb q.1.sources),.int .i64 q.1.first,Za c 1 (V.int .i64) (Zb q.1.guards),Za c 1 (V.int .i64) (Zb q.1.effects),Z0b c q.1.ends,q.2]
theorem Zxf(c:Col)(q:StP×V):Zbf c q=.agg [Za c 1 (V.int .i64) (Zb q.1.sources),.int .i64 q.1.first,Za c 1 (V.int .i64) (Zb q.1.guards),Za c 1 (V.int .i64) (Zb q.1.effects),Z0b c q.1.ends,q.2]:=rfl
def toSV(c:Col)(q:StP×List Int):StP×V:=(q.1,Za c 1 (V.int .i64) (Zb q.2))
@[go_sem] theorem Zbe(g:Col->Col)(c:Col)(q:StP×List Int):(Z6a c q).recol g=Z6a (g c) q:=by
 simp only[Zna,Z4a,List.map_cons,List.map_nil,Zwa,Z7a,Zds]
def Sl.map{α β : Type}(f : α -> β):Sl α -> Sl β
 |.nil=>.nil
 |.mk b l=>.mk b (l.map f)
theorem Zbna(c c1:Col)(s:Sl (StP×List Int)):Za c 6 (Z6a c1) s=Za c 6 (Zbf c1) (s.map (toSV c1)):=by
 cases s with
 |nil=>rfl
 |mk b l=>show V.slice c b 6 _=V.slice c b 6 _;rw[List.map_map];rfl
def Zzi{β : Type}(L:List (StP × β))(v:Int)(k:Nat):List Int:=((List.range k).filter λi=>match L[i]? with|some s=>s.1.sources.contains v|none=>false).map fun(i:Nat)=>(i:Int)
theorem Z4ga{β : Type}(L:List (StP × β))(v:Int)(k:Nat):(Zzi L v k).length<=k:=by
 unfold Zzi;rw[List.length_map];exact Nat.le_trans (List.length_filter_le _ _) (by rw[List.length_range];exact Nat.le_refl _)
theorem Zbaa{β : Type}(L:List (StP × β))(v:Int)(k:Nat){s:StP × β}(h:L[k]?=some s):Zzi L v (k+1)=if s.1.sources.contains v=true then Zzi L v k++[(k:Int)]else Zzi L v k:=by
 unfold Zzi;rw[List.range_succ,List.filter_append,List.map_append];cases q:s.1.sources.contains v;rw[List.filter_cons_of_neg (by simp[h];simpa using q)];simp;rw[List.filter_cons_of_pos (by simp[h];simpa using q)];simp
theorem Ziv(G:Nat->V)(hG:GOk G)(c c1:Col)(ls:Sl (StP×V))(v:Int)(hl:ls.l.length<100000)(hs:∀ s∈ls.l,s.1.sources.length<100000):
  Spec Tryz.prog G 14 [Za c 6 (Zbf c1) ls,.int .i64 v] Zk (λw _=>w=Za .new 1 (V.int .i64) (Zb (Zzi ls.l v ls.l.length))):=by
 refine Zo 0 25 [.tmp 4] Tryz.func14 λX=>?_;refine Z ?_
 refine Zaa ls.l.length (λk (g:Nat)=>st [(1,.int .i64 v),(5,grown 22 g 1 (Zzi ls.l v k)),(8,Za c 6 (Zbf c1) ls),(9,.int .i64 ls.l.length),(10,.int .i64 k)] [(22,Zca g (V.int .i64) (Zzi ls.l v k))])
  (λ_ _=>True) 0 0 (Nat.zero_le _) trivial (Weak.st zp zp) ?_
 intro k g hk _ L hL
 by_cases hk1:k<ls.l.length
 have hlt:decide ((k:Int)<(ls.l.length:Int))=true:=zT;have hg:=List.getElem?_eq_getElem hk1;have hmem:=List.getElem_mem hk1;have hfl:=Z4ga ls.l v k;generalize ls.l[k]=s at hg hmem;have hsl:=hs s hmem;have hfs:=Zbaa ls.l v k hg;have w1:IntKind.i64.wrap ((k:Int)+1)=(k:Int)+1:=w64 zo zo;refine Zf (zi hlt (zi hg (zi hk1 (zi Zxf (zi @Int.natCast_nonneg @Int.ofNat_lt))))) ?_;intro g7;refine Z ?_;refine Zc hG ?_ (s:=Zik G hG _ _ _ (by rw[Zl];omega));cases q:s.1.sources.contains v;rw[q,if_neg zS]at hfs;refine Zf (zi q w1) ?_;exact hL _ ⟨hk1,g,trivial,Weak.st (by rw[hfs];exact zp) (by rw[hfs];exact zp)⟩;rw[q,if_pos rfl]at hfs;refine Zf q ?_;intro g21;refine Zhb (f:=V.int .i64) (l:=Zzi ls.l v k) (l2:=[(k:Int)]) (g:=g) (λ_=>rfl) rfl rfl rfl zp (Z9 zo zO) λg2=>?_;rw[<- hfs];refine Zf w1 ?_;exact hL _ ⟨hk1,g2,trivial,Weak.st zp zp⟩;have hke:k=ls.l.length:=zo;rw[hke];have hlt:decide ((ls.l.length:Int)<(ls.l.length:Int))=false:=zF;generalize Zzi ls.l v ls.l.length=acc;refine AW.weak (Zw (λo=>o==22) (l:=[(5,Za .new 1 (V.int .i64) (Zb acc)),(9,.int .i64 ls.l.length),(10,.int .i64 ls.l.length)]) (m:=[]) ?_ trivial) ?_;simp -implicitDefEqProofs only[go_sem,seval];exact⟨Zkc (l:=acc) (g:=g) (f:=V.int .i64) rfl zp (λ_=>rfl),Fz.same _⟩;exact Zq hlt
end Go.Hs
end

section
namespace Go.Hs
open Go.Proofs
set_option maxRecDepth 10000
set_option maxHeartbeats 2000000
theorem Zxq(f:Col->Col):∀ l:List V,Zja f l=l.map (V.recol f)
 |[]=>rfl
 |v::r=>by rw[List.map_cons,<- Zxq f r];rfl
theorem Z89(G:Nat->V)(hG:GOk G)(c:Col)(fid:FuncId)(C:List V->Prop)(hC:∀ cx,C cx->C (cx.map (V.recol Col.ent)))(cx:List V)(hcx:C cx)(hen:Z2 Tryz.prog fid=true)(p:Int->Bool)(s:Sl Int)(hs:s.l.length<1000000)(hf0:∀ v∈s.l,∀ cx,C cx->Spec Tryz.prog G fid (.int .i64 v::cx) Zk (λw _=>w=.bool (p v))):
  Spec Tryz.prog G 127 [Za c 1 (V.int .i64) s,.func (.func fid) [] cx] Zk (λv _=>v=.int .i64 (Zwp p s.l)):=by
 have hf:=λv hv=>hf0 v hv (cx.map (V.recol Col.ent)) (hC cx hcx);refine Zo 0 19 [.tmp 4] Tryz.func127 λX=>?_;refine Z ?_
 refine Zaa s.l.length (λk (_:Unit)=>st [(0,Za c 1 (V.int .i64) s),(1,.func (.func fid) [] cx),(7,.int .i64 s.l.length),(8,.int .i64 k)] []) (λk _=>∀ y∈s.l.take k,p y=false) 0 () (Nat.zero_le _) zS
  (Weak.st zp zp) ?_
 intro k _ hk hR L2 hL2
 by_cases hk1:k<s.l.length
 .have hlt:decide ((k:Int)<(s.l.length:Int))=true:=zT
  have hg:=List.getElem?_eq_getElem hk1;have hm:=hf s.l[k] (List.getElem_mem hk1);generalize s.l[k]=x at hg hm;refine Zf (zi hlt (zi hg (zi hk1 (zi hk1 (zi @Int.natCast_nonneg @Int.ofNat_lt))))) ?_;refine CallA.pure hG hen ?_;refine(show Spec Tryz.prog G fid (((.int .i64 x::cx):List V).map (V.recol Col.ent)) Zk _ from ?_);rw[show((.int .i64 x::cx):List V).map (V.recol Col.ent)=(.int .i64 x::cx.map (V.recol Col.ent))from by simp only[List.map_cons,List.map_nil,Zwa]];refine hm.mono λv _ hv=>?_;rw[hv]
  cases h6:p x with
  |true=>
   refine Z ?_;rw[Z6c (p:=p) hg hR h6]
  |false=>
   have w1:IntKind.i64.wrap ((k:Int)+1)=(k:Int)+1:=w64 zo zo;refine Zg w1 ?_;exact hL2 _ ⟨hk1,(),Z9d hg hR h6,Weak.st zp zp⟩
 have hke:k=s.l.length:=zo;have hlt:decide ((k:Int)<(s.l.length:Int))=false:=zF;rw[hke,List.take_length]at hR;refine Zf hlt ?_;rw[Z7c (p:=p) hR]
theorem Zfl(G:Nat->V)(hG:GOk G)(c:Col)(fid:FuncId)(C:List V->Prop)(hC:∀ cx,C cx->C (cx.map (V.recol Col.ent)))(cx:List V)(hcx:C cx)(hen:Z2 Tryz.prog fid=true)(p:Int->Bool)(s:Sl Int)(hs:s.l.length<1000000)(hf0:∀ v∈s.l,∀ cx,C cx->Spec Tryz.prog G fid (.int .i64 v::cx) Zk (λw _=>w=.bool (p v))):
  Spec Tryz.prog G 67 [Za c 1 (V.int .i64) s,.func (.func fid) [] cx] Zk (λv _=>v=.bool (s.l.any p)):=by
 refine Zo 0 9 [.tmp 4] Tryz.func67 λX=>?_;refine Z ?_;refine Zc hG ?_ (ha:=by simp only[List.map_cons,List.map_nil,Z7a,V.recol,Zja,Zxq]) (s:=Z89 G hG c.ent fid C hC (cx.map (V.recol Col.ent)) (hC cx hcx) hen p s hs hf0);refine Z ?_;rw[Zai]
theorem Z79(G:Nat->V)(hG:GOk G)(c c1:Col)(fid:FuncId)(C:List V->Prop)(hC:∀ cx,C cx->C (cx.map (V.recol Col.ent)))(cx:List V)(hcx:C cx)(hen:Z2 Tryz.prog fid=true)(p:StP×List Int->Bool)(s:Sl (StP×List Int))(hs:s.l.length<1000000)(hf0:∀ v∈s.l,∀ c' cx,C cx->Spec Tryz.prog G fid (Z6a c' v::cx) Zk (λw _=>w=.bool (p v))):
  Spec Tryz.prog G 30 [Za c 6 (Z6a c1) s,.func (.func fid) [] cx] Zk (λv _=>v=.int .i64 (Zwp p s.l)):=by
 have hf:=λv hv=>hf0 v hv c1.ent (cx.map (V.recol Col.ent)) (hC cx hcx);refine Zo 0 19 [.tmp 4] Tryz.func30 λX=>?_;refine Z ?_
 refine Zaa s.l.length (λk (_:Unit)=>st [(0,Za c 6 (Z6a c1) s),(1,.func (.func fid) [] cx),(7,.int .i64 s.l.length),(8,.int .i64 k)] []) (λk _=>∀ y∈s.l.take k,p y=false) 0 () (Nat.zero_le _) zS
  (Weak.st zp zp) ?_
 intro k _ hk hR L2 hL2
 by_cases hk1:k<s.l.length
 .have hlt:decide ((k:Int)<(s.l.length:Int))=true:=zT
  have hg:=List.getElem?_eq_getElem hk1;have hm:=hf s.l[k] (List.getElem_mem hk1);generalize s.l[k]=x at hg hm;refine Zf (zi hlt (zi hg (zi hk1 (zi Zna (zi @Int.natCast_nonneg @Int.ofNat_lt))))) ?_;refine CallA.pure hG hen ?_;refine(show Spec Tryz.prog G fid (((Z6a c1 x::cx):List V).map (V.recol Col.ent)) Zk _ from ?_);rw[show((Z6a c1 x::cx):List V).map (V.recol Col.ent)=(Z6a c1.ent x::cx.map (V.recol Col.ent))from by simp only[List.map_cons,List.map_nil,Zbe]];refine hm.mono λv _ hv=>?_;rw[hv]
  cases h6:p x with
  |true=>
   refine Z ?_;rw[Z6c (p:=p) hg hR h6]
  |false=>
   have w1:IntKind.i64.wrap ((k:Int)+1)=(k:Int)+1:=w64 zo zo;refine Zg w1 ?_;exact hL2 _ ⟨hk1,(),Z9d hg hR h6,Weak.st zp zp⟩
 have hke:k=s.l.length:=zo;have hlt:decide ((k:Int)<(s.l.length:Int))=false:=zF;rw[hke,List.take_length]at hR;refine Zf hlt ?_;rw[Z7c (p:=p) hR]
theorem Z99(G:Nat->V)(hG:GOk G)(c c1:Col)(fid:FuncId)(hen:Z2 Tryz.prog fid=true)(p:Int×List Int->Bool)(s:Sl (Int×List Int))(hs:s.l.length<1000000)(hf:∀ v∈s.l,∀ c',Spec Tryz.prog G fid [Zpf c' v] Zk (λw _=>w=.bool (p v))):
  Spec Tryz.prog G 185 [Za c 2 (Zpf c1) s,.func (.func fid) [] []] Zk (λv _=>v=.int .i64 (Zwp p s.l)):=by
 have hf:=λv hv=>hf v hv c1.ent;refine Zo 0 19 [.tmp 4] Tryz.func185 λX=>?_;refine Z ?_
 refine Zaa s.l.length (λk (_:Unit)=>st [(0,Za c 2 (Zpf c1) s),(1,.func (.func fid) [] []),(7,.int .i64 s.l.length),(8,.int .i64 k)] []) (λk _=>∀ y∈s.l.take k,p y=false) 0 () (Nat.zero_le _) zS
  (Weak.st zp zp) ?_
 intro k _ hk hR L2 hL2
 by_cases hk1:k<s.l.length
 .have hlt:decide ((k:Int)<(s.l.length:Int))=true:=zT
  have hg:=List.getElem?_eq_getElem hk1;have hm:=hf s.l[k] (List.getElem_mem hk1);generalize s.l[k]=x at hg hm;refine Zf (zi hlt (zi hg (zi hk1 (zi Z8c (zi @Int.natCast_nonneg @Int.ofNat_lt))))) ?_;refine CallA.pure hG hen ?_;refine(show Spec Tryz.prog G fid (([Zpf c1 x]:List V).map (V.recol Col.ent)) Zk _ from ?_);rw[show([Zpf c1 x]:List V).map (V.recol Col.ent)=[Zpf c1.ent x]from by simp only[List.map_cons,List.map_nil,Z2z]];refine hm.mono λv _ hv=>?_;rw[hv]
  cases h6:p x with
  |true=>
   refine Z ?_;rw[Z6c (p:=p) hg hR h6]
  |false=>
   have w1:IntKind.i64.wrap ((k:Int)+1)=(k:Int)+1:=w64 zo zo;refine Zg w1 ?_;exact hL2 _ ⟨hk1,(),Z9d hg hR h6,Weak.st zp zp⟩
 have hke:k=s.l.length:=zo;have hlt:decide ((k:Int)<(s.l.length:Int))=false:=zF;rw[hke,List.take_length]at hR;refine Zf hlt ?_;rw[Z7c (p:=p) hR]
theorem Zqaa(G:Nat->V)(hG:GOk G)(c c1:Col)(fid:FuncId)(hen:Z2 Tryz.prog fid=true)(p:Int×List Int->Bool)(s:Sl (Int×List Int))(hs:s.l.length<1000000)(hf:∀ v∈s.l,∀ c',Spec Tryz.prog G fid [Zpf c' v] Zk (λw _=>w=.bool (p v))):
  Spec Tryz.prog G 121 [Za c 2 (Zpf c1) s,.func (.func fid) [] []] Zk (λv _=>v=.bool (s.l.any p)):=by
 refine Zo 0 9 [.tmp 4] Tryz.func121 λX=>?_;refine Z ?_;refine Zc hG ?_ (ha:=by simp only[List.map_cons,List.map_nil,Zdb Col.ent c 2 (Z2z Col.ent c1) s,V.recol,Zja]) (s:=Z99 G hG c.ent c1.ent fid hen p s hs hf);refine Z ?_;rw[Zai]
theorem Zp9(G:Nat->V)(hG:GOk G)(c:Col)(e:Int×List Int):Spec Tryz.prog G 122 [Zpf c e] Zk (λw _=>w=.bool (e.1 == -1)):=by
 refine Zo 0 6 [.tmp 2] Tryz.func122 λX=>?_;rw[Z8c];refine Z ?_;intro g1;exact Zr
theorem Zo9(G:Nat->V)(hG:GOk G)(c:Col)(q:StP×V)(hl:q.1.ends.length<1000000):Spec Tryz.prog G 63 [Zbf c q] Zk (λw _=>w=.bool q.1.lost):=by
 refine Zo 0 6 [.tmp 2] Tryz.func63 λX=>?_;rw[Zxf];refine Z ?_;intro g1;refine Z ?_;refine Zc hG ?_ (s:=Zqaa G hG c.ent c.ent 122 zk (λe=>e.1 == -1) (Zb q.1.ends) (by rw[Zl];exact hl) (λv _ c'=>Zp9 G hG c' v));refine Z ?_;rfl
@[go_sem] theorem loadK_vv(n:Nat)(ob:AObj)(q b:Col)(v:V):Zng (some (false,n)) ob (.view q (.view b v))=some (.view b v):=rfl
@[go_sem] theorem loadK_wk(n:Nat)(ob:AObj)(q b c d e f g:Col)(m:MdM)(x:IxM):Zng (some (false,n)) ob (.view q (wkV b c d e f g m x))=some (wkV b c d e f g m x):=rfl
theorem Zkv(G:Nat->V)(hG:GOk G)(b1 b c d e f g:Col)(m:MdM)(x:IxM)(t:Int)(t0:0<=t)(t1:t<m.p.ways.length)(hsc:0<=m.p.sc t/\m.p.sc t<m.p.vertices.length):
  Spec Tryz.prog G 125 [.int .i64 t,.view b1 (wkV b c d e f g m x)] Zk (λw _=>w=.bool (m.p.kd (m.p.sc t)==5)):=by
 refine Zo 0 16 [.tmp 3] Tryz.func125 λX=>?_;obtain⟨n,y,rfl,hn',hgy,ey⟩:=m.wyAt t0 t1
 have esc:m.p.sc (n:Int)=y.source:=by rw[PM.sc,ey];rfl
 rw[esc]at hsc⊢;obtain⟨h0,h1⟩:=hsc;refine Z ?_;refine Zp ⟨λ_=>.top,λi=>if i=11 then .any else .pure⟩ zk hG zk zk ?_;simp -implicitDefEqProofs only[go_sem,seval,hgy,hn',Z1e,Z8,@Int.natCast_nonneg,@Int.ofNat_lt];intro g14;refine Z1a 14 [wkV b c d e f g m x,.int .i64 y.source,Za .new 1 (V.int .u8) (.mk false [5])] ⟨Fz.same _,Fz.same _,Z2b (f:=V.int .u8) (l:=[5]) (m:=1) (g:=g14) (fz:=0) (c:=.new) rfl zp (λ_=>rfl),trivial⟩ ?_;refine Zc hG ?_ (s:=Z1d G hG _ _ _ _ _ _ _ m _ y.source h0 h1 _ zd);rw[con1];exact Zr
theorem Z0i(G:Nat->V)(hG:GOk G)(b c d e f g c1:Col)(m:MdM)(x:IxM)(l:Sl Int)(hl:l.l.length<1000000)(hr:∀ t∈l.l,0<=t/\t<m.p.ways.length)(hsc:∀ t:Int,0<=t->t<m.p.ways.length->0<=m.p.sc t/\m.p.sc t<m.p.vertices.length):
  Spec Tryz.prog G 65 [wkV b c d e f g m x,Za c1 1 (V.int .i64) l] Zk (λw _=>w=.bool (m.p.forkedB l.l)):=by
 refine Zo 0 8 [.tmp 4] Tryz.func65 λX=>?_;refine Z ?_;intro g2;refine AW.weak (Zw (λo=>o==2) (l:=[(1,Za c1 1 (V.int .i64) l),(2,.view .new (wkV b c d e f g m x))]) (m:=[]) ?_ trivial) ?_;simp -implicitDefEqProofs only[go_sem,seval];exact⟨Fz.same _,Fz.ptr (v:=wkV b c d e f g m x) (c:=.new) (fz:=0) zp zp⟩;refine Z ?_
 refine Zc hG ?_ (ha:=by simp only[List.map_cons,List.map_nil,Z7a,V.recol,Zja,Zae]) (s:=Zfl G hG c1.ent 125 (λcx=>∃ b1 b c d e f g x,cx=[.view b1 (wkV b c d e f g m x)]) (by
  rintro _ ⟨b1,b,c,d,e,f,g,x,rfl⟩
  exact⟨_,_,_,_,_,_,_,_,by simp only[List.map_cons,List.map_nil,V.recol,Zae];rfl⟩) [.view Col.new.ent (wkV b.ent c.ent d.ent e.ent f.ent g.ent m (x.rc Col.ent))] ⟨_,_,_,_,_,_,_,_,rfl⟩ zk (λt=>m.p.kd (m.p.sc t)==5) l hl (by
  rintro v hv _ ⟨b1,b,c,d,e,f,g,x,rfl⟩;obtain⟨v0,v1⟩:=hr v hv
  exact Zkv G hG b1 b c d e f g m x v v0 v1 (hsc v v0 v1)))
 exact Zr
end Go.Hs
end

section
namespace Go.Hs
section
def srt(l:List Int):List Int:=l.mergeSort λx y=>decide (x<=y)
theorem Zoz(l:List Int):(srt l).length=l.length:=List.length_mergeSort _
theorem srt_eq{l k:List Int}(hl:l.Nodup)(hk:k.Pairwise (· < ·))(h:∀ v,v∈l↔v∈k):srt l=k:=by
 have hkn:k.Nodup:=hk.imp fun{a b} h=>by omega
 have p:List.Perm (srt l) k:=(List.mergeSort_perm _ _).trans ((List.perm_ext_iff_of_nodup hl hkn).2 h);refine List.Perm.eq_of_pairwise (le:=(· <= ·)) (λa b _ _ h1 h2=>Int.le_antisymm h1 h2) ?_ (hk.imp fun{a b} h=>Int.le_of_lt h) p;have:=List.pairwise_mergeSort (le:=λx y:Int=>decide (x<=y)) (λa b c h1 h2=>by simp only[decide_eq_true_eq]at *;omega) (λa b=>by simp only[Bool.or_eq_true,decide_eq_true_eq];omega) l
 exact this.imp fun{a b} h=>by simpa using h
namespace PM
variable{m:PM}
theorem reach_sort{L:List StP}{s:StP}{q:List Int}(hL:∀ x∈L,m.AtOk x)(hs:m.AtOk s)(h:QEnd m L s q):srt q=m.reachL L s:=by
 refine srt_eq h.nd (reachL_rise L s) λv=>?_;rw[Z0ea hL hs h,List.mem_map]
 constructor
 intro hv;have hr:=h.rng v hv;refine⟨v.toNat,List.mem_filter.2 ⟨List.mem_range.2 (by omega),?_⟩,by omega⟩;rw[show((v.toNat:Nat):Int)=v by omega,List.contains_eq_mem,decide_eq_true_eq];exact hv;rintro⟨k,hk,rfl⟩;have:=(List.mem_filter.1 hk).2;rwa [List.contains_eq_mem,decide_eq_true_eq]at this
end PM
end
@[go_sem] theorem keepK_two{P:Program}(t t1 t2:TypeId)(a v a1 v1 a2 v2:V)(H:Heap)(A:Prop):Z49 P [(t1,a1,v1),(t2,a2,v2)] t a v H A=(((t=t1/\a=a1/\v=v1)\/(t=t2/\a=a2/\v=v2))/\(Zvb P H t1 a1=some v1/\Zvb P H t2 a2=some v2)/\A):=by
 apply propext;unfold Z49
 constructor
 rintro⟨⟨h1,h2⟩,h3⟩;have q1:=h2 _ (List.mem_cons_self ..);have q2:=h2 _ (List.mem_cons_of_mem _ (List.mem_cons_self ..));simp only[List.mem_cons,List.not_mem_nil,or_false,Prod.mk.injEq]at h1;exact⟨h1,⟨q1,q2⟩,h3⟩;rintro⟨h1,⟨q1,q2⟩,h3⟩;refine⟨⟨by simpa only[List.mem_cons,List.not_mem_nil,or_false,Prod.mk.injEq]using h1,λp hp=>?_⟩,h3⟩;simp only[List.mem_cons,List.not_mem_nil,or_false]at hp
 rcases hp with rfl|rfl
 exact q1;exact q2
def Ztd(B:Nat)(g:Nat->Nat)(l:Nat->List Int)(H:Heap):Heap:=λo=>if B<=o/\o<B+1000000 then Zca (g (o-B)) (V.int .i64) (l (o-B))else H o
def Zcj(B:Nat)(g:Nat->Nat)(l:Nat->List Int)(j:Nat):V:=grown (B+j) (g j) 1 (l j)
theorem Z9e{B:Nat}{g:Nat->Nat}{l:Nat->List Int}{H:Heap}{j:Nat}(hj:j<1000000):Ztd B g l H (B+j)=Zca (g j) (V.int .i64) (l j):=by
 unfold Ztd;rw[if_pos zo,show B+j-B=j by omega]
theorem Z3d{B:Nat}{g:Nat->Nat}{l:Nat->List Int}{H:Heap}{o:Nat}(ho:o<B\/B+1000000<=o):Ztd B g l H o=H o:=by
 unfold Ztd;rw[if_neg zo]
theorem Z9ma{B:Nat}{g:Nat->Nat}{l:Nat->List Int}{H:Heap}{j k:Nat}{r:List Int}(hj:j<1000000):upd (Ztd B g l H) (B+j) (Zca k (V.int .i64) r)=Ztd B (upd g j k) (upd l j r) H:=by
 funext o
 by_cases e:o=B+j
 subst e;rw[Z3,Z9e hj,Z3,Z3];rw[Zi _ _ e];unfold Ztd
 split
 rw[Zi _ _ zo,Zi _ _ zo];rfl
theorem Zt6{B:Nat}{g:Nat->Nat}{l:Nat->List Int}{j k:Nat}{r:List Int}:Zcj B (upd g j k) (upd l j r) j=grown (B+j) k 1 r:=by
 unfold Zcj;rw[Z3,Z3]
theorem Zfr{B:Nat}{g:Nat->Nat}{l:Nat->List Int}{i j k:Nat}{r:List Int}(h:i≠j):Zcj B (upd g j k) (upd l j r) i=Zcj B g l i:=by
 unfold Zcj;rw[Zi _ _ h,Zi _ _ h]
theorem Zu6{B:Nat}{g:Nat->Nat}{l:Nat->List Int}{n j k:Nat}{r:List Int}(hj:j<n):((List.range n).map (Zcj B g l)).set j (grown (B+j) k 1 r)=(List.range n).map (Zcj B (upd g j k) (upd l j r)):=by
 apply List.ext_getElem;simp;intro i h1 h2;rw[List.getElem_set];simp only[List.getElem_map,List.getElem_range]
 split
 rename_i h;subst h;rw[Zt6];rename_i h;rw[Zfr (λe=>h e.symm)]
theorem Z8ma{B:Nat}{g:Nat->Nat}{l:Nat->List Int}{n k:Nat}{r:List Int}:(List.range n).map (Zcj B g l)++[grown (B+n) k 1 r]=(List.range (n+1)).map (Zcj B (upd g n k) (upd l n r)):=by
 rw[List.range_succ,List.map_append,List.map_singleton,Zt6]
 congr 1
 refine List.map_congr_left λi hi=>?_;rw[Zfr (by have:=List.mem_range.1 hi;omega)]
def Zsk:List (Int×List Int)->Int->Int->List (Int×List Int)
 |[],k,r=>[(k,[r])]
 |p::L,k,r=>if p.1=k then(p.1,p.2++[r])::L else p::Zsk L k r
def ixK:List (Int×List Int)->Int->Nat
 |[],_=>0
 |p::L,k=>if p.1=k then 0 else ixK L k+1
def Zcc(L:List (Int×List Int))(j:Nat):List Int:=(L.getD j (0,[])).2
theorem Z7q:∀ (L:List (Int×List Int)) (k:Int),ixK L k<=L.length
 |[],_=>Nat.le_refl _
 |p::L,k=>by
  rw[ixK]
  split
  exact Nat.zero_le _;exact Nat.succ_le_succ (Z7q L k)
theorem Zhs:∀ (L:List (Int×List Int)) (k r:Int),(Zsk L k r).length<=L.length+1
 |[],_,_=>Nat.le_refl _
 |p::L,k,r=>by
  rw[Zsk]
  split
  exact Nat.le_succ _;exact Nat.succ_le_succ (Zhs L k r)
theorem Zqj:∀ (L:List (Int×List Int)) (k r:Int) (j:Nat),Zcc (Zsk L k r) j=upd (Zcc L) (ixK L k) (Zcc L (ixK L k)++[r]) j
 |[],k,r,j=>by
  cases j<;>rfl
 |p::L,k,r,j=>by
  rw[Zsk,ixK]
  split
  cases j<;>rfl
  .cases j with
   |zero=>rfl
   |succ j=>
    have:=Zqj L k r j
    show Zcc (Zsk L k r) j=_
    rw[this];simp only[upd]
    by_cases e:j=ixK L k
    subst e;rw[if_pos rfl,if_pos rfl];rfl;rw[if_neg e,if_neg zo];rfl
def Zhc(L:List (Int×List Int)):List V:=L.map λp=>.int .i64 p.1
theorem Zvn:∀ (L:List (Int×List Int)) (k r:Int),ixK L k<L.length->Zhc (Zsk L k r)=Zhc L/\(Zsk L k r).length=L.length
 |[],_,_,h=>absurd h (Nat.not_lt_zero _)
 |p::L,k,r,h=>by
  rw[ixK]at h;rw[Zsk]
  split
  exact⟨rfl,rfl⟩;rename_i hn;rw[if_neg hn]at h;obtain⟨h1,h2⟩:=Zvn L k r (Nat.lt_of_succ_lt_succ h);exact⟨by show _::_=_::_;rw[show List.map _ (Zsk L k r)=Zhc (Zsk L k r)from rfl,h1];rfl,by rw[List.length_cons,h2,List.length_cons]⟩
theorem Zgs:∀ (L:List (Int×List Int)) (k r:Int),ixK L k=L.length->Zhc (Zsk L k r)=Zhc L++[.int .i64 k]/\(Zsk L k r).length=L.length+1
 |[],_,_,_=>⟨rfl,rfl⟩
 |p::L,k,r,h=>by
  rw[ixK]at h;rw[Zsk]
  split
  rename_i hp;rw[if_pos hp]at h;simp at h;rename_i hn;rw[if_neg hn]at h;obtain⟨h1,h2⟩:=Zgs L k r (Nat.succ.inj h);exact⟨by show _::_=_::_;rw[show List.map _ (Zsk L k r)=Zhc (Zsk L k r)from rfl,h1];rfl,by rw[List.length_cons,h2,List.length_cons]⟩
theorem Zso:∀ (L:List (Int×List Int)) (k:Int),Z3c (.int .i64) (.int .i64 k) (Zhc L)=some (if ixK L k<L.length then some (ixK L k)else none)
 |[],k=>by simp[Zhc,Z3c,ixK]
 |p::L,k=>by
  show Z3c (.int .i64) (.int .i64 k) (.int .i64 p.1::Zhc L)=_
  rw[Z3c,if_pos rfl,ixK,List.length_cons]
  by_cases e:p.1=k
  rw[if_pos e,if_pos e.symm,if_pos (Nat.succ_pos _)];rw[if_neg e,if_neg (λh=>e h.symm),Zso L k]
  by_cases q:ixK L k<L.length
  rw[if_pos q,if_pos (Nat.add_lt_add_right q 1)];rfl;rw[if_neg q,if_neg (λh=>q (Nat.lt_of_add_lt_add_right h))];rfl
theorem Zrv(k:Int):∀ (L:List (Int×List Int)) (vs:List V),vs.length=L.length->Zqg (.int .i64) (.int .i64 k) (Zhc L) vs=some vs[ixK L k]?
 |[],vs,h=>by
  rw[List.length_eq_zero_iff.1 h];rfl
 |p::L,[],h=>by simp at h
 |p::L,v::vs,h=>by
  show Zqg (.int .i64) (.int .i64 k) (.int .i64 p.1::Zhc L) (v::vs)=_
  rw[Zqg,if_pos rfl,ixK]
  by_cases e:p.1=k
  rw[if_pos e.symm,if_pos e];rfl;rw[if_neg (λh=>e h.symm),if_neg e,Zrv k L vs (zu h)];rfl
def Zto(B:Nat)(g:Nat->Nat)(L:List (Int×List Int)):List V:=(List.range L.length).map (Zcj B g (Zcc L))
theorem Z6ma(B:Nat)(g:Nat->Nat)(L:List (Int×List Int)):(Zto B g L).length=L.length:=by simp[Zto]
theorem Z7ma(B:Nat)(g:Nat->Nat)(L:List (Int×List Int))(k:Int):((Zto B g L)[ixK L k]?).getD .nils=Zcj B g (Zcc L) (ixK L k):=by
 unfold Zto
 by_cases q:ixK L k<L.length
 rw[List.getElem?_map,List.getElem?_range q];rfl
 have h:ixK L k=L.length:=by have:=Z7q L k;omega
 rw[List.getElem?_eq_none zO,h];unfold Zcj Zcc;rw[List.getD_eq_getElem?_getD,List.getElem?_eq_none (Nat.le_refl _)];rfl
def Zuz(B:Nat)(g:Nat->Nat)(L:List (Int×List Int))(k:Int)(u:V):List V:=if ixK L k<L.length then(Zto B g L).set (ixK L k) u else Zto B g L++[u]
theorem Z05(B:Nat)(g:Nat->Nat)(L:List (Int×List Int))(k r:Int)(u:V):putV (.int .i64) (.int .i64 k) u (Zhc L) (Zto B g L)=some (Zhc (Zsk L k r),Zuz B g L k u):=by
 unfold putV Zuz;rw[Zso]
 by_cases q:ixK L k<L.length
 rw[if_pos q,if_pos q,(Zvn L k r q).1];rw[if_neg q,if_neg q,(Zgs L k r (by have:=Z7q L k;omega)).1]
theorem Zq5(B:Nat)(g:Nat->Nat)(L:List (Int×List Int))(k r:Int)(t:Nat):Zuz B g L k (grown (B+ixK L k) t 1 (Zcc L (ixK L k)++[r]))=Zto B (upd g (ixK L k) t) (Zsk L k r):=by
 have e:Zcc (Zsk L k r)=upd (Zcc L) (ixK L k) (Zcc L (ixK L k)++[r]):=funext λj=>Zqj L k r j;unfold Zuz Zto;rw[e]
 by_cases q:ixK L k<L.length
 rw[if_pos q,Zu6 q,(Zvn L k r q).2]
 have h:ixK L k=L.length:=by have:=Z7q L k;omega
 rw[if_neg q,(Zgs L k r h).2,h,Z8ma]
theorem Zoea(B:Nat)(g:Nat->Nat)(L:List (Int×List Int))(k:Int)(a t b s:Nat){u u':V}(h:Rn a t b s u u'):(Zuz B g L k u').length=(Zuz B g L k u).length/\∀ i (h1:i<(Zuz B g L k u).length) (h2:i<(Zuz B g L k u').length),Rn a t b s (Zuz B g L k u)[i] (Zuz B g L k u')[i]:=by
 unfold Zuz
 split
 exact h.set _ _;exact h.app _
theorem Zuf{E:Ent}{τ : Nat->V}{H B:Heap}{l:List (Nat×V)}{m:List (Nat×AObj)}(h:Ztg τ l)(hm:Ztg H m)(hB:∀ o,B o=.dead\/B o=H o):Weak E ⟨τ,H⟩ ⟨Zfa emp l,Zfa B m⟩:=by
 refine Zqd (λ_=>false) (λt=>?_) (λo=>?_)
 rcases Zob (τ := emp) (f := τ) t l (Z1b h)with h1|h1
 exact .inl h1;refine .inr ?_
 show Fz _ H (τ t) (Zfa emp l t)
 rw[h1];exact Fz.same _
 show FzO _ H o (Zfa B m o)
 rcases Zob (τ := B) (f:=H) o m (Z1b hm)with h1|h1
 rw[h1]
 rcases hB o with h2|h2
 rw[h2];trivial;rw[h2];exact FzO.same rfl;rw[h1];exact FzO.same rfl
theorem Zqe{α : Type}{G:Nat -> α}{o:Nat}:∀ {m:List (Nat × α)} {lo:Nat},(m.all λp=>Nat.blt p.1 lo)=true->lo<=o->Zfa G m o=G o
 |[],_,_,_=>rfl
 |p::m,lo,h,ho=>by
  rw[List.all_cons,Bool.and_eq_true,Nat.blt_eq]at h;rw[Zbb,Zi _ _ zo,Zqe h.2 ho]
theorem Zdk{B B':Nat}{g g':Nat->Nat}{l l':Nat->List Int}{H:Heap}(h:B+1000000<=B'\/B'+1000000<=B):Ztd B g l (Ztd B' g' l' H)=Ztd B' g' l' (Ztd B g l H):=by
 funext o
 unfold Ztd
 by_cases q:B<=o/\o<B+1000000
 rw[if_pos q,if_neg zo,if_pos q];rw[if_neg q,if_neg q]
theorem Zs6{B:Nat}{g:Nat->Nat}{l:Nat->List Int}{H:Heap}{j t:Nat}{r:List Int}(hj:j<1000000):∀ {m:List (Nat×AObj)},(m.all λp=>Nat.blt p.1 B)=true->upd (Zfa (Ztd B g l H) m) (B+j) (Zca t (V.int .i64) r)=Zfa (Ztd B (upd g j t) (upd l j r) H) m
 |[],_=>Z9ma hj
 |p::m,h=>by
  rw[List.all_cons,Bool.and_eq_true,Nat.blt_eq]at h;rw[Zbb,Zbb,<- Zs6 hj h.2]
  funext o
  simp only[upd]
  by_cases e:o=B+j
  subst e;rw[if_pos rfl,if_neg zo,if_pos rfl];rw[if_neg e,if_neg e]
theorem Ztp{P:Program}{E:Ent}{c:Code}{Q:Exit->AS->Prop}{τ':Nat->V}{H' H0:Heap}{g:Nat->Nat}{l:Nat->List Int}{m:List (Nat×AObj)}(lt:List (Nat×V))(x B site j:Nat)(F:V->AObj){o2 g2:Nat}{r:List Int}(hr:r≠[])(ho:o2=B+j\/o2=site)(hj:j<1000000)
  (hF:∀ a g b k,RnX a g b k (F (grown a g 1 r)) (F (grown b k 1 r))) (h2:H' o2=Zca g2 (V.int .i64) r) (hx:H' x=F (grown o2 g2 1 r)) (hH:∀ o,o≠x->o≠B+j->o≠site->Zfa (Ztd B g l H0) m o=.dead\/H' o=Zfa (Ztd B g l H0) m o) (hτ : ∀ t,Zfa emp lt t=.top\/Zfa emp lt t = τ' t)
  (h:∀ t,AW P E c Q ⟨Zfa emp lt,Zfa (Ztd B (upd g j t) (upd l j r) H0) ((x,F (grown (B+j) t 1 r))::(site,.dead)::m)⟩)
  (hm:(((x,AObj.dead)::(site,.dead)::m).all λp=>Nat.blt p.1 B)=true:=by rfl) (hxs:x≠site:=by decide):AW P E c Q ⟨τ',H'⟩:=by
 have hm':=hm;rw[List.all_cons,List.all_cons,Bool.and_eq_true,Bool.and_eq_true,Nat.blt_eq,Nat.blt_eq]at hm';obtain⟨h1,h3,h4⟩:=hm';refine Zzja (τ := Zfa emp lt) (H:=Zfa (Ztd B g l H0) m) x F (B+j) site o2 g2 hr ho zo hxs zo hF h2 hx hH hτ λt=>?_;have e:=Zs6 (B:=B) (g:=g) (l:=l) (H:=H0) (t:=t) (r:=r) hj (m:=(x,F (grown (B+j) t 1 r))::(site,.dead)::m) (by rw[List.all_cons,List.all_cons,Bool.and_eq_true,Bool.and_eq_true,Nat.blt_eq,Nat.blt_eq];exact⟨h1,h3,h4⟩);have:=h t;rw[<- e]at this;exact this
theorem Zdi{P:Program}{E:Ent}{c:Code}{Q:Exit->AS->Prop}{τ':Nat->V}{H' H0:Heap}{g:Nat->Nat}{l:Nat->List Int}{m:List (Nat×AObj)}(lt:List (Nat×V))(x B site j:Nat)(F:V->AObj){o2 g2:Nat}{r:List Int}(hr:r≠[])(ho:o2=B+j\/o2=site)(hj:j<1000000)
  (hF:∀ a g b k,RnX a g b k (F (grown a g 1 r)) (F (grown b k 1 r))) (h2:H' o2=Zca g2 (V.int .i64) r) (hx:H' x=F (grown o2 g2 1 r)) (hH:∀ o,o≠x->o≠B+j->o≠site->Zfa (Ztd B g l H0) m o=.dead\/H' o=Zfa (Ztd B g l H0) m o) (hτ : Ztg τ' lt)
  (h:∀ t,AW P E c Q ⟨Zfa emp lt,Zfa (Ztd B (upd g j t) (upd l j r) H0) ((x,F (grown (B+j) t 1 r))::(site,.dead)::m)⟩)
  (hm:(((x,AObj.dead)::(site,.dead)::m).all λp=>Nat.blt p.1 B)=true:=by rfl) (hxs:x≠site:=by decide):AW P E c Q ⟨τ',H'⟩:=
 Ztp lt x B site j F hr ho hj hF h2 hx hH (λt=>Zob (τ := emp) (f := τ') t lt (Z1b hτ)) h hm hxs
theorem Z5ma{B:Nat}{g:Nat->Nat}{l:Nat->List Int}{m:List (Nat×AObj)}(hm:(m.all λp=>Nat.blt p.1 B)=true)(o:Nat):Ztd B g l Zk o=.dead\/Ztd B g l Zk o=Zfa (Ztd B g l Zk) m o:=by
 rcases Nat.lt_or_ge o B with h|h
 exact .inl (Z3d (.inl h));exact .inr (Zqe hm h).symm
theorem RnX.mp{a g b k B lo b1:Nat}{G:Nat->Nat}{L:List (Int×List Int)}{key:Int}{ks:List V}{u u':V}(h:Rn a g b k u u'):RnX a g b k (.mp lo b1 ks (Zuz B G L key u)) (.mp lo b1 ks (Zuz B G L key u')):=
 .inr ⟨_,_,_,_,_,rfl,rfl,(Zoea B G L key a g b k h).1,(Zoea B G L key a g b k h).2⟩
theorem RnX.cl{a g b k i fz t:Nat}{c:Col}{cs:List V}{u u':V}(h:Rn a g b k u u'):RnX a g b k (.cells c t fz (cs.set i u)) (.cells c t fz (cs.set i u')):=
 .inl ⟨_,_,_,_,_,rfl,rfl,(h.set cs i).1,(h.set cs i).2⟩
theorem Z8v{E:Ent}(F:Nat->Bool){τ : Nat->V}{H B:Heap}{l:List (Nat×V)}{m:List (Nat×AObj)}(h:Zot F H τ l)(hm:Z5l F H m)(hB:∀ o,B o=.dead\/(F o=false/\B o=H o)):Weak E ⟨τ,H⟩ ⟨Zfa emp l,Zfa B m⟩:=by
 refine Zqd F (λt=>Zin t h) (λo=>?_)
 show FzO F H o (Zfa B m o)
 clear h
 induction m with
 |nil=>
  show FzO F H o (B o)
  rcases hB o with q|⟨q1,q2⟩
  rw[q];trivial;rw[q2];exact FzO.same q1
 |cons p m ih=>
  rw[Zbb]
  by_cases e:o=p.1
  subst e;rw[Z3];exact hm.1;rw[Zi _ _ e];exact ih hm.2
theorem FzL.map{F:Nat->Bool}{H:Heap}{α : Type}{f f' : α -> V}:∀ {l:List α},(∀ x∈l,Fz F H (f x) (f' x))->FzL F H (l.map f) (l.map f')
 |[],_=>trivial
 |x::r,h=>⟨h x (List.mem_cons_self ..),FzL.map λy hy=>h y (List.mem_cons_of_mem _ hy)⟩
def Zpa(l:Nat->List Int)(n:Nat):List V:=(List.range n).map λj=>Za .new 1 (V.int .i64) (Zb (l j))
theorem FzL.fam{F:Nat->Bool}{H:Heap}{B:Nat}{g:Nat->Nat}{l:Nat->List Int}{n:Nat}(hn:n<=1000000)(hF:∀ j,j<1000000->F (B+j)=true)(hH:∀ j,j<1000000->H (B+j)=Zca (g j) (V.int .i64) (l j)):FzL F H ((List.range n).map (Zcj B g l)) (Zpa l n):=
 FzL.map λj hj=>Zkc (f:=V.int .i64) (hF j (by have:=List.mem_range.1 hj;omega)) (hH j (by have:=List.mem_range.1 hj;omega)) λ_=>rfl
theorem Zb6(o b:Nat)(ks vs:List V):∀ l:List V,mzL o b ks vs l l
 |[]=>trivial
 |_::l=>⟨.inl rfl,Zb6 o b ks vs l⟩
theorem MZO.same(o b:Nat)(ks vs:List V)(ob:AObj):MZO o b ks vs ob ob:=by
 cases ob with
 |dead=>trivial
 |mp lo b' ks' vs'=>rfl
 |lp b r=>rfl
 |cells c g fz cs=>exact⟨cs,rfl,Zb6 o b ks vs cs⟩
def Lows(lo:Nat)(G:Heap):Prop:=∀ o,o<lo->G o=.dead
theorem Lows.none(lo:Nat):Lows lo Zk:=λ_ _=>rfl
theorem Lows.fam{lo B:Nat}{g:Nat->Nat}{l:Nat->List Int}{H:Heap}(h:Lows lo H)(hB:lo<=B):Lows lo (Ztd B g l H):=λo ho=>(Z3d (.inl zo)).trans (h o ho)
theorem Lows.base{lo:Nat}{G:Heap}(h:Lows lo G){m:List (Nat×AObj)}(hm:(m.all λp=>Nat.blt p.1 lo)=true)(o:Nat):G o=.dead\/G o=Zfa G m o:=by
 rcases Nat.lt_or_ge o lo with q|q
 exact .inl (h o q);exact .inr (Zqe hm q).symm
theorem Zrr{lo:Nat}{G:Heap}(h:Lows lo G){F:Nat->Bool}(hF:∀ o,lo<=o->F o=false){m:List (Nat×AObj)}(hm:(m.all λp=>Nat.blt p.1 lo)=true)(o:Nat):G o=.dead\/(F o=false/\G o=Zfa G m o):=by
 rcases Nat.lt_or_ge o lo with q|q
 exact .inl (h o q);exact .inr ⟨hF o q,(Zqe hm q).symm⟩
theorem Zfha{B:Nat}{g:Nat->Nat}{l:Nat->List Int}{H H':Heap}{o:Nat}(h:H o=H' o):Ztd B g l H o=Ztd B g l H' o:=by
 unfold Ztd
 split
 rfl;exact h
theorem Ztz{α : Type}{G G':Nat -> α}{o:Nat}(h:G o=G' o):∀ m:List (Nat × α),Zfa G m o=Zfa G' m o
 |[]=>h
 |p::m=>by
  rw[Zbb,Zbb];simp only[upd]
  split
  rfl;exact Ztz h m
theorem Zdda{P:Program}{E:Ent}{c:Code}{Q:Exit->AS->Prop}{τ':Nat->V}{H':Heap}{gO gI:Nat->Nat}{lO lI:Nat->List Int}(m:List (Nat×AObj))(lt:List (Nat×V))(x s1 s2 a e:Nat)(F:V->V->AObj){o2 g2 o3 g3:Nat}{r r':List Int}(hr:r≠[])(hr':r'≠[])
  (ho:o2=4000000+a\/o2=s1) (ho':o3=5000000+e\/o3=s2) (ha:a<1000000) (he:e<1000000)
  (hF1:∀ v a g b k,RnX a g b k (F (grown a g 1 r) v) (F (grown b k 1 r) v)) (hF2:∀ u a g b k,RnX a g b k (F u (grown a g 1 r')) (F u (grown b k 1 r')))
  (h2:H' o2=Zca g2 (V.int .i64) r) (h3:H' o3=Zca g3 (V.int .i64) r') (hx:H' x=F (grown o2 g2 1 r) (grown o3 g3 1 r'))
  (hH:∀ o,o≠x->o≠4000000+a->o≠s1->o≠5000000+e->o≠s2->Zfa (Ztd 4000000 gO lO (Ztd 5000000 gI lI Zk)) m o=.dead\/H' o=Zfa (Ztd 4000000 gO lO (Ztd 5000000 gI lI Zk)) m o) (hτ : Ztg τ' lt)
  (h:∀ t t',AW P E c Q ⟨Zfa emp lt,Zfa (Ztd 4000000 (upd gO a t) (upd lO a r) (Ztd 5000000 (upd gI e t') (upd lI e r') Zk)) ((x,F (grown (4000000+a) t 1 r) (grown (5000000+e) t' 1 r'))::(s2,.dead)::(s1,.dead)::m)⟩)
  (hm:(((x,AObj.dead)::(s2,.dead)::(s1,.dead)::m).all λp=>Nat.blt p.1 4000000)=true:=by rfl) (hmx:(m.all λp => !Nat.beq p.1 s1 && !Nat.beq p.1 s2)=true:=by rfl) (hx1:x≠s1:=by decide) (hx2:x≠s2:=by decide) (h12:s1≠s2:=by decide):AW P E c Q ⟨τ',H'⟩:=by
 have hm':=hm;simp only[List.all_cons,Bool.and_eq_true,Nat.blt_eq]at hm';obtain⟨b0,b2,b1,bm⟩:=hm'
 have nom:∀ (G:Heap) (s:Nat),(s=s1\/s=s2)->Zfa G m s=G s:=by
  intro G s hs;clear h hH hm bm
  induction m with
  |nil=>rfl
  |cons p m ih=>
   rw[List.all_cons,Bool.and_eq_true,Bool.and_eq_true]at hmx;obtain⟨⟨q1,q2⟩,q3⟩:=hmx;rw[Zbb,Zi _ _ (by rintro rfl;rcases hs with q|q<;>rw[q]at q1 q2<;>simp at q1 q2),ih q3]
 have bm5:(m.all λp=>Nat.blt p.1 5000000)=true:=by
  rw[List.all_eq_true]at bm⊢;intro p hp;have:=bm p hp;rw[Nat.blt_eq]at this⊢;omega
 let Z:Heap:=upd (upd (Ztd 5000000 gI lI Zk) (5000000+e) .dead) o3 (Zca g3 (V.int .i64) r')
 have hZ:∀ o,o≠o3->o≠5000000+e->Z o=Ztd 5000000 gI lI Zk o:=λo q1 q2=>(Zi _ _ q1).trans (Zi _ _ q2);have hZ3:Z o3=Zca g3 (V.int .i64) r':=Z3 ..;have hZe:5000000+e≠o3->Z (5000000+e)=.dead:=λq=>(Zi _ _ q).trans (Z3 ..);clear_value Z
 refine Zdi lt (g:=gO) (l:=lO) (H0:=Z) (m:=m) x 4000000 s1 a (λu=>F u (grown o3 g3 1 r')) hr ho ha (λa g b k=>hF1 _ a g b k) h2 hx (λo q1 q2 q3=>?_) hτ (λt=>?_)
  (by simp only[List.all_cons,Bool.and_eq_true,Nat.blt_eq];exact⟨b0,b1,bm⟩) hx1
 by_cases e3:o=o3
 subst e3
 right
 rw[h3]
 rcases ho' with q|q
 rw[Zqe bm zo,Z3d zo,hZ3];rw[nom _ _ (.inr q),Z3d zo,hZ3]
 by_cases e4:o=5000000+e
 subst e4
 left
 rw[Zqe bm zo,Z3d zo,hZe e3];rw[Ztz (Zfha (hZ o e3 e4)) m]
 by_cases e5:o=s2
 left
 rw[nom _ _ (.inr e5),Z3d zo,Z3d zo];rfl;exact hH o q1 q2 q3 e4 e5
 refine Ztp lt (g:=gI) (g2:=g3) (o2:=o3) (l:=lI) (H0:=Ztd 4000000 (upd gO a t) (upd lO a r) Zk) (m:=(x,F (grown (4000000+a) t 1 r) (grown o3 g3 1 r'))::(s1,.dead)::m) x 5000000 s2 e (λu=>F (grown (4000000+a) t 1 r) u) hr' ho' he (λa g b k=>hF2 _ a g b k) ?_ ?_ (λo q1 q2 q3=>?_) ?_ (λt'=>?_)
  (by simp only[List.all_cons,Bool.and_eq_true,Nat.blt_eq];exact⟨zo,zo,zo,zo,bm5⟩) hx2
 have n1:o3≠x:=zo;have n2:o3≠s1:=zo;rw[Zbb,Zbb,Zi _ _ n1,Zi _ _ n2]
 rcases ho' with q|q
 rw[Zqe bm zo,Z3d zo,hZ3];rw[nom _ _ (.inr q),Z3d zo,hZ3];rw[Zbb,Z3]
 by_cases e3:o=o3
 subst e3;omega
 right
 refine Ztz ?_ _;rw[Zdk zo];exact Zfha (hZ o e3 q2);exact λ_=>.inr rfl;rw[Zdk zo]
 have key:∀ (G:Heap) (A B:AObj),Zfa G ((x,A)::(s2,.dead)::(x,B)::(s1,.dead)::m)=Zfa G ((x,A)::(s2,.dead)::(s1,.dead)::m):=λG A B=>by
  funext o
  simp only[Zbb,upd]
  by_cases e1:o=x
  rw[if_pos e1,if_pos e1];rw[if_neg e1,if_neg e1,if_neg e1]
 rw[key];exact h t t'
theorem RnX.cl2{a g b k i j fz t:Nat}{c:Col}{cs:List V}{u u' v:V}(h:Rn a g b k u u'):RnX a g b k (.cells c t fz ((cs.set i u).set j v)) (.cells c t fz ((cs.set i u').set j v)):=
 .inl ⟨_,_,_,_,_,rfl,rfl,zS,λq h1 h2=>by
  rw[List.getElem_set,List.getElem_set,List.getElem_set,List.getElem_set]
  split
  exact .same _
  split
  exact h
  exact .same _⟩
theorem FzL.app{F:Nat->Bool}{H:Heap}:∀ {a a' b b':List V},FzL F H a a'->FzL F H b b'->FzL F H (a++b) (a'++b')
 |[],[],_,_,_,h=>h
 |[],_::_,_,_,h,_=>h.elim
 |_::_,[],_,_,h,_=>h.elim
 |_::_,_::_,_,_,h,k=>⟨h.1,FzL.app h.2 k⟩
theorem FzL.flat{F:Nat->Bool}{H:Heap}{α : Type}{f f' : α -> V}:∀ {l:List α},(∀ x∈l,FzL F H (f x).cells (f' x).cells)->FzL F H (flat (l.map f)) (flat (l.map f'))
 |[],_=>trivial
 |x::r,h=>FzL.app (h x (List.mem_cons_self ..)) (FzL.flat λy hy=>h y (List.mem_cons_of_mem _ hy))
section
variable{P:Program}{E:Ent}
theorem run_inl{N:Nat}{G:Nat->V}{f:FuncId}{fn:Func}{c:Code}{args:List V}{H:Heap}{K:V->Heap->Prop}(q:Nat)(hf:P.funcs[f]?=some fn)(hb:fn.body=some c)(hn0:Nat.ble args.length fn.ntmps=true)
  {X:Cx} {cargs:Array Value} (hI:Inv X H) (hG:∀ g,RelG X g (G g)) (hA:RelA X cargs args) (hN:N<=X.w.heap.size) (h:AW P ⟨X,H,fn.ntmps,q,G,none,[],.inl N⟩ c (Zeg P fn.results.toList K) ⟨Zve 0 args,H⟩):
  Calls P f cargs X.w (λe w'=>∃ c v H' Y,e=.returned c/\Y.w=w'/\GoesN N X H Y H'/\Rel Y c v/\(∀ g,RelG Y g (G g))/\K v H'):=by
 have hF:RK.F (.inl N)=Fence.wide:=Zpp rfl;refine(callsIn_wide (n:=0)).1 (callsIn_of_wp_marks hf hb trivial ?_);have h0:=h _ _ ⟨X,Ziu fn.ntmps q (Nat.le_of_ble_eq_true hn0) hI hG hA⟩;rw[hF]at h0;refine wpIn_mono h0 ?_;rintro e a' w' (⟨s',⟨Y,hY⟩,hQ⟩|⟨ch,rfl,hp⟩);rotate_left;exact(hp.no rfl).elim;have hNN:Ent.N ⟨X,H,fn.ntmps,q,G,none,[],.inl N⟩=N:=Nat.min_eq_left hN
 have fin:(∃ v,resA P s' fn.results.toList=some v/\K v s'.H)->LeavesInM Fence.wide 0 P fn a'.tmps (λe w'=>∃ c v H' Y,e=.returned c/\Y.w=w'/\GoesN N X H Y H'/\Rel Y c v/\(∀ g,RelG Y g (G g))/\K v H') a'.defers .returning w':=by
  intro⟨v,hv,hk'⟩;obtain⟨c,hc,hr⟩:=Zt5 hY hv;have hd:a'.defers=[]:=DefR.nil hY.df;rw[hd];have hgo:=hY.go;rw[hNN]at hgo;exact⟨c,hc,c,v,s'.H,Y,rfl,hY.hw,hgo,hr,hY.gl,hk'⟩
 cases e with
 |normal=>exact fin hQ
 |ret=>exact fin hQ
 |exit id=>exact hQ.elim
 |goto l=>exact hQ.elim
 |panic ch=>exact hQ.elim
 |outgrown=>exact hQ.elim
theorem HandX.inl{ops:Array Oper}{R:Exit->Act->World->Prop}{st:AS}{K:AS->Prop}{dst:Option Nat}{f:Operand}{args:Array Operand}{ats:Array TypeId}{ty:TypeId}{pos:String}{af:Array Edge}{gd:Option (Nat×Bool)}{fid:FuncId}{fn:Func}{c:Code}{cl ags:List V}
  (q n:Nat) (rs:List ResultVar) (hfn:P.funcs[fid]?=some fn) (hf:st.ev E f=.func (.func fid) [] cl) (ha:args.toList.map (st.ev E)++cl=ags)
  (h:∀ X1,AW P ⟨X1,st.H,n,q,E.G,none,[],.inl E.N⟩ c (Zeg P rs (λv H'=>K (AS.put ⟨st.τ,H'⟩ dst v))) ⟨Zve 0 ags,st.H⟩)
  (hd:(ops.all (Z7b E.n))=true) {k:Nat} (ho:ops[k]?=some ⟨dst,.call ⟨.value f,args,ats⟩,ty,pos,af,gd⟩) (hw:Zz ops st.τ ⟨dst,.call ⟨.value f,args,ats⟩,ty,pos,af,gd⟩=some true)
  (hen:Z2 P fid=true:=by kernel_rfl) (hb:fn.body=some c:=by rfl) (hn:fn.ntmps=n:=by rfl) (hr:fn.results.toList=rs:=by rfl) (hn0:Nat.ble ags.length n=true:=by rfl) (hdf:E.df=[]:=by rfl) (hrk:E.rk ≠ .marks:=by exact RK.noConfusion):
  HandX P E ops R ⟨dst,.call ⟨.value f,args,ats⟩,ty,pos,af,gd⟩ st K:=by
 subst hn hr;refine Or.inl ⟨hw,λX a hX=>?_⟩;refine⟨λ_ _=>trivial,?_⟩;rw[Oper.semAt_eq _ _ _ (λ_ h=>by cases h)];have hfv:=hX.ev f;rw[hf]at hfv;generalize hq:a.eval f=qv at hfv
 cases hfv with
 |func _ xs ys _ _ hx hy hxr hyr=>
  have hx0:xs = #[]:=by
   have:xs.size=0:=hx;exact Array.eq_empty_of_size_eq_zero this
  subst hx0
  have hA:RelA X (args.map a.eval++ys) (args.toList.map (st.ev E)++cl):=by
   refine⟨by simp[hy],λi h1 h2=>?_⟩
   by_cases hi:i<args.size
   rw[Array.getElem_append_left (zu hi),List.getElem_append_left (zu hi)];simp only[Array.getElem_map,List.getElem_map,Array.getElem_toList];exact hX.ev _;rw[Array.getElem_append_right zO,List.getElem_append_right zO];simp only[Array.size_map,List.length_map,Array.length_toList];exact hyr _ _ _
  rw[ha]at hA;have hk:=run_inl q hfn hb hn0 hX.go.inv hX.gl hA hX.size (h X)
  have hdm:∀ d,dst=some d->d<E.n:=by
   intro d hdst;rw[Array.all_eq_true']at hd;obtain⟨hlt,e⟩:=Array.getElem?_eq_some_iff.1 ho;have:=hd _ (Array.getElem_mem hlt);rw[e]at this;simp only[Z7b,hdst]at this;simpa using this
  have hrun:(execOp a.eval ⟨dst,.call ⟨.value f,args,ats⟩,ty,pos,af,gd⟩).run P X.w=.ok (.enter fid (args.map a.eval++ys)) X.w:=by
   unfold Z2 at hen
   split at hen
   rename_i fn' hfn';simp only[Bool.and_eq_true]at hen;obtain⟨hn1,hn2⟩:=hen
   have hn1':(fn'.name == "runtime.NumGoroutine")=false:=zu hn1
   have hn2':fn'.body.isNone=false:=by cases hb':fn'.body<;>simp_all
   simp only[execOp,resolve,hq,Deferred.ofValue,Sem.run_bind,Sem.run_pure,Result.andThen_ok,invoke,callFunc,run_program,hfn',hn1',hn2'];simp;simp at hen
  rw[hrun,Oper.uponIn_enter];refine⟨λh=>(by cases h),(E.rk.calls).2 (hk.mono ?_)⟩;rintro e w' ⟨c,v,H',Y,rfl,rfl,hg,hr,hgl,hK⟩
  have hdn:a.defers=[]:=by
   have:=hX.df;rw[hdf]at this;exact DefR.nil this hrk
  refine⟨_,⟨Y,rfl,?_,?_,?_,λt=>?_,hgl⟩,hK⟩;have:=hX.go.then hg (Nat.le_refl _)
  cases dst<;>exact this
  have:(a.put dst c).defers=[]:=by cases dst<;>exact hdn
  rw[this,hdf];exact .none _ _ _
  cases dst<;>simp[Act.put,hX.sz]
  .have h0:=(hX.tm t).mono hg.le
   cases dst with
   |none=>exact h0
   |some d=>
    simp only[Act.put,AS.put,upd]
    by_cases htd:t=d
    subst htd
    have:t<a.tmps.size:=by rw[hX.sz];exact hdm _ rfl
    simp[this,hr];simp only[htd,if_false]
    have:(a.tmps.setIfInBounds d c).getD t undef=a.tmps.getD t undef:=by
     simp[Array.getD_eq_getD_getElem?,Array.getElem?_setIfInBounds_ne (Ne.symm htd)]
    rw[this];exact h0
def InlF(P:Program)(G:Nat->V)(N:Nat)(f:FuncId)(args:List V)(H:Heap)(K:V->Heap->Prop):Prop:=
 ∃ fn c q,P.funcs[f]?=some fn/\fn.body=some c/\Nat.ble args.length fn.ntmps=true/\∀ X1,AW P ⟨X1,H,fn.ntmps,q,G,none,[],.inl N⟩ c (Zeg P fn.results.toList K) ⟨Zve 0 args,H⟩
theorem ZoI{G:Nat->V}{N:Nat}{f:FuncId}{fn:Func}{c:Code}{args:List V}{H:Heap}{K:V->Heap->Prop}(q n:Nat)(rs:List ResultVar)(hf:P.funcs[f]?=some fn)(h:∀ X1,AW P ⟨X1,H,n,q,G,none,[],.inl N⟩ c (Zeg P rs K) ⟨Zve 0 args,H⟩)
  (hb:fn.body=some c:=by rfl) (hn:fn.ntmps=n:=by rfl) (hr:fn.results.toList=rs:=by rfl) (hn0:Nat.ble args.length n=true:=by rfl):InlF P G N f args H K:=by
 subst hn hr;exact⟨fn,c,q,hf,hb,hn0,h⟩
theorem Ztr{ops:Array Oper}{R:Exit->Act->World->Prop}{st:AS}{K:AS->Prop}{dst:Option Nat}{f:Operand}{args:Array Operand}{ats:Array TypeId}{ty:TypeId}{pos:String}{af:Array Edge}{gd:Option (Nat×Bool)}{fid:FuncId}{cl ags:List V}{K0:V->Heap->Prop}
  (hI:InlF P E.G E.N fid ags st.H K0) (hf:st.ev E f=.func (.func fid) [] cl) (ha:args.toList.map (st.ev E)++cl=ags) (hK:∀ v H',K0 v H'->K (AS.put ⟨st.τ,H'⟩ dst v))
  (hd:(ops.all (Z7b E.n))=true) {k:Nat} (ho:ops[k]?=some ⟨dst,.call ⟨.value f,args,ats⟩,ty,pos,af,gd⟩) (hw:Zz ops st.τ ⟨dst,.call ⟨.value f,args,ats⟩,ty,pos,af,gd⟩=some true)
  (hen:Z2 P fid=true:=by kernel_rfl) (hdf:E.df=[]:=by rfl) (hrk:E.rk ≠ .marks:=by exact RK.noConfusion):
  HandX P E ops R ⟨dst,.call ⟨.value f,args,ats⟩,ty,pos,af,gd⟩ st K:=by
 obtain⟨fn,c,q,h1,h2,h3,h4⟩:=hI;refine HandX.inl q fn.ntmps fn.results.toList h1 hf ha (λX1=>(h4 X1).mono ?_) hd ho hw hen h2 rfl rfl h3 hdf hrk;intro e s hs
 cases e with
 |ret=>obtain⟨v,q1,q2⟩:=hs;exact⟨v,q1,hK _ _ q2⟩
 |normal=>obtain⟨v,q1,q2⟩:=hs;exact⟨v,q1,hK _ _ q2⟩
 |exit i=>exact hs.elim
 |goto l=>exact hs.elim
 |panic ch=>exact hs.elim
 |outgrown=>exact hs.elim
def Gives1(P:Program)(a:Act)(X:Cx)(o:Oper)(v:V):Prop:=∃ c,(execOp a.eval o).run P X.w=.ok (.value c) X.w/\Rel X c v
theorem Z24{ops:Array Oper}{R:Exit->Act->World->Prop}{st:AS}{K:AS->Prop}{dst:Option Nat}{t:TypeId}{x lo:Operand}{ty:TypeId}{pos:String}{af:Array Edge}{gd:Option (Nat×Bool)}{e:TypeId}{m ob g off len:Nat}
  (hu:P.underlying t=some (.slice e)) (hs:Z9a P e=some m) (hx:st.ev E x=.msl ob g off (len+1) m) (hlo:st.ev E lo=.int .i64 1)
  (hK:∀ off',off'=off+m\/(len=0/\off'=off)->K (AS.put st dst (.msl ob g off' len m)))
  (hd:(ops.all (Z7b E.n))=true) {n:Nat} (ho:ops[n]?=some ⟨dst,.slice t x (some lo) none none,ty,pos,af,gd⟩) (hw:Zz ops st.τ ⟨dst,.slice t x (some lo) none none,ty,pos,af,gd⟩=some true):
  HandX P E ops R ⟨dst,.slice t x (some lo) none none,ty,pos,af,gd⟩ st K:=by
 refine Or.inl ⟨hw,λX a hX=>?_⟩
 have key:∃ off',(off'=off+m\/(len=0/\off'=off))/\Gives1 P a X ⟨dst,.slice t x (some lo) none none,ty,pos,af,gd⟩ (.msl ob g off' len m):=by
  have hy:=hX.ev x;rw[hx]at hy;have hl:=hX.ev lo;rw[hlo]at hl;have hev:execOp a.eval ⟨dst,.slice t x (some lo) none none,ty,pos,af,gd⟩=(do pure (Next.value (<- Instr.sliceAt t (a.eval x) (some (a.eval lo)) none none))):=rfl;generalize hq:a.eval x=y at hy hev
  cases hy with
  |msl _ _ _ _ _ b bs cap hβ hcap hb=>
   have hbr:=Zpc (P:=P) (w:=X.w) (X:=X) (isSlice:=true) (len:=len+1) (cap:=cap) (lo:=some (a.eval lo)) (hi:=none) (mx:=none) (lo':=some (.int .i64 1)) (hi':=none) (mx':=none) (i:=1) (j:=len+1) (k:=cap) hl trivial trivial rfl rfl rfl (.inl rfl) zo zo (Nat.le_refl _)
   have hrun:(Instr.sliceAt t (.slice (some ⟨b,bs+off,none⟩) (len+1) cap) (some (a.eval lo)) none none).run P X.w=.ok (.slice (if cap=1 then some ⟨b,bs+off,none⟩else(some (⟨b,bs+off,none⟩:Addr)).map (·.add (1*m))) (len+1-1) (cap-1)) X.w:=by
    simp only[Instr.sliceAt,Instr.slice,Zd hu,hbr,Zda hs,Sem.run_bind,Result.andThen_ok,Sem.run_pure]
   obtain⟨c',t',hb1,hb2⟩:=hb
   by_cases hc1:cap=1
   subst hc1;have hl0:len=0:=zo;subst hl0;refine⟨off,.inr ⟨rfl,rfl⟩,_,by rw[hev];simp only[Sem.run_bind,hrun,Result.andThen_ok,Sem.run_pure];rfl,?_⟩
   show Rel X (.slice (if True then _ else _) _ _) _
   rw[if_pos trivial];exact .msl _ _ _ _ _ b bs 0 hβ (Nat.le_refl _) ⟨c',t',hb1,zo⟩;refine⟨off+m,.inl rfl,_,by rw[hev];simp only[Sem.run_bind,hrun,Result.andThen_ok,Sem.run_pure];rfl,?_⟩;rw[if_neg hc1,Option.map_some,Addr.add_lit,Nat.one_mul,Nat.add_assoc,Nat.add_sub_cancel];refine .msl _ _ _ _ _ b bs (cap-1) hβ zo ⟨c',t',hb1,?_⟩
   have:m+(cap-1)*m=cap*m:=by rw[Nat.add_comm,<- Nat.succ_mul];congr 1;omega
   omega
 obtain⟨off',h1,c,h2,h3⟩:=key;refine Zog _ (λ_ h=>nomatch h) ?_;unfold Oper.wp;rw[h2,Oper.upon_value];refine⟨_,⟨X,hX.step (Goes.refl hX.go.inv) h3 λd hdst=>?_⟩,hK _ h1⟩;rw[Array.all_eq_true']at hd;have:=hd _ (Array.mem_of_getElem? ho);unfold Z7b at this;have hdst':dst=some d:=hdst;subst hdst';simpa using this
end
end Go.Hs
end
