/- A part. No condition. -/
import Derived.Test.YtkennpiglkfalaaGreatDoorP20
set_option linter.all false
open Bool renaming false->ab
namespace Go.Hs
set_option maxRecDepth 10000
section
variable{P:Program}{E:BX}
def AZ{α:Type}(o g m:Nat)(l:List α):V:=match l with|[]=>.AG|_::_=>.A_ o g 0 l.length m
def Z9{α:Type}(g:Nat)(f:α->V)(l:List α):BL:=match l with|[]=>.AR|_::_=>qC g 0 (flat (l.map f))
def Qo{α}(o g m):AZ o g m ([]:List α)=.AG:=rfl
def U1{α}(g)(f:α->V):Z9 g f []=.AR:=rfl
def Xs{α}(o g m){l:List α}(h:l≠[]):AZ o g m l=.A_ o g 0 l.length m:=by cases l with|nil=>grind|cons=>rfl
def X2{α}(g f){l:List α}(h:l≠[]):Z9 g f l=qC g 0 (flat (l.map f)):=by cases l with|nil=>grind|cons=>rfl
def Ww{α:Type}{m f}(a:∀ x,(f x).cells.length=m)(l:List α):(flat (l.map f)).length=l.length*m:=by induction l with|nil=>simp[flat]|cons x r ih=>simp only[flat,BI,FY,BQ,CW]at *;grind
def T0(a b):flat (a++b)=flat a++flat b:=by simp[flat]
def Xf{α}(f k)(x:α)(h:f k=x):Ye f k x=f:=by funext n;simp only[Ye];grind
def qJ{α}(o g m)(l:List α):D2 true (AZ o g m l)=some (qI l.length):=by cases l<;>rfl
def vY{α}(o g m)(l:List α):(AZ o g m l).cells=[AZ o g m l]:=by cases l<;>rfl
def vX{α}(o g m)(l:List α):(AZ o g m l).solid=true:=by cases l<;>rfl
attribute[go_sem]qJ vY vX
section
variable{ops:Array Oper}{Q:AS->Prop}{rest:List Oper}{τ:Nat->V}{H:A'}
def Yg{α f m bytes}(i:∀ x,(f x).cells.length=m){e g}{l l2:List α}{xc n}(o:n=l2.length)(j:xc=flat (l2.map f)){ob}(c:ob=KC H (AZ (E.q+e) g m l))(d:H (E.q+e)=Z9 g f l)(k:Tg bytes (l.length+l2.length))(h:∀ g2,Yx P E ops Q rest ⟨Ye τ e (AZ (E.q+e) g2 m (l++l2)),Ye H (E.q+e) (Z9 g2 f (l++l2))⟩):B7 P E ops Q rest e τ H m bytes (AZ (E.q+e) g m l) (some (n,xc)) ob:=by
 subst c o j;rcases l with _|⟨x,r⟩;simp only[U1,QK]at *;refine⟨by grind,λp=>?_,λp g2=>?_⟩;have:l2=[]:=zG;subst this;have:=h 0;rwa [U1,Xf H _ _ d]at this;have a:l2≠[]:=zG;have:=h g2;rwa [Xs _ _ _ a,X2 _ _ a]at this;have a:x::r≠[]:=zS;have b:(x::r)++l2≠[]:=zS;rw[Xs _ _ _ a]at *;rw[X2 _ _ a]at d;rw[Fy,d];refine⟨rfl,k,rfl,by rw[Ww i];omega,zo,λg2=>?_⟩;have:=h g2;rw[Xs _ _ _ b]at this;have s:((flat (List.map f (x::r))).drop 0).take ((x::r).length*m)=flat (List.map f (x::r)):=by rw[HB,<- Ww i,B_]
 rw[s,<- T0,<- DL];rwa [BQ]at this
def U5{α f m bytes}(i:∀ x,(f x).cells.length=m){e o g}{l l2:List α}{xc n}(p:n=l2.length)(j:xc=flat (l2.map f)){ob}(c:ob=KC H (AZ o g m l))(d:H o=Z9 g f l)(k:Tg bytes (l.length+l2.length))(h:∀ o2 g2,o2=o\/o2=E.q+e->Yx P E ops Q rest ⟨Ye τ e (AZ o2 g2 m (l++l2)),Ye H o2 (Z9 g2 f (l++l2))⟩):B7 P E ops Q rest e τ H m bytes (AZ o g m l) (some (n,xc)) ob:=by
 subst c p j;rcases l with _|⟨x,r⟩;simp only[U1,QK]at *;refine⟨by grind,λs=>?_,λs g2=>?_⟩;have:l2=[]:=zG;subst this;have:=h o 0 (.inl rfl);rwa [U1,Xf H _ _ d]at this;have a:l2≠[]:=zG;have:=h _ g2 (.inr rfl);rwa [Xs _ _ _ a,X2 _ _ a]at this;have a:x::r≠[]:=zS;have b:(x::r)++l2≠[]:=zS;rw[Xs _ _ _ a]at *;rw[X2 _ _ a]at d;rw[Fy,d];refine⟨rfl,k,rfl,by rw[Ww i];omega,zo,λg2=>?_⟩;have:=h o g2 (.inl rfl);rw[Xs _ _ _ b]at this;have t:((flat (List.map f (x::r))).drop 0).take ((x::r).length*m)=flat (List.map f (x::r)):=by rw[HB,<- Ww i,B_]
 rw[t,<- T0,<- DL];rwa [BQ]at this
end
def UC:AH.any.bk=.any:=rfl
def ABl:AH.new.bk=.new/\AH.new.moved=.new:=⟨rfl,rfl⟩
attribute[go_sem]ABl UC
def Z3{b n}(a:b<=1000)(c:n<10000000000):Tg b n:=by refine⟨?_,zo⟩;have:n*b<=10000000000*1000:=cU zo a;omega
def Fz.CG{F H}(v):Fz F H v v:=.base _ _ (.inl rfl)
def Fz.top{F H}(v):Fz F H v .top:=.base _ _ (.inr (.inl rfl))
def Fz.any{F H v v'}(h:v.recol (λ_=>.any)=v'):Fz F H v v':=.base _ _ (.inr (.inr h.symm))
def Xm{α:Type}{F H o g m fz c f}{l:List α}(d:F o=true)(b:H o=.cells c g fz (flat (l.map f)))(a:∀ x,(f x).cells.length=m):Fz F H (.A_ o g 0 l.length m) (.slice c ab m (l.map f)):=by refine .A_ o g 0 _ m c fz _ _ d b zS zG (by rw[Ww a];omega) λi e h2=>?_;refine .base _ _ (.inl ?_);grind
def Zb{α}(l:List α):Sl α:=match l with|[]=>.nil|x::r=>.mk ab (x::r)
@[go_sem] def Zl{α}(l:List α):(Zb l).l=l:=by cases l<;>rfl
def Yp{α F H o g m f}{l:List α}(c:F o=true)(b:H o=Z9 g f l)(a:∀ x,(f x).cells.length=m):Fz F H (AZ o g m l) (Za .new m f (Zb l)):=by rcases l with _|⟨x,r⟩;exact Fz.CG _;exact Xm c b a
def FzO.CG{F H o}(a:F o=ab):FzO F H o (H o):=by cases h:H o with|AR=>trivial|mp lo b ks vs=>exact⟨vs,h,rfl,λi _ _=>.base _ _ (.inl rfl)⟩|lp b r=>exact h|cells c g fz cs=>exact⟨c,fz,cs,h,.inl rfl,BO _,by grind,rfl,λi d h2=>Fz.CG _⟩
abbrev DR:=@FzO.CG
def FzO.keep{F H o ob}(b:F o=ab)(a:H o=ob):FzO F H o ob:=a ▸ DR b
abbrev CQ:=@FzO.keep
def FzL(F:Nat->Bool)(H:A'):List V->List V->Prop
 |[],[]=>True|a::r,b::t=>Fz F H a b/\FzL F H r t|_,_=>False
def FzL.get{F H}:∀ {l r},FzL F H l r->r.length=l.length/\∀ i h1 (h2:i<r.length),Fz F H l[i] r[i]
 |[],[],_=>⟨rfl,λi h1=>by grind⟩|[],_::_,h=>h.elim|_::_,[],h=>h.elim|a::l,b::r,h=>by have⟨h1,h2⟩:=FzL.get h.2;refine⟨by grind,λi k1 k2=>?_⟩;rcases i with _|i;exact h.1;grind
def FzO.of{F H o c g fz cs cs'}(b:F o=ab)(a:H o=.cells c g fz cs)(h:FzL F H cs cs'):FzO F H o (.cells c g fz cs'):=
 ⟨c,fz,cs,a,.inl rfl,BO _,by grind,h.get.1,h.get.2⟩
abbrev D_:=@FzO.of
def dh{F H o lo b ks vs vs'}(a:H o=.mp lo b ks vs)(h:FzL F H vs vs'):FzO F H o (.mp lo b ks vs'):=⟨vs,a,h.get.1,h.get.2⟩
def pr{F H o c g fz cs cs'}(b:F o=ab)(a:H o=.cells c g fz cs)(h:FzL F H cs cs'):FzO F H o (.cells .any g fz cs'):=
 ⟨c,fz,cs,a,.inr rfl,BO _,by grind,h.get.1,h.get.2⟩
def Nf(F:Nat->Bool)(H:A')(τ:Nat->V):List (Nat×V)->Prop
 |[]=>True|p::r=>Fz F H (τ p.1) p.2/\Nf F H τ r
@[go_sem] def ADV(F H τ):Nf F H τ []=True:=rfl
@[go_sem] def ADU(F H τ p r):Nf F H τ (p::r)=(Fz F H (τ p.1) p.2/\Nf F H τ r):=rfl
def Qv(F:Nat->Bool)(H:A'):List (Nat×BL)->Prop
 |[]=>True|p::r=>FzO F H p.1 p.2/\Qv F H r
@[go_sem] def Z5(F H):Qv F H []=True:=rfl
@[go_sem] def Z2(F H p r):Qv F H (p::r)=(FzO F H p.1 p.2/\Qv F H r):=rfl
def Fi{F H τ}(t):∀ {l},Nf F H τ l->Yb Mv l t=.top\/Fz F H (τ t) (Yb Mv l t)
 |[],_=>.inl rfl|p::r,h=>by simp only[Yb,Ye];split;rename_i e;subst e;exact .inr h.1;exact Fi t h.2
def YK{F H}(o):∀ {m},Qv F H m->FzO F H o (Yb Zm m o)
 |[],_=>trivial|p::r,h=>by simp only[Yb,Ye];split;rename_i e;subst e;exact h.1;exact YK o h.2
def Z4(F){τ H l m}(h:Nf F H τ l)(a:Qv F H m):Weak E ⟨τ,H⟩ (Hs.st l m):=
 T4 F (λt=>Fi t h) (λo=>YK o a)
def Zd{F:Nat->Bool}{H:A'}{v:V}:Fz F H v v:=Fz.CG v
end
section
variable{P:Program}{E:BX}
def jR{F:Nat->Bool}{H:A'}{τ:Nat->V}:∀ {l r:List (Nat×V)},Nf F H τ l->Nf F H τ r->Nf F H τ (l++r)
 |[],_,_,k=>k|_::_,_,h,k=>⟨h.1,jR h.2 k⟩
def fm{F:Nat->Bool}{H:A'}:∀ {l r:List (Nat×BL)},Qv F H l->Qv F H r->Qv F H (l++r)
 |[],_,_,k=>k|_::_,_,h,k=>⟨h.1,fm h.2 k⟩
def Gl{F:Nat->Bool}{H:A'}{τ:Nat->V}:∀ ks:List Nat,Nf F H τ (ks.map λk=>(k,τ k))
 |[]=>trivial|_::r=>⟨Zd,Gl r⟩
def J0{F:Nat->Bool}{H:A'}:∀ {os:List Nat},os.all (λo => !F o)=true->Qv F H (os.map λo=>(o,H o))
 |[],_=>trivial|_::_,h=>by rw[HQ,BP]at h;exact⟨CQ (zu h.1) rfl,J0 h.2⟩
def Y2{c:Code}{Q:Exit->AS->Prop}{τ:Nat->V}{H:A'}{R:Prop}(F:Nat->Bool)(ks os:List Nat){l:List (Nat×V)}{m:List (Nat×BL)}(h:Nf F H τ l)(b:Qv F H m)(q:R)(a:os.all (λo => !F o)=true:=by rfl)(n:R->AW P E c Q (Hs.st (l++ks.map λk=>(k,τ k)) (m++os.map λo=>(o,H o))):=by intro z;(try simp -implicitDefEqProofs only[go_sem,seval,↓reduceIte]);exact z):AW P E c Q ⟨τ,H⟩:=
 BM (Z4 F (jR h (Gl ks)) (fm b (J0 a))) (n q)
def AW.kp{c:Code}{Q:Exit->AS->Prop}{τ:Nat->V}{H:A'}{R:Prop}(ks os:List Nat)(q:R)(n:R->AW P E c Q (Hs.st (ks.map λk=>(k,τ k)) (os.map λo=>(o,H o))):=by intro z;(try simp -implicitDefEqProofs only[go_sem,seval,↓reduceIte]);exact z):AW P E c Q ⟨τ,H⟩:=
 BM (Z4 (λ_=>ab) (Gl ks) (J0 zS)) (n q)
abbrev NF:=@AW.kp
def Cn{α:Type}{f:Nat->α}:∀ {l r:List (Nat × α)},Vy f l->Vy f r->Vy f (l++r)
 |[],_,_,k=>k|_::_,_,h,k=>⟨h.1,Cn h.2 k⟩
def Gm{α:Type}(f:Nat->α):∀ ks:List Nat,Vy f (ks.map λk=>(k,f k))
 |[]=>trivial|_::r=>⟨rfl,Gm f r⟩
def Outs{γ α β:Type}(f:Nat->β)(ks:List Nat)(l L:γ->α->List (Nat × β)):Prop:=∀ (p:γ->α->List (Nat × β)->Prop) k x,p k x (L k x)->p k x (l k x++ks.map λk=>(k,f k))
def Outs.st{γ α:Type}{τ:Nat->V}{H:A'}{ks os:List Nat}{l L:γ->α->List (Nat×V)}{m M:γ->α->List (Nat×BL)}(b:Outs τ ks l L)(a:Outs H os m M){k:γ}{x:α}(h:Vy τ (l k x))(c:Vy H (m k x)):Weak E ⟨τ,H⟩ (Hs.st (L k x) (M k x)):=by rw[<- b (λk x y=>y=L k x) k x rfl,<- a (λk x y=>y=M k x) k x rfl];exact AO (Cn h (Gm τ ks)) (Cn c (Gm H os))
def Z8{α:Type}{c:Code}{Q:Exit->AS->Prop}{τ:Nat->V}{H:A'}{L:Nat->α->List (Nat×V)}{M:Nat->α->List (Nat×BL)}(ks os:List Nat)(N:Nat)(l:Nat->α->List (Nat×V))(m:Nat->α->List (Nat×BL))(R:Nat->α->Prop)(a:Nat)(b:α)(f:a<=N)(g:R a b)(h:Vy τ (l a b))(i:Vy H (m a b))(round:∀ k x,k<=N->R k x->∀ K:AS->Prop,(∀ s',(k<N/\∃ x',R (k+1) x'/\Weak E s' (Hs.st (L (k+1) x') (M (k+1) x')))->K s')->AW P E c (O0 K Q) (Hs.st (L k x) (M k x)))(e:Outs τ ks l L:=by intro p k x z;simp -implicitDefEqProofs only[go_sem,seval,↓reduceIte];exact z)(d:Outs H os m M:=by intro p k x z;simp -implicitDefEqProofs only[go_sem,seval,↓reduceIte];exact z):AW P E (.loop c) Q ⟨τ,H⟩:=
 Wy N (λk x=>Hs.st (L k x) (M k x)) R a b f g (e.st d h i) round
def Xw{α:Type}{c:Code}{Q:Exit->AS->Prop}{τ:Nat->V}{H:A'}{L:Unit->α->List (Nat×V)}{M:Unit->α->List (Nat×BL)}(ks os:List Nat)(l:α->List (Nat×V))(m:α->List (Nat×BL))(R:α->Prop)(μ:α->Nat)(a:α)(e:R a)(h:Vy τ (l a))(f:Vy H (m a))(round:∀ x,R x->∀ K:AS->Prop,(∀ s',(∃ x',μ x' < μ x/\R x'/\Weak E s' (Hs.st (L () x') (M () x')))->K s')->AW P E c (O0 K Q) (Hs.st (L () x) (M () x)))(d:Outs τ ks (λ_=>l) L:=by intro p k x z;simp -implicitDefEqProofs only[go_sem,seval,↓reduceIte];exact z)(b:Outs H os (λ_=>m) M:=by intro p k x z;simp -implicitDefEqProofs only[go_sem,seval,↓reduceIte];exact z):AW P E (.loop c) Q ⟨τ,H⟩:=
 J5 (λx=>Hs.st (L () x) (M () x)) R μ a e (d.st b (k:=()) h f) round
end
def qF{P:Program}{E:BX}{c:Code}{Q:Exit->AS->Prop}{τ:Nat->V}{H:A'}{R:Prop}(o:Nat)(ks os:List Nat)(t:Nat)(v:V)(q:R)(a:Fz (λx=>x==o) H (τ t) (.view .new v):=by (try simp -implicitDefEqProofs only[go_sem,seval,↓reduceIte]);exact CS (c:=.new) (fz:=0) zp zp)(h:os.all (λx=> !(x==o))=true:=by rfl)(n:R->AW P E c Q (Hs.st ([(t,.view .new v)]++ks.map λk=>(k,τ k)) ([]++os.map λx=>(x,H x))):=by intro z;(try simp -implicitDefEqProofs only[go_sem,seval,↓reduceIte]);exact z):AW P E c Q ⟨τ,H⟩:=Y2 (λx=>x==o) ks os (l:=[(t,.view .new v)]) (m:=[]) ⟨a,AJ⟩ trivial q h n
