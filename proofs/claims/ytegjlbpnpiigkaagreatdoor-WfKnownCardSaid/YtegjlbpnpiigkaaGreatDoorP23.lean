/- A part. No condition. -/
import Derived.Test.YtegjlbpnpiigkaaGreatDoorP22
set_option linter.all false
namespace Go.Hs
section
variable{P:Program}{E:Ent}
def grown{α : Type}(o g m:Nat)(l:List α):V:=match l with|[]=>.nils|_::_=>.msl o g 0 l.length m
def Zza{α : Type}(g:Nat)(f : α -> V)(l:List α):AObj:=match l with|[]=>.dead|_::_=>.cells .new g 0 (flat (l.map f))
theorem Zne{α : Type}(o g m:Nat):grown o g m ([]:List α)=.nils:=rfl
theorem Zsg{α : Type}(g:Nat)(f : α -> V):Zza g f []=.dead:=rfl
theorem Zlc{α : Type}(o g m:Nat){l:List α}(h:l≠[]):grown o g m l=.msl o g 0 l.length m:=by cases l with|nil=>exact absurd rfl h|cons=>rfl
theorem Z0c{α : Type}(g:Nat)(f : α -> V){l:List α}(h:l≠[]):Zza g f l=.cells .new g 0 (flat (l.map f)):=by cases l with|nil=>exact absurd rfl h|cons=>rfl
theorem Zya{α : Type}{m:Nat}{f : α -> V}(hf:∀ x,(f x).cells.length=m)(l:List α):(flat (l.map f)).length=l.length*m:=by
 induction l with
 |nil=>simp[flat]
 |cons x r ih=>
  simp only[flat,List.map_cons,List.flatMap_cons,List.length_append,List.length_cons]at *;rw[ih,hf,Nat.add_mul];omega
theorem Z8g(a b:List V):flat (a++b)=flat a++flat b:=by simp[flat]
theorem Zjo{α : Type}(f:Nat -> α)(k:Nat)(x : α)(h:f k=x):upd f k x=f:=by
 funext n
 simp only[upd]
 split
 rename_i e;rw[e,h];rfl
theorem Z0ba{α : Type}(o g m:Nat)(l:List α):Z48 true (grown o g m l)=some (.int .i64 l.length):=by cases l<;>rfl
theorem Z42{α : Type}(o g m:Nat)(l:List α):(grown o g m l).cells=[grown o g m l]:=by cases l<;>rfl
theorem Zp1{α : Type}(o g m:Nat)(l:List α):(grown o g m l).solid=true:=by cases l<;>rfl
attribute[go_sem]Z0ba Z42 Zp1
section
variable{ops:Array Oper}{Q:AS->Prop}{rest:List Oper}{τ : Nat->V}{H:Heap}
theorem Zna{α : Type}{f : α -> V}{m bytes:Nat}(hf:∀ x,(f x).cells.length=m){e g:Nat}{l l2:List α}{xc:List V}{n:Nat}(hn:n=l2.length)(hx:xc=flat (l2.map f)){ob:AObj}
  (hob:ob=obS H (grown (E.q+e) g m l)) (hH:H (E.q+e)=Zza g f l) (hr:Z3f bytes (l.length+l2.length))
  (h:∀ g2,Zlb P E ops Q rest ⟨upd τ e (grown (E.q+e) g2 m (l++l2)),upd H (E.q+e) (Zza g2 f (l++l2))⟩):
  appE P E ops Q rest e τ H m bytes (grown (E.q+e) g m l) (some (n,xc)) ob:=by
 subst hob hn hx
 cases l with
 |nil=>
  simp only[Zne,Zsg,List.nil_append]at *;rw[Zlx];refine⟨zu hr,λh0=>?_,λh0 g2=>?_⟩;have:l2=[]:=zu h0;subst this;have:=h 0;rwa [Zne,Zsg,Zjo H _ _ hH]at this;have hne:l2≠[]:=zu h0;have:=h g2;rwa [Zlc _ _ _ hne,Z0c _ _ hne]at this
 |cons x r=>
  have hne:x::r≠[]:=zS;have hne':(x::r)++l2≠[]:=zS;rw[Zlc _ _ _ hne]at *;rw[Z0c _ _ hne]at hH;rw[Zh2,hH,Zju];refine⟨rfl,hr,rfl,by rw[Zya hf];omega,zo,λg2=>?_⟩;have:=h g2;rw[Zlc _ _ _ hne',Z0c _ _ hne']at this
  have e1:((flat (List.map f (x::r))).drop 0).take ((x::r).length*m)=flat (List.map f (x::r)):=by
   rw[List.drop_zero,<- Zya hf,List.take_length]
  rw[e1,<- Z8g,<- List.map_append];rwa [List.length_append]at this
end
theorem bk_new:Col.new.bk=.new:=rfl
theorem Zn9:Col.any.bk=.any:=rfl
theorem Zxha:Col.new.moved=.new:=rfl
attribute[go_sem]bk_new Zn9 Zxha
theorem Z5{b n:Nat}(hb:b<=1000)(hn:n<10000000000):Z3f b n:=by
 refine⟨?_,zo⟩;have:n*b<=10000000000*1000:=Nat.mul_le_mul zo hb;omega
theorem Fz.same{F:Nat->Bool}{H:Heap}(v:V):Fz F H v v:=.base _ _ (.inl rfl)
theorem Fz.top{F:Nat->Bool}{H:Heap}(v:V):Fz F H v .top:=.base _ _ (.inr (.inl rfl))
theorem Fz.any{F:Nat->Bool}{H:Heap}{v v':V}(h:v.recol (λ_=>.any)=v'):Fz F H v v':=.base _ _ (.inr (.inr h.symm))
theorem Z4c{α : Type}{F:Nat->Bool}{H:Heap}{o g m fz:Nat}{c:Col}{f : α -> V}{l:List α}(hF:F o=true)(hH:H o=.cells c g fz (flat (l.map f)))(hf:∀ x,(f x).cells.length=m):
  Fz F H (.msl o g 0 l.length m) (.slice c false m (l.map f)):=by
 refine .msl o g 0 l.length m c fz _ _ hF hH zS (by simpa using λa _=>hf a) (by rw[Zya hf];omega) λi h1 h2=>?_;refine .base _ _ (.inl ?_);simp only[Nat.zero_add]
def Zl{α : Type}(l:List α):Sl α := match l with|[]=>.nil|x::r=>.mk false (x::r)
@[go_sem] theorem Zm{α : Type}(l:List α):(Zl l).l=l:=by cases l<;>rfl
theorem Z3a{α : Type}{F:Nat->Bool}{H:Heap}{o g m:Nat}{f : α -> V}{l:List α}(hF:F o=true)(hH:H o=Zza g f l)(hf:∀ x,(f x).cells.length=m):
  Fz F H (grown o g m l) (Zb .new m f (Zl l)):=by
 cases l with
 |nil=>exact Fz.same _
 |cons x r=>exact Z4c hF hH hf
theorem FzO.same{F:Nat->Bool}{H:Heap}{o:Nat}(hF:F o=false):FzO F H o (H o):=by
 cases h:H o with
 |dead=>trivial
 |mp lo b ks vs=>exact h
 |lp b r=>exact h
 |cells c g fz cs=>exact⟨c,fz,cs,h,.inl rfl,Nat.le_refl _,by rw[hF];simp,rfl,λi h1 h2=>Fz.same _⟩
theorem FzO.keep{F:Nat->Bool}{H:Heap}{o:Nat}{ob:AObj}(hF:F o=false)(hH:H o=ob):FzO F H o ob:=hH ▸ FzO.same hF
def FzL(F:Nat->Bool)(H:Heap):List V->List V->Prop
 |[],[]=>True
 |a::r,b::t=>Fz F H a b/\FzL F H r t
 |_,_=>False
theorem FzL.get{F:Nat->Bool}{H:Heap}:∀ {l r:List V},FzL F H l r->r.length=l.length/\∀ i (h1:i<l.length) (h2:i<r.length),Fz F H l[i] r[i]
 |[],[],_=>⟨rfl,λi h1=>by simp at h1⟩
 |[],_::_,h=>h.elim
 |_::_,[],h=>h.elim
 |a::l,b::r,h=>by
  obtain⟨h1,h2⟩:=FzL.get h.2;refine⟨by simp[h1],λi k1 k2=>?_⟩
  cases i with
  |zero=>exact h.1
  |succ i=>exact h2 i (zu k1) (zu k2)
theorem FzO.of{F:Nat->Bool}{H:Heap}{o:Nat}{c:Col}{g fz:Nat}{cs cs':List V}(hF:F o=false)(hH:H o=.cells c g fz cs)(h:FzL F H cs cs'):FzO F H o (.cells c g fz cs'):=
 ⟨c,fz,cs,hH,.inl rfl,Nat.le_refl _,by rw[hF];simp,h.get.1,h.get.2⟩
theorem Zfla{F:Nat->Bool}{H:Heap}{o:Nat}{c:Col}{g fz:Nat}{cs cs':List V}(hF:F o=false)(hH:H o=.cells c g fz cs)(h:FzL F H cs cs'):FzO F H o (.cells .any g fz cs'):=
 ⟨c,fz,cs,hH,.inr rfl,Nat.le_refl _,by rw[hF];simp,h.get.1,h.get.2⟩
def Z4ca(F:Nat->Bool)(H:Heap)(τ : Nat->V):List (Nat×V)->Prop
 |[]=>True
 |p::r=>Fz F H (τ p.1) p.2/\Z4ca F H τ r
@[go_sem] theorem allFz_nil(F:Nat->Bool)(H:Heap)(τ : Nat->V):Z4ca F H τ []=True:=rfl
@[go_sem] theorem allFz_cons(F:Nat->Bool)(H:Heap)(τ : Nat->V)(p:Nat×V)(r:List (Nat×V)):Z4ca F H τ (p::r)=(Fz F H (τ p.1) p.2/\Z4ca F H τ r):=rfl
def Zlq(F:Nat->Bool)(H:Heap):List (Nat×AObj)->Prop
 |[]=>True
 |p::r=>FzO F H p.1 p.2/\Zlq F H r
@[go_sem] theorem Zz(F:Nat->Bool)(H:Heap):Zlq F H []=True:=rfl
@[go_sem] theorem Zv(F:Nat->Bool)(H:Heap)(p:Nat×AObj)(r:List (Nat×AObj)):Zlq F H (p::r)=(FzO F H p.1 p.2/\Zlq F H r):=rfl
theorem Zoga{F:Nat->Bool}{H:Heap}{τ : Nat->V}(t:Nat):∀ {l:List (Nat×V)},Z4ca F H τ l->Zab emp l t=.top\/Fz F H (τ t) (Zab emp l t)
 |[],_=>.inl rfl
 |p::r,h=>by
  simp only[Zab,upd]
  split
  rename_i e;subst e;exact .inr h.1;exact Zoga t h.2
theorem Z7s{F:Nat->Bool}{H:Heap}(o:Nat):∀ {m:List (Nat×AObj)},Zlq F H m->FzO F H o (Zab Zk m o)
 |[],_=>trivial
 |p::r,h=>by
  simp only[Zab,upd]
  split
  rename_i e;subst e;exact h.1;exact Z7s o h.2
theorem Zt(F:Nat->Bool){τ : Nat->V}{H:Heap}{l:List (Nat×V)}{m:List (Nat×AObj)}(h:Z4ca F H τ l)(hm:Zlq F H m):Weak E ⟨τ,H⟩ (Hs.st l m):=
 Zp9 F (λt=>Zoga t h) (λo=>Z7s o hm)
end
end Go.Hs
