/- A part. No condition. -/
import Derived.Test.YtoahejkahaimnaaGreatDoorP23
set_option linter.all false
namespace Go.Hs
section
variable{P:Program}{E:Ent}
def grown{α : Type}(o g m:Nat)(l:List α):V:=match l with|[]=>.nils|_::_=>.msl o g 0 l.length m
def Zca{α : Type}(g:Nat)(f : α -> V)(l:List α):AObj:=match l with|[]=>.dead|_::_=>.cells .new g 0 (flat (l.map f))
theorem Znc{α : Type}(o g m:Nat):grown o g m ([]:List α)=.nils:=rfl
theorem Z1c{α : Type}(g:Nat)(f : α -> V):Zca g f []=.dead:=rfl
theorem Z2a{α : Type}(o g m:Nat){l:List α}(h:l≠[]):grown o g m l=.msl o g 0 l.length m:=by cases l with|nil=>exact absurd rfl h|cons=>rfl
theorem Zfb{α : Type}(g:Nat)(f : α -> V){l:List α}(h:l≠[]):Zca g f l=.cells .new g 0 (flat (l.map f)):=by cases l with|nil=>exact absurd rfl h|cons=>rfl
theorem Zjb{α : Type}{m:Nat}{f : α -> V}(hf:∀ x,(f x).cells.length=m)(l:List α):(flat (l.map f)).length=l.length*m:=by
 induction l with
 |nil=>simp[flat]
 |cons x r ih=>
  simp only[flat,List.map_cons,List.flatMap_cons,List.length_append,List.length_cons]at *;rw[ih,hf,Nat.add_mul];omega
theorem Zee(a b:List V):flat (a++b)=flat a++flat b:=by simp[flat]
theorem Zea{α : Type}(f:Nat -> α)(k:Nat)(x : α)(h:f k=x):upd f k x=f:=by
 funext n
 simp only[upd]
 split
 rename_i e;rw[e,h];rfl
theorem Zy9{α : Type}(o g m:Nat)(l:List α):Zz9 true (grown o g m l)=some (.int .i64 l.length):=by cases l<;>rfl
theorem Zy0{α : Type}(o g m:Nat)(l:List α):(grown o g m l).cells=[grown o g m l]:=by cases l<;>rfl
theorem Zrz{α : Type}(o g m:Nat)(l:List α):(grown o g m l).solid=true:=by cases l<;>rfl
attribute[go_sem]Zy9 Zy0 Zrz
section
variable{ops:Array Oper}{Q:AS->Prop}{rest:List Oper}{τ : Nat->V}{H:Heap}
theorem Zhb{α : Type}{f : α -> V}{m bytes:Nat}(hf:∀ x,(f x).cells.length=m){e g:Nat}{l l2:List α}{xc:List V}{n:Nat}(hn:n=l2.length)(hx:xc=flat (l2.map f)){ob:AObj}
  (hob:ob=obS H (grown (E.q+e) g m l)) (hH:H (E.q+e)=Zca g f l) (hr:Zhe bytes (l.length+l2.length))
  (h:∀ g2,Zsa P E ops Q rest ⟨upd τ e (grown (E.q+e) g2 m (l++l2)),upd H (E.q+e) (Zca g2 f (l++l2))⟩):
  appE P E ops Q rest e τ H m bytes (grown (E.q+e) g m l) (some (n,xc)) ob:=by
 subst hob hn hx
 cases l with
 |nil=>
  simp only[Znc,Z1c,List.nil_append]at *;rw[Zmk];refine⟨zu hr,λh0=>?_,λh0 g2=>?_⟩;have:l2=[]:=zu h0;subst this;have:=h 0;rwa [Znc,Z1c,Zea H _ _ hH]at this;have hne:l2≠[]:=zu h0;have:=h g2;rwa [Z2a _ _ _ hne,Zfb _ _ hne]at this
 |cons x r=>
  have hne:x::r≠[]:=zS;have hne':(x::r)++l2≠[]:=zS;rw[Z2a _ _ _ hne]at *;rw[Zfb _ _ hne]at hH;rw[Zrs,hH,Zwm];refine⟨rfl,hr,rfl,by rw[Zjb hf];omega,zo,λg2=>?_⟩;have:=h g2;rw[Z2a _ _ _ hne',Zfb _ _ hne']at this
  have e1:((flat (List.map f (x::r))).drop 0).take ((x::r).length*m)=flat (List.map f (x::r)):=by
   rw[List.drop_zero,<- Zjb hf,List.take_length]
  rw[e1,<- Zee,<- List.map_append];rwa [List.length_append]at this
theorem Zgg{α : Type}{f : α -> V}{m bytes:Nat}(hf:∀ x,(f x).cells.length=m){e o g:Nat}{l l2:List α}{xc:List V}{n:Nat}(hn:n=l2.length)(hx:xc=flat (l2.map f)){ob:AObj}
  (hob:ob=obS H (grown o g m l)) (hH:H o=Zca g f l) (hr:Zhe bytes (l.length+l2.length))
  (h:∀ o2 g2,o2=o\/o2=E.q+e->Zsa P E ops Q rest ⟨upd τ e (grown o2 g2 m (l++l2)),upd H o2 (Zca g2 f (l++l2))⟩):
  appE P E ops Q rest e τ H m bytes (grown o g m l) (some (n,xc)) ob:=by
 subst hob hn hx
 cases l with
 |nil=>
  simp only[Znc,Z1c,List.nil_append]at *;rw[Zmk];refine⟨zu hr,λh0=>?_,λh0 g2=>?_⟩;have:l2=[]:=zu h0;subst this;have:=h o 0 (.inl rfl);rwa [Znc,Z1c,Zea H _ _ hH]at this;have hne:l2≠[]:=zu h0;have:=h (E.q+e) g2 (.inr rfl);rwa [Z2a _ _ _ hne,Zfb _ _ hne]at this
 |cons x r=>
  have hne:x::r≠[]:=zS;have hne':(x::r)++l2≠[]:=zS;rw[Z2a _ _ _ hne]at *;rw[Zfb _ _ hne]at hH;rw[Zrs,hH,Zwm];refine⟨rfl,hr,rfl,by rw[Zjb hf];omega,zo,λg2=>?_⟩;have:=h o g2 (.inl rfl);rw[Z2a _ _ _ hne',Zfb _ _ hne']at this
  have e1:((flat (List.map f (x::r))).drop 0).take ((x::r).length*m)=flat (List.map f (x::r)):=by
   rw[List.drop_zero,<- Zjb hf,List.take_length]
  rw[e1,<- Zee,<- List.map_append];rwa [List.length_append]at this
end
theorem bk_new:Col.new.bk=.new:=rfl
theorem Z86:Col.any.bk=.any:=rfl
theorem Zyfa:Col.new.moved=.new:=rfl
attribute[go_sem]bk_new Z86 Zyfa
theorem Z9{b n:Nat}(hb:b<=1000)(hn:n<10000000000):Zhe b n:=by
 refine⟨?_,zo⟩;have:n*b<=10000000000*1000:=Nat.mul_le_mul zo hb;omega
theorem Fz.same{F:Nat->Bool}{H:Heap}(v:V):Fz F H v v:=.base _ _ (.inl rfl)
theorem Fz.top{F:Nat->Bool}{H:Heap}(v:V):Fz F H v .top:=.base _ _ (.inr (.inl rfl))
theorem Fz.any{F:Nat->Bool}{H:Heap}{v v':V}(h:v.recol (λ_=>.any)=v'):Fz F H v v':=.base _ _ (.inr (.inr h.symm))
theorem Z2b{α : Type}{F:Nat->Bool}{H:Heap}{o g m fz:Nat}{c:Col}{f : α -> V}{l:List α}(hF:F o=true)(hH:H o=.cells c g fz (flat (l.map f)))(hf:∀ x,(f x).cells.length=m):
  Fz F H (.msl o g 0 l.length m) (.slice c false m (l.map f)):=by
 refine .msl o g 0 l.length m c fz _ _ hF hH zS (by simpa using λa _=>hf a) (by rw[Zjb hf];omega) λi h1 h2=>?_;refine .base _ _ (.inl ?_);simp only[Nat.zero_add]
def Zb{α : Type}(l:List α):Sl α := match l with|[]=>.nil|x::r=>.mk false (x::r)
@[go_sem] theorem Zl{α : Type}(l:List α):(Zb l).l=l:=by cases l<;>rfl
theorem Zkc{α : Type}{F:Nat->Bool}{H:Heap}{o g m:Nat}{f : α -> V}{l:List α}(hF:F o=true)(hH:H o=Zca g f l)(hf:∀ x,(f x).cells.length=m):
  Fz F H (grown o g m l) (Za .new m f (Zb l)):=by
 cases l with
 |nil=>exact Fz.same _
 |cons x r=>exact Z2b hF hH hf
theorem FzO.same{F:Nat->Bool}{H:Heap}{o:Nat}(hF:F o=false):FzO F H o (H o):=by
 cases h:H o with
 |dead=>trivial
 |mp lo b ks vs=>exact⟨vs,h,rfl,λi _ _=>.base _ _ (.inl rfl)⟩
 |lp b r=>exact h
 |cells c g fz cs=>exact⟨c,fz,cs,h,.inl rfl,Nat.le_refl _,by rw[hF];simp,rfl,λi h1 h2=>Fz.same _⟩
theorem FzO.keep{F:Nat->Bool}{H:Heap}{o:Nat}{ob:AObj}(hF:F o=false)(hH:H o=ob):FzO F H o ob:=hH ▸ FzO.same hF
def FzL(F:Nat->Bool)(H:Heap):List V->List V->Prop
 |[],[]=>True
 |a::r,b::t=>Fz F H a b/\FzL F H r t
 |_,_=>False
theorem FzL.get{F:Nat->Bool}{H:Heap}:∀ {l r:List V},FzL F H l r->r.length=l.length/\∀ i (h1:i<l.length) (h2:i<r.length),Fz F H l[i] r[i]
 |[],[],_=>⟨rfl,λi h1=>by simp at h1⟩
 |[],_::_,h=>h.elim
 |_::_,[],h=>h.elim
 |a::l,b::r,h=>by
  obtain⟨h1,h2⟩:=FzL.get h.2;refine⟨by simp[h1],λi k1 k2=>?_⟩
  cases i with
  |zero=>exact h.1
  |succ i=>exact h2 i (zu k1) (zu k2)
theorem FzO.of{F:Nat->Bool}{H:Heap}{o:Nat}{c:Col}{g fz:Nat}{cs cs':List V}(hF:F o=false)(hH:H o=.cells c g fz cs)(h:FzL F H cs cs'):FzO F H o (.cells c g fz cs'):=
 ⟨c,fz,cs,hH,.inl rfl,Nat.le_refl _,by rw[hF];simp,h.get.1,h.get.2⟩
theorem Zk7{F:Nat->Bool}{H:Heap}{o lo b:Nat}{ks vs vs':List V}(hH:H o=.mp lo b ks vs)(h:FzL F H vs vs'):FzO F H o (.mp lo b ks vs'):=⟨vs,hH,h.get.1,h.get.2⟩
theorem Zxja{F:Nat->Bool}{H:Heap}{o:Nat}{c:Col}{g fz:Nat}{cs cs':List V}(hF:F o=false)(hH:H o=.cells c g fz cs)(h:FzL F H cs cs'):FzO F H o (.cells .any g fz cs'):=
 ⟨c,fz,cs,hH,.inr rfl,Nat.le_refl _,by rw[hF];simp,h.get.1,h.get.2⟩
def Zot(F:Nat->Bool)(H:Heap)(τ : Nat->V):List (Nat×V)->Prop
 |[]=>True
 |p::r=>Fz F H (τ p.1) p.2/\Zot F H τ r
@[go_sem] theorem allFz_nil(F:Nat->Bool)(H:Heap)(τ : Nat->V):Zot F H τ []=True:=rfl
@[go_sem] theorem allFz_cons(F:Nat->Bool)(H:Heap)(τ : Nat->V)(p:Nat×V)(r:List (Nat×V)):Zot F H τ (p::r)=(Fz F H (τ p.1) p.2/\Zot F H τ r):=rfl
def Z5l(F:Nat->Bool)(H:Heap):List (Nat×AObj)->Prop
 |[]=>True
 |p::r=>FzO F H p.1 p.2/\Z5l F H r
@[go_sem] theorem Zy(F:Nat->Bool)(H:Heap):Z5l F H []=True:=rfl
@[go_sem] theorem Zv(F:Nat->Bool)(H:Heap)(p:Nat×AObj)(r:List (Nat×AObj)):Z5l F H (p::r)=(FzO F H p.1 p.2/\Z5l F H r):=rfl
theorem Zin{F:Nat->Bool}{H:Heap}{τ : Nat->V}(t:Nat):∀ {l:List (Nat×V)},Zot F H τ l->Zfa emp l t=.top\/Fz F H (τ t) (Zfa emp l t)
 |[],_=>.inl rfl
 |p::r,h=>by
  simp only[Zfa,upd]
  split
  rename_i e;subst e;exact .inr h.1;exact Zin t h.2
theorem Z6r{F:Nat->Bool}{H:Heap}(o:Nat):∀ {m:List (Nat×AObj)},Z5l F H m->FzO F H o (Zfa Zk m o)
 |[],_=>trivial
 |p::r,h=>by
  simp only[Zfa,upd]
  split
  rename_i e;subst e;exact h.1;exact Z6r o h.2
theorem Zw(F:Nat->Bool){τ : Nat->V}{H:Heap}{l:List (Nat×V)}{m:List (Nat×AObj)}(h:Zot F H τ l)(hm:Z5l F H m):Weak E ⟨τ,H⟩ (Hs.st l m):=
 Zqd F (λt=>Zin t h) (λo=>Z6r o hm)
end
end Go.Hs
