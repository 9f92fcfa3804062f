/- A part. No condition. -/
import Derived.Test.YtkennpiglkfalaaGreatDoorP13
import Derived.OrdersIn
set_option linter.all false
open Bool renaming false->ab,true->ad
open Option renaming some->ae
open List renaming range->aE
namespace Go.Hs
section
variable{P:Program}{E:BX}
def Jc{ops Q R tail}(y:∀ ch a w,Pan E ch a w->R (.panic ch) a w)(x:∀ s a w,Ng E s a w->Q s->wpOpsIn E.rk.F 0 P ops R tail a w)(r:(ops.all (W4 E.n))=ad):∀ l k s a w,Ng E s a w->(∀ j,j<l.length->l[j]?=ops[k+j]?)->Yx P E ops Q l s ->
  wpOpsIn E.rk.F 0 P ops R ((aE l.length).map (k + ·)++tail) a w
 |[],k,s,a,w,hs,_,h=>by exact x s a w hs h
 |o::rest,k,s,a,w,⟨X,hX⟩,hl,h=>by
  have A:ops[k]?=ae o:=by have:=hl 0 zS;simpa using this.symm
  have m:∀ j,j<rest.length->rest[j]?=ops[k+1+j]? := λj C=>by have:=hl (j+1) zG;rw[show k+1+j=k+(j+1) by omega];simpa using this
  have e:∀ (q) d,q∈ops->q.dst=ae d->d<E.n:=by intro q d z c;rw[KF]at r;have:=r q z;unfold W4 at this;rw[c]at this;simpa using this
  have p:o∈ops:=zG;have f:(aE (o::rest).length).map (k + ·)++tail=k::((aE rest.length).map (k+1 + ·)++tail):=by simp only[CW,OY,BI,GN,EL,LG];congr 2;apply FQ;simp;omega
  rw[f];simp only[wpOpsIn,A];simp only[Yx]at h;rcases g:Yc _ _ o with _|b;rw[g]at h;exact h.elim;have B:=Uw hX g e;rw[g]at h;rw[B];cases b;simp only[IP,HD]at h⊢;refine⟨λ_ _=>trivial,?_⟩;refine Jc y x r rest (k+1) _ _ _ ⟨X,?_⟩ m h;have:=hX.step (GF hX.go.BJ) (.tuple #[] [] rfl (λi D h2=>by simp at h2)) (λd c=>e o d p c);rw[hX.hw]at this;exact this;simp only[EN]at h⊢;refine Ol _ (Fa h) (Oper.wp_mono ?_ (Ia hX (λd c=>e o d p c) h y));rintro G w' ⟨v,H,u,t⟩;exact Jc y x r _ _ _ _ _ t m u
def dx{ops Q R s a w o}(m:∀ ch a w,Pan E ch a w->R (.panic ch) a w)(k:(ops.all (W4 E.n))=ad)(b:Nat.ble 1 ops.size=ad)(g:ops[ops.size-1]?=ae o)(i:o.guard=none)(d:∀ c,o.op ≠ .defer c)(f:Ng E s a w)(h:Yx P E ops Q ops.toList.dropLast s)(l:∀ s a w,Ng E s a w->Q s->o.wp P a w (R .normal) R):wpOpsIn E.rk.F 0 P ops R (aE ops.size) a w:=by
 have b:=LK b;have:=Jc (tail:=[ops.size-1]) m (λs a w p h2=>by
  simp only[wpOpsIn,g];have:Region.wanted o (yielded ops a.tmps)=ad:=by simp[Region.wanted,i]
  rw[this];exact Ol _ d (Oper.wp_mono (λ_ _ h=>h) (l s a w p h2))) k _ 0 s a w f (λj q=>by grind) h
 have e:aE ops.size=(aE ops.toList.dropLast.length).map (0 + ·)++[ops.size-1]:=by simp only[List.length_dropLast,IW,EE,List.map_id'];rw[<- HW];grind
 grind
def HandX(P:Program)(E:BX)(ops:Array Oper)(R:Exit->Act->World->Prop)(o:Oper)(s:AS)(K:AS->Prop):Prop:=
 (Yc ops s.τ o=ae ad/\∀ X a,EF E X s a X.w->o.wpIn E.rk.F 0 P a X.w (λb w'=>∃ s2,Ng E s2 b w'/\K s2) R)\/(Yc ops s.τ o=ae ab/\K (s.put o.dst (.tuple [])))
def I4(P:Program)(E:BX)(ops:Array Oper)(R:Exit->Act->World->Prop)(K:AS->Prop):List Nat->Nat->AS->Prop
 |[],k,s=>Yx P E ops K (ops.toList.drop k) s|n::r,k,s=>Yx P E ops (λa=>∃ o,ops[n]?=ae o/\HandX P E ops R o a (I4 P E ops R K r (n+1))) ((ops.toList.drop k).take (n-k)) s
def RP(z:Nat):Nat->List Nat->Bool
 |_,[]=>ad|k,n::r=>Nat.ble k n&&Nat.blt n z&&RP z (n+1) r
def YC{ops K R}(q:∀ ch a w,Pan E ch a w->R (.panic ch) a w)(y:∀ s a w,Ng E s a w->K s->R .normal a w)(f:(ops.all (W4 E.n))=ad):∀ ns k s a w,RP ops.size k ns=ad->Ng E s a w->I4 P E ops R K ns k s->wpOpsIn E.rk.F 0 P ops R ((aE (ops.size-k)).map (k + ·)) a w
 |[],k,s,a,w,_,hs,h=>by have:=Jd q y f _ k s a w hs (λj=>by grind) h;rwa [EJ,IW]at this
 |n::r,k,s,a,w,hb,hs,h=>by
  simp only[RP,BP,IR]at hb;obtain⟨⟨z,h2⟩,A⟩:=hb;have z:=LK z;have t:=Jc (tail:=n::(aE _).map _) q
   (λQ M O m D=>by
    obtain⟨o,v,l⟩:=D;obtain⟨X,g⟩:=m;have C:=g.hw;subst C;simp only[wpOpsIn,v];have b:∀ (p) d,p∈ops->p.dst=ae d->d<E.n:=by intro p d G c;rw[KF]at f;have:=f p G;unfold W4 at this;rw[c]at this;simpa using this
    rcases l with ⟨e,l⟩|⟨e,l⟩;rw[Uw g e b];refine Oper.wpIn_mono ?_ (l X M g);rintro N w' ⟨B,u,I⟩;exact YC q y f r _ B N w' A u I;rw[Uw g e b];refine⟨λ_ _=>trivial,YC q y f r _ _ _ _ A ⟨X,?_⟩ l⟩;have x:o∈ops:=by rw[DB]at v;obtain⟨H,rfl⟩:=v;exact MB _
    exact g.step (GF g.go.BJ) (.tuple #[] [] rfl (λi z h2=>by simp at h2)) (λd c=>b o d x c))
   f ((ops.toList.drop k).take (n-k)) k s a w hs (λj J=>by rw[CZ]at J;rw[QH zo,QG,PU]) h
  have L:(aE (ops.size-k)).map (k + ·)=(aE ((ops.toList.drop k).take (n-k)).length).map (k + ·)++n::(aE (ops.size-(n+1))).map (n+1 + ·):=by rw[CZ,EJ,IW,MJ zo];rw[show ops.size-k=(n-k)+((ops.size-(n+1))+1) by omega,WH,OY];simp only[DL,BI,EL,GN];congr 2;omega;apply FQ;intro j _;simp only[Function.comp];omega
  rw[L];exact t
def N8{ops K K'}(c:∀ s,K s->K' s):∀ {l} {s},Yx P E ops K l s->Yx P E ops K' l s
 |[],s,h=>c s h|o::r,s,h=>by simp only[Yx]at h⊢;rcases a:Yc _ _ o with _|b;grind;rw[a]at h;cases b;exact N8 c h;exact Wa (λ_ _ h=>N8 c h) h
def Vm{id ops Q s}(ns)(c:(ops.all (W4 E.n))=ad)(d:RP ops.size 0 ns=ad)(h:I4 P E ops (Post E Q) (Q .normal) ns 0 s):AW P E (.region id ops ab) Q s:=by intro a w b;refine wpIn_region ?_;have:=YC (λf a w h=>.inr ⟨f,rfl,h⟩) (λs a w e h2=>.inl ⟨s,e,h2⟩) c ns 0 s a w d b h;simp_all
def yn{id ops Q s}(n){o}(d:(ops.all (W4 E.n))=ad)(b:ops[n]?=ae o)(c:o.guard=none)(h:Yx P E ops (λs1=>∀ X a,EF E X s1 a X.w->o.wpIn E.rk.F 0 P a X.w (λa' w'=>∃ s2,Ng E s2 a' w'/\Yx P E ops (Q .normal) (ops.toList.drop (n+1)) s2) (Post E Q)) (ops.toList.take n) s):AW P E (.region id ops ab) Q s:=by have f:n<ops.size:=zG;refine Vm [n] d (by simp only[RP,IX,BP,IR];simp_all) ?_;show Yx P E _ _ _ s;refine N8 (λs1 e=>⟨o,b,.inl ⟨by simp[Yc,c],e⟩⟩) h
def GivesE(P:Program)(E:BX)(o:Oper)(s:AS)(v:V)(H':A'):Prop:=
 ∀ X a w,EF E X s a w->∃ c Y,(execOp a.eval o).run P X.w=.ok (.value c) Y.w/\BH X s.H Y H'/\AI Y c v
def GivesE.hand{ops:Array Oper}{R o s v H'}{K:AS->Prop}{X a}(h:GivesE P E o s v H')(e:∀ c,o.op ≠ .defer c)(j:(ops.all (W4 E.n))=ad){n:Nat}(p:ops[n]?=ae o)(k:EF E X s a X.w)(m:K (AS.put {s with H:=H'} o.dst v)):o.wpIn E.rk.F 0 P a X.w (λa' w'=>∃ s2,Ng E s2 a' w'/\K s2) R:=by refine Ol _ e ?_;obtain⟨c,Y,b,g,l⟩:=h X a _ k;unfold Oper.wp;rw[b];refine⟨_,⟨Y,k.step g l λd i=>?_⟩,m⟩;have f:o∈ops:=zG;rw[KF]at j;have:=j o f;unfold W4 at this;grind
def jW{id ops Q s}(n){o}(d:(ops.all (W4 E.n))=ad)(b:ops[n]?=ae o)(e:o.guard=none)(h:Yx P E ops (λs1=>∃ v H',GivesE P E o s1 v H'/\Yx P E ops (Q .normal) (ops.toList.drop (n+1)) (AS.put {s1 with H:=H'} o.dst v)) (ops.toList.take n) s)(a:∀ c,o.op ≠ .defer c:=by exact λ_ h=>nomatch h):AW P E (.region id ops ab) Q s:=
 yn n d b e (N8 (λ_ ⟨_,_,g,h2⟩ _ _ f=>g.hand a d b f h2) h)
def Gives(P:Program)(E:BX)(o:Oper)(s:AS)(v:V):Prop:=∀ X a w,EF E X s a w->∃ c,(execOp a.eval o).run P X.w=.ok (.value c) X.w/\AI X c v
def Gives.e{o s v}(h:Gives P E o s v):GivesE P E o s v s.H:=λX a w b=>let ⟨c,h1,h2⟩:=h X a w b;⟨c,X,h1,GF b.go.BJ,h2⟩
def Pq{id ops Q s}(n){o}(f:(ops.all (W4 E.n))=ad)(b:ops[n]?=ae o)(d:o.guard=none)(h:Yx P E ops (λs1=>∃ v,Gives P E o s1 v/\Yx P E ops (Q .normal) (ops.toList.drop (n+1)) (AS.put s1 o.dst v)) (ops.toList.take n) s)(a:∀ c,o.op ≠ .defer c:=by exact λ_ h=>nomatch h):AW P E (.region id ops ab) Q s:=
 jW n f b d (N8 (λs1 ⟨v,g,h2⟩=>⟨v,s1.H,g.e,h2⟩) h) a
