/- A part. No condition. -/
import Derived.Test.YtkennpiglkfalaaGreatDoorP43
set_option linter.all false
open Bool renaming false->ab,true->ad
open Nat renaming beq->bn
open Go.Region renaming ready->av
namespace Go.Hs
section
variable{P:Program}{E:BX}{ops:Array Oper}{kp:FP}
def YU(a:Nat)(o:Oper):Oper:={o with after:=o.after.push ⟨a,.data⟩}
def Gn(ops:Array Oper)(b a:Nat):Array Oper:=ops.modify b (YU a)
def R7(b a i):(Gn ops b a)[i]?=if b=i then(ops[i]?).map (YU a)else ops[i]? := by unfold Gn;grind
def jY(b a):(Gn ops b a).size=ops.size:=by exact Array.size_modify
def pZ(b a τ o):Yc (Gn ops b a) τ o=Yc ops τ o:=by
 unfold Yc;rcases o.guard with _|p;rfl;have⟨j,c⟩:=p;have:((Gn ops b a)[j]?).bind (·.dst)=(ops[j]?).bind (·.dst):=by rw[R7];split;cases ops[j]? <;> rfl;rfl
 grind
def Ny(b a){AX v o K s}:Ow P E kp (Gn ops b a) AX v o K s=Ow P E kp ops AX v o K s:=by unfold Ow;rw[pZ]
def Qf{b a i listed}(h:i∈av .any ops listed)(l:i=b->listed.getD a ab=ad):i∈av .any (Gn ops b a) listed:=by have⟨k,o,d,c⟩:=mem_ready.1 h;refine mem_ready.2 ⟨k,?_⟩;by_cases f:b=i;subst f;refine⟨YU a o,by rw[R7,AF rfl,d];rfl,λe g j=>?_⟩;rcases Array.mem_push.1 g with q|rfl;grind;grind;exact⟨o,by rw[R7,AA f,d],c⟩
def I9{b a i listed}(h:i∈av .any (Gn ops b a) listed):i∈av .any ops listed:=by
 have⟨k,o,d,c⟩:=mem_ready.1 h;rw[R7]at d;by_cases j:b=i
 .rw[AF j]at d;rcases f:ops[i]? with _|o2;grind;rw[f]at d;cases d;exact mem_ready.2 ⟨k,o2,f,λe l g=>c e (Array.mem_push.2 (.inl l)) g⟩
 rw[AA j]at d;exact mem_ready.2 ⟨k,o,d,c⟩
def sB{b:Array Bool}{a i}(h:b.getD a ab=ad):(b.setIfInBounds i ad).getD a ab=ad:=by by_cases c:i=a;exact getD_set_true h;simp_all
def Mo{T Q b a}:∀ n listed s,listed.getD a ab=ad->Nr P E kp (Gn ops b a) T Q n listed s->Nr P E kp ops T Q n listed s
 |0,listed,s,ha,h=>⟨(by rw[OQ];intro i d;have:=Qf (b:=b) d λ_=>ha;rw[h.1]at this;cases this),h.2⟩
 |n+1,listed,s,ha,h=>by
  refine⟨λl=>h.1 ?_,λi d o g=>?_⟩;rw[OQ];intro i d;have:=I9 d;grind;have c:=Qf (b:=b) d λ_=>ha;have e:Ow P E kp ops (T.AX i) (T.vs i) o (Nr P E kp (Gn ops b a) T Q n (listed.setIfInBounds i ad)) s:=by by_cases j:b=i;have:=h.2 i c _ (by rw[R7,AF j,g];rfl);rw[Ny]at this;exact this;have:=h.2 i c o (by rw[R7,AA j,g]);rw[Ny]at this;exact this
  exact V4 (λk f=>Mo n _ k (sB ha) f) e
def zI{AX v o s u u'}(h:Kk P E kp ops AX v o s u)(d:Kk P E kp ops AX v o s u'):u=u':=by
 unfold Kk at h d;rcases k:Yc ops s.τ o with _|b;grind;rw[k]at h d;cases b;grind;have⟨l,j,g,pos,after,e⟩:=o;cases j
 case load t x=>
  unfold KA at h d;cases AX<;>simp only at h d<;>first|grind|grind
 case call c=>
  have⟨a,i,m⟩:=c;cases a
  case value f=>
   simp only at h d;split at h;grind;grind
  all_goals
   grind
 all_goals
  simp only at h d;rw[h]at d;exact EY d
def AAt{AX v o K K' s}(c:Yo AX o=.A)(h:Ow P E kp ops AX v o K s)(e:Ow P E kp ops AX v o K' s):Ow P E kp ops AX v o (λs'=>K s'/\K' s') s:=by unfold Ow at *;rcases f:Yc _ _ o with _|b;grind;rw[f]at h e;cases b;grind;unfold Wm at *;simp only[c]at h e⊢;have⟨d,u,mk,_,_,g,a⟩:=Nx c h.2;grind
def YB(ops:Array Oper)(AX:Nat->Md)(a b:Nat):Bool:=
 !(bn a b)&&(List.range ops.size).all λi=>bn i a||(bn i b||(match ops[i]? with|none=>ad|some o=>(match Yo (AX i) o with|.P|.R|.L|.B|.A=>ad|_=>ab)||o.after.toList.any λe=>Region.binds .any e&&(bn e.on a||bn e.on b)))
def tW{T Q a b}(p:YB ops T.AX a b=ad):∀ n listed s,
  Nr P E kp (Gn ops b a) T Q n listed s->Nr P E kp (Gn ops a b) T Q n listed s->Nr P E kp ops T Q n listed s:=by
 unfold YB at p;rw[BP]at p;have⟨w,m⟩:=p;have w:a≠b:=by intro e;simp_all
 rw[ER]at m;intro n
 induction n with
 |zero=>intro listed s z h2;refine⟨?_,z.2⟩;rw[OQ];intro i k;by_cases l:i=b;have:=Qf (a:=b) k λe=>absurd (e.symm.trans l) w;rw[h2.1]at this;cases this;have:=Qf (a:=a) k λe=>absurd e l;rw[z.1]at this;cases this|succ n ih=>
  intro listed s z h2;by_cases G:listed.getD a ab=ad;exact Mo _ _ _ G z;by_cases F:listed.getD b ab=ad;exact Mo _ _ _ F h2;refine⟨λV=>z.1 ?_,λi k o x=>?_⟩;rw[OQ];intro i k;have:=I9 k;rw[V]at this;cases this;have K:=k;have⟨X,o',D,t⟩:=mem_ready.1 K;rw[x]at D;cases D;have J:i<listed.size\/¬i<listed.size:=zo;have g:=λl=>by have:=z.2 i (Qf k λe=>absurd e l) o (by rw[R7,AA (FS l),x]);rw[Ny]at this;exact this
  have f:=λl=>by have:=h2.2 i (Qf k λe=>absurd e l) o (by rw[R7,AA (FS l),x]);rw[Ny]at this;exact this
  have j:i<listed.size->(listed.setIfInBounds i ad).getD i ab=ad:=λy=>by simp[Array.getD,y]
  have H:i<listed.size:=by rcases J with q|q;exact q;simp[Array.getD,q]at X
  by_cases d:i=a;subst d;exact V4 (λN c=>Mo _ _ _ (j H) c) (g w);by_cases h:i=b;subst h;exact V4 (λN c=>Mo _ _ _ (j H) c) (f d);have r:=m i (DC.2 (by rw[DB]at x;exact x.1));rw[x]at r;have e1:bn i a=ab:=by rw[FV];exact λq=>d (QM q)
  have Y:bn i b=ab:=by rw[FV];exact λq=>h (QM q)
  rw[e1,Y,CH,CH,F_]at r;rcases r with U|O;by_cases M:Yo (T.AX i) o=.A;exact V4 (λN c=>ih _ _ c.1 c.2) (AAt M (g h) (f d));have v:Yo (T.AX i) o=.P\/Yo (T.AX i) o=.R\/Yo (T.AX i) o=.L\/Yo (T.AX i) o=.B:=by cases C:Yo _ o<;>rw[C]at U M<;>simp at U M⊢
  have⟨u,S,k1⟩:=(Pw v).1 (g h);have⟨u',I,k2⟩:=(Pw v).1 (f d);rw[zI I S]at k2;exact(Pw v).2 ⟨u,S,ih _ _ k1 k2⟩;rw[FX]at O;have⟨e,W,C⟩:=O;rw[BP,F_]at C;have y:=t e (zu W) C.1;rcases C.2 with q|q;rw[QM q]at y;exact absurd y G;rw[QM q]at y;exact absurd y F
def Ih{Q T}(b a):∀ l s,Nl P E kp ops T Q l s->Nl P E kp (Gn ops b a) T Q l s
 |[],s,h=>h|i::rest,s,h=>by rw[Nl]at h⊢;rw[R7];rcases f:ops[i]? with _|o;grind;rw[f]at h;by_cases e:b=i;rw[AF e];show Ow P E kp _ _ _ _ _ s;rw[Ny];exact V4 (λd c=>Ih b a rest d c) h;rw[AA e];show Ow P E kp _ _ _ o _ s;rw[Ny];exact V4 (λd c=>Ih b a rest d c) h
inductive WV where
 |IB (l:List Nat)
 |GX (a b:Nat) (x y:WV)
def E8(AX:Nat->Md)(n:Nat):Array Oper->WV->Bool
 |ops,.IB l=>RM ops AX [] l&&((List.range n).all (λj=>l.any (bn j))&&bn l.length n)|ops,.GX a b x y=>YB ops AX a b&&(E8 AX n (Gn ops b a) x&&E8 AX n (Gn ops a b) y)
def Cu(P:Program)(E:BX)(kp:FP)(ops:Array Oper)(Q:AS->Prop)(T:MK)(s:AS):WV->Prop
 |.IB l=>KO P E kp ops Q T l s|.GX _ _ x y=>Cu P E kp ops Q T s x/\Cu P E kp ops Q T s y
@[go_sem] def AEY(Q T s l):Cu P E kp ops Q T s (.IB l)=KO P E kp ops Q T l s:=rfl
@[go_sem] def vZ(Q T s a b x y):Cu P E kp ops Q T s (.GX a b x y)=(Cu P E kp ops Q T s x/\Cu P E kp ops Q T s y):=rfl
def Cl{T Q s}:∀ w ops',ops'.size=ops.size->(∀ l s,Nl P E kp ops T Q l s->Nl P E kp ops' T Q l s)->E8 T.AX ops.size ops' w=ad->Cu P E kp ops Q T s w ->
  Nr P E kp ops' T Q ops.size (Array.replicate ops.size ab) s
 |.IB IB,ops',hsz,hO,c,h=>by
  simp only[E8,BP]at c;have⟨c,i,e⟩:=c;have n:Closed ops' (Array.replicate ops.size ab):=by intro k o _ f;simp only[HA,OO]at f;grind
  have g:=Jz _ [] _ s (λk f=>by grind) (λj m=>.inr (by simp_all)) ⟨by grind,λj m=>by grind⟩ n c (hO _ _ (Dp IB s h))
  simp_all
 |.GX a b x y,ops',hsz,hO,c,h=>by simp only[E8,BP]at c;have⟨d,p,h2⟩:=c;exact tW d _ _ _ (Cl x _ (by rw[jY,hsz]) (λl s q=>Ih b a l s (hO l s q)) p h.1) (Cl y _ (by rw[jY,hsz]) (λl s q=>Ih a b l s (hO l s q)) h2 h.2)
def xY{id Q s}(w kp T)(j:P.follows .mixedOrders=ad)(l:Yy E.G)(k:(ops.all (W4 E.n))=ad)(e:E8 T.AX ops.size ops w=ad)(h:Cu P E kp ops (Q .normal) T s w):AW P E (.region id ops ad) Q s:=by
 intro w0 w' i;refine wpIn_region_any j ?_;have d:Ng E s w0 {w' with drawn:=w'.drawn+1}:=by have⟨X,b⟩:=i;have f:=P' b.go.BJ (w'.drawn+1);refine⟨{X with w:={X.w with drawn:=X.w.drawn+1} },by rw[b.hw],?_,b.df.go b.go.BJ (P' b.go.BJ _),b.sz,λt=>?_,λg=>?_⟩;have:=f;rw[<- b.hw]at this;exact b.on_ this;have:=f.le;rw[<- b.hw]at this;exact(b.tm t).mono this;have:=f;rw[<- b.hw]at this;exact(b.gl g).go b.go.BJ this
 have c:=Cl w _ rfl (λ_ _ q=>q) e h;exact Eu l (λo a w h=>.inr ⟨o,rfl,h⟩) (λs a w m h2=>.inl ⟨s,m,h2⟩) k _ _ s w0 _ d c
