/- A part. No condition. -/
import Derived.Test.YtkennpiglkfalaaGreatDoorP36
import Derived.Test.YtkennpiglkfalaaGreatDoorP37
import Derived.Test.YtkennpiglkfalaaGreatDoorP38
set_option linter.all false
open List renaming length->aa
open Bool renaming false->ab,true->ad
open Option renaming some->ae,none->ah
open Go.Proofs.Tryz
open List renaming range->aE
section
namespace Go.Hs
section
namespace PM
variable{m:PM}{bd:List bS->List bS->bS->Bool}{gd:List bS->bS->Int}
def Bq(rule a):∀ n,a<n->∃ t,m.badAt bd gd rule n=m.badAt bd gd rule a++(if m.keep bd gd rule (a:Int)=ad then[]else[(rule,(a:Int))])++t/\∀ x∈t,x.1=rule/\(a:Int)<x.2
 |0,h=>absurd h (FH _)|n+1,h=>by rcases GG a n with q|q;have⟨t,e,c⟩:=Bq rule a n q;rw[badAt_succ,e];grind;obtain rfl:a=n:=zo;exact⟨[],by rw[badAt_succ,DW],λx b=>by grind⟩
def fB(r):∀ k,r<=k->∃ t,m.badL bd gd k=m.badL bd gd r++t/\∀ x∈t,r<x.1
 |0,h=>by simp_all
 |k+1,h=>by rcases GG r (k+1)with q|q;have⟨t,e,b⟩:=fB r k (by omega);rw[badL_succ,e];refine⟨_,DH _ _ _,λx a=>?_⟩;rcases DX.1 a with a|a;grind;obtain⟨i,_,rfl⟩:=CY.1 a;exact q;obtain rfl:r=k+1:=zo;simp_all
def ahead(m:PM)(bd:List bS->List bS->bS->Bool)(gd:List bS->bS->Int)(rule a:Nat):Nat:=aa (m.badL bd gd (rule-1))+aa (m.badAt bd gd rule a)
def AAK{rule a}(g:1<=rule)(h2:rule<=15)(ha:a<m.places rule):(m.keep bd gd rule (a:Int)=ab/\(m.badL bd gd 15)[m.ahead bd gd rule a]?=ae (rule,(a:Int)))\/(m.keep bd gd rule (a:Int)=ad/\(m.badL bd gd 15)[m.ahead bd gd rule a]?≠ae (rule,(a:Int))):=by obtain⟨r,rfl⟩:∃ r,rule=r+1:=⟨rule-1,by omega⟩;have⟨t,e,c⟩:=fB (m:=m) (bd:=bd) (gd:=gd) _ 15 h2;have⟨u,f,b⟩:=Bq (m:=m) (bd:=bd) (gd:=gd) (r+1) a _ ha;rw[badL_succ r,f]at e;rw[e,ahead,TM];cases d:m.keep bd gd _ (a:Int);grind;refine .inr ⟨rfl,λh=>?_⟩;rw[AF rfl,DW,DH,DH,JS (cT _ _),JS (by omega)]at h;have:=DY h;grind
end PM
structure BB where
 BN:iS
 first:Int
 DU:iS
 DE:iS
 AT:List (Int×iS)
namespace PM
variable(m:PM)
def outI(v:Int):iS:=m.wysI v ab (aa m.AE)
def intoI(v:Int):iS:=m.wysI v ad (aa m.AE)
def tg(t:Int):Int:=(m.wy t).target
def sc(t:Int):Int:=(m.wy t).AV
def oneP(v:Int):Bool:=(m.kd v==5||m.kd v==11)||(m.kd v==10&&aa (m.outI v)==1)
def allP(v:Int):Bool:=m.kd v==6||(m.kd v==10&&decide (1<aa (m.outI v)))
def walkF:Nat->Int->iS->List (iS×Int)
 |0,v,AP=>[(AP,v)]|f+1,v,AP=>if m.oneP v=ad then(m.outI v).flatMap λt=>if AP.contains t=ad then[(AP++[t],-1)]else walkF f (m.tg t) (AP++[t])else[(AP,v)]
def walkL(v:Int)(AP:iS):List (iS×Int):=m.walkF (aa m.AE+1-aa AP) v AP
def waysL(t:Int):List (iS×Int):=m.walkL (m.tg t) [t]
def forkF:iS->List (Int×iS)->List (List (Int×iS))
 |[],AT=>[AT]|o::r,AT=>(m.waysL o).flatMap λw=>forkF r (AT++[(w.2,w.1)])
def strW(BN:iS)(first:Int)(DN:iS)(w:iS×Int):List BB:=
 if w.2 ≠ -1/\m.allP w.2=ad then(m.forkF (m.outI w.2) []).map λAT=>⟨BN,first,w.1++AT.flatMap (·.2),DN++w.1,AT⟩
 else[⟨BN,first,w.1,DN++w.1,[(w.2,[])]⟩]
def strL(BN DN:iS)(by_:Int):List BB:=(m.waysL by_).flatMap (m.strW BN (DN.headD by_) DN)
def beginL(t:Int):List BB:=
 if m.kd (m.tg t)=7 then(if(m.intoI (m.tg t)).headD (-1)=t then m.strL ((m.intoI (m.tg t)).map m.sc) (m.intoI (m.tg t)) ((m.outI (m.tg t)).headD 0)else[])
 else if m.kd (m.sc t)=1\/m.kd (m.sc t)=3\/m.kd (m.sc t)=4\/m.kd (m.sc t)=8\/m.kd (m.sc t)=9 then m.strL [m.sc t] [] t else[]
def allL:List BB:=(aE (aa m.AE)).flatMap fun(t:Nat)=>m.beginL t
end PM
structure DI where
 AP:iS
 BD:Int
 EC:Bool
namespace PM
variable(m:PM)
def IG(w:DI):iS×Int:=(w.AP,if w.EC then -1 else w.BD)
def exF:Nat->Int->iS->List DI
 |0,v,AP=>[⟨AP,v,ab⟩]|f+1,v,AP=>if m.oneP v=ad then(m.outI v).flatMap λt=>if AP.contains t=ad then[⟨AP++[t],m.tg t,ad⟩]else exF f (m.tg t) (AP++[t])else[⟨AP,v,ab⟩]
def exW(w:DI):List DI:=if w.EC=ad then[w]else m.exF (aa m.AE+1-aa w.AP) w.BD w.AP
def doneW(w:DI):Bool:=w.EC || !m.oneP w.BD
def moreW(w:DI):List DI:=(m.outI w.BD).map λt=>⟨w.AP++[t],m.tg t,w.AP.contains t⟩
def cntF:Nat->Int->iS->Nat
 |0,_,_=>1|f+1,v,AP=>if m.oneP v=ad then 1+((m.outI v).map λt=>if AP.contains t=ad then 1 else cntF f (m.tg t) (AP++[t])).sum else 1
def cntW(w:DI):Nat:=if w.EC=ad then 1 else m.cntF (aa m.AE+1-aa w.AP) w.BD w.AP
structure IU(w:DI):Prop where
 DA:∀ t∈w.AP,0<=t/\t<aa m.AE
 BD:0<=w.BD/\w.BD<aa m.AN
 nd:w.EC=ab->w.AP.Nodup
 le:aa w.AP<=aa m.AE+1
variable{m}
def YR:∀ f v AP,(m.exF f v AP).map IG=m.walkF f v AP
 |0,v,AP=>rfl|f+1,v,AP=>by rw[exF,walkF];split;rw[cO];congr 1;funext t;split;rfl;exact YR f _ _;rfl
def dw{n}:∀ {l:List Nat},l.Nodup->l.length<=(l.filter (· != n)).length+1
 |[],_=>CB _|a::t,h=>by
  rw[List.nodup_cons]at h;by_cases e:a=n;subst e;have:t.filter (· != a)=t:=List.filter_eq_self.2 λx b=>by grind
  grind;have:=dw (n:=n) h.2;grind
def c_:∀ n (l:List Nat),l.Nodup->(∀ x∈l,x<n)->aa l<=n
 |0,l,_,h=>by rcases l with _|⟨a,t⟩;grind;exact absurd (h a (by simp)) (FH _)
 |n+1,l,hd,h=>by
  have c:=c_ n (l.filter (· != n)) (hd.filter _) λx b=>by grind
  have:=dw (n:=n) hd;omega
def nodup_len{n:Nat}{l:iS}(h:l.Nodup)(f:∀ t∈l,0<=t/\t<n):aa l<=n:=by
 have h2:(l.map Int.toNat).Nodup:=by
  rw[lf]at h⊢;rw[cQ];refine h.imp_of_mem fun{a b} i g c e=>c ?_
  grind
 have:=c_ n _ h2 λx d=>by grind
 grind
def IU.len{w}(h:m.IU w)(a:w.EC=ab):w.AP.length<=m.AE.length:=nodup_len (h.nd a) h.DA
def p6{w}(d:m.doneW w=ad):m.exW w=[w]:=by
 have⟨p,a,b⟩:=w;cases b;have c:m.oneP a=ab:=by cases q:m.oneP a;rfl;have:(ab || !m.oneP a)=ad:=d;grind
 show m.exF _ a p=_;rcases aa m.AE+1-aa p with _|f;rfl;rw[exF,AA zG];rfl
def wa(t p n)(h:m.AE.length+1-(p.length+1)=n):m.exW ⟨p++[t],m.tg t,p.contains t⟩=if p.contains t=ad then[⟨p++[t],m.tg t,ad⟩]else m.exF n (m.tg t) (p++[t]):=by cases q:p.contains t;show m.exF _ _ _=m.exF n _ _;grind;rfl
def f_{p a b}(c:m.doneW ⟨p,a,b⟩=ab):b=ab/\m.oneP a=ad:=by have:(b || !m.oneP a)=ab:=c;grind
def pa{w}(h:m.IU w)(c:m.doneW w=ab):m.exW w=(m.moreW w).flatMap m.exW:=by have⟨p,a,d⟩:=w;obtain⟨rfl,b⟩:=f_ c;have e:aa p<=aa m.AE:=h.len rfl;show m.exF _ a p=((m.outI a).map _).flatMap _;rw[show aa m.AE+1-aa p=(aa m.AE-aa p)+1 by omega,exF,AF b,WD];congr 1;funext t;exact(wa t p _ (by omega)).symm
def tM(w):1<=m.cntW w:=by
 rw[cntW];split;grind
 .rcases aa m.AE+1-aa w.AP with _|f;exact BO _;rw[cntF];grind
def td(t p n)(h:m.AE.length+1-(p.length+1)=n):m.cntW ⟨p++[t],m.tg t,p.contains t⟩=if p.contains t=ad then 1 else m.cntF n (m.tg t) (p++[t]):=by cases q:p.contains t;show m.cntF _ _ _=m.cntF n _ _;grind;rfl
def oX{w}(h:m.IU w)(c:m.doneW w=ab):m.cntW w=1+((m.moreW w).map m.cntW).sum:=by have⟨p,a,d⟩:=w;obtain⟨rfl,b⟩:=f_ c;have e:aa p<=aa m.AE:=h.len rfl;show m.cntF _ a p=1+(((m.outI a).map _).map _).sum;rw[show aa m.AE+1-aa p=(aa m.AE-aa p)+1 by omega,cntF,AF b,EL];congr 2;refine FQ λt _=>?_;exact(td t p _ (by omega)).symm
def IU.more{w}(i:∀ t:Int,0<=t->t<m.AE.length->0<=m.tg t/\m.tg t<m.AN.length)(h:m.IU w)(e:m.doneW w=ab):∀ u∈m.moreW w,m.IU u:=by intro u f;obtain⟨t,g,rfl⟩:=CY.1 f;have c:=wysI_rng g;simp only[doneW,PY]at e;refine⟨λx d=>?_,i t c.1 c.2,λq=>?_,by rw[BQ];exact QO (nodup_len (h.nd e.1) h.DA)⟩;rcases DX.1 d with d|d;exact h.DA x d;grind;rw[WG];refine⟨h.nd e.1,by simp,λa k b j=>?_⟩;grind
structure ES(m:PM)(full l:List DI)(i:Nat):Prop where
 all:l.flatMap m.exW=full
 ok:∀ w∈l,m.IU w
 dn:∀ w∈l.take i,m.doneW w=ad
 le:i<=aa l
def ES.GK(m:PM)(l:List DI)(i:Nat):Nat:=((l.drop i).map m.cntW).sum
def ES.CK{a l}(h:ES m a l l.length):l=a:=by
 have b:=h.dn;rw[B_]at b;rw[<- h.all];clear h
 induction l with|nil=>rfl|cons w t ih=>rw[FY,p6 (b w (by simp)),<- ih λu c=>b u zG];rfl
def drop_at{α:Type}{l:List α}{i w}(h:l[i]?=ae w):l.drop i=w::l.drop (i+1):=by obtain⟨a,rfl⟩:=DG.1 h;simp_all
def take_at{α:Type}{l:List α}{i w}(h:l[i]?=ae w):l.take (i+1)=l.take i++[w]:=by obtain⟨a,rfl⟩:=DG.1 h;simp_all
def ES.next{a l i w}(h:ES m a l i)(c:l[i]?=ae w)(d:m.doneW w=ad):ES m a l (i+1)/\ES.GK m l (i+1)<ES.GK m l i:=by refine⟨⟨h.all,h.ok,λu b=>?_,(DG.1 c).1⟩,?_⟩;rw[take_at c]at b;rcases DX.1 b with b|b;exact h.dn u b;grind;unfold GK;rw[drop_at c,BI,List.sum_cons];have:=tM (m:=m) w;omega
def ES.more{b l i w}(f:∀ t:Int,0<=t->t<m.AE.length->0<=m.tg t/\m.tg t<m.AN.length)(h:ES m b l i)(d:l[i]?=ae w)(e:m.doneW w=ab):ES m b (l.take i++m.moreW w++l.drop (i+1)) i/\ES.GK m (l.take i++m.moreW w++l.drop (i+1)) i<ES.GK m l i:=by
 have c:=h.ok w (DY d);have g:=(DG.1 d).1;have j:aa (l.take i)=i:=zG;refine⟨⟨?_,λu a=>?_,λu a=>?_,?_⟩,?_⟩;rw[<- h.all,HU,HU,<- pa c e]
 conv=>rhs;rw[<- HX i l,drop_at d,HU,FY]
 grind;rcases DX.1 a with a|a;rcases DX.1 a with a|a;exact h.ok u (OX a);exact c.more f e u a;exact h.ok u (OW a);rw[DH,NR (by omega),HY (by omega)]at a;exact h.dn u a;rw[DH,BQ];omega;unfold GK;rw[DH,b9 (by omega),QC (by omega),QK,DL,List.sum_append];rw[drop_at d,BI,List.sum_cons,oX c e];omega
def OutsOk(m:PM):Prop:=∀ v:Int,0<=v->v<aa m.AN->m.oneP v=ad->m.outI v≠[]
def UR(c:∀ t:Int,0<=t->t<aa m.AE->0<=m.tg t/\m.tg t<aa m.AN)(d:m.OutsOk):∀ f (v:Int) AP,0<=v->v<aa m.AN->m.exF f v AP≠[]
 |0,_,_,_,_=>by rw[exF];simp|f+1,v,AP,h0,h1=>by
  rw[exF];split
  .rename_i q;have g:=d v h0 h1 q;rcases e:m.outI v with _|⟨t,r⟩;grind;have a:=wysI_rng (by show t∈m.outI v;rw[e];simp);have b:=c t a.1 a.2;rw[FY];intro h;have:=(OP.1 h).1;split at this;grind;exact UR c d f _ _ b.1 b.2 this
  simp
def ES.len{a l i}(c:∀ t:Int,0<=t->t<m.AE.length->0<=m.tg t/\m.tg t<m.AN.length)(d:m.OutsOk)(h:ES m a l i):l.length<=a.length:=by
 have b:=h.ok;rw[<- h.all];clear h
 induction l with
 |nil=>grind|cons w t ih=>
  rw[FY,BQ,CW];have f:=ih λu e=>b u zG;have h2:m.exW w≠[]:=by rw[exW];split;simp;have:=(b w (by simp)).BD;exact UR c d _ _ _ this.1 this.2
  have:=JH.2 h2;omega
end PM
namespace PM
variable{m:PM}
def BW.ups_tr(a:m.BW){u s w:Int}(h:m.around u=s)(i:0<=s)(w0:0<=w)(b:w<aa m.AN)(e:u∈w::m.ups w):s∈m.ups w:=by refine a.ind (P:=λw=>u∈w::m.ups w->s∈m.ups w) ?_ ?_ w0 b e;intro w _ _ q c;rw[KZ q]at c;grind;intro w w0 b d f g c;rw[a.ups_cons w0 b d]at c⊢;grind
def BW.chain(a:m.BW){v:Int}(d:0<=v)(c:v<m.AN.length){u}(b:u∈v::m.ups v):0<=u/\u<m.AN.length:=by rcases BY.1 b with rfl|b;grind;have:=a.ups_rng d c u b;grind
def BW.ups_sub(a:m.BW){v s u:Int}(h:0<=v)(g:v<aa m.AN)(b:s∈v::m.ups v)(c:u∈s::m.ups s):u∈v::m.ups v:=by rcases BY.1 c with rfl|c;grind;refine a.ind (P:=λv=>s∈v::m.ups v->u∈v::m.ups v) ?_ ?_ h g b;intro v _ _ q b;rw[KZ q]at b;grind;intro v e d f i j b;rcases BY.1 b with rfl|b;grind;rw[a.ups_cons e d f]at b⊢;grind
def BW.regU_in(a:m.BW){v s}(h:0<=m.regU v s):∃ u∈v::m.ups v,m.around u=s/\m.regU v s=(m.vx u).region:=by unfold regU at h⊢;grind
def BW.regU_mem(a:m.BW){v s:Int}(f:0<=v)(e:v<aa m.AN)(c:0<=s)(h:0<=m.regU v s):s∈m.ups v:=by have⟨u,b,d,_⟩:=a.regU_in h;exact a.ups_tr d c f e b
def BW.mem_around(a:m.BW){v s:Int}(f:0<=v)(e:v<aa m.AN)(h:s∈m.ups v):∃ u∈v::m.ups v,m.around u=s:=by refine a.ind (P:=λv=>s∈m.ups v->∃ u∈v::m.ups v,m.around u=s) ?_ ?_ f e h;intro v _ _ q h;rw[KZ q]at h;cases h;intro v c b d g i h;rw[a.ups_cons c b d]at h⊢;grind
def BW.regU_far(a:m.BW){v s t:Int}(f:0<=v)(d:v<aa m.AN)(i:s∈v::m.ups v)(h:t∈m.ups s):m.regU v t=m.regU s t:=by have b:=a.chain f d i;have⟨u,g,e⟩:=a.mem_around b.1 b.2 h;have c:=(a.ups_rng b.1 b.2 t h).1;rw[a.regU_of b.1 b.2 c g e,a.regU_of f d c (a.ups_sub f d i g) e]
def bothB(m:PM)(a b s:Int):Bool:=decide (0<=m.regU a s)&&decide (0<=m.regU b s)
def orthoB(m:PM)(a b:Int):Bool:=(m.ups a).any λs=>m.bothB a b s&&(m.regU a s != m.regU b s)
def orthoF(m:PM)(a b:Int):iS->Bool
 |[]=>ab|s::r=>if m.bothB a b s=ad then m.regU a s != m.regU b s else orthoF m a b r
def BW.ortho_first(k:m.BW){a b:Int}(j:0<=a)(i:a<aa m.AN)(b0:0<=b)(n:b<aa m.AN):m.orthoF a b (m.ups a)=m.orthoB a b:=by
 have h:∀ s,s∈a::m.ups a->s∈b::m.ups b->(m.ups s).any (λs=>m.bothB a b s&&(m.regU a s != m.regU b s))=ab:=by intro s u r;rw[JF];intro t l;rw[k.regU_far j i u l,k.regU_far b0 n r l];simp
 have g:∀ v:Int,0<=v->v<aa m.AN->v∈a::m.ups a->m.orthoF a b (m.ups v)=(m.ups v).any λs=>m.bothB a b s&&(m.regU a s != m.regU b s):=by
  intro v e d;refine k.ind (P:=λv=>v∈a::m.ups a->m.orthoF a b _=(m.ups v).any _) ?_ ?_ e d;intro v _ _ q _;rw[KZ q];rfl;intro v e d f x y o;have p:m.around v∈a::m.ups a:=FR _ (k.ups_tr rfl f j i o);rw[k.ups_cons e d f,orthoF,HR];by_cases c:m.bothB a b (m.around v)=ad;rw[AF c,c,DJ];have w:0<=m.regU b (m.around v):=by unfold bothB at c;grind
  rw[h _ p (FR _ (k.regU_mem b0 n f w)),DZ];grind
 exact g a j i (GA ..)
def BW.within_reg(k:m.BW){v r:Int}(f:0<=v)(d:v<aa m.AN)(j:0<=r)(i:0<=m.ow r):m.withinB v r=ad↔m.regU v (m.ow r)=r:=by
 have pt:∀ u∈v::m.ups v,0<=(m.vx u).region->(m.vx u).of<0:=λu b q=>by have a:=k.chain f d b;rcases TE (m.vx u).of 0 with c|c;grind;have:=k.pt u a.1 a.2 c;omega
 rw[withinB,FX];constructor;rintro⟨u,b,e⟩;have e:(m.vx u).region=r:=zG;have g:=pt u b (by omega);rw[k.regU_of f d i b (by rw[around,AA (by omega),e]),e];intro h;have⟨u,b,_,e⟩:=k.regU_in (v:=v) (s:=m.ow r) (by omega);grind
def BW.ortho_eq(k:m.BW){a b:Int}(f:0<=a)(e:a<aa m.AN)(b0:0<=b)(l:b<aa m.AN):m.orthoB a b=ad↔∃ r q:Int,(0<=r/\r<aa m.AU)/\(0<=q/\q<aa m.AU)/\r≠q/\0<=m.ow r/\m.ow r=m.ow q/\m.withinB a r=ad/\m.withinB b q=ad:=by
 rw[orthoB,FX];constructor;rintro⟨s,C,h⟩;have B:=(k.ups_rng f e s C).1;simp only[bothB,BP,CM,JJ]at h;have⟨⟨j,h2⟩,F⟩:=h;have d:∀ v:Int,0<=v->v<aa m.AN->0<=m.regU v s->m.regU v s<aa m.AU/\m.ow (m.regU v s)=s:=by
  intro v x w h;have⟨u,A,o,K⟩:=k.regU_in h;have c:=k.chain x w A;have i:(m.vx u).of<0:=by rcases TE _ 0 with g|g;exact g;have:=k.pt u c.1 c.2 g;omega
  have:=k.rg u c.1 c.2 i;rw[around,AA (by omega)]at o;rw[K];exact⟨this.2,o⟩
 have⟨J,I⟩:=d a f e j;have⟨H,G⟩:=d b b0 l h2;refine⟨m.regU a s,m.regU b s,⟨j,J⟩,⟨h2,H⟩,F,by omega,by omega,?_,?_⟩;rw[k.within_reg f e j (by omega),I];rw[k.within_reg b0 l h2 (by omega),G];rintro⟨r,q,⟨y,_⟩,⟨z,_⟩,D,n,E,t,p⟩;rw[k.within_reg f e y n]at t;rw[k.within_reg b0 l z (by omega),<- E]at p;refine⟨m.ow r,k.regU_mem f e n (by omega),?_⟩;simp only[bothB,BP,CM,JJ];exact⟨⟨by omega,by omega⟩,by omega⟩
end PM
structure JW where
 BN:iS
 first:Int
 DU:iS
 DE:iS
 AT:List (Int×iS)
 EC:Bool
def BB.lost(s:BB):Bool:=s.AT.any λe=>e.1 == -1
def BB.r(s:BB):JW:=⟨s.BN,s.first,s.DU,s.DE,if s.lost=ad then[]else s.AT,s.lost⟩
namespace PM
variable(m:PM)
def exL(t:Int):List DI:=m.exF (aa m.AE) (m.tg t) [t]
def fanF:iS->List DI->List (List DI)
 |[],row=>[row]|o::r,row=>(m.exL o).flatMap λw=>fanF r (row++[w])
def rowEnds(row:List DI):List (Int×iS):=if row.any (·.EC)=ad then[]else row.map λw=>(w.BD,w.AP)
def finR(BN:iS)(first:Int)(DN:iS)(w:DI):List JW:=
 if w.EC=ad then[⟨BN,first,w.AP,DN++w.AP,[],ad⟩]
 else if m.allP w.BD=ad then(m.fanF (m.outI w.BD) []).map λrow=>⟨BN,first,w.AP++row.flatMap (·.AP),DN++w.AP,rowEnds row,row.any (·.EC)⟩
 else[⟨BN,first,w.AP,DN++w.AP,[(w.BD,[])],ab⟩]
variable{m}
def fA(t):(m.exL t).map IG=m.waysL t:=by rw[exL,YR,waysL];rfl
def YP:∀ os row,(m.fanF os row).map (λr=>r.map λw=>((IG w).2,(IG w).1))=m.forkF os (row.map λw=>((IG w).2,(IG w).1))
 |[],row=>rfl|o::r,row=>by rw[fanF,forkF,cO,<- fA,WD];congr 1;funext w;rw[YP r _,DL];rfl
def YW(c:∀ t:Int,0<=t->t<aa m.AE->0<=m.tg t/\m.tg t<aa m.AN):∀ f (v:Int) AP,0<=v->v<aa m.AN->∀ w∈m.exF f v AP,0<=w.BD/\w.BD<aa m.AN
 |0,v,AP,h0,h1,w,a=>by rw[CP.1 a];grind
 |f+1,v,AP,h0,h1,w,a=>by rw[exF]at a;split at a;have⟨t,d,a⟩:=KK.1 a;have b:=wysI_rng d;have:=c t b.1 b.2;split at a;grind;exact YW c f _ _ this.1 this.2 w a;grind
def dJ(c:∀ t:Int,0<=t->t<aa m.AE->0<=m.tg t/\m.tg t<aa m.AN):∀ (os:iS) row,(∀ o∈os,0<=o/\o<aa m.AE)->(∀ w∈row,0<=w.BD)->∀ r∈m.fanF os row,∀ w∈r,0<=w.BD
 |[],row,_,h,r,a,w,hw=>by rw[CP.1 a]at hw;exact h w hw
 |o::os,row,ho,h,r,a,w,hw=>by have⟨x,e,a⟩:=KK.1 a;have d:=ho o (by simp);have h2:=c o d.1 d.2;refine dJ c os _ (λq f=>ho q zG) (λu b=>?_) r a w hw;rcases DX.1 b with b|b;grind;rw[CP.1 b];exact(YW c _ _ _ h2.1 h2.2 x e).1
def fN:∀ (row:List DI),(∀ w∈row,0<=w.BD)->(row.map λw=>((IG w).2,(IG w).1)).any (λe=>e.1 == -1)=row.any (·.EC)
 |[],_=>rfl|w::r,h=>by rw[BI,HR,HR,fN r λu a=>h u zG];have:=h w (by simp);simp only[IG];grind
def ie:∀ (row:List DI),row.any (·.EC)=ab->(row.map λw=>((IG w).2,(IG w).1))=row.map λw=>(w.BD,w.AP)
 |[],_=>rfl|w::r,h=>by rw[HR,PY]at h;rw[BI,BI,ie r h.2];simp only[IG,h.1,IP,HD]
def jL:∀ (row:List DI),(row.map λw=>((IG w).2,(IG w).1)).flatMap (·.2)=row.flatMap (·.AP)
 |[]=>rfl|w::r=>by rw[BI,FY,jL r];rfl
def uh(k:∀ t:Int,0<=t->t<m.AE.length->0<=m.tg t/\m.tg t<m.AN.length)(b first c){w}(i:0<=w.BD):m.finR b first c w=(m.strW b first c (IG w)).map BB.r:=by
 have⟨p,a,j⟩:=w;cases j;have i:0<=a:=i;have n:a ≠ -1:=zo;rw[finR,AA (by simp),strW];by_cases q:m.allP a=ad;rw[AF q,AF ⟨n,q⟩,EL];have e:=YP (m:=m) (m.outI a) [];rw[BV]at e;show _=List.map _ (m.forkF (m.outI a) []);rw[<- e,EL];refine FQ λrow d=>?_;have f:=dJ k _ [] (λo l=>wysI_rng l) (λw s=>by grind) _ d;simp only[Function.comp,BB.r,BB.lost,fN _ f,jL,rowEnds];congr 1;split;rfl;rename_i g;rw[SZ]at g;exact(ie _ g).symm;rw[AA q,AA (λh=>q h.2)];show _=[BB.r ⟨b,first,p,c++p,[(a,[])]⟩];have:BB.lost ⟨b,first,p,c++p,[(a,[])]⟩=ab:=by simp[BB.lost];omega
 rw[BB.r,this];rfl;rfl
end PM
def BB.BD(s:BB):iS:=if s.lost=ad then[]else s.AT.map (·.1)
def Qw(q es:iS):iS:=es.foldl (λq e=>if q.contains e=ad then q else q++[e]) q
namespace PM
variable(m:PM)
def nextQ(L:List BB)(q:iS)(v:Int):iS:=if m.kd v=4 then(L.filter λs=>s.BN.contains v).foldl (λq s=>Qw q s.BD) q else q
def bfsF(L:List BB):Nat->iS->Nat->iS
 |0,q,_=>q|f+1,q,i=>match q[i]? with|none=>q|some v=>bfsF L f (m.nextQ L q v) (i+1)
def reachQ(L:List BB)(s:BB):iS:=m.bfsF L (aa m.AN+1) (Qw [] s.BD) 0
def reachL(L:List BB)(s:BB):iS:=((aE (aa m.AN)).filter fun(v:Nat)=>(m.reachQ L s).contains (v:Int)).map fun(v:Nat)=>(v:Int)
end PM
def ee(q):Qw q []=q:=rfl
def Mp(q e es):Qw q (e::es)=Qw (if q.contains e=ad then q else q++[e]) es:=rfl
def oK(q a b):Qw q (a++b)=Qw (Qw q a) b:=KI
def XR:∀ es q,∃ t,Qw q es=q++t
 |[],q=>⟨[],(DW q).symm⟩|e::es,q=>by have⟨t,a⟩:=XR es (if q.contains e=ad then q else q++[e]);rw[Mp,a];grind
def XU:∀ es q v,v∈Qw q es↔v∈q\/v∈es
 |[],q,v=>by simp[ee]|e::es,q,v=>by rw[Mp,XU es,BY];grind
def XH:∀ es q,q.Nodup->(Qw q es).Nodup
 |[],q,h=>h|e::es,q,h=>by rw[Mp];refine XH es _ ?_;grind
namespace PM
variable{m:PM}
def kB:∀ (L:List BB) q,∃ t,L.foldl (λq s=>Qw q s.BD) q=q++t
 |[],q=>⟨[],(DW q).symm⟩|s::L,q=>by have⟨t,b⟩:=XR s.BD q;have⟨u,a⟩:=kB L (Qw q s.BD);grind
def kI:∀ (L:List BB) q v,v∈L.foldl (λq s=>Qw q s.BD) q↔v∈q\/∃ s∈L,v∈s.BD
 |[],q,v=>by simp|s::L,q,v=>by rw[QF,kI L,XU];grind
def dM:∀ (L:List BB) q,q.Nodup->(L.foldl (λq s=>Qw q s.BD) q).Nodup
 |[],q,h=>h|s::L,q,h=>dM L _ (XH _ _ h)
def xb(L q v):∃ t,m.nextQ L q v=q++t:=by rw[nextQ];split;exact kB _ _;simp_all
def Ma{L q v u}:u∈m.nextQ L q v↔u∈q\/(m.kd v=4/\∃ s∈L,v∈s.BN/\u∈s.BD):=by rw[nextQ];split;rename_i h;rw[kI];grind;grind
def l7{L q}(v)(h:q.Nodup):(m.nextQ L q v).Nodup:=by rw[nextQ];split;exact dM _ _ h;exact h
def Closed(m:PM)(L:List BB)(S:Int->Prop):Prop:=∀ s∈L,∀ v∈s.BN,S v->m.kd v=4->∀ u∈s.BD,S u
def AtOk(m:PM)(s:BB):Prop:=∀ v∈s.BD,0<=v/\v<aa m.AN
structure IT(m:PM)(L:List BB)(s:BB)(q:iS)(i:Nat):Prop where
 nd:q.Nodup
 DA:∀ v∈q,0<=v/\v<aa m.AN
 st:∀ v∈s.BD,v∈q
 cl:∀ x∈L,∀ v∈x.BN,v∈q.take i->m.kd v=4->∀ u∈x.BD,u∈q
 low:∀ S:Int->Prop,(∀ v∈s.BD,S v)->m.Closed L S->∀ v∈q,S v
 le:i<=aa q
def IT.zero{L s}(b:m.AtOk s):IT m L s (Qw [] s.BD) 0:=by
 have e:∀ v,v∈Qw [] s.BD↔v∈s.BD:=λv=>by rw[XU];simp
 refine⟨XH _ _ (List.nodup_nil),λv a=>b v ((e v).1 a),λv a=>(e v).2 a,λx _ v _ a=>?_,λS c _ v a=>c v ((e v).1 a),CB _⟩;cases a
def IT.next{L s q i v}(n:∀ x∈L,m.AtOk x)(h:IT m L s q i)(f:q[i]?=ae v):IT m L s (m.nextQ L q v) (i+1):=by have⟨t,k⟩:=xb (m:=m) L q v;have l:=(DG.1 f).1;refine⟨l7 v h.nd,λu a=>?_,λu a=>Ma.2 (.inl (h.st u a)),λx b u a c d w g=>?_,λS j h2 u a=>?_,by grind⟩;rcases Ma.1 a with q|⟨_,x,b,_,q⟩;exact h.DA u q;exact n x b u q;rw[k,NR (by omega),take_at f,DX,CP]at c;rcases c with c|rfl;exact Ma.2 (.inl (h.cl x b u a c d w g));exact Ma.2 (.inr ⟨d,x,b,a,g⟩);rcases Ma.1 a with q|⟨d,x,b,e,q⟩;exact h.low S j h2 u q;exact h2 x b v e (h.low S j h2 v (DY f)) d u q
def IT.len{L s q i}(h:IT m L s q i):q.length<=m.AN.length:=nodup_len h.nd h.DA
structure LN(m:PM)(L:List BB)(s:BB)(q:iS):Prop where
 nd:q.Nodup
 DA:∀ v∈q,0<=v/\v<aa m.AN
 st:∀ v∈s.BD,v∈q
 cl:m.Closed L (· ∈ q)
 low:∀ S:Int->Prop,(∀ v∈s.BD,S v)->m.Closed L S->∀ v∈q,S v
def IT.CK{L s q}(h:IT m L s q q.length):LN m L s q:=
 ⟨h.nd,h.DA,h.st,λx a v b e d u c=>h.cl x a v b zG d u c,h.low⟩
def jj{L s}(a:∀ x∈L,m.AtOk x):∀ f q i,IT m L s q i->m.AN.length<f+i->LN m L s (m.bfsF L f q i)
 |0,q,i,h,hf=>by have:=h.len;have:=h.le;omega
 |f+1,q,i,h,hf=>by
  rw[bfsF];rcases b:q[i]? with _|v;have:=h.le;have c:i=aa q:=by grind
  subst c;exact h.CK;exact jj a f _ _ (h.next a b) (by omega)
def AA1{L s}(b:∀ x∈L,m.AtOk x)(a:m.AtOk s):LN m L s (m.reachQ L s):=jj b _ _ _ (.zero a) (by omega)
def LN.CG{L s q p}(h:LN m L s q)(k:LN m L s p)(v):v∈q↔v∈p:=
 ⟨h.low _ k.st k.cl v,k.low _ h.st h.cl v⟩
def iC{L s q}(b:∀ x∈L,m.AtOk x)(a:m.AtOk s)(h:LN m L s q):m.reachL L s=((aE m.AN.length).filter fun(v:Nat)=>q.contains (v:Int)).map fun(v:Nat)=>(v:Int):=by rw[reachL];congr 1;refine TH λv _=>?_;rw[NL,NL];exact EB.2 ((AA1 b a).CG h v)
end PM
namespace PM
variable{m:PM}{bd:List bS->List bS->bS->Bool}{gd:List bS->bS->Int}
def nz(h:m.badL bd gd 15=[]){rule}(b:1<=rule)(h2:rule<=15){a}(ha:a<m.places rule):m.keep bd gd rule (a:Int)=ad:=by rcases AAK (bd:=bd) (gd:=gd) b h2 ha with ⟨_,q⟩|⟨q,_⟩;grind;exact q
def Ea(h:m.badL bd gd 15=[]){rule}(b:1<=rule)(h2:rule<=15){a:Int}(c:0<=a)(ha:a<m.places rule):m.keep bd gd rule a=ad:=by obtain⟨n,rfl⟩:∃ n:Nat,a=(n:Int):=⟨a.toNat,by omega⟩;exact nz h b h2 (by omega)
structure DM(m:PM):Prop where
 FC:m.BW
 tg:∀ t:Int,0<=t->t<aa m.AE->0<=m.tg t/\m.tg t<aa m.AN
 sc:∀ t:Int,0<=t->t<aa m.AE->0<=m.sc t/\m.sc t<aa m.AN
 AD:∀ v:Int,0<=v->v<aa m.AN->1<=m.kd v/\m.kd v<=12
 KV:m.OutsOk
 entry:∀ v:Int,0<=v->v<aa m.AN->m.kd v=10->m.outI v≠[]
 GX:∀ v:Int,0<=v->v<aa m.AN->m.kd v=6->1<aa (m.outI v)
 VI:∀ v:Int,0<=v->v<aa m.AN->m.kd v=7->aa (m.outI v)=1/\1<aa (m.intoI v)/\∀ t∈m.intoI v,m.kd (m.sc t)=1
 init:∀ v:Int,0<=v->v<aa m.AN->m.kd v=3->m.intoI v=[]
 lx:aa m.AN<=512
 lw:aa m.AE<=512
 fix:∀ v:Int,0<=v->v<aa m.AN->m.kd v≠10->m.kd v≠11->(m.vx v).of = -1/\0<=(m.vx v).region/\(m.vx v).region<aa m.AU
def Jb(v):(m.outI v).length=(m.out v).length:=by rw[<- wys_out v,BC];rfl
def jg(v):(m.intoI v).length=(m.inc v).length:=by rw[<- wys_inc v,BC];rfl
def mem_out{v t}:t∈m.outI v↔(0<=t/\t<m.AE.length)/\m.sc t=v:=by rw[outI,wysI,CY];constructor;rintro⟨k,a,rfl⟩;have:=IY.1 a;have b:=DC.1 this.1;refine⟨by omega,?_⟩;have h2:=this.2;simp at h2;exact h2;rintro⟨⟨c,b⟩,h2⟩;refine⟨t.toNat,IY.2 ⟨DC.2 (by omega),?_⟩,by omega⟩;rw[show((t.toNat:Nat):Int)=t by omega];simp[show(m.wy t).AV=v from h2]
def mem_into{v t}:t∈m.intoI v↔(0<=t/\t<m.AE.length)/\m.tg t=v:=by rw[intoI,wysI,CY];constructor;rintro⟨k,a,rfl⟩;have:=IY.1 a;have b:=DC.1 this.1;refine⟨by omega,?_⟩;have h2:=this.2;simp at h2;exact h2;rintro⟨⟨c,b⟩,h2⟩;refine⟨t.toNat,IY.2 ⟨DC.2 (by omega),?_⟩,by omega⟩;rw[show((t.toNat:Nat):Int)=t by omega];simp[show(m.wy t).target=v from h2]
def Rt.EV(r:m.Rt)(h:m.badL bd gd 15=[]):m.DM:=by
 have f:∀ t:Int,0<=t->t<aa m.AE->(0<=m.sc t/\m.sc t<aa m.AN)/\(0<=m.tg t/\m.tg t<aa m.AN):=by intro t b a;have:=r.SU t.toNat (by omega);simp only[wayB,inV,BP,CM]at this;exact⟨this.1.1.1.1.1.1.1.1.1.2,this.1.1.1.1.1.1.1.1.2⟩
 have l:∀ rule,rule=2\/rule=4\/rule=5\/rule=6\/rule=8->m.places rule=aa m.AN:=by rintro _ (rfl|rfl|rfl|rfl|rfl)<;>rfl
 have k4:∀ v:Int,0<=v->v<aa m.AN->m.k4 v=ad:=λv b a=>Ea (rule:=4) h zd zd b (by exact a);have k5:∀ v:Int,0<=v->v<aa m.AN->m.k5 v=ad:=λv b a=>Ea (rule:=5) h zd zd b (by exact a);have k6:∀ v:Int,0<=v->v<aa m.AN->m.k6 v=ad:=λv b a=>Ea (rule:=6) h zd zd b (by exact a);have k8:∀ v:Int,0<=v->v<aa m.AN->m.k8 v=ad:=λv b a=>Ea (rule:=8) h zd zd b (by exact a);have k2:∀ v:Int,0<=v->v<aa m.AN->m.k2 v=ad:=λv b a=>Ea (rule:=2) h zd zd b (by exact a);have d:∀ v:Int,0<=v->v<aa m.AN->m.kd v=10->m.outI v≠[]:=by intro v b a c e;have:=k8 v b a;rw[PM.k8,AA (by rw[show m.kd v=10 from c];decide),AF c]at this;have g:=Jb (m:=m) v;rw[e]at g;simp only[BP,CM]at this;rw[<- g]at this;simp at this
 refine⟨r.FC,λt b a=>(f t b a).2,λt b a=>(f t b a).1,λv b a=>?_,?_,d,?_,?_,?_,r.lx,r.lw,?_⟩;have:=r.toFB.vert b a;simp only[vertexB,BP,CM]at this;exact⟨this.1.1.1.1.1.1.1.2,this.1.1.1.1.1.1.2⟩;intro v b a c e;simp only[oneP,F_,CX,BP]at c;rcases c with (c|c)|⟨c,_⟩;have:=k6 v b a;rw[PM.k6,c]at this;have g:=Jb (m:=m) v;rw[e]at g;simp[<- g]at this;have:=k8 v b a;rw[PM.k8,AF c]at this;have g:=Jb (m:=m) v;rw[e]at g;simp[<- g]at this;exact d v b a c e;intro v b a c;have:=k4 v b a;rw[PM.k4,c]at this;rw[Jb];simp only[J',GR,CH,BP,CM]at this;exact this.1.2;intro v b a c;have:=k5 v b a;rw[PM.k5,c]at this;rw[Jb,jg];simp only[J',GR,CH,BP,CM,CX,ER]at this;refine⟨this.1.1.1,this.1.1.2,λt k=>?_⟩;refine this.1.2 _ ?_;rw[<- wys_inc v];exact CY.2 ⟨t,k,rfl⟩;intro v b a c;have:=k2 v b a;rw[PM.k2,c]at this;simp only[J',GR,CH,BP,CX]at this;exact GL.1 (by rw[jg];exact this.2);intro v b a j i;have:=r.toFB.lies b a;rw[liesB,AA (λq=>q.elim j i)]at this;simp only[BP,CX,CM]at this;exact⟨this.1.1,this.1.2,this.2⟩
end PM
namespace PM
variable(m:PM)
def folB:iS->Int->Int->Bool
 |[],f,to=>f==to|t::r,f,to=>decide (0<=t)&&decide (t<aa m.AE)&&(m.sc t==f)&&folB r (m.tg t) to
variable{m}
def jo(h:m.DM):∀ f (v:Int) (AP:iS),0<=v->v<aa m.AN->AP.Nodup->(∀ t∈AP,0<=t/\t<aa m.AE)->f+aa AP=aa m.AE+1 ->
  ∀ w∈m.walkF f v AP,(∀ t∈w.1,0<=t/\t<aa m.AE)/\aa w.1<=aa m.AE+1/\∃ r,w.1=AP++r/\(∀ t∈r,m.oneP (m.sc t)=ad)/\(w.2 = -1\/((0<=w.2/\w.2<aa m.AN)/\m.oneP w.2=ab/\m.folB r v w.2=ad))
 |0,v,AP,_,_,hn,hr,hf=>by have:=nodup_len hn hr;omega
 |f+1,v,AP,h0,h1,hn,hr,hf=>by
  intro w e;rw[walkF]at e;split at e;rename_i k;have⟨t,p,e⟩:=KK.1 e;have⟨d,g⟩:=mem_out.1 p;have i:=h.tg t d.1 d.2;have j:∀ x∈AP++[t],0<=x/\x<aa m.AE:=λx c=>by rcases DX.1 c with c|c;exact hr x c;rw[CP.1 c];exact d
  split at e;rw[CP.1 e];exact⟨j,by rw[BQ,JI];omega,[t],rfl,λx c=>by rw[CP.1 c,g];exact k,.inl rfl⟩;rename_i o;rw[NL,CM]at o;have n:(AP++[t]).Nodup:=by rw[WG];refine⟨hn,by simp,λa s b q=>?_⟩;rw[CP.1 q];rintro rfl;exact o s
  have⟨C,B,r,A,u,l⟩:=jo h f _ _ i.1 i.2 n j (by rw[BQ,JI];omega) w e;refine⟨C,B,t::r,by rw[A,DH];rfl,λx c=>?_,?_⟩;rcases BY.1 c with rfl|c;rw[g];exact k;exact u x c;rcases l with l|⟨l,z,y⟩;exact .inl l;refine .inr ⟨l,z,?_⟩;rw[folB,EI d.1,EI d.2,g,y];simp;rename_i k;rw[CP.1 e];rw[SZ]at k;exact⟨hr,by show aa AP<=_;omega,[],(DW _).symm,(λx c=>(by cases c)),.inr ⟨⟨h0,h1⟩,k,by simp[folB]⟩⟩
structure cf(m:PM)(t:Int)(w:iS×Int):Prop where
 DA:∀ x∈w.1,0<=x/\x<aa m.AE
 len:aa w.1<=aa m.AE+1
 hd:∃ r,w.1=t::r/\∀ x∈r,m.oneP (m.sc x)=ad
 fo:w.2 = -1\/((0<=w.2/\w.2<aa m.AN)/\m.oneP w.2=ab/\m.folB w.1 (m.sc t) w.2=ad)
def waysL_ok(h:m.DM){t:Int}(t0:0<=t)(t1:t<aa m.AE):∀ w∈m.waysL t,m.cf t w:=by intro w f;have d:=h.tg t t0 t1;have⟨k,j,r,e,g,i⟩:=jo h _ _ _ d.1 d.2 (by simp) (λx l=>by grind) zG w f;refine⟨k,j,⟨r,e,g⟩,i.imp id fun⟨a,b,c⟩=>⟨a,b,?_⟩⟩;rw[e,cR,folB,EI t0,EI t1,c];simp
def xg(h:m.DM):∀ f (v:Int) AP,0<=v->v<aa m.AN->m.walkF f v AP≠[]
 |f,v,AP,h0,h1=>by rw[<- YR];intro e;exact UR h.tg h.KV f v _ h0 h1 (cN.1 e)
def xE(h:m.DM){t:Int}(t0:0<=t)(t1:t<aa m.AE):m.waysL t≠[]:=by have a:=h.tg t t0 t1;exact xg h _ _ _ a.1 a.2
def forkF_ok:∀ os acc,∀ es∈m.forkF os acc,aa es=aa acc+aa os/\∀ e∈es,e∈acc\/∃ o∈os,(e.2,e.1)∈m.waysL o
 |[],acc,es,a=>by rw[CP.1 a];grind
 |o::os,acc,es,a=>by have⟨w,b,a⟩:=KK.1 a;have⟨c,h2⟩:=forkF_ok os _ es a;grind
def jx(h:m.DM):∀ (os:iS) acc,(∀ o∈os,0<=o/\o<aa m.AE)->m.forkF os acc≠[]
 |[],acc,_=>by rw[forkF];simp|o::os,acc,ho=>by rw[forkF];have a:=ho o (by simp);rcases e:m.waysL o with _|⟨w,r⟩;exact absurd e (xE h a.1 a.2);intro q;exact jx h os _ (λx b=>ho x zG) (OP.1 q).1
structure TZ(m:PM)(s:BB):Prop where
 first:0<=s.first/\s.first<aa m.AE
 so:s.BN≠[]
 sn:aa s.BN<=aa m.AE\/aa s.BN=1
 IF:∀ v∈s.BN,0<=v/\v<aa m.AN
 one:∀ v∈s.BN,m.kd v=4->s.BN=[v]
 en:s.AT≠[]
 el:aa s.AT<=aa m.AE+1
 bl:∀ e∈s.AT,aa e.2<=aa m.AE+1
 gl:aa s.DU<=(aa m.AE+1)*(aa m.AE+2)
 fl:aa s.DE<=aa m.AE+(aa m.AE+1)
 er:∀ t∈s.DE,0<=t/\t<aa m.AE
 gr:∀ t∈s.DU,0<=t/\t<aa m.AE
 br:∀ e∈s.AT,∀ t∈e.2,0<=t/\t<aa m.AE
 ar:∀ e∈s.AT,e.1 = -1\/(0<=e.1/\e.1<aa m.AN)
def flat_le{n}:∀ (l:List (Int×iS)),(∀ e∈l,e.2.length<=n)->(l.flatMap (·.2)).length<=l.length*n
 |[],_=>by simp|e::l,h=>by have:=flat_le l λx a=>h x zG;have:=h e (by simp);rw[FY,BQ,CW,MH];omega
structure VX(m:PM)(BN DN:iS)(by_:Int):Prop where
 PN:0<=by_/\by_<aa m.AE
 first:0<=DN.headD by_/\DN.headD by_<aa m.AE
 so:BN≠[]
 sn:aa BN<=aa m.AE\/aa BN=1
 IF:∀ v∈BN,0<=v/\v<aa m.AN
 one:∀ v∈BN,m.kd v=4->BN=[v]
 il:aa DN<=aa m.AE
 ir:∀ t∈DN,0<=t/\t<aa m.AE
def dC(h:m.DM){c d n}(b:m.VX c d n):∀ s∈m.strL c d n,m.TZ s:=by
 intro s j;have⟨w,v,j⟩:=KK.1 j;have k:=waysL_ok h b.PN.1 b.PN.2 w v;have p:=k.len;have y:=b.il;have u:∀ t∈d++w.1,0<=t/\t<aa m.AE:=λt a=>by rcases DX.1 a with a|a;exact b.ir t a;exact k.DA t a
 rw[strW]at j;split at j;rename_i q;obtain⟨g,f,rfl⟩:=CY.1 j;have⟨k1,k2⟩:=forkF_ok _ _ g f;have k2:∀ e∈g,∃ o:Int,(0<=o/\o<aa m.AE)/\m.cf o _:=λe f=>by rcases k2 e f with q|⟨o,x,q⟩;cases q;have:=wysI_rng x;exact⟨o,this,waysL_ok h this.1 this.2 _ q⟩
 have k3:∀ e∈g,aa e.2<=aa m.AE+1:=λe f=>by have⟨o,_,q⟩:=k2 e f;exact q.len
 have k4:=flat_le g k3;have k5:aa g<=aa m.AE:=by rw[k1,GT,EE];exact wysI_len ..
 have l:m.outI w.2≠[]:=by have r:=k.fo.resolve_left q.1 |>.1;have i:=q.2;simp only[allP,F_,CX,BP,CM]at i;intro e;rcases i with i|⟨_,i⟩;have:=h.GX _ r.1 r.2 i;rw[e]at this;cases this;rw[e]at i;cases i
 refine⟨b.first,b.so,b.sn,b.IF,b.one,?_,by show aa g<=_;omega,k3,?_,?_,u,?_,?_,?_⟩;show g≠[];intro e;rw[e]at k1;exact l (GL.1 (by simpa using k1.symm));show aa (w.1++g.flatMap _)<=_;rw[BQ];have:aa g*(aa m.AE+1)<=aa m.AE*(aa m.AE+1):=O' _ k5;have e:(aa m.AE+1)*(aa m.AE+2)=aa m.AE*(aa m.AE+1)+(aa m.AE+1)+(aa m.AE+1):=by rw[Nat.mul_add,TP (aa m.AE+1) (aa m.AE),MH];omega
 omega;show aa (d++w.1)<=_;rw[BQ];omega;intro t a;rcases DX.1 a with a|a;exact k.DA t a;have⟨e,f,a⟩:=KK.1 a;have⟨o,_,q⟩:=k2 e f;exact q.DA t a;intro e f t a;have⟨o,_,q⟩:=k2 e f;exact q.DA t a;intro e f;have⟨o,_,q⟩:=k2 e f;exact q.fo.imp id λq=>q.1;rw[CP.1 j];refine⟨b.first,b.so,b.sn,b.IF,b.one,by simp,by simp,?_,?_,?_,u,k.DA,?_,?_⟩;intro e f;rw[CP.1 f];exact CB _;show aa w.1<=_;exact CT p (Nat.le_mul_of_pos_right _ (by omega));show aa (d++w.1)<=_;rw[BQ];omega;intro e f t a;rw[CP.1 f]at a;cases a;intro e f;rw[CP.1 f];exact k.fo.imp id λq=>q.1
def headD_mem{l}{d:Int}(h:l≠[]):l.headD d∈l:=by rcases l with _|⟨a,t⟩;grind;grind
def join_beg(h:m.DM){t:Int}(t0:0<=t)(t1:t<aa m.AE)(g:m.kd (m.tg t)=7):m.VX ((m.intoI (m.tg t)).map m.sc) (m.intoI (m.tg t)) ((m.outI (m.tg t)).headD 0):=by have a:=h.tg t t0 t1;have⟨k,j,i⟩:=h.VI _ a.1 a.2 g;have b:∀ x∈m.intoI (m.tg t),0<=x/\x<aa m.AE:=λx c=>wysI_rng c;have e:m.intoI (m.tg t)≠[]:=zG;have d:m.outI (m.tg t)≠[]:=zG;refine⟨wysI_rng (headD_mem d),wysI_rng (headD_mem e),by simp_all,.inl (by rw[BC];exact wysI_len ..),λv f=>?_,λv f q=>?_,wysI_len ..,b⟩;obtain⟨x,c,rfl⟩:=CY.1 f;have:=b x c;exact h.sc x this.1 this.2;grind
def nE(h:m.DM){t:Int}(t0:0<=t)(t1:t<aa m.AE):m.VX [m.sc t] [] t:=
 ⟨⟨t0,t1⟩,⟨t0,t1⟩,by simp,.inr rfl,λv a=>by rw[CP.1 a];exact h.sc t t0 t1,λv a _=>by grind,CB _,λx b=>by grind⟩
def ta(h:m.DM){t:Int}(t0:0<=t)(t1:t<aa m.AE):∀ s∈m.beginL t,m.TZ s:=by intro s a;rw[beginL]at a;split at a;rename_i b;split at a;exact dC h (join_beg h t0 t1 b) s a;grind;split at a;exact dC h (nE h t0 t1) s a;grind
def allL_ok(h:m.DM):∀ s∈m.allL,m.TZ s:=by intro s a;have⟨t,b,a⟩:=KK.1 a;have:=DC.1 b;exact ta h (by omega) (by omega) s a
end PM
namespace PM
variable(m:PM)
variable{m}
def EndsR(m:PM)(s:BB):Prop:=∀ e∈s.AT,e.1 ≠ -1/\(e.2=[]\/m.kd e.1=1)
end PM
namespace PM
variable(m:PM)(bd:List bS->List bS->bS->Bool)(gd:List bS->bS->Int)
def forkedB(l:iS):Bool:=l.any λt=>m.kd (m.sc t)==5
def endAt(s:BB)(i:Nat):Int×iS:=s.AT.getD i (-1,[])
def endB(s:BB)(i:Nat):Bool:=
 !((endAt s i).1 == -1)&&((endAt s i).2==[]||m.kd (endAt s i).1==1) && !m.forkedB (endAt s i).2&&(aE i).all λk=>m.orthoB (endAt s k).1 (endAt s i).1
def srcOf(s:BB):Int:=s.BN.headD 0
def fixB(v:Int):Bool:=m.kd v==3||m.kd v==8||m.kd v==9
def inReach(s:BB)(v:Int):Bool:=
 if m.fixB (srcOf s)=ad then m.withinB v (m.vx (srcOf s)).region else if m.kd (srcOf s)=1/\(m.wy s.first).AD=2 then m.inB v (srcOf s)else ad
def rightS(s:BB)(R:iS):Bool:=((aE (aa s.AT)).all λi=>m.endB s i) && !(m.fixB (srcOf s)&&m.forkedB s.DE)&&R.all λv=>m.inReach s v
def withR:List (BB×iS):=m.allL.map λs=>(s,m.reachL m.allL s)
def statP:List (BB×iS)×Int×Int:=
 if(m.checkW bd gd).2≠0 then([],0,(m.checkW bd gd).2)else if(m.checkW bd gd).1≠[]then([],0,170)else if 4096<aa m.allL then([],0,3)else
  match m.withR.find? λp => !m.rightS p.1 p.2 with|some p=>([],p.1.first,230)|none=>(m.withR,0,0)
variable{m bd gd}
structure QT(m:PM):Prop where
 rt:m.Rt
 EV:m.DM
 le:aa m.allL<=4096
 right:∀ s∈m.allL,m.rightS s (m.reachL m.allL s)=ad
def statP_ok(h:(m.statP bd gd).2.2=0):m.QT/\(m.statP bd gd).1=m.withR:=by
 rw[statP]at h⊢;by_cases b:(m.checkW bd gd).2≠0;grind;rw[AA b]at h⊢;by_cases h2:(m.checkW bd gd).1≠[];grind;rw[AA h2]at h⊢;by_cases g:4096<aa m.allL;grind;rw[AA g]at h⊢;have d:(m.rightP).2.2=0:=by by_cases q:(m.rightP).2.2=0;exact q;exact absurd (by rw[checkW,AF q];exact q) b
 have f:m.badL bd gd 15=[]:=by rw[checkW,AA zG]at h2;grind
 have a:=rt_of (right_er.1 d);split at h;cases h;rename_i e;refine⟨⟨a,a.EV f,by omega,λs c=>?_⟩,rfl⟩;have:=MG.1 e _ (CY.2 ⟨s,c,rfl⟩);simpa using this
def statP_no(h:(m.statP bd gd).2.2≠0):(m.statP bd gd).1=[]:=by rw[statP]at h⊢;grind
def QT.AT(h:m.QT){s}(b:s∈m.allL):m.EndsR s:=by
 intro e c;have:=h.right s b;simp only[rightS,BP,ER,DC]at this;obtain⟨i,a,rfl⟩:=TI c;have q:=this.1.1 i a;have d:endAt s i=s.AT[i]:=by rw[endAt,DK,AY a];rfl
 simp only[endB,d,BP,VY,FD,F_,CX]at q;grind
def QT.lost(h:m.QT){s}(a:s∈m.allL):s.lost=ab:=by rw[BB.lost,JF];intro e b;have:=(h.AT a e b).1;grind
def DM.atok(h:m.DM):∀ s∈m.allL,m.AtOk s:=by intro s b v a;unfold BB.BD at a;split at a;grind;rename_i c;rw[SZ,BB.lost,JF]at c;obtain⟨e,d,rfl⟩:=CY.1 a;refine((allL_ok h s b).ar e d).resolve_left λq=>?_;grind
def pJ(L s):List.Pairwise (· < ·) (m.reachL L s):=by rw[reachL,cQ];refine(List.Pairwise.filter _ lg).imp fun{a b} h=>by omega
def reachL_rng(L s):∀ v∈m.reachL L s,0<=v/\v<m.AN.length:=by intro v a;rw[reachL,CY]at a;grind
end PM
end
open Go.Proofs
set_option maxHeartbeats 1000000
set_option maxRecDepth 10000
structure TT where
 KW:Int
 region:Int
 depth:Int
 state:Bool
 MA:Bool
 out:Sl Int
 DN:Sl Int
structure LC where
 places:Sl TT
 SE:V
 SL:V
 SO:V
def Js(c:AH)(p:TT):V:=.agg [p.KW,p.region,p.depth,p.state,p.MA,Za c 1 () p.out,Za c 1 () p.DN]
def Sa(c p):Js c p=.agg [p.KW,p.region,p.depth,p.state,p.MA,Za c 1 () p.out,Za c 1 () p.DN]:=rfl
def wA(c p):(Js c p).cells.length=7:=rfl
def I5(b c d:AH)(x:LC):V:=.view b (.agg [Za c 7 (Js d) x.places,x.SE,x.SL,x.SO])
def Pc(b c d x):I5 b c d x=.view b (.agg [Za c 7 (Js d) x.places,x.SE,x.SL,x.SO]):=rfl
def LC.rc(g:AH->AH)(x:LC):LC:=⟨x.places,x.SE.recol g,x.SL.recol g,x.SO.recol g⟩
def zC(g)(x:LC):(x.rc g).places=x.places:=rfl
def gP(g c d s):(Za c 7 (Js d) s).recol g=Za (g c) 7 (Js (g d)) s:=Xz g c 7 (λp=>by simp only[Sa,X9,BI,BV,Xr,M9,Xv]) s
def dq(g b c d x):(I5 b c d x).recol g=I5 (g b) (g c) (g d) (x.rc g):=by simp only[Pc,V.recol,Xd,gP,LC.rc]
def u7(b c d x):(I5 b c d x).cells=[I5 b c d x]:=rfl
def tJ(b c d x):(I5 b c d x).solid=ad:=rfl
attribute[go_sem]zC gP dq u7 tJ
def Tv(G b c d x)(v:Int):Spec () G 103 [I5 b c d x,v] Zm (λw _=>w=.bool (decide (0<=v)&&decide (v<x.places.l.length))):=by refine Zo 0 20 _ func103 λX=>?_;by_cases f:0<=v;have a:=zU _;have e:=zU (0<=v);rw[e];exact Zq (zi a Pc);have a:=zV _;have e:=zV _;rw[e];exact Zq (zi a Pc)
def G6(G a)(v:Int)(c:a.cells=[a]:=by exact rfl)(b:a.solid=ad:=by exact rfl):InSp Tryz.prog G 47 [a,v] (Yb Zm [(52,.AR),(53,.AR)])
  (λw H'=>∃ g2 g3,w=.func (.func 102) [] [.ptr 53 g3 0,.ptr 52 g2 0]/\H' 52=qC g2 0 [a]/\H' 53=qC g3 0 [v]):=by
 refine Wx 50 6 _ func47 rfl rfl rfl rfl λX=>?_;simp only[Yb];refine Zf (zi c b) ?_;intro g2 g3;refine Zf (zi c b) ?_;exact⟨g2,g3,rfl,zr,zr⟩
def Mm(m:PM)(v:Int):iS:=if 0<=v then v::m.ups v else[]
def PM.rgO(m:PM)(v:Int):Int:=if 0<=(m.vx v).of then(m.vx (m.vx v).of).region else(m.vx v).region
structure EQ(m:PM)(x:LC):Prop where
 len:aa x.places.l=aa m.AN
 PQ:∀ (i:Nat) p,x.places.l[i]?=ae p->p.KW=m.around i
 bN:∀ (i:Nat) p,x.places.l[i]?=ae p->p.region=m.rgO i
 st:∀ (i:Nat) p,x.places.l[i]?=ae p->p.state=(m.kd i==1)
 pt:∀ (i:Nat) p,x.places.l[i]?=ae p->p.MA=decide (0<=(m.vx i).of)
 out:∀ (i:Nat) p,x.places.l[i]?=ae p->p.out.l=m.outI i
 DN:∀ (i:Nat) p,x.places.l[i]?=ae p->p.DN.l=m.intoI i
def T'{m}(a:m.BW){v}(b:0<=v)(c:v<m.AN.length):Mm m v=v::Mm m (m.around v):=by unfold Mm;rw[AF b];by_cases h:0<=m.around v;rw[AF h,a.ups_cons b c h];rw[AA h,PM.BW.ups_nil zo]
def UF(G)(hG:Yy G)(b c d x m)(a:m.BW)(K:EQ m x)(v:Int)(S:v<m.AN.length)(g2 g3 H)(h2:H 52=qC g2 0 [I5 b c d x])(h3:H 53=qC g3 0 [v]):MM Tryz.prog G 100 102 [.ptr 53 g3 0,.ptr 52 g2 0] H (λk:Int=>[k]) (Mm m v):=by
 refine Uh _ 0 19 3 [] func102 λX t cl σ R I e D Q U W _=>?_;refine BK ?_;refine J5 (fun(w:Int × σ × A')=>⟨Yb Mv [(0,.func t [] cl),(1,.ptr 53 g3 0),(2,.ptr 52 g2 0)],Yb (Yi 100 w.2.2) [(52,qC g2 0 [I5 b c d x]),(53,qC g3 0 [qI w.1])]⟩)
  (λw=>w.1<aa m.AN/\Oo I e w.2.1 (Mm m w.1)/\R w.2.1 (Yi 100 w.2.2)/\Y4 e D (Mm m v)=Y4 e w.2.1 (Mm m w.1)) (λw=>aa (Mm m w.1)) (v,D,H) ⟨S,U,W,rfl⟩ ?_ ?_
 exact We ⟨rfl,rfl,rfl,AJ⟩ ⟨h2,h3,AJ⟩ rfl;rintro⟨w,s,H1⟩ ⟨z,y,C,i⟩ L Y;simp only at z y C i⊢;by_cases A:0<=w;have E:=zU _;rw[T' a A z]at y i;refine Zz (Zz (Vm [5] zk (by rfl) ?_));simp -implicitDefEqProofs only[go_sem,seval,E,I4];refine⟨_,rfl,Po Q s w zp zm y.1 ?_ (λP h f=>?_) zk (n:=5) rfl zp⟩;refine Zs ?_;exact C;have u:=f 52 zd;have o:=f 53 zd;simp -implicitDefEqProofs only[go_sem,seval]at u o;have j:=y.2;have g:Y4 e D _=if(e s w).1=ad then Y4 e _ (Mm m (m.around w))else(ab,(e s w).2):=i;generalize e s w=r at h g j⊢;obtain⟨O,J⟩:=r;refine Zs ?_;refine BM (We (lo:=100) (l:=[(0,.func t [] cl),(1,.ptr 53 g3 0),(2,.ptr 52 g2 0),(10,O)]) (m:=[(52,qC g2 0 [I5 b c d x]),(53,qC g3 0 [w])]) ⟨rfl,rfl,rfl,rfl,AJ⟩ ⟨u,o,AJ⟩ rfl) ?_;cases O;refine Z ?_;rw[g];refine⟨_,rfl,.inr trivial,?_⟩;show R J _;refine Zs ?_;exact h;obtain⟨k,rfl⟩:∃ k:Nat,w=(k:Int):=⟨w.toNat,zo⟩;have N:k<aa x.places.l:=by rw[K.len];omega
 have F:=AY N;have M:=K.PQ k _ F;generalize x.places.l[k]=p at F M;refine Pr (j5 F N Sa Pc Ya) hG ?_;refine Zs ?_;have T:m.around k<aa m.AN:=by rcases a.DA k A z with q|q<;>omega
 refine Y _ ⟨(m.around k,J,P),?_,⟨T,j rfl,h,by rw[g]<;>rfl⟩,We ⟨rfl,rfl,rfl,AJ⟩ ⟨zp,?_,AJ⟩ ?_⟩;show aa (Mm m (m.around k))<aa (Mm m k);rw[T' a A z];exact GH _;exact Vw M;exact zp;have E:=zV (w>=0);have e0:Mm m w=[]:=AA A;rw[e0]at i;refine Zf E ?_;refine Zs ?_;rw[i];refine⟨_,rfl,.inr trivial,?_⟩;show R s _;refine Zs ?_;exact C
def EQ.at{m x}(h:EQ m x){v:Int}(j:0<=v)(b:v<m.AN.length):∃ (k:Nat) (p:TT),v=(k:Int)/\k<x.places.l.length/\x.places.l[k]?=ae p/\p.KW=m.around v/\p.region=m.rgO v/\p.state=(m.kd v==1)/\p.MA=decide (0<=(m.vx v).of)/\p.out.l=m.outI v/\p.DN.l=m.intoI v:=by
 have c:v.toNat<aa x.places.l:=by rw[h.len];omega
 have e:v=((v.toNat:Nat):Int):=zo;have a:=AY c;refine⟨v.toNat,_,e,c,a,?_⟩;have b:=h.PQ _ _ a;have h2:=h.bN _ _ a;have i:=h.st _ _ a;have g:=h.pt _ _ a;have f:=h.out _ _ a;have d:=h.DN _ _ a;rw[<- e]at b h2 i g f d;exact⟨b,h2,i,g,f,d⟩
def Au{m}(a:m.BW){v}(c:v<m.AN.length):∀ k∈Mm m v,0<=k/\k<m.AN.length:=by intro k b;unfold Mm at b;split at b;rename_i d;exact a.chain d c b;cases b
def VE{H H':A'}(h:H=H':=by funext o;simp only[Ye];(repeat' split)<;>first|rfl|omega):H=H':=h
def ABf(b:Bool):Option Code:=if b=ad then ae .ret else ah
def yZ(G)(i:Yy G)(b c d x m)(a:m.BW)(g:EQ m x)(v r:Int)(J:0<=v)(z:v<m.AN.length):Spec Tryz.prog G 60 [I5 b c d x,.int .i64 v,.int .i64 r] Zm (λw _=>w=.bool ((Mm m v).any λu=>m.rgO u==r)):=by
 refine PG 100 26 [.cell 6 4] func60 λX=>?_;have F:(decide (0<=v)&&decide (v<aa x.places.l))=ad:=by rw[g.len,BP];exact⟨zT,zT⟩
 refine Z ?_;intro t B j;refine Z ?_;refine Zc i ?_ (s:=Tv G _ _ _ _ v);refine Zg F ?_;refine HO _ zk ?_ ((G6 G _ v).mono ?_);intro p f;simp only[BY,CL,CF]at f;rcases f with rfl|rfl<;>rfl;rintro w L ⟨C,o,rfl,E,D⟩;simp -implicitDefEqProofs only[go_sem,seval,Yb,E,D];refine BK ?_;refine Ms 50 100 190 150 (λs=>Ye (Ye (Ye Zm 103 (.cells .new t 0 [I5 b c d x])) 105 (.cells .new B 0 [.int .i64 r])) 106 (.cells .new j 0 [.bool s])) (λ_ k=>m.rgO k==r) ABf (λ_ k=>0<=k/\k<aa m.AN) ab rfl
  (λl H=>UF G i b c d x m a g v z C o _ zp zp) ?_ (Mk rfl λk h _=>Au a z k h) ?_ ?_
 refine Zs ?_;exact Xf _ _ _ rfl
 .rintro l Y s k hr ⟨k0,k1⟩ hj;cases s;rotate_left;cases hj;refine Zs ?_;refine CA zk ?_;refine Zs ?_;intro Z _;obtain⟨n,p,rfl,h,A,_,f,_⟩:=g.at k0 k1;refine Pr (zi A (zi h (zi Sa (zi Pc Ya)))) i ?_;rw[f];cases q:(m.rgO (n:Int)==r);refine Zf q ?_;exact⟨rfl,Xf _ _ _ rfl⟩;refine Zf q ?_;refine FU ?_;refine Xc q ?_;exact⟨rfl,VE⟩
 rintro K y e h2 I;have e:y=(Mm m v).any λu=>m.rgO u==r:=by rw[e];exact dQ (λk=>m.rgO k==r) _
 cases y;refine BM (JA (l:=[(3,.ptr 103 t 0),(6,.ptr 106 j 0)]) h2 ⟨rfl,rfl,AJ⟩) ?_;refine Z ?_;rw[<- e];refine BM (JA (l:=[(3,.ptr 103 t 0),(6,.ptr 106 j 0)]) h2 ⟨rfl,rfl,AJ⟩) ?_;refine Z ?_;rw[<- e]
def Sl.co{α}(s:Sl α):Sl α:=match s with|.nil=>.nil|.mk _ l=>.mk ab l
def s7{α}(s:Sl α):s.co.l=s.l:=by cases s<;>rfl
def Iw(G c s)(a:s.l.length<1000000):Spec () G 104 [Za c 1 (V.int .i64) s] Zm (qE s.co):=by refine Zo 0 8 _ func104 λX=>?_;rcases s with _|⟨b,l⟩;exact Zr;have e:aa l<1000000:=a;have d:Za c 1 _ (.mk b l)=.slice c b 1 (l.map (V.int .i64)):=rfl;rw[d];refine Z ?_;intro g;refine⟨Z3 zo (by rw[BC];omega),λh=>?_⟩;refine Zs ?_;refine BM (Z4 (λo=>o==5) (l:=[(2,qE (.mk ab l))]) (m:=[]) ?_ trivial) ?_;rw[BC];refine Zs ?_;exact Xm rfl rfl λ_=>rfl;exact Zr
def D5(G)(a:Yy G)(b c d x m)(e:EQ m x)(f:m.AE.length<1000000)(v:Int)(o:0<=v)(k:v<m.AN.length):Spec () G 51 [I5 b c d x,v] Zm (λw _=>∃ s,s.l=m.outI v/\w=qE s):=by
 refine Zo 0 18 _ func51 λX=>?_;obtain⟨n,p,rfl,i,j,h⟩:=e.at o k;have q:(decide ((0:Int)<=(n:Int))&&decide ((n:Int)<aa x.places.l))=ad:=by rw[BP];exact⟨zT,zT⟩
 refine Z ?_;refine Zc a ?_ (s:=Tv G _ _ _ _ _);refine Zg (j6 q j i Sa Pc Ya) ?_;have g:aa p.out.l<1000000:=by rw[h.2.2.2.2.1,PM.outI];exact TO (PM.wysI_len _ _ _) f
 refine Zc a ?_ (s:=Iw G _ _ g);refine Z ?_;exact⟨p.out.co,by rw[s7];exact h.2.2.2.2.1,rfl⟩
def U'{τ:Type}(s:Option τ):Option Code:=match s with|none=>ah|some _=>ae .ret
def Ls{κ τ}(p g):∀ xs:List κ,(Y4 (fun(_:Option τ) k=>((U' (if p k=ad then ae (g k)else ah)).isNone,(if p k=ad then ae (g k)else ah))) ah xs).2=(xs.find? p).map g
 |[]=>rfl|k::r=>by rw[Y4,QE];cases q:p k;exact Ls p g r;rfl
def PM.lowB(m:PM)(s k:Int):Bool:=m.around k==s && !decide (0<=(m.vx k).of)
def PM.BW.low_eq{m}(a:m.BW){v s}(d:0<=v)(h:v<m.AN.length)(i:0<=s):(((Mm m v).find? (m.lowB s)).map m.rgO).getD (-1)=m.regU v s:=by
 have e:Mm m v=v::m.ups v:=AF d;rw[e];rcases q:(v::m.ups v).find? (m.lowB s) with _|u;rw[MG]at q;rcases f:(v::m.ups v).find? (λu=>m.around u==s) with _|u;rw[PM.regU,f]<;>rfl;have c:=cP f;have b:=cD f;have g:=q u c;have j:=a.chain d h c;unfold PM.lowB at g;rw[b,DJ,SZ,Bool.not_eq_false',CM]at g;rw[a.regU_of d h i c (zu b),a.pt u j.1 j.2 g]
 try rfl
 have c:=cP q;have b:=cD q;unfold PM.lowB at b;simp only[BP,VY,IL,CX]at b;rw[a.regU_of d h i c b.1];show m.rgO u=_;rw[PM.rgO,AA b.2]
def ei(G)(t:Yy G)(b c d x m)(a:m.BW)(E:EQ m x)(v s:Int)(H:0<=v)(A:v<m.AN.length)(o:0<=s):Spec () G 117 [I5 b c d x,v,s] Zm (m.regU v s):=by
 rw[<- a.low_eq H A o];refine PG 100 41 [.cell 6 3] func117 λX=>?_;refine Z ?_;intro D I B;refine Z ?_;refine HO _ zk ?_ ((G6 G _ v).mono ?_);intro p h;simp only[BY,CL,CF]at h;rcases h with rfl|rfl<;>rfl;rintro w P ⟨J,C,rfl,L,K⟩;simp -implicitDefEqProofs only[go_sem,seval,Yb,L,K];refine BK ?_;refine Ms 50 _ 190 150 (λu=>Ye (Ye (Ye Zm 103 (qC D 0 [I5 b c d x])) 105 (qC I 0 [s])) 106 (qC B 0 [(u.getD 0)])) (λ_ k=>if m.lowB s k=ad then ae (m.rgO k)else ah) U' (λ_ k=>0<=k/\k<aa m.AN) ah rfl
  (λl M=>UF G t b c d x m a E v A J C _ zp zp) ?_ (Mk rfl λk f _=>Au a A k f) ?_ ?_
 refine Zs ?_;exact Xf _ _ _ rfl
 .rintro l Y u k hr ⟨k0,k1⟩ hj;cases u;rotate_left;cases hj;refine Zs ?_;refine CA zk ?_;refine Zs ?_;intro Z _;obtain⟨n,p,rfl,f,r,h,z,_,g,_⟩:=E.at k0 k1;cases q:(m.around (n:Int)==s);have e:m.lowB s (n:Int)=ab:=by unfold PM.lowB;rw[q]<;>rfl
  have j:(p.KW==s)=ab:=by rw[h];exact q
  refine Pr (j6 j r f Sa Pc Ya) t ?_;refine Zf e ?_;exact⟨rfl,Xf _ _ _ rfl⟩;have j:(p.KW==s)=ad:=by rw[h];exact q
  cases i:decide (0<=(m.vx (n:Int)).of);have e:m.lowB s (n:Int)=ad:=by unfold PM.lowB;rw[q,i]<;>rfl
  have y:p.MA=ab:=by rw[g];exact i
  refine Pr (j7 j y r f Sa Pc Ya) t ?_;refine Zf (j6 e r f Sa Pc Ya) ?_;refine FU ?_;refine Xc (zi e z) ?_;exact⟨rfl,VE⟩;have e:m.lowB s (n:Int)=ab:=by unfold PM.lowB;rw[q,i]<;>rfl
  have y:p.MA=ad:=by rw[g];exact i
  refine Pr (j7 j y r f Sa Pc Ya) t ?_;refine Zf e ?_;exact⟨rfl,Xf _ _ _ rfl⟩
 rintro O F o h2 N;rw[Ls]at o;rw[<- o];cases F;refine BM (JA (l:=[(3,.ptr 103 D 0),(6,.ptr 106 B 0)]) h2 ⟨rfl,rfl,AJ⟩) ?_;refine Z ?_;rfl;refine BM (JA (l:=[(3,.ptr 103 D 0),(6,.ptr 106 B 0)]) h2 ⟨rfl,rfl,AJ⟩) ?_;refine Z ?_;rfl
def iA{m}(a:m.BW){v}(c:0<=v)(b:v<m.AN.length):Mm m (m.around v)=m.ups v:=by unfold Mm;by_cases h:0<=m.around v;rw[AF h,a.ups_cons c b h];rw[AA h,PM.BW.ups_nil zo]
def PM.BW.ar1{m:PM}(a:m.BW){v:Int}(c:0<=v)(b:v<aa m.AN):m.around v<aa m.AN:=by rcases a.DA v c b with q|q<;>omega
def cu{α:Type}(p):∀ l:List α,((l.find? p).map λ_=>ad).getD ab=l.any p
 |[]=>rfl|x::r=>by rw[QE,HR];cases q:p x;exact cu p r;rfl
def iu(m:PM)(a b):∀ l,((l.find? λk=>m.bothB a b k).map λk=>m.regU a k != m.regU b k).getD ab=m.orthoF a b l
 |[]=>rfl|x::r=>by rw[QE,PM.orthoF];cases q:m.bothB a b x;rw[AA zS];exact iu m a b r;rfl
def EQ.rc{m x}(h:EQ m x)(g):EQ m (x.rc g):=⟨h.len,h.PQ,h.bN,h.st,h.pt,h.out,h.DN⟩
def xS(G)(F:Yy G)(b c d x m)(a:m.BW)(n:EQ m x)(v s:Int)(h:0<=v)(g:v<m.AN.length)(K:0<=s)(J:s<m.AN.length)(y:m.kd s=1):Spec () G 61 [I5 b c d x,v,s] Zm (λw _=>w=.bool ((m.ups v).any λk=>k==s)):=by
 rw[<- iA a h g,<- cu];refine PG 100 43 [.cell 6 4] func61 λX=>?_;obtain⟨nv,R,rfl,t,z,o,_⟩:=n.at h g;obtain⟨f,ps,rfl,u,A,_,_,r,_⟩:=n.at K J;have N:ps.state=ad:=by rw[r,y]<;>rfl
 have t1:(decide ((0:Int)<=(nv:Int))&&decide ((nv:Int)<aa x.places.l))=ad:=by rw[BP];exact⟨zT,zT⟩
 have H:(decide ((0:Int)<=(f:Int))&&decide ((f:Int)<aa x.places.l))=ad:=by rw[BP];exact⟨zT,zT⟩
 refine Z ?_;intro L B;refine Zz (Zz (Zv ⟨λi=>if i=2 then .bool ad else if i=7 then .bool ad else .top,λ_=>.pure⟩ zk F zk zk ?_));simp -implicitDefEqProofs only[go_sem,seval,A,u,N,Sa,Pc,@DS,@GY];refine⟨⟨zk,?_⟩,⟨zk,?_⟩,?_⟩;simp -implicitDefEqProofs only[go_sem,seval,<- Pc];exact(Tv G _ _ _ _ _).mono λv _ e=>by rw[e];exact BU _ t1
 simp -implicitDefEqProofs only[go_sem,seval,<- Pc];exact(Tv G _ _ _ _ _).mono λv _ e=>by rw[e];exact BU _ H
 refine Zf (j5 z t Sa Pc Ya) ?_;refine HO [(52,.AR),(53,.AR)] zk ?_ ((G6 G (I5 _ _ _ _) _).mono ?_);intro p E;simp only[BY,CL,CF]at E;rcases E with rfl|rfl<;>rfl;rintro w U ⟨M,C,rfl,P,O⟩;simp -implicitDefEqProofs only[go_sem,seval,Yb,P,O,o];refine BK ?_;refine Ms 50 100 190 150 (λj=>Ye (Ye Zm 105 (qC L 0 [f])) 106 (qC B 0 [(j.getD ab)])) (λ_ k=>if(k==(f:Int))=ad then ae ad else ah) U' (λ_ k=>0<=k/\k<aa m.AN) ah rfl
  (λl Q=>UF G F b c d x m a n _ (a.ar1 h g) M C _ zp zp) ?_ (Mk rfl λk y _=>Au a (a.ar1 h g) k y) ?_ ?_
 refine Zs ?_;exact Xf _ _ _ rfl
 .rintro l Y j k hr ⟨k0,k1⟩ hj;cases j;rotate_left;cases hj;refine Zs ?_;refine CA zk ?_;refine Zs ?_;intro Z _;cases q:(k==(f:Int));refine Zf q ?_;exact⟨rfl,Xf _ _ _ rfl⟩;refine Zf q ?_;refine FU ?_;refine Xc q ?_;exact⟨rfl,VE⟩
 rintro T I D h2 S;rw[Ls]at D;rw[<- D];cases I;refine BM (JA (l:=[(6,.ptr 106 B 0)]) h2 ⟨rfl,AJ⟩) ?_;refine Z ?_;rfl;refine BM (JA (l:=[(6,.ptr 106 B 0)]) h2 ⟨rfl,AJ⟩) ?_;refine Z ?_;rfl
def iI(G)(f:Yy G)(b c d x m)(a:m.BW)(g:EQ m x)(v s:Int)(j:0<=v)(h:v<m.AN.length)(C:0<=s)(B:s<m.AN.length):Spec () G 57 [I5 b c d x,v,s] Zm (m.orthoB v s):=by
 rw[<- a.ortho_first j h C B,<- iA a j h,<- iu];refine PG 100 48 [.cell 6 4] func57 λX=>?_;have t1:(decide (0<=v)&&decide (v<aa x.places.l))=ad:=by rw[BP,g.len];exact⟨zT,zT⟩
 have F:(decide (0<=s)&&decide (s<aa x.places.l))=ad:=by rw[BP,g.len];exact⟨zT,zT⟩
 refine Z ?_;intro L K J z;refine Z ?_;refine Zc f ?_ (s:=Tv G _ _ _ _ _);refine Zg t1 ?_;refine Zc f ?_ (s:=Tv G _ _ _ _ _);refine Zg F ?_;obtain⟨nv,Q,rfl,u,y,t,_⟩:=g.at j h;refine Zv ⟨λ_=>.top,λi=>if i=9 then .any else .pure⟩ zk f zk zk ?_;simp -implicitDefEqProofs only[go_sem,seval,y,u,Sa,Pc,@DS,@GY];refine HO [(52,.AR),(53,.AR)] zk ?_ ((G6 G (I5 _ _ _ _) _).mono ?_);intro p E;simp only[BY,CL,CF]at E;rcases E with rfl|rfl<;>rfl;rintro w W ⟨M,A,rfl,O,N⟩;simp -implicitDefEqProofs only[go_sem,seval,Yb,O,N,t];refine BK ?_;refine Ms 50 100 190 150 (λo=>Ye (Ye (Ye (Ye Zm 103 (qC L 0 [I5 b c d x])) 104 (qC K 0 [nv])) 105 (qC J 0 [s])) 106 (qC z 0 [(o.getD ab)])) (λ_ k=>if m.bothB (nv:Int) s k=ad then ae (m.regU (nv:Int) k != m.regU s k)else ah) U' (λ_ k=>0<=k/\k<aa m.AN) ah rfl
  (λl P=>UF G f b c d x m a g _ (a.ar1 j h) M A _ zp zp) ?_ (Mk rfl λk I _=>Au a (a.ar1 j h) k I) ?_ ?_
 refine Zs ?_;exact Xf _ _ _ rfl
 .rintro l Y o k hr ⟨k0,k1⟩ hj;cases o;rotate_left;cases hj;refine Zs ?_;refine CA zk ?_;refine Zs ?_;intro Z _;refine BK ?_
  repeat refine Zz ?_
  refine Zv ⟨λi=>if i=3 then qI (m.regU (nv:Int) k)else qI (m.regU s k),λ_=>.pure⟩ zk f zk zk ?_;refine Zs ?_;refine⟨⟨zk,?_⟩,⟨zk,?_⟩,?_⟩;simp -implicitDefEqProofs only[go_sem,seval];exact(ei G f _ _ _ _ m a (g.rc _) _ _ j h k0).mono λv _ e=>by rw[e]<;>rfl
  simp -implicitDefEqProofs only[go_sem,seval];exact(ei G f _ _ _ _ m a (g.rc _) _ _ C B k0).mono λv _ e=>by rw[e]<;>rfl
  by_cases T:0<=m.regU (nv:Int) k;have n:=zU (m.regU (nv:Int) k>=0);by_cases S:0<=m.regU s k;have r:=zU (m.regU s k>=0);have q:m.bothB (nv:Int) s k=ad:=by unfold PM.bothB;rw[BP];exact⟨zT,zT⟩
  refine Zf (j3 q n r) ?_;refine FU ?_;refine Xc q ?_;exact⟨rfl,VE⟩;have r:=zV (m.regU s k>=0);have q:m.bothB (nv:Int) s k=ab:=by unfold PM.bothB;rw[lT];exact .inr zF
  refine Zf (j3 q n r) ?_;exact⟨rfl,Xf _ _ _ rfl⟩;have n:=zV (m.regU (nv:Int) k>=0);have q:m.bothB (nv:Int) s k=ab:=by unfold PM.bothB;rw[lT];exact .inl zF
  refine Zf (zi q n) ?_;exact⟨rfl,Xf _ _ _ rfl⟩
 rintro U H D h2 R;rw[Ls]at D;rw[<- D];cases H;refine BM (JA (l:=[(6,.ptr 106 z 0)]) h2 ⟨rfl,AJ⟩) ?_;refine Z ?_;rfl;refine BM (JA (l:=[(6,.ptr 106 z 0)]) h2 ⟨rfl,AJ⟩) ?_;refine Z ?_;rfl
