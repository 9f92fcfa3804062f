/- A part. No condition. -/
import Derived.Test.YtoahejkahaimnaaGreatDoorP45
set_option linter.all false
namespace Go.Hs
section
variable{P:Program}{E:Ent}{ops:Array Oper}{kp:Kps}
def Zye(a:Nat)(o:Oper):Oper:={ o with after:=o.after.push ⟨a,.data⟩ }
def On(ops:Array Oper)(b a:Nat):Array Oper:=ops.modify b (Zye a)
theorem T9(b a i:Nat):(On ops b a)[i]?=if b=i then(ops[i]?).map (Zye a)else ops[i]? := by
 unfold On
 grind
theorem An(b a:Nat):(On ops b a).size=ops.size:=by exact Array.size_modify
theorem A5(b a:Nat)(τ : Nat->V)(o:Oper):Zz (On ops b a) τ o=Zz ops τ o:=by
 unfold Zz
 cases o.guard with
 |none=>rfl
 |some p=>
  obtain⟨j,c⟩:=p
  have:((On ops b a)[j]?).bind (·.dst)=(ops[j]?).bind (·.dst):=by
   rw[T9]
   split
   cases ops[j]? <;> rfl
   rfl
  grind
theorem Q4(b a:Nat){bor:Md}{v:V}{o:Oper}{K:AS->Prop}{s:AS}:Rb P E kp (On ops b a) bor v o K s=Rb P E kp ops bor v o K s:=by
 unfold Rb;rw[A5]
theorem Si{b a i:Nat}{c:Array Bool}(h:i∈Region.ready .any ops c)(m:i=b->c.getD a false=true):i∈Region.ready .any (On ops b a) c:=by
 obtain⟨l,o,f,d⟩:=mem_ready.1 h;refine mem_ready.2 ⟨l,?_⟩
 by_cases g:b=i
 subst g;refine⟨Zye a o,by rw[T9,if_pos rfl,f];rfl,λe j k=>?_⟩
 rcases Array.mem_push.1 j with q|rfl
 grind
 grind
 exact⟨o,by rw[T9,if_neg g,f],d⟩
theorem M5{b a i:Nat}{c:Array Bool}(h:i∈Region.ready .any (On ops b a) c):i∈Region.ready .any ops c:=by
 obtain⟨l,o,f,d⟩:=mem_ready.1 h;rw[T9]at f
 by_cases k:b=i
 .rw[if_pos k]at f
  cases g:ops[i]? with
  |none=>grind
  |some o2=>
   rw[g]at f;cases f;exact mem_ready.2 ⟨l,o2,g,λe m j=>d e (Array.mem_push.2 (.inl m)) j⟩
 rw[if_neg k]at f;exact mem_ready.2 ⟨l,o,f,d⟩
theorem C1{b:Array Bool}{a i:Nat}(h:b.getD a false=true):(b.setIfInBounds i true).getD a false=true:=by
 by_cases c:i=a
 exact getD_set_true h;simp_all
theorem Pq{T:Told}{Q:AS->Prop}{b a:Nat}:∀ (n:Nat) (listed:Array Bool) (s:AS),listed.getD a false=true->Re P E kp (On ops b a) T Q n listed s->Re P E kp ops T Q n listed s
 |0,listed,s,ha,h=>⟨(by
   rw[List.eq_nil_iff_forall_not_mem];intro i d;have:=Si (b:=b) (a:=a) d λ_=>ha;rw[h.1]at this
   cases this),h.2⟩
 |n+1,listed,s,ha,h=>by
  refine⟨λl=>h.1 ?_,λi d o g=>?_⟩;rw[List.eq_nil_iff_forall_not_mem];intro i d;have:=M5 d
  grind
  have c:=Si (b:=b) (a:=a) d λ_=>ha
  have e:Rb P E kp ops (T.bor i) (T.vs i) o (Re P E kp (On ops b a) T Q n (listed.setIfInBounds i true)) s:=by
   by_cases j:b=i
   have:=h.2 i c (Zye a o) (by rw[T9,if_pos j,g];rfl);rw[Q4]at this;exact this;have:=h.2 i c o (by rw[T9,if_neg j,g]);rw[Q4]at this;exact this
  exact W4 (λk f=>Pq n _ k (C1 ha) f) e
theorem Zgz{bor:Md}{v:V}{o:Oper}{s:AS}{u g:V}(h:Ow P E kp ops bor v o s u)(d:Ow P E kp ops bor v o s g):u=g:=by
 unfold Ow at h d
 cases l:Zz ops s.τ o with
 |none=>grind
 |some b=>
  rw[l]at h d
  cases b with
  |false=>grind
  |true=>
   obtain⟨m,k,i,pos,after,e⟩:=o;cases k
   case load t x=>
    unfold ldR at h d
    cases bor<;>simp only at h d<;>first|grind|grind
   case call c=>
    obtain⟨a,j,n⟩:=c;cases a
    case value f=>
     simp only at h d
     split at h
     grind
     grind
    all_goals
     grind
   all_goals
    simp only at h d;rw[h]at d;exact Option.some.inj d
theorem Za4{bor:Md}{v:V}{o:Oper}{K K':AS->Prop}{s:AS}(c:Z9 bor o=.A)(h:Rb P E kp ops bor v o K s)(e:Rb P E kp ops bor v o K' s):Rb P E kp ops bor v o (λs'=>K s'/\K' s') s:=by
 unfold Rb at *
 cases f:Zz ops s.τ o with
 |none=>grind
 |some b=>
  rw[f]at h e
  cases b with
  |false=>grind
  |true=>
   unfold Xg at *;simp only[c]at h e⊢;obtain⟨d,u,mk,_,_,g,a⟩:=Q3 c h.2
   grind
def Zea(ops:Array Oper)(bor:Nat->Md)(a b:Nat):Bool:=
 !(Nat.beq a b)&&(List.range ops.size).all λi=>Nat.beq i a||(Nat.beq i b||(match ops[i]? with
  |none=>true
  |some o=>(match Z9 (bor i) o with|.P|.R|.L|.B|.A=>true|_=>false)||o.after.toList.any λe=>Region.binds .any e&&(Nat.beq e.on a||Nat.beq e.on b)))
theorem Z3p{T:Told}{Q:AS->Prop}{a b:Nat}(p:Zea ops T.bor a b=true):∀ (n:Nat) (listed:Array Bool) (s:AS),
  Re P E kp (On ops b a) T Q n listed s->Re P E kp (On ops a b) T Q n listed s->Re P E kp ops T Q n listed s:=by
 unfold Zea at p;rw[Bool.and_eq_true]at p;obtain⟨w,m⟩:=p
 have w:a≠b:=by intro e;simp_all
 rw[List.all_eq_true]at m;intro n
 induction n with
 |zero=>
  intro listed s z I;refine⟨?_,z.2⟩;rw[List.eq_nil_iff_forall_not_mem];intro i k
  by_cases l:i=b
  have:=Si (b:=a) (a:=b) k λe=>absurd (e.symm.trans l) w;rw[I.1]at this;cases this;have:=Si (b:=b) (a:=a) k λe=>absurd e l;rw[z.1]at this;cases this
 |succ n ih=>
  intro listed s z I
  by_cases G:listed.getD a false=true
  exact Pq _ _ _ G z
  by_cases F:listed.getD b false=true
  exact Pq _ _ _ F I;refine⟨λW=>z.1 ?_,λi k o x=>?_⟩;rw[List.eq_nil_iff_forall_not_mem];intro i k;have:=M5 k;rw[W]at this;cases this;have M:=k;obtain⟨Y,o',D,t⟩:=mem_ready.1 M;rw[x]at D;cases D;have K:i<listed.size\/¬ i<listed.size:=zo
  have g:i≠b->Rb P E kp ops (T.bor i) (T.vs i) o (Re P E kp (On ops b a) T Q n (listed.setIfInBounds i true)) s:=λl=>by
   have:=z.2 i (Si k λe=>absurd e l) o (by rw[T9,if_neg (Ne.symm l),x]);rw[Q4]at this;exact this
  have f:i≠a->Rb P E kp ops (T.bor i) (T.vs i) o (Re P E kp (On ops a b) T Q n (listed.setIfInBounds i true)) s:=λl=>by
   have:=I.2 i (Si k λe=>absurd e l) o (by rw[T9,if_neg (Ne.symm l),x]);rw[Q4]at this;exact this
  have j:i<listed.size->(listed.setIfInBounds i true).getD i false=true:=λy=>by
   simp[Array.getD,y]
  have H:i<listed.size:=by
   rcases K with q|q
   exact q;simp[Array.getD,q]at Y
  by_cases d:i=a
  subst d;exact W4 (λO c=>Pq _ _ _ (j H) c) (g w)
  by_cases h:i=b
  subst h;exact W4 (λO c=>Pq _ _ _ (j H) c) (f d);have r:=m i (List.mem_range.2 (by rw[Array.getElem?_eq_some_iff]at x;exact x.1));rw[x]at r
  have e1:Nat.beq i a=false:=by rw[Bool.eq_false_iff];exact λq=>d (Nat.eq_of_beq_eq_true q)
  have e2:Nat.beq i b=false:=by rw[Bool.eq_false_iff];exact λq=>h (Nat.eq_of_beq_eq_true q)
  rw[e1,e2,Bool.false_or,Bool.false_or,Bool.or_eq_true]at r
  rcases r with V|S
  by_cases N:Z9 (T.bor i) o=.A
  exact W4 (λO c=>ih _ _ c.1 c.2) (Za4 N (g h) (f d))
  have v:Z9 (T.bor i) o=.P\/Z9 (T.bor i) o=.R\/Z9 (T.bor i) o=.L\/Z9 (T.bor i) o=.B:=by
   cases C:Z9 (T.bor i) o<;>rw[C]at V N<;>simp at V N⊢
  obtain⟨u,U,k1⟩:=(Rj v).1 (g h);obtain⟨u',J,k2⟩:=(Rj v).1 (f d);rw[Zgz J U]at k2;exact(Rj v).2 ⟨u,U,ih _ _ k1 k2⟩;rw[List.any_eq_true]at S;obtain⟨e,X,C⟩:=S;rw[Bool.and_eq_true,Bool.or_eq_true]at C;have y:=t e (zu X) C.1
  rcases C.2 with q|q
  rw[Nat.eq_of_beq_eq_true q]at y;exact absurd y G;rw[Nat.eq_of_beq_eq_true q]at y;exact absurd y F
theorem Mf{Q:AS->Prop}{T:Told}(b a:Nat):∀ (l:List Nat) (s:AS),R1 P E kp ops T Q l s->R1 P E kp (On ops b a) T Q l s
 |[],s,h=>h
 |i::rest,s,h=>by
  rw[R1]at h⊢;rw[T9]
  cases f:ops[i]? with
  |none=>grind
  |some o=>
   rw[f]at h
   by_cases e:b=i
   rw[if_pos e]
   show Rb P E kp (On ops b a) (T.bor i) (T.vs i) (Zye a o) _ s
   rw[Q4];exact W4 (λd c=>Mf b a rest d c) h;rw[if_neg e]
   show Rb P E kp (On ops b a) (T.bor i) (T.vs i) o _ s
   rw[Q4];exact W4 (λd c=>Mf b a rest d c) h
inductive Ways where
 |ord (l:List Nat)
 |fork (a b:Nat) (x y:Ways)
def J0(bor:Nat->Md)(n:Nat):Array Oper->Ways->Bool
 |ops,.ord l=>Zfg ops bor [] l&&((List.range n).all (λj=>l.any (Nat.beq j))&&Nat.beq l.length n)
 |ops,.fork a b x y=>Zea ops bor a b&&(J0 bor n (On ops b a) x&&J0 bor n (On ops a b) y)
def Hh(P:Program)(E:Ent)(kp:Kps)(ops:Array Oper)(Q:AS->Prop)(T:Told)(s:AS):Ways->Prop
 |.ord l=>Cu P E kp ops Q T l s
 |.fork _ _ x y=>Hh P E kp ops Q T s x/\Hh P E kp ops Q T s y
@[go_sem] theorem waysH_ord(Q:AS->Prop)(T:Told)(s:AS)(l:List Nat):Hh P E kp ops Q T s (.ord l)=Cu P E kp ops Q T l s:=rfl
@[go_sem] theorem Zkm(Q:AS->Prop)(T:Told)(s:AS)(a b:Nat)(x y:Ways):Hh P E kp ops Q T s (.fork a b x y)=(Hh P E kp ops Q T s x/\Hh P E kp ops Q T s y):=rfl
theorem I8{T:Told}{Q:AS->Prop}{s:AS}:∀ (w:Ways) (ops':Array Oper),ops'.size=ops.size->(∀ l s,R1 P E kp ops T Q l s->R1 P E kp ops' T Q l s)->J0 T.bor ops.size ops' w=true->Hh P E kp ops Q T s w ->
  Re P E kp ops' T Q ops.size (Array.replicate ops.size false) s
 |.ord ord,ops',hsz,hO,c,h=>by
  simp only[J0,Bool.and_eq_true]at c;obtain⟨c,i,e⟩:=c
  have n:Closed ops' (Array.replicate ops.size false):=by
   intro k o _ f;simp only[Array.getD_eq_getD_getElem?,Array.getElem?_replicate]at f
   grind
  have g:=N1 (P:=P) (E:=E) (kp:=kp) (T:=T) (Q:=Q) ord [] (Array.replicate ops.size false) s (λk f=>by grind) (λj m=>.inr (by
   simp_all)) ⟨by grind,λj m=>by grind⟩ n c (hO _ _ (Il ord s h))
  simp_all
 |.fork a b x y,ops',hsz,hO,c,h=>by
  simp only[J0,Bool.and_eq_true]at c;obtain⟨d,r,p⟩:=c;exact Z3p d _ _ _ (I8 x _ (by rw[An,hsz]) (λl s q=>Mf b a l s (hO l s q)) r h.1) (I8 y _ (by rw[An,hsz]) (λl s q=>Mf a b l s (hO l s q)) p h.2)
theorem Zhs{id:Nat}{Q:Exit->AS->Prop}{s:AS}(w:Ways)(kp:Kps)(T:Told)(j:P.follows .mixedOrders=true)(k:Y6 E.G)(hd:(ops.all (Xz E.n))=true)(e:J0 T.bor ops.size ops w=true)(h:Hh P E kp ops (Q .normal) T s w):AW P E (.region id ops true) Q s:=by
 intro w0 w' i;refine wpIn_region_any j ?_
 have d:Qx E s w0 { w' with drawn:=w'.drawn+1 }:=by
  obtain⟨X,b⟩:=i;have f:=Goes.drew b.go.inv (w'.drawn+1);refine⟨{ X with w:={ X.w with drawn:=X.w.drawn+1 } },by rw[b.hw],?_,b.df.go b.go.inv (Goes.drew b.go.inv _),b.sz,λt=>?_,λg=>?_⟩;have:=f;rw[<- b.hw]at this;exact b.on_ this;have:=f.le;rw[<- b.hw]at this;exact(b.tm t).mono this;have:=f;rw[<- b.hw]at this;exact(b.gl g).go b.go.inv this
 have c:=I8 (P:=P) (E:=E) (kp:=kp) (ops:=ops) (T:=T) (Q:=Q .normal) w ops rfl (λ_ _ q=>q) e h;exact Jr k (R:=Post E Q) (λo a w h=>.inr ⟨o,rfl,h⟩) (λs a w m l=>.inl ⟨s,m,l⟩) hd ops.size _ s w0 _ d c
end
end Go.Hs
