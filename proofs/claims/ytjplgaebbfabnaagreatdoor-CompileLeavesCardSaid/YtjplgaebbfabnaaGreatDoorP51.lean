/- A part. No condition. -/
import Derived.Test.YtjplgaebbfabnaaGreatDoorP49
set_option linter.all false
namespace Go.Hs
section
variable{P:Program}{E:Ent}{ops:Array Oper}{kp:Kps}
def Zsh(a:Nat)(o:Oper):Oper:={ o with after:=o.after.push ⟨a,.data⟩ }
def Qq(ops:Array Oper)(b a:Nat):Array Oper:=ops.modify b (Zsh a)
theorem S9(b a i:Nat):(Qq ops b a)[i]?=if b=i then(ops[i]?).map (Zsh a)else ops[i]? := by
 unfold Qq
 grind
theorem O6(b a:Nat):(Qq ops b a).size=ops.size:=by exact Array.size_modify
theorem Z0b(b a:Nat)(τ : Nat->V)(o:Oper):Z8 (Qq ops b a) τ o=Z8 ops τ o:=by
 unfold Z8
 cases o.guard with
 |none=>rfl
 |some p=>
  obtain⟨j,c⟩:=p
  have:((Qq ops b a)[j]?).bind (·.dst)=(ops[j]?).bind (·.dst):=by
   rw[S9]
   split
   cases ops[j]? <;> rfl
   rfl
  grind
theorem Oa(b a:Nat){bor:Md}{v:V}{o:Oper}{K:AS->Prop}{s:AS}:Qe P E kp (Qq ops b a) bor v o K s=Qe P E kp ops bor v o K s:=by
 unfold Qe;rw[Z0b]
theorem Rf{b a i:Nat}{c:Array Bool}(h:i∈Region.ready .any ops c)(m:i=b->c.getD a false=true):i∈Region.ready .any (Qq ops b a) c:=by
 obtain⟨l,o,f,d⟩:=mem_ready.1 h;refine mem_ready.2 ⟨l,?_⟩
 by_cases g:b=i
 subst g;refine⟨Zsh a o,by rw[S9,if_pos rfl,f];rfl,λe j k=>?_⟩
 rcases Array.mem_push.1 j with q|rfl
 grind
 grind
 exact⟨o,by rw[S9,if_neg g,f],d⟩
theorem Kh{b a i:Nat}{c:Array Bool}(h:i∈Region.ready .any (Qq ops b a) c):i∈Region.ready .any ops c:=by
 obtain⟨l,o,f,d⟩:=mem_ready.1 h;rw[S9]at f
 by_cases k:b=i
 .rw[if_pos k]at f
  cases g:ops[i]? with
  |none=>grind
  |some o2=>
   rw[g]at f;cases f;exact mem_ready.2 ⟨l,o2,g,λe m j=>d e (Array.mem_push.2 (.inl m)) j⟩
 rw[if_neg k]at f;exact mem_ready.2 ⟨l,o,f,d⟩
theorem As{b:Array Bool}{a i:Nat}(h:b.getD a false=true):(b.setIfInBounds i true).getD a false=true:=by
 by_cases c:i=a
 exact getD_set_true h;simp_all
theorem O4{T:Told}{Q:AS->Prop}{b a:Nat}:∀ (n:Nat) (listed:Array Bool) (s:AS),listed.getD a false=true->Qb P E kp (Qq ops b a) T Q n listed s->Qb P E kp ops T Q n listed s
 |0,listed,s,ha,h=>⟨(by
   rw[List.eq_nil_iff_forall_not_mem];intro i d;have:=Rf (b:=b) (a:=a) d λ_=>ha;rw[h.1]at this
   cases this),h.2⟩
 |n+1,listed,s,ha,h=>by
  refine⟨λl=>h.1 ?_,λi d o g=>?_⟩;rw[List.eq_nil_iff_forall_not_mem];intro i d;have:=Kh d
  grind
  have c:=Rf (b:=b) (a:=a) d λ_=>ha
  have e:Qe P E kp ops (T.bor i) (T.vs i) o (Qb P E kp (Qq ops b a) T Q n (listed.setIfInBounds i true)) s:=by
   by_cases j:b=i
   have:=h.2 i c (Zsh a o) (by rw[S9,if_pos j,g];rfl);rw[Oa]at this;exact this;have:=h.2 i c o (by rw[S9,if_neg j,g]);rw[Oa]at this;exact this
  exact Vg (λk f=>O4 n _ k (As ha) f) e
theorem Zy4{bor:Md}{v:V}{o:Oper}{s:AS}{u g:V}(h:Mc P E kp ops bor v o s u)(d:Mc P E kp ops bor v o s g):u=g:=by
 unfold Mc at h d
 cases l:Z8 ops s.τ o with
 |none=>grind
 |some b=>
  rw[l]at h d
  cases b with
  |false=>grind
  |true=>
   obtain⟨m,k,i,pos,after,e⟩:=o;cases k
   case load t x=>
    unfold ldR at h d
    cases bor<;>simp only at h d<;>first|grind|grind
   case call c=>
    obtain⟨a,j,n⟩:=c;cases a
    case value f=>
     simp only at h d
     split at h
     grind
     grind
    all_goals
     grind
   all_goals
    simp only at h d;rw[h]at d;exact Option.some.inj d
theorem Z49{bor:Md}{v:V}{o:Oper}{K K':AS->Prop}{s:AS}(c:Yk bor o=.A)(h:Qe P E kp ops bor v o K s)(e:Qe P E kp ops bor v o K' s):Qe P E kp ops bor v o (λs'=>K s'/\K' s') s:=by
 unfold Qe at *
 cases f:Z8 ops s.τ o with
 |none=>grind
 |some b=>
  rw[f]at h e
  cases b with
  |false=>grind
  |true=>
   unfold Xt at *;simp only[c]at h e⊢;obtain⟨d,u,mk,_,_,g,a⟩:=P9 c h.2
   grind
def Eo(ops:Array Oper)(bor:Nat->Md)(a b:Nat):Bool:=
 !(Nat.beq a b)&&(List.range ops.size).all λi=>Nat.beq i a||(Nat.beq i b||(match ops[i]? with
  |none=>true
  |some o=>(match Yk (bor i) o with|.P|.R|.L|.B|.A=>true|_=>false)||o.after.toList.any λe=>Region.binds .any e&&(Nat.beq e.on a||Nat.beq e.on b)))
theorem Bv{T:Told}{Q:AS->Prop}{a b:Nat}(p:Eo ops T.bor a b=true):∀ (n:Nat) (listed:Array Bool) (s:AS),
  Qb P E kp (Qq ops b a) T Q n listed s->Qb P E kp (Qq ops a b) T Q n listed s->Qb P E kp ops T Q n listed s:=by
 unfold Eo at p;rw[Bool.and_eq_true]at p;obtain⟨w,m⟩:=p
 have w:a≠b:=by intro e;simp_all
 rw[List.all_eq_true]at m;intro n
 induction n with
 |zero=>
  intro listed s z I;refine⟨?_,z.2⟩;rw[List.eq_nil_iff_forall_not_mem];intro i k
  by_cases l:i=b
  have:=Rf (b:=a) (a:=b) k λe=>absurd (e.symm.trans l) w;rw[I.1]at this;cases this;have:=Rf (b:=b) (a:=a) k λe=>absurd e l;rw[z.1]at this;cases this
 |succ n ih=>
  intro listed s z I
  by_cases G:listed.getD a false=true
  exact O4 _ _ _ G z
  by_cases F:listed.getD b false=true
  exact O4 _ _ _ F I;refine⟨λW=>z.1 ?_,λi k o x=>?_⟩;rw[List.eq_nil_iff_forall_not_mem];intro i k;have:=Kh k;rw[W]at this;cases this;have M:=k;obtain⟨Y,o',D,t⟩:=mem_ready.1 M;rw[x]at D;cases D;have K:i<listed.size\/¬ i<listed.size:=zo
  have g:i≠b->Qe P E kp ops (T.bor i) (T.vs i) o (Qb P E kp (Qq ops b a) T Q n (listed.setIfInBounds i true)) s:=λl=>by
   have:=z.2 i (Rf k λe=>absurd e l) o (by rw[S9,if_neg (Ne.symm l),x]);rw[Oa]at this;exact this
  have f:i≠a->Qe P E kp ops (T.bor i) (T.vs i) o (Qb P E kp (Qq ops a b) T Q n (listed.setIfInBounds i true)) s:=λl=>by
   have:=I.2 i (Rf k λe=>absurd e l) o (by rw[S9,if_neg (Ne.symm l),x]);rw[Oa]at this;exact this
  have j:i<listed.size->(listed.setIfInBounds i true).getD i false=true:=λy=>by
   simp[Array.getD,y]
  have H:i<listed.size:=by
   rcases K with q|q
   exact q;simp[Array.getD,q]at Y
  by_cases d:i=a
  subst d;exact Vg (λO c=>O4 _ _ _ (j H) c) (g w)
  by_cases h:i=b
  subst h;exact Vg (λO c=>O4 _ _ _ (j H) c) (f d);have r:=m i (List.mem_range.2 (by rw[Array.getElem?_eq_some_iff]at x;exact x.1));rw[x]at r
  have e1:Nat.beq i a=false:=by rw[Bool.eq_false_iff];exact λq=>d (Nat.eq_of_beq_eq_true q)
  have e2:Nat.beq i b=false:=by rw[Bool.eq_false_iff];exact λq=>h (Nat.eq_of_beq_eq_true q)
  rw[e1,e2,Bool.false_or,Bool.false_or,Bool.or_eq_true]at r
  rcases r with V|S
  by_cases N:Yk (T.bor i) o=.A
  exact Vg (λO c=>ih _ _ c.1 c.2) (Z49 N (g h) (f d))
  have v:Yk (T.bor i) o=.P\/Yk (T.bor i) o=.R\/Yk (T.bor i) o=.L\/Yk (T.bor i) o=.B:=by
   cases C:Yk (T.bor i) o<;>rw[C]at V N<;>simp at V N⊢
  obtain⟨u,U,k1⟩:=(Ql v).1 (g h);obtain⟨u',J,k2⟩:=(Ql v).1 (f d);rw[Zy4 J U]at k2;exact(Ql v).2 ⟨u,U,ih _ _ k1 k2⟩;rw[List.any_eq_true]at S;obtain⟨e,X,C⟩:=S;rw[Bool.and_eq_true,Bool.or_eq_true]at C;have y:=t e (zu X) C.1
  rcases C.2 with q|q
  rw[Nat.eq_of_beq_eq_true q]at y;exact absurd y G;rw[Nat.eq_of_beq_eq_true q]at y;exact absurd y F
theorem Ok{Q:AS->Prop}{T:Told}(b a:Nat):∀ (l:List Nat) (s:AS),Q6 P E kp ops T Q l s->Q6 P E kp (Qq ops b a) T Q l s
 |[],s,h=>h
 |i::rest,s,h=>by
  rw[Q6]at h⊢;rw[S9]
  cases f:ops[i]? with
  |none=>grind
  |some o=>
   rw[f]at h
   by_cases e:b=i
   rw[if_pos e]
   show Qe P E kp (Qq ops b a) (T.bor i) (T.vs i) (Zsh a o) _ s
   rw[Oa];exact Vg (λd c=>Ok b a rest d c) h;rw[if_neg e]
   show Qe P E kp (Qq ops b a) (T.bor i) (T.vs i) o _ s
   rw[Oa];exact Vg (λd c=>Ok b a rest d c) h
theorem Z8w{id:Nat}{Q:Exit->AS->Prop}{s:AS}(a b:Nat)(d c:List Nat)(kp:Kps)(T:Told)(J:P.follows .mixedOrders=true)(M:Y6 E.G)(K:(ops.all (Wo E.n))=true)(z:Eo ops T.bor a b=true)
  (u:Jx (Qq ops b a) T.bor [] d=true) (q:(List.range ops.size).all (λj=>d.any (Nat.beq j))=true) (m:Nat.beq d.length ops.size=true)
  (r:Jx (Qq ops a b) T.bor [] c=true) (p:(List.range ops.size).all (λj=>c.any (Nat.beq j))=true) (l:Nat.beq c.length ops.size=true)
  (F:Jy P E kp ops (Q .normal) T d s) (D:Jy P E kp ops (Q .normal) T c s):AW P E (.region id ops true) Q s:=by
 intro H w I;refine wpIn_region_any J ?_
 have A:Mb E s H { w with drawn:=w.drawn+1 }:=by
  obtain⟨X,f⟩:=I;have C:=Goes.drew f.go.inv (w.drawn+1);refine⟨{ X with w:={ X.w with drawn:=X.w.drawn+1 } },by rw[f.hw],?_,f.df.go f.go.inv (Goes.drew f.go.inv _),f.sz,λt=>?_,λg=>?_⟩;have:=C;rw[<- f.hw]at this;exact f.on_ this;have:=C.le;rw[<- f.hw]at this;exact(f.tm t).mono this;have:=C;rw[<- f.hw]at this;exact(f.gl g).go f.go.inv this
 have one:∀ (b a:Nat) (ord:List Nat),Jx (Qq ops b a) T.bor [] ord=true->(List.range ops.size).all (λj=>ord.any (Nat.beq j))=true->Nat.beq ord.length ops.size=true->Jy P E kp ops (Q .normal) T ord s ->
   Qb P E kp (Qq ops b a) T (Q .normal) ops.size (Array.replicate ops.size false) s:=by
  intro b a ord B i v h
  have L:Closed (Qq ops b a) (Array.replicate ops.size false):=by
   intro k o _ x;simp only[Array.getD_eq_getD_getElem?,Array.getElem?_replicate]at x
   split at x<;>simp at x
  have e:=Qa (P:=P) (E:=E) (kp:=kp) (T:=T) (Q:=Q .normal) ord [] (Array.replicate ops.size false) s (λk x=>by cases x) (λj y=>.inr (by
   rw[List.all_eq_true]at i;rw[O6]at y
   exact N3.1 (i j (List.mem_range.2 y)))) ⟨by simp[O6],λj y=>by rw[O6]at y;simp[y]⟩ L B (Ok b a _ _ (Oj ord s h))
  rw[Nat.eq_of_beq_eq_true v]at e;exact e
 have e:=Bv z _ _ _ (one b a d u q m F) (one a b c r p l D);exact O3 M (R:=Post E Q) (λN a w h=>.inr ⟨N,rfl,h⟩) (λs a w F D=>.inl ⟨s,F,D⟩) K ops.size _ s H _ A e
inductive Ways where
 |ord (l:List Nat)
 |fork (a b:Nat) (x y:Ways)
def Hb(bor:Nat->Md)(n:Nat):Array Oper->Ways->Bool
 |ops,.ord l=>Jx ops bor [] l&&((List.range n).all (λj=>l.any (Nat.beq j))&&Nat.beq l.length n)
 |ops,.fork a b x y=>Eo ops bor a b&&(Hb bor n (Qq ops b a) x&&Hb bor n (Qq ops a b) y)
def Gv(P:Program)(E:Ent)(kp:Kps)(ops:Array Oper)(Q:AS->Prop)(T:Told)(s:AS):Ways->Prop
 |.ord l=>Jy P E kp ops Q T l s
 |.fork _ _ x y=>Gv P E kp ops Q T s x/\Gv P E kp ops Q T s y
@[go_sem] theorem waysH_ord(Q:AS->Prop)(T:Told)(s:AS)(l:List Nat):Gv P E kp ops Q T s (.ord l)=Jy P E kp ops Q T l s:=rfl
@[go_sem] theorem Zhq(Q:AS->Prop)(T:Told)(s:AS)(a b:Nat)(x y:Ways):Gv P E kp ops Q T s (.fork a b x y)=(Gv P E kp ops Q T s x/\Gv P E kp ops Q T s y):=rfl
theorem Gm{T:Told}{Q:AS->Prop}{s:AS}:∀ (w:Ways) (ops':Array Oper),ops'.size=ops.size->(∀ l s,Q6 P E kp ops T Q l s->Q6 P E kp ops' T Q l s)->Hb T.bor ops.size ops' w=true->Gv P E kp ops Q T s w ->
  Qb P E kp ops' T Q ops.size (Array.replicate ops.size false) s
 |.ord ord,ops',hsz,hO,c,h=>by
  simp only[Hb,Bool.and_eq_true]at c;obtain⟨c,i,e⟩:=c
  have n:Closed ops' (Array.replicate ops.size false):=by
   intro k o _ f;simp only[Array.getD_eq_getD_getElem?,Array.getElem?_replicate]at f
   grind
  have g:=Qa (P:=P) (E:=E) (kp:=kp) (T:=T) (Q:=Q) ord [] (Array.replicate ops.size false) s (λk f=>by grind) (λj m=>.inr (by
   simp_all)) ⟨by grind,λj m=>by grind⟩ n c (hO _ _ (Oj ord s h))
  simp_all
 |.fork a b x y,ops',hsz,hO,c,h=>by
  simp only[Hb,Bool.and_eq_true]at c;obtain⟨d,r,p⟩:=c;exact Bv d _ _ _ (Gm x _ (by rw[O6,hsz]) (λl s q=>Ok b a l s (hO l s q)) r h.1) (Gm y _ (by rw[O6,hsz]) (λl s q=>Ok a b l s (hO l s q)) p h.2)
theorem Jc{id:Nat}{Q:Exit->AS->Prop}{s:AS}(w:Ways)(kp:Kps)(T:Told)(k:P.follows .mixedOrders=true)(m:Y6 E.G)(l:(ops.all (Wo E.n))=true)(e:Hb T.bor ops.size ops w=true)(h:Gv P E kp ops (Q .normal) T s w):AW P E (.region id ops true) Q s:=by
 intro i w' j;refine wpIn_region_any k ?_
 have d:Mb E s i { w' with drawn:=w'.drawn+1 }:=by
  obtain⟨X,b⟩:=j;have f:=Goes.drew b.go.inv (w'.drawn+1);refine⟨{ X with w:={ X.w with drawn:=X.w.drawn+1 } },by rw[b.hw],?_,b.df.go b.go.inv (Goes.drew b.go.inv _),b.sz,λt=>?_,λg=>?_⟩;have:=f;rw[<- b.hw]at this;exact b.on_ this;have:=f.le;rw[<- b.hw]at this;exact(b.tm t).mono this;have:=f;rw[<- b.hw]at this;exact(b.gl g).go b.go.inv this
 have c:=Gm (P:=P) (E:=E) (kp:=kp) (ops:=ops) (T:=T) (Q:=Q .normal) w ops rfl (λ_ _ q=>q) e h;exact O3 m (R:=Post E Q) (λr a w h=>.inr ⟨r,rfl,h⟩) (λs a w p o=>.inl ⟨s,p,o⟩) l ops.size _ s i _ d c
end
end Go.Hs
