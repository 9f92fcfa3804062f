/- A part. No condition. -/
import Derived.Test.YtjplgaebbfabnaaGreatDoorP12
set_option linter.all false
namespace Go.Hs
section
variable{P:Program}{E:Ent}
inductive Cls where
 |P|R|L|B|A|W
 deriving DecidableEq
inductive Md where
 |pure|lend|any|keep|own
 deriving DecidableEq
abbrev Kps:=List (TypeId×V×V)
def KpH(P:Program)(kp:Kps)(H:Heap):Prop:=∀ p∈kp,Wc P H p.1 p.2.1=some p.2.2
theorem KpH.new{kp:Kps}{H:Heap}(h:KpH P kp H){d:Nat}(l:H d=.dead)(x:AObj):KpH P kp (Ya H d x):=by
 intro p i;have a:=h p i;unfold Wc at a⊢
 split at a
 rename_i f g c k
 split at a
 rename_i q m n o j
 have b:f≠d:=λe=>by grind
 rw[Zp _ _ b,j];exact a
 grind
 grind
def Ki(bor:Md):Cls:=match bor with|.lend=>.P|.keep=>.L|_=>.R
def Yk(bor:Md)(o:Oper):Cls:=
 match o.op with
 |.move _|.assign _|.pick .. |.binOp .. |.unOp .. |.convert .. |.extract .. |.field .. |.build .. |.fieldAddr .. |.indexAddr .. |.index .. |.slice .. |.makeFunc .. |.makeInterface .. |.nilCheck _|.typeAssert ..=>.P
 |.lookup ..=>.R
 |.load .. => Ki bor
 |.alloc _|.box .. |.buildSlice .. |.makeSlice ..=>.A
 |.makeMap _ none=>.A
 |.call { callee:=.value _,.. }=>match bor with|.pure=>.P|.own=>.P|.lend=>.B|_=>.W
 |.call { callee:=.builtin .len,.. }=>.P
 |.call { callee:=.builtin .max,.. }=>.P
 |.call { callee:=.builtin .min,.. }=>.P
 |_=>.W
def Pc:Cls->Cls->Bool
 |.P,_=>true
 |.L,_=>true
 |.R,.W=>false
 |.R,_=>true
 |.B,.P|.B,.R|.B,.L|.B,.B=>true
 |.A,.P|.A,.R|.A,.L|.A,.A=>true
 |_,_=>false
def Zkb(P:Program)(G:Nat->V)(f:FuncId)(args:List V)(v:V):Prop:=
 Z7 P f=true/\Spec P G f (args.map (V.recol Col.ent)) Zj (λa _=>a.recol Col.bk=v)
def OwnC(P:Program)(G:Nat->V)(f:FuncId)(args:List V)(v:V):Prop:=∀ (H:Heap) (K:V->Heap->Prop),K v H->CallA P G f args H K
def Zrca(P:Program)(G:Nat->V)(bor:Md)(f:FuncId)(args:List V)(v:V):Prop:=match bor with|.own=>OwnC P G f args v|_=>Zkb P G f args v
def BorC(P:Program)(G:Nat->V)(f:FuncId)(args:List V)(H:Heap)(v:V):Prop:=
 Y6 G->∀ K:V->Heap->Prop,K v H->CallA P G f args H K
def Xt(P:Program)(E:Ent)(kp:Kps)(bor:Md)(v:V)(s:AS)(o:Oper)(K:V->Heap->Prop):Prop:=
 match Yk bor o with
 |.A=>(match o.dst with|some d=>s.H (E.q+d)=.dead|none=>False)/\Yy P E s o K
 |.W=>Yy P E s o λu a=>KpH P kp a/\K u a
 |.R=>Yy P E s o K
 |.L=>match o.op with
  |.load t x=>((t,s.ev E x,v)∈kp/\KpH P kp s.H)/\K v s.H
  |_=>False
 |.P=>match o.op with
  |.call { callee:=.value f,args,.. }=>match s.ev E f with
   |.func (.func fid) first cap=>Zrca P E.G bor fid (first++args.toList.map (s.ev E)++cap) v/\K v s.H
   |_=>False
  |.load t x=>match Vo P t (s.ev E x)with
   |some u=>K u s.H
   |none=>False
  |_=>Yy P E s o K
 |.B=>match o.op with
  |.call { callee:=.value f,args,.. }=>match s.ev E f with
   |.func (.func fid) first cap=>BorC P E.G fid (first++args.toList.map (s.ev E)++cap) s.H v/\K v s.H
   |_=>False
  |_=>False
theorem Zqd{H:Heap}{d c bytes:Nat}{a b:V}{K K':V->Heap->Prop}(e:∀ v H,K v H->K' v H)(h:N2 H d c bytes a b K):N2 H d c bytes a b K':=by
 unfold N2 at *
 split at h
 grind
 split at h
 grind
 grind
 grind
 grind
theorem Xn{s:AS}{o:Oper}{K K':V->Heap->Prop}(a:∀ v H,K v H->K' v H)(h:Yy P E s o K):Yy P E s o K':=by
 have plain:(match I6 P (s.ev E) o with|some v=>K v s.H|none=>False)->(match I6 P (s.ev E) o with|some v=>K' v s.H|none=>False):=by
  intro h
  cases n:I6 P (s.ev E) o with
  |none=>rw[n]at h;exact h
  |some v=>rw[n]at h;exact a _ _ h
 obtain⟨w,u,j,pos,after,i⟩:=o;cases u
 case load t x=>
  simp only[Yy]at *
  split at h
  exact a _ _ h;exact h.elim
 case store t p x=>
  simp only[Yy]at *
  split at h
  exact a _ _ h;exact h.elim
 case alloc t=>
  simp only[Yy]at *
  split at h
  exact⟨h.1,λg=>a _ _ (h.2 g)⟩;exact h.elim
 case box t x=>
  simp only[Yy]at *
  split at h
  exact⟨h.1,λg=>a _ _ (h.2 g)⟩;exact h.elim
 case buildSlice t len parts=>
  simp only[Yy]at *
  split at h
  unfold Tb at *
  split at h
  split at h
  refine⟨h.1,h.2.1,h.2.2.1,?_⟩;have e:=h.2.2.2
  split at e
  exact λg=>a _ _ (e g);exact e.elim;exact h.elim;exact h.elim;exact h.elim
 case makeSlice t l c=>
  simp only[Yy]at *
  split at h
  unfold U4 at *
  split at h
  split at h
  exact⟨h.1,h.2.1,h.2.2.1,h.2.2.2.1,h.2.2.2.2.1,h.2.2.2.2.2.1,λg=>a _ _ (h.2.2.2.2.2.2 g)⟩;exact h.elim;exact h.elim;exact h.elim
 case call c=>
  obtain⟨d,q,y⟩:=c;cases d
  case value f=>
   simp only[Yy]at *
   split at h
   exact h.mono a;exact h.elim
  case invoke r m=>exact plain h
  case builtin b=>
   cases b
   case append=>
    simp only[Yy]at *
    split at h
    unfold Kb at *
    split at h
    split at h
    exact h.elim
    split at h
    exact⟨h.1,h.2.1,Zqd a h.2.2⟩;exact h.elim;exact h.elim;exact h.elim;exact h.elim
   all_goals exact plain h
 case panic x=>exact h
 case lookup t m x ok=>
  simp only[Yy]at *
  split at h
  exact a _ _ h;exact h.elim
 case mapUpdate t m k x=>exact J4 a h
 case insert t m k x=>exact J4 a h
 case makeMap t r=>
  cases r with
  |some r=>exact plain h
  |none=>
   simp only[Yy]at *
   split at h
   exact λb=>a _ _ (h b);exact h
 all_goals exact plain h
theorem Zkr{H:Heap}{t:TypeId}{a u:V}(h:Vo P t a=some u):Wc P H t a=some u:=by
 cases a<;>first|exact h|(simp[Vo]at h)
theorem Ku(p:Y6 E.G){kp:Kps}{bor:Md}{v:V}{s:AS}{o:Oper}{K:V->Heap->Prop}(h:Xt P E kp bor v s o K):Yy P E s o K:=by
 obtain⟨y,A,m,pos,after,i⟩:=o;unfold Xt at h
 split at h
 grind
 exact Xn (λ_ _ w=>w.2) h;exact h
 split at h
 rename_i t x a;subst a;simp only[Yy];rw[h.1.2 _ h.1.1];exact h.2
 grind
 split at h
 rename_i f b l a;subst a;simp only[Yy]
 split at h
 rename_i j first k d;rw[d];obtain⟨c,n⟩:=h;unfold Zrca at c
 split at c
 exact CallP.of (c _ _ n);obtain⟨g,r⟩:=c;exact CallP.of (CallA.pure p g (r.mono λz _ e=>by rw[e];exact n));exact h.elim;rename_i t x a;subst a;simp only[Yy]
 split at h
 rename_i u q;rw[Zkr q];exact h;exact h.elim;exact h
 split at h
 rename_i f b l a;simp only at a;subst a;simp only[Yy]
 split at h
 rename_i j first k d;rw[d];exact CallP.of (h.1 p _ h.2);exact h.elim;exact h.elim
theorem Lr{ρ k:Operand->V}{o:Oper}(h:∀ x∈o.op.operands,ρ x = k x):I6 P ρ o=I6 P k o:=by
 obtain⟨E,w,B,pos,after,A⟩:=o;have u:∀ (l:Array Operand),(∀ x∈l,ρ x = k x)->l.toList.map ρ = l.toList.map k:=λl u=>List.map_congr_left (λx g=>u x (zu g))
 cases w<;>simp only[Op.operands]at h<;>simp only[I6]
 case move x=>rw[h x zS]
 case assign x=>rw[h x zS]
 case pick c a b=>rw[h c zS,h a zS,h b zS]
 case binOp w t x y yt=>rw[h x zS,h y zS]
 case unOp w t x=>rw[h x zS]
 case convert s d x=>rw[h x zS]
 case extract t i=>rw[h t zS]
 case field t x f=>rw[h x zS]
 case build t parts=>
  congr 1
  apply List.map_congr_left;intro p D;rw[h p.2 (by simp;exact⟨p.1,zu D⟩)]
 case fieldAddr t x f=>rw[h x zS]
 case indexAddr t x i=>rw[h x zS,h i zS]
 case index t x i=>rw[h x zS,h i zS]
 case slice t x lo hi mx=>
  have z:∀ q:Option Operand,(∀ y∈q,ρ y = k y)->q.map ρ = q.map k:=λq C=>by cases q<;>simp at C⊢;exact C
  rw[h x zS,z lo (λy v=>h y (by simp;exact .inr (.inl v))),z hi (λy v=>h y (by simp;exact .inr (.inr (.inl v)))),z mx (λy v=>h y (by simp;exact .inr (.inr (.inr v))))]
 case makeFunc fn first cap=>rw[u first (λx g=>h x (by simp[g])),u cap (λx g=>h x (by simp[g]))]
 case makeInterface t x=>rw[h x zS]
 case nilCheck x=>rw[h x zS]
 case load t x=>rw[h x zS]
 case lookup t m x ok=>rw[h m zS,h x zS]
 case typeAssert x t T ok=>rw[h x zS]
 case call c=>
  obtain⟨j,e,n⟩:=c
  cases j<;>try rfl
  rename_i b
  cases b<;>try rfl
  case max=>exact congrArg Zwc (u e λx g=>h x (by simpa[Call.operands]using g))
  case min=>exact congrArg Zl0 (u e λx g=>h x (by simpa[Call.operands]using g))
  simp only[Call.operands]at h;obtain⟨l⟩:=e
  cases l with
  |nil=>rfl
  |cons x r=>
   cases r with
   |nil=>
    have:=h x zS
    show(match[x],n[0]? with|[x],some t=>F5 P t (ρ x)|_,_=>none)=(match[x],n[0]? with|[x],some t=>F5 P t (k x)|_,_=>none)
    cases n[0]? with
    |none=>rfl
    |some t=>simp only[this]
   |cons y r=>rfl
theorem Z8h{s s':AS}{o:Oper}{K:V->Heap->Prop}(a:s.H=s'.H)(h:∀ x∈o.op.operands,s.ev E x=s'.ev E x):Yy P E s o K=Yy P E s' o K:=by
 have g:=Lr (P:=P) h;obtain⟨A,q,n,pos,after,j⟩:=o
 cases q<;>simp only[Op.operands]at h<;>simp only[Yy]<;>try(rw[g,a])
 case lookup t m x ok=>rw[h m zS,h x zS,a]
 case load t x=>rw[h x zS,a]
 case store t p x=>rw[h p zS,h x zS,a]
 case alloc t=>rw[a]
 case box t x=>rw[h x zS,a]
 case buildSlice t len parts=>
  rw[a]
  have:(parts.toList.map λp=>(p.1,s.ev E p.2))=(parts.toList.map λp=>(p.1,s'.ev E p.2)):=by
   apply List.map_congr_left;intro p v;rw[h p.2 (by simp;exact⟨p.1,zu v⟩)]
  rw[this]
 case makeSlice t l c=>rw[h l zS,h c zS,a]
 case panic x=>rw[h x zS,a]
 case mapUpdate t m k x=>rw[h m zS,h k zS,h x zS,a]
 case insert t m k x=>rw[h m zS,h k zS,h x zS,a]
 case makeMap t r=>
  cases r with
  |some r=>simp only[Yy]<;>(try rw[g,a])
  |none=>simp only[Yy]<;>(try rw[a])
 case call c=>
  obtain⟨i,e,B⟩:=c;simp only[Call.operands]at h;cases i
  case value f=>
   have z:s.ev E f=s'.ev E f:=h f zS;have w:e.toList.map (s.ev E)=e.toList.map (s'.ev E):=List.map_congr_left (λx u=>h x (by simp;exact .inr (zu u)));simp only[z,w,a]
  case invoke r m=>simp only[g,a]
  case builtin b=>
   cases b
   case append=>
    simp only
    split
    .rename_i x y d hargs
     have:e = #[x,y]:=by cases e;simp at hargs;rw[hargs]
     subst this;rw[h x zS,h y zS]
     try rw[a]
    rfl
   all_goals simp only[g,a]
def Qe(P:Program)(E:Ent)(kp:Kps)(ops:Array Oper)(bor:Md)(v:V)(o:Oper)(K:AS->Prop)(s:AS):Prop:=
 match Z8 ops s.τ o with
 |some true=>Xt P E kp bor v s o λu a=>K (AS.put { s with H:=a } o.dst u)
 |some false=>K (s.put o.dst (.tuple []))
 |none=>False
theorem Zsq{kp:Kps}{bor:Md}{v:V}{s:AS}{o:Oper}{K K':V->Heap->Prop}(a:∀ v H,K v H->K' v H)(h:Xt P E kp bor v s o K):Xt P E kp bor v s o K':=by
 unfold Xt at *
 split at h
 exact⟨h.1,Xn a h.2⟩;exact Xn (λ_ _ b=>⟨b.1,a _ _ b.2⟩) h;exact Xn a h
 grind
 split at h
 split at h
 exact⟨h.1,a _ _ h.2⟩;exact h.elim
 split at h
 exact a _ _ h;exact h.elim;exact Xn a h
 grind
theorem Vg{kp:Kps}{ops:Array Oper}{bor:Md}{v:V}{o:Oper}{K K':AS->Prop}{s:AS}(a:∀ s,K s->K' s)(h:Qe P E kp ops bor v o K s):Qe P E kp ops bor v o K' s:=by
 unfold Qe at *
 split at h
 exact Zsq (λ_ _=>a _) h
 grind
 grind
theorem Kd{ops:Array Oper}{τ a:Nat->V}{o:Oper}(h:∀ d,(∃ g b,o.guard=some (g,b)/\(ops[g]?).bind (·.dst)=some d) -> τ d = a d):Z8 ops τ o=Z8 ops a o:=by
 unfold Z8
 cases c:o.guard with
 |none=>rfl
 |some p=>
  obtain⟨g,b⟩:=p;simp only
  cases e:(ops[g]?).bind (·.dst)with
  |none=>rfl
  |some d=>simp_all
theorem Zmb{s:AS}{dst:Option Nat}{v:V}{x:Operand}(h:∀ d,dst=some d->x ≠ .tmp d):(s.put dst v).ev E x=s.ev E x:=by
 cases dst with
 |none=>rfl
 |some d=>
  cases x with
  |tmp t=>
   have:t≠d:=λe=>h d rfl (by rw[e]);simp[AS.put,AS.ev,Ya,this]
  |_=>rfl
theorem Uo(s:AS)(dst:Option Nat)(v:V):(s.put dst v).H=s.H:=by cases dst<;>rfl
theorem Zxh{α : Type}(f:Nat -> α){a b:Nat}(x y : α)(h:a≠b):Ya (Ya f a x) b y=Ya (Ya f b y) a x:=by
 funext n
 simp only[Ya]
 grind
theorem Zeq(s:AS){x y:Option Nat}(v u:V)(h:∀ d,x=some d->y≠some d):(s.put x v).put y u=(s.put y u).put x v:=by
 cases x with
 |none=>rfl
 |some a=>
  cases y with
  |none=>rfl
  |some b=>
   have:a≠b:=λe=>h a rfl (by rw[e]);simp only[AS.put];rw[Zxh _ _ _ this]
theorem Py(s:AS)(x:Option Nat)(v:V)(H:Heap):({ (s.put x v)with H:=H }:AS)=AS.put { s with H:=H } x v:=by cases x<;>rfl
theorem Z7k{ops:Array Oper}{f c:Oper}(h:f.apart ops c=true):
  (∀ s:AS,∀ v,(∀ x∈c.op.operands,(s.put f.dst v).ev E x=s.ev E x)/\Z8 ops (s.put f.dst v).τ c=Z8 ops s.τ c) /\
  (∀ s:AS,∀ v,(∀ x∈f.op.operands,(s.put c.dst v).ev E x=s.ev E x)/\Z8 ops (s.put c.dst v).τ f=Z8 ops s.τ f) /\
  (∀ s:AS,∀ v u,(s.put f.dst v).put c.dst u=(s.put c.dst u).put f.dst v):=by
 obtain⟨p,t,r⟩:=Oper.apart_spec h
 have i:∀ (o:Oper) (x:Operand) (d:Nat),x∈o.op.operands->x=.tmp d->d∈o.looksAt ops:=by
  intro o x d l e;subst e;refine List.mem_append_left _ ?_;simp only[List.mem_filterMap];exact⟨.tmp d,zu l,rfl⟩
 have k:∀ (o:Oper) (d:Nat),(∃ g b,o.guard=some (g,b)/\(ops[g]?).bind (·.dst)=some d)->d∈o.looksAt ops:=by
  rintro o d ⟨g,b,q,j⟩;refine List.mem_append_right _ ?_;simp[q,j]
 have a : ∀ (s:AS) (x:Option Nat) (v:V) (d:Nat),(∀ e,x=some e->d≠e)->(s.put x v).τ d=s.τ d:=by
  intro s x v d n
  cases x with
  |none=>rfl
  |some e=>simp[AS.put,Ya,n e rfl]
 refine⟨λs v=>⟨λx l=>Zmb λd j e=>p d j (i c x d l e),Kd λd j=>a _ _ _ _ λe n m=>?_⟩,
  λs v=>⟨λx l=>Zmb λd j e=>r d j (i f x d l e),Kd λd j=>a _ _ _ _ λe n m=>?_⟩,λs v u=>Zeq s v u t⟩
 subst m;exact p d n (k c d j)
 grind
def ldR(P:Program)(kp:Kps)(bor:Md)(v:V)(H:Heap)(t:TypeId)(a u:V):Prop:=
 match bor with
 |.lend=>Vo P t a=some u
 |.keep=>((t,a,v)∈kp/\KpH P kp H)/\u=v
 |_=>Wc P H t a=some u
def Mc(P:Program)(E:Ent)(kp:Kps)(ops:Array Oper)(bor:Md)(v:V)(o:Oper)(s:AS)(u:V):Prop:=
 match Z8 ops s.τ o with
 |some true=>match o.op with
  |.load t x=>ldR P kp bor v s.H t (s.ev E x) u
  |.lookup t m x ok=>Sq P s.H t (s.ev E m) (s.ev E x) ok=some u
  |.call { callee:=.value f,args,.. }=>match s.ev E f with
   |.func (.func fid) first cap=>u=v/\match bor with|.lend=>BorC P E.G fid (first++args.toList.map (s.ev E)++cap) s.H v|.pure=>Zkb P E.G fid (first++args.toList.map (s.ev E)++cap) v|.own=>OwnC P E.G fid (first++args.toList.map (s.ev E)++cap) v|_=>False
   |_=>False
  |_=>I6 P (s.ev E) o=some u
 |some false=>u=.tuple []
 |none=>False
theorem Ql{kp:Kps}{ops:Array Oper}{bor:Md}{v:V}{o:Oper}{K:AS->Prop}{s:AS}(l:Yk bor o=.P\/Yk bor o=.R\/Yk bor o=.L\/Yk bor o=.B):
  Qe P E kp ops bor v o K s↔∃ u,Mc P E kp ops bor v o s u/\K (s.put o.dst u):=by
 have w:∀ u,AS.put { s with H:=s.H } o.dst u=s.put o.dst u:=λ_=>rfl;unfold Qe Mc
 cases D:Z8 ops s.τ o with
 |none=>simp
 |some b=>
  cases b with
  |false=>simp
  |true=>
   simp only;obtain⟨d,k,e,pos,after,a⟩:=o
   have plain:∀ (h:Yy P E s ⟨d,k,e,pos,after,a⟩ (λu q=>K (AS.put { s with H:=q } d u))=(match I6 P (s.ev E) ⟨d,k,e,pos,after,a⟩with|some u=>K (s.put d u)|none=>False)),
     (Yy P E s ⟨d,k,e,pos,after,a⟩ (λu q=>K (AS.put { s with H:=q } d u))↔∃ u,I6 P (s.ev E) ⟨d,k,e,pos,after,a⟩=some u/\K (s.put d u)):=by
    intro h;rw[h]
    cases I6 P (s.ev E) ⟨d,k,e,pos,after,a⟩<;>simp
   cases k<;>simp only[Yk,reduceCtorEq,or_false,false_or,or_self]at l
   case load t x=>
    cases bor with
    |lend=>
     simp only[Xt,Yk,Ki,ldR]
     cases Vo P t (s.ev E x)<;>simp
    |keep=>
     simp only[Xt,Yk,Ki,ldR];exact⟨λh=>⟨v,⟨h.1,rfl⟩,h.2⟩,fun⟨u,⟨i,g⟩,A⟩=>⟨i,by subst g;exact A⟩⟩
    |pure=>
     simp only[Xt,Yk,Ki,Yy,ldR]
     cases Wc P s.H t (s.ev E x)<;>simp
    |own=>
     simp only[Xt,Yk,Ki,Yy,ldR]
     cases Wc P s.H t (s.ev E x)<;>simp
    |any=>
     simp only[Xt,Yk,Ki,Yy,ldR]
     cases Wc P s.H t (s.ev E x)<;>simp
   case makeMap t r=>cases r<;>simp[Yk]at l
   case lookup t m x ok=>
    simp only[Xt,Yk,Yy]
    cases Sq P s.H t (s.ev E m) (s.ev E x) ok<;>simp
   case call c=>
    obtain⟨j,z,C⟩:=c;cases j
    case value f=>
     simp only[Xt,Yk]
     cases bor with
     |any=>simp[Yk]at l
     |keep=>simp[Yk]at l
     |lend=>
      simp only
      split
      rename_i n first p y
      constructor
      rintro⟨i,g⟩;exact⟨v,⟨rfl,i⟩,g⟩;rintro⟨u,⟨rfl,i⟩,g⟩;exact⟨i,g⟩;simp
     |pure=>
      simp only
      split
      rename_i n first p y
      constructor
      rintro⟨i,g⟩;exact⟨v,⟨rfl,i⟩,g⟩;rintro⟨u,⟨rfl,i⟩,g⟩;exact⟨i,g⟩;simp
     |own=>
      simp only
      split
      rename_i n first p y
      constructor
      rintro⟨i,g⟩;exact⟨v,⟨rfl,i⟩,g⟩;rintro⟨u,⟨rfl,i⟩,g⟩;exact⟨i,g⟩;simp
    case invoke r m=>simp only[reduceCtorEq,or_false,or_self]at l
    case builtin b=>
     cases b<;>simp only[reduceCtorEq,or_false,false_or,or_self]at l
     all_goals exact plain rfl
   all_goals exact plain rfl
end
end Go.Hs
