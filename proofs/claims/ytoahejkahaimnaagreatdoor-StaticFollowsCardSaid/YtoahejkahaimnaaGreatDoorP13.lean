/- A part. No condition. -/
import Derived.Test.YtoahejkahaimnaaGreatDoorP12
set_option linter.all false
namespace Go.Hs
section
variable{P:Program}{E:Ent}
inductive Cls where
 |P|R|L|B|A|W
 deriving DecidableEq
inductive Md where
 |pure|lend|any|keep|own
 deriving DecidableEq
abbrev Kps:=List (TypeId×V×V)
def KpH(P:Program)(kp:Kps)(H:Heap):Prop:=∀ p∈kp,Xt P H p.1 p.2.1=some p.2.2
theorem KpH.new{kp:Kps}{H:Heap}(h:KpH P kp H){d:Nat}(hd:H d=.dead)(x:AObj):KpH P kp (Z3 H d x):=by
 intro p i;have a:=h p i;unfold Xt at a⊢
 split at a
 rename_i f g c k
 split at a
 rename_i o l m n j
 have b:f≠d:=λe=>by grind
 rw[Zk _ _ b,j];exact a
 grind
 grind
def M6(bor:Md):Cls:=match bor with|.lend=>.P|.keep=>.L|_=>.R
def Z9(bor:Md)(o:Oper):Cls:=
 match o.op with
 |.move _|.assign _|.pick .. |.binOp .. |.unOp .. |.convert .. |.extract .. |.field .. |.build .. |.fieldAddr .. |.indexAddr .. |.index .. |.slice .. |.makeFunc .. |.makeInterface .. |.nilCheck _|.typeAssert ..=>.P
 |.lookup ..=>.R
 |.load .. => M6 bor
 |.alloc _|.box .. |.buildSlice .. |.makeSlice ..=>.A
 |.makeMap _ none=>.A
 |.call { callee:=.value _,.. }=>match bor with|.pure=>.P|.own=>.P|.lend=>.B|_=>.W
 |.call { callee:=.builtin .len,.. }=>.P
 |.call { callee:=.builtin .max,.. }=>.P
 |.call { callee:=.builtin .min,.. }=>.P
 |_=>.W
def Qa:Cls->Cls->Bool
 |.P,_=>true
 |.L,_=>true
 |.R,.W=>false
 |.R,_=>true
 |.B,.P|.B,.R|.B,.L|.B,.B=>true
 |.A,.P|.A,.R|.A,.L|.A,.A=>true
 |_,_=>false
def Gc(P:Program)(G:Nat->V)(f:FuncId)(args:List V)(v:V):Prop:=
 Z5 P f=true/\Spec P G f (args.map (V.recol Col.ent)) Zi (λa _=>a.recol Col.bk=v)
def OwnC(P:Program)(G:Nat->V)(f:FuncId)(args:List V)(v:V):Prop:=∀ (H:Heap) (K:V->Heap->Prop),K v H->CallA P G f args H K
def Z46(P:Program)(G:Nat->V)(bor:Md)(f:FuncId)(args:List V)(v:V):Prop:=match bor with|.own=>OwnC P G f args v|_=>Gc P G f args v
def BorC(P:Program)(G:Nat->V)(f:FuncId)(args:List V)(H:Heap)(v:V):Prop:=
 Z5 P f=true/\∃ args':List V,args'.length=args.length/\(∀ i (h1:i<args.length) (h2:i<args'.length),Rd H args[i] args'[i])/\Spec P G f args' Zi (λa _=>a.Fl/\a=v)
def Xg(P:Program)(E:Ent)(kp:Kps)(bor:Md)(v:V)(s:AS)(o:Oper)(K:V->Heap->Prop):Prop:=
 match Z9 bor o with
 |.A=>(match o.dst with|some d=>s.H (E.q+d)=.dead|none=>False)/\Yk P E s o K
 |.W=>Yk P E s o λu a=>KpH P kp a/\K u a
 |.R=>Yk P E s o K
 |.L=>match o.op with
  |.load t x=>((t,s.ev E x,v)∈kp/\KpH P kp s.H)/\K v s.H
  |_=>False
 |.P=>match o.op with
  |.call { callee:=.value f,args,.. }=>match s.ev E f with
   |.func (.func fid) first cap=>Z46 P E.G bor fid (first++args.toList.map (s.ev E)++cap) v/\K v s.H
   |_=>False
  |.load t x=>match Vb P t (s.ev E x)with
   |some u=>K u s.H
   |none=>False
  |_=>Yk P E s o K
 |.B=>match o.op with
  |.call { callee:=.value f,args,.. }=>match s.ev E f with
   |.func (.func fid) first cap=>BorC P E.G fid (first++args.toList.map (s.ev E)++cap) s.H v/\K v s.H
   |_=>False
  |_=>False
theorem Zlb{H:Heap}{d c bytes:Nat}{a b:V}{K K':V->Heap->Prop}(e:∀ v H,K v H->K' v H)(h:Ol H d c bytes a b K):Ol H d c bytes a b K':=by
 unfold Ol at *
 split at h
 grind
 split at h
 grind
 grind
 grind
 grind
theorem Y3{s:AS}{o:Oper}{K K':V->Heap->Prop}(a:∀ v H,K v H->K' v H)(h:Yk P E s o K):Yk P E s o K':=by
 have plain:(match Jx P (s.ev E) o with|some v=>K v s.H|none=>False)->(match Jx P (s.ev E) o with|some v=>K' v s.H|none=>False):=by
  intro h
  cases n:Jx P (s.ev E) o with
  |none=>rw[n]at h;exact h
  |some v=>rw[n]at h;exact a _ _ h
 obtain⟨w,u,j,pos,after,i⟩:=o;cases u
 case load t x=>
  simp only[Yk]at *
  split at h
  exact a _ _ h;exact h.elim
 case store t p x=>
  simp only[Yk]at *
  split at h
  exact a _ _ h;exact h.elim
 case alloc t=>
  simp only[Yk]at *
  split at h
  exact⟨h.1,λg=>a _ _ (h.2 g)⟩;exact h.elim
 case box t x=>
  simp only[Yk]at *
  split at h
  exact⟨h.1,λg=>a _ _ (h.2 g)⟩;exact h.elim
 case buildSlice t len parts=>
  simp only[Yk]at *
  split at h
  unfold Uq at *
  split at h
  split at h
  refine⟨h.1,h.2.1,h.2.2.1,?_⟩;have e:=h.2.2.2
  split at e
  exact λg=>a _ _ (e g);exact e.elim;exact h.elim;exact h.elim;exact h.elim
 case makeSlice t l c=>
  simp only[Yk]at *
  split at h
  unfold Uk at *
  split at h
  split at h
  exact⟨h.1,h.2.1,h.2.2.1,h.2.2.2.1,h.2.2.2.2.1,h.2.2.2.2.2.1,λg=>a _ _ (h.2.2.2.2.2.2 g)⟩;exact h.elim;exact h.elim;exact h.elim
 case call c=>
  obtain⟨d,q,y⟩:=c;cases d
  case value f=>
   simp only[Yk]at *
   split at h
   exact h.mono a;exact h.elim
  case invoke r m=>exact plain h
  case builtin b=>
   cases b
   case append=>
    simp only[Yk]at *
    split at h
    unfold Mu at *
    split at h
    split at h
    exact h.elim
    split at h
    exact⟨h.1,h.2.1,Zlb a h.2.2⟩;exact h.elim;exact h.elim;exact h.elim;exact h.elim
   all_goals exact plain h
 case panic x=>exact h
 case lookup t m x ok=>
  simp only[Yk]at *
  split at h
  exact a _ _ h;exact h.elim
 case mapUpdate t m k x=>exact K5 a h
 case insert t m k x=>exact K5 a h
 case makeMap t r=>
  cases r with
  |some r=>exact plain h
  |none=>
   simp only[Yk]at *
   split at h
   exact λb=>a _ _ (h b);exact h
 all_goals exact plain h
theorem Zpn{H:Heap}{t:TypeId}{a u:V}(h:Vb P t a=some u):Xt P H t a=some u:=by
 cases a<;>first|exact h|(simp[Vb]at h)
theorem Li(r:Y6 E.G){kp:Kps}{bor:Md}{v:V}{s:AS}{o:Oper}{K:V->Heap->Prop}(h:Xg P E kp bor v s o K):Yk P E s o K:=by
 obtain⟨F,H,q,pos,after,k⟩:=o;unfold Xg at h
 split at h
 grind
 exact Y3 (λ_ _ B=>B.2) h;exact h
 split at h
 rename_i t x a;subst a;simp only[Yk];rw[h.1.2 _ h.1.1];exact h.2
 grind
 split at h
 rename_i f c n a;subst a;simp only[Yk]
 split at h
 rename_i l first m j;rw[j];obtain⟨d,g⟩:=h;unfold Z46 at d
 split at d
 exact CallP.of (d _ _ g);obtain⟨b,i⟩:=d;exact CallP.of (CallA.pure r b (i.mono λw _ e=>by rw[e];exact g));exact h.elim;rename_i t x a;subst a;simp only[Yk]
 split at h
 rename_i u y;rw[Zpn y];exact h;exact h.elim;exact h
 split at h
 rename_i f c n a;simp only at a;subst a;simp only[Yk]
 split at h
 rename_i l first m j;rw[j];obtain⟨⟨b,p,A,z,i⟩,g⟩:=h;exact CallP.of (Jw r b A z (i.mono λw _ ⟨D,C⟩=>⟨D,by rw[C];exact g⟩));exact h.elim;exact h.elim
theorem Mg{ρ k:Operand->V}{o:Oper}(h:∀ x∈o.op.operands,ρ x = k x):Jx P ρ o=Jx P k o:=by
 obtain⟨E,w,B,pos,after,A⟩:=o;have u:∀ (l:Array Operand),(∀ x∈l,ρ x = k x)->l.toList.map ρ = l.toList.map k:=λl u=>List.map_congr_left (λx g=>u x (zu g))
 cases w<;>simp only[Op.operands]at h<;>simp only[Jx]
 case move x=>rw[h x zS]
 case assign x=>rw[h x zS]
 case pick c a b=>rw[h c zS,h a zS,h b zS]
 case binOp w t x y yt=>rw[h x zS,h y zS]
 case unOp w t x=>rw[h x zS]
 case convert s d x=>rw[h x zS]
 case extract t i=>rw[h t zS]
 case field t x f=>rw[h x zS]
 case build t parts=>
  congr 1
  apply List.map_congr_left;intro p D;rw[h p.2 (by simp;exact⟨p.1,zu D⟩)]
 case fieldAddr t x f=>rw[h x zS]
 case indexAddr t x i=>rw[h x zS,h i zS]
 case index t x i=>rw[h x zS,h i zS]
 case slice t x lo hi mx=>
  have z:∀ q:Option Operand,(∀ y∈q,ρ y = k y)->q.map ρ = q.map k:=λq C=>by cases q<;>simp at C⊢;exact C
  rw[h x zS,z lo (λy v=>h y (by simp;exact .inr (.inl v))),z hi (λy v=>h y (by simp;exact .inr (.inr (.inl v)))),z mx (λy v=>h y (by simp;exact .inr (.inr (.inr v))))]
 case makeFunc fn first cap=>rw[u first (λx g=>h x (by simp[g])),u cap (λx g=>h x (by simp[g]))]
 case makeInterface t x=>rw[h x zS]
 case nilCheck x=>rw[h x zS]
 case load t x=>rw[h x zS]
 case lookup t m x ok=>rw[h m zS,h x zS]
 case typeAssert x t T ok=>rw[h x zS]
 case call c=>
  obtain⟨j,e,n⟩:=c
  cases j<;>try rfl
  rename_i b
  cases b<;>try rfl
  case max=>exact congrArg Zxa (u e λx g=>h x (by simpa[Call.operands]using g))
  case min=>exact congrArg Zvv (u e λx g=>h x (by simpa[Call.operands]using g))
  simp only[Call.operands]at h;obtain⟨l⟩:=e
  cases l with
  |nil=>rfl
  |cons x r=>
   cases r with
   |nil=>
    have:=h x zS
    show(match[x],n[0]? with|[x],some t=>Gl P t (ρ x)|_,_=>none)=(match[x],n[0]? with|[x],some t=>Gl P t (k x)|_,_=>none)
    cases n[0]? with
    |none=>rfl
    |some t=>simp only[this]
   |cons y r=>rfl
theorem Zdf{s s':AS}{o:Oper}{K:V->Heap->Prop}(a:s.H=s'.H)(h:∀ x∈o.op.operands,s.ev E x=s'.ev E x):Yk P E s o K=Yk P E s' o K:=by
 have g:=Mg (P:=P) h;obtain⟨A,q,n,pos,after,j⟩:=o
 cases q<;>simp only[Op.operands]at h<;>simp only[Yk]<;>try(rw[g,a])
 case lookup t m x ok=>rw[h m zS,h x zS,a]
 case load t x=>rw[h x zS,a]
 case store t p x=>rw[h p zS,h x zS,a]
 case alloc t=>rw[a]
 case box t x=>rw[h x zS,a]
 case buildSlice t len parts=>
  rw[a]
  have:(parts.toList.map λp=>(p.1,s.ev E p.2))=(parts.toList.map λp=>(p.1,s'.ev E p.2)):=by
   apply List.map_congr_left;intro p v;rw[h p.2 (by simp;exact⟨p.1,zu v⟩)]
  rw[this]
 case makeSlice t l c=>rw[h l zS,h c zS,a]
 case panic x=>rw[h x zS,a]
 case mapUpdate t m k x=>rw[h m zS,h k zS,h x zS,a]
 case insert t m k x=>rw[h m zS,h k zS,h x zS,a]
 case makeMap t r=>
  cases r with
  |some r=>simp only[Yk]<;>(try rw[g,a])
  |none=>simp only[Yk]<;>(try rw[a])
 case call c=>
  obtain⟨i,e,B⟩:=c;simp only[Call.operands]at h;cases i
  case value f=>
   have z:s.ev E f=s'.ev E f:=h f zS;have w:e.toList.map (s.ev E)=e.toList.map (s'.ev E):=List.map_congr_left (λx u=>h x (by simp;exact .inr (zu u)));simp only[z,w,a]
  case invoke r m=>simp only[g,a]
  case builtin b=>
   cases b
   case append=>
    simp only
    split
    .rename_i x y d hargs
     have:e = #[x,y]:=by cases e;simp at hargs;rw[hargs]
     subst this;rw[h x zS,h y zS]
     try rw[a]
    rfl
   all_goals simp only[g,a]
def Rb(P:Program)(E:Ent)(kp:Kps)(ops:Array Oper)(bor:Md)(v:V)(o:Oper)(K:AS->Prop)(s:AS):Prop:=
 match Zz ops s.τ o with
 |some true=>Xg P E kp bor v s o λu a=>K (AS.put { s with H:=a } o.dst u)
 |some false=>K (s.put o.dst (.tuple []))
 |none=>False
theorem Zxm{kp:Kps}{bor:Md}{v:V}{s:AS}{o:Oper}{K K':V->Heap->Prop}(a:∀ v H,K v H->K' v H)(h:Xg P E kp bor v s o K):Xg P E kp bor v s o K':=by
 unfold Xg at *
 split at h
 exact⟨h.1,Y3 a h.2⟩;exact Y3 (λ_ _ b=>⟨b.1,a _ _ b.2⟩) h;exact Y3 a h
 grind
 split at h
 split at h
 exact⟨h.1,a _ _ h.2⟩;exact h.elim
 split at h
 exact a _ _ h;exact h.elim;exact Y3 a h
 grind
theorem W4{kp:Kps}{ops:Array Oper}{bor:Md}{v:V}{o:Oper}{K K':AS->Prop}{s:AS}(a:∀ s,K s->K' s)(h:Rb P E kp ops bor v o K s):Rb P E kp ops bor v o K' s:=by
 unfold Rb at *
 split at h
 exact Zxm (λ_ _=>a _) h
 grind
 grind
theorem M1{ops:Array Oper}{τ a:Nat->V}{o:Oper}(h:∀ d,(∃ g b,o.guard=some (g,b)/\(ops[g]?).bind (·.dst)=some d) -> τ d = a d):Zz ops τ o=Zz ops a o:=by
 unfold Zz
 cases c:o.guard with
 |none=>rfl
 |some p=>
  obtain⟨g,b⟩:=p;simp only
  cases e:(ops[g]?).bind (·.dst)with
  |none=>rfl
  |some d=>simp_all
theorem As{s:AS}{dst:Option Nat}{v:V}{x:Operand}(h:∀ d,dst=some d->x ≠ .tmp d):(s.put dst v).ev E x=s.ev E x:=by
 cases dst with
 |none=>rfl
 |some d=>
  cases x with
  |tmp t=>
   have:t≠d:=λe=>h d rfl (by rw[e]);simp[AS.put,AS.ev,Z3,this]
  |_=>rfl
theorem V0(s:AS)(dst:Option Nat)(v:V):(s.put dst v).H=s.H:=by cases dst<;>rfl
theorem Z0e{α : Type}(f:Nat -> α){a b:Nat}(x y : α)(h:a≠b):Z3 (Z3 f a x) b y=Z3 (Z3 f b y) a x:=by
 funext n
 simp only[Z3]
 grind
theorem Zem(s:AS){x y:Option Nat}(v u:V)(h:∀ d,x=some d->y≠some d):(s.put x v).put y u=(s.put y u).put x v:=by
 cases x with
 |none=>rfl
 |some a=>
  cases y with
  |none=>rfl
  |some b=>
   have:a≠b:=λe=>h a rfl (by rw[e]);simp only[AS.put];rw[Z0e _ _ _ this]
theorem Qp(s:AS)(x:Option Nat)(v:V)(H:Heap):({ (s.put x v)with H:=H }:AS)=AS.put { s with H:=H } x v:=by cases x<;>rfl
theorem Zai{ops:Array Oper}{f c:Oper}(h:f.apart ops c=true):
  (∀ s:AS,∀ v,(∀ x∈c.op.operands,(s.put f.dst v).ev E x=s.ev E x)/\Zz ops (s.put f.dst v).τ c=Zz ops s.τ c) /\
  (∀ s:AS,∀ v,(∀ x∈f.op.operands,(s.put c.dst v).ev E x=s.ev E x)/\Zz ops (s.put c.dst v).τ f=Zz ops s.τ f) /\
  (∀ s:AS,∀ v u,(s.put f.dst v).put c.dst u=(s.put c.dst u).put f.dst v):=by
 obtain⟨p,t,r⟩:=Oper.apart_spec h
 have i:∀ (o:Oper) (x:Operand) (d:Nat),x∈o.op.operands->x=.tmp d->d∈o.looksAt ops:=by
  intro o x d l e;subst e;refine List.mem_append_left _ ?_;simp only[List.mem_filterMap];exact⟨.tmp d,zu l,rfl⟩
 have k:∀ (o:Oper) (d:Nat),(∃ g b,o.guard=some (g,b)/\(ops[g]?).bind (·.dst)=some d)->d∈o.looksAt ops:=by
  rintro o d ⟨g,b,q,j⟩;refine List.mem_append_right _ ?_;simp[q,j]
 have a : ∀ (s:AS) (x:Option Nat) (v:V) (d:Nat),(∀ e,x=some e->d≠e)->(s.put x v).τ d=s.τ d:=by
  intro s x v d n
  cases x with
  |none=>rfl
  |some e=>simp[AS.put,Z3,n e rfl]
 refine⟨λs v=>⟨λx l=>As λd j e=>p d j (i c x d l e),M1 λd j=>a _ _ _ _ λe n m=>?_⟩,
  λs v=>⟨λx l=>As λd j e=>r d j (i f x d l e),M1 λd j=>a _ _ _ _ λe n m=>?_⟩,λs v u=>Zem s v u t⟩
 subst m;exact p d n (k c d j)
 grind
def ldR(P:Program)(kp:Kps)(bor:Md)(v:V)(H:Heap)(t:TypeId)(a u:V):Prop:=
 match bor with
 |.lend=>Vb P t a=some u
 |.keep=>((t,a,v)∈kp/\KpH P kp H)/\u=v
 |_=>Xt P H t a=some u
def Ow(P:Program)(E:Ent)(kp:Kps)(ops:Array Oper)(bor:Md)(v:V)(o:Oper)(s:AS)(u:V):Prop:=
 match Zz ops s.τ o with
 |some true=>match o.op with
  |.load t x=>ldR P kp bor v s.H t (s.ev E x) u
  |.lookup t m x ok=>Ty P s.H t (s.ev E m) (s.ev E x) ok=some u
  |.call { callee:=.value f,args,.. }=>match s.ev E f with
   |.func (.func fid) first cap=>u=v/\match bor with|.lend=>BorC P E.G fid (first++args.toList.map (s.ev E)++cap) s.H v|.pure=>Gc P E.G fid (first++args.toList.map (s.ev E)++cap) v|.own=>OwnC P E.G fid (first++args.toList.map (s.ev E)++cap) v|_=>False
   |_=>False
  |_=>Jx P (s.ev E) o=some u
 |some false=>u=.tuple []
 |none=>False
theorem Rj{kp:Kps}{ops:Array Oper}{bor:Md}{v:V}{o:Oper}{K:AS->Prop}{s:AS}(l:Z9 bor o=.P\/Z9 bor o=.R\/Z9 bor o=.L\/Z9 bor o=.B):
  Rb P E kp ops bor v o K s↔∃ u,Ow P E kp ops bor v o s u/\K (s.put o.dst u):=by
 have w:∀ u,AS.put { s with H:=s.H } o.dst u=s.put o.dst u:=λ_=>rfl;unfold Rb Ow
 cases D:Zz ops s.τ o with
 |none=>simp
 |some b=>
  cases b with
  |false=>simp
  |true=>
   simp only;obtain⟨d,k,e,pos,after,a⟩:=o
   have plain:∀ (h:Yk P E s ⟨d,k,e,pos,after,a⟩ (λu q=>K (AS.put { s with H:=q } d u))=(match Jx P (s.ev E) ⟨d,k,e,pos,after,a⟩with|some u=>K (s.put d u)|none=>False)),
     (Yk P E s ⟨d,k,e,pos,after,a⟩ (λu q=>K (AS.put { s with H:=q } d u))↔∃ u,Jx P (s.ev E) ⟨d,k,e,pos,after,a⟩=some u/\K (s.put d u)):=by
    intro h;rw[h]
    cases Jx P (s.ev E) ⟨d,k,e,pos,after,a⟩<;>simp
   cases k<;>simp only[Z9,reduceCtorEq,or_false,false_or,or_self]at l
   case load t x=>
    cases bor with
    |lend=>
     simp only[Xg,Z9,M6,ldR]
     cases Vb P t (s.ev E x)<;>simp
    |keep=>
     simp only[Xg,Z9,M6,ldR];exact⟨λh=>⟨v,⟨h.1,rfl⟩,h.2⟩,fun⟨u,⟨i,g⟩,A⟩=>⟨i,by subst g;exact A⟩⟩
    |pure=>
     simp only[Xg,Z9,M6,Yk,ldR]
     cases Xt P s.H t (s.ev E x)<;>simp
    |own=>
     simp only[Xg,Z9,M6,Yk,ldR]
     cases Xt P s.H t (s.ev E x)<;>simp
    |any=>
     simp only[Xg,Z9,M6,Yk,ldR]
     cases Xt P s.H t (s.ev E x)<;>simp
   case makeMap t r=>cases r<;>simp[Z9]at l
   case lookup t m x ok=>
    simp only[Xg,Z9,Yk]
    cases Ty P s.H t (s.ev E m) (s.ev E x) ok<;>simp
   case call c=>
    obtain⟨j,z,C⟩:=c;cases j
    case value f=>
     simp only[Xg,Z9]
     cases bor with
     |any=>simp[Z9]at l
     |keep=>simp[Z9]at l
     |lend=>
      simp only
      split
      rename_i n first p y
      constructor
      rintro⟨i,g⟩;exact⟨v,⟨rfl,i⟩,g⟩;rintro⟨u,⟨rfl,i⟩,g⟩;exact⟨i,g⟩;simp
     |pure=>
      simp only
      split
      rename_i n first p y
      constructor
      rintro⟨i,g⟩;exact⟨v,⟨rfl,i⟩,g⟩;rintro⟨u,⟨rfl,i⟩,g⟩;exact⟨i,g⟩;simp
     |own=>
      simp only
      split
      rename_i n first p y
      constructor
      rintro⟨i,g⟩;exact⟨v,⟨rfl,i⟩,g⟩;rintro⟨u,⟨rfl,i⟩,g⟩;exact⟨i,g⟩;simp
    case invoke r m=>simp only[reduceCtorEq,or_false,or_self]at l
    case builtin b=>
     cases b<;>simp only[reduceCtorEq,or_false,false_or,or_self]at l
     all_goals exact plain rfl
   all_goals exact plain rfl
end
end Go.Hs
