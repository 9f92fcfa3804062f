/- A part. No condition. -/
import Derived.Test.YtkennpiglkfalaaGreatDoorP12
set_option linter.all false
open Bool renaming true->ad
open Option renaming some->ae
open Go.Call renaming operands->ap
namespace Go.Hs
section
variable{P:Program}{E:BX}
inductive NH where
 |P|R|L|B|A|W
 deriving DecidableEq
inductive Md where
 |pure|CO|any|keep|own
 deriving DecidableEq
abbrev FP:=List (TypeId×V×V)
def KpH(P:Program)(kp:FP)(H:A'):Prop:=∀ p∈kp,W0 P H p.1 p.2.1=ae p.2.2
def KpH.new{kp H}(h:KpH P kp H){d}(l:H d=.AR)(x):KpH P kp (Ye H d x):=by
 intro p i;have a:=h p i;unfold W0 at a⊢;split at a;rename_i f g c k;split at a;rename_i q m n o j;have b:f≠d:=λe=>by grind
 rw[Zy _ _ b,j];exact a;grind;grind
def Ha(AX:Md):NH:=match AX with|.CO=>.P|.keep=>.L|_=>.R
def Yo(AX:Md)(o:Oper):NH:=
 match o.op with
 |.move _|.assign _|.pick .. |.binOp .. |.unOp .. |.convert .. |.extract .. |.field .. |.build .. |.fieldAddr .. |.indexAddr .. |.index .. |.slice .. |.makeFunc .. |.makeInterface .. |.nilCheck _|.typeAssert ..=>.P|.lookup ..=>.R|.load .. => Ha AX|.alloc _|.box .. |.buildSlice .. |.makeSlice ..=>.A|.makeMap _ none=>.A|.call {callee:=.value _,.. }=>match AX with|.pure=>.P|.own=>.P|.CO=>.B|_=>.W
 |.call {callee:=.builtin .len,.. }=>.P|.call {callee:=.builtin .max,.. }=>.P|.call {callee:=.builtin .min,.. }=>.P|_=>.W
def Ot:NH->NH->Bool
 |.P,_=>ad|.L,_=>ad|.R,.W=>false|.R,_=>ad|.B,.P|.B,.R|.B,.L|.B,.B=>ad|.A,.P|.A,.R|.A,.L|.A,.A=>ad|_,_=>false
def J3(P:Program)(G:Nat->V)(f:FuncId)(args:List V)(v:V):Prop:=
 Yf P f=ad/\Spec P G f (args.map (V.recol AH.ent)) Zm (λa _=>a.recol AH.bk=v)
def OwnC(P:Program)(G:Nat->V)(f:FuncId)(args:List V)(v:V):Prop:=∀ H K,K v H->CallA P G f args H K
def iE(P:Program)(G:Nat->V)(AX:Md)(f:FuncId)(args:List V)(v:V):Prop:=match AX with|.own=>OwnC P G f args v|_=>J3 P G f args v
def BorC(P:Program)(G:Nat->V)(f:FuncId)(args:List V)(H:A')(v:V):Prop:=
 Yy G->∀ K,K v H->CallA P G f args H K
def Wm(P:Program)(E:BX)(kp:FP)(AX:Md)(v:V)(s:AS)(o:Oper)(K:V->A'->Prop):Prop:=
 match Yo AX o with
 |.A=>(match o.dst with|some d=>s.H (E.q+d)=.AR|none=>False)/\Y1 P E s o K|.W=>Y1 P E s o λu a=>KpH P kp a/\K u a|.R=>Y1 P E s o K|.L=>match o.op with|.load t x=>((t,s.ev E x,v)∈kp/\KpH P kp s.H)/\K v s.H|_=>False
 |.P=>match o.op with
  |.call {callee:=.value f,args,.. }=>match s.ev E f with
   |.func (.func fid) first cap=>iE P E.G AX fid (first++args.toList.map (s.ev E)++cap) v/\K v s.H
   |_=>False
  |.load t x=>match Uc P t (s.ev E x)with|some u=>K u s.H|none=>False
  |_=>Y1 P E s o K
 |.B=>match o.op with
  |.call {callee:=.value f,args,.. }=>match s.ev E f with
   |.func (.func fid) first cap=>BorC P E.G fid (first++args.toList.map (s.ev E)++cap) s.H v/\K v s.H
   |_=>False
  |_=>False
def p8{H d E' bytes a b K K'}(c:∀ v H,K v H->K' v H)(h:Ly H d E' bytes a b K):Ly H d E' bytes a b K':=by unfold Ly at *;split at h;grind;split at h;grind;grind;grind;grind
def Wa{s o K K'}(a:∀ v H,K v H->K' v H)(h:Y1 P E s o K):Y1 P E s o K':=by
 have plain:(match E3 P (s.ev E) o with|some v=>K v s.H|none=>False)->(match E3 P (s.ev E) o with|some v=>K' v s.H|none=>False):=by intro h;rcases n:E3 P _ o with _|v;rw[n]at h;exact h;rw[n]at h;exact a _ _ h
 obtain⟨w,u,j,pos,after,i⟩:=o;cases u
 case load t x=>
  simp only[Y1]at *;split at h;exact a _ _ h;exact h.elim
 case store t p x=>
  simp only[Y1]at *;split at h;exact a _ _ h;exact h.elim
 case alloc t=>
  simp only[Y1]at *;split at h;exact⟨h.1,λg=>a _ _ (h.2 g)⟩;exact h.elim
 case box t x=>
  simp only[Y1]at *;split at h;exact⟨h.1,λg=>a _ _ (h.2 g)⟩;exact h.elim
 case buildSlice t len CC=>
  simp only[Y1]at *;split at h;unfold T2 at *;split at h;split at h;refine⟨h.1,h.2.1,h.2.2.1,?_⟩;have e:=h.2.2.2;split at e;exact λg=>a _ _ (e g);exact e.elim;exact h.elim;exact h.elim;exact h.elim
 case makeSlice t l c=>
  simp only[Y1]at *;split at h;unfold Ty at *;split at h;split at h;exact⟨h.1,h.2.1,h.2.2.1,h.2.2.2.1,h.2.2.2.2.1,h.2.2.2.2.2.1,λg=>a _ _ (h.2.2.2.2.2.2 g)⟩;exact h.elim;exact h.elim;exact h.elim
 case call c=>
  obtain⟨d,q,y⟩:=c;cases d
  case value f=>
   simp only[Y1]at *;split at h;exact h.mono a;exact h.elim
  case invoke r m=>exact plain h
  case builtin b=>
   cases b
   case append=>
    simp only[Y1]at *;split at h;unfold Iz at *;split at h;split at h;exact h.elim;split at h;exact⟨h.1,h.2.1,p8 a h.2.2⟩;exact h.elim;exact h.elim;exact h.elim;exact h.elim
   all_goals exact plain h
 case panic x=>exact h
 case lookup t m x ok=>
  simp only[Y1]at *;split at h;exact a _ _ h;exact h.elim
 case mapUpdate t m k x=>exact F5 a h
 case insert t m k x=>exact F5 a h
 case makeMap t r=>
  rcases r with _|r;simp only[Y1]at *;split at h;exact λb=>a _ _ (h b);exact h;exact plain h
 all_goals exact plain h
def z'{H t a u}(h:Uc P t a=ae u):W0 P H t a=ae u:=by cases a<;>first|exact h|(simp[Uc]at h)
def Hr(p:Yy E.G){kp AX v s o K}(h:Wm P E kp AX v s o K):Y1 P E s o K:=by
 obtain⟨y,A,m,pos,after,i⟩:=o;unfold Wm at h;split at h;grind;exact Wa (λ_ _ w=>w.2) h;exact h;split at h;rename_i t x a;subst a;simp only[Y1];rw[h.1.2 _ h.1.1];exact h.2;grind;split at h;rename_i f b l a;subst a;simp only[Y1];split at h;rename_i j first k d;rw[d];obtain⟨c,n⟩:=h;unfold iE at c
 split at c;exact CallP.of (c _ _ n);obtain⟨g,r⟩:=c;exact CallP.of (GS p g (r.mono λz _ e=>by rw[e];exact n));exact h.elim;rename_i t x a;subst a;simp only[Y1];split at h;rename_i u q;rw[z' q];exact h;exact h.elim;exact h;split at h;rename_i f b l a;simp only at a;subst a;simp only[Y1];split at h;rename_i j first k d;rw[d];exact CallP.of (h.1 p _ h.2);exact h.elim;exact h.elim
def Ii{ρ ρ' o}(h:∀ x∈o.op.operands,ρ x = ρ' x):E3 P ρ o=E3 P ρ' o:=by
 obtain⟨D,v,A,pos,after,z⟩:=o;have n:∀ (l:Array _),(∀ x∈l,ρ x = ρ' x)->l.toList.map ρ = l.toList.map _:=λl n=>FQ (λx g=>n x (zu g));cases v<;>simp only[Op.operands]at h<;>simp only[E3]
 case move x=>rw[h x zS]
 case assign x=>rw[h x zS]
 case pick c a b=>rw[h c zS,h a zS,h b zS]
 case binOp v t x y yt=>rw[h x zS,h y zS]
 case unOp v t x=>rw[h x zS]
 case convert s d x=>rw[h x zS]
 case extract t i=>rw[h t zS]
 case field t x f=>rw[h x zS]
 case build t CC=>
  congr 1;apply FQ;intro p C;rw[h _ (by simp;exact⟨p.1,zu C⟩)]
 case fieldAddr t x f=>rw[h x zS]
 case indexAddr t x i=>rw[h x zS,h i zS]
 case index t x i=>rw[h x zS,h i zS]
 case slice t x lo hi mx=>
  have w:∀ q:Option _,(∀ y∈q,ρ y = ρ' y)->q.map ρ = q.map _:=λq B=>by cases q<;>simp at B⊢;exact B
  rw[h x zS,w lo (λy u=>h y (by simp;exact .inr (.inl u))),w hi (λy u=>h y (by simp;exact .inr (.inr (.inl u)))),w mx (λy u=>h y (by simp;exact .inr (.inr (.inr u))))]
 case makeFunc fn first cap=>rw[n _ (λx g=>h x (by simp[g])),n _ (λx g=>h x (by simp[g]))]
 case makeInterface t x=>rw[h x zS]
 case nilCheck x=>rw[h x zS]
 case load t x=>rw[h x zS]
 case lookup t m x ok=>rw[h m zS,h x zS]
 case typeAssert x t T ok=>rw[h x zS]
 case call c=>
  obtain⟨j,e,k⟩:=c;cases j<;>try rfl
  rename_i b;cases b<;>try rfl
  case max=>exact BU KR (n e λx g=>h x (by simpa[ap]using g))
  case min=>exact BU PJ (n e λx g=>h x (by simpa[ap]using g))
  simp only[ap]at h;obtain⟨l⟩:=e;rcases l with _|⟨x,r⟩;rfl;rcases r with _|⟨y,r⟩;have:=h x zS;show(match[x],k[0]? with|[x],ae t=>B5 P t (ρ x)|_,_=>none)=(match[x],k[0]? with|[x],ae t=>B5 P t (ρ' x)|_,_=>none);rcases k[0]? with _|t;rfl;simp only[this];rfl
def tj{s s' o K}(a:s.H=s'.H)(h:∀ x∈o.op.operands,s.ev E x=s'.ev E x):Y1 P E s o K=Y1 P E s' o K:=by
 have g:=Ii (P:=P) h;obtain⟨z,q,n,pos,after,j⟩:=o;cases q<;>simp only[Op.operands]at h<;>simp only[Y1]<;>try(rw[g,a])
 case lookup t m x ok=>rw[h m zS,h x zS,a]
 case load t x=>rw[h x zS,a]
 case store t p x=>rw[h p zS,h x zS,a]
 case alloc t=>rw[a]
 case box t x=>rw[h x zS,a]
 case buildSlice t len CC=>
  rw[a];have:(CC.toList.map λp=>(p.1,s.ev E p.2))=(CC.toList.map λp=>(p.1,s'.ev E p.2)):=by apply FQ;intro p v;rw[h _ (by simp;exact⟨p.1,zu v⟩)]
  rw[this]
 case makeSlice t l c=>rw[h l zS,h c zS,a]
 case panic x=>rw[h x zS,a]
 case mapUpdate t m k x=>rw[h m zS,h k zS,h x zS,a]
 case insert t m k x=>rw[h m zS,h k zS,h x zS,a]
 case makeMap t r=>
  rcases r with _|r;simp only[Y1]<;>(try rw[a]);simp only[Y1]<;>(try rw[g,a])
 case call c=>
  obtain⟨i,e,A⟩:=c;simp only[ap]at h;cases i
  case value f=>
   have w:=h f zS;have h2:e.toList.map _=e.toList.map _:=FQ (λx u=>h x (by simp;exact .inr (zu u)));simp only[w,h2,a]
  case invoke r m=>simp only[g,a]
  case builtin b=>
   cases b
   case append=>
    simp only;split
    .rename_i x y d hargs;have:e = #[x,y]:=by cases e;simp at hargs;rw[hargs]
     subst this;rw[h x zS,h y zS]
     try rw[a]
    rfl
   all_goals simp only[g,a]
def Ow(P:Program)(E:BX)(kp:FP)(ops:Array Oper)(AX:Md)(v:V)(o:Oper)(K:AS->Prop)(s:AS):Prop:=
 match Yc ops s.τ o with|some ad=>Wm P E kp AX v s o λu a=>K (AS.put {s with H:=a} o.dst u)|some false=>K (s.put o.dst (.tuple []))|none=>False
def mX{kp AX v s o K K'}(a:∀ v H,K v H->K' v H)(h:Wm P E kp AX v s o K):Wm P E kp AX v s o K':=by unfold Wm at *;split at h;exact⟨h.1,Wa a h.2⟩;exact Wa (λ_ _ b=>⟨b.1,a _ _ b.2⟩) h;exact Wa a h;grind;split at h;split at h;exact⟨h.1,a _ _ h.2⟩;exact h.elim;split at h;exact a _ _ h;exact h.elim;exact Wa a h;grind
def V4{kp ops AX v o K K' s}(a:∀ s,K s->K' s)(h:Ow P E kp ops AX v o K s):Ow P E kp ops AX v o K' s:=by unfold Ow at *;split at h;exact mX (λ_ _=>a _) h;grind;grind
def I7{ops:Array Oper}{τ τ' o}(h:∀ d,(∃ g b,o.guard=ae (g,b)/\(ops[g]?).bind (·.dst)=ae d)->τ d = τ' d):Yc ops τ o=Yc ops τ' o:=by unfold Yc;rcases a:o.guard with _|p;rfl;obtain⟨g,b⟩:=p;simp only;rcases c:(ops[g]?).bind _ with _|d;rfl;simp_all
def kO{s:AS}{dst:Option Nat}{v x}(h:∀ d,dst=ae d->x ≠ .tmp d):(s.put dst v).ev E x=s.ev E x:=by
 rcases dst with _|d;rfl;cases x with
 |tmp t=>have:t≠d:=λe=>h d rfl (by rw[e]);simp[AS.put,AS.ev,Ye,this]|_=>rfl
def Ta(s:AS)(dst v):(s.put dst v).H=s.H:=by cases dst<;>rfl
def cp{α}(f){a b}(x y:α)(h:a≠b):Ye (Ye f a x) b y=Ye (Ye f b y) a x:=by funext n;simp only[Ye];grind
def qn(s:AS){x y}(v u)(h:∀ d,x=ae d->y≠ae d):(s.put x v).put y u=(s.put y u).put x v:=by rcases x with _|a;rfl;rcases y with _|b;rfl;have:a≠b:=λe=>h a rfl (by rw[e]);simp only[AS.put];rw[cp _ _ _ this]
def Nh(s:AS)(x v H):({(s.put x v)with H:=H}:AS)=AS.put {s with H:=H} x v:=by cases x<;>rfl
def dK{ops oi oj}(h:oi.apart ops oj=ad):(∀ s:AS,∀ v,(∀ x∈oj.op.operands,(s.put oi.dst v).ev E x=s.ev E x)/\Yc ops (s.put oi.dst v).τ oj=Yc ops s.τ oj) /\
  (∀ s:AS,∀ v,(∀ x∈oi.op.operands,(s.put oj.dst v).ev E x=s.ev E x)/\Yc ops (s.put oj.dst v).τ oi=Yc ops s.τ oi) /\
  (∀ s:AS,∀ v u,(s.put oi.dst v).put oj.dst u=(s.put oj.dst u).put oi.dst v):=by
 obtain⟨m,h2,p⟩:=Oper.apart_spec h;have c:∀ (o:Oper) (x) (d),x∈o.op.operands->x=.tmp d->d∈o.looksAt ops:=by intro o x d j e;subst e;refine List.mem_append_left _ ?_;simp only[List.mem_filterMap];exact⟨.tmp d,zu j,rfl⟩
 have i:∀ (o:Oper) (d),(∃ g b,o.guard=ae (g,b)/\(ops[g]?).bind (·.dst)=ae d)->d∈o.looksAt ops:=by rintro o d ⟨g,b,n,f⟩;refine List.mem_append_right _ ?_;simp[n,f]
 have a:∀ (s:AS) (x) (v) (d),(∀ e,x=ae e->d≠e)->(s.put x v).τ d=s.τ d:=by intro s x v d l;rcases x with _|e;rfl;simp[AS.put,Ye,l e _]
 refine⟨λs v=>⟨λx j=>kO λd f e=>m d f (c oj x d j e),I7 λd f=>a _ _ _ _ λe l k=>?_⟩,
  λs v=>⟨λx j=>kO λd f e=>p d f (c oi x d j e),I7 λd f=>a _ _ _ _ λe l k=>?_⟩,λs v u=>qn s v u h2⟩
 subst k;exact m d l (i oj d f);grind
def KA(P:Program)(kp:FP)(AX:Md)(v:V)(H:A')(t:TypeId)(a u:V):Prop:=
 match AX with|.CO=>Uc P t a=ae u|.keep=>((t,a,v)∈kp/\KpH P kp H)/\u=v|_=>W0 P H t a=ae u
def Kk(P:Program)(E:BX)(kp:FP)(ops:Array Oper)(AX:Md)(v:V)(o:Oper)(s:AS)(u:V):Prop:=
 match Yc ops s.τ o with
 |some ad=>match o.op with
  |.load t x=>KA P kp AX v s.H t (s.ev E x) u|.lookup t m x ok=>Rw P s.H t (s.ev E m) (s.ev E x) ok=ae u
  |.call {callee:=.value f,args,.. }=>match s.ev E f with
   |.func (.func fid) first cap=>u=v/\match AX with|.CO=>BorC P E.G fid (first++args.toList.map (s.ev E)++cap) s.H v|.pure=>J3 P E.G fid (first++args.toList.map (s.ev E)++cap) v|.own=>OwnC P E.G fid (first++args.toList.map (s.ev E)++cap) v|_=>False
   |_=>False
  |_=>E3 P (s.ev E) o=ae u
 |some false=>u=.tuple []|none=>False
def Pw{kp ops AX v o K s}(j:Yo AX o=.P\/Yo AX o=.R\/Yo AX o=.L\/Yo AX o=.B):Ow P E kp ops AX v o K s↔∃ u,Kk P E kp ops AX v o s u/\K (s.put o.dst u):=by
 have q:∀ u,AS.put _ _ u=s.put o.dst u:=λ_=>rfl;unfold Ow Kk;cases C:Yc _ _ o with
 |none=>simp|some b=>
  cases b with
  |false=>simp|true=>
   simp only;obtain⟨d,k,e,pos,after,a⟩:=o;have plain:∀ (h:Y1 P E s ⟨d,k,e,pos,after,a⟩ (λu p=>K (AS.put {s with H:=p} d u))=(match E3 P (s.ev E) ⟨d,k,e,pos,after,a⟩with|some u=>K (s.put d u)|none=>False)),
     (Y1 P E s ⟨d,k,e,pos,after,a⟩ (λu p=>K (AS.put {s with H:=p} d u))↔∃ u,E3 P (s.ev E) ⟨d,k,e,pos,after,a⟩=ae u/\K (s.put d u)):=by
    intro h;rw[h];cases E3 P _ _<;>simp
   cases k<;>simp only[Yo,reduceCtorEq,CF,RY,PP]at j
   case load t x=>
    cases AX with|CO=>simp only[Wm,Yo,Ha,KA];cases Uc P t _<;>simp|keep=>simp only[Wm,Yo,Ha,KA];exact⟨λh=>⟨v,⟨h.1,rfl⟩,h.2⟩,fun⟨u,⟨g,h2⟩,z⟩=>⟨g,by subst h2;exact z⟩⟩|pure=>simp only[Wm,Yo,Ha,Y1,KA];cases W0 P _ t _<;>simp|own=>simp only[Wm,Yo,Ha,Y1,KA];cases W0 P _ t _<;>simp|any=>simp only[Wm,Yo,Ha,Y1,KA];cases W0 P _ t _<;>simp
   case makeMap t r=>cases r<;>simp[Yo]at j
   case lookup t m x ok=>
    simp only[Wm,Yo,Y1];cases Rw P _ t _ _ ok<;>simp
   case call c=>
    obtain⟨i,y,A⟩:=c;cases i
    case value f=>
     simp only[Wm,Yo];cases AX with
     |any=>simp[Yo]at j|keep=>simp[Yo]at j|CO=>
      simp only;split;rename_i l first n w
      constructor;rintro⟨g,h2⟩;exact⟨v,⟨rfl,g⟩,h2⟩;rintro⟨u,⟨rfl,g⟩,h2⟩;exact⟨g,h2⟩;simp
     |pure=>
      simp only;split;rename_i l first n w
      constructor;rintro⟨g,h2⟩;exact⟨v,⟨rfl,g⟩,h2⟩;rintro⟨u,⟨rfl,g⟩,h2⟩;exact⟨g,h2⟩;simp
     |own=>
      simp only;split;rename_i l first n w
      constructor;rintro⟨g,h2⟩;exact⟨v,⟨rfl,g⟩,h2⟩;rintro⟨u,⟨rfl,g⟩,h2⟩;exact⟨g,h2⟩;simp
    case invoke r m=>simp only[reduceCtorEq,CF,PP]at j
    case builtin b=>
     cases b<;>simp only[reduceCtorEq,CF,RY,PP]at j
     all_goals exact plain rfl
   all_goals exact plain rfl
