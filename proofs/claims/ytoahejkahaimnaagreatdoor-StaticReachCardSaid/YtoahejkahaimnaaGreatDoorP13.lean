/- A part. No condition. -/
import Derived.Test.YtoahejkahaimnaaGreatDoorP12
set_option linter.all false
namespace Go.Hs
section
variable{P:Program}{E:Ent}
inductive Cls where
 |P|R|L|B|A|W
 deriving DecidableEq
inductive Md where
 |pure|lend|any|keep|own
 deriving DecidableEq
abbrev Kps:=List (TypeId×V×V)
def KpH(P:Program)(kp:Kps)(H:Heap):Prop:=∀ p∈kp,Zvb P H p.1 p.2.1=some p.2.2
theorem KpH.new{kp:Kps}{H:Heap}(h:KpH P kp H){d:Nat}(hd:H d=.dead)(x:AObj):KpH P kp (upd H d x):=by
 intro p hp;have h0:=h p hp;unfold Zvb at h0⊢
 split at h0
 rename_i o' g off hy
 split at h0
 rename_i c1 g1 fz cs ho
 have hne:o'≠d:=λe=>by rw[e,hd]at ho;cases ho
 rw[Zi _ _ hne,ho];exact h0;simp at h0;exact h0
def Zaq(bor:Md):Cls:=match bor with|.lend=>.P|.keep=>.L|_=>.R
def Zba(bor:Md)(o:Oper):Cls:=
 match o.op with
 |.move _|.assign _|.pick .. |.binOp .. |.unOp .. |.convert .. |.extract .. |.field .. |.build .. |.fieldAddr .. |.indexAddr .. |.index .. |.slice .. |.makeFunc .. |.makeInterface .. |.nilCheck _|.typeAssert ..=>.P
 |.lookup ..=>.R
 |.load .. => Zaq bor
 |.alloc _|.box .. |.buildSlice .. |.makeSlice ..=>.A
 |.makeMap _ none=>.A
 |.call { callee:=.value _,.. }=>match bor with|.pure=>.P|.own=>.P|.lend=>.B|_=>.W
 |.call { callee:=.builtin .len,.. }=>.P
 |.call { callee:=.builtin .max,.. }=>.P
 |.call { callee:=.builtin .min,.. }=>.P
 |_=>.W
def Zph:Cls->Cls->Bool
 |.P,_=>true
 |.L,_=>true
 |.R,.W=>false
 |.R,_=>true
 |.B,.P|.B,.R|.B,.L|.B,.B=>true
 |.A,.P|.A,.R|.A,.L|.A,.A=>true
 |_,_=>false
def Zada(P:Program)(G:Nat->V)(f:FuncId)(args:List V)(v:V):Prop:=
 Z2 P f=true/\Spec P G f (args.map (V.recol Col.ent)) Zk (λv' _=>v'.recol Col.bk=v)
def OwnC(P:Program)(G:Nat->V)(f:FuncId)(args:List V)(v:V):Prop:=∀ (H:Heap) (K:V->Heap->Prop),K v H->CallA P G f args H K
def callV(P:Program)(G:Nat->V)(bor:Md)(f:FuncId)(args:List V)(v:V):Prop:=match bor with|.own=>OwnC P G f args v|_=>Zada P G f args v
def BorC(P:Program)(G:Nat->V)(f:FuncId)(args:List V)(H:Heap)(v:V):Prop:=
 Z2 P f=true/\∃ args':List V,args'.length=args.length/\(∀ i (h1:i<args.length) (h2:i<args'.length),Rd H args[i] args'[i])/\Spec P G f args' Zk (λv' _=>v'.Fl/\v'=v)
def Znb(P:Program)(E:Ent)(kp:Kps)(bor:Md)(v:V)(s:AS)(o:Oper)(K:V->Heap->Prop):Prop:=
 match Zba bor o with
 |.A=>(match o.dst with|some d=>s.H (E.q+d)=.dead|none=>False)/\Zka P E s o K
 |.W=>Zka P E s o λu H'=>KpH P kp H'/\K u H'
 |.R=>Zka P E s o K
 |.L=>match o.op with
  |.load t x=>((t,s.ev E x,v)∈kp/\KpH P kp s.H)/\K v s.H
  |_=>False
 |.P=>match o.op with
  |.call { callee:=.value f,args,.. }=>match s.ev E f with
   |.func (.func fid) first cap=>callV P E.G bor fid (first++args.toList.map (s.ev E)++cap) v/\K v s.H
   |_=>False
  |.load t x=>match Zec P t (s.ev E x)with
   |some u=>K u s.H
   |none=>False
  |_=>Zka P E s o K
 |.B=>match o.op with
  |.call { callee:=.value f,args,.. }=>match s.ev E f with
   |.func (.func fid) first cap=>BorC P E.G fid (first++args.toList.map (s.ev E)++cap) s.H v/\K v s.H
   |_=>False
  |_=>False
theorem Z3v{H:Heap}{d E' bytes:Nat}{a b:V}{K K':V->Heap->Prop}(hk:∀ v H,K v H->K' v H)(h:Z9i H d E' bytes a b K):Z9i H d E' bytes a b K':=by
 unfold Z9i at *
 split at h
 exact h.elim
 split at h
 exact⟨h.1,λe=>hk _ _ (h.2.1 e),λe g=>hk _ _ (h.2.2 e g)⟩;exact⟨h.1,h.2.1,λe=>hk _ _ (h.2.2.1 e),λe=>⟨(h.2.2.2 e).1,λg=>hk _ _ ((h.2.2.2 e).2 g)⟩⟩;refine⟨h.1,h.2.1,?_⟩;have h3:=h.2.2
 split at h3
 exact⟨h3.1,h3.2.1,h3.2.2.1,λg=>hk _ _ (h3.2.2.2 g)⟩;exact h3.elim;exact h.elim
theorem Zqa{s:AS}{o:Oper}{K K':V->Heap->Prop}(hk:∀ v H,K v H->K' v H)(h:Zka P E s o K):Zka P E s o K':=by
 have plain:(match opV P (s.ev E) o with|some v=>K v s.H|none=>False)->(match opV P (s.ev E) o with|some v=>K' v s.H|none=>False):=by
  intro h
  cases hv:opV P (s.ev E) o with
  |none=>rw[hv]at h;exact h
  |some v=>rw[hv]at h;exact hk _ _ h
 obtain⟨dst,op,type,pos,after,guard⟩:=o;cases op
 case load t x=>
  simp only[Zka]at *
  split at h
  exact hk _ _ h;exact h.elim
 case store t p x=>
  simp only[Zka]at *
  split at h
  exact hk _ _ h;exact h.elim
 case alloc t=>
  simp only[Zka]at *
  split at h
  exact⟨h.1,λg=>hk _ _ (h.2 g)⟩;exact h.elim
 case box t x=>
  simp only[Zka]at *
  split at h
  exact⟨h.1,λg=>hk _ _ (h.2 g)⟩;exact h.elim
 case buildSlice t len parts=>
  simp only[Zka]at *
  split at h
  unfold Zgd at *
  split at h
  split at h
  refine⟨h.1,h.2.1,h.2.2.1,?_⟩;have h3:=h.2.2.2
  split at h3
  exact λg=>hk _ _ (h3 g);exact h3.elim;exact h.elim;exact h.elim;exact h.elim
 case makeSlice t l c=>
  simp only[Zka]at *
  split at h
  unfold Zid at *
  split at h
  split at h
  exact⟨h.1,h.2.1,h.2.2.1,h.2.2.2.1,h.2.2.2.2.1,h.2.2.2.2.2.1,λg=>hk _ _ (h.2.2.2.2.2.2 g)⟩;exact h.elim;exact h.elim;exact h.elim
 case call c=>
  obtain⟨callee,args,ats⟩:=c;cases callee
  case value f=>
   simp only[Zka]at *
   split at h
   exact h.mono hk;exact h.elim
  case invoke r m=>exact plain h
  case builtin b=>
   cases b
   case append=>
    simp only[Zka]at *
    split at h
    unfold Zil at *
    split at h
    split at h
    exact h.elim
    split at h
    exact⟨h.1,h.2.1,Z3v hk h.2.2⟩;exact h.elim;exact h.elim;exact h.elim;exact h.elim
   all_goals exact plain h
 case panic x=>exact h
 case lookup t m x ok=>
  simp only[Zka]at *
  split at h
  exact hk _ _ h;exact h.elim
 case mapUpdate t m k x=>exact Zvl hk h
 case insert t m k x=>exact Zvl hk h
 case makeMap t r=>
  cases r with
  |some r=>exact plain h
  |none=>
   simp only[Zka]at *
   split at h
   exact λb=>hk _ _ (h b);exact h
 all_goals exact plain h
theorem Zs8{H:Heap}{t:TypeId}{a u:V}(h:Zec P t a=some u):Zvb P H t a=some u:=by
 unfold Zvb
 cases a<;>first|exact h|(simp[Zec]at h)
theorem Zxk(hG:GOk E.G){kp:Kps}{bor:Md}{v:V}{s:AS}{o:Oper}{K:V->Heap->Prop}(h:Znb P E kp bor v s o K):Zka P E s o K:=by
 obtain⟨dst,op,type,pos,after,guard⟩:=o;unfold Znb at h
 split at h
 exact h.2;exact Zqa (λ_ _ hh=>hh.2) h;exact h
 split at h
 rename_i t x hop;simp only at hop;subst hop;simp only[Zka];rw[h.1.2 _ h.1.1];exact h.2;exact h.elim
 split at h
 rename_i f args ats hop;simp only at hop;subst hop;simp only[Zka]
 split at h
 rename_i fid first cap hf;rw[hf];obtain⟨hv,hk⟩:=h;unfold callV at hv
 split at hv
 exact CallP.of (hv _ _ hk);obtain⟨hen,hs⟩:=hv;exact CallP.of (CallA.pure hG hen (hs.mono λv' _ e=>by rw[e];exact hk));exact h.elim;rename_i t x hop;simp only at hop;subst hop;simp only[Zka]
 split at h
 rename_i u hu;rw[Zs8 hu];exact h;exact h.elim;exact h
 split at h
 rename_i f args ats hop;simp only at hop;subst hop;simp only[Zka]
 split at h
 rename_i fid first cap hf;rw[hf];obtain⟨⟨hen,args',hl,hr,hs⟩,hk⟩:=h;exact CallP.of (Z6l hG hen hl hr (hs.mono λv' _ ⟨h1,h2⟩=>⟨h1,by rw[h2];exact hk⟩));exact h.elim;exact h.elim
theorem Z3j{ρ ρ':Operand->V}{o:Oper}(h:∀ x∈o.op.operands,ρ x = ρ' x):opV P ρ o=opV P ρ' o:=by
 obtain⟨dst,op,type,pos,after,guard⟩:=o;have hl:∀ (l:Array Operand),(∀ x∈l,ρ x = ρ' x)->l.toList.map ρ = l.toList.map ρ':=λl hl=>List.map_congr_left (λx hx=>hl x (zu hx))
 cases op<;>simp only[Op.operands]at h<;>simp only[opV]
 case move x=>rw[h x zS]
 case assign x=>rw[h x zS]
 case pick c a b=>rw[h c zS,h a zS,h b zS]
 case binOp op t x y yt=>rw[h x zS,h y zS]
 case unOp op t x=>rw[h x zS]
 case convert s d x=>rw[h x zS]
 case extract t i=>rw[h t zS]
 case field t x f=>rw[h x zS]
 case build t parts=>
  congr 1
  apply List.map_congr_left;intro p hp;rw[h p.2 (by simp;exact⟨p.1,zu hp⟩)]
 case fieldAddr t x f=>rw[h x zS]
 case indexAddr t x i=>rw[h x zS,h i zS]
 case index t x i=>rw[h x zS,h i zS]
 case slice t x lo hi mx=>
  have ho:∀ q:Option Operand,(∀ y∈q,ρ y = ρ' y)->q.map ρ = q.map ρ':=λq hq=>by cases q<;>simp at hq⊢;exact hq
  rw[h x zS,ho lo (λy hy=>h y (by simp;exact .inr (.inl hy))),ho hi (λy hy=>h y (by simp;exact .inr (.inr (.inl hy)))),ho mx (λy hy=>h y (by simp;exact .inr (.inr (.inr hy))))]
 case makeFunc fn first cap=>rw[hl first (λx hx=>h x (by simp[hx])),hl cap (λx hx=>h x (by simp[hx]))]
 case makeInterface t x=>rw[h x zS]
 case nilCheck x=>rw[h x zS]
 case load t x=>rw[h x zS]
 case lookup t m x ok=>rw[h m zS,h x zS]
 case typeAssert x t T ok=>rw[h x zS]
 case call c=>
  obtain⟨callee,args,ats⟩:=c
  cases callee<;>try rfl
  rename_i b
  cases b<;>try rfl
  case max=>exact congrArg maxL (hl args λx hx=>h x (by simpa[Call.operands]using hx))
  case min=>exact congrArg minL (hl args λx hx=>h x (by simpa[Call.operands]using hx))
  simp only[Call.operands]at h;obtain⟨l⟩:=args
  cases l with
  |nil=>rfl
  |cons x r=>
   cases r with
   |nil=>
    have:=h x zS
    show(match[x],ats[0]? with|[x],some t=>lenV P t (ρ x)|_,_=>none)=(match[x],ats[0]? with|[x],some t=>lenV P t (ρ' x)|_,_=>none)
    cases ats[0]? with
    |none=>rfl
    |some t=>simp only[this]
   |cons y r=>rfl
theorem Znz{s s':AS}{o:Oper}{K:V->Heap->Prop}(hH:s.H=s'.H)(h:∀ x∈o.op.operands,s.ev E x=s'.ev E x):Zka P E s o K=Zka P E s' o K:=by
 have hop:=Z3j (P:=P) h;obtain⟨dst,op,type,pos,after,guard⟩:=o
 cases op<;>simp only[Op.operands]at h<;>simp only[Zka]<;>try(rw[hop,hH])
 case lookup t m x ok=>rw[h m zS,h x zS,hH]
 case load t x=>rw[h x zS,hH]
 case store t p x=>rw[h p zS,h x zS,hH]
 case alloc t=>rw[hH]
 case box t x=>rw[h x zS,hH]
 case buildSlice t len parts=>
  rw[hH]
  have:(parts.toList.map λp=>(p.1,s.ev E p.2))=(parts.toList.map λp=>(p.1,s'.ev E p.2)):=by
   apply List.map_congr_left;intro p hp;rw[h p.2 (by simp;exact⟨p.1,zu hp⟩)]
  rw[this]
 case makeSlice t l c=>rw[h l zS,h c zS,hH]
 case panic x=>rw[h x zS,hH]
 case mapUpdate t m k x=>rw[h m zS,h k zS,h x zS,hH]
 case insert t m k x=>rw[h m zS,h k zS,h x zS,hH]
 case makeMap t r=>
  cases r with
  |some r=>simp only[Zka]<;>(try rw[hop,hH])
  |none=>simp only[Zka]<;>(try rw[hH])
 case call c=>
  obtain⟨callee,args,ats⟩:=c;simp only[Call.operands]at h;cases callee
  case value f=>
   have h1:s.ev E f=s'.ev E f:=h f zS;have h2:args.toList.map (s.ev E)=args.toList.map (s'.ev E):=List.map_congr_left (λx hx=>h x (by simp;exact .inr (zu hx)));simp only[h1,h2,hH]
  case invoke r m=>simp only[hop,hH]
  case builtin b=>
   cases b
   case append=>
    simp only
    split
    .rename_i x y d hargs
     have:args = #[x,y]:=by cases args;simp at hargs;rw[hargs]
     subst this;rw[h x zS,h y zS]
     try rw[hH]
    rfl
   all_goals simp only[hop,hH]
def stD(P:Program)(E:Ent)(kp:Kps)(ops:Array Oper)(bor:Md)(v:V)(o:Oper)(K:AS->Prop)(s:AS):Prop:=
 match Zz ops s.τ o with
 |some true=>Znb P E kp bor v s o λu H'=>K (AS.put { s with H:=H' } o.dst u)
 |some false=>K (s.put o.dst (.tuple []))
 |none=>False
theorem Z27{kp:Kps}{bor:Md}{v:V}{s:AS}{o:Oper}{K K':V->Heap->Prop}(hk:∀ v H,K v H->K' v H)(h:Znb P E kp bor v s o K):Znb P E kp bor v s o K':=by
 unfold Znb at *
 split at h
 exact⟨h.1,Zqa hk h.2⟩;exact Zqa (λ_ _ hh=>⟨hh.1,hk _ _ hh.2⟩) h;exact Zqa hk h
 split at h
 exact⟨h.1,hk _ _ h.2⟩;exact h.elim
 split at h
 split at h
 exact⟨h.1,hk _ _ h.2⟩;exact h.elim
 split at h
 exact hk _ _ h;exact h.elim;exact Zqa hk h
 split at h
 split at h
 exact⟨h.1,hk _ _ h.2⟩;exact h.elim;exact h.elim
theorem Zfc{kp:Kps}{ops:Array Oper}{bor:Md}{v:V}{o:Oper}{K K':AS->Prop}{s:AS}(hk:∀ s,K s->K' s)(h:stD P E kp ops bor v o K s):stD P E kp ops bor v o K' s:=by
 unfold stD at *
 split at h
 exact Z27 (λ_ _=>hk _) h;exact hk _ h;exact h.elim
theorem Zgj{ops:Array Oper}{τ τ':Nat->V}{o:Oper}(h:∀ d,(∃ g b,o.guard=some (g,b)/\(ops[g]?).bind (·.dst)=some d) -> τ d = τ' d):Zz ops τ o=Zz ops τ' o:=by
 unfold Zz
 cases hg:o.guard with
 |none=>rfl
 |some p=>
  obtain⟨g,b⟩:=p;simp only
  cases hd:(ops[g]?).bind (·.dst)with
  |none=>rfl
  |some d=>simp only[h d ⟨g,b,hg,hd⟩]
theorem Z6y{s:AS}{dst:Option Nat}{v:V}{x:Operand}(h:∀ d,dst=some d->x ≠ .tmp d):(s.put dst v).ev E x=s.ev E x:=by
 cases dst with
 |none=>rfl
 |some d=>
  cases x with
  |tmp t=>
   have:t≠d:=λe=>h d rfl (by rw[e]);simp[AS.put,AS.ev,upd,this]
  |_=>rfl
theorem Zdd(s:AS)(dst:Option Nat)(v:V):(s.put dst v).H=s.H:=by cases dst<;>rfl
theorem Zd5{α : Type}(f:Nat -> α){a b:Nat}(x y : α)(h:a≠b):upd (upd f a x) b y=upd (upd f b y) a x:=by
 funext n
 simp only[upd]
 by_cases h1:n=a<;>by_cases h2:n=b<;>simp[h1,h2]
 omega;intro e;exact absurd e h;intro e;exact absurd e.symm h
theorem Z84(s:AS){x y:Option Nat}(v u:V)(h:∀ d,x=some d->y≠some d):(s.put x v).put y u=(s.put y u).put x v:=by
 cases x with
 |none=>rfl
 |some a=>
  cases y with
  |none=>rfl
  |some b=>
   have:a≠b:=λe=>h a rfl (by rw[e]);simp only[AS.put];rw[Zd5 _ _ _ this]
theorem Zvg(s:AS)(x:Option Nat)(v:V)(H:Heap):({ (s.put x v)with H:=H }:AS)=AS.put { s with H:=H } x v:=by cases x<;>rfl
theorem Zb7{ops:Array Oper}{oi oj:Oper}(h:oi.apart ops oj=true):
  (∀ s:AS,∀ v,(∀ x∈oj.op.operands,(s.put oi.dst v).ev E x=s.ev E x)/\Zz ops (s.put oi.dst v).τ oj=Zz ops s.τ oj) /\
  (∀ s:AS,∀ v,(∀ x∈oi.op.operands,(s.put oj.dst v).ev E x=s.ev E x)/\Zz ops (s.put oj.dst v).τ oi=Zz ops s.τ oi) /\
  (∀ s:AS,∀ v u,(s.put oi.dst v).put oj.dst u=(s.put oj.dst u).put oi.dst v):=by
 obtain⟨h1,h2,h3⟩:=Oper.apart_spec h
 have look:∀ (o:Oper) (x:Operand) (d:Nat),x∈o.op.operands->x=.tmp d->d∈o.looksAt ops:=by
  intro o x d hx e;subst e;unfold Oper.looksAt;refine List.mem_append_left _ ?_;simp only[List.mem_filterMap];exact⟨.tmp d,zu hx,rfl⟩
 have lookg:∀ (o:Oper) (d:Nat),(∃ g b,o.guard=some (g,b)/\(ops[g]?).bind (·.dst)=some d)->d∈o.looksAt ops:=by
  rintro o d ⟨g,b,hg,hd⟩;unfold Oper.looksAt;refine List.mem_append_right _ ?_;simp[hg,hd]
 have put_τ : ∀ (s:AS) (x:Option Nat) (v:V) (d:Nat),(∀ e,x=some e->d≠e)->(s.put x v).τ d=s.τ d:=by
  intro s x v d he
  cases x with
  |none=>rfl
  |some e=>simp[AS.put,upd,he e rfl]
 refine⟨λs v=>⟨λx hx=>Z6y λd hd e=>h1 d hd (look oj x d hx e),Zgj λd hd=>put_τ _ _ _ _ λe he hde=>?_⟩,
  λs v=>⟨λx hx=>Z6y λd hd e=>h3 d hd (look oi x d hx e),Zgj λd hd=>put_τ _ _ _ _ λe he hde=>?_⟩,λs v u=>Z84 s v u h2⟩
 subst hde;exact h1 d he (lookg oj d hd);subst hde;exact h3 d he (lookg oi d hd)
def ldR(P:Program)(kp:Kps)(bor:Md)(v:V)(H:Heap)(t:TypeId)(a u:V):Prop:=
 match bor with
 |.lend=>Zec P t a=some u
 |.keep=>((t,a,v)∈kp/\KpH P kp H)/\u=v
 |_=>Zvb P H t a=some u
def Zyt(P:Program)(E:Ent)(kp:Kps)(ops:Array Oper)(bor:Md)(v:V)(o:Oper)(s:AS)(u:V):Prop:=
 match Zz ops s.τ o with
 |some true=>match o.op with
  |.load t x=>ldR P kp bor v s.H t (s.ev E x) u
  |.lookup t m x ok=>Zmg P s.H t (s.ev E m) (s.ev E x) ok=some u
  |.call { callee:=.value f,args,.. }=>match s.ev E f with
   |.func (.func fid) first cap=>u=v/\match bor with|.lend=>BorC P E.G fid (first++args.toList.map (s.ev E)++cap) s.H v|.pure=>Zada P E.G fid (first++args.toList.map (s.ev E)++cap) v|.own=>OwnC P E.G fid (first++args.toList.map (s.ev E)++cap) v|_=>False
   |_=>False
  |_=>opV P (s.ev E) o=some u
 |some false=>u=.tuple []
 |none=>False
theorem Zhg{kp:Kps}{ops:Array Oper}{bor:Md}{v:V}{o:Oper}{K:AS->Prop}{s:AS}(hc:Zba bor o=.P\/Zba bor o=.R\/Zba bor o=.L\/Zba bor o=.B):
  stD P E kp ops bor v o K s↔∃ u,Zyt P E kp ops bor v o s u/\K (s.put o.dst u):=by
 have self:∀ u,AS.put { s with H:=s.H } o.dst u=s.put o.dst u:=λ_=>rfl;unfold stD Zyt
 cases hw:Zz ops s.τ o with
 |none=>simp
 |some b=>
  cases b with
  |false=>simp
  |true=>
   simp only;obtain⟨dst,op,type,pos,after,guard⟩:=o
   have plain:∀ (h:Zka P E s ⟨dst,op,type,pos,after,guard⟩ (λu H'=>K (AS.put { s with H:=H' } dst u))=(match opV P (s.ev E) ⟨dst,op,type,pos,after,guard⟩with|some u=>K (s.put dst u)|none=>False)),
     (Zka P E s ⟨dst,op,type,pos,after,guard⟩ (λu H'=>K (AS.put { s with H:=H' } dst u))↔∃ u,opV P (s.ev E) ⟨dst,op,type,pos,after,guard⟩=some u/\K (s.put dst u)):=by
    intro h;rw[h]
    cases opV P (s.ev E) ⟨dst,op,type,pos,after,guard⟩<;>simp
   cases op<;>simp only[Zba,reduceCtorEq,or_false,false_or,or_self]at hc
   case load t x=>
    cases bor with
    |lend=>
     simp only[Znb,Zba,Zaq,ldR]
     cases Zec P t (s.ev E x)<;>simp
    |keep=>
     simp only[Znb,Zba,Zaq,ldR];exact⟨λh=>⟨v,⟨h.1,rfl⟩,h.2⟩,fun⟨u,⟨h1,h2⟩,h3⟩=>⟨h1,by subst h2;exact h3⟩⟩
    |pure=>
     simp only[Znb,Zba,Zaq,Zka,ldR]
     cases Zvb P s.H t (s.ev E x)<;>simp
    |own=>
     simp only[Znb,Zba,Zaq,Zka,ldR]
     cases Zvb P s.H t (s.ev E x)<;>simp
    |any=>
     simp only[Znb,Zba,Zaq,Zka,ldR]
     cases Zvb P s.H t (s.ev E x)<;>simp
   case makeMap t r=>cases r<;>simp[Zba]at hc
   case lookup t m x ok=>
    simp only[Znb,Zba,Zka]
    cases Zmg P s.H t (s.ev E m) (s.ev E x) ok<;>simp
   case call c=>
    obtain⟨callee,args,ats⟩:=c;cases callee
    case value f=>
     simp only[Znb,Zba]
     cases bor with
     |any=>simp[Zba]at hc
     |keep=>simp[Zba]at hc
     |lend=>
      simp only
      split
      rename_i fid first cap hf
      constructor
      rintro⟨h1,h2⟩;exact⟨v,⟨rfl,h1⟩,h2⟩;rintro⟨u,⟨rfl,h1⟩,h2⟩;exact⟨h1,h2⟩;simp
     |pure=>
      simp only
      split
      rename_i fid first cap hf
      constructor
      rintro⟨h1,h2⟩;exact⟨v,⟨rfl,h1⟩,h2⟩;rintro⟨u,⟨rfl,h1⟩,h2⟩;exact⟨h1,h2⟩;simp
     |own=>
      simp only
      split
      rename_i fid first cap hf
      constructor
      rintro⟨h1,h2⟩;exact⟨v,⟨rfl,h1⟩,h2⟩;rintro⟨u,⟨rfl,h1⟩,h2⟩;exact⟨h1,h2⟩;simp
    case invoke r m=>simp only[reduceCtorEq,or_false,or_self]at hc
    case builtin b=>
     cases b<;>simp only[reduceCtorEq,or_false,false_or,or_self]at hc
     all_goals exact plain rfl
   all_goals exact plain rfl
end
end Go.Hs
