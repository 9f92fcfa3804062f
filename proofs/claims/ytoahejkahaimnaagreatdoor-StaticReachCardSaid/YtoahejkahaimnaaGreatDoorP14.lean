/- A part. No condition. -/
import Derived.Test.YtoahejkahaimnaaGreatDoorP13
set_option linter.all false
namespace Go.Hs
section
variable{P:Program}{E:Ent}{ops:Array Oper}{kp:Kps}
def hrel(P:Program)(kp:Kps)(c:Cls)(H H':Heap):Prop:=
 match c with
 |.P|.R|.L|.B=>H'=H
 |.A=>H'=H\/∃ d x,H d=.dead/\H'=upd H d x
 |.W=>H'=H\/KpH P kp H'
theorem hrel.keeps{c:Cls}{H H':Heap}(h:hrel P kp c H H')(hk:KpH P kp H):KpH P kp H':=by
 cases c
 case A=>
  rcases h with h|⟨d,x,hd,h⟩
  rw[h];exact hk;rw[h];exact hk.new hd x
 case W=>
  rcases h with h|h
  rw[h];exact hk;exact h
 all_goals exact(show H'=H from h) ▸ hk
theorem Z0h{bor:Md}{v u:V}{o:Oper}{s s':AS}(hH:s'.H=s.H)(hev:∀ x∈o.op.operands,s'.ev E x=s.ev E x)(hw:Zz ops s'.τ o=Zz ops s.τ o)(h:Zyt P E kp ops bor v o s u):
  Zyt P E kp ops bor v o s' u:=by
 unfold Zyt at *;rw[hw];have hop:=Z3j (P:=P) hev
 split at h
 .rename_i hwt
  clear hwt hw;obtain⟨dst,op,type,pos,after,guard⟩:=o
  cases op<;>(try simp only[Op.operands]at hev)<;>(try simp only at h⊢)<;>try(rw[hop];exact h)
  case load t x=>rw[hev x zS,hH];exact h
  case lookup t m x ok=>rw[hev x zS,hev m zS,hH];exact h
  case call c=>
   obtain⟨callee,args,ats⟩:=c;simp only[Call.operands]at hev
   cases callee<;>(try simp only at h⊢)<;>try(rw[hop];exact h)
   rename_i f;have h1:s'.ev E f=s.ev E f:=hev f zS;have h2:args.toList.map (s'.ev E)=args.toList.map (s.ev E):=List.map_congr_left (λx hx=>hev x (by simp;exact .inr (zu hx)));rw[h1,h2,hH];exact h
 exact h;exact h
theorem Z8fa{H:Heap}{d:Nat}(hd:H d=.dead)(x:AObj){t:TypeId}{m k:V}{ok:Bool}{u:V}(h:Zmg P H t m k ok=some u):Zmg P (upd H d x) t m k ok=some u:=by
 unfold Zmg at *
 cases m with
 |mref o b=>
  simp only at h⊢
  have hne:o≠d:=λe=>by rw[e,hd]at h;cases h
  rw[Zi _ _ hne];exact h
 |_=>exact h
def MkOk(mk:Nat->AObj):Prop:=(∃ cs,∀ g,mk g=.cells .new g 0 cs)\/∃ lo,∀ g,mk g=.mp lo g [] []
theorem rd_mk{mk:Nat->AObj}(h:MkOk mk){H:Heap}{o g off:Nat}{t:TypeId}:Zvb P (upd H o (mk (g+1))) t (.ptr o g off)=none:=by
 rcases h with ⟨cs,h⟩|⟨lo,h⟩<;>simp[Zvb,h]
theorem Zh6{mk:Nat->AObj}(hm:MkOk mk){H:Heap}{d g0:Nat}{t:TypeId}{m k:V}{ok:Bool}{u:V}(hv:∀ g,∃ u,Zmg P (upd H d (mk g)) t m k ok=some u)(h:Zmg P (upd H d (mk g0)) t m k ok=some u):Zmg P H t m k ok=some u:=by
 cases m with
 |mref o b=>
  have hne:o≠d:=λe=>by
   obtain⟨u',h1⟩:=hv (b+1);unfold Zmg at h1;simp only at h1;rw[e,Z3]at h1
   rcases hm with ⟨cs,hm⟩|⟨lo,hm⟩
   rw[hm]at h1;cases h1;rw[hm]at h1;simp at h1
  unfold Zmg at h⊢;simp only at h⊢;rw[Zi _ _ hne]at h;exact h
 |_=>exact h
theorem Zrda{bor:Md}{v u:V}{o:Oper}{s s':AS}{c:Cls}(hc:(Zba bor o=.P)\/(Zba bor o=.R/\(c=.P\/c=.R\/c=.L\/c=.B\/c=.A))\/(Zba bor o=.L)\/(Zba bor o=.B/\(c=.P\/c=.R\/c=.L\/c=.B)))
  (hH:hrel P kp c s.H s'.H) (hev:∀ x∈o.op.operands,s'.ev E x=s.ev E x) (hw:Zz ops s'.τ o=Zz ops s.τ o) (h:Zyt P E kp ops bor v o s u):Zyt P E kp ops bor v o s' u:=by
 rcases hc with hc|⟨hc,hcc⟩|hc|⟨hc,hcc⟩
 have key:Zyt P E kp ops bor v o ⟨s.τ,s'.H⟩ u:=by
  unfold Zyt at *
  split at h
  .rename_i hwt
   have hwt':Zz ops (⟨s.τ,s'.H⟩:AS).τ o=some true:=hwt;rw[hwt'];simp only
   have hop:opV P (AS.ev E ⟨s.τ,s'.H⟩) o=opV P (s.ev E) o:=Z3j λx _=>by cases x<;>rfl
   obtain⟨dst,op,type,pos,after,guard⟩:=o
   cases op<;>(try simp only[Zba,reduceCtorEq]at hc)<;>(try simp only at h⊢)<;>try(rw[hop];exact h)
   case load t x=>
    have h1:AS.ev E ⟨s.τ,s'.H⟩ x=s.ev E x:=by cases x<;>rfl
    rw[h1]
    cases bor with
    |lend=>exact h
    |keep=>cases hc
    |pure=>cases hc
    |own=>cases hc
    |any=>cases hc
   case call c'=>
    obtain⟨callee,args,ats⟩:=c'
    cases callee<;>(try simp only at h⊢)<;>try(rw[hop];exact h)
    rename_i f
    have h1:AS.ev E ⟨s.τ,s'.H⟩ f=s.ev E f:=by cases f<;>rfl
    have h2:args.toList.map (AS.ev E ⟨s.τ,s'.H⟩)=args.toList.map (s.ev E):=List.map_congr_left (λx _=>by cases x<;>rfl);rw[h1,h2]
    cases bor with
    |any=>simp at hc
    |keep=>simp at hc
    |lend=>simp at hc
    |pure=>exact h
    |own=>exact h
  rename_i hwt;have hwt':Zz ops (⟨s.τ,s'.H⟩:AS).τ o=some false:=hwt;rw[hwt'];exact h;exact h.elim
 refine Z0h (s:=⟨s.τ,s'.H⟩) rfl (λx hx=>?_) hw key;rw[hev x hx]
 cases x<;>rfl
 have hcase:s'.H=s.H\/∃ d x,s.H d=.dead/\s'.H=upd s.H d x:=by
  rcases hcc with rfl|rfl|rfl|rfl|rfl
  exact .inl hH;exact .inl hH;exact .inl hH;exact .inl hH;exact hH
 rcases hcase with hH|⟨d,x,hd,hH⟩
 exact Z0h hH hev hw h;unfold Zyt at *;rw[hw]
 split at h
 .rename_i hwt
  clear hwt hw;obtain⟨dst,op,type,pos,after,guard⟩:=o
  cases op<;>(try simp only[Zba,reduceCtorEq]at hc)
  case makeMap t r=>cases r<;>cases hc
  case load t y=>
   simp only[Op.operands]at hev;simp only at h⊢;rw[hev y zS,hH]
   have hb:∀ (H:Heap) (a:V),ldR P kp bor v H t a u↔Zvb P H t a=some u:=λH a=>by
    cases bor with
    |lend=>cases hc
    |keep=>cases hc
    |pure=>exact Iff.rfl
    |own=>exact Iff.rfl
    |any=>exact Iff.rfl
   rw[hb]at h⊢;unfold Zvb at *
   split at h
   rename_i o' g off hy
   split at h
   rename_i c1 g1 fz cs ho
   have hne:o'≠d:=λe=>by rw[e,hd]at ho;cases ho
   rw[Zi _ _ hne,ho];exact h;simp at h;exact h
  case lookup t m y ok=>
   simp only[Op.operands]at hev;simp only at h⊢;rw[hev y zS,hev m zS,hH];exact Z8fa hd x h
  case call c'=>
   obtain⟨callee,args,ats⟩:=c';cases callee
   simp only at hc;split at hc<;>cases hc
   cases hc
   rename_i b;cases b<;>cases hc
 exact h;exact h.elim;unfold Zyt at *;rw[hw]
 split at h
 .rename_i hwt
  clear hwt hw;obtain⟨dst,op,type,pos,after,guard⟩:=o
  cases op<;>(try simp only[Zba,reduceCtorEq]at hc)
  case makeMap t r=>cases r<;>cases hc
  case load t y=>
   simp only[Op.operands]at hev;simp only at h⊢;rw[hev y zS]
   cases bor with
   |lend=>cases hc
   |pure=>cases hc
   |own=>cases hc
   |any=>cases hc
   |keep=>exact⟨⟨h.1.1,hH.keeps h.1.2⟩,h.2⟩
  case call c'=>
   obtain⟨callee,args,ats⟩:=c';cases callee
   simp only at hc;split at hc<;>cases hc
   cases hc
   rename_i b;cases b<;>cases hc
 exact h;exact h.elim
 have hH':s'.H=s.H:=by rcases hcc with rfl|rfl|rfl|rfl<;>exact hH
 exact Z0h hH' hev hw h
theorem Z0g{bor:Md}{o:Oper}(hc:Zba bor o=.A){s:AS}{K:V->Heap->Prop}(h:Zka P E s o K):
  ∃ (d:Nat) (u:Nat->V) (mk:Nat->AObj),MkOk mk/\o.dst=some d/\(∀ g,K (u g) (upd s.H (E.q+d) (mk g))) /\
   ∀ (s':AS) (K':V->Heap->Prop),(∀ x∈o.op.operands,s'.ev E x=s.ev E x)->(Zka P E s' o K'↔∀ g,K' (u g) (upd s'.H (E.q+d) (mk g))):=by
 obtain⟨dst,op,type,pos,after,guard⟩:=o
 cases op<;>(try simp only[Zba,reduceCtorEq]at hc)
 case load t x=>cases bor<;>cases hc
 case alloc t=>
  simp only[Zka]at h
  split at h
  rename_i z d hz;refine⟨d,λg=>.ptr (E.q+d) g 0,λg=>.cells .new g 0 z.cells,.inl ⟨_,λ_=>rfl⟩,rfl,h.2,λs' K' _=>?_⟩;simp only[Zka,hz];exact⟨λhh=>hh.2,λhk=>⟨h.1,hk⟩⟩;exact h.elim
 case box t x=>
  simp only[Zka]at h
  split at h
  rename_i d;refine⟨d,λg=>.ptr (E.q+d) g 0,λg=>.cells .new g 0 (s.ev E x).cells,.inl ⟨_,λ_=>rfl⟩,rfl,h.2,λs' K' he=>?_⟩;simp only[Zka];rw[he x (by simp[Op.operands])];exact⟨λhh=>hh.2,λhk=>⟨h.1,hk⟩⟩;exact h.elim
 case buildSlice t len parts=>
  simp only[Zka]at h
  split at h
  .rename_i d
   unfold Zgd at h
   split at h
   case h_2=>exact h.elim
   rename_i e hu
   split at h
   case h_2=>exact h.elim
   rename_i E' z hsz hz;obtain⟨h1,h2,h3,h4⟩:=h
   split at h4
   case h_2=>exact h4.elim
   rename_i cs hf;refine⟨d,λg=>.msl (E.q+d) g 0 len E',λg=>.cells .new g 0 cs,.inl ⟨_,λ_=>rfl⟩,rfl,h4,λs' K' he=>?_⟩
   have hp:(parts.toList.map λp=>(p.1,s'.ev E p.2))=(parts.toList.map λp=>(p.1,s.ev E p.2)):=by
    apply List.map_congr_left;intro p hp;rw[he p.2 (by simp[Op.operands];exact⟨p.1,zu hp⟩)]
   simp only[Zka,Zgd,hp,hu,hsz,hz,hf];exact⟨λhh=>hh.2.2.2,λhk=>⟨h1,h2,h3,hk⟩⟩
  exact h.elim
 case makeMap t r=>
  cases r with
  |some r=>cases hc
  |none=>
   simp only[Zka]at h
   split at h
   rename_i d;exact⟨d,λb=>.mref (E.q+d) b,λb=>.mp E.X0.w.heap.size b [] [],.inr ⟨_,λ_=>rfl⟩,rfl,h,λs' K' _=>Iff.rfl⟩;exact h.elim
 case makeSlice t l c=>
  simp only[Zka]at h
  split at h
  .rename_i d
   have hint:∃ e k1 n k2 m,P.underlying t=some (.slice e)/\s.ev E l=.int k1 n/\s.ev E c=.int k2 m:=by
    clear hc;unfold Zid at h;generalize P.underlying t=a1 at *;generalize s.ev E l=a2 at *;generalize s.ev E c=a3 at *
    split at h
    exact⟨_,_,_,_,_,rfl,rfl,rfl⟩;exact h.elim
   obtain⟨e,k1,n,k2,m,hu,hl,hcv⟩:=hint;unfold Zid at h;rw[hu,hl,hcv]at h;simp only at h
   split at h
   case h_2=>exact h.elim
   rename_i E' bytes z hsz hby hz;obtain⟨h1,h2,h3,h4,h5,h6,h7⟩:=h;refine⟨d,λg=>.msl (E.q+d) g 0 n.toNat E',λg=>.cells .new g 0 (Z7f m.toNat z.cells),.inl ⟨_,λ_=>rfl⟩,rfl,h7,λs' K' he=>?_⟩;have e1:=he l (by simp[Op.operands]);have e2:=he c (by simp[Op.operands]);simp only[Zka,Zid,e1,e2,hl,hcv,hu,hsz,hby,hz];exact⟨λhh=>hh.2.2.2.2.2.2,λhk=>⟨h1,h2,h3,h4,h5,h6,hk⟩⟩
  exact h.elim
 case call c=>
  obtain⟨callee,args,ats⟩:=c;cases callee
  simp only at hc;split at hc<;>cases hc
  cases hc
  rename_i b;cases b<;>cases hc
theorem Zfn{bor:Md}{v u:V}{oi oj:Oper}(hap:oi.apart ops oj=true){K:AS->Prop}{s:AS}(h:stD P E kp ops bor v oj K (s.put oi.dst u)):
  stD P E kp ops bor v oj (λs'=>K (s'.put oi.dst u)/\hrel P kp (Zba bor oj) s.H s'.H/\Zz ops s'.τ oi=Zz ops s.τ oi/\∀ x∈oi.op.operands,s'.ev E x=s.ev E x) s:=by
 obtain⟨a1,a2,a3⟩:=Zb7 (E:=E) hap;have hH:=Zdd s oi.dst u
 have hcomm:∀ w H',(AS.put { s with H:=H' } oj.dst w).put oi.dst u=AS.put { (s.put oi.dst u)with H:=H' } oj.dst w:=by
  intro w H';rw[Zvg,<- a3]
 have evH:∀ (s:AS) (H':Heap) x,AS.ev E { s with H:=H' } x=s.ev E x:=λs H' x=>by cases x<;>rfl
 have facts:∀ w H',Zz ops (AS.put { s with H:=H' } oj.dst w).τ oi=Zz ops s.τ oi/\∀ x∈oi.op.operands,(AS.put { s with H:=H' } oj.dst w).ev E x=s.ev E x:=by
  intro w H';obtain⟨b1,b2⟩:=a2 { s with H:=H' } w;exact⟨b2,λx hx=>by rw[b1 x hx,evH]⟩
 by_cases hc:Zba bor oj=.P\/Zba bor oj=.R\/Zba bor oj=.L\/Zba bor oj=.B
 rw[Zhg hc]at h⊢;obtain⟨r,h1,h2⟩:=h;refine⟨r,Z0h (s:=s.put oi.dst u) hH.symm (λx hx=>((a1 s u).1 x hx).symm) ((a1 s u).2).symm h1,?_,?_,?_⟩;have:=hcomm r s.H
 have e:K ((s.put oj.dst r).put oi.dst u):=by
  have e2:(s.put oj.dst r).put oi.dst u=(s.put oi.dst u).put oj.dst r:=(a3 s u r).symm;rw[e2];exact h2
 exact e;rw[Zdd]
 rcases hc with hc|hc|hc|hc<;>rw[hc]<;>rfl
 exact facts r s.H
 have hstep:∀ K':V->Heap->Prop,Znb P E kp bor v s oj K'↔(Zba bor oj=.A->∃ d,oj.dst=some d/\s.H (E.q+d)=.dead)/\Zka P E s oj (λu H'=>(Zba bor oj=.W->KpH P kp H')/\K' u H'):=by
  intro K';unfold Znb
  cases hcl:Zba bor oj<;>simp only[hcl,reduceCtorEq,false_or,or_false,or_self,not_true_eq_false]at hc⊢
  simp only[true_implies,false_implies,true_and]
  cases oj.dst<;>simp
  simp
 have hstep':∀ K':V->Heap->Prop,Znb P E kp bor v (s.put oi.dst u) oj K'↔(Zba bor oj=.A->∃ d,oj.dst=some d/\s.H (E.q+d)=.dead)/\Zka P E (s.put oi.dst u) oj (λu H'=>(Zba bor oj=.W->KpH P kp H')/\K' u H'):=by
  intro K';unfold Znb
  cases hcl:Zba bor oj<;>simp only[hcl,reduceCtorEq,false_or,or_false,or_self,not_true_eq_false]at hc⊢
  simp only[true_implies,false_implies,true_and,hH]
  cases oj.dst<;>simp
  simp
 unfold stD at h⊢;rw[(a1 s u).2]at h
 split at h
 rename_i hw;simp only[hw];rw[hstep']at h;rw[hstep];refine⟨h.1,?_⟩;have h2:=h.2;rw[Znz (s':=s) hH (λx hx=>(a1 s u).1 x hx)]at h2
 by_cases hA:Zba bor oj=.A
 obtain⟨d,uu,mk,hmk,hd,hk,hback⟩:=Z0g hA h2;refine(hback s _ (λ_ _=>rfl)).2 λg=>⟨λe=>(by rw[hA]at e;cases e),?_,?_,?_⟩;rw[hcomm];exact(hk g).2;rw[Zdd,hA];obtain⟨d',hd',hdead⟩:=h.1 hA;rw[hd]at hd';cases hd';exact .inr ⟨_,_,hdead,rfl⟩;exact facts _ _;refine Zqa (λw H' hk=>⟨hk.1,?_,?_,?_⟩) h2;rw[hcomm];exact hk.2
 have:Zba bor oj=.W:=by cases hcl:Zba bor oj<;>simp_all
 rw[Zdd,this];exact .inr (hk.1 this);exact facts _ _;rename_i hw;simp only[hw];refine⟨?_,?_,?_⟩;have:=hcomm (.tuple []) s.H
 have e:K ((s.put oj.dst (.tuple [])).put oi.dst u):=by
  have e2:(s.put oj.dst (.tuple [])).put oi.dst u=(s.put oi.dst u).put oj.dst (.tuple []):=(a3 s u _).symm;rw[e2];exact h
 exact e;rw[Zdd]
 cases Zba bor oj<;>simp[hrel]
 exact facts (.tuple []) s.H;exact h.elim
theorem Zm5{bi bj:Md}{vi vj:V}{oi oj:Oper}(hap:oi.apart ops oj=true)(hcc:Zph (Zba bi oi) (Zba bj oj)=true){K:AS->Prop}{s:AS}
  (h:stD P E kp ops bi vi oi (stD P E kp ops bj vj oj K) s):stD P E kp ops bj vj oj (stD P E kp ops bi vi oi K) s:=by
 obtain⟨a1,a2,a3⟩:=Zb7 (E:=E) hap
 by_cases hi:Zba bi oi=.P\/Zba bi oi=.R\/Zba bi oi=.L\/Zba bi oi=.B
 rw[Zhg hi]at h;obtain⟨u,h1,h2⟩:=h;refine Zfc ?_ (Zfn hap h2);rintro s' ⟨hk,hH,hw,hev⟩;rw[Zhg hi];refine⟨u,Zrda (c:=Zba bj oj) ?_ hH hev hw h1,hk⟩
 rcases hi with hi|hi|hi|hi
 exact .inl hi;refine .inr (.inl ⟨hi,?_⟩);rw[hi]at hcc
 cases hj:Zba bj oj<;>simp[hj,Zph]at hcc⊢
 exact .inr (.inr (.inl hi));refine .inr (.inr (.inr ⟨hi,?_⟩));rw[hi]at hcc
 cases hj:Zba bj oj<;>simp[hj,Zph]at hcc⊢
 .
  have hA:Zba bi oi=.A:=by
   cases hcl:Zba bi oi<;>simp[hcl]at hi⊢
   rw[hcl]at hcc;simp[Zph]at hcc
  unfold stD at h
  split at h
  .rename_i hw
   unfold Znb at h;simp only[hA]at h;obtain⟨hdead,h⟩:=h;obtain⟨d,uu,mk,hmk,hd,hk,hback⟩:=Z0g hA h;rw[hd]at hdead;simp only at hdead
   let sg:Nat->AS:=λg=>{ s with H:=upd s.H (E.q+d) (mk g) }
   have hk':∀ g,stD P E kp ops bj vj oj (λs'=>K (s'.put oi.dst (uu g))/\hrel P kp (Zba bj oj) (sg g).H s'.H/\Zz ops s'.τ oi=Zz ops (sg g).τ oi/\∀ x∈oi.op.operands,s'.ev E x=(sg g).ev E x) (sg g):=λg=>Zfn hap (hk g)
   have evH:∀ (s:AS) (H':Heap) x,AS.ev E { s with H:=H' } x=s.ev E x:=λs H' x=>by cases x<;>rfl
   have fin:∀ s1:AS,Zz ops s1.τ oi=Zz ops s.τ oi->(∀ x∈oi.op.operands,s1.ev E x=s.ev E x)->s1.H (E.q+d)=.dead ->
     (∀ g,K (AS.put { s1 with H:=upd s1.H (E.q+d) (mk g) } oi.dst (uu g)))->stD P E kp ops bi vi oi K s1:=by
    intro s1 hw1 hev1 hd1 hK1;unfold stD;rw[hw1,hw];simp only;unfold Znb;simp only[hA];refine⟨by rw[hd];exact hd1,(hback s1 _ hev1).2 λg=>?_⟩;exact hK1 g
   by_cases hj:Zba bj oj=.P\/Zba bj oj=.R\/Zba bj oj=.L\/Zba bj oj=.B
   .have hj':Zba bj oj=.P\/Zba bj oj=.R\/Zba bj oj=.L:=by
     rw[hA]at hcc
     rcases hj with hj|hj|hj|hj
     exact .inl hj;exact .inr (.inl hj);exact .inr (.inr hj);rw[hj]at hcc;simp[Zph]at hcc
    have hvals:∀ g,∃ r,Zyt P E kp ops bj vj oj (sg g) r/\K ((sg g).put oj.dst r |>.put oi.dst (uu g)):=λg=>by
     have:=hk' g;rw[Zhg hj]at this;obtain⟨r,h1,h2,_⟩:=this;exact⟨r,h1,h2⟩
    obtain⟨r0,hr0,hrall⟩:∃ r0,Zyt P E kp ops bj vj oj s r0/\∀ g r,Zyt P E kp ops bj vj oj (sg g) r->r=r0:=by
     unfold Zyt at hvals⊢;have hwj:∀ g,Zz ops (sg g).τ oj=Zz ops s.τ oj:=λ_=>rfl;simp only[hwj]at hvals⊢
     cases hwt:Zz ops s.τ oj with
     |none=>rw[hwt]at hvals;obtain⟨r,h1,_⟩:=hvals 0;exact h1.elim
     |some b=>
      rw[hwt]at hvals
      cases b with
      |false=>exact⟨_,rfl,λg r hr=>hr⟩
      |true=>
       simp only at hvals⊢;have hop:∀ g,opV P ((sg g).ev E) oj=opV P (s.ev E) oj:=λg=>Z3j λx _=>evH s _ x;clear hk hback h hk' fin a1 a2 a3 hap;obtain⟨dst,op,type,pos,after,guard⟩:=oj
       have plain:(∀ g,∃ r,opV P ((sg g).ev E) ⟨dst,op,type,pos,after,guard⟩=some r/\K (((sg g).put dst r).put oi.dst (uu g))) ->
         ∃ r0,opV P (s.ev E) ⟨dst,op,type,pos,after,guard⟩=some r0/\∀ g r,opV P ((sg g).ev E) ⟨dst,op,type,pos,after,guard⟩=some r->r=r0:=by
        intro hv;obtain⟨r,h1,_⟩:=hv 0;rw[hop]at h1;exact⟨r,h1,λg r' hr'=>by rw[hop,h1]at hr';exact(Option.some.inj hr').symm⟩
       cases op<;>simp only[Zba,reduceCtorEq,or_self,or_false,false_or]at hj'<;>simp only at hvals⊢ <;> try exact plain hvals
       case lookup t m x ok=>
        have hev:∀ g x,(sg g).ev E x=s.ev E x:=λg x=>evH s _ x;simp only[hev]at hvals⊢;obtain⟨r,h1,_⟩:=hvals 0
        have hv:∀ g,∃ u,Zmg P (upd s.H (E.q+d) (mk g)) t (s.ev E m) (s.ev E x) ok=some u:=λg=>by
         obtain⟨r,h1,_⟩:=hvals g;exact⟨r,h1⟩
        have h0:=Zh6 hmk hv h1;exact⟨r,h0,λg r' hr'=>by rw[Zh6 hmk hv hr']at h0;exact Option.some.inj h0⟩
       case load t x=>
        have hev:∀ g,(sg g).ev E x=s.ev E x:=λg=>evH s _ x;simp only[hev]at hvals⊢
        rcases(show bj=.lend\/bj=.keep\/∀ (H:Heap) (a u:V),ldR P kp bj vj H t a u↔Zvb P H t a=some u by
         cases bj;exact .inr (.inr λ_ _ _=>Iff.rfl);exact .inl rfl;exact .inr (.inr λ_ _ _=>Iff.rfl);exact .inr (.inl rfl)
         exact .inr (.inr λ_ _ _=>Iff.rfl))with rfl|rfl|hb
        simp only[ldR]at hvals⊢;obtain⟨r,h1,_⟩:=hvals 0;exact⟨r,h1,λg r' hr'=>by rw[h1]at hr';exact(Option.some.inj hr').symm⟩;simp only[ldR]at hvals⊢;refine⟨vj,⟨⟨?_,λp hp=>?_⟩,rfl⟩,λg r' hr'=>hr'.2⟩;obtain⟨r,⟨h1,_⟩,_⟩:=hvals 0;exact h1.1
        have hrd:∀ g,Zvb P (sg g).H p.1 p.2.1=some p.2.2:=λg=>by
         obtain⟨r,⟨h1,_⟩,_⟩:=hvals g;exact h1.2 p hp
        by_cases hp:∃ o' g' off,p.2.1=.ptr o' g' off
        obtain⟨o',g',off,hp⟩:=hp
        have hne:o'≠E.q+d:=by
         intro e;have h1:=hrd (g'+1);rw[hp,e]at h1;rw[show(sg (g'+1)).H=upd s.H (E.q+d) (mk (g'+1))from rfl,rd_mk hmk]at h1;cases h1
        have h1:=hrd 0;rw[hp]at h1⊢;simp only[Zvb,sg,Zi _ _ hne]at h1⊢;exact h1;have h1:=hrd 0;unfold Zvb at h1⊢
        split
        rename_i o' g off hy;exact absurd ⟨o',g,off,hy⟩ hp;generalize p.2.1=a at h1 hp
        cases a<;>first|exact h1|exact absurd ⟨_,_,_,rfl⟩ hp
        simp only[hb]at hvals⊢
        by_cases hp:∃ o' g' off,s.ev E x=.ptr o' g' off
        obtain⟨o',g',off,hp⟩:=hp
        have hne:o'≠E.q+d:=by
         intro e;obtain⟨r,h1,_⟩:=hvals (g'+1);rw[hp,e]at h1;rw[show(sg (g'+1)).H=upd s.H (E.q+d) (mk (g'+1))from rfl,rd_mk hmk]at h1;cases h1
        have hr:∀ g,Zvb P (sg g).H t (s.ev E x)=Zvb P s.H t (s.ev E x):=by
         intro g;rw[hp];simp only[Zvb,sg,Zi _ _ hne]
        simp only[hr]at hvals⊢;obtain⟨r,h1,_⟩:=hvals 0;exact⟨r,h1,λg r' hr'=>by rw[h1]at hr';exact(Option.some.inj hr').symm⟩
        have hr:∀ g,Zvb P (sg g).H t (s.ev E x)=Zvb P s.H t (s.ev E x):=by
         intro g;unfold Zvb
         split
         rename_i o' g' off hy;exact absurd ⟨o',g',off,hy⟩ hp;rfl
        simp only[hr]at hvals⊢;obtain⟨r,h1,_⟩:=hvals 0;exact⟨r,h1,λg r' hr'=>by rw[h1]at hr';exact(Option.some.inj hr').symm⟩
       case call c'=>
        obtain⟨callee,args,ats⟩:=c'
        cases callee<;>simp only at hvals⊢ <;> try exact plain hvals
        rename_i f;have hf:∀ g,(sg g).ev E f=s.ev E f:=λg=>evH s _ f;have hargs:∀ g,args.toList.map ((sg g).ev E)=args.toList.map (s.ev E):=λg=>List.map_congr_left λx _=>evH s _ x
        cases bj with
        |any=>simp at hj'
        |keep=>simp at hj'
        |lend=>simp at hj'
        |pure=>
         simp only[hf,hargs]at hvals⊢
         split at hvals
         .rename_i fid first cap hfe
          try simp only[hfe]
          obtain⟨r,⟨h1,h2⟩,_⟩:=hvals 0;exact⟨vj,⟨rfl,h2⟩,λg r hr=>hr.1⟩
         obtain⟨r,h1,_⟩:=hvals 0;exact h1.elim
        |own=>
         simp only[hf,hargs]at hvals⊢
         split at hvals
         .rename_i fid first cap hfe
          try simp only[hfe]
          obtain⟨r,⟨h1,h2⟩,_⟩:=hvals 0;exact⟨vj,⟨rfl,h2⟩,λg r hr=>hr.1⟩
         obtain⟨r,h1,_⟩:=hvals 0;exact h1.elim
    rw[Zhg hj];refine⟨r0,hr0,fin _ ?_ ?_ ?_ ?_⟩;exact(a2 s r0).2;exact(a2 s r0).1;rw[Zdd];exact hdead;intro g;obtain⟨r,h1,h2⟩:=hvals g;have:=hrall g r h1;subst this;rw[Zdd,Zvg];exact h2
   have hjA:Zba bj oj=.A:=by
    rw[hA]at hcc
    cases hcl:Zba bj oj<;>simp[hcl,Zph]at hcc hj⊢
   unfold stD;have hk0:=hk' 0;unfold stD at hk0;have hwj:Zz ops (sg 0).τ oj=Zz ops s.τ oj:=rfl;rw[hwj]at hk0
   split at hk0
   .rename_i hwt
    try rw[hwt]
    try simp only
    unfold Znb at hk0⊢;simp only[hjA]at hk0⊢;obtain⟨hdead0,hk0⟩:=hk0;obtain⟨d',uu',mk',_,hd',_,hback'⟩:=Z0g hjA hk0
    have hdd:E.q+d'≠E.q+d:=by
     intro e;obtain⟨_,h2,_⟩:=Oper.apart_spec hap;have:d'=d:=zo;subst this;exact h2 _ hd hd'
    rw[hd']at hdead0⊢;simp only at hdead0⊢
    have hdead':s.H (E.q+d')=.dead:=by
     rw[show(sg 0).H=upd s.H (E.q+d) (mk 0)from rfl,Zi _ _ hdd]at hdead0;exact hdead0
    refine⟨hdead',(hback' s _ (λx _=>(evH s _ x).symm)).2 λg'=>?_⟩;have hsτ := a2 { s with H:=upd s.H (E.q+d') (mk' g') } (uu' g');rw[<- hd'];refine fin _ ?_ ?_ ?_ ?_;rw[hsτ.2];intro x hx;rw[hsτ.1 x hx,evH];rw[Zdd];simp only;rw[Zi _ _ (Ne.symm hdd)];exact hdead;intro g;have hkg:=hk' g;unfold stD at hkg;have hwj:Zz ops (sg g).τ oj=Zz ops s.τ oj:=rfl;rw[hwj,hwt]at hkg;simp only at hkg;unfold Znb at hkg;simp only[hjA]at hkg;have hsame:=(hback' (sg g) _ (λx _=>(evH s _ x).trans (evH s _ x).symm)).1 hkg.2;have:=(hsame g').1;rw[Zdd,Zvg];simp only;rw[Zd5 _ _ _ hdd];exact this
   .rename_i hwt
    try rw[hwt]
    try simp only
    have hkf:∀ g,K ((sg g).put oj.dst (.tuple []) |>.put oi.dst (uu g)):=by
     intro g;have hkg:=hk' g;unfold stD at hkg;have hwj:Zz ops (sg g).τ oj=Zz ops s.τ oj:=rfl;rw[hwj,hwt]at hkg;exact hkg.1
    refine fin _ (a2 s _).2 (a2 s _).1 (by rw[Zdd];exact hdead) λg=>?_;rw[Zdd,Zvg];exact hkf g
   exact hk0.elim
  rename_i hw;refine Zfc ?_ (Zfn hap h);rintro s' ⟨hk,hH,hw',hev⟩;unfold stD;rw[hw',hw];exact hk;exact h.elim
end
end Go.Hs
