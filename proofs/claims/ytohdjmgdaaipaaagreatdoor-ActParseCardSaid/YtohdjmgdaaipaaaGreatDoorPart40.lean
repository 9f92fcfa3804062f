/- Part 40 of the proof of a statement of seat YtohdjmgdaaipaaaGreatDoor: HsExprBkLaw HsHPrtW2 HsHNumRefPut HsHPrtR HsHPrtP. -/
import Derived.Test.YtohdjmgdaaipaaaGreatDoorPart39
import Derived.Test.YtohdjmgdaaipaaaGreatDoorPart38
import Derived.Test.YtohdjmgdaaipaaaGreatDoorPart34
import Derived.Test.YtohdjmgdaaipaaaGreatDoorPart32
import Derived.Test.YtohdjmgdaaipaaaGreatDoorPart29
import Derived.Laws.BytesArg
set_option linter.unusedSimpArgs false
set_option linter.unusedVariables false
section
namespace Go.Hs
open PutLaw
def ErrS (x:Bool × RS):Prop:=x.1=false→x.2.e≠0
theorem ErrS.then {x:Bool × RS} {k:RS→Bool × RS} (h1:ErrS x) (h2:x.1=true→ErrS (k x.2)):ErrS (andThen x k):=by
 obtain ⟨b,r⟩:=x;cases b
 ·exact h1
 ·exact h2 rfl
theorem ErrS.ok {x:RS}:ErrS (true,x):=fun h=>by cases h
theorem eat_err (l:List Tk) (w:List UInt8) (r:RS):ErrS (eatP l w r):=by
 unfold eatP
 split
 ·intro _;show (80:Int)≠0;decide
 ·exact .ok
theorem climb_err {l:List Tk}:∀ (f:Nat) (n:Int) (r:RS),l.length<f+r.i→r.i≤l.length→ErrS (climbP l f n r)
 | 0,n,r,h,h2=>by omega
 | f+1,n,r,h,h2=>by
  have hin:∀ n (r':RS),r.i<r'.i→r'.i≤l.length→ErrS (climbP l f n r'):=fun n r' a b=>climb_err f n r' (by omega) b;have hbs:=climbP_bal l f;rw [climbP];refine ErrS.then ?_ fun _=>?_
  ·have hkl:(nextP l r.i).kind≠0→r.i+1≤l.length:=fun q=>nextP_lt q
   unfold aheadP
   split
   ·unfold numberP
    split
    ·rename_i q;intro _;exact q
    ·exact .ok
   split
   ·exact .ok
   split
   ·intro _;show (80:Int)≠0;decide
   rename_i k0;have hlt:=hkl k0
   split
   ·exact ErrS.then (hin 9 r.adv (Nat.lt_succ_self _) hlt) fun _ => .ok
   split
   ·exact ErrS.then (hin 1 r.adv (Nat.lt_succ_self _) hlt) fun _=>eat_err _ _ _
   split
   ·unfold branchesP
    have b0:=eatP_bal l wIf r;refine ErrS.then (eat_err _ _ _) fun q1=>?_;have m1:=b0.2 q1
    have u1:r.i+1≤(eatP l wIf r).2.i:=by
     unfold eatP at q1 ⊢
     split at q1
     ·cases q1
     ·rename_i qq;rw [if_neg qq];exact Nat.le_refl _
    have i1:=m1.inn h2;generalize (eatP l wIf r).2=r1 at u1 i1 ⊢;have b1:=hbs 1 r1;refine ErrS.then (hin 1 r1 u1 i1) fun _=>?_;have u2:=b1.up;have i2:=b1.inn i1;generalize (climbP l f 1 r1).2=a at u2 i2 ⊢;have b2:=(eatP_bal l wThen a).1;refine ErrS.then (eat_err _ _ _) fun _=>?_;have u3:=b2.up;have i3:=b2.inn i2;generalize (eatP l wThen a).2=r2 at u3 i3 ⊢;have b3:=hbs 1 r2;refine ErrS.then (hin 1 r2 (by omega) i3) fun _=>?_;have u4:=b3.up;have i4:=b3.inn i3;generalize (climbP l f 1 r2).2=b at u4 i4 ⊢;have b4:=(eatP_bal l wElse b).1;refine ErrS.then (eat_err _ _ _) fun _=>?_;have u5:=b4.up;have i5:=b4.inn i4;generalize (eatP l wElse b).2=r3 at u5 i5 ⊢;refine ErrS.then (hin 1 r3 (by omega) i5) fun _=>?_;exact ErrS.then (eat_err _ _ _) fun _ => .ok
   split
   ·exact .ok
   ·intro _;show (80:Int)≠0;decide
  ·have hb:=aheadP_bal hbs r
   have u0:=hb.up;have i0:=hb.inn h2;generalize (aheadP l (climbP l f) r).2=q at u0 i0 ⊢
   have key:∀ (m:Nat) (q:RS),r.i≤q.i→q.i≤l.length→ErrS (loopP l (climbP l f) n m q):=by
    intro m
    induction m with
    | zero=>intro q _ _;exact .ok
    | succ m ih =>
     intro q hq hl;rw [loopP]
     split
     ·exact .ok
     ·rename_i op ho
      split
      ·exact .ok
      ·have hb:=hbs (lvl op+1) q.adv
       have hlt:=opAt_lt ho;refine ErrS.then (hin _ q.adv (by show r.i<q.i+1;omega) hlt) fun _=>?_;refine ih _ ?_ ?_
       ·have:=hb.up
        show r.i≤_
        have h3:q.i+1≤_:=this;simp only [RS.put_i];omega
       ·simp only [RS.put_i];exact hb.inn hlt
   exact key _ q u0 i0
theorem joinW_len:∀ ws:List (List UInt8),(joinW ws).length≤(ws.map fun w=>w.length+1).sum
 | []=>by simp [joinW]
 | [w]=>by simp [joinW]
 | w::v::r=>by
  have:=joinW_len (v::r);simp only [joinW,List.length_append,List.length_cons,List.map_cons,List.sum_cons] at this ⊢;omega
def wLen (ws:List (List UInt8)):Nat:=(ws.map fun w=>w.length+1).sum
theorem wLen_app (a b:List (List UInt8)):wLen (a++b)=wLen a+wLen b:=by simp [wLen]
theorem wLen_cons (w:List UInt8) (b:List (List UInt8)):wLen (w::b)=w.length+1+wLen b:=by simp [wLen]
theorem wLen_nil:wLen []=0:=rfl
theorem wLen_par (b:Bool) (ts:List (List UInt8)):wLen (parW b ts)≤wLen ts+4:=by
 cases b
 ·show wLen ts≤_;omega
 ·simp only [parW,if_true,wLen_cons,wLen_app,wLen_nil,List.length_cons,List.length_nil];omega
theorem sg_len:∀ op,op≤22→(sgT op).length≤7:=by
 have:((List.range 23).all fun op=>decide ((sgT op).length≤7))=true:=by decide +kernel
 intro op h;have:=List.all_eq_true.1 this op (List.mem_range.2 (by omega));simpa using this
theorem W_len:∀ (x:X),x.ok=true→x.fit→∀ k:Int,wLen (x.W k)≤66 * x.size
 | .leaf op num name,h,hf,k=>by
  simp only [X.W,wLen_cons,wLen_nil,X.size]
  rcases leaf_cases h with ⟨rfl,h1,rfl⟩ | ⟨rfl,rfl,h1⟩ | ⟨rfl,rfl,rfl⟩ | ⟨rfl,rfl,rfl⟩
  ·obtain ⟨p1,p2,p3,p4⟩:=put_digits h1 hf
   rw [if_pos rfl];omega
  ·have:=(isP_first (w:=name) (by omega)).2.2
   rw [if_neg (by decide),if_pos rfl];omega
  ·decide +kernel
  ·decide +kernel
 | .un op a,h,hf,k=>by
  simp only [X.ok,Bool.and_eq_true,decide_eq_true_eq] at h;have ih:=W_len a h.2 hf 9;have:=wLen_par (9<k) (sgT op.toNat::a.W 9);have hs:=sg_len op.toNat (by omega);rw [wLen_cons] at this;simp only [X.W,X.size];omega
 | .bin op a b,h,hf,k=>by
  simp only [X.ok,Bool.and_eq_true,decide_eq_true_eq] at h;have ih1:=W_len a h.1.2 hf.1 (lvl op.toNat);have ih2:=W_len b h.2 hf.2 (lvl op.toNat+1);have:=wLen_par (lvl op.toNat<k) (a.W (lvl op.toNat)++sgT op.toNat::b.W (lvl op.toNat+1));have hs:=sg_len op.toNat (by omega);rw [wLen_app,wLen_cons] at this;simp only [X.W,X.size];omega
 | .ite a b c,h,hf,k=>by
  simp only [X.ok,Bool.and_eq_true] at h;have ih1:=W_len a h.1.1 hf.1 0;have ih2:=W_len b h.1.2 hf.2.1 0;have ih3:=W_len c h.2 hf.2.2 0;simp only [X.W,X.size,wLen_cons,wLen_app,wLen_nil];have e1:wIf.length=2:=rfl;have e2:wThen.length=4:=rfl;have e3:wElse.length=4:=rfl;have e4:wEndif.length=5:=rfl;omega
theorem print_len {x:X} (h:x.ok=true) (hf:x.fit):(joinW (x.W 0)).length≤66 * x.size:=Nat.le_trans (joinW_len _) (W_len x h hf 0)
theorem Gr.size {n:Int} {ts:List (List UInt8)} {x:X} (h:Gr n ts x):x.size≤ts.length:=by
 induction h<;>simp only [X.size,List.length_cons,List.length_append,List.length_nil]<;>omega
theorem Gr.fit {n:Int} {ts:List (List UInt8)} {x:X} (h:Gr n ts x):x.fit:=by
 induction h with
 | @num n t v h1 h2 =>
  show v≤9223372036854775807
  have hp:(parseR (trim0 t)).1≤9223372036854775807:=by
   have ht:∀ z:Int,(told z).1≤9223372036854775807:=by
    intro z;unfold told
    split
    ·rename_i q
     simp only [fits,decide_eq_true_eq] at q;exact q.2
    ·show (0:Int)≤_;decide
   generalize trim0 t=u;unfold parseR;generalize (u.head? == some 45)=bl;cases bl
   ·simp only [Bool.false_eq_true,if_false]
    split
    ·show (0:Int)≤_;decide
    ·exact ht _
   ·simp only [if_true]
    split
    ·show (0:Int)≤_;decide
    ·exact ht _
  rw [h2] at hp;exact hp
 | name=>show (0:Int)≤_;decide
 | tr=>show (0:Int)≤_;decide
 | fa=>show (0:Int)≤_;decide
 | neg _ _ ih=>exact ih
 | not _ _ ih=>exact ih
 | par _ ih=>exact ih
 | bin _ _ _ _ _ i1 i2=>exact ⟨i1,i2⟩
 | ite _ _ _ i1 i2 i3=>exact ⟨i1,i2,i3⟩
theorem toks_count {s:List UInt8} {l:List Tk} (h:toksP s=(l,0,0)):l.length≤s.length:=by
 have key:∀ {s:List UInt8} {ws:List (List UInt8)},Lx s ws→ws.length≤s.length:=by
  intro s ws h
  induction h with
  | nil=>exact Nat.zero_le _
  | @cons s ws k hb hk h0 h64 _ ih =>
   have hle:=firstP_le (s.drop (blk s));rw [hk,List.length_drop] at hle;rw [List.length_drop,List.length_drop] at ih;simp only [List.length_cons];omega
 have:=key (toksP_lx h);rwa [List.length_map] at this
end Go.Hs
end

section
namespace Go.Hs
open Go.Proofs
set_option maxRecDepth 10000
theorem catL_W (ls:List (List (List UInt8))):catL (ls.map fun l=>Sl.mk false l)=ls.flatten:=by
 induction ls with
 | nil=>rfl
 | cons a r ih=>rw [List.map_cons,catL,List.flatMap_cons,List.flatten_cons];exact congrArg _ ih
theorem W_cnt:∀ (x:X) (k:Int),(x.W k).length≤6 * x.size
 | .leaf ..,k=>by simp [X.W,X.size]
 | .un op a,k=>by
  have:=W_cnt a 9
  have hp:∀ b (ts:List (List UInt8)),(parW b ts).length≤ts.length+2:=fun b ts=>by cases b<;>simp [parW]
  have:=hp (9<k) (sgT op.toNat::a.W 9);simp only [X.W,X.size,List.length_cons] at this ⊢;omega
 | .bin op a b,k=>by
  have:=W_cnt a (lvl op.toNat);have:=W_cnt b (lvl op.toNat+1)
  have hp:∀ b (ts:List (List UInt8)),(parW b ts).length≤ts.length+2:=fun b ts=>by cases b<;>simp [parW]
  have:=hp (lvl op.toNat<k) (a.W (lvl op.toNat)++sgT op.toNat::b.W (lvl op.toNat+1));simp only [X.W,X.size,List.length_cons,List.length_append] at this ⊢;omega
 | .ite a b c,k=>by
  have:=W_cnt a 0;have:=W_cnt b 0;have:=W_cnt c 0;simp only [X.W,X.size,List.length_cons,List.length_append,List.length_nil];omega
theorem cat_call {G:Nat→V} (hG:GOk G) (F:Nat→Bool) {H:Heap} {K:V→Heap→Prop} {v:V} (ls:List (List (List UInt8))) (hn:ls.length<1000) (hl:ls.flatten.length<1000000) (hne:ls.flatten.length≠0)
  (h:Fz F H v (encSS .new .new (.mk false (ls.map fun l=>Sl.mk false l)))) (hk:K (encSl .new 1 V.str (.mk false ls.flatten)) hNone):CallA Tryz.prog G 161 [v] H K:=by
 refine CallA.frzL F [encSS .new .new (.mk false (ls.map fun l=>Sl.mk false l))] [] ⟨h,trivial⟩ trivial ?_;refine CallA.pure hG (by kernel_rfl) ?_;rw [List.map_cons,List.map_nil,recol_encSS];refine (sConcat_spec G hG _ _ (.mk false (ls.map fun l=>Sl.mk false l)) (by simp [Sl.l];omega) (by rw [show (Sl.mk false (ls.map fun l=>Sl.mk false l)).l=ls.map fun l=>Sl.mk false l from rfl,catL_W];exact hl) (by rw [show (Sl.mk false (ls.map fun l=>Sl.mk false l)).l=ls.map fun l=>Sl.mk false l from rfl,catL_W];exact hne)).mono ?_;rintro _ _ rfl;rw [show (Sl.mk false (ls.map fun l=>Sl.mk false l)).l=ls.map fun l=>Sl.mk false l from rfl,catL_W];have:(encSl .new 1 V.str (.mk false ls.flatten)).recol Col.bk=encSl .new 1 V.str (.mk false ls.flatten):=recol_enc _ _ _ (fun _=>rfl) _;rw [this];exact hk
theorem Fz.rowSS {F:Nat→Bool} {H:Heap} {o g n:Nat} {cs:List V} (ls:List (List (List UInt8))) (hF:F o=true) (hH:H o = .cells .new g 0 cs) (hn:cs.length=n) (h:FzL F H cs (ls.map fun l=>encSl .new 1 V.str (.mk false l))) :
  Fz F H (.msl o g 0 n 1) (encSS .new .new (.mk false (ls.map fun l=>Sl.mk false l))):=by
 have e:encSS .new .new (.mk false (ls.map fun l=>Sl.mk false l)) = .slice .new false 1 (ls.map fun l=>encSl .new 1 V.str (.mk false l)):=by
  simp only [encSS,encSl,List.map_map];rfl
 rw [e]
 have e2:(ls.map fun l=>encSl .new 1 V.str (.mk false l))=(ls.map fun l=>Sl.mk false l).map fun t=>encSl .new 1 V.str t:=by rw [List.map_map];rfl
 refine Fz.rowL hF hH hn (by rw [e2];exact flat_encs .new _) ?_ h;intro v hv;obtain ⟨l,_,rfl⟩:=List.mem_map.1 hv;rfl
theorem Fz.one {F:Nat→Bool} {H:Heap} {o g:Nat} {w:List UInt8} (hF:F o=true) (hH:H o = .cells .new g 0 [.str w]):Fz F H (.msl o g 0 1 1) (encSl .new 1 V.str (.mk false [w])) :=
 Fz.sl (f:=V.str) (l:=[w]) (m:=1) (g:=g) (fz:=0) (c := .new) hF hH (fun _=>rfl)
theorem xWords_spec (G:Nat→V) (hE:GExp G) (s:Sl XN) (hs:s.l.length<1000):∀ (m:Nat) (y:X) (b:Nat) (c:Col) (k:Int),y.size≤m→At s.l y b→y.ok=true→y.fit→0≤k→k≤9 →
  Spec Tryz.prog G 94 [.agg [encSl c 6 encXN s],.int .i64 ((b:Int)+y.size-1),.int .i64 k] hNone (fun v _=>v=encSl .new 1 V.str (.mk false (y.W k))):=by
 have hG:=hE.ok;intro m
 induction m with
 | zero=>intro y b c k hm;have:=y.size_pos;omega
 | succ m ih =>
 intro y b c k hm hat hy hf hk0 hk9;refine Spec.of_code' 0 106 [.tmp 6] Tryz.func94 rfl rfl rfl rfl fun X0=>?_;have hyp:=y.size_pos;have hget:=hat.get
 have hsz:b+y.size≤s.l.length:=by
  obtain ⟨pre,post,e1,e2⟩:=hat;have:=congrArg List.length e1;simp only [List.length_append,X.row_len] at this;omega
 have hW:=W_body hy hk9 (b:Int);have hop:=top_op hy (b:Int)
 have hbp:0<y.body.length:=by cases y<;>(simp [X.body];try omega)
 have hbl:y.body.length≤6 * y.size:=by
  have:=W_cnt y 0;rw [W_body hy (by decide) (b:Int)] at this
  cases hq:decide (lvl (y.top b).op.toNat<0)<;>rw [hq] at this<;>simp [parW] at this<;>omega
 have hpos:((b:Int)+y.size-1)=((b+y.size-1:Nat):Int):=by omega
 have hlt:b+y.size-1<s.l.length:=by omega
 rw [hpos];generalize hn:y.top b=n at hget hW hop;generalize y.W k=res at hW ⊢;refine AW.seq_k fun K hK=>AW.region (by kernel_rfl) ?_;simp -implicitDefEqProofs only[go_sem,seval,↓reduceIte];intro g3;refine hK _ ?_;clear hK K;refine AW.seq_k fun K hK=>AW.region (by kernel_rfl) ?_;simp -implicitDefEqProofs only[go_sem,seval,↓reduceIte,hget,hlt,encXN_K];intro g7;refine hK _ ?_;clear hK K;refine AW.weak (Weak.stF (fun o=>o==3 || o==7) (l:=[(2,.int .i64 k),(3,.view .new (.agg [encSl c 6 encXN s])),(7,.view .new (encXN n))]) (m:=[]) ?_ trivial) ?_
 ·simp -implicitDefEqProofs only[go_sem,seval,↓reduceIte]
  exact ⟨Fz.same _,Fz.ptr (v := .agg [encSl c 6 encXN s]) (c := .new) (fz:=0) rfl (by simp -implicitDefEqProofs only[go_sem,seval,↓reduceIte];try rfl),Fz.ptr (v:=encXN n) (c := .new) (fz:=0) rfl (by simp -implicitDefEqProofs only[go_sem,seval,↓reduceIte];try rfl)⟩
 obtain ⟨on,hon⟩:∃ on:Nat,n.op=on:=⟨n.op.toNat,by omega⟩;have hpt:=tabC_part on (by omega);obtain ⟨t1,t2,t3⟩:=tab_parts on (by omega) (by omega)
 have hoi:n.op<23:=by omega
 have hoj:0≤n.op:=by omega
 have hot:n.op.toNat=on:=by omega
 have pT:PureC Tryz.prog G 159 [] (.agg tabC):=⟨by kernel_rfl,by
  simp -implicitDefEqProofs only[go_sem,seval,↓reduceIte,List.map_nil];refine (xTable_spec G hG).mono ?_;rintro _ _ rfl
  exact tabC_rc _⟩
 generalize tabL.getD on ⟨[],0,0⟩=sg at hpt t1 t2 t3;obtain ⟨tx,lv,pa⟩:=sg;simp only at t1 t2 t3;subst t1 t2 t3;rw [encSg_K] at hpt;simp only at hpt;refine AW.seq_k fun K hK=>AW.regionT ⟨fun _ => .agg tabC,fun i=>if i=0 then .pure else .lend⟩ (by kernel_rfl) hG (by kernel_rfl) (by kernel_rfl) ?_;simp -implicitDefEqProofs only[go_sem,seval,↓reduceIte,encXN_K,hoi,hoj,hot,hpt];refine ⟨pT,?_⟩;intro g8;refine hK _ ?_;clear hK K;refine AW.weak (Weak.stF (fun o=>o==8) (l:=[(2,.int .i64 k),(3,.view .new (.agg [encSl c 6 encXN s])),(7,.view .new (encXN n)),(8,.view .new (.agg [.str (sgT on),.int .i64 (lvl on),.int .i64 (partsOf on:Nat)]))]) (m:=[]) ?_ trivial) ?_
 ·simp -implicitDefEqProofs only[go_sem,seval,↓reduceIte]
  exact ⟨Fz.same _,Fz.same _,Fz.same _,Fz.ptr (v := .agg [.str (sgT on),.int .i64 (lvl on),.int .i64 (partsOf on:Nat)]) (c := .new) (fz:=0) rfl (by simp -implicitDefEqProofs only[go_sem,seval,↓reduceIte];try rfl)⟩
 refine AW.seq_k fun K hK=>AW.region (by kernel_rfl) ?_;simp -implicitDefEqProofs only[go_sem,seval,↓reduceIte];refine hK _ ?_;clear hK K
 have pw:∀ (z:X) (bz:Nat) (lv:Int),z.size≤m→At s.l z bz→z.ok=true→z.fit→0≤lv→lv≤9→PureC Tryz.prog G 94 [.agg [encSl c 6 encXN s],.int .i64 ((bz:Int)+z.size-1),.int .i64 lv] (encSl .new 1 V.str (.mk false (z.W lv))):=by
  intro z bz lv h1 h2 h3 h4 h5 h6;refine ⟨by kernel_rfl,?_⟩;simp -implicitDefEqProofs only[go_sem,seval,↓reduceIte,recol_xns];refine (ih z bz _ lv h1 h2 h3 h4 h5 h6).mono ?_;rintro _ _ rfl;exact recol_enc _ _ _ (fun _=>rfl) _
 refine AW.seqJ (fun (_:Unit)=>st [(2,.int .i64 k),(8,.view .new (.agg [.str (sgT on),.int .i64 (lvl on),.int .i64 (partsOf on:Nat)])),(9,encSl .new 1 V.str (.mk false y.body))] []) (fun _=>True) (fun K1 hK1=>?_) ?_;rotate_left
 ·intro _ _
  refine AW.seq_k fun K2 hK2=>?_;rw [hot] at hW
  by_cases hlk:lvl on<k
  ·have e1:decide (lvl on<k)=true:=by simpa using hlk
   rw [decide_eq_true hlk] at hW;refine AW.seq_k fun K hK=>AW.region (by kernel_rfl) ?_;simp -implicitDefEqProofs only[go_sem,seval,↓reduceIte,e1];refine hK _ ?_;clear hK K;refine AW.condS (by simp -implicitDefEqProofs only[go_sem,seval,↓reduceIte];rfl) (fun h99=>?_) (fun h99=>?_);rotate_left
   ·cases h99
   refine AW.seq_k fun K hK=>AW.region (by kernel_rfl) ?_;simp -implicitDefEqProofs only[go_sem,seval,↓reduceIte];intro g100 g102 g103;refine cat_call hG (fun o=>o==100 || o==102 || o==103) [[[40]],y.body,[[41]]] (by simp) (by simp;omega) (by simp) (Fz.rowSS (cs:=[.msl 100 g100 0 1 1,encSl .new 1 V.str (.mk false y.body),.msl 102 g102 0 1 1]) [[[40]],y.body,[[41]]] rfl (by simp -implicitDefEqProofs only[go_sem,seval,↓reduceIte];try rfl) rfl ⟨Fz.one rfl (by simp -implicitDefEqProofs only[go_sem,seval,↓reduceIte];try rfl),Fz.same _,Fz.one rfl (by simp -implicitDefEqProofs only[go_sem,seval,↓reduceIte];try rfl),trivial⟩) ?_;simp -implicitDefEqProofs only[go_sem,seval,↓reduceIte];refine hK _ ?_;clear hK K;refine AW.ret ?_;simp -implicitDefEqProofs only[go_sem,seval,↓reduceIte];refine endK_some ?_;rw [hW];simp [parW]
  ·have e1:decide (lvl on<k)=false:=by simpa using hlk
   rw [decide_eq_false hlk] at hW;refine AW.seq_k fun K hK=>AW.region (by kernel_rfl) ?_;simp -implicitDefEqProofs only[go_sem,seval,↓reduceIte,e1];refine hK _ ?_;clear hK K;refine AW.condS (by simp -implicitDefEqProofs only[go_sem,seval,↓reduceIte];rfl) (fun h99=>?_) (fun h99=>?_)
   ·cases h99
   refine AW.skip ?_;simp -implicitDefEqProofs only[go_sem,seval,↓reduceIte];refine hK2 _ ?_;refine AW.seq_k fun K hK=>AW.region (by kernel_rfl) ?_;simp -implicitDefEqProofs only[go_sem,seval,↓reduceIte];refine hK _ ?_;clear hK K;refine AW.ret ?_;simp -implicitDefEqProofs only[go_sem,seval,↓reduceIte];refine endK_some ?_;rw [hW];rfl
 refine AW.block ?_
 cases y with
 | leaf op num name =>
  obtain rfl:n=⟨op,num,name,-1,-1,-1⟩:=hn.symm
  rcases leaf_cases hy with ⟨rfl,h1,rfl⟩ | ⟨rfl,rfl,h1⟩ | ⟨rfl,rfl,rfl⟩ | ⟨rfl,rfl,rfl⟩
  ·have hf:num≤9223372036854775807:=hf
   refine AW.seq_k fun K hK=>AW.region (by kernel_rfl) ?_;simp -implicitDefEqProofs only[go_sem,seval,↓reduceIte,encXN_K];refine hK _ ?_;clear hK K;refine AW.condS (by simp -implicitDefEqProofs only[go_sem,seval,↓reduceIte];rfl) (fun h22=>?_) (fun h22=>?_);rotate_left
   ·cases h22
   refine AW.region (by kernel_rfl) ?_;simp -implicitDefEqProofs only[go_sem,seval,↓reduceIte,encXN_K];refine CallA.pure hG (by kernel_rfl) ?_;simp -implicitDefEqProofs only[go_sem,seval,↓reduceIte];refine (nPut_spec G hE.toGNum num ⟨by show -9223372036854775808≤num;omega,hf⟩).mono ?_;rintro _ _ rfl;simp -implicitDefEqProofs only[go_sem,seval,↓reduceIte];intro g29;exact hK1 _ () trivial (Weak.stF (fun o=>o==29) (by simp -implicitDefEqProofs only[go_sem,seval,↓reduceIte];exact ⟨Fz.same _,Fz.same _,Fz.one rfl (by simp -implicitDefEqProofs only[go_sem,seval,↓reduceIte];try rfl)⟩) trivial)
  ·refine AW.seq_k fun K hK=>AW.region (by kernel_rfl) ?_
   simp -implicitDefEqProofs only[go_sem,seval,↓reduceIte,encXN_K];refine hK _ ?_;clear hK K;refine AW.condS (by simp -implicitDefEqProofs only[go_sem,seval,↓reduceIte];rfl) (fun h22=>?_) (fun h22=>?_)
   ·cases h22
   clear h22;refine AW.seq_k fun K hK=>AW.region (by kernel_rfl) ?_;simp -implicitDefEqProofs only[go_sem,seval,↓reduceIte,encXN_K];refine hK _ ?_;clear hK K;refine AW.condS (by simp -implicitDefEqProofs only[go_sem,seval,↓reduceIte];rfl) (fun h22=>?_) (fun h22=>?_);rotate_left
   ·cases h22
   refine AW.region (by kernel_rfl) ?_;simp -implicitDefEqProofs only[go_sem,seval,↓reduceIte,encXN_K];intro g36;exact hK1 _ () trivial (Weak.stF (fun o=>o==36) (by simp -implicitDefEqProofs only[go_sem,seval,↓reduceIte];exact ⟨Fz.same _,Fz.same _,Fz.one rfl (by simp -implicitDefEqProofs only[go_sem,seval,↓reduceIte];try rfl)⟩) trivial)
  ·obtain rfl:on=3:=by have:(3:Int)=on:=hon;omega
   have e2:((((partsOf ((3:Nat):Int):Nat):Int))==2)=false:=rfl;have e3:((((partsOf ((3:Nat):Int):Nat):Int))==1)=false:=rfl;refine AW.seq_k fun K hK=>AW.region (by kernel_rfl) ?_;simp -implicitDefEqProofs only[go_sem,seval,↓reduceIte,encXN_K];refine hK _ ?_;clear hK K;refine AW.condS (by simp -implicitDefEqProofs only[go_sem,seval,↓reduceIte];rfl) (fun h22=>?_) (fun h22=>?_)
   ·cases h22
   clear h22;refine AW.seq_k fun K hK=>AW.region (by kernel_rfl) ?_;simp -implicitDefEqProofs only[go_sem,seval,↓reduceIte,encXN_K];refine hK _ ?_;clear hK K;refine AW.condS (by simp -implicitDefEqProofs only[go_sem,seval,↓reduceIte];rfl) (fun h22=>?_) (fun h22=>?_)
   ·cases h22
   clear h22;refine AW.seq_k fun K hK=>AW.region (by kernel_rfl) ?_;simp -implicitDefEqProofs only[go_sem,seval,↓reduceIte,encXN_K];refine hK _ ?_;clear hK K;refine AW.condS (by simp -implicitDefEqProofs only[go_sem,seval,↓reduceIte];rfl) (fun h22=>?_) (fun h22=>?_)
   ·cases h22
   clear h22;refine AW.seq_k fun K hK=>AW.region (by kernel_rfl) ?_;simp -implicitDefEqProofs only[go_sem,seval,↓reduceIte,e2];refine hK _ ?_;clear hK K;refine AW.condS (by simp -implicitDefEqProofs only[go_sem,seval,↓reduceIte];rfl) (fun h22=>?_) (fun h22=>?_)
   ·cases h22
   clear h22;refine AW.seq_k fun K hK=>AW.region (by kernel_rfl) ?_;simp -implicitDefEqProofs only[go_sem,seval,↓reduceIte,e3];refine hK _ ?_;clear hK K;refine AW.condS (by simp -implicitDefEqProofs only[go_sem,seval,↓reduceIte];rfl) (fun h22=>?_) (fun h22=>?_)
   ·cases h22
   clear h22;refine AW.region (by kernel_rfl) ?_;simp -implicitDefEqProofs only[go_sem,seval,↓reduceIte];intro g21;exact hK1 _ () trivial (Weak.stF (fun o=>o==21) (by simp -implicitDefEqProofs only[go_sem,seval,↓reduceIte];exact ⟨Fz.same _,Fz.same _,Fz.one rfl (by simp -implicitDefEqProofs only[go_sem,seval,↓reduceIte];try rfl)⟩) trivial)
  ·obtain rfl:on=4:=by have:(4:Int)=on:=hon;omega
   have e2:((((partsOf ((4:Nat):Int):Nat):Int))==2)=false:=rfl;have e3:((((partsOf ((4:Nat):Int):Nat):Int))==1)=false:=rfl;refine AW.seq_k fun K hK=>AW.region (by kernel_rfl) ?_;simp -implicitDefEqProofs only[go_sem,seval,↓reduceIte,encXN_K];refine hK _ ?_;clear hK K;refine AW.condS (by simp -implicitDefEqProofs only[go_sem,seval,↓reduceIte];rfl) (fun h22=>?_) (fun h22=>?_)
   ·cases h22
   clear h22;refine AW.seq_k fun K hK=>AW.region (by kernel_rfl) ?_;simp -implicitDefEqProofs only[go_sem,seval,↓reduceIte,encXN_K];refine hK _ ?_;clear hK K;refine AW.condS (by simp -implicitDefEqProofs only[go_sem,seval,↓reduceIte];rfl) (fun h22=>?_) (fun h22=>?_)
   ·cases h22
   clear h22;refine AW.seq_k fun K hK=>AW.region (by kernel_rfl) ?_;simp -implicitDefEqProofs only[go_sem,seval,↓reduceIte,encXN_K];refine hK _ ?_;clear hK K;refine AW.condS (by simp -implicitDefEqProofs only[go_sem,seval,↓reduceIte];rfl) (fun h22=>?_) (fun h22=>?_)
   ·cases h22
   clear h22;refine AW.seq_k fun K hK=>AW.region (by kernel_rfl) ?_;simp -implicitDefEqProofs only[go_sem,seval,↓reduceIte,e2];refine hK _ ?_;clear hK K;refine AW.condS (by simp -implicitDefEqProofs only[go_sem,seval,↓reduceIte];rfl) (fun h22=>?_) (fun h22=>?_)
   ·cases h22
   clear h22;refine AW.seq_k fun K hK=>AW.region (by kernel_rfl) ?_;simp -implicitDefEqProofs only[go_sem,seval,↓reduceIte,e3];refine hK _ ?_;clear hK K;refine AW.condS (by simp -implicitDefEqProofs only[go_sem,seval,↓reduceIte];rfl) (fun h22=>?_) (fun h22=>?_)
   ·cases h22
   clear h22;refine AW.region (by kernel_rfl) ?_;simp -implicitDefEqProofs only[go_sem,seval,↓reduceIte];intro g21;exact hK1 _ () trivial (Weak.stF (fun o=>o==21) (by simp -implicitDefEqProofs only[go_sem,seval,↓reduceIte];exact ⟨Fz.same _,Fz.same _,Fz.one rfl (by simp -implicitDefEqProofs only[go_sem,seval,↓reduceIte];try rfl)⟩) trivial)
 | un op a =>
  obtain rfl:n=⟨op,0,[],(b:Int)+a.size-1,-1,-1⟩:=hn.symm;simp only [X.ok,Bool.and_eq_true,decide_eq_true_eq] at hy;have hon:op=on:=hon
  have hpo:partsOf on=1:=by unfold partsOf;rw [if_neg (by omega),if_pos (by omega)]
  have q1:(op==1)=false:=by rw [beq_eq_false_iff_ne];omega
  have q2:(op==2)=false:=by rw [beq_eq_false_iff_ne];omega
  have q22:(op==22)=false:=by rw [beq_eq_false_iff_ne];omega
  have e2:(((partsOf on:Nat):Int)==2)=false:=by rw [hpo];rfl
  have e3:(((partsOf on:Nat):Int)==1)=true:=by rw [hpo];rfl
  have e9:lvl on=9:=by
   have:on=5∨on=6:=by omega
   rcases this with h | h<;>rw [h]<;>rfl
  have hwa:=pw a b (lvl on) (by simp only [X.size] at hm;omega) hat.un hy.2 hf (by omega) (by omega);have hcl:=W_cnt a (lvl on)
  have hfl:[[sgT on],a.W (lvl on)].flatten=(X.un op a).body:=by rw [e9,X.body,← hot];simp
  have hsz2:a.size<1000:=by simp only [X.size] at hsz;omega
  refine AW.seq_k fun K hK=>AW.region (by kernel_rfl) ?_;simp -implicitDefEqProofs only[go_sem,seval,↓reduceIte,encXN_K,q1];refine hK _ ?_;clear hK K;refine AW.condS (by simp -implicitDefEqProofs only[go_sem,seval,↓reduceIte];rfl) (fun h22=>?_) (fun h22=>?_)
  ·cases h22
  clear h22;refine AW.seq_k fun K hK=>AW.region (by kernel_rfl) ?_;simp -implicitDefEqProofs only[go_sem,seval,↓reduceIte,encXN_K,q2];refine hK _ ?_;clear hK K;refine AW.condS (by simp -implicitDefEqProofs only[go_sem,seval,↓reduceIte];rfl) (fun h22=>?_) (fun h22=>?_)
  ·cases h22
  clear h22;refine AW.seq_k fun K hK=>AW.region (by kernel_rfl) ?_;simp -implicitDefEqProofs only[go_sem,seval,↓reduceIte,encXN_K,q22];refine hK _ ?_;clear hK K;refine AW.condS (by simp -implicitDefEqProofs only[go_sem,seval,↓reduceIte];rfl) (fun h22=>?_) (fun h22=>?_)
  ·cases h22
  clear h22;refine AW.seq_k fun K hK=>AW.region (by kernel_rfl) ?_;simp -implicitDefEqProofs only[go_sem,seval,↓reduceIte,e2];refine hK _ ?_;clear hK K;refine AW.condS (by simp -implicitDefEqProofs only[go_sem,seval,↓reduceIte];rfl) (fun h22=>?_) (fun h22=>?_)
  ·cases h22
  clear h22;refine AW.seq_k fun K hK=>AW.region (by kernel_rfl) ?_;simp -implicitDefEqProofs only[go_sem,seval,↓reduceIte,e3];refine hK _ ?_;clear hK K;refine AW.condS (by simp -implicitDefEqProofs only[go_sem,seval,↓reduceIte];rfl) (fun h22=>?_) (fun h22=>?_);rotate_left
  ·cases h22
  refine AW.regionT ⟨fun _=>encSl .new 1 V.str (.mk false (a.W (lvl on))),fun i=>if i=8 then .pure else if i=10 then .any else .lend⟩ (by kernel_rfl) hG (by kernel_rfl) (by kernel_rfl) ?_;simp -implicitDefEqProofs only[go_sem,seval,↓reduceIte,encXN_K];intro g87;refine ⟨hwa,fun g94=>?_⟩;refine cat_call hG (fun o=>o==87 || o==94) [[sgT on],a.W (lvl on)] (by simp) (by simp;omega) (by simp) (Fz.rowSS (cs:=[.msl 87 g87 0 1 1,encSl .new 1 V.str (.mk false (a.W (lvl on)))]) [[sgT on],a.W (lvl on)] rfl (by simp -implicitDefEqProofs only[go_sem,seval,↓reduceIte];try rfl) rfl ⟨Fz.one rfl (by simp -implicitDefEqProofs only[go_sem,seval,↓reduceIte];try rfl),Fz.same _,trivial⟩) ?_;rw [hfl];simp -implicitDefEqProofs only[go_sem,seval,↓reduceIte];exact hK1 _ () trivial (Weak.st (by simp -implicitDefEqProofs only[go_sem,seval,↓reduceIte];try rfl) (by simp -implicitDefEqProofs only[go_sem,seval,↓reduceIte]))
 | bin op a b' =>
  obtain rfl:n=⟨op,0,[],(b:Int)+a.size-1,(b:Int)+a.size+b'.size-1,-1⟩:=hn.symm;simp only [X.ok,Bool.and_eq_true,decide_eq_true_eq] at hy;have hon:op=on:=hon
  have hpo:partsOf on=2:=by unfold partsOf;rw [if_neg (by omega),if_neg (by omega),if_pos (by omega)]
  have q1:(op==1)=false:=by rw [beq_eq_false_iff_ne];omega
  have q2:(op==2)=false:=by rw [beq_eq_false_iff_ne];omega
  have q22:(op==22)=false:=by rw [beq_eq_false_iff_ne];omega
  have e2:(((partsOf on:Nat):Int)==2)=true:=by rw [hpo];rfl
  obtain ⟨l1,l2,_,_⟩:=lvl_rng on (by omega) (by omega);simp only [X.size] at hm hsz;have hwa:=pw a b (lvl on) (by omega) hat.bin.1 hy.1.2 hf.1 (by omega) (by omega);have hwb:=pw b' (b+a.size) (lvl on+1) (by omega) hat.bin.2 hy.2 hf.2 (by omega) (by omega);rw [Int.natCast_add] at hwb;have hw:IntKind.i64.wrap (lvl on+1)=lvl on+1:=w64 (by omega) (by omega);have hca:=W_cnt a (lvl on);have hcb:=W_cnt b' (lvl on+1)
  have hfl:[a.W (lvl on),[sgT on],b'.W (lvl on+1)].flatten=(X.bin op a b').body:=by rw [X.body,← hot];simp
  refine AW.seq_k fun K hK=>AW.region (by kernel_rfl) ?_;simp -implicitDefEqProofs only[go_sem,seval,↓reduceIte,encXN_K,q1];refine hK _ ?_;clear hK K;refine AW.condS (by simp -implicitDefEqProofs only[go_sem,seval,↓reduceIte];rfl) (fun h22=>?_) (fun h22=>?_)
  ·cases h22
  clear h22;refine AW.seq_k fun K hK=>AW.region (by kernel_rfl) ?_;simp -implicitDefEqProofs only[go_sem,seval,↓reduceIte,encXN_K,q2];refine hK _ ?_;clear hK K;refine AW.condS (by simp -implicitDefEqProofs only[go_sem,seval,↓reduceIte];rfl) (fun h22=>?_) (fun h22=>?_)
  ·cases h22
  clear h22;refine AW.seq_k fun K hK=>AW.region (by kernel_rfl) ?_;simp -implicitDefEqProofs only[go_sem,seval,↓reduceIte,encXN_K,q22];refine hK _ ?_;clear hK K;refine AW.condS (by simp -implicitDefEqProofs only[go_sem,seval,↓reduceIte];rfl) (fun h22=>?_) (fun h22=>?_)
  ·cases h22
  clear h22;refine AW.seq_k fun K hK=>AW.region (by kernel_rfl) ?_;simp -implicitDefEqProofs only[go_sem,seval,↓reduceIte,e2];refine hK _ ?_;clear hK K;refine AW.condS (by simp -implicitDefEqProofs only[go_sem,seval,↓reduceIte];rfl) (fun h22=>?_) (fun h22=>?_);rotate_left
  ·cases h22
  refine AW.regionT ⟨fun i=>if i=5 then encSl .new 1 V.str (.mk false (a.W (lvl on))) else encSl .new 1 V.str (.mk false (b'.W (lvl on+1))),fun i=>if i=5 then .pure else if i=15 then .pure else if i=17 then .any else .lend⟩ (by kernel_rfl) hG (by kernel_rfl) (by kernel_rfl) ?_;simp -implicitDefEqProofs only[go_sem,seval,↓reduceIte,encXN_K,hw];refine ⟨hwa,fun g71=>⟨hwb,fun g79=>?_⟩⟩;refine cat_call hG (fun o=>o==71 || o==79) [a.W (lvl on),[sgT on],b'.W (lvl on+1)] (by simp) (by simp;omega) (by simp) (Fz.rowSS (cs:=[encSl .new 1 V.str (.mk false (a.W (lvl on))),.msl 71 g71 0 1 1,encSl .new 1 V.str (.mk false (b'.W (lvl on+1)))]) [a.W (lvl on),[sgT on],b'.W (lvl on+1)] rfl (by simp -implicitDefEqProofs only[go_sem,seval,↓reduceIte];try rfl) rfl ⟨Fz.same _,Fz.one rfl (by simp -implicitDefEqProofs only[go_sem,seval,↓reduceIte];try rfl),Fz.same _,trivial⟩) ?_;rw [hfl];simp -implicitDefEqProofs only[go_sem,seval,↓reduceIte];exact hK1 _ () trivial (Weak.st (by simp -implicitDefEqProofs only[go_sem,seval,↓reduceIte];try rfl) (by simp -implicitDefEqProofs only[go_sem,seval,↓reduceIte]))
 | ite a b' c' =>
  obtain rfl:n=⟨22,0,[],(b:Int)+a.size-1,(b:Int)+a.size+b'.size-1,(b:Int)+a.size+b'.size+c'.size-1⟩:=hn.symm;simp only [X.ok,Bool.and_eq_true] at hy;simp only [X.size] at hm hsz;have hwa:=pw a b 0 (by omega) hat.ite.1 hy.1.1 hf.1 (by decide) (by decide);have hwb:=pw b' (b+a.size) 0 (by omega) hat.ite.2.1 hy.1.2 hf.2.1 (by decide) (by decide);have hwc:=pw c' (b+a.size+b'.size) 0 (by omega) hat.ite.2.2 hy.2 hf.2.2 (by decide) (by decide);rw [Int.natCast_add] at hwb;rw [Int.natCast_add,Int.natCast_add] at hwc;have hca:=W_cnt a 0;have hcb:=W_cnt b' 0;have hcc:=W_cnt c' 0
  have hfl:[[wIf],a.W 0,[wThen],b'.W 0,[wElse],c'.W 0,[wEndif]].flatten=(X.ite a b' c').body:=by rw [X.body];simp
  refine AW.seq_k fun K hK=>AW.region (by kernel_rfl) ?_;simp -implicitDefEqProofs only[go_sem,seval,↓reduceIte,encXN_K];refine hK _ ?_;clear hK K;refine AW.condS (by simp -implicitDefEqProofs only[go_sem,seval,↓reduceIte];rfl) (fun h22=>?_) (fun h22=>?_)
  ·cases h22
  clear h22;refine AW.seq_k fun K hK=>AW.region (by kernel_rfl) ?_;simp -implicitDefEqProofs only[go_sem,seval,↓reduceIte,encXN_K];refine hK _ ?_;clear hK K;refine AW.condS (by simp -implicitDefEqProofs only[go_sem,seval,↓reduceIte];rfl) (fun h22=>?_) (fun h22=>?_)
  ·cases h22
  clear h22;refine AW.seq_k fun K hK=>AW.region (by kernel_rfl) ?_;simp -implicitDefEqProofs only[go_sem,seval,↓reduceIte,encXN_K];refine hK _ ?_;clear hK K;refine AW.condS (by simp -implicitDefEqProofs only[go_sem,seval,↓reduceIte];rfl) (fun h22=>?_) (fun h22=>?_);rotate_left
  ·cases h22
  refine AW.regionT ⟨fun i=>if i=4 then encSl .new 1 V.str (.mk false (a.W 0)) else if i=9 then encSl .new 1 V.str (.mk false (b'.W 0)) else encSl .new 1 V.str (.mk false (c'.W 0)),fun i=>if i=4 then .pure else if i=9 then .pure else if i=14 then .pure else if i=17 then .any else .lend⟩ (by kernel_rfl) hG (by kernel_rfl) (by kernel_rfl) ?_;simp -implicitDefEqProofs only[go_sem,seval,↓reduceIte,encXN_K];intro g41;refine ⟨hwa,fun g46=>⟨hwb,fun g51=>⟨hwc,fun g56 g57=>?_⟩⟩⟩;refine cat_call hG (fun o=>o==41 || o==46 || o==51 || o==56 || o==57) [[wIf],a.W 0,[wThen],b'.W 0,[wElse],c'.W 0,[wEndif]] (by simp) (by simp;omega) (by simp) (Fz.rowSS (cs:=[.msl 41 g41 0 1 1,encSl .new 1 V.str (.mk false (a.W 0)),.msl 46 g46 0 1 1,encSl .new 1 V.str (.mk false (b'.W 0)),.msl 51 g51 0 1 1,encSl .new 1 V.str (.mk false (c'.W 0)),.msl 56 g56 0 1 1]) [[wIf],a.W 0,[wThen],b'.W 0,[wElse],c'.W 0,[wEndif]] rfl (by simp -implicitDefEqProofs only[go_sem,seval,↓reduceIte];try rfl) rfl ⟨Fz.one rfl (by simp -implicitDefEqProofs only[go_sem,seval,↓reduceIte];try rfl),Fz.same _,Fz.one rfl (by simp -implicitDefEqProofs only[go_sem,seval,↓reduceIte];try rfl),Fz.same _,Fz.one rfl (by simp -implicitDefEqProofs only[go_sem,seval,↓reduceIte];try rfl),Fz.same _,Fz.one rfl (by simp -implicitDefEqProofs only[go_sem,seval,↓reduceIte];try rfl),trivial⟩) ?_;rw [hfl];simp -implicitDefEqProofs only[go_sem,seval,↓reduceIte];exact hK1 _ () trivial (Weak.st (by simp -implicitDefEqProofs only[go_sem,seval,↓reduceIte];try rfl) (by simp -implicitDefEqProofs only[go_sem,seval,↓reduceIte]))
end Go.Hs
end

section
namespace Go.Hs
open Go.Proofs
set_option maxRecDepth 10000
def chars (l:List Nat):List UInt8:=(l.map fun d=>UInt8.ofNat (48+d)).reverse
theorem decDigits_dg (u:Nat) (h:0<u):Lib.decDigits u=chars (dg u):=by
 induction u using Nat.strongRecOn with
 | _ u ih =>
  rw [Lib.decDigits,dg_pos h]
  by_cases h1:u<10
  ·rw [dif_pos h1,show u / 10=0 by omega,dg_zero,Nat.mod_eq_of_lt h1]
   rfl
  ·rw [dif_neg h1,ih (u / 10) (by omega) (by omega)]
   simp [chars]
theorem putR_dg (n:Int):putR n=if n=0 then [48] else if n<0 then 45::chars (dg n.natAbs) else chars (dg n.natAbs):=by
 unfold putR Lib.itoa
 by_cases h0:n=0
 ·subst h0
  simp;rw [Lib.decDigits];simp
 ·rw [if_neg h0]
  by_cases h1:n<0
  ·rw [if_pos h1,if_pos h1,decDigits_dg _ (by omega)]
  ·rw [if_neg h1,if_neg h1,show n.toNat=n.natAbs by omega,decDigits_dg _ (by omega)]
end Go.Hs
end

section
namespace Go.Hs
open Go.Proofs
set_option maxRecDepth 10000
theorem joinW_cons (w:List UInt8) {b:List (List UInt8)} (h:b≠[]):joinW (w::b)=w++32::joinW b:=by
 cases b with
 | nil=>exact absurd rfl h
 | cons=>rfl
theorem joinW_app:∀ {a b:List (List UInt8)},a≠[]→b≠[]→joinW (a++b)=joinW a++32::joinW b
 | [],_,h,_=>absurd rfl h
 | [w],b,_,hb=>by rw [List.singleton_append,joinW_cons w hb];rfl
 | w::v::r,b,_,hb=>by
  rw [List.cons_append,joinW_cons w (by simp),joinW_app (a:=v::r) (by simp) hb,joinW_cons w (by simp)];simp
theorem W_ne (x:X) (k:Int):x.W k≠[]:=by
 cases x with
 | leaf=>simp [X.W]
 | un=>rw [X.W];unfold parW;split<;>simp
 | bin=>rw [X.W];unfold parW;split<;>simp
 | ite=>simp [X.W]
end Go.Hs
end

section
namespace Go.Hs
open Go.Proofs
set_option maxRecDepth 10000
theorem join_lib (ws:List (List UInt8)):Lib.join ws [32]=joinW ws:=by
 have:∀ ws:List (List UInt8),[32].intercalate ws=joinW ws:=by
  intro ws
  induction ws with
  | nil=>rfl
  | cons w r ih =>
   cases r with
   | nil=>simp [joinW,List.intercalate,List.intersperse]
   | cons v r =>
    rw [joinW_cons _ (by simp),← ih];simp [List.intercalate,List.intersperse]
 exact this ws
theorem join_spec (G:Nat→V) (c:Col) (ws:List (List UInt8)) (hne:ws≠[]) (hl:ws.length<1000000) (hj:(joinW ws).length<1000000) :
  Spec Tryz.prog G 46 [encSl c 1 V.str (.mk false ws),.str [32]] hNone (fun v _=>v = .str (joinW ws)):=by
 refine Spec.of_calls fun X cargs _ _ hA=>?_;obtain ⟨x,y,rfl,hx,hy⟩:=hA.two;obtain ⟨p',rfl,hp⟩:=hy.str_inv;have hfl:=flat_strW ws;generalize hv:encSl c 1 V.str (.mk false ws)=v at hx;have hv:v = .slice c false 1 (ws.map V.str):=hv.symm;subst hv;generalize hm:ws.map V.str=ls at hx hfl
 cases hx with
 | slice0=>cases ws with
  | nil=>exact absurd rfl hne
  | cons=>cases hm
 | slice _ _ _ _ b off cap f hcap hclip hE hc hr =>
  have hln:ls.length=ws.length:=by rw [← hm,List.length_map]
  have hfn:(flat ls).length=ws.length:=by rw [hfl,hln]
  have hget:∀ j (h:j<ws.length),X.w.cell? ⟨b,off+j,none⟩=some (.string ⟨ws[j].toArray⟩):=by
   intro j h;have h1:=(hc j (by omega)).2.2.1;have h2:=hr j (by omega)
   have e:(flat ls)[j]'(by omega) = .str ws[j]:=by
    have:(flat ls)[j]? = some (.str ws[j]):=by rw [hfl,← hm,List.getElem?_map,List.getElem?_eq_getElem h];rfl
    rw [List.getElem?_eq_getElem (by omega)] at this;exact Option.some.inj this
   rw [e] at h2;obtain ⟨s',h3,h4⟩:=h2.str_inv
   have h5:s'=⟨ws[j].toArray⟩:=by
    obtain ⟨⟨l⟩⟩:=s';simp at h4;rw [h4]
   rw [h3,h5] at h1;exact h1
  have hbk:b<X.w.heap.size:=by
   have h0:=hget 0 (by cases ws with | nil=>exact absurd rfl hne | cons=>simp);rw [← Nat.not_le];intro hle
   have:X.w.heap[b]? = none:=by rw [Array.getElem?_eq_none_iff];exact hle
   simp [World.cell?,this] at h0
  have hxs:(ws.map fun w=>(⟨w.toArray⟩:ByteArray)).map (·.data.toList)=ws:=by rw [List.map_map];exact (List.map_congr_left fun w _=>rfl).trans (List.map_id _)
  have hjl:Lib.join ((ws.map fun w=>(⟨w.toArray⟩:ByteArray)).map (·.data.toList)) p'.data.toList=joinW ws:=by rw [hxs,hp,join_lib]
  have hkit:=Any.strings_Join Tryz.laysJN Tryz.extraJN b off cap (ws.map fun w=>(⟨w.toArray⟩:ByteArray)) p' X.w (fun j x hj=>by
   rw [List.getElem?_map] at hj
   cases hw:ws[j]? with
   | none=>rw [hw] at hj;cases hj
   | some w =>
    rw [hw] at hj;obtain ⟨q1,q2⟩:=List.getElem?_eq_some_iff.1 hw;cases hj
    rw [hget j q1,q2]) hbk (by rw [List.length_map];omega) (by rw [List.length_map,← hln];exact hcap) (by rw [hjl];omega)
  rw [List.length_map,← hln] at hkit;refine (show Calls Tryz.prog 46 _ _ _ from hkit).mono ?_;rintro e w' ⟨rfl,hB⟩;exact ⟨_,_,rfl,hB,.str _ _ rfl,by rw [hjl]⟩
def PrintS (l:List XN) (r:List UInt8 × Int):Prop:=(checkP l≠0→r=([],checkP l))∧∀ x:X,x.ok=true→l=x.row 0→checkP l=0→r=(joinW (x.W 0),0)
def encPr (r:List UInt8 × Int):V := .tuple [.str r.1,.int .i64 r.2]
theorem checkP_ok {l:List XN} (h:checkP l=0):∃ x:X,x.ok=true∧l=x.row 0∧x.depth≤64:=by
 have hd:depthP l≠0:=by
  intro hd;rw [checkP,if_pos hd] at h;cases h
 obtain ⟨x,hx,rfl⟩:=depth_none hd;refine ⟨x,hx,rfl,?_⟩;unfold checkP at h;rw [if_neg hd] at h
 split at h
 ·cases h
 ·rename_i q
  rw [depth_row hx] at q;omega
theorem xPrint_spec (G:Nat→V) (hE:GExp G) (c:Col) (s:Sl XN) (hs:s.l.length<1000) (hnm:∀ n∈s.l,n.name.length<100000) (hnum:∀ n∈s.l,n.num≤9223372036854775807) :
  Spec Tryz.prog G 45 [.agg [encSl c 6 encXN s]] hNone (fun v _=>∃ r,v=encPr r∧PrintS s.l r):=by
 have hG:=hE.ok;refine Spec.of_code' 0 17 [.tmp 2,.tmp 3] Tryz.func45 rfl rfl rfl rfl fun X0=>?_;refine AW.seq_k fun K hK=>AW.region (by kernel_rfl) ?_;simp -implicitDefEqProofs only[go_sem,seval,↓reduceIte];intro g1;refine hK _ ?_;clear hK K;refine AW.seq_k fun K1 hK1=>?_;refine AW.seq_k fun K hK=>AW.region (by kernel_rfl) ?_;simp -implicitDefEqProofs only[go_sem,seval,↓reduceIte];refine CallA.pure hG (by kernel_rfl) ?_;simp -implicitDefEqProofs only[go_sem,seval,↓reduceIte,recol_xns];refine (xCheck_spec G hE _ s (by omega) hnm).mono ?_;rintro _ _ rfl;simp -implicitDefEqProofs only[go_sem,seval,↓reduceIte];refine hK _ ?_;clear hK K;refine AW.seq_k fun K hK=>AW.region (by kernel_rfl) ?_;simp -implicitDefEqProofs only[go_sem,seval,↓reduceIte];refine hK _ ?_;clear hK K
 by_cases hc:checkP s.l=0
 rotate_left
 ·have e1:(checkP s.l != 0)=true:=by simpa using hc
  rw [e1];refine AW.condS (by simp -implicitDefEqProofs only[go_sem,seval,↓reduceIte];rfl) (fun h8=>?_) (fun h8=>?_);rotate_left
  ·cases h8
  refine AW.seq_k fun K hK=>AW.region (by kernel_rfl) ?_;simp -implicitDefEqProofs only[go_sem,seval,↓reduceIte];refine hK _ ?_;clear hK K;refine AW.ret ?_;simp -implicitDefEqProofs only[go_sem,seval,↓reduceIte];refine endK_some ?_;exact ⟨_,rfl,fun _=>rfl,fun x _ _ h=>absurd h hc⟩
 have e1:(checkP s.l != 0)=false:=by simpa using hc
 rw [e1];refine AW.condS (by simp -implicitDefEqProofs only[go_sem,seval,↓reduceIte];rfl) (fun h8=>?_) (fun h8=>?_)
 ·cases h8
 refine AW.skip ?_;simp -implicitDefEqProofs only[go_sem,seval,↓reduceIte];refine hK1 _ ?_;obtain ⟨x,hx,hl,hd⟩:=checkP_ok hc;have hfit:x.fit:=fit_of x 0 (by rw [← hl];exact hnum)
 have hsz:s.l.length=x.size:=by rw [hl,X.row_len]
 have hat:At s.l x 0:=by rw [hl];exact At.whole x
 have hxp:=x.size_pos
 have hw:IntKind.i64.wrap ((s.l.length:Int)-1)=((0:Nat):Int)+x.size-1:=by rw [w64 (by omega) (by omega)];omega
 have hpl:=print_len hx hfit;have hcn:=W_cnt x 0;refine AW.seq_k fun K hK=>AW.region (by kernel_rfl) ?_;simp -implicitDefEqProofs only[go_sem,seval,↓reduceIte,hw];refine CallA.pure hG (by kernel_rfl) ?_;simp -implicitDefEqProofs only[go_sem,seval,↓reduceIte,recol_xns];refine (xWords_spec G hE s hs x.size x 0 _ 0 (Nat.le_refl _) hat hx hfit (by decide) (by decide)).mono ?_;rintro _ _ rfl;have hrb:(encSl .new 1 V.str (.mk false (x.W 0))).recol Col.bk=encSl .new 1 V.str (.mk false (x.W 0)):=recol_enc _ _ _ (fun _=>rfl) _;simp -implicitDefEqProofs only[go_sem,seval,↓reduceIte,hrb];refine CallA.pure hG (by kernel_rfl) ?_;rw [List.map_cons,List.map_cons,List.map_nil,show (encSl .new 1 V.str (.mk false (x.W 0))).recol Col.ent=encSl (Col.ent .new) 1 V.str (.mk false (x.W 0)) from recol_enc _ _ _ (fun _=>rfl) _];refine (join_spec G _ (x.W 0) (W_ne x 0) (by omega) (by omega)).mono ?_;rintro _ _ rfl;simp -implicitDefEqProofs only[go_sem,seval,↓reduceIte];refine hK _ ?_;clear hK K;refine AW.ret ?_;simp -implicitDefEqProofs only[go_sem,seval,↓reduceIte];refine endK_some ?_;exact ⟨(joinW (x.W 0),0),rfl,fun h=>absurd hc h,fun y hy hly _=>by rw [row_inj y x 0 hy hx (by rw [← hly,← hl])]⟩
end Go.Hs
end
