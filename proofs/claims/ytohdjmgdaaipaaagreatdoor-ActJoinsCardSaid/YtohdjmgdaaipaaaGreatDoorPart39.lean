/- Part 39 of the proof of a statement of seat YtohdjmgdaaipaaaGreatDoor: HsLexLaw4 HsNumBackLaw HsExprPrn HsHPrtW HsExprBkLaw HsHPrtW2 HsHNumRefPut HsHPrtR HsHPrtP. -/
import Derived.Test.YtohdjmgdaaipaaaGreatDoorPart38
import Derived.Test.YtohdjmgdaaipaaaGreatDoorPart32
import Derived.Test.YtohdjmgdaaipaaaGreatDoorPart34
import Derived.Test.YtohdjmgdaaipaaaGreatDoorPart29
import Derived.Laws.BytesArg
import Derived.Test.YtohdjmgdaaipaaaGreatDoorPart36
set_option linter.unusedSimpArgs false
set_option linter.unusedVariables false
section
namespace Go.Hs
theorem blk_app (r:List UInt8):∀ (k:Nat) (s:List UInt8),s.length≤k→blk (s++10::r)=if blk s=s.length then s.length+1+blk r else blk s
 | _,[],_=>by
  rw [List.nil_append,blk_bl (by decide),blk_nil]
  simp;omega
 | k+1,c::t,h=>by
  simp only [List.length_cons] at h
  rw [List.cons_append]
  by_cases hb:isBl c=true
  ·rw [blk_bl hb,blk_bl hb,blk_app r k t (by omega),List.length_cons]
   split
   ·rename_i q
    rw [if_pos (by omega)];omega
   ·rename_i q
    rw [if_neg (by omega)]
  have hb:isBl c=false:=by simpa using hb
  have hpa:=hasPre_app (c:=10) (by decide) r (u:=c::t) (by simp)
  rw [List.cons_append] at hpa
  by_cases hp:hasPre [45,45] (c::t)=true
  ·have hr:=runL_app (p:=noNl) (c:=10) (by decide) r (c::t)
   rw [List.cons_append] at hr
   rw [blk_rem (by rw [hpa];exact hp),blk_rem hp,hr]
   have hle:=runL_le noNl (c::t)
   have h2:=(noNl_pre hp).1
   generalize hm:runL noNl (c::t)=m at hle h2
   have hd:(c::(t++10::r)).drop m=(c::t).drop m++10::r:=by
    rw [← List.cons_append,List.drop_append_of_le_length hle]
   have hl:((c::t).drop m).length=(c::t).length-m:=List.length_drop
   simp only [List.length_cons] at hl hle
   rw [hd,blk_app r k _ (by omega),hl,List.length_cons]
   split
   ·rename_i q
    rw [if_pos (by omega)];omega
   ·rename_i q
    rw [if_neg (by omega)]
  ·have hp:hasPre [45,45] (c::t)=false:=by simpa using hp
   rw [blk_no hb (by rw [hpa];exact hp),blk_no hb hp,List.length_cons,if_neg (by omega)]
 | 0,c::t,h=>by simp at h
inductive Lx:List UInt8→List (List UInt8)→Prop where
 | nil {s:List UInt8}:blk s=s.length→Lx s []
 | cons {s:List UInt8} {ws:List (List UInt8)} {k:Nat}:blk s<s.length→(firstP (s.drop (blk s))).1=k→0<k→k≤64→Lx ((s.drop (blk s)).drop k) ws→Lx s ((s.drop (blk s)).take k::ws)
theorem first_is {s:List UInt8} (hb:blk s<s.length) {k:Nat} (hk:(firstP (s.drop (blk s))).1=k) (h0:0<k) (h64:k≤64) :
  isP ((s.drop (blk s)).take k)=(firstP (s.drop (blk s))).2∧(firstP (s.drop (blk s))).2≠0:=by
 have hc:=blk_clear s
 generalize s.drop (blk s)=u at hk hc ⊢
 have hp:hasPre [45,45] u=false:=by
  cases u with
  | nil=>rfl
  | cons c r=>exact (hc c r rfl).2
 obtain ⟨q1,q2⟩:=first_kind hp (by omega)
 rw [hk] at q1
 refine ⟨?_,q2⟩
 rw [isP_whole,if_neg (by rw [List.length_take];omega),q1]
theorem lx_toks {S:List UInt8} {s:List UInt8} {ws:List (List UInt8)} (h:Lx s ws):∀ (i:Nat) (acc:List Tk),S.drop i=s→i≤S.length→∃ l,toksF (S.length+1) S (i+blk (S.drop i)) acc=(acc++l,0,0)∧l.map wdOf=ws:=by
 induction h with
 | @nil s hb =>
  intro i acc hd hi
  rw [hd,hb]
  have:S.length-i=s.length:=by rw [← List.length_drop,hd]
  exact ⟨[],by rw [toksF_end (by omega),List.append_nil],rfl⟩
 | @cons s ws k hb hk h0 h64 _ ih =>
  intro i acc hd hi
  obtain ⟨p1,p2⟩:=first_is hb hk h0 h64
  have hl:S.length-i=s.length:=by rw [← List.length_drop,hd]
  have hd2:S.drop (i+blk s)=s.drop (blk s):=by rw [← List.drop_drop,hd]
  rw [hd,toksF_step (by omega) (by omega) (by rw [hd2,hk];omega),hd2,hk]
  have hle:=firstP_le (s.drop (blk s))
  rw [hk,List.length_drop] at hle
  have hd3:S.drop (i+blk s+k)=(s.drop (blk s)).drop k:=by rw [← List.drop_drop,hd2]
  obtain ⟨l,e1,e2⟩:=ih (i+blk s+k) (acc++[⟨(firstP (s.drop (blk s))).2,(s.drop (blk s)).take k,((i+blk s:Nat):Int)⟩]) hd3 (by omega)
  refine ⟨⟨(firstP (s.drop (blk s))).2,(s.drop (blk s)).take k,((i+blk s:Nat):Int)⟩::l,?_,?_⟩
  ·rw [e1];simp
  ·rw [List.map_cons,e2]
   unfold wdOf
   simp only
   rw [p1,if_pos rfl]
theorem lx_toksP {s:List UInt8} {ws:List (List UInt8)} (h:Lx s ws) (hs:s.length≤65536):∃ l,toksP s=(l,0,0)∧l.map wdOf=ws:=by
 obtain ⟨l,e1,e2⟩:=lx_toks (S:=s) h 0 [] rfl (Nat.zero_le _)
 refine ⟨l,?_,e2⟩
 unfold toksP
 rw [if_neg (by omega)]
 simpa using e1
theorem toks_lx {S:List UInt8}:∀ (f i:Nat) (acc l:List Tk),S.length<f+i→i≤S.length→toksF f S (i+blk (S.drop i)) acc=(l,0,0)→∃ l2,l=acc++l2∧Lx (S.drop i) (l2.map wdOf)
 | 0,i,acc,l,hf,hi,_=>by omega
 | f+1,i,acc,l,hf,hi,h=>by
  have hbl:=blk_le (S.drop i)
  rw [List.length_drop] at hbl
  by_cases hb:blk (S.drop i)<(S.drop i).length
  ·have hb':=hb
   rw [List.length_drop] at hb'
   have hdd:S.drop (i+blk (S.drop i))=(S.drop i).drop (blk (S.drop i)):=by rw [List.drop_drop]
   by_cases hk:(firstP (S.drop (i+blk (S.drop i)))).1=0∨(firstP (S.drop (i+blk (S.drop i)))).1 > 64
   ·rw [toksF_bad (by omega) (by omega) hk] at h
    have:=congrArg (fun x=>x.2.2) h
    simp at this
   ·rw [toksF,if_pos (by omega),if_neg hk] at h
    rw [hdd] at h hk
    simp only [not_or,Nat.not_lt] at hk
    have hle:=firstP_le ((S.drop i).drop (blk (S.drop i)))
    rw [List.length_drop,List.length_drop] at hle
    obtain ⟨p1,p2⟩:=first_is hb rfl (by omega) (by omega)
    obtain ⟨l2,e1,e2⟩:=toks_lx f (i+blk (S.drop i)+(firstP ((S.drop i).drop (blk (S.drop i)))).1) _ l (by omega) (by omega) h
    refine ⟨_::l2,by rw [e1,List.append_assoc];rfl,?_⟩
    rw [List.map_cons]
    have hw:∀ p,wdOf ⟨(firstP ((S.drop i).drop (blk (S.drop i)))).2,((S.drop i).drop (blk (S.drop i))).take (firstP ((S.drop i).drop (blk (S.drop i)))).1,p⟩=((S.drop i).drop (blk (S.drop i))).take (firstP ((S.drop i).drop (blk (S.drop i)))).1:=by
     intro p
     unfold wdOf
     simp only
     rw [p1,if_pos rfl]
    rw [hw]
    refine .cons hb rfl (by omega) (by omega) ?_
    rw [← List.drop_drop,hdd] at e2
    exact e2
  ·rw [List.length_drop] at hb
   rw [toksF_end (by omega)] at h
   have hl:acc=l:=congrArg Prod.fst h
   refine ⟨[],by rw [hl,List.append_nil],.nil ?_⟩
   rw [List.length_drop];omega
theorem toksP_lx {s:List UInt8} {l:List Tk} (h:toksP s=(l,0,0)):Lx s (l.map wdOf):=by
 unfold toksP at h
 split at h
 ·have:=congrArg (fun x=>x.2.2) h
  simp at this
 ·have h2:toksF (s.length+1) s (0+blk (s.drop 0)) []=(l,0,0):=by simpa using h
  obtain ⟨l2,e1,e2⟩:=toks_lx _ 0 [] l (by omega) (Nat.zero_le _) h2
  rw [e1,List.nil_append]
  simpa using e2
theorem Spc.pad {s:List UInt8} {ws:List (List UInt8)} (h:Spc s ws) (n:Nat):Spc (List.replicate n 32++s) ws:=by
 cases h with
 | nil m=>rw [List.replicate_append_replicate];exact .nil _
 | cons m h1 h2=>rw [← List.append_assoc,List.replicate_append_replicate];exact .cons _ h1 h2
end Go.Hs
end

section
namespace Go.Hs.PutLaw
open Go Go.Hs
def chr (d:Nat):UInt8:=UInt8.ofNat (48+d)
def chars (l:List Nat):List UInt8:=(l.map chr).reverse
theorem decDigits_dg (u:Nat) (h:0<u):Lib.decDigits u=chars (dg u):=by
 induction u using Nat.strongRecOn with
 | _ u ih =>
  rw [Lib.decDigits,dg_pos h]
  by_cases h1:u<10
  ·rw [dif_pos h1,show u / 10=0 by omega,dg_zero,Nat.mod_eq_of_lt h1]
   rfl
  ·rw [dif_neg h1,ih (u / 10) (by omega) (by omega)]
   simp [chars,chr]
theorem putR_dg (n:Int):putR n=if n=0 then [48] else if n<0 then 45::chars (dg n.natAbs) else chars (dg n.natAbs):=by
 unfold putR Lib.itoa
 by_cases h0:n=0
 ·subst h0
  simp
  rw [Lib.decDigits]
  simp
 ·rw [if_neg h0]
  by_cases h1:n<0
  ·rw [if_pos h1,if_pos h1,decDigits_dg _ (by omega)]
  ·rw [if_neg h1,if_neg h1,show n.toNat=n.natAbs by omega,decDigits_dg _ (by omega)]
theorem chr_nat {d:Nat} (h:d<10):(chr d).toNat=48+d:=by
 unfold chr
 rw [UInt8.toNat_ofNat']
 omega
theorem dval_chr {d:Nat} (h:d<10):dval (chr d)=d:=by
 unfold dval
 rw [chr_nat h]
 omega
theorem isDig_chr {d:Nat} (h:d<10):isDig (chr d)=true:=by
 unfold isDig
 rw [chr_nat h]
 simp
 omega
theorem map_dval {l:List Nat} (h:Dig l):(chars l).reverse.map dval=l:=by
 unfold chars
 rw [List.reverse_reverse,List.map_map]
 have:∀ d∈l,(dval ∘ chr) d=d:=fun d hd=>dval_chr (h d hd)
 rw [List.map_congr_left this]
 simp
theorem all_chars {l:List Nat} (h:Dig l):(chars l).all isDig=true:=by
 rw [List.all_eq_true]
 intro c hc
 unfold chars at hc
 obtain ⟨d,hd,rfl⟩:=List.mem_map.1 (List.mem_reverse.1 hc)
 exact isDig_chr (h d hd)
theorem head_chars (l:List Nat):(chars l).head? = l.getLast?.map chr:=by
 unfold chars
 rw [List.head?_reverse,List.getLast?_map]
theorem head_ne {m:Nat} (h:0<m):(chars (dg m)).head? ≠ some 48∧(chars (dg m)).head? ≠ some 45∧chars (dg m)≠[]:=by
 have hne:dg m≠[]:=by rw [Ne,dg_ne];omega
 obtain ⟨d,hd⟩:∃ d,(dg m).getLast? = some d:=⟨_,List.getLast?_eq_some_getLast hne⟩
 have h0:=dg_last m d hd
 have h9:d<10:=dig_dg m d (List.mem_of_getLast? hd)
 rw [head_chars,hd]
 refine ⟨fun e=>?_,fun e=>?_,fun e=>?_⟩
 ·have:=Option.some.inj e
  have:=congrArg UInt8.toNat this
  rw [chr_nat h9] at this
  have h48:(48:UInt8).toNat=48:=rfl
  omega
 ·have:=Option.some.inj e
  have:=congrArg UInt8.toNat this
  rw [chr_nat h9] at this
  have h45:(45:UInt8).toNat=45:=rfl
  omega
 ·have e2:=head_chars (dg m)
  rw [e,hd] at e2
  cases e2
theorem parse_put {a:Int} (ha : -9223372036854775808≤a∧a≤9223372036854775807):parseR (putR a)=(a,0):=by
 rw [putR_dg]
 by_cases h0:a=0
 ·rw [if_pos h0,h0];rfl
 ·rw [if_neg h0]
  have hm:0<a.natAbs:=by omega
  obtain ⟨h1,h2,h3⟩:=head_ne hm
  have hv:val ((chars (dg a.natAbs)).reverse.map dval)=a.natAbs:=by rw [map_dval (dig_dg _),val_dg]
  have hall:=all_chars (dig_dg a.natAbs)
  by_cases hn:a<0
  ·rw [if_pos hn]
   unfold parseR
   simp only [List.head?_cons,List.drop_succ_cons,List.drop_zero,show ((some (45:UInt8))==some 45)=true from rfl,if_true]
   rw [if_neg (by simp only [hall,h1,h3,Bool.true_eq_false,false_and,or_self,not_false_eq_true]),hv]
   rw [told_ok (by omega)]
   exact Prod.ext (by show -((a.natAbs:Nat):Int)=a;omega) rfl
  ·rw [if_neg hn]
   unfold parseR
   have hb:((chars (dg a.natAbs)).head? == some 45)=false:=by simpa using h2
   simp only [hb,Bool.false_eq_true,if_false]
   rw [if_neg (by simp only [hall,h1,h3,Bool.true_eq_false,false_and,or_self,not_false_eq_true]),hv]
   rw [told_ok (by omega)]
   exact Prod.ext (by show ((a.natAbs:Nat):Int)=a;omega) rfl
end Go.Hs.PutLaw
end

section
namespace Go.Hs
open PutLaw
def parW (b:Bool) (ts:List (List UInt8)):List (List UInt8):=if b then [40]::(ts++[[41]]) else ts
def X.W:X→Int→List (List UInt8)
 | .leaf op num name,_=>[if op=1 then putR num else if op=2 then name else sgT op.toNat]
 | .un op a,k=>parW (9<k) (sgT op.toNat::a.W 9)
 | .bin op a b,k=>parW (lvl op.toNat<k) (a.W (lvl op.toNat)++sgT op.toNat::b.W (lvl op.toNat+1))
 | .ite a b c,_=>wIf::(a.W 0++wThen::(b.W 0++wElse::(c.W 0++[wEndif])))
def X.fit:X→Prop
 | .leaf _ num _=>num≤9223372036854775807
 | .un _ a=>a.fit
 | .bin _ a b=>a.fit∧b.fit
 | .ite a b c=>a.fit∧b.fit∧c.fit
theorem fit_of:∀ (x:X) (k:Int),(∀ n∈x.row k,n.num≤9223372036854775807)→x.fit
 | .leaf op num name,k,h=>h ⟨op,num,name,-1,-1,-1⟩ (by simp [X.row])
 | .un op a,k,h=>fit_of a k fun n hn=>h n (by simp [X.row,hn])
 | .bin op a b,k,h=>⟨fit_of a k fun n hn=>h n (by simp [X.row,hn]),fit_of b (k+a.size) fun n hn=>h n (by simp [X.row,hn])⟩
 | .ite a b c,k,h=>⟨fit_of a k fun n hn=>h n (by simp [X.row,hn]),fit_of b (k+a.size) fun n hn=>h n (by simp [X.row,hn]),fit_of c (k+a.size+b.size) fun n hn=>h n (by simp [X.row,hn])⟩
theorem put_digits {n:Int} (h0:0≤n) (h1:n≤9223372036854775807):(putR n).all isDig=true∧putR n≠[]∧(putR n).length≤19∧trim0 (putR n)=putR n:=by
 rw [putR_dg]
 by_cases hz:n=0
 ·subst hz;decide +kernel
 rw [if_neg hz,if_neg (by omega)]
 have hp:0<n.natAbs:=by omega
 have hd:=dig_dg n.natAbs
 obtain ⟨q1,q2,q3⟩:=head_ne hp
 refine ⟨all_chars hd,q3,?_,?_⟩
 ·have:=dg_len (n:=n.natAbs) (k:=19) (by omega)
  have hl:(chars (dg n.natAbs)).length=(dg n.natAbs).length:=by simp [chars]
  omega
 ·unfold trim0
  have:(chars (dg n.natAbs)).dropWhile (· == 48)=chars (dg n.natAbs):=by
   cases hc:chars (dg n.natAbs) with
   | nil=>rfl
   | cons c r =>
    rw [hc] at q1
    have:(c==48)=false:=by rw [beq_eq_false_iff_ne];intro q;exact q1 (by rw [q];rfl)
    rw [List.dropWhile_cons,this];rfl
  rw [this,if_neg q3]
theorem isP_digits {t:List UInt8} (h:t.all isDig=true) (hne:t≠[]) (hl:t.length≤64):isP t=1:=by
 rw [isP_whole,if_neg (by omega)]
 cases t with
 | nil=>exact absurd rfl hne
 | cons c r =>
  rw [List.all_cons,Bool.and_eq_true] at h
  rw [whole_dg h.1,if_pos (by rw [List.all_cons,h.1,h.2];rfl)]
theorem lvl_of {op:Int} (h:7≤op∧op≤21):1≤lvl op.toNat∧lvl op.toNat≤8∧ofI (sgT op.toNat) 2=some op.toNat∧isP (sgT op.toNat)≠0:=lvl_rng _ (by omega) (by omega)
theorem Gr.parW {n:Int} {ts:List (List UInt8)} {x:X} {b:Bool} (h:Gr (if b then 1 else n) ts x):Gr n (parW b ts) x:=by
 cases b
 ·exact h
 ·exact .par h
theorem leaf_cases {op num:Int} {name:List UInt8} (h:(X.leaf op num name).ok=true):(op=1∧0≤num∧name=[])∨(op=2∧num=0∧isP name=2)∨(op=3∧num=0∧name=[])∨(op=4∧num=0∧name=[]):=by
 simp only [X.ok,Bool.and_eq_true,decide_eq_true_eq] at h
 obtain ⟨h1,h2⟩:=h
 unfold wellP at h1
 split at h1
 ·cases h1
 rename_i h0
 simp only [not_or,Int.not_lt] at h0
 split at h1
 ·simp only [Bool.and_eq_true,beq_iff_eq] at h1
  rename_i q
  exact .inr (.inl ⟨q,h1⟩)
 ·rename_i q
  simp only [Bool.and_eq_true,beq_iff_eq,Bool.or_eq_true] at h1 q h0
  rcases h1.2 with q1 | q1
  ·exact .inl ⟨q1,h0.2.2,h1.1⟩
  ·by_cases o1:op=1
   ·exact .inl ⟨o1,h0.2.2,h1.1⟩
   ·by_cases o3:op=3
    ·exact .inr (.inr (.inl ⟨o3,q1,h1.1⟩))
    ·exact .inr (.inr (.inr ⟨by omega,q1,h1.1⟩))
theorem W_gr:∀ (x:X),x.ok=true→x.fit→∀ k:Int,k≤9→Gr (max k 1) (x.W k) x
 | .leaf op num name,h,hf,k,hk=>by
  rcases leaf_cases h with ⟨rfl,h1,rfl⟩ | ⟨rfl,rfl,h1⟩ | ⟨rfl,rfl,rfl⟩ | ⟨rfl,rfl,rfl⟩
  ·obtain ⟨p1,p2,p3,p4⟩:=put_digits h1 hf
   simp only [X.W,if_pos]
   exact .num (isP_digits p1 p2 (by omega)) (by rw [p4];exact parse_put ⟨by omega,hf⟩)
  ·simp only [X.W]
   exact .name h1
  ·exact .tr
  ·exact .fa
 | .un op a,h,hf,k,hk=>by
  simp only [X.ok,Bool.and_eq_true,decide_eq_true_eq] at h
  have ih:=W_gr a h.2 hf 9 (Int.le_refl _)
  have:op=5∨op=6:=by omega
  have hb:decide (9<k)=false:=by rw [decide_eq_false_iff_not];omega
  rw [X.W,hb]
  rcases this with rfl | rfl
  ·exact .neg (by omega) ih
  ·exact .not (by omega) ih
 | .bin op a b,h,hf,k,hk=>by
  simp only [X.ok,Bool.and_eq_true,decide_eq_true_eq] at h
  obtain ⟨l1,l2,_,_⟩:=lvl_of ⟨h.1.1.1,h.1.1.2⟩
  have ha:=W_gr a h.1.2 hf.1 (lvl op.toNat) (by omega)
  have hb:=W_gr b h.2 hf.2 (lvl op.toNat+1) (by omega)
  rw [Int.max_eq_left (by omega)] at ha hb
  have ho:((op.toNat:Nat):Int)=op:=by omega
  rw [X.W]
  refine Gr.parW ?_
  have:=Gr.bin (n:=lvl op.toNat) (op:=op.toNat) (by omega) (by omega) (Int.le_refl _) ha hb
  rw [ho] at this
  refine this.mono ?_
  by_cases q:lvl op.toNat<k
  ·rw [decide_eq_true q];exact l1
  ·rw [decide_eq_false q];simp only [Bool.false_eq_true,if_false];omega
 | .ite a b c,h,hf,k,hk=>by
  simp only [X.ok,Bool.and_eq_true] at h
  exact .ite (W_gr a h.1.1 hf.1 0 (by decide)) (W_gr b h.1.2 hf.2.1 0 (by decide)) (W_gr c h.2 hf.2.2 0 (by decide))
def joinW:List (List UInt8)→List UInt8
 | []=>[]
 | [w]=>w
 | w::r=>w++32::joinW r
theorem joinW_spc:∀ ws:List (List UInt8),Spc (joinW ws) ws
 | [] => .nil 0
 | [w]=>by
  have:=Spc.cons 0 (w:=w) (Spc.nil 0) (.inl rfl)
  simpa [joinW] using this
 | w::v::r=>by
  have:=Spc.cons 0 (w:=w) ((joinW_spc (v::r)).pad 1) ((joinW_spc (v::r)).stp (by decide))
  simpa [joinW] using this
theorem words_ok:∀ (x:X),x.ok=true→x.fit→∀ k:Int,∀ w∈x.W k,isP w≠0
 | .leaf op num name,h,hf,k=>by
  intro w hw
  simp only [X.W,List.mem_singleton] at hw
  subst hw
  rcases leaf_cases h with ⟨rfl,h1,rfl⟩ | ⟨rfl,rfl,h1⟩ | ⟨rfl,rfl,rfl⟩ | ⟨rfl,rfl,rfl⟩
  ·obtain ⟨p1,p2,p3,p4⟩:=put_digits h1 hf
   rw [if_pos rfl,isP_digits p1 p2 (by omega)];decide
  ·rw [if_neg (by decide),if_pos rfl,h1];decide
  ·decide +kernel
  ·decide +kernel
 | .un op a,h,hf,k=>by
  simp only [X.ok,Bool.and_eq_true,decide_eq_true_eq] at h
  have ih:=words_ok a h.2 hf 9
  have ho:isP (sgT op.toNat)≠0:=by
   have:op=5∨op=6:=by omega
   rcases this with rfl | rfl<;>decide +kernel
  intro w hw
  rw [X.W] at hw
  unfold parW at hw
  split at hw
  ·simp only [List.mem_cons,List.mem_append,List.not_mem_nil,or_false] at hw
   rcases hw with rfl | (rfl | hw) | rfl
   ·decide +kernel
   ·exact ho
   ·exact ih w hw
   ·decide +kernel
  ·simp only [List.mem_cons] at hw
   rcases hw with rfl | hw
   ·exact ho
   ·exact ih w hw
 | .bin op a b,h,hf,k=>by
  simp only [X.ok,Bool.and_eq_true,decide_eq_true_eq] at h
  have ih1:=words_ok a h.1.2 hf.1 (lvl op.toNat)
  have ih2:=words_ok b h.2 hf.2 (lvl op.toNat+1)
  have ho:=(lvl_of ⟨h.1.1.1,h.1.1.2⟩).2.2.2
  intro w hw
  rw [X.W] at hw
  unfold parW at hw
  split at hw
  ·simp only [List.mem_cons,List.mem_append,List.not_mem_nil,or_false] at hw
   rcases hw with rfl | (hw | rfl | hw) | rfl
   ·decide +kernel
   ·exact ih1 w hw
   ·exact ho
   ·exact ih2 w hw
   ·decide +kernel
  ·simp only [List.mem_cons,List.mem_append] at hw
   rcases hw with hw | rfl | hw
   ·exact ih1 w hw
   ·exact ho
   ·exact ih2 w hw
 | .ite a b c,h,hf,k=>by
  simp only [X.ok,Bool.and_eq_true] at h
  have ih1:=words_ok a h.1.1 hf.1 0
  have ih2:=words_ok b h.1.2 hf.2.1 0
  have ih3:=words_ok c h.2 hf.2.2 0
  intro w hw
  simp only [X.W,List.mem_cons,List.mem_append,List.not_mem_nil,or_false] at hw
  rcases hw with rfl | hw | rfl | hw | rfl | hw | rfl
  ·decide +kernel
  ·exact ih1 w hw
  ·decide +kernel
  ·exact ih2 w hw
  ·decide +kernel
  ·exact ih3 w hw
  ·decide +kernel
theorem row_inj:∀ (x y:X) (k:Int),x.ok=true→y.ok=true→x.row k=y.row k→x=y:=by
 have last:∀ {a b:List XN} {m n:XN},a++[m]=b++[n]→a=b∧m=n:=by
  intro a b m n h
  obtain ⟨q1,q2⟩:=List.append_inj' h rfl
  exact ⟨q1,by simpa using q2⟩
 have body:∀ (x:X) (k:Int),∃ b,x.row k=b++[x.top k]:=fun x k=>by obtain ⟨b,h,_⟩:=x.row_top k;exact ⟨b,h⟩
 have opr:∀ (x:X) (k:Int),x.ok=true→match x with
   | .leaf op _ _=>1≤op∧op≤4
   | .un op _=>5≤op∧op≤6
   | .bin op _ _=>7≤op∧op≤21
   | .ite .. => True:=by
  intro x k h
  cases x with
  | leaf op num name=>rcases leaf_cases h with ⟨h,_⟩ | ⟨h,_⟩ | ⟨h,_⟩ | ⟨h,_⟩<;>(show 1≤op∧op≤4;omega)
  | un op a=>simp only [X.ok,Bool.and_eq_true,decide_eq_true_eq] at h;exact h.1
  | bin op a b=>simp only [X.ok,Bool.and_eq_true,decide_eq_true_eq] at h;exact h.1.1
  | ite=>trivial
 intro x
 induction x with
 | leaf op num name =>
  intro y k hx hy h
  have o1:=opr _ k hx
  have o2:=opr y k hy
  obtain ⟨b,hb⟩:=body y k
  rw [hb] at h
  obtain ⟨_,ht⟩:=last (a:=[]) h
  cases y with
  | leaf op' num' name'=>simp only [X.top,XN.mk.injEq] at ht;obtain ⟨rfl,rfl,rfl,_⟩:=ht;rfl
  | un op' a'=>simp only [X.top,XN.mk.injEq] at ht o1 o2;omega
  | bin op' a' b'=>simp only [X.top,XN.mk.injEq] at ht o1 o2;omega
  | ite a' b' c'=>simp only [X.top,XN.mk.injEq] at ht o1 o2;omega
 | un op a iha =>
  intro y k hx hy h
  have o1:=opr _ k hx
  have o2:=opr y k hy
  cases y with
  | leaf op' num' name' =>
   have ht:=(last (b:=[]) h).2
   simp only [XN.mk.injEq] at ht o1 o2;omega
  | un op' a' =>
   obtain ⟨hr,ht⟩:=last h
   simp only [XN.mk.injEq] at ht
   simp only [X.ok,Bool.and_eq_true] at hx hy
   rw [iha a' k hx.2 hy.2 hr,ht.1]
  | bin op' a' b' =>
   have ht:=(last h).2
   simp only [XN.mk.injEq] at ht o1 o2;omega
  | ite a' b' c' =>
   have ht:=(last h).2
   simp only [XN.mk.injEq] at ht o1 o2;omega
 | bin op a b iha ihb =>
  intro y k hx hy h
  have o1:=opr _ k hx
  have o2:=opr y k hy
  cases y with
  | leaf op' num' name' =>
   have ht:=(last (b:=[]) h).2
   simp only [XN.mk.injEq] at ht o1 o2;omega
  | un op' a' =>
   have ht:=(last h).2
   simp only [XN.mk.injEq] at ht o1 o2;omega
  | bin op' a' b' =>
   obtain ⟨hr,ht⟩:=last h
   simp only [XN.mk.injEq] at ht
   simp only [X.ok,Bool.and_eq_true] at hx hy
   have hs:a.size=a'.size:=by omega
   obtain ⟨q1,q2⟩:=List.append_inj hr (by rw [X.row_len,X.row_len];exact hs)
   rw [← hs] at q2
   rw [iha a' k hx.1.2 hy.1.2 q1,ihb b' _ hx.2 hy.2 q2,ht.1]
  | ite a' b' c' =>
   have ht:=(last h).2
   simp only [XN.mk.injEq] at ht o1 o2;omega
 | ite a b c iha ihb ihc =>
  intro y k hx hy h
  have o2:=opr y k hy
  cases y with
  | leaf op' num' name' =>
   have ht:=(last (b:=[]) h).2
   simp only [XN.mk.injEq] at ht o2;omega
  | un op' a' =>
   have ht:=(last h).2
   simp only [XN.mk.injEq] at ht o2;omega
  | bin op' a' b' =>
   have ht:=(last h).2
   simp only [XN.mk.injEq] at ht o2;omega
  | ite a' b' c' =>
   obtain ⟨hr,ht⟩:=last h
   simp only [XN.mk.injEq] at ht
   simp only [X.ok,Bool.and_eq_true] at hx hy
   have hs:a.size=a'.size:=by omega
   have hs2:b.size=b'.size:=by omega
   obtain ⟨q1,q2⟩:=List.append_inj hr (by rw [List.length_append,List.length_append,X.row_len,X.row_len,X.row_len,X.row_len];omega)
   obtain ⟨q3,q4⟩:=List.append_inj q1 (by rw [X.row_len,X.row_len];exact hs)
   rw [← hs] at q4 q2
   rw [← hs2] at q2
   rw [iha a' k hx.1.1 hy.1.1 q3,ihb b' _ hx.1.2 hy.1.2 q4,ihc c' _ hx.2 hy.2 q2]
end Go.Hs
end

section
namespace Go.Hs
open Go.Proofs
set_option maxRecDepth 10000
theorem Fz.rowL {F:Nat→Bool} {H:Heap} {o g fz n:Nat} {c:Col} {cs ls:List V} (hF:F o=true) (hH:H o = .cells c g fz cs) (hn:cs.length=n) (hfl:flat ls=ls) (h1:∀ v∈ls,v.cells.length=1) (h:FzL F H cs ls):Fz F H (.msl o g 0 n 1) (.slice c false 1 ls):=by
 obtain ⟨hl,hr⟩:=h.get
 refine Cv.msl (col:=id) o g 0 n 1 c fz cs ls hF hH (by omega) h1 (by omega) fun i k1 k2=>?_
 have e:(flat ls)[i]=ls[i]'(by rw [hfl] at k2;exact k2):=by simp only [hfl]
 rw [e]
 have:=hr i (by omega) (by rw [hfl] at k2;exact k2)
 simp only [Nat.zero_add]
 exact this
theorem flat_encs (c:Col) (l:List (Sl (List UInt8))):flat (l.map fun t=>encSl c 1 V.str t)=l.map fun t=>encSl c 1 V.str t:=by
 induction l with
 | nil=>rfl
 | cons x r ih=>unfold flat at ih ⊢;rw [List.map_cons,List.flatMap_cons,ih,cells_enc];rfl
theorem recol_encSS (g:Col→Col) (c c1:Col) (s:Sl (Sl (List UInt8))):(encSS c c1 s).recol g=encSS (g c) (g c1) s :=
 recol_enc g c 1 (fun t=>recol_enc g c1 1 (fun _=>rfl) t) s
theorem tabC_part (op:Nat) (h:op<23):partC true 3 tabC (op * 3)=some (encSg (tabL.getD op ⟨[],0,0⟩)):=by
 have hl:tabC.length=69:=tabC_len
 have e0:=tabC_get op h 0 (by decide)
 have e1:=tabC_get op h 1 (by decide)
 have e2:=tabC_get op h 2 (by decide)
 have:(tabC.drop (op * 3)).take 3=(encSg (tabL.getD op ⟨[],0,0⟩)).cells:=by
  refine List.ext_getElem? fun i=>?_
  rw [List.getElem?_take]
  by_cases hi:i<3
  ·rw [if_pos hi,List.getElem?_drop]
   match i,hi with
   | 0,_=>exact e0
   | 1,_=>exact e1
   | 2,_=>exact e2
  ·rw [if_neg hi]
   exact (List.getElem?_eq_none (by rw [encSg_cells];omega)).symm
 unfold partC
 rw [this]
 simp [hl,encSg_K,V.cells]
 omega
theorem tab_parts (op:Nat) (h:op<23) (h0:1≤op):(tabL.getD op ⟨[],0,0⟩).parts=(partsOf op:Nat)∧(tabL.getD op ⟨[],0,0⟩).level=lvl op∧(tabL.getD op ⟨[],0,0⟩).text=sgT op:=by
 have:((List.range 23).all fun op=>decide (op=0∨(tabL.getD op ⟨[],0,0⟩).parts=(partsOf op:Nat)))=true:=by decide +kernel
 have:=List.all_eq_true.1 this op (List.mem_range.2 h)
 simp only [decide_eq_true_eq] at this
 exact ⟨this.resolve_left (by omega),rfl,rfl⟩
def X.body:X→List (List UInt8)
 | .leaf op num name=>[if op=1 then putR num else if op=2 then name else sgT op.toNat]
 | .un op a=>sgT op.toNat::a.W 9
 | .bin op a b=>a.W (lvl op.toNat)++sgT op.toNat::b.W (lvl op.toNat+1)
 | .ite a b c=>wIf::(a.W 0++wThen::(b.W 0++wElse::(c.W 0++[wEndif])))
theorem lvl_leaf {op:Int} (h:op=1∨op=2∨op=3∨op=4):lvl op.toNat=10:=by
 rcases h with rfl | rfl | rfl | rfl<;>rfl
theorem W_body {x:X} (h:x.ok=true) {k:Int} (hk:k≤9) (b:Int):x.W k=parW (decide (lvl (x.top b).op.toNat<k)) x.body:=by
 cases x with
 | leaf op num name =>
  have:op=1∨op=2∨op=3∨op=4:=by rcases leaf_cases h with ⟨h,_⟩ | ⟨h,_⟩ | ⟨h,_⟩ | ⟨h,_⟩<;>omega
  have hl:=lvl_leaf this
  rw [decide_eq_false (by show ¬ lvl op.toNat<k;omega)];rfl
 | un op a =>
  simp only [X.ok,Bool.and_eq_true,decide_eq_true_eq] at h
  have:lvl op.toNat=9:=by
   have:op=5∨op=6:=by omega
   rcases this with rfl | rfl<;>rfl
  show parW (decide (9<k)) _=parW (decide (lvl op.toNat<k)) _
  rw [this];rfl
 | bin op a b=>rfl
 | ite a b c =>
  have:lvl 22=10:=rfl
  rw [decide_eq_false (by show ¬ lvl (22:Int).toNat<k;show ¬ lvl 22<k;omega)];rfl
theorem top_op {x:X} (h:x.ok=true) (b:Int):1≤(x.top b).op∧(x.top b).op≤22:=by
 cases x with
 | leaf op num name=>rcases leaf_cases h with ⟨h,_⟩ | ⟨h,_⟩ | ⟨h,_⟩ | ⟨h,_⟩<;>(show 1≤op∧op≤22;omega)
 | un op a=>simp only [X.ok,Bool.and_eq_true,decide_eq_true_eq] at h;show 1≤op∧op≤22;omega
 | bin op a b=>simp only [X.ok,Bool.and_eq_true,decide_eq_true_eq] at h;show 1≤op∧op≤22;omega
 | ite=>show (1:Int)≤22∧(22:Int)≤22;omega
end Go.Hs
end

section
namespace Go.Hs
open PutLaw
def ErrS (x:Bool × RS):Prop:=x.1=false→x.2.e≠0
theorem ErrS.then {x:Bool × RS} {k:RS→Bool × RS} (h1:ErrS x) (h2:x.1=true→ErrS (k x.2)):ErrS (andThen x k):=by
 obtain ⟨b,r⟩:=x
 cases b
 ·exact h1
 ·exact h2 rfl
theorem ErrS.ok {x:RS}:ErrS (true,x):=fun h=>by cases h
theorem eat_err (l:List Tk) (w:List UInt8) (r:RS):ErrS (eatP l w r):=by
 unfold eatP
 split
 ·intro _;show (80:Int)≠0;decide
 ·exact .ok
theorem climb_err {l:List Tk}:∀ (f:Nat) (n:Int) (r:RS),l.length<f+r.i→r.i≤l.length→ErrS (climbP l f n r)
 | 0,n,r,h,h2=>by omega
 | f+1,n,r,h,h2=>by
  have hin:∀ n (r':RS),r.i<r'.i→r'.i≤l.length→ErrS (climbP l f n r'):=fun n r' a b=>climb_err f n r' (by omega) b
  have hbs:=climbP_bal l f
  rw [climbP]
  refine ErrS.then ?_ fun _=>?_
  ·have hkl:(nextP l r.i).kind≠0→r.i+1≤l.length:=fun q=>nextP_lt q
   unfold aheadP
   split
   ·unfold numberP
    split
    ·rename_i q;intro _;exact q
    ·exact .ok
   split
   ·exact .ok
   split
   ·intro _;show (80:Int)≠0;decide
   rename_i k0
   have hlt:=hkl k0
   split
   ·exact ErrS.then (hin 9 r.adv (Nat.lt_succ_self _) hlt) fun _ => .ok
   split
   ·exact ErrS.then (hin 1 r.adv (Nat.lt_succ_self _) hlt) fun _=>eat_err _ _ _
   split
   ·unfold branchesP
    have b0:=eatP_bal l wIf r
    refine ErrS.then (eat_err _ _ _) fun q1=>?_
    have m1:=b0.2 q1
    have u1:r.i+1≤(eatP l wIf r).2.i:=by
     unfold eatP at q1 ⊢
     split at q1
     ·cases q1
     ·rename_i qq;rw [if_neg qq];exact Nat.le_refl _
    have i1:=m1.inn h2
    generalize (eatP l wIf r).2=r1 at u1 i1 ⊢
    have b1:=hbs 1 r1
    refine ErrS.then (hin 1 r1 u1 i1) fun _=>?_
    have u2:=b1.up
    have i2:=b1.inn i1
    generalize (climbP l f 1 r1).2=a at u2 i2 ⊢
    have b2:=(eatP_bal l wThen a).1
    refine ErrS.then (eat_err _ _ _) fun _=>?_
    have u3:=b2.up
    have i3:=b2.inn i2
    generalize (eatP l wThen a).2=r2 at u3 i3 ⊢
    have b3:=hbs 1 r2
    refine ErrS.then (hin 1 r2 (by omega) i3) fun _=>?_
    have u4:=b3.up
    have i4:=b3.inn i3
    generalize (climbP l f 1 r2).2=b at u4 i4 ⊢
    have b4:=(eatP_bal l wElse b).1
    refine ErrS.then (eat_err _ _ _) fun _=>?_
    have u5:=b4.up
    have i5:=b4.inn i4
    generalize (eatP l wElse b).2=r3 at u5 i5 ⊢
    refine ErrS.then (hin 1 r3 (by omega) i5) fun _=>?_
    exact ErrS.then (eat_err _ _ _) fun _ => .ok
   split
   ·exact .ok
   ·intro _;show (80:Int)≠0;decide
  ·have hb:=aheadP_bal hbs r
   have u0:=hb.up
   have i0:=hb.inn h2
   generalize (aheadP l (climbP l f) r).2=q at u0 i0 ⊢
   have key:∀ (m:Nat) (q:RS),r.i≤q.i→q.i≤l.length→ErrS (loopP l (climbP l f) n m q):=by
    intro m
    induction m with
    | zero=>intro q _ _;exact .ok
    | succ m ih =>
     intro q hq hl
     rw [loopP]
     split
     ·exact .ok
     ·rename_i op ho
      split
      ·exact .ok
      ·have hb:=hbs (lvl op+1) q.adv
       have hlt:=opAt_lt ho
       refine ErrS.then (hin _ q.adv (by show r.i<q.i+1;omega) hlt) fun _=>?_
       refine ih _ ?_ ?_
       ·have:=hb.up
        show r.i≤_
        have h3:q.i+1≤_:=this
        simp only [RS.put_i];omega
       ·simp only [RS.put_i];exact hb.inn hlt
   exact key _ q u0 i0
theorem joinW_len:∀ ws:List (List UInt8),(joinW ws).length≤(ws.map fun w=>w.length+1).sum
 | []=>by simp [joinW]
 | [w]=>by simp [joinW]
 | w::v::r=>by
  have:=joinW_len (v::r)
  simp only [joinW,List.length_append,List.length_cons,List.map_cons,List.sum_cons] at this ⊢
  omega
def wLen (ws:List (List UInt8)):Nat:=(ws.map fun w=>w.length+1).sum
theorem wLen_app (a b:List (List UInt8)):wLen (a++b)=wLen a+wLen b:=by simp [wLen]
theorem wLen_cons (w:List UInt8) (b:List (List UInt8)):wLen (w::b)=w.length+1+wLen b:=by simp [wLen]
theorem wLen_nil:wLen []=0:=rfl
theorem wLen_par (b:Bool) (ts:List (List UInt8)):wLen (parW b ts)≤wLen ts+4:=by
 cases b
 ·show wLen ts≤_;omega
 ·simp only [parW,if_true,wLen_cons,wLen_app,wLen_nil,List.length_cons,List.length_nil];omega
theorem sg_len:∀ op,op≤22→(sgT op).length≤7:=by
 have:((List.range 23).all fun op=>decide ((sgT op).length≤7))=true:=by decide +kernel
 intro op h
 have:=List.all_eq_true.1 this op (List.mem_range.2 (by omega))
 simpa using this
theorem W_len:∀ (x:X),x.ok=true→x.fit→∀ k:Int,wLen (x.W k)≤66 * x.size
 | .leaf op num name,h,hf,k=>by
  simp only [X.W,wLen_cons,wLen_nil,X.size]
  rcases leaf_cases h with ⟨rfl,h1,rfl⟩ | ⟨rfl,rfl,h1⟩ | ⟨rfl,rfl,rfl⟩ | ⟨rfl,rfl,rfl⟩
  ·obtain ⟨p1,p2,p3,p4⟩:=put_digits h1 hf
   rw [if_pos rfl];omega
  ·have:=(isP_first (w:=name) (by omega)).2.2
   rw [if_neg (by decide),if_pos rfl];omega
  ·decide +kernel
  ·decide +kernel
 | .un op a,h,hf,k=>by
  simp only [X.ok,Bool.and_eq_true,decide_eq_true_eq] at h
  have ih:=W_len a h.2 hf 9
  have:=wLen_par (9<k) (sgT op.toNat::a.W 9)
  have hs:=sg_len op.toNat (by omega)
  rw [wLen_cons] at this
  simp only [X.W,X.size]
  omega
 | .bin op a b,h,hf,k=>by
  simp only [X.ok,Bool.and_eq_true,decide_eq_true_eq] at h
  have ih1:=W_len a h.1.2 hf.1 (lvl op.toNat)
  have ih2:=W_len b h.2 hf.2 (lvl op.toNat+1)
  have:=wLen_par (lvl op.toNat<k) (a.W (lvl op.toNat)++sgT op.toNat::b.W (lvl op.toNat+1))
  have hs:=sg_len op.toNat (by omega)
  rw [wLen_app,wLen_cons] at this
  simp only [X.W,X.size]
  omega
 | .ite a b c,h,hf,k=>by
  simp only [X.ok,Bool.and_eq_true] at h
  have ih1:=W_len a h.1.1 hf.1 0
  have ih2:=W_len b h.1.2 hf.2.1 0
  have ih3:=W_len c h.2 hf.2.2 0
  simp only [X.W,X.size,wLen_cons,wLen_app,wLen_nil]
  have e1:wIf.length=2:=rfl
  have e2:wThen.length=4:=rfl
  have e3:wElse.length=4:=rfl
  have e4:wEndif.length=5:=rfl
  omega
theorem print_len {x:X} (h:x.ok=true) (hf:x.fit):(joinW (x.W 0)).length≤66 * x.size:=Nat.le_trans (joinW_len _) (W_len x h hf 0)
theorem Gr.size {n:Int} {ts:List (List UInt8)} {x:X} (h:Gr n ts x):x.size≤ts.length:=by
 induction h<;>simp only [X.size,List.length_cons,List.length_append,List.length_nil]<;>omega
theorem Gr.fit {n:Int} {ts:List (List UInt8)} {x:X} (h:Gr n ts x):x.fit:=by
 induction h with
 | @num n t v h1 h2 =>
  show v≤9223372036854775807
  have hp:(parseR (trim0 t)).1≤9223372036854775807:=by
   have ht:∀ z:Int,(told z).1≤9223372036854775807:=by
    intro z
    unfold told
    split
    ·rename_i q
     simp only [fits,decide_eq_true_eq] at q
     exact q.2
    ·show (0:Int)≤_;decide
   generalize trim0 t=u
   unfold parseR
   generalize (u.head? == some 45)=bl
   cases bl
   ·simp only [Bool.false_eq_true,if_false]
    split
    ·show (0:Int)≤_;decide
    ·exact ht _
   ·simp only [if_true]
    split
    ·show (0:Int)≤_;decide
    ·exact ht _
  rw [h2] at hp
  exact hp
 | name=>show (0:Int)≤_;decide
 | tr=>show (0:Int)≤_;decide
 | fa=>show (0:Int)≤_;decide
 | neg _ _ ih=>exact ih
 | not _ _ ih=>exact ih
 | par _ ih=>exact ih
 | bin _ _ _ _ _ i1 i2=>exact ⟨i1,i2⟩
 | ite _ _ _ i1 i2 i3=>exact ⟨i1,i2,i3⟩
theorem toks_count {s:List UInt8} {l:List Tk} (h:toksP s=(l,0,0)):l.length≤s.length:=by
 have key:∀ {s:List UInt8} {ws:List (List UInt8)},Lx s ws→ws.length≤s.length:=by
  intro s ws h
  induction h with
  | nil=>exact Nat.zero_le _
  | @cons s ws k hb hk h0 h64 _ ih =>
   have hle:=firstP_le (s.drop (blk s))
   rw [hk,List.length_drop] at hle
   rw [List.length_drop,List.length_drop] at ih
   simp only [List.length_cons];omega
 have:=key (toksP_lx h)
 rwa [List.length_map] at this
end Go.Hs
end

section
namespace Go.Hs
open Go.Proofs
set_option maxRecDepth 10000
theorem catL_W (ls:List (List (List UInt8))):catL (ls.map fun l=>Sl.mk false l)=ls.flatten:=by
 induction ls with
 | nil=>rfl
 | cons a r ih=>rw [List.map_cons,catL,List.flatMap_cons,List.flatten_cons];exact congrArg _ ih
theorem W_cnt:∀ (x:X) (k:Int),(x.W k).length≤6 * x.size
 | .leaf ..,k=>by simp [X.W,X.size]
 | .un op a,k=>by
  have:=W_cnt a 9
  have hp:∀ b (ts:List (List UInt8)),(parW b ts).length≤ts.length+2:=fun b ts=>by cases b<;>simp [parW]
  have:=hp (9<k) (sgT op.toNat::a.W 9)
  simp only [X.W,X.size,List.length_cons] at this ⊢
  omega
 | .bin op a b,k=>by
  have:=W_cnt a (lvl op.toNat)
  have:=W_cnt b (lvl op.toNat+1)
  have hp:∀ b (ts:List (List UInt8)),(parW b ts).length≤ts.length+2:=fun b ts=>by cases b<;>simp [parW]
  have:=hp (lvl op.toNat<k) (a.W (lvl op.toNat)++sgT op.toNat::b.W (lvl op.toNat+1))
  simp only [X.W,X.size,List.length_cons,List.length_append] at this ⊢
  omega
 | .ite a b c,k=>by
  have:=W_cnt a 0
  have:=W_cnt b 0
  have:=W_cnt c 0
  simp only [X.W,X.size,List.length_cons,List.length_append,List.length_nil]
  omega
theorem cat_call {G:Nat→V} (hG:GOk G) (F:Nat→Bool) {H:Heap} {K:V→Heap→Prop} {v:V} (ls:List (List (List UInt8))) (hn:ls.length<1000) (hl:ls.flatten.length<1000000) (hne:ls.flatten.length≠0)
  (h:Fz F H v (encSS .new .new (.mk false (ls.map fun l=>Sl.mk false l)))) (hk:K (encSl .new 1 V.str (.mk false ls.flatten)) hNone):CallA Tryz.prog G 161 [v] H K:=by
 refine CallA.frzL F [encSS .new .new (.mk false (ls.map fun l=>Sl.mk false l))] [] ⟨h,trivial⟩ trivial ?_
 refine CallA.pure hG (by kernel_rfl) ?_
 rw [List.map_cons,List.map_nil,recol_encSS]
 refine (sConcat_spec G hG _ _ (.mk false (ls.map fun l=>Sl.mk false l)) (by simp [Sl.l];omega) (by rw [show (Sl.mk false (ls.map fun l=>Sl.mk false l)).l=ls.map fun l=>Sl.mk false l from rfl,catL_W];exact hl) (by rw [show (Sl.mk false (ls.map fun l=>Sl.mk false l)).l=ls.map fun l=>Sl.mk false l from rfl,catL_W];exact hne)).mono ?_
 rintro _ _ rfl
 rw [show (Sl.mk false (ls.map fun l=>Sl.mk false l)).l=ls.map fun l=>Sl.mk false l from rfl,catL_W]
 have:(encSl .new 1 V.str (.mk false ls.flatten)).recol Col.bk=encSl .new 1 V.str (.mk false ls.flatten):=recol_enc _ _ _ (fun _=>rfl) _
 rw [this]
 exact hk
theorem Fz.rowSS {F:Nat→Bool} {H:Heap} {o g n:Nat} {cs:List V} (ls:List (List (List UInt8))) (hF:F o=true) (hH:H o = .cells .new g 0 cs) (hn:cs.length=n) (h:FzL F H cs (ls.map fun l=>encSl .new 1 V.str (.mk false l))) :
  Fz F H (.msl o g 0 n 1) (encSS .new .new (.mk false (ls.map fun l=>Sl.mk false l))):=by
 have e:encSS .new .new (.mk false (ls.map fun l=>Sl.mk false l)) = .slice .new false 1 (ls.map fun l=>encSl .new 1 V.str (.mk false l)):=by
  simp only [encSS,encSl,List.map_map]
  rfl
 rw [e]
 have e2:(ls.map fun l=>encSl .new 1 V.str (.mk false l))=(ls.map fun l=>Sl.mk false l).map fun t=>encSl .new 1 V.str t:=by rw [List.map_map];rfl
 refine Fz.rowL hF hH hn (by rw [e2];exact flat_encs .new _) ?_ h
 intro v hv
 obtain ⟨l,_,rfl⟩:=List.mem_map.1 hv
 rfl
theorem Fz.one {F:Nat→Bool} {H:Heap} {o g:Nat} {w:List UInt8} (hF:F o=true) (hH:H o = .cells .new g 0 [.str w]):Fz F H (.msl o g 0 1 1) (encSl .new 1 V.str (.mk false [w])) :=
 Fz.sl (f:=V.str) (l:=[w]) (m:=1) (g:=g) (fz:=0) (c := .new) hF hH (fun _=>rfl)
theorem xWords_spec (G:Nat→V) (hE:GExp G) (s:Sl XN) (hs:s.l.length<1000):∀ (m:Nat) (y:X) (b:Nat) (c:Col) (k:Int),y.size≤m→At s.l y b→y.ok=true→y.fit→0≤k→k≤9 →
  Spec Tryz.prog G 94 [.agg [encSl c 6 encXN s],.int .i64 ((b:Int)+y.size-1),.int .i64 k] hNone (fun v _=>v=encSl .new 1 V.str (.mk false (y.W k))):=by
 have hG:=hE.ok
 intro m
 induction m with
 | zero=>intro y b c k hm;have:=y.size_pos;omega
 | succ m ih =>
 intro y b c k hm hat hy hf hk0 hk9
 refine Spec.of_code' 0 106 [.tmp 6] Tryz.func94 rfl rfl rfl rfl fun X0=>?_
 have hyp:=y.size_pos
 have hget:=hat.get
 have hsz:b+y.size≤s.l.length:=by
  obtain ⟨pre,post,e1,e2⟩:=hat
  have:=congrArg List.length e1
  simp only [List.length_append,X.row_len] at this
  omega
 have hW:=W_body hy hk9 (b:Int)
 have hop:=top_op hy (b:Int)
 have hbp:0<y.body.length:=by cases y<;>(simp [X.body];try omega)
 have hbl:y.body.length≤6 * y.size:=by
  have:=W_cnt y 0
  rw [W_body hy (by decide) (b:Int)] at this
  cases hq:decide (lvl (y.top b).op.toNat<0)<;>rw [hq] at this<;>simp [parW] at this<;>omega
 have hpos:((b:Int)+y.size-1)=((b+y.size-1:Nat):Int):=by omega
 have hlt:b+y.size-1<s.l.length:=by omega
 rw [hpos]
 generalize hn:y.top b=n at hget hW hop
 generalize y.W k=res at hW ⊢
 refine AW.seq_k fun K hK=>AW.region (by kernel_rfl) ?_
 simp -implicitDefEqProofs only[go_sem,seval,↓reduceIte]
 intro g3
 refine hK _ ?_
 clear hK K
 refine AW.seq_k fun K hK=>AW.region (by kernel_rfl) ?_
 simp -implicitDefEqProofs only[go_sem,seval,↓reduceIte,hget,hlt,encXN_K]
 intro g7
 refine hK _ ?_
 clear hK K
 refine AW.weak (Weak.stF (fun o=>o==3 || o==7) (l:=[(2,.int .i64 k),(3,.view .new (.agg [encSl c 6 encXN s])),(7,.view .new (encXN n))]) (m:=[]) ?_ trivial) ?_
 ·simp -implicitDefEqProofs only[go_sem,seval,↓reduceIte]
  exact ⟨Fz.same _,Fz.ptr (v := .agg [encSl c 6 encXN s]) (c := .new) (fz:=0) rfl (by simp -implicitDefEqProofs only[go_sem,seval,↓reduceIte];try rfl),Fz.ptr (v:=encXN n) (c := .new) (fz:=0) rfl (by simp -implicitDefEqProofs only[go_sem,seval,↓reduceIte];try rfl)⟩
 obtain ⟨on,hon⟩:∃ on:Nat,n.op=on:=⟨n.op.toNat,by omega⟩
 have hpt:=tabC_part on (by omega)
 obtain ⟨t1,t2,t3⟩:=tab_parts on (by omega) (by omega)
 have hoi:n.op<23:=by omega
 have hoj:0≤n.op:=by omega
 have hot:n.op.toNat=on:=by omega
 have pT:PureC Tryz.prog G 159 [] (.agg tabC):=⟨by kernel_rfl,by
  simp -implicitDefEqProofs only[go_sem,seval,↓reduceIte,List.map_nil]
  refine (xTable_spec G hG).mono ?_
  rintro _ _ rfl
  exact tabC_rc _⟩
 generalize tabL.getD on ⟨[],0,0⟩=sg at hpt t1 t2 t3
 obtain ⟨tx,lv,pa⟩:=sg
 simp only at t1 t2 t3
 subst t1 t2 t3
 rw [encSg_K] at hpt
 simp only at hpt
 refine AW.seq_k fun K hK=>AW.regionT ⟨fun _ => .agg tabC,fun i=>if i=0 then .pure else .lend⟩ (by kernel_rfl) hG (by kernel_rfl) (by kernel_rfl) ?_
 simp -implicitDefEqProofs only[go_sem,seval,↓reduceIte,encXN_K,hoi,hoj,hot,hpt]
 refine ⟨pT,?_⟩
 intro g8
 refine hK _ ?_
 clear hK K
 refine AW.weak (Weak.stF (fun o=>o==8) (l:=[(2,.int .i64 k),(3,.view .new (.agg [encSl c 6 encXN s])),(7,.view .new (encXN n)),(8,.view .new (.agg [.str (sgT on),.int .i64 (lvl on),.int .i64 (partsOf on:Nat)]))]) (m:=[]) ?_ trivial) ?_
 ·simp -implicitDefEqProofs only[go_sem,seval,↓reduceIte]
  exact ⟨Fz.same _,Fz.same _,Fz.same _,Fz.ptr (v := .agg [.str (sgT on),.int .i64 (lvl on),.int .i64 (partsOf on:Nat)]) (c := .new) (fz:=0) rfl (by simp -implicitDefEqProofs only[go_sem,seval,↓reduceIte];try rfl)⟩
 refine AW.seq_k fun K hK=>AW.region (by kernel_rfl) ?_
 simp -implicitDefEqProofs only[go_sem,seval,↓reduceIte]
 refine hK _ ?_
 clear hK K
 have pw:∀ (z:X) (bz:Nat) (lv:Int),z.size≤m→At s.l z bz→z.ok=true→z.fit→0≤lv→lv≤9→PureC Tryz.prog G 94 [.agg [encSl c 6 encXN s],.int .i64 ((bz:Int)+z.size-1),.int .i64 lv] (encSl .new 1 V.str (.mk false (z.W lv))):=by
  intro z bz lv h1 h2 h3 h4 h5 h6
  refine ⟨by kernel_rfl,?_⟩
  simp -implicitDefEqProofs only[go_sem,seval,↓reduceIte,recol_xns]
  refine (ih z bz _ lv h1 h2 h3 h4 h5 h6).mono ?_
  rintro _ _ rfl
  exact recol_enc _ _ _ (fun _=>rfl) _
 refine AW.seqJ (fun (_:Unit)=>st [(2,.int .i64 k),(8,.view .new (.agg [.str (sgT on),.int .i64 (lvl on),.int .i64 (partsOf on:Nat)])),(9,encSl .new 1 V.str (.mk false y.body))] []) (fun _=>True) (fun K1 hK1=>?_) ?_
 rotate_left
 ·intro _ _
  refine AW.seq_k fun K2 hK2=>?_
  rw [hot] at hW
  by_cases hlk:lvl on<k
  ·have e1:decide (lvl on<k)=true:=by simpa using hlk
   rw [decide_eq_true hlk] at hW
   refine AW.seq_k fun K hK=>AW.region (by kernel_rfl) ?_
   simp -implicitDefEqProofs only[go_sem,seval,↓reduceIte,e1]
   refine hK _ ?_
   clear hK K
   refine AW.condS (by simp -implicitDefEqProofs only[go_sem,seval,↓reduceIte];rfl) (fun h99=>?_) (fun h99=>?_)
   rotate_left
   ·cases h99
   refine AW.seq_k fun K hK=>AW.region (by kernel_rfl) ?_
   simp -implicitDefEqProofs only[go_sem,seval,↓reduceIte]
   intro g100 g102 g103
   refine cat_call hG (fun o=>o==100 || o==102 || o==103) [[[40]],y.body,[[41]]] (by simp) (by simp;omega) (by simp) (Fz.rowSS (cs:=[.msl 100 g100 0 1 1,encSl .new 1 V.str (.mk false y.body),.msl 102 g102 0 1 1]) [[[40]],y.body,[[41]]] rfl (by simp -implicitDefEqProofs only[go_sem,seval,↓reduceIte];try rfl) rfl ⟨Fz.one rfl (by simp -implicitDefEqProofs only[go_sem,seval,↓reduceIte];try rfl),Fz.same _,Fz.one rfl (by simp -implicitDefEqProofs only[go_sem,seval,↓reduceIte];try rfl),trivial⟩) ?_
   simp -implicitDefEqProofs only[go_sem,seval,↓reduceIte]
   refine hK _ ?_
   clear hK K
   refine AW.ret ?_
   simp -implicitDefEqProofs only[go_sem,seval,↓reduceIte]
   refine endK_some ?_
   rw [hW]
   simp [parW]
  ·have e1:decide (lvl on<k)=false:=by simpa using hlk
   rw [decide_eq_false hlk] at hW
   refine AW.seq_k fun K hK=>AW.region (by kernel_rfl) ?_
   simp -implicitDefEqProofs only[go_sem,seval,↓reduceIte,e1]
   refine hK _ ?_
   clear hK K
   refine AW.condS (by simp -implicitDefEqProofs only[go_sem,seval,↓reduceIte];rfl) (fun h99=>?_) (fun h99=>?_)
   ·cases h99
   refine AW.skip ?_
   simp -implicitDefEqProofs only[go_sem,seval,↓reduceIte]
   refine hK2 _ ?_
   refine AW.seq_k fun K hK=>AW.region (by kernel_rfl) ?_
   simp -implicitDefEqProofs only[go_sem,seval,↓reduceIte]
   refine hK _ ?_
   clear hK K
   refine AW.ret ?_
   simp -implicitDefEqProofs only[go_sem,seval,↓reduceIte]
   refine endK_some ?_
   rw [hW];rfl
 refine AW.block ?_
 cases y with
 | leaf op num name =>
  obtain rfl:n=⟨op,num,name,-1,-1,-1⟩:=hn.symm
  rcases leaf_cases hy with ⟨rfl,h1,rfl⟩ | ⟨rfl,rfl,h1⟩ | ⟨rfl,rfl,rfl⟩ | ⟨rfl,rfl,rfl⟩
  ·have hf:num≤9223372036854775807:=hf
   refine AW.seq_k fun K hK=>AW.region (by kernel_rfl) ?_
   simp -implicitDefEqProofs only[go_sem,seval,↓reduceIte,encXN_K]
   refine hK _ ?_
   clear hK K
   refine AW.condS (by simp -implicitDefEqProofs only[go_sem,seval,↓reduceIte];rfl) (fun h22=>?_) (fun h22=>?_)
   rotate_left
   ·cases h22
   refine AW.region (by kernel_rfl) ?_
   simp -implicitDefEqProofs only[go_sem,seval,↓reduceIte,encXN_K]
   refine CallA.pure hG (by kernel_rfl) ?_
   simp -implicitDefEqProofs only[go_sem,seval,↓reduceIte]
   refine (nPut_spec G hE.toGNum num ⟨by show -9223372036854775808≤num;omega,hf⟩).mono ?_
   rintro _ _ rfl
   simp -implicitDefEqProofs only[go_sem,seval,↓reduceIte]
   intro g29
   exact hK1 _ () trivial (Weak.stF (fun o=>o==29) (by simp -implicitDefEqProofs only[go_sem,seval,↓reduceIte];exact ⟨Fz.same _,Fz.same _,Fz.one rfl (by simp -implicitDefEqProofs only[go_sem,seval,↓reduceIte];try rfl)⟩) trivial)
  ·refine AW.seq_k fun K hK=>AW.region (by kernel_rfl) ?_
   simp -implicitDefEqProofs only[go_sem,seval,↓reduceIte,encXN_K]
   refine hK _ ?_
   clear hK K
   refine AW.condS (by simp -implicitDefEqProofs only[go_sem,seval,↓reduceIte];rfl) (fun h22=>?_) (fun h22=>?_)
   ·cases h22
   clear h22
   refine AW.seq_k fun K hK=>AW.region (by kernel_rfl) ?_
   simp -implicitDefEqProofs only[go_sem,seval,↓reduceIte,encXN_K]
   refine hK _ ?_
   clear hK K
   refine AW.condS (by simp -implicitDefEqProofs only[go_sem,seval,↓reduceIte];rfl) (fun h22=>?_) (fun h22=>?_)
   rotate_left
   ·cases h22
   refine AW.region (by kernel_rfl) ?_
   simp -implicitDefEqProofs only[go_sem,seval,↓reduceIte,encXN_K]
   intro g36
   exact hK1 _ () trivial (Weak.stF (fun o=>o==36) (by simp -implicitDefEqProofs only[go_sem,seval,↓reduceIte];exact ⟨Fz.same _,Fz.same _,Fz.one rfl (by simp -implicitDefEqProofs only[go_sem,seval,↓reduceIte];try rfl)⟩) trivial)
  ·obtain rfl:on=3:=by have:(3:Int)=on:=hon;omega
   have e2:((((partsOf ((3:Nat):Int):Nat):Int))==2)=false:=rfl
   have e3:((((partsOf ((3:Nat):Int):Nat):Int))==1)=false:=rfl
   refine AW.seq_k fun K hK=>AW.region (by kernel_rfl) ?_
   simp -implicitDefEqProofs only[go_sem,seval,↓reduceIte,encXN_K]
   refine hK _ ?_
   clear hK K
   refine AW.condS (by simp -implicitDefEqProofs only[go_sem,seval,↓reduceIte];rfl) (fun h22=>?_) (fun h22=>?_)
   ·cases h22
   clear h22
   refine AW.seq_k fun K hK=>AW.region (by kernel_rfl) ?_
   simp -implicitDefEqProofs only[go_sem,seval,↓reduceIte,encXN_K]
   refine hK _ ?_
   clear hK K
   refine AW.condS (by simp -implicitDefEqProofs only[go_sem,seval,↓reduceIte];rfl) (fun h22=>?_) (fun h22=>?_)
   ·cases h22
   clear h22
   refine AW.seq_k fun K hK=>AW.region (by kernel_rfl) ?_
   simp -implicitDefEqProofs only[go_sem,seval,↓reduceIte,encXN_K]
   refine hK _ ?_
   clear hK K
   refine AW.condS (by simp -implicitDefEqProofs only[go_sem,seval,↓reduceIte];rfl) (fun h22=>?_) (fun h22=>?_)
   ·cases h22
   clear h22
   refine AW.seq_k fun K hK=>AW.region (by kernel_rfl) ?_
   simp -implicitDefEqProofs only[go_sem,seval,↓reduceIte,e2]
   refine hK _ ?_
   clear hK K
   refine AW.condS (by simp -implicitDefEqProofs only[go_sem,seval,↓reduceIte];rfl) (fun h22=>?_) (fun h22=>?_)
   ·cases h22
   clear h22
   refine AW.seq_k fun K hK=>AW.region (by kernel_rfl) ?_
   simp -implicitDefEqProofs only[go_sem,seval,↓reduceIte,e3]
   refine hK _ ?_
   clear hK K
   refine AW.condS (by simp -implicitDefEqProofs only[go_sem,seval,↓reduceIte];rfl) (fun h22=>?_) (fun h22=>?_)
   ·cases h22
   clear h22
   refine AW.region (by kernel_rfl) ?_
   simp -implicitDefEqProofs only[go_sem,seval,↓reduceIte]
   intro g21
   exact hK1 _ () trivial (Weak.stF (fun o=>o==21) (by simp -implicitDefEqProofs only[go_sem,seval,↓reduceIte];exact ⟨Fz.same _,Fz.same _,Fz.one rfl (by simp -implicitDefEqProofs only[go_sem,seval,↓reduceIte];try rfl)⟩) trivial)
  ·obtain rfl:on=4:=by have:(4:Int)=on:=hon;omega
   have e2:((((partsOf ((4:Nat):Int):Nat):Int))==2)=false:=rfl
   have e3:((((partsOf ((4:Nat):Int):Nat):Int))==1)=false:=rfl
   refine AW.seq_k fun K hK=>AW.region (by kernel_rfl) ?_
   simp -implicitDefEqProofs only[go_sem,seval,↓reduceIte,encXN_K]
   refine hK _ ?_
   clear hK K
   refine AW.condS (by simp -implicitDefEqProofs only[go_sem,seval,↓reduceIte];rfl) (fun h22=>?_) (fun h22=>?_)
   ·cases h22
   clear h22
   refine AW.seq_k fun K hK=>AW.region (by kernel_rfl) ?_
   simp -implicitDefEqProofs only[go_sem,seval,↓reduceIte,encXN_K]
   refine hK _ ?_
   clear hK K
   refine AW.condS (by simp -implicitDefEqProofs only[go_sem,seval,↓reduceIte];rfl) (fun h22=>?_) (fun h22=>?_)
   ·cases h22
   clear h22
   refine AW.seq_k fun K hK=>AW.region (by kernel_rfl) ?_
   simp -implicitDefEqProofs only[go_sem,seval,↓reduceIte,encXN_K]
   refine hK _ ?_
   clear hK K
   refine AW.condS (by simp -implicitDefEqProofs only[go_sem,seval,↓reduceIte];rfl) (fun h22=>?_) (fun h22=>?_)
   ·cases h22
   clear h22
   refine AW.seq_k fun K hK=>AW.region (by kernel_rfl) ?_
   simp -implicitDefEqProofs only[go_sem,seval,↓reduceIte,e2]
   refine hK _ ?_
   clear hK K
   refine AW.condS (by simp -implicitDefEqProofs only[go_sem,seval,↓reduceIte];rfl) (fun h22=>?_) (fun h22=>?_)
   ·cases h22
   clear h22
   refine AW.seq_k fun K hK=>AW.region (by kernel_rfl) ?_
   simp -implicitDefEqProofs only[go_sem,seval,↓reduceIte,e3]
   refine hK _ ?_
   clear hK K
   refine AW.condS (by simp -implicitDefEqProofs only[go_sem,seval,↓reduceIte];rfl) (fun h22=>?_) (fun h22=>?_)
   ·cases h22
   clear h22
   refine AW.region (by kernel_rfl) ?_
   simp -implicitDefEqProofs only[go_sem,seval,↓reduceIte]
   intro g21
   exact hK1 _ () trivial (Weak.stF (fun o=>o==21) (by simp -implicitDefEqProofs only[go_sem,seval,↓reduceIte];exact ⟨Fz.same _,Fz.same _,Fz.one rfl (by simp -implicitDefEqProofs only[go_sem,seval,↓reduceIte];try rfl)⟩) trivial)
 | un op a =>
  obtain rfl:n=⟨op,0,[],(b:Int)+a.size-1,-1,-1⟩:=hn.symm
  simp only [X.ok,Bool.and_eq_true,decide_eq_true_eq] at hy
  have hon:op=on:=hon
  have hpo:partsOf on=1:=by unfold partsOf;rw [if_neg (by omega),if_pos (by omega)]
  have q1:(op==1)=false:=by rw [beq_eq_false_iff_ne];omega
  have q2:(op==2)=false:=by rw [beq_eq_false_iff_ne];omega
  have q22:(op==22)=false:=by rw [beq_eq_false_iff_ne];omega
  have e2:(((partsOf on:Nat):Int)==2)=false:=by rw [hpo];rfl
  have e3:(((partsOf on:Nat):Int)==1)=true:=by rw [hpo];rfl
  have e9:lvl on=9:=by
   have:on=5∨on=6:=by omega
   rcases this with h | h<;>rw [h]<;>rfl
  have hwa:=pw a b (lvl on) (by simp only [X.size] at hm;omega) hat.un hy.2 hf (by omega) (by omega)
  have hcl:=W_cnt a (lvl on)
  have hfl:[[sgT on],a.W (lvl on)].flatten=(X.un op a).body:=by rw [e9,X.body,← hot];simp
  have hsz2:a.size<1000:=by simp only [X.size] at hsz;omega
  refine AW.seq_k fun K hK=>AW.region (by kernel_rfl) ?_
  simp -implicitDefEqProofs only[go_sem,seval,↓reduceIte,encXN_K,q1]
  refine hK _ ?_
  clear hK K
  refine AW.condS (by simp -implicitDefEqProofs only[go_sem,seval,↓reduceIte];rfl) (fun h22=>?_) (fun h22=>?_)
  ·cases h22
  clear h22
  refine AW.seq_k fun K hK=>AW.region (by kernel_rfl) ?_
  simp -implicitDefEqProofs only[go_sem,seval,↓reduceIte,encXN_K,q2]
  refine hK _ ?_
  clear hK K
  refine AW.condS (by simp -implicitDefEqProofs only[go_sem,seval,↓reduceIte];rfl) (fun h22=>?_) (fun h22=>?_)
  ·cases h22
  clear h22
  refine AW.seq_k fun K hK=>AW.region (by kernel_rfl) ?_
  simp -implicitDefEqProofs only[go_sem,seval,↓reduceIte,encXN_K,q22]
  refine hK _ ?_
  clear hK K
  refine AW.condS (by simp -implicitDefEqProofs only[go_sem,seval,↓reduceIte];rfl) (fun h22=>?_) (fun h22=>?_)
  ·cases h22
  clear h22
  refine AW.seq_k fun K hK=>AW.region (by kernel_rfl) ?_
  simp -implicitDefEqProofs only[go_sem,seval,↓reduceIte,e2]
  refine hK _ ?_
  clear hK K
  refine AW.condS (by simp -implicitDefEqProofs only[go_sem,seval,↓reduceIte];rfl) (fun h22=>?_) (fun h22=>?_)
  ·cases h22
  clear h22
  refine AW.seq_k fun K hK=>AW.region (by kernel_rfl) ?_
  simp -implicitDefEqProofs only[go_sem,seval,↓reduceIte,e3]
  refine hK _ ?_
  clear hK K
  refine AW.condS (by simp -implicitDefEqProofs only[go_sem,seval,↓reduceIte];rfl) (fun h22=>?_) (fun h22=>?_)
  rotate_left
  ·cases h22
  refine AW.regionT ⟨fun _=>encSl .new 1 V.str (.mk false (a.W (lvl on))),fun i=>if i=8 then .pure else if i=10 then .any else .lend⟩ (by kernel_rfl) hG (by kernel_rfl) (by kernel_rfl) ?_
  simp -implicitDefEqProofs only[go_sem,seval,↓reduceIte,encXN_K]
  intro g87
  refine ⟨hwa,fun g94=>?_⟩
  refine cat_call hG (fun o=>o==87 || o==94) [[sgT on],a.W (lvl on)] (by simp) (by simp;omega) (by simp) (Fz.rowSS (cs:=[.msl 87 g87 0 1 1,encSl .new 1 V.str (.mk false (a.W (lvl on)))]) [[sgT on],a.W (lvl on)] rfl (by simp -implicitDefEqProofs only[go_sem,seval,↓reduceIte];try rfl) rfl ⟨Fz.one rfl (by simp -implicitDefEqProofs only[go_sem,seval,↓reduceIte];try rfl),Fz.same _,trivial⟩) ?_
  rw [hfl]
  simp -implicitDefEqProofs only[go_sem,seval,↓reduceIte]
  exact hK1 _ () trivial (Weak.st (by simp -implicitDefEqProofs only[go_sem,seval,↓reduceIte];try rfl) (by simp -implicitDefEqProofs only[go_sem,seval,↓reduceIte]))
 | bin op a b' =>
  obtain rfl:n=⟨op,0,[],(b:Int)+a.size-1,(b:Int)+a.size+b'.size-1,-1⟩:=hn.symm
  simp only [X.ok,Bool.and_eq_true,decide_eq_true_eq] at hy
  have hon:op=on:=hon
  have hpo:partsOf on=2:=by unfold partsOf;rw [if_neg (by omega),if_neg (by omega),if_pos (by omega)]
  have q1:(op==1)=false:=by rw [beq_eq_false_iff_ne];omega
  have q2:(op==2)=false:=by rw [beq_eq_false_iff_ne];omega
  have q22:(op==22)=false:=by rw [beq_eq_false_iff_ne];omega
  have e2:(((partsOf on:Nat):Int)==2)=true:=by rw [hpo];rfl
  obtain ⟨l1,l2,_,_⟩:=lvl_rng on (by omega) (by omega)
  simp only [X.size] at hm hsz
  have hwa:=pw a b (lvl on) (by omega) hat.bin.1 hy.1.2 hf.1 (by omega) (by omega)
  have hwb:=pw b' (b+a.size) (lvl on+1) (by omega) hat.bin.2 hy.2 hf.2 (by omega) (by omega)
  rw [Int.natCast_add] at hwb
  have hw:IntKind.i64.wrap (lvl on+1)=lvl on+1:=w64 (by omega) (by omega)
  have hca:=W_cnt a (lvl on)
  have hcb:=W_cnt b' (lvl on+1)
  have hfl:[a.W (lvl on),[sgT on],b'.W (lvl on+1)].flatten=(X.bin op a b').body:=by rw [X.body,← hot];simp
  refine AW.seq_k fun K hK=>AW.region (by kernel_rfl) ?_
  simp -implicitDefEqProofs only[go_sem,seval,↓reduceIte,encXN_K,q1]
  refine hK _ ?_
  clear hK K
  refine AW.condS (by simp -implicitDefEqProofs only[go_sem,seval,↓reduceIte];rfl) (fun h22=>?_) (fun h22=>?_)
  ·cases h22
  clear h22
  refine AW.seq_k fun K hK=>AW.region (by kernel_rfl) ?_
  simp -implicitDefEqProofs only[go_sem,seval,↓reduceIte,encXN_K,q2]
  refine hK _ ?_
  clear hK K
  refine AW.condS (by simp -implicitDefEqProofs only[go_sem,seval,↓reduceIte];rfl) (fun h22=>?_) (fun h22=>?_)
  ·cases h22
  clear h22
  refine AW.seq_k fun K hK=>AW.region (by kernel_rfl) ?_
  simp -implicitDefEqProofs only[go_sem,seval,↓reduceIte,encXN_K,q22]
  refine hK _ ?_
  clear hK K
  refine AW.condS (by simp -implicitDefEqProofs only[go_sem,seval,↓reduceIte];rfl) (fun h22=>?_) (fun h22=>?_)
  ·cases h22
  clear h22
  refine AW.seq_k fun K hK=>AW.region (by kernel_rfl) ?_
  simp -implicitDefEqProofs only[go_sem,seval,↓reduceIte,e2]
  refine hK _ ?_
  clear hK K
  refine AW.condS (by simp -implicitDefEqProofs only[go_sem,seval,↓reduceIte];rfl) (fun h22=>?_) (fun h22=>?_)
  rotate_left
  ·cases h22
  refine AW.regionT ⟨fun i=>if i=5 then encSl .new 1 V.str (.mk false (a.W (lvl on))) else encSl .new 1 V.str (.mk false (b'.W (lvl on+1))),fun i=>if i=5 then .pure else if i=15 then .pure else if i=17 then .any else .lend⟩ (by kernel_rfl) hG (by kernel_rfl) (by kernel_rfl) ?_
  simp -implicitDefEqProofs only[go_sem,seval,↓reduceIte,encXN_K,hw]
  refine ⟨hwa,fun g71=>⟨hwb,fun g79=>?_⟩⟩
  refine cat_call hG (fun o=>o==71 || o==79) [a.W (lvl on),[sgT on],b'.W (lvl on+1)] (by simp) (by simp;omega) (by simp) (Fz.rowSS (cs:=[encSl .new 1 V.str (.mk false (a.W (lvl on))),.msl 71 g71 0 1 1,encSl .new 1 V.str (.mk false (b'.W (lvl on+1)))]) [a.W (lvl on),[sgT on],b'.W (lvl on+1)] rfl (by simp -implicitDefEqProofs only[go_sem,seval,↓reduceIte];try rfl) rfl ⟨Fz.same _,Fz.one rfl (by simp -implicitDefEqProofs only[go_sem,seval,↓reduceIte];try rfl),Fz.same _,trivial⟩) ?_
  rw [hfl]
  simp -implicitDefEqProofs only[go_sem,seval,↓reduceIte]
  exact hK1 _ () trivial (Weak.st (by simp -implicitDefEqProofs only[go_sem,seval,↓reduceIte];try rfl) (by simp -implicitDefEqProofs only[go_sem,seval,↓reduceIte]))
 | ite a b' c' =>
  obtain rfl:n=⟨22,0,[],(b:Int)+a.size-1,(b:Int)+a.size+b'.size-1,(b:Int)+a.size+b'.size+c'.size-1⟩:=hn.symm
  simp only [X.ok,Bool.and_eq_true] at hy
  simp only [X.size] at hm hsz
  have hwa:=pw a b 0 (by omega) hat.ite.1 hy.1.1 hf.1 (by decide) (by decide)
  have hwb:=pw b' (b+a.size) 0 (by omega) hat.ite.2.1 hy.1.2 hf.2.1 (by decide) (by decide)
  have hwc:=pw c' (b+a.size+b'.size) 0 (by omega) hat.ite.2.2 hy.2 hf.2.2 (by decide) (by decide)
  rw [Int.natCast_add] at hwb
  rw [Int.natCast_add,Int.natCast_add] at hwc
  have hca:=W_cnt a 0
  have hcb:=W_cnt b' 0
  have hcc:=W_cnt c' 0
  have hfl:[[wIf],a.W 0,[wThen],b'.W 0,[wElse],c'.W 0,[wEndif]].flatten=(X.ite a b' c').body:=by rw [X.body];simp
  refine AW.seq_k fun K hK=>AW.region (by kernel_rfl) ?_
  simp -implicitDefEqProofs only[go_sem,seval,↓reduceIte,encXN_K]
  refine hK _ ?_
  clear hK K
  refine AW.condS (by simp -implicitDefEqProofs only[go_sem,seval,↓reduceIte];rfl) (fun h22=>?_) (fun h22=>?_)
  ·cases h22
  clear h22
  refine AW.seq_k fun K hK=>AW.region (by kernel_rfl) ?_
  simp -implicitDefEqProofs only[go_sem,seval,↓reduceIte,encXN_K]
  refine hK _ ?_
  clear hK K
  refine AW.condS (by simp -implicitDefEqProofs only[go_sem,seval,↓reduceIte];rfl) (fun h22=>?_) (fun h22=>?_)
  ·cases h22
  clear h22
  refine AW.seq_k fun K hK=>AW.region (by kernel_rfl) ?_
  simp -implicitDefEqProofs only[go_sem,seval,↓reduceIte,encXN_K]
  refine hK _ ?_
  clear hK K
  refine AW.condS (by simp -implicitDefEqProofs only[go_sem,seval,↓reduceIte];rfl) (fun h22=>?_) (fun h22=>?_)
  rotate_left
  ·cases h22
  refine AW.regionT ⟨fun i=>if i=4 then encSl .new 1 V.str (.mk false (a.W 0)) else if i=9 then encSl .new 1 V.str (.mk false (b'.W 0)) else encSl .new 1 V.str (.mk false (c'.W 0)),fun i=>if i=4 then .pure else if i=9 then .pure else if i=14 then .pure else if i=17 then .any else .lend⟩ (by kernel_rfl) hG (by kernel_rfl) (by kernel_rfl) ?_
  simp -implicitDefEqProofs only[go_sem,seval,↓reduceIte,encXN_K]
  intro g41
  refine ⟨hwa,fun g46=>⟨hwb,fun g51=>⟨hwc,fun g56 g57=>?_⟩⟩⟩
  refine cat_call hG (fun o=>o==41 || o==46 || o==51 || o==56 || o==57) [[wIf],a.W 0,[wThen],b'.W 0,[wElse],c'.W 0,[wEndif]] (by simp) (by simp;omega) (by simp) (Fz.rowSS (cs:=[.msl 41 g41 0 1 1,encSl .new 1 V.str (.mk false (a.W 0)),.msl 46 g46 0 1 1,encSl .new 1 V.str (.mk false (b'.W 0)),.msl 51 g51 0 1 1,encSl .new 1 V.str (.mk false (c'.W 0)),.msl 56 g56 0 1 1]) [[wIf],a.W 0,[wThen],b'.W 0,[wElse],c'.W 0,[wEndif]] rfl (by simp -implicitDefEqProofs only[go_sem,seval,↓reduceIte];try rfl) rfl ⟨Fz.one rfl (by simp -implicitDefEqProofs only[go_sem,seval,↓reduceIte];try rfl),Fz.same _,Fz.one rfl (by simp -implicitDefEqProofs only[go_sem,seval,↓reduceIte];try rfl),Fz.same _,Fz.one rfl (by simp -implicitDefEqProofs only[go_sem,seval,↓reduceIte];try rfl),Fz.same _,Fz.one rfl (by simp -implicitDefEqProofs only[go_sem,seval,↓reduceIte];try rfl),trivial⟩) ?_
  rw [hfl]
  simp -implicitDefEqProofs only[go_sem,seval,↓reduceIte]
  exact hK1 _ () trivial (Weak.st (by simp -implicitDefEqProofs only[go_sem,seval,↓reduceIte];try rfl) (by simp -implicitDefEqProofs only[go_sem,seval,↓reduceIte]))
end Go.Hs
end

section
namespace Go.Hs
open Go.Proofs
set_option maxRecDepth 10000
def chars (l:List Nat):List UInt8:=(l.map fun d=>UInt8.ofNat (48+d)).reverse
theorem decDigits_dg (u:Nat) (h:0<u):Lib.decDigits u=chars (dg u):=by
 induction u using Nat.strongRecOn with
 | _ u ih =>
  rw [Lib.decDigits,dg_pos h]
  by_cases h1:u<10
  ·rw [dif_pos h1,show u / 10=0 by omega,dg_zero,Nat.mod_eq_of_lt h1]
   rfl
  ·rw [dif_neg h1,ih (u / 10) (by omega) (by omega)]
   simp [chars]
theorem putR_dg (n:Int):putR n=if n=0 then [48] else if n<0 then 45::chars (dg n.natAbs) else chars (dg n.natAbs):=by
 unfold putR Lib.itoa
 by_cases h0:n=0
 ·subst h0
  simp
  rw [Lib.decDigits]
  simp
 ·rw [if_neg h0]
  by_cases h1:n<0
  ·rw [if_pos h1,if_pos h1,decDigits_dg _ (by omega)]
  ·rw [if_neg h1,if_neg h1,show n.toNat=n.natAbs by omega,decDigits_dg _ (by omega)]
end Go.Hs
end

section
namespace Go.Hs
open Go.Proofs
set_option maxRecDepth 10000
theorem joinW_cons (w:List UInt8) {b:List (List UInt8)} (h:b≠[]):joinW (w::b)=w++32::joinW b:=by
 cases b with
 | nil=>exact absurd rfl h
 | cons=>rfl
theorem joinW_app:∀ {a b:List (List UInt8)},a≠[]→b≠[]→joinW (a++b)=joinW a++32::joinW b
 | [],_,h,_=>absurd rfl h
 | [w],b,_,hb=>by rw [List.singleton_append,joinW_cons w hb];rfl
 | w::v::r,b,_,hb=>by
  rw [List.cons_append,joinW_cons w (by simp),joinW_app (a:=v::r) (by simp) hb,joinW_cons w (by simp)]
  simp
theorem W_ne (x:X) (k:Int):x.W k≠[]:=by
 cases x with
 | leaf=>simp [X.W]
 | un=>rw [X.W];unfold parW;split<;>simp
 | bin=>rw [X.W];unfold parW;split<;>simp
 | ite=>simp [X.W]
end Go.Hs
end

section
namespace Go.Hs
open Go.Proofs
set_option maxRecDepth 10000
theorem join_lib (ws:List (List UInt8)):Lib.join ws [32]=joinW ws:=by
 have:∀ ws:List (List UInt8),[32].intercalate ws=joinW ws:=by
  intro ws
  induction ws with
  | nil=>rfl
  | cons w r ih =>
   cases r with
   | nil=>simp [joinW,List.intercalate,List.intersperse]
   | cons v r =>
    rw [joinW_cons _ (by simp),← ih]
    simp [List.intercalate,List.intersperse]
 exact this ws
theorem join_spec (G:Nat→V) (c:Col) (ws:List (List UInt8)) (hne:ws≠[]) (hl:ws.length<1000000) (hj:(joinW ws).length<1000000) :
  Spec Tryz.prog G 46 [encSl c 1 V.str (.mk false ws),.str [32]] hNone (fun v _=>v = .str (joinW ws)):=by
 refine Spec.of_calls fun X cargs _ _ hA=>?_
 obtain ⟨x,y,rfl,hx,hy⟩:=hA.two
 obtain ⟨p',rfl,hp⟩:=hy.str_inv
 have hfl:=flat_strW ws
 generalize hv:encSl c 1 V.str (.mk false ws)=v at hx
 have hv:v = .slice c false 1 (ws.map V.str):=hv.symm
 subst hv
 generalize hm:ws.map V.str=ls at hx hfl
 cases hx with
 | slice0=>cases ws with
  | nil=>exact absurd rfl hne
  | cons=>cases hm
 | slice _ _ _ _ b off cap f hcap hclip hE hc hr =>
  have hln:ls.length=ws.length:=by rw [← hm,List.length_map]
  have hfn:(flat ls).length=ws.length:=by rw [hfl,hln]
  have hget:∀ j (h:j<ws.length),X.w.cell? ⟨b,off+j,none⟩=some (.string ⟨ws[j].toArray⟩):=by
   intro j h
   have h1:=(hc j (by omega)).2.2.1
   have h2:=hr j (by omega)
   have e:(flat ls)[j]'(by omega) = .str ws[j]:=by
    have:(flat ls)[j]? = some (.str ws[j]):=by rw [hfl,← hm,List.getElem?_map,List.getElem?_eq_getElem h];rfl
    rw [List.getElem?_eq_getElem (by omega)] at this
    exact Option.some.inj this
   rw [e] at h2
   obtain ⟨s',h3,h4⟩:=h2.str_inv
   have h5:s'=⟨ws[j].toArray⟩:=by
    obtain ⟨⟨l⟩⟩:=s'
    simp at h4
    rw [h4]
   rw [h3,h5] at h1
   exact h1
  have hbk:b<X.w.heap.size:=by
   have h0:=hget 0 (by cases ws with | nil=>exact absurd rfl hne | cons=>simp)
   rw [← Nat.not_le]
   intro hle
   have:X.w.heap[b]? = none:=by rw [Array.getElem?_eq_none_iff];exact hle
   simp [World.cell?,this] at h0
  have hxs:(ws.map fun w=>(⟨w.toArray⟩:ByteArray)).map (·.data.toList)=ws:=by rw [List.map_map];exact (List.map_congr_left fun w _=>rfl).trans (List.map_id _)
  have hjl:Lib.join ((ws.map fun w=>(⟨w.toArray⟩:ByteArray)).map (·.data.toList)) p'.data.toList=joinW ws:=by rw [hxs,hp,join_lib]
  have hkit:=Any.strings_Join Tryz.laysJN Tryz.extraJN b off cap (ws.map fun w=>(⟨w.toArray⟩:ByteArray)) p' X.w (fun j x hj=>by
   rw [List.getElem?_map] at hj
   cases hw:ws[j]? with
   | none=>rw [hw] at hj;cases hj
   | some w =>
    rw [hw] at hj
    obtain ⟨q1,q2⟩:=List.getElem?_eq_some_iff.1 hw
    cases hj
    rw [hget j q1,q2]) hbk (by rw [List.length_map];omega) (by rw [List.length_map,← hln];exact hcap) (by rw [hjl];omega)
  rw [List.length_map,← hln] at hkit
  refine (show Calls Tryz.prog 46 _ _ _ from hkit).mono ?_
  rintro e w' ⟨rfl,hB⟩
  exact ⟨_,_,rfl,hB,.str _ _ rfl,by rw [hjl]⟩
def PrintS (l:List XN) (r:List UInt8 × Int):Prop:=(checkP l≠0→r=([],checkP l))∧∀ x:X,x.ok=true→l=x.row 0→checkP l=0→r=(joinW (x.W 0),0)
def encPr (r:List UInt8 × Int):V := .tuple [.str r.1,.int .i64 r.2]
theorem checkP_ok {l:List XN} (h:checkP l=0):∃ x:X,x.ok=true∧l=x.row 0∧x.depth≤64:=by
 have hd:depthP l≠0:=by
  intro hd
  rw [checkP,if_pos hd] at h
  cases h
 obtain ⟨x,hx,rfl⟩:=depth_none hd
 refine ⟨x,hx,rfl,?_⟩
 unfold checkP at h
 rw [if_neg hd] at h
 split at h
 ·cases h
 ·rename_i q
  rw [depth_row hx] at q
  omega
theorem xPrint_spec (G:Nat→V) (hE:GExp G) (c:Col) (s:Sl XN) (hs:s.l.length<1000) (hnm:∀ n∈s.l,n.name.length<100000) (hnum:∀ n∈s.l,n.num≤9223372036854775807) :
  Spec Tryz.prog G 45 [.agg [encSl c 6 encXN s]] hNone (fun v _=>∃ r,v=encPr r∧PrintS s.l r):=by
 have hG:=hE.ok
 refine Spec.of_code' 0 17 [.tmp 2,.tmp 3] Tryz.func45 rfl rfl rfl rfl fun X0=>?_
 refine AW.seq_k fun K hK=>AW.region (by kernel_rfl) ?_
 simp -implicitDefEqProofs only[go_sem,seval,↓reduceIte]
 intro g1
 refine hK _ ?_
 clear hK K
 refine AW.seq_k fun K1 hK1=>?_
 refine AW.seq_k fun K hK=>AW.region (by kernel_rfl) ?_
 simp -implicitDefEqProofs only[go_sem,seval,↓reduceIte]
 refine CallA.pure hG (by kernel_rfl) ?_
 simp -implicitDefEqProofs only[go_sem,seval,↓reduceIte,recol_xns]
 refine (xCheck_spec G hE _ s (by omega) hnm).mono ?_
 rintro _ _ rfl
 simp -implicitDefEqProofs only[go_sem,seval,↓reduceIte]
 refine hK _ ?_
 clear hK K
 refine AW.seq_k fun K hK=>AW.region (by kernel_rfl) ?_
 simp -implicitDefEqProofs only[go_sem,seval,↓reduceIte]
 refine hK _ ?_
 clear hK K
 by_cases hc:checkP s.l=0
 rotate_left
 ·have e1:(checkP s.l != 0)=true:=by simpa using hc
  rw [e1]
  refine AW.condS (by simp -implicitDefEqProofs only[go_sem,seval,↓reduceIte];rfl) (fun h8=>?_) (fun h8=>?_)
  rotate_left
  ·cases h8
  refine AW.seq_k fun K hK=>AW.region (by kernel_rfl) ?_
  simp -implicitDefEqProofs only[go_sem,seval,↓reduceIte]
  refine hK _ ?_
  clear hK K
  refine AW.ret ?_
  simp -implicitDefEqProofs only[go_sem,seval,↓reduceIte]
  refine endK_some ?_
  exact ⟨_,rfl,fun _=>rfl,fun x _ _ h=>absurd h hc⟩
 have e1:(checkP s.l != 0)=false:=by simpa using hc
 rw [e1]
 refine AW.condS (by simp -implicitDefEqProofs only[go_sem,seval,↓reduceIte];rfl) (fun h8=>?_) (fun h8=>?_)
 ·cases h8
 refine AW.skip ?_
 simp -implicitDefEqProofs only[go_sem,seval,↓reduceIte]
 refine hK1 _ ?_
 obtain ⟨x,hx,hl,hd⟩:=checkP_ok hc
 have hfit:x.fit:=fit_of x 0 (by rw [← hl];exact hnum)
 have hsz:s.l.length=x.size:=by rw [hl,X.row_len]
 have hat:At s.l x 0:=by rw [hl];exact At.whole x
 have hxp:=x.size_pos
 have hw:IntKind.i64.wrap ((s.l.length:Int)-1)=((0:Nat):Int)+x.size-1:=by rw [w64 (by omega) (by omega)];omega
 have hpl:=print_len hx hfit
 have hcn:=W_cnt x 0
 refine AW.seq_k fun K hK=>AW.region (by kernel_rfl) ?_
 simp -implicitDefEqProofs only[go_sem,seval,↓reduceIte,hw]
 refine CallA.pure hG (by kernel_rfl) ?_
 simp -implicitDefEqProofs only[go_sem,seval,↓reduceIte,recol_xns]
 refine (xWords_spec G hE s hs x.size x 0 _ 0 (Nat.le_refl _) hat hx hfit (by decide) (by decide)).mono ?_
 rintro _ _ rfl
 have hrb:(encSl .new 1 V.str (.mk false (x.W 0))).recol Col.bk=encSl .new 1 V.str (.mk false (x.W 0)):=recol_enc _ _ _ (fun _=>rfl) _
 simp -implicitDefEqProofs only[go_sem,seval,↓reduceIte,hrb]
 refine CallA.pure hG (by kernel_rfl) ?_
 rw [List.map_cons,List.map_cons,List.map_nil,show (encSl .new 1 V.str (.mk false (x.W 0))).recol Col.ent=encSl (Col.ent .new) 1 V.str (.mk false (x.W 0)) from recol_enc _ _ _ (fun _=>rfl) _]
 refine (join_spec G _ (x.W 0) (W_ne x 0) (by omega) (by omega)).mono ?_
 rintro _ _ rfl
 simp -implicitDefEqProofs only[go_sem,seval,↓reduceIte]
 refine hK _ ?_
 clear hK K
 refine AW.ret ?_
 simp -implicitDefEqProofs only[go_sem,seval,↓reduceIte]
 refine endK_some ?_
 exact ⟨(joinW (x.W 0),0),rfl,fun h=>absurd hc h,fun y hy hly _=>by rw [row_inj y x 0 hy hx (by rw [← hly,← hl])]⟩
end Go.Hs
end
