/- Part 42 of the proof of a statement of seat YtnjcehngoajnnaaGreatDoor: HsExprBal HsExprTree HsExprRef HsExprSub HsTypLaw HsTypLaw2 HsTypLaw3 HsEvLaw HsGEvB HsGEvW HsGEvX HsGEvY HsGEvZ HsGExpr2 HsGExpr3 HsGExpr4 HsGExprDep. -/
import Derived.Test.YtnjcehngoajnnaaGreatDoorPart39
import Derived.Test.YtnjcehngoajnnaaGreatDoorPart33
import Derived.Test.YtnjcehngoajnnaaGreatDoorPart41
set_option linter.unusedSimpArgs false
set_option linter.unusedVariables false
section
namespace Go.Hs
structure Bal (l:List Tk) (k:Nat) (r r':RS):Prop where
 up:r.i≤r'.i
 inn:r.i≤l.length→r'.i≤l.length
 cnt:r'.nodes.length+r.i+k≤r.nodes.length+r'.i
theorem Bal.refl (l:List Tk) (r:RS):Bal l 0 r r:=⟨Nat.le_refl _,id,Nat.le_refl _⟩
theorem Bal.trans {l:List Tk} {k k':Nat} {r r' r'':RS} (h:Bal l k r r') (h':Bal l k' r' r''):Bal l (k+k') r r'' :=
 ⟨Nat.le_trans h.up h'.up,fun x=>h'.inn (h.inn x),by have:=h.cnt;have:=h'.cnt;omega⟩
theorem Bal.weak {l:List Tk} {k k':Nat} {r r':RS} (h:Bal l k r r') (hk:k'≤k):Bal l k' r r':=⟨h.up,h.inn,by have:=h.cnt;omega⟩
theorem Bal.adv {l:List Tk} {r:RS} (h:r.i<l.length):Bal l 1 r r.adv:=⟨Nat.le_succ _,fun _=>h,by show r.nodes.length+r.i+1≤r.nodes.length+(r.i+1);omega⟩
theorem Bal.err (l:List Tk) (r:RS) (e:Int):Bal l 0 r (r.err e):=⟨Nat.le_refl _,id,Nat.le_refl _⟩
theorem Bal.put {l:List Tk} {k:Nat} {r r':RS} (h:Bal l (k+1) r r') (n:XN):Bal l k r (r'.put n) :=
 ⟨h.up,h.inn,by have:=h.cnt;show (r'.nodes++[n]).length+r.i+k≤_;rw [List.length_append,List.length_singleton];show _≤r.nodes.length+r'.i;omega⟩
def Bals (l:List Tk) (inner:Inner):Prop:=∀ n r,Bal l 0 r (inner n r).2
theorem Bal.then {l:List Tk} {r:RS} {x:Bool × RS} {k:RS→Bool × RS} (h:Bal l 0 r x.2) (hk:x.1=true→Bal l 0 r (k x.2).2):Bal l 0 r (andThen x k).2:=by
 obtain ⟨b,r1⟩:=x
 cases b
 ·exact h
 ·exact hk rfl
theorem eatP_bal (l:List Tk) (w:List UInt8) (r:RS):Bal l 0 r (eatP l w r).2∧((eatP l w r).1=true→Bal l 1 r (eatP l w r).2):=by
 unfold eatP
 split
 ·exact ⟨Bal.err _ _ _,fun h=>by cases h⟩
 ·rename_i h
  have hk:(nextP l r.i).kind≠0:=fun hh=>h (.inl hh)
  have:=Bal.adv (nextP_lt hk)
  exact ⟨this.weak (Nat.zero_le _),fun _=>this⟩
theorem leafP_bal {l:List Tk} {r:RS} (h:(nextP l r.i).kind≠0) (op num:Int) (name:List UInt8):Bal l 0 r (leafP r op num name).2:=(Bal.adv (nextP_lt h)).put _
theorem numberP_bal {l:List Tk} {r:RS} (h:(nextP l r.i).kind≠0) (t:List UInt8):Bal l 0 r (numberP r t).2:=by
 unfold numberP
 split
 ·exact Bal.err _ _ _
 ·exact leafP_bal h _ _ _
theorem branchesP_bal {l:List Tk} {inner:Inner} (h:Bals l inner) (r:RS):Bal l 0 r (branchesP l inner r).2:=by
 unfold branchesP
 have e1:=eatP_bal l wIf r
 refine Bal.then e1.1 fun h1=>?_
 have b1:=e1.2 h1
 generalize (eatP l wIf r).2=r1 at b1 ⊢
 have b2:=b1.trans (h 1 r1)
 refine Bal.then (b2.weak (Nat.zero_le _)) fun _=>?_
 generalize (inner 1 r1).2=a at b2 ⊢
 have e2:=eatP_bal l wThen a
 refine Bal.then ((b2.trans e2.1).weak (Nat.zero_le _)) fun h2=>?_
 have b3:=b2.trans (e2.2 h2)
 generalize (eatP l wThen a).2=r2 at b3 ⊢
 have b4:=b3.trans (h 1 r2)
 refine Bal.then (b4.weak (Nat.zero_le _)) fun _=>?_
 generalize (inner 1 r2).2=b at b4 ⊢
 have e3:=eatP_bal l wElse b
 refine Bal.then ((b4.trans e3.1).weak (Nat.zero_le _)) fun h3=>?_
 have b5:=b4.trans (e3.2 h3)
 generalize (eatP l wElse b).2=r3 at b5 ⊢
 have b6:=b5.trans (h 1 r3)
 refine Bal.then (b6.weak (Nat.zero_le _)) fun _=>?_
 generalize (inner 1 r3).2=c at b6 ⊢
 have e4:=eatP_bal l wEndif c
 refine Bal.then ((b6.trans e4.1).weak (Nat.zero_le _)) fun h4=>?_
 have b7:=b6.trans (e4.2 h4)
 exact (b7.put _).weak (Nat.zero_le _)
theorem aheadP_bal {l:List Tk} {inner:Inner} (h:Bals l inner) (r:RS):Bal l 0 r (aheadP l inner r).2:=by
 unfold aheadP
 split
 ·rename_i hk;exact numberP_bal (by rw [hk];decide) _
 split
 ·rename_i hk;exact leafP_bal (by rw [hk];decide) _ _ _
 split
 ·exact Bal.err _ _ _
 rename_i h0
 have ba:=Bal.adv (nextP_lt h0)
 split
 ·have b1:=ba.trans (h 9 r.adv)
  exact Bal.then (b1.weak (Nat.zero_le _)) fun _=>b1.put _
 split
 ·have b1:=ba.trans (h 1 r.adv)
  exact Bal.then (b1.weak (Nat.zero_le _)) fun _=>(b1.trans (eatP_bal l [41] _).1).weak (Nat.zero_le _)
 split
 ·exact branchesP_bal h r
 split
 ·exact leafP_bal h0 _ _ _
 ·exact Bal.err _ _ _
theorem loopP_bal {l:List Tk} {inner:Inner} (h:Bals l inner) (n:Int):∀ (m:Nat) (r:RS),Bal l 0 r (loopP l inner n m r).2
 | 0,r=>Bal.refl l r
 | m+1,r=>by
  rw [loopP]
  cases ho:opAt l r.i with
  | none=>exact Bal.refl l r
  | some op =>
   simp only
   split
   ·exact Bal.refl l r
   ·have b1:=(Bal.adv (opAt_lt ho)).trans (h (lvl op+1) r.adv)
    exact Bal.then (b1.weak (Nat.zero_le _)) fun _=>((b1.put _).trans (loopP_bal h n m _)).weak (Nat.zero_le _)
theorem climbP_bal (l:List Tk):∀ f,Bals l (climbP l f)
 | 0=>fun _ r=>Bal.refl l r
 | f+1=>fun n r=>by
  rw [climbP]
  have b1:=aheadP_bal (climbP_bal l f) r
  exact Bal.then b1 fun _=>(b1.trans (loopP_bal (climbP_bal l f) n _ _)).weak (Nat.zero_le _)
def RSok (l:List Tk) (r:RS):Prop:=r.i≤l.length∧r.nodes.length≤r.i
theorem Bal.ok {l:List Tk} {k:Nat} {r r':RS} (h:Bal l k r r') (hr:RSok l r):RSok l r':=⟨h.inn hr.1,by have:=h.cnt;have:=h.up;have:=hr.2;omega⟩
end Go.Hs
end

section
namespace Go.Hs
inductive X where
 | leaf (op num:Int) (name:List UInt8)
 | un (op:Int) (a:X)
 | bin (op:Int) (a b:X)
 | ite (a b c:X)
 deriving DecidableEq,Inhabited
namespace X
def size:X→Nat
 | leaf .. => 1
 | un _ a=>a.size+1
 | bin _ a b=>a.size+b.size+1
 | ite a b c=>a.size+b.size+c.size+1
def depth:X→Nat
 | leaf .. => 1
 | un _ a=>a.depth+1
 | bin _ a b=>max a.depth b.depth+1
 | ite a b c=>max (max a.depth b.depth) c.depth+1
end X
def wellP (n:XN):Bool :=
 if n.op<1∨n.op > 22∨n.num<0 then false else if n.op=2 then n.num==0 && isP n.name==2 else n.name==[] && (n.op==1 || n.num==0)
namespace X
def ok:X→Bool
 | leaf op num name=>wellP ⟨op,num,name,-1,-1,-1⟩ && decide (op≤4)
 | un op a=>decide (5≤op) && decide (op≤6) && a.ok
 | bin op a b=>decide (7≤op) && decide (op≤21) && a.ok && b.ok
 | ite a b c=>a.ok && b.ok && c.ok
def row:X→Int→List XN
 | leaf op num name,_=>[⟨op,num,name,-1,-1,-1⟩]
 | un op a,k=>a.row k++[⟨op,0,[],k+a.size-1,-1,-1⟩]
 | bin op a b,k=>a.row k++b.row (k+a.size)++[⟨op,0,[],k+a.size-1,k+a.size+b.size-1,-1⟩]
 | ite a b c,k=>a.row k++b.row (k+a.size)++c.row (k+a.size+b.size)++[⟨22,0,[],k+a.size-1,k+a.size+b.size-1,k+a.size+b.size+c.size-1⟩]
theorem row_len:∀ (x:X) (k:Int),(x.row k).length=x.size
 | leaf ..,_=>rfl
 | un _ a,k=>by simp [row,size,row_len a]
 | bin _ a b,k=>by simp [row,size,row_len a,row_len b];omega
 | ite a b c,k=>by simp [row,size,row_len a,row_len b,row_len c];omega
theorem size_pos:∀ x:X,0<x.size
 | leaf .. => by simp [size]
 | un .. => by simp [size]
 | bin .. => by simp [size]
 | ite .. => by simp [size]
def top:X→Int→XN
 | leaf op num name,_=>⟨op,num,name,-1,-1,-1⟩
 | un op a,k=>⟨op,0,[],k+a.size-1,-1,-1⟩
 | bin op a b,k=>⟨op,0,[],k+a.size-1,k+a.size+b.size-1,-1⟩
 | ite a b c,k=>⟨22,0,[],k+a.size-1,k+a.size+b.size-1,k+a.size+b.size+c.size-1⟩
end X
theorem well_op {op:Int} (h:3≤op∧op≤22) (a b c:Int):wellP ⟨op,0,[],a,b,c⟩=true:=by
 unfold wellP
 rw [if_neg (by simp;omega),if_neg (by simp;omega)]
 simp
theorem well_num {n:XN} (h:wellP n=true) (h3:n.op≠1):n.num=0∧(n.op≠2→n.name=[])∧1≤n.op∧n.op≤22:=by
 unfold wellP at h
 split at h
 ·cases h
 ·rename_i h0
  simp only [not_or,Int.not_lt] at h0
  split at h
  ·rename_i h2
   simp only [Bool.and_eq_true,beq_iff_eq] at h
   exact ⟨h.1,fun hh=>absurd h2 hh,by omega,by omega⟩
  ·simp only [Bool.and_eq_true,beq_iff_eq,Bool.or_eq_true] at h
   exact ⟨h.2.resolve_left h3,fun _=>h.1,by omega,by omega⟩
theorem well_range {n:XN} (h:wellP n=true):1≤n.op∧n.op≤22:=by
 unfold wellP at h
 split at h
 ·cases h
 ·rename_i h0
  simp only [not_or,Int.not_lt] at h0
  omega
def partsOf (op:Int):Nat:=if op≤4 then 0 else if op≤6 then 1 else if op≤21 then 2 else 3
def places3 (l:List (Int × Int)):List Int:=[(l.map (·.1)).getD 0 (-1),(l.map (·.1)).getD 1 (-1),(l.map (·.1)).getD 2 (-1)]
def deepest (l:List (Int × Int)):Int:=l.foldl (fun d p=>max d p.2) 0
def depStep (i:Int) (n:XN) (opn:List (Int × Int)):Option (List (Int × Int)) :=
 if wellP n=false then none else if opn.length<partsOf n.op then none
 else if places3 (opn.drop (opn.length-partsOf n.op))≠[n.a,n.b,n.c] then none
 else some (opn.take (opn.length-partsOf n.op)++[(i,deepest (opn.drop (opn.length-partsOf n.op))+1)])
def depGo:List XN→Int→List (Int × Int)→Option (List (Int × Int))
 | [],_,opn=>some opn
 | n::r,i,opn=>match depStep i n opn with
  | some o=>depGo r (i+1) o
  | none=>none
def depthP (l:List XN):Int:=match depGo l 0 [] with
 | some [x]=>x.2
 | _=>0
def rowF:Int→List X→List XN
 | _,[]=>[]
 | k,x::r=>x.row k++rowF (k+x.size) r
def sizeF (F:List X):Nat:=(F.map X.size).sum
def pieces:Int→List X→List (Int × Int)
 | _,[]=>[]
 | k,x::r=>(k+x.size-1,(x.depth:Int))::pieces (k+x.size) r
theorem sizeF_cons (x:X) (r:List X):sizeF (x::r)=x.size+sizeF r:=by simp [sizeF]
theorem sizeF_app (a b:List X):sizeF (a++b)=sizeF a+sizeF b:=by simp [sizeF]
theorem rowF_app:∀ (a b:List X) (k:Int),rowF k (a++b)=rowF k a++rowF (k+sizeF a) b
 | [],b,k=>by simp [rowF,sizeF]
 | x::a,b,k=>by
  rw [List.cons_append,rowF,rowF,rowF_app a b,List.append_assoc,sizeF_cons]
  congr 3;omega
theorem pieces_app:∀ (a b:List X) (k:Int),pieces k (a++b)=pieces k a++pieces (k+sizeF a) b
 | [],b,k=>by simp [pieces,sizeF]
 | x::a,b,k=>by
  rw [List.cons_append,pieces,pieces,pieces_app a b,List.cons_append,sizeF_cons]
  congr 3;omega
theorem pieces_len:∀ (F:List X) (k:Int),(pieces k F).length=F.length
 | [],_=>rfl
 | x::r,k=>by simp [pieces,pieces_len r]
theorem rowF_len:∀ (F:List X) (k:Int),(rowF k F).length=sizeF F
 | [],_=>rfl
 | x::r,k=>by rw [rowF,List.length_append,X.row_len,rowF_len r,sizeF_cons]
theorem split_last {F:List X} {p:Nat} (h:p≤F.length):∃ A B,F=A++B∧B.length=p:=⟨F.take (F.length-p),F.drop (F.length-p),(List.take_append_drop _ _).symm,by simp;omega⟩
theorem depStep_tree {F:List X} {n:XN} {o:List (Int × Int)} (hF:∀ x∈F,x.ok=true) (h:depStep (sizeF F) n (pieces 0 F)=some o) :
  ∃ F',(∀ x∈F',x.ok=true)∧rowF 0 F'=rowF 0 F++[n]∧o=pieces 0 F':=by
 unfold depStep at h
 rw [pieces_len] at h
 split at h
 ·cases h
 rename_i hw
 have hw:wellP n=true:=by simpa using hw
 have hrg:=well_range hw
 split at h
 ·cases h
 rename_i hlen
 obtain ⟨A,B,rfl,hB⟩:=split_last (F:=F) (p:=partsOf n.op) (by omega)
 have hAl:(A++B).length-partsOf n.op=A.length:=by rw [List.length_append,hB];omega
 have hdrop:(pieces 0 (A++B)).drop A.length=pieces (sizeF A) B:=by
  rw [pieces_app,List.drop_left' (pieces_len _ _),Int.zero_add]
 have htake:(pieces 0 (A++B)).take A.length=pieces 0 A:=by
  rw [pieces_app,List.take_left' (pieces_len _ _)]
 rw [hAl,hdrop,htake] at h
 split at h
 ·cases h
 rename_i hpl
 simp only [ne_eq,Decidable.not_not] at hpl
 simp only [Option.some.injEq] at h
 have hokA:∀ x∈A,x.ok=true:=fun x hx=>hF x (by simp [hx])
 have fin:∀ x:X,x.ok=true→x.row (sizeF A)=rowF (sizeF A) B++[n]→(x.depth:Int)=deepest (pieces (sizeF A) B)+1 →
   ∃ F',(∀ x∈F',x.ok=true)∧rowF 0 F'=rowF 0 (A++B)++[n]∧o=pieces 0 F':=by
  intro x hx hr hd
  refine ⟨A++[x],fun y hy=>?_,?_,?_⟩
  ·rcases List.mem_append.1 hy with h1 | h1
   ·exact hokA y h1
   ·rw [List.mem_singleton.1 h1];exact hx
  ·rw [rowF_app,rowF_app,List.append_assoc,Int.zero_add,← hr]
   simp [rowF]
  ·rw [← h,pieces_app,pieces,pieces,hd]
   have h1:(x.row (sizeF A)).length=x.size:=X.row_len _ _
   rw [hr,List.length_append,rowF_len,List.length_singleton] at h1
   rw [sizeF_app]
   congr 4
   omega
 obtain ⟨op,num,name,a,b,c⟩:=n
 simp only at hB hpl hrg
 unfold partsOf at hB
 split at hB
 ·rename_i h4
  obtain rfl:B=[]:=List.length_eq_zero_iff.1 hB
  simp only [places3,pieces,List.map_nil,List.getD_nil,List.cons.injEq,and_true] at hpl
  obtain ⟨rfl,rfl,rfl⟩:=hpl
  exact fin (.leaf op num name) (by unfold X.ok;rw [hw];simp;omega) rfl rfl
 rename_i h4
 have hn:=well_num hw (show op≠1 by omega)
 simp only at hn
 obtain ⟨rfl,hnm,_⟩:=hn
 obtain rfl:=hnm (by omega)
 split at hB
 ·rename_i h6
  obtain ⟨x,rfl⟩:=List.length_eq_one_iff.1 hB
  ·simp only [places3,pieces,List.map_cons,List.map_nil,List.getD_cons_zero,List.getD_cons_succ,List.getD_nil,List.cons.injEq,and_true] at hpl
   obtain ⟨rfl,rfl,rfl⟩:=hpl
   refine fin (.un op x) (by unfold X.ok;rw [hF x (by simp)];simp;omega) ?_ ?_
   ·simp [X.row,rowF]
   ·simp [X.depth,pieces,deepest]
 rename_i h6
 split at hB
 ·rename_i h21
  obtain ⟨x,y,rfl⟩:∃ x y,B=[x,y]:=by
   match B,hB with
   | [x,y],_=>exact ⟨x,y,rfl⟩
  ·simp only [places3,pieces,List.map_cons,List.map_nil,List.getD_cons_zero,List.getD_cons_succ,List.getD_nil,List.cons.injEq,and_true] at hpl
   obtain ⟨rfl,rfl,rfl⟩:=hpl
   refine fin (.bin op x y) (by unfold X.ok;rw [hF x (by simp),hF y (by simp)];simp;omega) ?_ ?_
   ·simp [X.row,rowF]
   ·simp [X.depth,pieces,deepest];omega
 ·rename_i h21
  obtain ⟨x,y,z,rfl⟩:∃ x y z,B=[x,y,z]:=by
   match B,hB with
   | [x,y,z],_=>exact ⟨x,y,z,rfl⟩
  ·simp only [places3,pieces,List.map_cons,List.map_nil,List.getD_cons_zero,List.getD_cons_succ,List.cons.injEq,and_true] at hpl
   obtain ⟨rfl,rfl,rfl⟩:=hpl
   obtain rfl:op=22:=by omega
   refine fin (.ite x y z) (by unfold X.ok;rw [hF x (by simp),hF y (by simp),hF z (by simp)];rfl) ?_ ?_
   ·simp [X.row,rowF]
   ·simp [X.depth,pieces,deepest];omega
theorem depGo_tree:∀ (l:List XN) (F:List X) (opn:List (Int × Int)),(∀ x∈F,x.ok=true)→depGo l (sizeF F) (pieces 0 F)=some opn →
  ∃ F',(∀ x∈F',x.ok=true)∧rowF 0 F'=rowF 0 F++l∧opn=pieces 0 F'
 | [],F,opn,hF,h=>⟨F,hF,by simp,by simpa [depGo] using h.symm⟩
 | n::r,F,opn,hF,h=>by
  rw [depGo] at h
  cases hs:depStep (sizeF F) n (pieces 0 F) with
  | none=>rw [hs] at h;cases h
  | some o =>
   rw [hs] at h
   obtain ⟨F1,h1,h2,rfl⟩:=depStep_tree hF hs
   have hsz:(sizeF F:Int)+1=sizeF F1:=by
    have:=congrArg List.length h2
    rw [List.length_append,rowF_len,rowF_len,List.length_singleton] at this
    omega
   simp only at h
   rw [hsz] at h
   obtain ⟨F',h3,h4,h5⟩:=depGo_tree r F1 opn h1 h
   exact ⟨F',h3,by rw [h4,h2];simp,h5⟩
theorem depGo_app:∀ (l m:List XN) (i:Int) (opn:List (Int × Int)),depGo (l++m) i opn=(depGo l i opn).bind fun o=>depGo m (i+l.length) o
 | [],m,i,opn=>by simp [depGo]
 | n::r,m,i,opn=>by
  rw [List.cons_append,depGo,depGo]
  cases depStep i n opn with
  | none=>rfl
  | some o =>
   simp only
   rw [depGo_app r m]
   congr 1;funext o'
   congr 1
   simp only [List.length_cons];omega
theorem depGo_row:∀ (x:X) (k:Int) (opn:List (Int × Int)),x.ok=true→depGo (x.row k) k opn=some (opn++[(k+x.size-1,(x.depth:Int))])
 | .leaf op num name,k,opn,h=>by
  unfold X.ok at h
  simp only [Bool.and_eq_true,decide_eq_true_eq] at h
  simp only [X.row,depGo]
  have hs:depStep k ⟨op,num,name,-1,-1,-1⟩ opn=some (opn++[(k,1)]):=by
   unfold depStep
   rw [if_neg (by rw [h.1];simp)]
   have:partsOf op=0:=by unfold partsOf;rw [if_pos h.2]
   rw [this,if_neg (by omega),Nat.sub_zero,List.drop_length,List.take_length]
   rfl
  rw [hs]
  simp [depGo,X.size,X.depth]
 | .un op a,k,opn,h=>by
  unfold X.ok at h
  simp only [Bool.and_eq_true,decide_eq_true_eq] at h
  rw [X.row,depGo_app,depGo_row a k opn h.2,Option.bind_some,X.row_len,depGo]
  have hp:partsOf op=1:=by unfold partsOf;rw [if_neg (by omega),if_pos (by omega)]
  have hs:depStep (k+a.size) ⟨op,0,[],k+a.size-1,-1,-1⟩ (opn++[(k+a.size-1,(a.depth:Int))])=some (opn++[(k+a.size,(a.depth:Int)+1)]):=by
   unfold depStep
   have hl:(opn++[(k+(a.size:Int)-1,(a.depth:Int))]).length-1=opn.length:=by simp
   rw [if_neg (by rw [well_op (by omega)];simp)]
   simp only [hp]
   rw [if_neg (by simp),hl,List.drop_left,List.take_left,if_neg (by simp [places3])]
   congr 4
   all_goals first | (simp [deepest];done) | (simp [deepest];omega)
  rw [hs]
  simp only [depGo,X.size,X.depth]
  congr 4
  all_goals first | (simp;done) | (simp;omega) | omega
 | .bin op a b,k,opn,h=>by
  unfold X.ok at h
  simp only [Bool.and_eq_true,decide_eq_true_eq] at h
  rw [X.row,depGo_app,depGo_app,depGo_row a k opn h.1.2,Option.bind_some,X.row_len,depGo_row b _ _ h.2,Option.bind_some,depGo]
  have hp:partsOf op=2:=by unfold partsOf;rw [if_neg (by omega),if_neg (by omega),if_pos (by omega)]
  have hlen:((a.row k++b.row (k+a.size)).length:Int)=a.size+b.size:=by rw [List.length_append,X.row_len,X.row_len];omega
  rw [hlen]
  have hs:depStep (k+(a.size+b.size)) ⟨op,0,[],k+a.size-1,k+a.size+b.size-1,-1⟩ (opn++[(k+a.size-1,(a.depth:Int))]++[(k+a.size+b.size-1,(b.depth:Int))])=some (opn++[(k+(a.size+b.size),max (a.depth:Int) b.depth+1)]):=by
   unfold depStep
   have hl:(opn++[(k+(a.size:Int)-1,(a.depth:Int))]++[(k+a.size+b.size-1,(b.depth:Int))]).length-2=opn.length:=by simp
   rw [if_neg (by rw [well_op (by omega)];simp)]
   simp only [hp]
   rw [if_neg (by simp),hl,List.append_assoc,List.drop_left,List.take_left,if_neg (by simp [places3])]
   congr 4
   all_goals first | (simp [deepest];done) | (simp [deepest];omega)
  rw [hs]
  simp only [depGo,X.size,X.depth]
  congr 4
  all_goals first | (simp;done) | (simp;omega) | omega
 | .ite a b c,k,opn,h=>by
  unfold X.ok at h
  simp only [Bool.and_eq_true] at h
  rw [X.row,depGo_app,depGo_app,depGo_app,depGo_row a k opn h.1.1,Option.bind_some,X.row_len,depGo_row b _ _ h.1.2,Option.bind_some]
  have hlen1:k+((a.row k++b.row (k+a.size)).length:Int)=k+a.size+b.size:=by rw [List.length_append,X.row_len,X.row_len];omega
  rw [hlen1,depGo_row c _ _ h.2,Option.bind_some,depGo]
  have hlen:((a.row k++b.row (k+a.size)++c.row (k+a.size+b.size)).length:Int)=a.size+b.size+c.size:=by simp only [List.length_append,X.row_len];omega
  rw [hlen]
  have hs:depStep (k+(a.size+b.size+c.size)) ⟨22,0,[],k+a.size-1,k+a.size+b.size-1,k+a.size+b.size+c.size-1⟩ (opn++[(k+a.size-1,(a.depth:Int))]++[(k+a.size+b.size-1,(b.depth:Int))]++[(k+a.size+b.size+c.size-1,(c.depth:Int))])=some (opn++[(k+(a.size+b.size+c.size),max (max (a.depth:Int) b.depth) c.depth+1)]):=by
   unfold depStep
   have hp:partsOf 22=3:=rfl
   have hl:(opn++[(k+(a.size:Int)-1,(a.depth:Int))]++[(k+a.size+b.size-1,(b.depth:Int))]++[(k+a.size+b.size+c.size-1,(c.depth:Int))]).length-3=opn.length:=by simp
   rw [if_neg (by rw [well_op (by omega)];simp)]
   simp only [hp]
   rw [if_neg (by simp),hl,List.append_assoc,List.append_assoc,List.drop_left,List.take_left,if_neg (by simp [places3])]
   congr 4
   all_goals first | (simp [deepest];done) | (simp [deepest];omega)
  rw [hs]
  simp only [depGo,X.size,X.depth]
  congr 4
  all_goals first | (simp;done) | (simp;omega) | omega
theorem depth_row {x:X} (h:x.ok=true):depthP (x.row 0)=x.depth:=by
 unfold depthP
 rw [depGo_row x 0 [] h]
 rfl
theorem depth_none {l:List XN} (h:depthP l≠0):∃ x:X,x.ok=true∧l=x.row 0:=by
 unfold depthP at h
 split at h
 ·rename_i y hy
  obtain ⟨F,h1,h2,h3⟩:=depGo_tree l [] _ (by simp) (by simpa [sizeF,pieces] using hy)
  match F,h3 with
  | [x],_=>exact ⟨x,h1 x (by simp),by simpa [rowF] using h2.symm⟩
  | [],h3=>simp [pieces] at h3
  | _::_::_,h3=>simp [pieces] at h3
 ·exact absurd rfl h
theorem X.depth_pos:∀ x:X,0<x.depth
 | .leaf .. => by simp [depth]
 | .un .. => by simp [depth]
 | .bin .. => by simp [depth]
 | .ite .. => by simp [depth]
end Go.Hs
end

section
namespace Go.Hs
def begStep (rec:Int→Int) (has:Bool) (place last:Int):Option Int :=
 if has=false then (if place ≠ -1 then none else some last)
 else if place≠last then none else if rec last<0 then none else some (rec last-1)
def nthP (l:List XN) (i:Int):Option XN:=if i<0 then none else l[i.toNat]?
def begR (l:List XN):Nat→Int→Int
 | 0,_ => -1
 | f+1,i=>match nthP l i with
  | none => -1
  | some n=>bif wellP n then
   match begStep (begR l f) (Nat.blt 2 (partsOf n.op)) n.c (i-1) with
   | none => -1
   | some l2=>match begStep (begR l f) (Nat.blt 1 (partsOf n.op)) n.b l2 with
    | none => -1
    | some l1=>match begStep (begR l f) (Nat.blt 0 (partsOf n.op)) n.a l1 with
     | none => -1
     | some l0=>l0+1
   else -1
theorem begR_ge (l:List XN):∀ f i,-1≤begR l f i
 | 0,_=>by simp [begR]
 | f+1,i=>by
  have ih:=begR_ge l f
  have hs:∀ has place last q,begStep (begR l f) has place last=some q→q=last ∨ -1≤q:=by
   intro has place last q h
   unfold begStep at h
   split at h
   ·split at h
    ·cases h
    ·cases h;exact .inl rfl
   ·split at h
    ·cases h
    ·split at h
     ·cases h
     ·cases h;right;omega
  rw [begR]
  cases hn:nthP l i with
  | none=>simp
  | some n =>
   simp only
   have hi:0≤i:=by unfold nthP at hn;split at hn;cases hn;omega
   cases wellP n with
   | false=>simp
   | true =>
    simp only [cond_true]
    cases h2:begStep (begR l f) (Nat.blt 2 (partsOf n.op)) n.c (i-1) with
    | none=>simp
    | some l2 =>
     simp only
     cases h1:begStep (begR l f) (Nat.blt 1 (partsOf n.op)) n.b l2 with
     | none=>simp
     | some l1 =>
      simp only
      cases h0:begStep (begR l f) (Nat.blt 0 (partsOf n.op)) n.a l1 with
      | none=>simp
      | some l0 =>
       simp only
       have a2:=hs _ _ _ _ h2
       have a1:=hs _ _ _ _ h1
       have a0:=hs _ _ _ _ h0
       omega
def At (l:List XN) (x:X) (b:Nat):Prop:=∃ pre post,l=pre++x.row b++post∧pre.length=b
theorem X.row_top:∀ (x:X) (k:Int),∃ body,x.row k=body++[x.top k]∧body.length+1=x.size
 | .leaf op num name,k=>⟨[],rfl,rfl⟩
 | .un op a,k=>⟨a.row k,rfl,by rw [X.row_len];rfl⟩
 | .bin op a b,k=>⟨a.row k++b.row (k+a.size),rfl,by rw [List.length_append,X.row_len,X.row_len];rfl⟩
 | .ite a b c,k=>⟨a.row k++b.row (k+a.size)++c.row (k+a.size+b.size),rfl,by rw [List.length_append,List.length_append,X.row_len,X.row_len,X.row_len];rfl⟩
theorem At.top {l:List XN} {x:X} {b:Nat} (h:At l x b):nthP l ((b:Int)+x.size-1)=some (x.top b):=by
 obtain ⟨pre,post,rfl,hb⟩:=h
 obtain ⟨body,h1,h2⟩:=x.row_top b
 unfold nthP
 rw [if_neg (by omega)]
 have:((b:Int)+x.size-1).toNat=(pre++body).length:=by rw [List.length_append];omega
 rw [this,h1,show pre++(body++[x.top b])++post=(pre++body)++(x.top b::post) by simp]
 rw [List.getElem?_append_right (Nat.le_refl _)];simp
theorem At.get {l:List XN} {x:X} {b:Nat} (h:At l x b):l[b+x.size-1]? = some (x.top b):=by
 have:=h.top
 unfold nthP at this
 have hp:=x.size_pos
 rw [if_neg (by omega)] at this
 rw [← this];congr 1;omega
theorem At.un {l:List XN} {op:Int} {a:X} {b:Nat} (h:At l (.un op a) b):At l a b:=by
 obtain ⟨pre,post,rfl,hb⟩:=h
 exact ⟨pre,_,by simp only [X.row,List.append_assoc];rfl,hb⟩
theorem At.bin {l:List XN} {op:Int} {x y:X} {b:Nat} (h:At l (.bin op x y) b):At l x b∧At l y (b+x.size):=by
 obtain ⟨pre,post,rfl,hb⟩:=h
 refine ⟨⟨pre,y.row (b+x.size)++[X.top (.bin op x y) b]++post,by simp only [X.row,List.append_assoc];rfl,hb⟩,⟨pre++x.row b,[X.top (.bin op x y) b]++post,?_,by rw [List.length_append,X.row_len,hb]⟩⟩
 simp only [X.row,List.append_assoc]
 rfl
theorem At.ite {l:List XN} {x y z:X} {b:Nat} (h:At l (.ite x y z) b):At l x b∧At l y (b+x.size)∧At l z (b+x.size+y.size):=by
 obtain ⟨pre,post,rfl,hb⟩:=h
 refine ⟨⟨pre,y.row (b+x.size)++z.row (b+x.size+y.size)++[X.top (.ite x y z) b]++post,by simp only [X.row,List.append_assoc];rfl,hb⟩,⟨pre++x.row b,z.row (b+x.size+y.size)++[X.top (.ite x y z) b]++post,?_,by rw [List.length_append,X.row_len,hb]⟩,⟨pre++x.row b++y.row (b+x.size),[X.top (.ite x y z) b]++post,?_,by rw [List.length_append,List.length_append,X.row_len,X.row_len,hb]⟩⟩
 ·simp only [X.row,List.append_assoc];rfl
 ·simp only [X.row,List.append_assoc];rfl
theorem begStep_no (rec:Int→Int) (last:Int):begStep rec false (-1) last=some last:=rfl
theorem begStep_yes {rec:Int→Int} {last:Int} (h:0≤rec last):begStep rec true last last=some (rec last-1):=by
 unfold begStep
 rw [if_neg (by simp),if_neg (by simp),if_neg (by omega)]
theorem begR_at:∀ (x:X) (l:List XN) (b f:Nat),x.ok=true→At l x b→x.size≤f→begR l f ((b:Int)+x.size-1)=b
 | .leaf op num name,l,b,f,hok,h,hf=>by
  unfold X.ok at hok
  simp only [Bool.and_eq_true,decide_eq_true_eq] at hok
  obtain ⟨f,rfl⟩:∃ f',f=f'+1:=⟨f-1,by simp only [X.size] at hf;omega⟩
  rw [begR,h.top]
  simp only [X.top]
  have hp:partsOf op=0:=by unfold partsOf;rw [if_pos hok.2]
  rw [hok.1,hp,cond_true]
  simp only [show Nat.blt 2 0=false from rfl,show Nat.blt 1 0=false from rfl,show Nat.blt 0 0=false from rfl,begStep_no,X.size]
  omega
 | .un op a,l,b,f,hok,h,hf=>by
  unfold X.ok at hok
  simp only [Bool.and_eq_true,decide_eq_true_eq] at hok
  simp only [X.size] at hf
  obtain ⟨f,rfl⟩:∃ f',f=f'+1:=⟨f-1,by omega⟩
  have ia:=begR_at a l b f hok.2 h.un (by omega)
  rw [begR,h.top]
  simp only [X.top]
  have hp:partsOf op=1:=by unfold partsOf;rw [if_neg (by omega),if_pos (by omega)]
  rw [well_op (by omega),hp,cond_true]
  have e:(b:Int)+(X.un op a).size-1-1=b+a.size-1:=by simp only [X.size];omega
  simp only [show Nat.blt 2 1=false from rfl,show Nat.blt 1 1=false from rfl,show Nat.blt 0 1=true from rfl,begStep_no,e]
  rw [begStep_yes (by rw [ia];omega),ia]
  simp
 | .bin op x y,l,b,f,hok,h,hf=>by
  unfold X.ok at hok
  simp only [Bool.and_eq_true,decide_eq_true_eq] at hok
  simp only [X.size] at hf
  obtain ⟨f,rfl⟩:∃ f',f=f'+1:=⟨f-1,by omega⟩
  have ix:=begR_at x l b f hok.1.2 h.bin.1 (by omega)
  have iy:=begR_at y l (b+x.size) f hok.2 h.bin.2 (by omega)
  rw [begR,h.top]
  simp only [X.top]
  have hp:partsOf op=2:=by unfold partsOf;rw [if_neg (by omega),if_neg (by omega),if_pos (by omega)]
  rw [well_op (by omega),hp,cond_true]
  have e:(b:Int)+(X.bin op x y).size-1-1=b+x.size+y.size-1:=by simp only [X.size];omega
  have ey:((b+x.size:Nat):Int)=b+x.size:=by omega
  rw [ey] at iy
  simp only [show Nat.blt 2 2=false from rfl,show Nat.blt 1 2=true from rfl,show Nat.blt 0 2=true from rfl,begStep_no,e]
  rw [begStep_yes (by rw [iy];omega),iy]
  simp only
  rw [begStep_yes (by rw [ix];omega),ix]
  simp
 | .ite x y z,l,b,f,hok,h,hf=>by
  unfold X.ok at hok
  simp only [Bool.and_eq_true] at hok
  simp only [X.size] at hf
  obtain ⟨f,rfl⟩:∃ f',f=f'+1:=⟨f-1,by omega⟩
  have ix:=begR_at x l b f hok.1.1 h.ite.1 (by omega)
  have iy:=begR_at y l (b+x.size) f hok.1.2 h.ite.2.1 (by omega)
  have iz:=begR_at z l (b+x.size+y.size) f hok.2 h.ite.2.2 (by omega)
  rw [begR,h.top]
  simp only [X.top]
  rw [well_op (by omega),show partsOf 22=3 from rfl,cond_true]
  have e:(b:Int)+(X.ite x y z).size-1-1=b+x.size+y.size+z.size-1:=by simp only [X.size];omega
  have ey:((b+x.size:Nat):Int)=b+x.size:=by omega
  have ez:((b+x.size+y.size:Nat):Int)=b+x.size+y.size:=by omega
  rw [ey] at iy
  rw [ez] at iz
  simp only [show Nat.blt 2 3=true from rfl,show Nat.blt 1 3=true from rfl,show Nat.blt 0 3=true from rfl,e]
  rw [begStep_yes (by rw [iz];omega),iz]
  simp only
  rw [begStep_yes (by rw [iy];omega),iy]
  simp only
  rw [begStep_yes (by rw [ix];omega),ix]
  simp
theorem begStep_inv {rec:Int→Int} {has:Bool} {place last q:Int} (h:begStep rec has place last=some q):has=false∧place = -1∧q=last∨has=true∧place=last∧0≤rec last∧q=rec last-1:=by
 unfold begStep at h
 split at h
 ·rename_i h1
  split at h
  ·cases h
  ·rename_i h2;cases h;exact .inl ⟨h1,by simpa using h2,rfl⟩
 ·rename_i h1
  split at h
  ·cases h
  ·rename_i h2
   split at h
   ·cases h
   ·rename_i h3;cases h;exact .inr ⟨by simpa using h1,by simpa using h2,by omega,rfl⟩
theorem At.glue {l:List XN} {x:X} {b:Nat} (h:At l x b):∃ pre,l.take (b+x.size)=pre++x.row b∧pre.length=b:=by
 obtain ⟨pre,post,rfl,hb⟩:=h
 refine ⟨pre,?_,hb⟩
 rw [List.take_append_of_le_length (by rw [List.length_append,X.row_len];omega),List.take_of_length_le (by rw [List.length_append,X.row_len];omega)]
theorem At.of_take {l:List XN} {x:X} {b:Nat} {pre:List XN} (h:l.take (b+x.size)=pre++x.row b) (hb:pre.length=b):At l x b :=
 ⟨pre,l.drop (b+x.size),by rw [← h,List.take_append_drop],hb⟩
theorem nthP_some {l:List XN} {i:Int} {n:XN} (h:nthP l i=some n):0≤i∧l[i.toNat]? = some n∧i.toNat<l.length:=by
 unfold nthP at h
 split at h
 ·cases h
 ·have:=List.getElem?_eq_some_iff.1 h
  exact ⟨by omega,h,this.1⟩
theorem begR_tree (l:List XN):∀ (f:Nat) (i:Int),0≤begR l f i→∃ (x:X) (b:Nat),x.ok=true∧At l x b∧begR l f i=b∧(b:Int)+x.size=i+1
 | 0,i,h=>by simp [begR] at h
 | f+1,i,h=>by
  rw [begR] at h ⊢
  cases hn:nthP l i with
  | none=>rw [hn] at h;simp at h
  | some n =>
   rw [hn] at h
   obtain ⟨hi,hg,hlt⟩:=nthP_some hn
   simp only at h ⊢
   cases hw:wellP n with
   | false=>rw [hw] at h;simp at h
   | true =>
   rw [hw,cond_true] at h
   rw [cond_true]
   have hrg:=well_range hw
   have htk:l.take (i.toNat+1)=l.take i.toNat++[n]:=by rw [List.take_add_one,hg];rfl
   cases h2:begStep (begR l f) (Nat.blt 2 (partsOf n.op)) n.c (i-1) with
   | none=>rw [h2] at h;simp at h
   | some l2 =>
   rw [h2] at h
   simp only at h ⊢
   cases h1:begStep (begR l f) (Nat.blt 1 (partsOf n.op)) n.b l2 with
   | none=>rw [h1] at h;simp at h
   | some l1 =>
   rw [h1] at h
   simp only at h ⊢
   cases h0:begStep (begR l f) (Nat.blt 0 (partsOf n.op)) n.a l1 with
   | none=>rw [h0] at h;simp at h
   | some l0 =>
   rw [h0] at h
   simp only at h ⊢
   obtain ⟨op,num,name,a,b,c⟩:=n
   simp only at h2 h1 h0 hrg
   by_cases h4:op≤4
   ·have hp:partsOf op=0:=by unfold partsOf;rw [if_pos h4]
    rw [hp] at h2 h1 h0
    obtain ⟨_,rfl,rfl⟩ | ⟨hh,_⟩:=begStep_inv h2
    rotate_left
    ·exact absurd hh (by decide)
    obtain ⟨_,rfl,rfl⟩ | ⟨hh,_⟩:=begStep_inv h1
    rotate_left
    ·exact absurd hh (by decide)
    obtain ⟨_,rfl,rfl⟩ | ⟨hh,_⟩:=begStep_inv h0
    rotate_left
    ·exact absurd hh (by decide)
    refine ⟨.leaf op num name,i.toNat,by unfold X.ok;rw [hw];simp;omega,At.of_take (pre:=l.take i.toNat) (by rw [X.size,htk];rfl) (by rw [List.length_take];omega),by omega,by simp only [X.size];omega⟩
   have hnn:=well_num hw (show op≠1 by omega)
   simp only at hnn
   obtain ⟨rfl,hnm,_⟩:=hnn
   obtain rfl:=hnm (by omega)
   by_cases h6:op≤6
   ·have hp:partsOf op=1:=by unfold partsOf;rw [if_neg h4,if_pos h6]
    rw [hp] at h2 h1 h0
    obtain ⟨_,rfl,rfl⟩ | ⟨hh,_⟩:=begStep_inv h2
    rotate_left
    ·exact absurd hh (by decide)
    obtain ⟨_,rfl,rfl⟩ | ⟨hh,_⟩:=begStep_inv h1
    rotate_left
    ·exact absurd hh (by decide)
    obtain ⟨hh,_⟩ | ⟨_,rfl,hr,rfl⟩:=begStep_inv h0
    ·exact absurd hh (by decide)
    obtain ⟨x,bx,ok1,at1,e1,s1⟩:=begR_tree l f _ hr
    obtain ⟨pre,g1,g2⟩:=at1.glue
    refine ⟨.un op x,bx,by unfold X.ok;rw [ok1];simp;omega,At.of_take (pre:=pre) ?_ g2,by omega,by simp only [X.size];omega⟩
    rw [show bx+(X.un op x).size=i.toNat+1 by simp only [X.size];omega,htk,show i.toNat=bx+x.size by omega,g1,X.row,List.append_assoc]
    congr 4;omega
   by_cases h21:op≤21
   ·have hp:partsOf op=2:=by unfold partsOf;rw [if_neg h4,if_neg h6,if_pos h21]
    rw [hp] at h2 h1 h0
    obtain ⟨_,rfl,rfl⟩ | ⟨hh,_⟩:=begStep_inv h2
    rotate_left
    ·exact absurd hh (by decide)
    obtain ⟨hh,_⟩ | ⟨_,rfl,hr1,rfl⟩:=begStep_inv h1
    ·exact absurd hh (by decide)
    obtain ⟨hh,_⟩ | ⟨_,rfl,hr0,rfl⟩:=begStep_inv h0
    ·exact absurd hh (by decide)
    obtain ⟨y,by',ok1,at1,e1,s1⟩:=begR_tree l f _ hr1
    rw [e1] at hr0 h0 h ⊢
    obtain ⟨x,bx,ok0,at0,e0,s0⟩:=begR_tree l f _ hr0
    obtain ⟨prey,gy1,gy2⟩:=at1.glue
    obtain ⟨prex,gx1,gx2⟩:=at0.glue
    have eby:by'=bx+x.size:=by omega
    have hpy:prey=prex++x.row bx:=by
     have:(l.take (by'+y.size)).take by'=prey:=by rw [gy1,List.take_left' gy2]
     rw [← this,List.take_take,Nat.min_eq_left (by omega),eby,gx1]
    refine ⟨.bin op x y,bx,by unfold X.ok;rw [ok1,ok0];simp;omega,At.of_take (pre:=prex) ?_ gx2,by omega,by simp only [X.size];omega⟩
    rw [show bx+(X.bin op x y).size=i.toNat+1 by simp only [X.size];omega,htk,show i.toNat=by'+y.size by omega,gy1,hpy,X.row,eby]
    simp only [List.append_assoc]
    congr 5<;>omega
   ·have hp:partsOf op=3:=by unfold partsOf;rw [if_neg h4,if_neg h6,if_neg h21]
    obtain rfl:op=22:=by omega
    rw [hp] at h2 h1 h0
    obtain ⟨hh,_⟩ | ⟨_,rfl,hr2,rfl⟩:=begStep_inv h2
    ·exact absurd hh (by decide)
    obtain ⟨z,bz,ok2,at2,e2,s2⟩:=begR_tree l f _ hr2
    rw [e2] at h1
    obtain ⟨hh,_⟩ | ⟨_,rfl,hr1,rfl⟩:=begStep_inv h1
    ·exact absurd hh (by decide)
    obtain ⟨y,by',ok1,at1,e1,s1⟩:=begR_tree l f _ hr1
    rw [e1] at h0
    obtain ⟨hh,_⟩ | ⟨_,rfl,hr0,rfl⟩:=begStep_inv h0
    ·exact absurd hh (by decide)
    obtain ⟨x,bx,ok0,at0,e0,s0⟩:=begR_tree l f _ hr0
    obtain ⟨prez,gz1,gz2⟩:=at2.glue
    obtain ⟨prey,gy1,gy2⟩:=at1.glue
    obtain ⟨prex,gx1,gx2⟩:=at0.glue
    have eby:by'=bx+x.size:=by omega
    have ebz:bz=bx+x.size+y.size:=by omega
    have hpy:prey=prex++x.row bx:=by
     have:(l.take (by'+y.size)).take by'=prey:=by rw [gy1,List.take_left' gy2]
     rw [← this,List.take_take,Nat.min_eq_left (by omega),eby,gx1]
    have hpz:prez=prey++y.row by':=by
     have:(l.take (bz+z.size)).take bz=prez:=by rw [gz1,List.take_left' gz2]
     rw [← this,List.take_take,Nat.min_eq_left (by omega),show bz=by'+y.size by omega,gy1]
    refine ⟨.ite x y z,bx,by unfold X.ok;rw [ok2,ok1,ok0];rfl,At.of_take (pre:=prex) ?_ gx2,by omega,by simp only [X.size];omega⟩
    rw [show bx+(X.ite x y z).size=i.toNat+1 by simp only [X.size];omega,htk,show i.toNat=bz+z.size by omega,gz1,hpz,hpy,X.row,ebz,eby]
    simp only [List.append_assoc]
    congr 6<;>omega
def rightR (l:List XN):Bool:=begR l l.length ((l.length:Int)-1)==0
theorem At.whole (x:X):At (x.row 0) x 0:=⟨[],[],by simp,rfl⟩
theorem right_tree {l:List XN}:rightR l=true ↔ ∃ x:X,x.ok=true∧l=x.row 0:=by
 unfold rightR
 rw [beq_iff_eq]
 constructor
 ·intro h
  obtain ⟨x,b,h1,h2,h3,h4⟩:=begR_tree l l.length ((l.length:Int)-1) (by omega)
  obtain rfl:b=0:=by omega
  obtain ⟨pre,post,rfl,hb⟩:=h2
  obtain rfl:=List.length_eq_zero_iff.1 hb
  have hl:post.length=0:=by
   simp only [List.nil_append,List.length_append,X.row_len] at h4
   omega
  obtain rfl:=List.length_eq_zero_iff.1 hl
  exact ⟨x,h1,by simp⟩
 ·rintro ⟨x,hx,rfl⟩
  have:=begR_at x (x.row 0) 0 (x.row 0).length hx (At.whole x) (by rw [X.row_len];exact Nat.le_refl _)
  rw [X.row_len] at this ⊢
  simpa using this
theorem right_depth (l:List XN):rightR l=decide (depthP l≠0):=by
 rw [Bool.eq_iff_iff,right_tree,decide_eq_true_iff]
 constructor
 ·rintro ⟨x,hx,rfl⟩
  rw [depth_row hx]
  have:=x.depth_pos
  omega
 ·exact depth_none
end Go.Hs
end

section
namespace Go.Hs
inductive Sub:X→X→Nat→Prop where
 | refl (x:X):Sub x x 0
 | un {op:Int} {a y:X} {b:Nat}:Sub a y b→Sub (.un op a) y b
 | bin1 {op:Int} {a c y:X} {b:Nat}:Sub a y b→Sub (.bin op a c) y b
 | bin2 {op:Int} {a c y:X} {b:Nat}:Sub c y b→Sub (.bin op a c) y (a.size+b)
 | ite1 {a c d y:X} {b:Nat}:Sub a y b→Sub (.ite a c d) y b
 | ite2 {a c d y:X} {b:Nat}:Sub c y b→Sub (.ite a c d) y (a.size+b)
 | ite3 {a c d y:X} {b:Nat}:Sub d y b→Sub (.ite a c d) y (a.size+c.size+b)
def subs:X→List X
 | .leaf op num name=>[.leaf op num name]
 | .un op a=>subs a++[.un op a]
 | .bin op a c=>subs a++subs c++[.bin op a c]
 | .ite a c d=>subs a++subs c++subs d++[.ite a c d]
theorem subs_len:∀ x:X,(subs x).length=x.size
 | .leaf .. => rfl
 | .un _ a=>by simp [subs,X.size,subs_len a]
 | .bin _ a b=>by simp [subs,X.size,subs_len a,subs_len b];omega
 | .ite a b c=>by simp [subs,X.size,subs_len a,subs_len b,subs_len c];omega
theorem Sub.trans {x y z:X} {b c:Nat} (h:Sub x y b) (h2:Sub y z c):Sub x z (b+c):=by
 induction h with
 | refl=>simpa using h2
 | un _ ih=>exact .un (ih h2)
 | bin1 _ ih=>exact .bin1 (ih h2)
 | bin2 _ ih=>rw [Nat.add_assoc];exact .bin2 (ih h2)
 | ite1 _ ih=>exact .ite1 (ih h2)
 | ite2 _ ih=>rw [Nat.add_assoc];exact .ite2 (ih h2)
 | ite3 _ ih=>rw [Nat.add_assoc];exact .ite3 (ih h2)
theorem Sub.ok {x y:X} {b:Nat} (h:Sub x y b):x.ok=true→y.ok=true:=by
 induction h with
 | refl=>exact id
 | un _ ih=>intro h;simp [X.ok] at h;exact ih h.2
 | bin1 _ ih=>intro h;simp [X.ok] at h;exact ih h.1.2
 | bin2 _ ih=>intro h;simp [X.ok] at h;exact ih h.2
 | ite1 _ ih=>intro h;simp [X.ok] at h;exact ih h.1.1
 | ite2 _ ih=>intro h;simp [X.ok] at h;exact ih h.1.2
 | ite3 _ ih=>intro h;simp [X.ok] at h;exact ih h.2
theorem Sub.size {x y:X} {b:Nat} (h:Sub x y b):b+y.size≤x.size:=by
 induction h with
 | refl=>simp
 | un _ ih=>simp only [X.size];omega
 | bin1 _ ih=>simp only [X.size];omega
 | bin2 _ ih=>simp only [X.size];omega
 | ite1 _ ih=>simp only [X.size];omega
 | ite2 _ ih=>simp only [X.size];omega
 | ite3 _ ih=>simp only [X.size];omega
theorem Sub.depth {x y:X} {b:Nat} (h:Sub x y b):y.depth≤x.depth:=by
 induction h with
 | refl=>simp
 | un _ ih=>simp only [X.depth];omega
 | bin1 _ ih=>simp only [X.depth];omega
 | bin2 _ ih=>simp only [X.depth];omega
 | ite1 _ ih=>simp only [X.depth];omega
 | ite2 _ ih=>simp only [X.depth];omega
 | ite3 _ ih=>simp only [X.depth];omega
theorem Sub.at {x y:X} {b:Nat} (h:Sub x y b):∀ {l:List XN} {k:Nat},At l x k→At l y (k+b):=by
 induction h with
 | refl=>exact id
 | un _ ih=>intro l k h;exact ih h.un
 | bin1 _ ih=>intro l k h;exact ih h.bin.1
 | bin2 _ ih=>intro l k h;rw [← Nat.add_assoc];exact ih h.bin.2
 | ite1 _ ih=>intro l k h;exact ih h.ite.1
 | ite2 _ ih=>intro l k h;rw [← Nat.add_assoc];exact ih h.ite.2.1
 | ite3 _ ih=>intro l k h;rw [← Nat.add_assoc,← Nat.add_assoc];exact ih h.ite.2.2
theorem subs_top (x:X):(subs x)[x.size-1]? = some x:=by
 have:∃ l,subs x=l++[x]:=by
  cases x with
  | leaf=>exact ⟨[],rfl⟩
  | un=>exact ⟨_,rfl⟩
  | bin=>exact ⟨_,rfl⟩
  | ite=>exact ⟨_,rfl⟩
 obtain ⟨l,h⟩:=this
 have hl:=subs_len x
 rw [h,List.length_append,List.length_singleton] at hl
 rw [h,List.getElem?_append_right (by omega),show x.size-1-l.length=0 by omega];rfl
theorem Sub.get {x y:X} {b:Nat} (h:Sub x y b):(subs x)[b+y.size-1]? = some y:=by
 have hy:=y.size_pos
 induction h with
 | refl x=>rw [Nat.zero_add];exact subs_top x
 | @un op a y b h ih =>
  have:=h.size
  have hl:=subs_len a
  rw [subs,List.getElem?_append_left (by omega)];exact ih hy
 | @bin1 op a c y b h ih =>
  have:=h.size
  have hl:=subs_len a
  rw [subs,List.append_assoc,List.getElem?_append_left (by omega)];exact ih hy
 | @bin2 op a c y b h ih =>
  have:=h.size
  have hl:=subs_len a
  have hl2:=subs_len c
  rw [subs,List.append_assoc,List.getElem?_append_right (by omega),List.getElem?_append_left (by omega),← ih hy]
  congr 1;omega
 | @ite1 a c d y b h ih =>
  have:=h.size
  have hl:=subs_len a
  rw [subs,List.append_assoc,List.append_assoc,List.getElem?_append_left (by omega)];exact ih hy
 | @ite2 a c d y b h ih =>
  have:=h.size
  have hl:=subs_len a
  have hl2:=subs_len c
  rw [subs,List.append_assoc,List.append_assoc,List.getElem?_append_right (by omega),List.getElem?_append_left (by omega),← ih hy]
  congr 1;omega
 | @ite3 a c d y b h ih =>
  have:=h.size
  have hl:=subs_len a
  have hl2:=subs_len c
  have hl3:=subs_len d
  rw [subs,List.append_assoc,List.append_assoc,List.getElem?_append_right (by omega),List.getElem?_append_right (by omega),List.getElem?_append_left (by omega),← ih hy]
  congr 1;omega
theorem sub_all:∀ (x:X) (i:Nat),i<x.size→∃ y b,Sub x y b∧b+y.size=i+1
 | .leaf op num name,i,h=>⟨_,0,.refl _,by simp only [X.size] at h ⊢;omega⟩
 | .un op a,i,h=>by
  by_cases h1:i<a.size
  ·obtain ⟨y,b,h2,h3⟩:=sub_all a i h1
   exact ⟨y,b,.un h2,h3⟩
  ·exact ⟨_,0,.refl _,by simp only [X.size] at h ⊢;omega⟩
 | .bin op a c,i,h=>by
  by_cases h1:i<a.size
  ·obtain ⟨y,b,h2,h3⟩:=sub_all a i h1
   exact ⟨y,b,.bin1 h2,h3⟩
  by_cases h1':i-a.size<c.size
  ·obtain ⟨y,b,h2,h3⟩:=sub_all c (i-a.size) h1'
   exact ⟨y,_,.bin2 h2,by omega⟩
  ·exact ⟨_,0,.refl _,by simp only [X.size] at h ⊢;omega⟩
 | .ite a c d,i,h=>by
  by_cases h1:i<a.size
  ·obtain ⟨y,b,h2,h3⟩:=sub_all a i h1
   exact ⟨y,b,.ite1 h2,h3⟩
  by_cases h1':i-a.size<c.size
  ·obtain ⟨y,b,h2,h3⟩:=sub_all c (i-a.size) h1'
   exact ⟨y,_,.ite2 h2,by omega⟩
  by_cases h1'':i-a.size-c.size<d.size
  ·obtain ⟨y,b,h2,h3⟩:=sub_all d (i-a.size-c.size) h1''
   exact ⟨y,_,.ite3 h2,by omega⟩
  ·exact ⟨_,0,.refl _,by simp only [X.size] at h ⊢;omega⟩
theorem Sub.top {x y:X} {b:Nat} (h:Sub x y b):(x.row 0)[b+y.size-1]? = some (y.top b):=by
 have:=(h.at (At.whole x)).get
 rw [Nat.zero_add] at this
 exact this
theorem sub_at (x:X) (i:Nat) (h:i<x.size):∃ y b,Sub x y b∧b+y.size=i+1∧(subs x)[i]? = some y∧(x.row 0)[i]? = some (y.top b):=by
 obtain ⟨y,b,h1,h2⟩:=sub_all x i h
 have e:i=b+y.size-1:=by omega
 exact ⟨y,b,h1,h2,e ▸ h1.get,e ▸ h1.top⟩
end Go.Hs
end

section
namespace Go.Hs
def kd (op:Int) (named:Bool) (a b c:Int):Int :=
 if op=1∨op=2∧named=true then 1
 else if op=3∨op=4 then 2
 else if op=5∧a=1∨7≤op∧op≤11∧a=1∧b=1 then 1
 else if 12≤op∧op≤15∧a=1∧b=1∨(op=16∨op=17)∧a=b∧a≠0 then 2
 else if op=6∧a=2∨18≤op∧op≤21∧a=2∧b=2 then 2
 else if op=22∧a=2∧b=c then b else 0
end Go.Hs
end

section
namespace Go.Hs
theorem mem_subs {x y:X} (h:y∈subs x):∃ b,Sub x y b:=by
 obtain ⟨i,hi,e⟩:=List.mem_iff_getElem.1 h
 obtain ⟨z,b,h1,h2,h3,h4⟩:=sub_at x i (by rw [← subs_len];exact hi)
 rw [List.getElem?_eq_getElem hi,e] at h3
 cases h3
 exact ⟨b,h1⟩
theorem Sub.mem {x y:X} {b:Nat} (h:Sub x y b):y∈subs x:=List.mem_of_getElem? h.get
def shiftN (b:Int) (n:XN):XN:={ n with a:=max (-1) (n.a-b),b:=max (-1) (n.b-b),c:=max (-1) (n.c-b) }
theorem row_shift:∀ (y:X) (b c:Int),0≤b→0≤c→(y.row (b+c)).map (shiftN b)=y.row c
 | .leaf op num name,b,c,hb,hc=>by
  have:max (-1) (-1-b)=(-1:Int):=by omega
  simp only [X.row,List.map_cons,List.map_nil,shiftN,this]
 | .un op a,b,c,hb,hc=>by
  have e1:max (-1) (-1-b)=(-1:Int):=by omega
  have hp:=a.size_pos
  have e2:max (-1) (b+c+a.size-1-b)=c+a.size-1:=by omega
  simp only [X.row,List.map_append,List.map_cons,List.map_nil,shiftN,e1,e2,row_shift a b c hb hc]
 | .bin op x y,b,c,hb,hc=>by
  have e1:max (-1) (-1-b)=(-1:Int):=by omega
  have hp:=x.size_pos
  have hp2:=y.size_pos
  have e2:max (-1) (b+c+x.size-1-b)=c+x.size-1:=by omega
  have e3:max (-1) (b+c+x.size+y.size-1-b)=c+x.size+y.size-1:=by omega
  have i2:=row_shift y b (c+x.size) hb (by omega)
  rw [← Int.add_assoc] at i2
  simp only [X.row,List.map_append,List.map_cons,List.map_nil,shiftN,e1,e2,e3,row_shift x b c hb hc,i2]
 | .ite x y z,b,c,hb,hc=>by
  have hp:=x.size_pos
  have hp2:=y.size_pos
  have hp3:=z.size_pos
  have e2:max (-1) (b+c+x.size-1-b)=c+x.size-1:=by omega
  have e3:max (-1) (b+c+x.size+y.size-1-b)=c+x.size+y.size-1:=by omega
  have e4:max (-1) (b+c+x.size+y.size+z.size-1-b)=c+x.size+y.size+z.size-1:=by omega
  have i2:=row_shift y b (c+x.size) hb (by omega)
  rw [← Int.add_assoc] at i2
  have i3:=row_shift z b (c+x.size+y.size) hb (by omega)
  rw [← Int.add_assoc,← Int.add_assoc] at i3
  simp only [X.row,List.map_append,List.map_cons,List.map_nil,shiftN,e2,e3,e4,row_shift x b c hb hc,i2,i3]
theorem Sub.shift {x y:X} {b:Nat} (h:Sub x y b):(((x.row 0).drop b).take y.size).map (shiftN b)=y.row 0:=by
 obtain ⟨pre,post,e,hb⟩:=h.at (At.whole x)
 rw [Nat.zero_add] at hb e
 have hl:(y.row ((b:Nat):Int)).length=y.size:=y.row_len _
 have ht:((x.row 0).drop b).take y.size=y.row (b:Nat):=by
  rw [e,List.append_assoc,← hb,List.drop_left,← hl,hb,List.take_left]
 rw [ht]
 have:=row_shift y b 0 (by omega) (by omega)
 rw [Int.add_zero] at this
 exact this
end Go.Hs
end

section
namespace Go.Hs
def NmIn (x:X) (t:List UInt8):Prop:=∃ num,X.leaf 2 num t∈subs x
theorem NmIn.sub {x y:X} {b:Nat} (h:Sub x y b) {t:List UInt8} (ht:NmIn y t):NmIn x t:=by
 obtain ⟨n,q⟩:=ht
 obtain ⟨c,hc⟩:=mem_subs q
 exact ⟨n,(h.trans hc).mem⟩
end Go.Hs
end

section
namespace Go.Hs
inductive EV where
 | err (e:Int)
 | num (n:Int)
 | tru (b:Bool)
 deriving DecidableEq,Inhabited
namespace EV
def kind:EV→Int
 | err _=>0
 | num _=>1
 | tru _=>2
def nm:EV→Int
 | num n=>n
 | _=>0
def tr:EV→Bool
 | tru b=>b
 | _=>false
def er:EV→Int
 | err e=>e
 | _=>0
def need (k:Int):EV→EV
 | err e=>err e
 | v=>if k≠0∧v.kind≠k then err 90 else v
def onN (f:Int→EV):EV→EV
 | err e=>err e
 | num n=>f n
 | tru _=>err 90
def onB (f:Bool→EV):EV→EV
 | err e=>err e
 | num _=>err 90
 | tru b=>f b
def ofR (r:Int × Int):EV:=if r.2=0 then num r.1 else err r.2
def fine:EV→Prop
 | err e=>e=60∨e=61∨e=90
 | num n=>fits n=true
 | tru _=>True
end EV
def lookB (env:List (List UInt8 × Int)) (s:List UInt8):Option Int:=(env.find? fun p=>p.1==s).map (·.2)
def arith (op a b:Int):Int × Int :=
 if op=7 then Go.Hs.told (a * b) else if op=8 then divR a b else if op=9 then modR a b else if op=10 then Go.Hs.told (a+b) else Go.Hs.told (a-b)
def cmpV (op a b:Int):Bool:=if op=12 then decide (a<b) else if op=13 then decide (a≤b) else if op=14 then decide (a > b) else decide (a≥b)
def alikeV (op:Int):EV→EV→EV
 | .err e,_ => .err e
 | _,.err e => .err e
 | x,y=>if x.kind=y.kind then .tru ((x==y)==(op==16)) else .err 90
def logicV (op:Int) (x y:EV):EV:=x.onB fun a =>
 if op=18∧a=false then .tru false else if op=19∧a=true∨op=21∧a=false then .tru true
 else y.onB fun b => .tru (if op=20 then a != b else b)
def binV2 (op:Int) (x y:EV):EV :=
 if op≤11 then x.onN fun a=>y.onN fun b => .ofR (arith op a b)
 else if op≤15 then x.onN fun a=>y.onN fun b => .tru (cmpV op a b)
 else if op≤17 then alikeV op x y else logicV op x y
def unV2 (op:Int) (x:EV):EV:=if op=5 then x.onN fun a => .ofR (Go.Hs.told (-a)) else x.onB fun b => .tru (!b)
def leafV2 (env:List (List UInt8 × Int)) (op num:Int) (name:List UInt8):EV :=
 if op=1 then .num num else if op=2 then (match lookB env name with | some v => .num v | none => .err 90) else .tru (op==3)
def evX (env:List (List UInt8 × Int)):X→EV
 | .leaf op num name=>leafV2 env op num name
 | .un op a=>unV2 op (evX env a)
 | .bin op a b=>binV2 op (evX env a) (evX env b)
 | .ite a b c=>(evX env a).onB fun t=>if t=true then evX env b else evX env c
theorem told_fine (x:Int):(EV.ofR (Go.Hs.told x)).fine:=by
 unfold Go.Hs.told EV.ofR
 by_cases h:fits x=true
 ·rw [if_pos h];exact h
 ·rw [if_neg h];exact .inl rfl
theorem div_fine (a b:Int):(EV.ofR (divR a b)).fine:=by
 unfold divR
 split
 ·exact .inr (.inl rfl)
 ·exact told_fine _
theorem mod_fine (a b:Int):(EV.ofR (modR a b)).fine:=by
 unfold modR
 split
 ·exact .inr (.inl rfl)
 ·exact told_fine _
theorem arith_fine (op a b:Int):(EV.ofR (arith op a b)).fine:=by
 unfold arith
 repeat' split
 all_goals first | exact told_fine _ | exact div_fine _ _ | exact mod_fine _ _
theorem onN_fine {x:EV} {f:Int→EV} (h:x.fine) (hf:∀ n,fits n=true→(f n).fine):(x.onN f).fine:=by
 cases x with
 | err e=>exact h
 | num n=>exact hf n h
 | tru b=>exact .inr (.inr rfl)
theorem onB_fine {x:EV} {f:Bool→EV} (h:x.fine) (hf:∀ n,(f n).fine):(x.onB f).fine:=by
 cases x with
 | err e=>exact h
 | num n=>exact .inr (.inr rfl)
 | tru b=>exact hf b
theorem alike_fine {op:Int} {x y:EV} (hx:x.fine) (hy:y.fine):(alikeV op x y).fine:=by
 cases x<;>cases y<;>simp only [alikeV]<;>first | exact hx | exact hy | (split<;>first | trivial | exact .inr (.inr rfl))
theorem bin_fine {op:Int} {x y:EV} (hx:x.fine) (hy:y.fine):(binV2 op x y).fine:=by
 unfold binV2
 split
 ·exact onN_fine hx fun a _=>onN_fine hy fun b _=>arith_fine _ _ _
 split
 ·exact onN_fine hx fun a _=>onN_fine hy fun b _=>trivial
 split
 ·exact alike_fine hx hy
 ·refine onB_fine hx fun a=>?_
  split
  ·trivial
  split
  ·trivial
  ·exact onB_fine hy fun b=>trivial
theorem lookB_mem {env:List (List UInt8 × Int)} {s:List UInt8} {v:Int} (h:lookB env s=some v):∃ p∈env,p.1=s∧p.2=v:=by
 unfold lookB at h
 cases hf:env.find? (fun p=>p.1==s) with
 | none=>rw [hf] at h;cases h
 | some p =>
  rw [hf] at h
  have:=List.find?_some hf
  exact ⟨p,List.mem_of_find?_eq_some hf,by simpa using this,by simpa using h⟩
theorem wellP_num {n:XN} (h:wellP n=true):0≤n.num:=by
 unfold wellP at h
 split at h
 ·cases h
 ·rename_i h0;simp only [not_or,Int.not_lt] at h0;exact h0.2.2
theorem ev_congr {env env':List (List UInt8 × Int)}:∀ {x:X},(∀ t,NmIn x t→lookB env t=lookB env' t)→evX env x=evX env' x:=by
 intro x
 induction x with
 | leaf op num name =>
  intro h
  show leafV2 env op num name=leafV2 env' op num name
  unfold leafV2
  by_cases h2:op=2
  ·subst h2;rw [h name ⟨num,by simp [subs]⟩]
  ·rw [if_neg h2,if_neg h2]
 | un op a ih =>
  intro h
  show unV2 op _=unV2 op _
  rw [ih fun t ⟨n,ht⟩=>h t ⟨n,by simp [subs,ht]⟩]
 | bin op a b iha ihb =>
  intro h
  show binV2 op _ _=binV2 op _ _
  rw [iha fun t ⟨n,ht⟩=>h t ⟨n,by simp [subs,ht]⟩,ihb fun t ⟨n,ht⟩=>h t ⟨n,by simp [subs,ht]⟩]
 | ite a b c iha ihb ihc =>
  intro h
  show (evX env a).onB _=(evX env' a).onB _
  rw [iha fun t ⟨n,ht⟩=>h t ⟨n,by simp [subs,ht]⟩,ihb fun t ⟨n,ht⟩=>h t ⟨n,by simp [subs,ht]⟩,ihc fun t ⟨n,ht⟩=>h t ⟨n,by simp [subs,ht]⟩]
end Go.Hs
end

section
namespace Go.Hs
open Go.Proofs
set_option maxRecDepth 10000
def encEV (v:EV):V := .agg [.int .u8 v.kind,.int .i64 v.nm,.bool v.tr]
def haltV (e:Int):V := .iface 152 (.agg [.int .i64 e])
def kpEV (x:EV):V→Heap→Prop:=fun v _=>∃ e,x = .err e∧v=haltV e
def okEV (x:EV):V→Heap→Prop:=fun v _=>(∀ e,x ≠ .err e)∧v=encEV x
theorem mkIf_halt (v:V):mkIfV Tryz.prog 152 v=some (.iface 152 v):=by
 unfold mkIfV;rw [Tryz.underlying152]
theorem must_spec (G:Nat→V) (e:Int):SpecP Tryz.prog G (some fun v _=>e≠0∧v=haltV e) 93 [.int .i64 e] hNone (fun v _=>e=0∧v = .tuple []):=by
 refine SpecP.of_code' 0 7 [] Tryz.func93 rfl rfl rfl rfl fun X=>?_
 by_cases h0:e=0
 ·have h1:(e != 0)=false:=by simpa using h0
  refine AW.seq_k fun K hK=>AW.region (by kernel_rfl) ?_
  simp -implicitDefEqProofs only[go_sem,seval,↓reduceIte,h1]
  refine hK _ ?_
  clear hK K
  refine AW.condS (b:=false) (by simp -implicitDefEqProofs only[go_sem,seval,↓reduceIte]) (fun h=>by cases h) (fun _=>?_)
  refine AW.skip ?_
  simp -implicitDefEqProofs only[go_sem,seval,↓reduceIte]
  refine endK_some ⟨h0,rfl⟩
 ·have h1:(e != 0)=true:=by simpa using h0
  refine AW.seq_k fun K hK=>AW.region (by kernel_rfl) ?_
  simp -implicitDefEqProofs only[go_sem,seval,↓reduceIte,h1]
  refine hK _ ?_
  clear hK K
  refine AW.condS (b:=true) (by simp -implicitDefEqProofs only[go_sem,seval,↓reduceIte]) (fun _=>?_) (fun h=>by cases h)
  refine AW.region (by kernel_rfl) ?_
  simp -implicitDefEqProofs only[go_sem,seval,↓reduceIte,mkIf_halt]
  exact ⟨h0,rfl⟩
theorem truth_spec (G:Nat→V) (b:Bool):Spec Tryz.prog G 131 [.bool b] hNone (fun v _=>v=encEV (.tru b)):=by
 refine Spec.of_code' 0 5 [.cell 2 34] Tryz.func131 rfl rfl rfl rfl fun X=>?_
 refine AW.seq_k fun K hK=>AW.region (by kernel_rfl) ?_
 simp -implicitDefEqProofs only[go_sem,seval,↓reduceIte]
 intro g2
 refine hK _ ?_
 clear hK K
 refine AW.seq_k fun K hK=>AW.region (by kernel_rfl) ?_
 simp -implicitDefEqProofs only[go_sem,seval,↓reduceIte]
 refine hK _ ?_
 clear hK K
 refine AW.ret ?_
 simp -implicitDefEqProofs only[go_sem,seval,↓reduceIte]
 refine endK_some ?_
 rfl
def recId (op:Int):Nat:=if op=7 then 154 else if op=8 then 155 else if op=9 then 156 else if op=10 then 157 else 158
def cmpId (op:Int):Nat:=if op=12 then 159 else if op=13 then 160 else if op=14 then 161 else 162
def fnV (f:Nat):V := .func (.func f) [] []
def recMap:V := .mapv [.int .u8 7,.int .u8 8,.int .u8 9,.int .u8 10,.int .u8 11] [fnV 154,fnV 155,fnV 156,fnV 157,fnV 158]
def cmpMap:V := .mapv [.int .u8 12,.int .u8 13,.int .u8 14,.int .u8 15] [fnV 159,fnV 160,fnV 161,fnV 162]
theorem reckons_spec (G:Nat→V):Spec Tryz.prog G 129 [] hNone (fun v _=>v=recMap):=by
 refine Spec.of_code' 0 3 [.tmp 0] Tryz.func129 rfl rfl rfl rfl fun X=>?_
 refine AW.seq_k fun K hK=>AW.region (by kernel_rfl) ?_
 simp -implicitDefEqProofs only[go_sem,seval,↓reduceIte]
 refine hK _ ?_
 clear hK K
 refine AW.seq_k fun K hK=>AW.region (by kernel_rfl) ?_
 simp -implicitDefEqProofs only[go_sem,seval,↓reduceIte,mapSetA_mref Tryz.underlying232 Tryz.underlying5,putV,findIx,optK_some,Nat.le_refl,List.cons_append,List.nil_append]
 intro b
 refine hK _ ?_
 clear hK K
 refine AW.weak (Weak.stMap 1 [(0,recMap)] [] (by simp -implicitDefEqProofs only[go_sem,seval,↓reduceIte];rfl) (Nat.le_refl _) (by simp -implicitDefEqProofs only[go_sem,seval,↓reduceIte];exact .inr ⟨rfl,rfl⟩) trivial) ?_
 refine AW.ret ?_
 simp -implicitDefEqProofs only[go_sem,seval,↓reduceIte]
 refine endK_some ?_
 rfl
theorem compares_spec (G:Nat→V):Spec Tryz.prog G 130 [] hNone (fun v _=>v=cmpMap):=by
 refine Spec.of_code' 0 3 [.tmp 0] Tryz.func130 rfl rfl rfl rfl fun X=>?_
 refine AW.seq_k fun K hK=>AW.region (by kernel_rfl) ?_
 simp -implicitDefEqProofs only[go_sem,seval,↓reduceIte]
 refine hK _ ?_
 clear hK K
 refine AW.seq_k fun K hK=>AW.region (by kernel_rfl) ?_
 simp -implicitDefEqProofs only[go_sem,seval,↓reduceIte,mapSetA_mref Tryz.underlying236 Tryz.underlying5,putV,findIx,optK_some,Nat.le_refl,List.cons_append,List.nil_append]
 intro b
 refine hK _ ?_
 clear hK K
 refine AW.weak (Weak.stMap 1 [(0,cmpMap)] [] (by simp -implicitDefEqProofs only[go_sem,seval,↓reduceIte];rfl) (Nat.le_refl _) (by simp -implicitDefEqProofs only[go_sem,seval,↓reduceIte];exact .inr ⟨rfl,rfl⟩) trivial) ?_
 refine AW.ret ?_
 simp -implicitDefEqProofs only[go_sem,seval,↓reduceIte]
 refine endK_some ?_
 rfl
def envKs (m:List (List UInt8 × Int)):List V:=m.map fun p=>V.str p.1
def envVs (m:List (List UInt8 × Int)):List V:=m.map fun p=>V.int .i64 p.2
def lkV (c1 c2:Col) (sl:Sl XN) (m:List (List UInt8 × Int)):V := .view c1 (.agg [encSl c2 6 encXN sl,.mapv (envKs m) (envVs m)])
@[go_sem] theorem recol_env (f:Col→Col) (m:List (List UInt8 × Int)):V.recol f (.mapv (envKs m) (envVs m)) = .mapv (envKs m) (envVs m):=by
 have h1:V.recolL f (envKs m)=envKs m:=by rw [V.recolL_eq];unfold envKs;rw [List.map_map];exact List.map_congr_left fun p _=>rfl
 have h2:V.recolL f (envVs m)=envVs m:=by rw [V.recolL_eq];unfold envVs;rw [List.map_map];exact List.map_congr_left fun p _=>rfl
 simp only [V.recol,h1,h2]
theorem find_env (s:List UInt8):∀ m:List (List UInt8 × Int),findV .string (.str s) (envKs m) (envVs m)=some ((lookB m s).map (V.int .i64))
 | []=>rfl
 | p::r=>by
  have ih:=find_env s r
  show (if s=p.1 then some (some (V.int .i64 p.2)) else findV .string (.str s) (envKs r) (envVs r))=_
  by_cases h:s=p.1
  ·rw [if_pos h]
   unfold lookB
   rw [List.find?_cons_of_pos (by simpa using h.symm)]
   rfl
  ·rw [if_neg h,ih]
   unfold lookB
   rw [List.find?_cons_of_neg (by simpa using fun hh=>h hh.symm)]
theorem look_env (s:List UInt8) (m:List (List UInt8 × Int)):lookV Tryz.prog 155 (.mapv (envKs m) (envVs m)) (.str s) true=some (match lookB m s with | some n => .tuple [.int .i64 n,.bool true] | none => .tuple [.int .i64 0,.bool false]):=by
 unfold lookV
 rw [Tryz.underlying155]
 simp only [mapKV,Tryz.underlying9,find_env]
 cases lookB m s with
 | some n=>rfl
 | none=>rfl
theorem name_spec (G:Nat→V) (hG:GOk G) (c1 c2:Col) (sl:Sl XN) (m:List (List UInt8 × Int)) (s:List UInt8) :
  SpecP Tryz.prog G (some fun v _=>lookB m s=none∧v=haltV 90) 132 [lkV c1 c2 sl m,.str s] hNone (fun v _=>∃ n,lookB m s=some n∧v = .int .i64 n):=by
 refine SpecP.of_code' 0 20 [.tmp 4] Tryz.func132 rfl rfl rfl rfl fun X=>?_
 refine AW.seq_k fun K hK=>AW.region (by kernel_rfl) ?_
 simp -implicitDefEqProofs only[go_sem,seval,↓reduceIte]
 refine hK _ ?_
 clear hK K
 have hl:=look_env s m
 cases hm:lookB m s with
 | some n =>
  rw [hm] at hl
  refine AW.seq_k fun K hK=>AW.region (by kernel_rfl) ?_
  simp -implicitDefEqProofs only[go_sem,seval,↓reduceIte,lkV,hl]
  refine hK _ ?_
  clear hK K
  refine AW.seq_k fun K1 hK1=>?_
  refine AW.seq_k fun K hK=>AW.region (by kernel_rfl) ?_
  simp -implicitDefEqProofs only[go_sem,seval,↓reduceIte]
  refine hK _ ?_
  clear hK K
  refine AW.condS (by simp -implicitDefEqProofs only[go_sem,seval,↓reduceIte];rfl) (fun h2=>?_) (fun h2=>?_)
  ·cases h2
  refine AW.skip ?_
  simp -implicitDefEqProofs only[go_sem,seval,↓reduceIte]
  refine hK1 _ ?_
  refine AW.seq_k fun K hK=>AW.region (by kernel_rfl) ?_
  simp -implicitDefEqProofs only[go_sem,seval,↓reduceIte]
  refine hK _ ?_
  clear hK K
  refine AW.ret ?_
  simp -implicitDefEqProofs only[go_sem,seval,↓reduceIte]
  refine endK_some ?_
  exact ⟨n,rfl,rfl⟩
 | none =>
  rw [hm] at hl
  refine AW.seq_k fun K hK=>AW.region (by kernel_rfl) ?_
  simp -implicitDefEqProofs only[go_sem,seval,↓reduceIte,lkV,hl]
  refine hK _ ?_
  clear hK K
  refine AW.seq_k fun K1 hK1=>?_
  refine AW.seq_k fun K hK=>AW.region (by kernel_rfl) ?_
  simp -implicitDefEqProofs only[go_sem,seval,↓reduceIte]
  refine hK _ ?_
  clear hK K
  refine AW.condS (by simp -implicitDefEqProofs only[go_sem,seval,↓reduceIte];rfl) (fun h2=>?_) (fun h2=>?_)
  ·refine AW.region (by kernel_rfl) ?_
   simp -implicitDefEqProofs only[go_sem,seval,↓reduceIte]
   refine CallP.pureE hG (by kernel_rfl) (must_spec G 90) rfl (fun v H' h=>by rw [h.2];rfl) fun v H' h=>absurd h.1 (by decide)
  ·cases h2
end Go.Hs
end

section
namespace Go.Hs
open Go.Proofs
set_option maxRecDepth 10000
theorem need1_err {x:EV} {e:Int} (f:Int→EV) (h:x.need 1 = .err e):x.onN f = .err e:=by
 cases x with
 | err e'=>exact h
 | num n=>simp [EV.need,EV.kind] at h
 | tru b=>simp [EV.need,EV.kind] at h;subst h;rfl
theorem need1_ok {x:EV} (h:∀ e,x.need 1 ≠ .err e):∃ n,x = .num n:=by
 cases x with
 | err e'=>exact absurd rfl (h e')
 | num n=>exact ⟨n,rfl⟩
 | tru b=>exact absurd rfl (h 90)
theorem need2_err {x:EV} {e:Int} (f:Bool→EV) (h:x.need 2 = .err e):x.onB f = .err e:=by
 cases x with
 | err e'=>exact h
 | tru n=>simp [EV.need,EV.kind] at h
 | num b=>simp [EV.need,EV.kind] at h;subst h;rfl
theorem need2_ok {x:EV} (h:∀ e,x.need 2 ≠ .err e):∃ n,x = .tru n:=by
 cases x with
 | err e'=>exact absurd rfl (h e')
 | tru n=>exact ⟨n,rfl⟩
 | num b=>exact absurd rfl (h 90)
theorem need0 (x:EV):x.need 0=x:=by cases x<;>rfl
theorem enc_num (n:Int):encEV (.num n) = .agg [.int .u8 1,.int .i64 n,.bool false]:=rfl
theorem enc_tru (b:Bool):encEV (.tru b) = .agg [.int .u8 2,.int .i64 0,.bool b]:=rfl
theorem need1_num (n:Int):(EV.num n).need 1 = .num n:=rfl
theorem need2_tru (b:Bool):(EV.tru b).need 2 = .tru b:=rfl
def nodeV (m:List (List UInt8 × Int)) (n:XN) (A B C:EV):EV :=
 if n.op≤4 then leafV2 m n.op n.num n.name else if n.op≤6 then unV2 n.op A else if n.op≤21 then binV2 n.op A B else A.onB fun t=>if t=true then B else C
def OfC (G:Nat→V) (sl:Sl XN) (m:List (List UInt8 × Int)) (a:Int) (x:EV):Prop:=∀ c1 c2 (k:Int),0≤k∧k≤2→SpecP Tryz.prog G (some (kpEV (x.need k))) 67 [lkV c1 c2 sl m,.int .i64 a,.int .u8 k] hNone (okEV (x.need k))
theorem look_rec {op:Int} (h:7≤op∧op≤11):lookV Tryz.prog 232 recMap (.int .u8 op) true=some (.tuple [fnV (recId op),.bool true]):=by
 obtain rfl | rfl | rfl | rfl | rfl:op=7∨op=8∨op=9∨op=10∨op=11:=by omega
 all_goals
  unfold lookV
  rw [Tryz.underlying232]
  simp only [mapKV,recMap,Tryz.underlying5]
  rfl
theorem look_rec0 {op:Int} (h:¬ (7≤op∧op≤11)):lookV Tryz.prog 232 recMap (.int .u8 op) true=some (.tuple [.nilf,.bool false]):=by
 unfold lookV
 rw [Tryz.underlying232]
 simp only [mapKV,recMap,Tryz.underlying5]
 have:findV (.int .u8) (.int .u8 op) [.int .u8 7,.int .u8 8,.int .u8 9,.int .u8 10,.int .u8 11] [fnV 154,fnV 155,fnV 156,fnV 157,fnV 158]=some none:=by
  simp only [findV,if_true]
  repeat rw [if_neg (by omega)]
 rw [this]
 rfl
theorem look_cmp {op:Int} (h:12≤op∧op≤15):lookV Tryz.prog 236 cmpMap (.int .u8 op) true=some (.tuple [fnV (cmpId op),.bool true]):=by
 obtain rfl | rfl | rfl | rfl:op=12∨op=13∨op=14∨op=15:=by omega
 all_goals
  unfold lookV
  rw [Tryz.underlying236]
  simp only [mapKV,cmpMap,Tryz.underlying5]
  rfl
theorem look_cmp0 {op:Int} (h:¬ (12≤op∧op≤15)):lookV Tryz.prog 236 cmpMap (.int .u8 op) true=some (.tuple [.nilf,.bool false]):=by
 unfold lookV
 rw [Tryz.underlying236]
 simp only [mapKV,cmpMap,Tryz.underlying5]
 have:findV (.int .u8) (.int .u8 op) [.int .u8 12,.int .u8 13,.int .u8 14,.int .u8 15] [fnV 159,fnV 160,fnV 161,fnV 162]=some none:=by
  simp only [findV,if_true]
  repeat rw [if_neg (by omega)]
 rw [this]
 rfl
theorem inK_of_fits {n:Int} (h:fits n=true):InK .i64 n:=by
 unfold fits at h
 have h:=of_decide_eq_true h
 exact h
theorem rec_pure (G:Nat→V) (hG:GOk G) {op a b:Int} (h:7≤op∧op≤11) (ha:fits a=true) (hb:fits b=true):PureC Tryz.prog G (recId op) [.int .i64 a,.int .i64 b] (encR (arith op a b)):=by
 have ha:=inK_of_fits ha
 have hb:=inK_of_fits hb
 obtain rfl | rfl | rfl | rfl | rfl:op=7∨op=8∨op=9∨op=10∨op=11:=by omega
 ·exact ⟨by kernel_rfl,(nMul_spec G hG a b ha hb).mono fun v _ hv=>by subst hv;rfl⟩
 ·exact ⟨by kernel_rfl,(nDiv_spec G hG a b ha hb).mono fun v _ hv=>by subst hv;rfl⟩
 ·exact ⟨by kernel_rfl,(nMod_spec G hG a b ha hb).mono fun v _ hv=>by subst hv;rfl⟩
 ·exact ⟨by kernel_rfl,(nAdd_spec G hG a b ha hb).mono fun v _ hv=>by subst hv;rfl⟩
 ·exact ⟨by kernel_rfl,(nSub_spec G hG a b ha hb).mono fun v _ hv=>by subst hv;rfl⟩
theorem lt_spec (G:Nat→V) (a b:Int):Spec Tryz.prog G 159 [.int .i64 a,.int .i64 b] hNone (fun v _=>v = .bool (decide (a<b))):=by
 refine Spec.of_code' 0 8 [.tmp 4] Tryz.func159 rfl rfl rfl rfl fun X=>?_
 refine AW.seq_k fun K hK=>AW.region (by kernel_rfl) ?_
 simp -implicitDefEqProofs only[go_sem,seval,↓reduceIte]
 refine hK _ ?_
 clear hK K
 refine AW.seq_k fun K hK=>AW.region (by kernel_rfl) ?_
 simp -implicitDefEqProofs only[go_sem,seval,↓reduceIte]
 refine hK _ ?_
 clear hK K
 refine AW.ret ?_
 simp -implicitDefEqProofs only[go_sem,seval,↓reduceIte]
 refine endK_some ?_
 rfl
theorem le_spec (G:Nat→V) (a b:Int):Spec Tryz.prog G 160 [.int .i64 a,.int .i64 b] hNone (fun v _=>v = .bool (decide (a≤b))):=by
 refine Spec.of_code' 0 8 [.tmp 4] Tryz.func160 rfl rfl rfl rfl fun X=>?_
 refine AW.seq_k fun K hK=>AW.region (by kernel_rfl) ?_
 simp -implicitDefEqProofs only[go_sem,seval,↓reduceIte]
 refine hK _ ?_
 clear hK K
 refine AW.seq_k fun K hK=>AW.region (by kernel_rfl) ?_
 simp -implicitDefEqProofs only[go_sem,seval,↓reduceIte]
 refine hK _ ?_
 clear hK K
 refine AW.ret ?_
 simp -implicitDefEqProofs only[go_sem,seval,↓reduceIte]
 refine endK_some ?_
 rfl
theorem gt_spec (G:Nat→V) (a b:Int):Spec Tryz.prog G 161 [.int .i64 a,.int .i64 b] hNone (fun v _=>v = .bool (decide (a > b))):=by
 refine Spec.of_code' 0 8 [.tmp 4] Tryz.func161 rfl rfl rfl rfl fun X=>?_
 refine AW.seq_k fun K hK=>AW.region (by kernel_rfl) ?_
 simp -implicitDefEqProofs only[go_sem,seval,↓reduceIte]
 refine hK _ ?_
 clear hK K
 refine AW.seq_k fun K hK=>AW.region (by kernel_rfl) ?_
 simp -implicitDefEqProofs only[go_sem,seval,↓reduceIte]
 refine hK _ ?_
 clear hK K
 refine AW.ret ?_
 simp -implicitDefEqProofs only[go_sem,seval,↓reduceIte]
 refine endK_some ?_
 rfl
theorem ge_spec (G:Nat→V) (a b:Int):Spec Tryz.prog G 162 [.int .i64 a,.int .i64 b] hNone (fun v _=>v = .bool (decide (a≥b))):=by
 refine Spec.of_code' 0 8 [.tmp 4] Tryz.func162 rfl rfl rfl rfl fun X=>?_
 refine AW.seq_k fun K hK=>AW.region (by kernel_rfl) ?_
 simp -implicitDefEqProofs only[go_sem,seval,↓reduceIte]
 refine hK _ ?_
 clear hK K
 refine AW.seq_k fun K hK=>AW.region (by kernel_rfl) ?_
 simp -implicitDefEqProofs only[go_sem,seval,↓reduceIte]
 refine hK _ ?_
 clear hK K
 refine AW.ret ?_
 simp -implicitDefEqProofs only[go_sem,seval,↓reduceIte]
 refine endK_some ?_
 rfl
theorem cmp_pure (G:Nat→V) {op a b:Int} (h:12≤op∧op≤15):PureC Tryz.prog G (cmpId op) [.int .i64 a,.int .i64 b] (.bool (cmpV op a b)):=by
 obtain rfl | rfl | rfl | rfl:op=12∨op=13∨op=14∨op=15:=by omega
 ·exact ⟨by kernel_rfl,(lt_spec G a b).mono fun v _ hv=>by subst hv;rfl⟩
 ·exact ⟨by kernel_rfl,(le_spec G a b).mono fun v _ hv=>by subst hv;rfl⟩
 ·exact ⟨by kernel_rfl,(gt_spec G a b).mono fun v _ hv=>by subst hv;rfl⟩
 ·exact ⟨by kernel_rfl,(ge_spec G a b).mono fun v _ hv=>by subst hv;rfl⟩
theorem truth_pure (G:Nat→V) (b:Bool):PureC Tryz.prog G 131 [.bool b] (encEV (.tru b)):=⟨by kernel_rfl,(truth_spec G b).mono fun v _ hv=>by subst hv;rfl⟩
theorem rec_map (G:Nat→V):PureC Tryz.prog G 129 [] recMap:=⟨by kernel_rfl,(reckons_spec G).mono fun v _ hv=>by subst hv;rfl⟩
theorem cmp_map (G:Nat→V):PureC Tryz.prog G 130 [] cmpMap:=⟨by kernel_rfl,(compares_spec G).mono fun v _ hv=>by subst hv;rfl⟩
end Go.Hs
end

section
namespace Go.Hs
open Go.Proofs
set_option maxRecDepth 10000
set_option maxHeartbeats 1000000
theorem worth_two (G:Nat→V) (hG:GOk G) (c1 c2:Col) (sl:Sl XN) (m:List (List UInt8 × Int)) (n:XN) (A B C:EV) (ho:7≤n.op∧n.op≤11) (hA:OfC G sl m n.a A) (hB:OfC G sl m n.b B) (fA:A.fine) (fB:B.fine) :
  SpecP Tryz.prog G (some (kpEV (nodeV m n A B C))) 92 [lkV c1 c2 sl m,encXN n] hNone (okEV (nodeV m n A B C)):=by
 have hN:nodeV m n A B C=A.onN fun a=>B.onN fun b => .ofR (arith n.op a b):=by
  unfold nodeV binV2
  rw [if_neg (by omega),if_neg (by omega),if_pos (by omega),if_pos (by omega)]
 rw [hN]
 refine SpecP.of_code' 0 200 [.cell 4 34] Tryz.func92 rfl rfl rfl rfl fun X=>?_
 refine AW.seq_k fun K hK=>AW.region (by kernel_rfl) ?_
 simp -implicitDefEqProofs only[go_sem,seval,↓reduceIte,encXN_K,lkV]
 intro g3 g4
 refine hK _ ?_
 clear hK K
 refine AW.weak (Weak.stF (fun o=>o==3) (l:=[(0,.view c1 (.agg [encSl c2 6 encXN sl,.mapv (envKs m) (envVs m)])),(3,.view .new (.agg [.int .u8 n.op,.int .i64 n.num,.str n.name,.int .i64 n.a,.int .i64 n.b,.int .i64 n.c])),(4,.ptr 4 g4 0)]) (m:=[(4,.cells .new g4 0 [.int .u8 0,.int .i64 0,.bool false])]) ?_ ?_) ?_
 ·simp -implicitDefEqProofs only[go_sem,seval,↓reduceIte,encXN_K,lkV]
  exact ⟨Fz.same _,Fz.ptr (v := .agg [.int .u8 n.op,.int .i64 n.num,.str n.name,.int .i64 n.a,.int .i64 n.b,.int .i64 n.c]) (c := .new) (fz:=0) rfl (by simp -implicitDefEqProofs only[go_sem,seval,↓reduceIte];try rfl),Fz.same _⟩
 ·simp only [allFzO_cons,allFzO_nil,and_true]
  exact FzO.keep rfl (by simp -implicitDefEqProofs only[go_sem,seval,↓reduceIte];try rfl)
 refine AW.seq_k fun K1 hK1=>?_
 refine AW.seq_k fun K hK=>AW.regionT ⟨fun i=>if i=0 then recMap else .top,fun i=>if i=2 then .lend else .pure⟩ (by kernel_rfl) hG (by kernel_rfl) (by kernel_rfl) ?_
 simp -implicitDefEqProofs only[go_sem,seval,↓reduceIte,look_rec ho,rec_map]
 refine hK _ ?_
 clear hK K
 refine AW.seq_k fun K hK=>AW.region (by kernel_rfl) ?_
 simp -implicitDefEqProofs only[go_sem,seval,↓reduceIte]
 refine hK _ ?_
 clear hK K
 refine AW.condS (by simp -implicitDefEqProofs only[go_sem,seval,↓reduceIte];rfl) (fun h1=>?_) (fun h1=>?_)
 rotate_left
 ·cases h1
 refine AW.weak (Weak.st (l:=[(0,.view c1 (.agg [encSl c2 6 encXN sl,.mapv (envKs m) (envVs m)])),(3,.view .new (.agg [.int .u8 n.op,.int .i64 n.num,.str n.name,.int .i64 n.a,.int .i64 n.b,.int .i64 n.c])),(4,.ptr 4 g4 0),(5,fnV (recId n.op))]) (m:=[(4,.cells .new g4 0 [.int .u8 0,.int .i64 0,.bool false])]) (by simp -implicitDefEqProofs only[go_sem,seval,↓reduceIte];try rfl) (by simp -implicitDefEqProofs only[go_sem,seval,↓reduceIte];try rfl)) ?_
 refine AW.seq_k fun K hK=>AW.region (by kernel_rfl) ?_
 simp -implicitDefEqProofs only[go_sem,seval,↓reduceIte]
 refine CallP.pureE hG (by kernel_rfl) (hA c1.ent c2.ent 1 (by decide)) (by simp -implicitDefEqProofs only[go_sem,seval,↓reduceIte,lkV]) ?_ ?_
 ·rintro v H' ⟨e,he,rfl⟩
  exact ⟨e,need1_err _ he,rfl⟩
 rintro v H' ⟨hne,rfl⟩
 obtain ⟨a,rfl⟩:=need1_ok hne
 rw [need1_num,enc_num]
 simp -implicitDefEqProofs only[go_sem,seval,↓reduceIte]
 intro g7
 refine hK _ ?_
 clear hK K
 refine AW.weak (Weak.stF (fun o=>o==7) (l:=[(0,.view c1 (.agg [encSl c2 6 encXN sl,.mapv (envKs m) (envVs m)])),(3,.view .new (.agg [.int .u8 n.op,.int .i64 n.num,.str n.name,.int .i64 n.a,.int .i64 n.b,.int .i64 n.c])),(4,.ptr 4 g4 0),(5,fnV (recId n.op)),(7,.view .new (.agg [.int .u8 1,.int .i64 a,.bool false]))]) (m:=[(4,.cells .new g4 0 [.int .u8 0,.int .i64 0,.bool false])]) ?_ ?_) ?_
 ·simp -implicitDefEqProofs only[go_sem,seval,↓reduceIte]
  refine ⟨Fz.same _,Fz.same _,Fz.same _,Fz.same _,?_⟩
  exact Fz.ptr (v := .agg [.int .u8 1,.int .i64 a,.bool false]) (c := .new) (fz:=0) rfl (by simp -implicitDefEqProofs only[go_sem,seval,↓reduceIte];try rfl)
 ·simp only [allFzO_cons,allFzO_nil,and_true]
  exact FzO.keep rfl (by simp -implicitDefEqProofs only[go_sem,seval,↓reduceIte];try rfl)
 by_cases hBe:∃ e,B.need 1 = .err e
 ·obtain ⟨e,he⟩:=hBe
  refine AW.seq_k fun K hK=>AW.regionT ⟨fun _ => .top,fun i=>if i=2 then .lend else if i=5 then .lend else if i=6 then .any else .pure⟩ (by kernel_rfl) hG (by kernel_rfl) (by kernel_rfl) ?_
  simp -implicitDefEqProofs only[go_sem,seval,↓reduceIte]
  refine CallP.pureE hG (by kernel_rfl) (hB c1.ent c2.ent 1 (by decide)) (by simp -implicitDefEqProofs only[go_sem,seval,↓reduceIte,lkV]) ?_ fun v H' h=>absurd he (h.1 e)
  rintro v H' ⟨e,he,rfl⟩
  exact ⟨e,(show B.onN _ = .err e from need1_err _ he),rfl⟩
 have hBe:=fun e he=>hBe ⟨e,he⟩
 obtain ⟨b,rfl⟩:=need1_ok hBe
 refine AW.seq_k fun K hK=>AW.regionT ⟨fun i=>if i=8 then encR (arith n.op a b) else .top,fun i=>if i=2 then .lend else if i=5 then .lend else if i=6 then .any else .pure⟩ (by kernel_rfl) hG (by kernel_rfl) (by kernel_rfl) ?_
 simp -implicitDefEqProofs only[go_sem,seval,↓reduceIte]
 refine CallP.pureE hG (by kernel_rfl) (hB c1.ent c2.ent 1 (by decide)) (by simp -implicitDefEqProofs only[go_sem,seval,↓reduceIte,lkV]) (fun v H' ⟨e,he,_⟩=>absurd he (hBe e)) ?_
 rintro v H' ⟨_,rfl⟩
 rw [need1_num,enc_num]
 simp -implicitDefEqProofs only[go_sem,seval,↓reduceIte,fnV,encR]
 refine ⟨rec_pure G hG ho fA fB,?_⟩
 refine hK _ ?_
 clear hK K
 refine AW.weak (Weak.st (l:=[(4,.ptr 4 g4 0),(8,.int .i64 (arith n.op a b).1),(9,.int .i64 (arith n.op a b).2)]) (m:=[(4,.cells .new g4 0 [.int .u8 0,.int .i64 0,.bool false])]) (by simp -implicitDefEqProofs only[go_sem,seval,↓reduceIte];try rfl) (by simp -implicitDefEqProofs only[go_sem,seval,↓reduceIte];try rfl)) ?_
 generalize hr:arith n.op a b=r
 have hR:(EV.num a).onN (fun a=>(EV.num b).onN fun b => .ofR (arith n.op a b))=if r.2=0 then .num r.1 else .err r.2:=by simp only [EV.onN,EV.ofR,hr]
 rw [hR]
 generalize hv:(if r.2=0 then EV.num r.1 else .err r.2)=v0
 refine AW.seq_k fun K hK=>AW.region (by kernel_rfl) ?_
 simp -implicitDefEqProofs only[go_sem,seval,↓reduceIte]
 refine CallP.pureE hG (by kernel_rfl) (must_spec G r.2) rfl ?_ ?_
 ·rintro v H' ⟨h0,rfl⟩
  exact ⟨r.2,by rw [← hv,if_neg h0],rfl⟩
 rintro v H' ⟨h0,rfl⟩
 rw [if_pos h0] at hv
 simp -implicitDefEqProofs only[go_sem,seval,↓reduceIte]
 refine hK _ ?_
 clear hK K
 refine AW.seq_k fun K hK=>AW.region (by kernel_rfl) ?_
 simp -implicitDefEqProofs only[go_sem,seval,↓reduceIte]
 refine hK _ ?_
 clear hK K
 refine AW.ret ?_
 simp -implicitDefEqProofs only[go_sem,seval,↓reduceIte]
 refine endK_some ?_
 subst hv
 exact ⟨(fun e h=>by cases h),rfl⟩
theorem worth_cmp (G:Nat→V) (hG:GOk G) (c1 c2:Col) (sl:Sl XN) (m:List (List UInt8 × Int)) (n:XN) (A B C:EV) (ho:12≤n.op∧n.op≤15) (hA:OfC G sl m n.a A) (hB:OfC G sl m n.b B) :
  SpecP Tryz.prog G (some (kpEV (nodeV m n A B C))) 92 [lkV c1 c2 sl m,encXN n] hNone (okEV (nodeV m n A B C)):=by
 have hN:nodeV m n A B C=A.onN fun a=>B.onN fun b => .tru (cmpV n.op a b):=by
  unfold nodeV binV2
  rw [if_neg (by omega),if_neg (by omega),if_pos (by omega),if_neg (by omega),if_pos (by omega)]
 rw [hN]
 refine SpecP.of_code' 0 200 [.cell 4 34] Tryz.func92 rfl rfl rfl rfl fun X=>?_
 refine AW.seq_k fun K hK=>AW.region (by kernel_rfl) ?_
 simp -implicitDefEqProofs only[go_sem,seval,↓reduceIte,encXN_K,lkV]
 intro g3 g4
 refine hK _ ?_
 clear hK K
 refine AW.weak (Weak.stF (fun o=>o==3) (l:=[(0,.view c1 (.agg [encSl c2 6 encXN sl,.mapv (envKs m) (envVs m)])),(3,.view .new (.agg [.int .u8 n.op,.int .i64 n.num,.str n.name,.int .i64 n.a,.int .i64 n.b,.int .i64 n.c])),(4,.ptr 4 g4 0)]) (m:=[(4,.cells .new g4 0 [.int .u8 0,.int .i64 0,.bool false])]) ?_ ?_) ?_
 ·simp -implicitDefEqProofs only[go_sem,seval,↓reduceIte,encXN_K,lkV]
  exact ⟨Fz.same _,Fz.ptr (v := .agg [.int .u8 n.op,.int .i64 n.num,.str n.name,.int .i64 n.a,.int .i64 n.b,.int .i64 n.c]) (c := .new) (fz:=0) rfl (by simp -implicitDefEqProofs only[go_sem,seval,↓reduceIte];try rfl),Fz.same _⟩
 ·simp only [allFzO_cons,allFzO_nil,and_true]
  exact FzO.keep rfl (by simp -implicitDefEqProofs only[go_sem,seval,↓reduceIte];try rfl)
 refine AW.seq_k fun K1 hK1=>?_
 refine AW.seq_k fun K hK=>AW.regionT ⟨fun i=>if i=0 then recMap else .top,fun i=>if i=2 then .lend else .pure⟩ (by kernel_rfl) hG (by kernel_rfl) (by kernel_rfl) ?_
 simp -implicitDefEqProofs only[go_sem,seval,↓reduceIte,look_rec0 (op:=n.op) (by omega),rec_map]
 refine hK _ ?_
 clear hK K
 refine AW.seq_k fun K hK=>AW.region (by kernel_rfl) ?_
 simp -implicitDefEqProofs only[go_sem,seval,↓reduceIte]
 refine hK _ ?_
 clear hK K
 refine AW.condS (by simp -implicitDefEqProofs only[go_sem,seval,↓reduceIte];rfl) (fun h1=>?_) (fun h1=>?_)
 ·cases h1
 refine AW.skip ?_
 simp -implicitDefEqProofs only[go_sem,seval,↓reduceIte]
 refine hK1 _ ?_
 clear hK1 K1
 refine AW.seq_k fun K1 hK1=>?_
 refine AW.seq_k fun K hK=>AW.regionT ⟨fun i=>if i=0 then cmpMap else .top,fun i=>if i=2 then .lend else .pure⟩ (by kernel_rfl) hG (by kernel_rfl) (by kernel_rfl) ?_
 simp -implicitDefEqProofs only[go_sem,seval,↓reduceIte,look_cmp ho,cmp_map]
 refine hK _ ?_
 clear hK K
 refine AW.seq_k fun K hK=>AW.region (by kernel_rfl) ?_
 simp -implicitDefEqProofs only[go_sem,seval,↓reduceIte]
 refine hK _ ?_
 clear hK K
 refine AW.condS (by simp -implicitDefEqProofs only[go_sem,seval,↓reduceIte];rfl) (fun h1=>?_) (fun h1=>?_)
 rotate_left
 ·cases h1
 refine AW.weak (Weak.st (l:=[(0,.view c1 (.agg [encSl c2 6 encXN sl,.mapv (envKs m) (envVs m)])),(3,.view .new (.agg [.int .u8 n.op,.int .i64 n.num,.str n.name,.int .i64 n.a,.int .i64 n.b,.int .i64 n.c])),(4,.ptr 4 g4 0),(10,fnV (cmpId n.op))]) (m:=[(4,.cells .new g4 0 [.int .u8 0,.int .i64 0,.bool false])]) (by simp -implicitDefEqProofs only[go_sem,seval,↓reduceIte];try rfl) (by simp -implicitDefEqProofs only[go_sem,seval,↓reduceIte];try rfl)) ?_
 refine AW.seq_k fun K hK=>AW.region (by kernel_rfl) ?_
 simp -implicitDefEqProofs only[go_sem,seval,↓reduceIte]
 refine CallP.pureE hG (by kernel_rfl) (hA c1.ent c2.ent 1 (by decide)) (by simp -implicitDefEqProofs only[go_sem,seval,↓reduceIte,lkV]) ?_ ?_
 ·rintro v H' ⟨e,he,rfl⟩
  exact ⟨e,need1_err _ he,rfl⟩
 rintro v H' ⟨hne,rfl⟩
 obtain ⟨a,rfl⟩:=need1_ok hne
 rw [need1_num,enc_num]
 simp -implicitDefEqProofs only[go_sem,seval,↓reduceIte]
 intro g12
 refine hK _ ?_
 clear hK K
 refine AW.weak (Weak.stF (fun o=>o==12) (l:=[(0,.view c1 (.agg [encSl c2 6 encXN sl,.mapv (envKs m) (envVs m)])),(3,.view .new (.agg [.int .u8 n.op,.int .i64 n.num,.str n.name,.int .i64 n.a,.int .i64 n.b,.int .i64 n.c])),(4,.ptr 4 g4 0),(10,fnV (cmpId n.op)),(12,.view .new (.agg [.int .u8 1,.int .i64 a,.bool false]))]) (m:=[(4,.cells .new g4 0 [.int .u8 0,.int .i64 0,.bool false])]) ?_ ?_) ?_
 ·simp -implicitDefEqProofs only[go_sem,seval,↓reduceIte]
  refine ⟨Fz.same _,Fz.same _,Fz.same _,Fz.same _,?_⟩
  exact Fz.ptr (v := .agg [.int .u8 1,.int .i64 a,.bool false]) (c := .new) (fz:=0) rfl (by simp -implicitDefEqProofs only[go_sem,seval,↓reduceIte];try rfl)
 ·simp only [allFzO_cons,allFzO_nil,and_true]
  exact FzO.keep rfl (by simp -implicitDefEqProofs only[go_sem,seval,↓reduceIte];try rfl)
 by_cases hBe:∃ e,B.need 1 = .err e
 ·obtain ⟨e,he⟩:=hBe
  refine AW.seq_k fun K hK=>AW.regionT ⟨fun _ => .top,fun i=>if i=2 then .lend else if i=5 then .lend else if i=6 then .any else .pure⟩ (by kernel_rfl) hG (by kernel_rfl) (by kernel_rfl) ?_
  simp -implicitDefEqProofs only[go_sem,seval,↓reduceIte]
  refine CallP.pureE hG (by kernel_rfl) (hB c1.ent c2.ent 1 (by decide)) (by simp -implicitDefEqProofs only[go_sem,seval,↓reduceIte,lkV]) ?_ fun v H' h=>absurd he (h.1 e)
  rintro v H' ⟨e,he,rfl⟩
  exact ⟨e,(show B.onN _ = .err e from need1_err _ he),rfl⟩
 have hBe:=fun e he=>hBe ⟨e,he⟩
 obtain ⟨b,rfl⟩:=need1_ok hBe
 refine AW.seq_k fun K hK=>AW.regionT ⟨fun i=>if i=8 then .bool (cmpV n.op a b) else if i=9 then encEV (.tru (cmpV n.op a b)) else .top,fun i=>if i=2 then .lend else if i=5 then .lend else if i=6 then .any else .pure⟩ (by kernel_rfl) hG (by kernel_rfl) (by kernel_rfl) ?_
 simp -implicitDefEqProofs only[go_sem,seval,↓reduceIte]
 refine CallP.pureE hG (by kernel_rfl) (hB c1.ent c2.ent 1 (by decide)) (by simp -implicitDefEqProofs only[go_sem,seval,↓reduceIte,lkV]) (fun v H' ⟨e,he,_⟩=>absurd he (hBe e)) ?_
 rintro v H' ⟨_,rfl⟩
 rw [need1_num,enc_num,enc_tru]
 simp -implicitDefEqProofs only[go_sem,seval,↓reduceIte,fnV]
 refine ⟨cmp_pure G ho,truth_pure G _,?_⟩
 refine hK _ ?_
 clear hK K
 refine AW.ret ?_
 simp -implicitDefEqProofs only[go_sem,seval,↓reduceIte]
 refine endK_some ?_
 exact ⟨(fun e h=>by cases h),rfl⟩
theorem worth_leaf (G:Nat→V) (hG:GOk G) (c1 c2:Col) (sl:Sl XN) (m:List (List UInt8 × Int)) (n:XN) (A B C:EV) (ho:1≤n.op∧n.op≤4) :
  SpecP Tryz.prog G (some (kpEV (nodeV m n A B C))) 92 [lkV c1 c2 sl m,encXN n] hNone (okEV (nodeV m n A B C)):=by
 have hN:nodeV m n A B C=leafV2 m n.op n.num n.name:=by unfold nodeV;rw [if_pos (by omega)]
 rw [hN]
 refine SpecP.of_code' 0 200 [.cell 4 34] Tryz.func92 rfl rfl rfl rfl fun X=>?_
 refine AW.seq_k fun K hK=>AW.region (by kernel_rfl) ?_
 simp -implicitDefEqProofs only[go_sem,seval,↓reduceIte,encXN_K,lkV]
 intro g3 g4
 refine hK _ ?_
 clear hK K
 refine AW.weak (Weak.stF (fun o=>o==3) (l:=[(0,.view c1 (.agg [encSl c2 6 encXN sl,.mapv (envKs m) (envVs m)])),(3,.view .new (.agg [.int .u8 n.op,.int .i64 n.num,.str n.name,.int .i64 n.a,.int .i64 n.b,.int .i64 n.c])),(4,.ptr 4 g4 0)]) (m:=[(4,.cells .new g4 0 [.int .u8 0,.int .i64 0,.bool false])]) ?_ ?_) ?_
 ·simp -implicitDefEqProofs only[go_sem,seval,↓reduceIte,encXN_K,lkV]
  exact ⟨Fz.same _,Fz.ptr (v := .agg [.int .u8 n.op,.int .i64 n.num,.str n.name,.int .i64 n.a,.int .i64 n.b,.int .i64 n.c]) (c := .new) (fz:=0) rfl (by simp -implicitDefEqProofs only[go_sem,seval,↓reduceIte];try rfl),Fz.same _⟩
 ·simp only [allFzO_cons,allFzO_nil,and_true]
  exact FzO.keep rfl (by simp -implicitDefEqProofs only[go_sem,seval,↓reduceIte];try rfl)
 refine AW.seq_k fun K1 hK1=>?_
 refine AW.seq_k fun K hK=>AW.regionT ⟨fun i=>if i=0 then recMap else .top,fun i=>if i=2 then .lend else .pure⟩ (by kernel_rfl) hG (by kernel_rfl) (by kernel_rfl) ?_
 simp -implicitDefEqProofs only[go_sem,seval,↓reduceIte,look_rec0 (op:=n.op) (by omega),rec_map]
 refine hK _ ?_
 clear hK K
 refine AW.seq_k fun K hK=>AW.region (by kernel_rfl) ?_
 simp -implicitDefEqProofs only[go_sem,seval,↓reduceIte]
 refine hK _ ?_
 clear hK K
 refine AW.condS (by simp -implicitDefEqProofs only[go_sem,seval,↓reduceIte];rfl) (fun h1=>?_) (fun h1=>?_)
 ·cases h1
 refine AW.skip ?_
 simp -implicitDefEqProofs only[go_sem,seval,↓reduceIte]
 refine hK1 _ ?_
 clear hK1 K1
 refine AW.seq_k fun K1 hK1=>?_
 refine AW.seq_k fun K hK=>AW.regionT ⟨fun i=>if i=0 then cmpMap else .top,fun i=>if i=2 then .lend else .pure⟩ (by kernel_rfl) hG (by kernel_rfl) (by kernel_rfl) ?_
 simp -implicitDefEqProofs only[go_sem,seval,↓reduceIte,look_cmp0 (op:=n.op) (by omega),cmp_map]
 refine hK _ ?_
 clear hK K
 refine AW.seq_k fun K hK=>AW.region (by kernel_rfl) ?_
 simp -implicitDefEqProofs only[go_sem,seval,↓reduceIte]
 refine hK _ ?_
 clear hK K
 refine AW.condS (by simp -implicitDefEqProofs only[go_sem,seval,↓reduceIte];rfl) (fun h1=>?_) (fun h1=>?_)
 ·cases h1
 refine AW.skip ?_
 simp -implicitDefEqProofs only[go_sem,seval,↓reduceIte]
 refine hK1 _ ?_
 clear hK1 K1
 refine AW.weak (Weak.st (l:=[(0,.view c1 (.agg [encSl c2 6 encXN sl,.mapv (envKs m) (envVs m)])),(3,.view .new (.agg [.int .u8 n.op,.int .i64 n.num,.str n.name,.int .i64 n.a,.int .i64 n.b,.int .i64 n.c])),(4,.ptr 4 g4 0)]) (m:=[(4,.cells .new g4 0 [.int .u8 0,.int .i64 0,.bool false])]) (by simp -implicitDefEqProofs only[go_sem,seval,↓reduceIte];try rfl) (by simp -implicitDefEqProofs only[go_sem,seval,↓reduceIte];try rfl)) ?_
 obtain ⟨op,num,name,na,nb,nc⟩:=n
 simp only at ho ⊢
 obtain rfl | rfl | rfl | rfl:op=1∨op=2∨op=3∨op=4:=by omega
 ·repeat first
   | (refine AW.qr (by kernel_rfl) ?_;simp -implicitDefEqProofs only[go_sem,seval,↓reduceIte])
   | (refine AW.region (by kernel_rfl) ?_;simp -implicitDefEqProofs only[go_sem,seval,↓reduceIte])
   | refine AW.qq ?_
   | refine AW.block ?_
   | refine AW.qT rfl ?_
   | refine AW.qF rfl ?_
   | (refine AW.skip ?_;simp -implicitDefEqProofs only[go_sem,seval,↓reduceIte])
   | (refine AW.exit ?_;simp -implicitDefEqProofs only[go_sem,seval,↓reduceIte])
   | (refine AW.ret ?_;simp -implicitDefEqProofs only[go_sem,seval,↓reduceIte];refine endK_some ?_)
  exact ⟨(fun e h=>by cases h),rfl⟩
 ·repeat first
   | (refine AW.qr (by kernel_rfl) ?_;simp -implicitDefEqProofs only[go_sem,seval,↓reduceIte])
   | (refine AW.region (by kernel_rfl) ?_;simp -implicitDefEqProofs only[go_sem,seval,↓reduceIte])
   | refine AW.qq ?_
   | refine AW.block ?_
   | refine AW.qT rfl ?_
   | refine AW.qF rfl ?_
   | (refine AW.skip ?_;simp -implicitDefEqProofs only[go_sem,seval,↓reduceIte])
   | (refine AW.exit ?_;simp -implicitDefEqProofs only[go_sem,seval,↓reduceIte])
   | (refine AW.ret ?_;simp -implicitDefEqProofs only[go_sem,seval,↓reduceIte];refine endK_some ?_)
  refine CallP.pureE hG (by kernel_rfl) (name_spec G hG c1.ent c2.ent sl m name) (by simp -implicitDefEqProofs only[go_sem,seval,↓reduceIte,lkV]) ?_ ?_
  ·rintro v H' ⟨h0,rfl⟩
   exact ⟨90,by unfold leafV2;rw [h0];rfl,rfl⟩
  rintro v H' ⟨k,h0,rfl⟩
  simp -implicitDefEqProofs only[go_sem,seval,↓reduceIte]
  repeat first
   | (refine AW.qr (by kernel_rfl) ?_;simp -implicitDefEqProofs only[go_sem,seval,↓reduceIte])
   | (refine AW.region (by kernel_rfl) ?_;simp -implicitDefEqProofs only[go_sem,seval,↓reduceIte])
   | refine AW.qq ?_
   | refine AW.block ?_
   | refine AW.qT rfl ?_
   | refine AW.qF rfl ?_
   | (refine AW.skip ?_;simp -implicitDefEqProofs only[go_sem,seval,↓reduceIte])
   | (refine AW.exit ?_;simp -implicitDefEqProofs only[go_sem,seval,↓reduceIte])
   | (refine AW.ret ?_;simp -implicitDefEqProofs only[go_sem,seval,↓reduceIte];refine endK_some ?_)
  have hv:leafV2 m 2 num name = .num k:=by unfold leafV2;rw [h0];rfl
  rw [hv]
  exact ⟨(fun e h=>by cases h),rfl⟩
 ·repeat first
   | (refine AW.qr (by kernel_rfl) ?_;simp -implicitDefEqProofs only[go_sem,seval,↓reduceIte])
   | (refine AW.region (by kernel_rfl) ?_;simp -implicitDefEqProofs only[go_sem,seval,↓reduceIte])
   | refine AW.qq ?_
   | refine AW.block ?_
   | refine AW.qT rfl ?_
   | refine AW.qF rfl ?_
   | (refine AW.skip ?_;simp -implicitDefEqProofs only[go_sem,seval,↓reduceIte])
   | (refine AW.exit ?_;simp -implicitDefEqProofs only[go_sem,seval,↓reduceIte])
   | (refine AW.ret ?_;simp -implicitDefEqProofs only[go_sem,seval,↓reduceIte];refine endK_some ?_)
  refine CallP.of (CallA.pure hG (by kernel_rfl) ?_)
  simp -implicitDefEqProofs only[go_sem,seval,↓reduceIte]
  refine (truth_spec G _).mono ?_
  rintro _ _ rfl
  rw [enc_tru]
  simp -implicitDefEqProofs only[go_sem,seval,↓reduceIte]
  repeat first
   | (refine AW.qr (by kernel_rfl) ?_;simp -implicitDefEqProofs only[go_sem,seval,↓reduceIte])
   | (refine AW.region (by kernel_rfl) ?_;simp -implicitDefEqProofs only[go_sem,seval,↓reduceIte])
   | refine AW.qq ?_
   | refine AW.block ?_
   | refine AW.qT rfl ?_
   | refine AW.qF rfl ?_
   | (refine AW.skip ?_;simp -implicitDefEqProofs only[go_sem,seval,↓reduceIte])
   | (refine AW.exit ?_;simp -implicitDefEqProofs only[go_sem,seval,↓reduceIte])
   | (refine AW.ret ?_;simp -implicitDefEqProofs only[go_sem,seval,↓reduceIte];refine endK_some ?_)
  exact ⟨(fun e h=>by cases h),rfl⟩
 ·repeat first
   | (refine AW.qr (by kernel_rfl) ?_;simp -implicitDefEqProofs only[go_sem,seval,↓reduceIte])
   | (refine AW.region (by kernel_rfl) ?_;simp -implicitDefEqProofs only[go_sem,seval,↓reduceIte])
   | refine AW.qq ?_
   | refine AW.block ?_
   | refine AW.qT rfl ?_
   | refine AW.qF rfl ?_
   | (refine AW.skip ?_;simp -implicitDefEqProofs only[go_sem,seval,↓reduceIte])
   | (refine AW.exit ?_;simp -implicitDefEqProofs only[go_sem,seval,↓reduceIte])
   | (refine AW.ret ?_;simp -implicitDefEqProofs only[go_sem,seval,↓reduceIte];refine endK_some ?_)
  refine CallP.of (CallA.pure hG (by kernel_rfl) ?_)
  simp -implicitDefEqProofs only[go_sem,seval,↓reduceIte]
  refine (truth_spec G _).mono ?_
  rintro _ _ rfl
  rw [enc_tru]
  simp -implicitDefEqProofs only[go_sem,seval,↓reduceIte]
  repeat first
   | (refine AW.qr (by kernel_rfl) ?_;simp -implicitDefEqProofs only[go_sem,seval,↓reduceIte])
   | (refine AW.region (by kernel_rfl) ?_;simp -implicitDefEqProofs only[go_sem,seval,↓reduceIte])
   | refine AW.qq ?_
   | refine AW.block ?_
   | refine AW.qT rfl ?_
   | refine AW.qF rfl ?_
   | (refine AW.skip ?_;simp -implicitDefEqProofs only[go_sem,seval,↓reduceIte])
   | (refine AW.exit ?_;simp -implicitDefEqProofs only[go_sem,seval,↓reduceIte])
   | (refine AW.ret ?_;simp -implicitDefEqProofs only[go_sem,seval,↓reduceIte];refine endK_some ?_)
  exact ⟨(fun e h=>by cases h),rfl⟩
theorem worth_neg (G:Nat→V) (hG:GOk G) (c1 c2:Col) (sl:Sl XN) (m:List (List UInt8 × Int)) (n:XN) (A B C:EV) (ho:n.op=5) (hA:OfC G sl m n.a A) (fA:A.fine) :
  SpecP Tryz.prog G (some (kpEV (nodeV m n A B C))) 92 [lkV c1 c2 sl m,encXN n] hNone (okEV (nodeV m n A B C)):=by
 have hN:nodeV m n A B C=A.onN fun a => .ofR (Go.Hs.told (-a)):=by unfold nodeV unV2;rw [if_neg (by omega),if_pos (by omega),if_pos ho]
 rw [hN]
 refine SpecP.of_code' 0 200 [.cell 4 34] Tryz.func92 rfl rfl rfl rfl fun X=>?_
 refine AW.seq_k fun K hK=>AW.region (by kernel_rfl) ?_
 simp -implicitDefEqProofs only[go_sem,seval,↓reduceIte,encXN_K,lkV]
 intro g3 g4
 refine hK _ ?_
 clear hK K
 refine AW.weak (Weak.stF (fun o=>o==3) (l:=[(0,.view c1 (.agg [encSl c2 6 encXN sl,.mapv (envKs m) (envVs m)])),(3,.view .new (.agg [.int .u8 n.op,.int .i64 n.num,.str n.name,.int .i64 n.a,.int .i64 n.b,.int .i64 n.c])),(4,.ptr 4 g4 0)]) (m:=[(4,.cells .new g4 0 [.int .u8 0,.int .i64 0,.bool false])]) ?_ ?_) ?_
 ·simp -implicitDefEqProofs only[go_sem,seval,↓reduceIte,encXN_K,lkV]
  exact ⟨Fz.same _,Fz.ptr (v := .agg [.int .u8 n.op,.int .i64 n.num,.str n.name,.int .i64 n.a,.int .i64 n.b,.int .i64 n.c]) (c := .new) (fz:=0) rfl (by simp -implicitDefEqProofs only[go_sem,seval,↓reduceIte];try rfl),Fz.same _⟩
 ·simp only [allFzO_cons,allFzO_nil,and_true]
  exact FzO.keep rfl (by simp -implicitDefEqProofs only[go_sem,seval,↓reduceIte];try rfl)
 refine AW.seq_k fun K1 hK1=>?_
 refine AW.seq_k fun K hK=>AW.regionT ⟨fun i=>if i=0 then recMap else .top,fun i=>if i=2 then .lend else .pure⟩ (by kernel_rfl) hG (by kernel_rfl) (by kernel_rfl) ?_
 simp -implicitDefEqProofs only[go_sem,seval,↓reduceIte,look_rec0 (op:=n.op) (by omega),rec_map]
 refine hK _ ?_
 clear hK K
 refine AW.seq_k fun K hK=>AW.region (by kernel_rfl) ?_
 simp -implicitDefEqProofs only[go_sem,seval,↓reduceIte]
 refine hK _ ?_
 clear hK K
 refine AW.condS (by simp -implicitDefEqProofs only[go_sem,seval,↓reduceIte];rfl) (fun h1=>?_) (fun h1=>?_)
 ·cases h1
 refine AW.skip ?_
 simp -implicitDefEqProofs only[go_sem,seval,↓reduceIte]
 refine hK1 _ ?_
 clear hK1 K1
 refine AW.seq_k fun K1 hK1=>?_
 refine AW.seq_k fun K hK=>AW.regionT ⟨fun i=>if i=0 then cmpMap else .top,fun i=>if i=2 then .lend else .pure⟩ (by kernel_rfl) hG (by kernel_rfl) (by kernel_rfl) ?_
 simp -implicitDefEqProofs only[go_sem,seval,↓reduceIte,look_cmp0 (op:=n.op) (by omega),cmp_map]
 refine hK _ ?_
 clear hK K
 refine AW.seq_k fun K hK=>AW.region (by kernel_rfl) ?_
 simp -implicitDefEqProofs only[go_sem,seval,↓reduceIte]
 refine hK _ ?_
 clear hK K
 refine AW.condS (by simp -implicitDefEqProofs only[go_sem,seval,↓reduceIte];rfl) (fun h1=>?_) (fun h1=>?_)
 ·cases h1
 refine AW.skip ?_
 simp -implicitDefEqProofs only[go_sem,seval,↓reduceIte]
 refine hK1 _ ?_
 clear hK1 K1
 refine AW.weak (Weak.st (l:=[(0,.view c1 (.agg [encSl c2 6 encXN sl,.mapv (envKs m) (envVs m)])),(3,.view .new (.agg [.int .u8 n.op,.int .i64 n.num,.str n.name,.int .i64 n.a,.int .i64 n.b,.int .i64 n.c])),(4,.ptr 4 g4 0)]) (m:=[(4,.cells .new g4 0 [.int .u8 0,.int .i64 0,.bool false])]) (by simp -implicitDefEqProofs only[go_sem,seval,↓reduceIte];try rfl) (by simp -implicitDefEqProofs only[go_sem,seval,↓reduceIte];try rfl)) ?_
 obtain ⟨op,num,name,na,nb,nc⟩:=n
 simp only at ho hA ⊢
 subst ho
 repeat first
  | (refine AW.qr (by kernel_rfl) ?_;simp -implicitDefEqProofs only[go_sem,seval,↓reduceIte])
  | (refine AW.region (by kernel_rfl) ?_;simp -implicitDefEqProofs only[go_sem,seval,↓reduceIte])
  | refine AW.qq ?_
  | refine AW.block ?_
  | refine AW.qT rfl ?_
  | refine AW.qF rfl ?_
  | (refine AW.skip ?_;simp -implicitDefEqProofs only[go_sem,seval,↓reduceIte])
  | (refine AW.exit ?_;simp -implicitDefEqProofs only[go_sem,seval,↓reduceIte])
  | (refine AW.ret ?_;simp -implicitDefEqProofs only[go_sem,seval,↓reduceIte];refine endK_some ?_)
 refine CallP.pureE hG (by kernel_rfl) (hA c1.ent c2.ent 1 (by decide)) (by simp -implicitDefEqProofs only[go_sem,seval,↓reduceIte,lkV]) ?_ ?_
 ·rintro v H' ⟨e,he,rfl⟩
  exact ⟨e,need1_err _ he,rfl⟩
 rintro v H' ⟨hne,rfl⟩
 obtain ⟨a,rfl⟩:=need1_ok hne
 rw [need1_num,enc_num]
 simp -implicitDefEqProofs only[go_sem,seval,↓reduceIte]
 refine CallP.of (CallA.pure hG (by kernel_rfl) ?_)
 simp -implicitDefEqProofs only[go_sem,seval,↓reduceIte]
 refine (nNeg_spec G hG a (inK_of_fits fA)).mono ?_
 rintro _ _ rfl
 simp -implicitDefEqProofs only[go_sem,seval,↓reduceIte,encR]
 generalize hr:Go.Hs.told (-a)=r
 have hR:(EV.num a).onN (fun a=>EV.ofR (Go.Hs.told (-a)))=if r.2=0 then .num r.1 else .err r.2:=by simp only [EV.onN,EV.ofR,hr]
 rw [hR]
 generalize hv:(if r.2=0 then EV.num r.1 else .err r.2)=v0
 repeat first
  | (refine AW.qr (by kernel_rfl) ?_;simp -implicitDefEqProofs only[go_sem,seval,↓reduceIte])
  | (refine AW.region (by kernel_rfl) ?_;simp -implicitDefEqProofs only[go_sem,seval,↓reduceIte])
  | refine AW.qq ?_
  | refine AW.block ?_
  | refine AW.qT rfl ?_
  | refine AW.qF rfl ?_
  | (refine AW.skip ?_;simp -implicitDefEqProofs only[go_sem,seval,↓reduceIte])
  | (refine AW.exit ?_;simp -implicitDefEqProofs only[go_sem,seval,↓reduceIte])
  | (refine AW.ret ?_;simp -implicitDefEqProofs only[go_sem,seval,↓reduceIte];refine endK_some ?_)
 refine CallP.pureE hG (by kernel_rfl) (must_spec G r.2) rfl ?_ ?_
 ·rintro v H' ⟨h0,rfl⟩
  exact ⟨r.2,by rw [← hv,if_neg h0],rfl⟩
 rintro v H' ⟨h0,rfl⟩
 rw [if_pos h0] at hv
 simp -implicitDefEqProofs only[go_sem,seval,↓reduceIte]
 repeat first
  | (refine AW.qr (by kernel_rfl) ?_;simp -implicitDefEqProofs only[go_sem,seval,↓reduceIte])
  | (refine AW.region (by kernel_rfl) ?_;simp -implicitDefEqProofs only[go_sem,seval,↓reduceIte])
  | refine AW.qq ?_
  | refine AW.block ?_
  | refine AW.qT rfl ?_
  | refine AW.qF rfl ?_
  | (refine AW.skip ?_;simp -implicitDefEqProofs only[go_sem,seval,↓reduceIte])
  | (refine AW.exit ?_;simp -implicitDefEqProofs only[go_sem,seval,↓reduceIte])
  | (refine AW.ret ?_;simp -implicitDefEqProofs only[go_sem,seval,↓reduceIte];refine endK_some ?_)
 subst hv
 exact ⟨(fun e h=>by cases h),rfl⟩
theorem worth_last (G:Nat→V) (hG:GOk G) (c1 c2:Col) (sl:Sl XN) (m:List (List UInt8 × Int)) (n:XN) (A B C:EV) (ho:n.op=6∨18≤n.op∧n.op≤22) (hA:OfC G sl m n.a A) (hB:n.op≠6→OfC G sl m n.b B) (hC:n.op=22→OfC G sl m n.c C) :
  SpecP Tryz.prog G (some (kpEV (nodeV m n A B C))) 92 [lkV c1 c2 sl m,encXN n] hNone (okEV (nodeV m n A B C)):=by
 have hN:nodeV m n A B C=A.onB fun a=>nodeV m n (.tru a) B C:=by
  unfold nodeV
  rcases ho with ho | ho
  ·rw [if_neg (by omega),if_pos (by omega)]
   cases A<;>simp only [unV2,if_neg (show ¬ n.op=5 by omega),EV.onB,if_neg (show ¬ n.op≤4 by omega),if_pos (show n.op≤6 by omega)]
  ·rw [if_neg (by omega),if_neg (by omega)]
   by_cases h22:n.op≤21
   ·rw [if_pos h22]
    unfold binV2
    rw [if_neg (by omega),if_neg (by omega),if_neg (by omega)]
    cases A<;>simp only [logicV,EV.onB,if_neg (show ¬ n.op≤4 by omega),if_neg (show ¬ n.op≤6 by omega),if_pos h22,if_neg (show ¬ n.op≤11 by omega),if_neg (show ¬ n.op≤15 by omega),if_neg (show ¬ n.op≤17 by omega)]
   ·rw [if_neg h22]
    cases A<;>simp only [EV.onB,if_neg (show ¬ n.op≤4 by omega),if_neg (show ¬ n.op≤6 by omega),if_neg h22]
 rw [hN]
 clear hN
 refine SpecP.of_code' 0 200 [.cell 4 34] Tryz.func92 rfl rfl rfl rfl fun X=>?_
 refine AW.seq_k fun K hK=>AW.region (by kernel_rfl) ?_
 simp -implicitDefEqProofs only[go_sem,seval,↓reduceIte,encXN_K,lkV]
 intro g3 g4
 refine hK _ ?_
 clear hK K
 refine AW.weak (Weak.stF (fun o=>o==3) (l:=[(0,.view c1 (.agg [encSl c2 6 encXN sl,.mapv (envKs m) (envVs m)])),(3,.view .new (.agg [.int .u8 n.op,.int .i64 n.num,.str n.name,.int .i64 n.a,.int .i64 n.b,.int .i64 n.c])),(4,.ptr 4 g4 0)]) (m:=[(4,.cells .new g4 0 [.int .u8 0,.int .i64 0,.bool false])]) ?_ ?_) ?_
 ·simp -implicitDefEqProofs only[go_sem,seval,↓reduceIte,encXN_K,lkV]
  exact ⟨Fz.same _,Fz.ptr (v := .agg [.int .u8 n.op,.int .i64 n.num,.str n.name,.int .i64 n.a,.int .i64 n.b,.int .i64 n.c]) (c := .new) (fz:=0) rfl (by simp -implicitDefEqProofs only[go_sem,seval,↓reduceIte];try rfl),Fz.same _⟩
 ·simp only [allFzO_cons,allFzO_nil,and_true]
  exact FzO.keep rfl (by simp -implicitDefEqProofs only[go_sem,seval,↓reduceIte];try rfl)
 refine AW.seq_k fun K1 hK1=>?_
 refine AW.seq_k fun K hK=>AW.regionT ⟨fun i=>if i=0 then recMap else .top,fun i=>if i=2 then .lend else .pure⟩ (by kernel_rfl) hG (by kernel_rfl) (by kernel_rfl) ?_
 simp -implicitDefEqProofs only[go_sem,seval,↓reduceIte,look_rec0 (op:=n.op) (by omega),rec_map]
 refine hK _ ?_
 clear hK K
 refine AW.seq_k fun K hK=>AW.region (by kernel_rfl) ?_
 simp -implicitDefEqProofs only[go_sem,seval,↓reduceIte]
 refine hK _ ?_
 clear hK K
 refine AW.condS (by simp -implicitDefEqProofs only[go_sem,seval,↓reduceIte];rfl) (fun h1=>?_) (fun h1=>?_)
 ·cases h1
 refine AW.skip ?_
 simp -implicitDefEqProofs only[go_sem,seval,↓reduceIte]
 refine hK1 _ ?_
 clear hK1 K1
 refine AW.seq_k fun K1 hK1=>?_
 refine AW.seq_k fun K hK=>AW.regionT ⟨fun i=>if i=0 then cmpMap else .top,fun i=>if i=2 then .lend else .pure⟩ (by kernel_rfl) hG (by kernel_rfl) (by kernel_rfl) ?_
 simp -implicitDefEqProofs only[go_sem,seval,↓reduceIte,look_cmp0 (op:=n.op) (by omega),cmp_map]
 refine hK _ ?_
 clear hK K
 refine AW.seq_k fun K hK=>AW.region (by kernel_rfl) ?_
 simp -implicitDefEqProofs only[go_sem,seval,↓reduceIte]
 refine hK _ ?_
 clear hK K
 refine AW.condS (by simp -implicitDefEqProofs only[go_sem,seval,↓reduceIte];rfl) (fun h1=>?_) (fun h1=>?_)
 ·cases h1
 refine AW.skip ?_
 simp -implicitDefEqProofs only[go_sem,seval,↓reduceIte]
 refine hK1 _ ?_
 clear hK1 K1
 refine AW.weak (Weak.st (l:=[(0,.view c1 (.agg [encSl c2 6 encXN sl,.mapv (envKs m) (envVs m)])),(3,.view .new (.agg [.int .u8 n.op,.int .i64 n.num,.str n.name,.int .i64 n.a,.int .i64 n.b,.int .i64 n.c])),(4,.ptr 4 g4 0)]) (m:=[(4,.cells .new g4 0 [.int .u8 0,.int .i64 0,.bool false])]) (by simp -implicitDefEqProofs only[go_sem,seval,↓reduceIte];try rfl) (by simp -implicitDefEqProofs only[go_sem,seval,↓reduceIte];try rfl)) ?_
 obtain ⟨op,num,name,na,nb,nc⟩:=n
 simp only at ho hA hB hC ⊢
 obtain rfl | rfl | rfl | rfl | rfl | rfl:op=6∨op=18∨op=19∨op=20∨op=21∨op=22:=by omega
 all_goals
  repeat first
   | (refine AW.qr (by kernel_rfl) ?_;simp -implicitDefEqProofs only[go_sem,seval,↓reduceIte])
   | (refine AW.region (by kernel_rfl) ?_;simp -implicitDefEqProofs only[go_sem,seval,↓reduceIte])
   | refine AW.qq ?_
   | refine AW.block ?_
   | refine AW.qT rfl ?_
   | refine AW.qF rfl ?_
   | (refine AW.skip ?_;simp -implicitDefEqProofs only[go_sem,seval,↓reduceIte])
   | (refine AW.exit ?_;simp -implicitDefEqProofs only[go_sem,seval,↓reduceIte])
   | (refine AW.ret ?_;simp -implicitDefEqProofs only[go_sem,seval,↓reduceIte];refine endK_some ?_)
  refine CallP.pureE hG (by kernel_rfl) (hA c1.ent c2.ent 2 (by decide)) (by simp -implicitDefEqProofs only[go_sem,seval,↓reduceIte,lkV]) ?_ ?_
  ·rintro v H' ⟨e,he,rfl⟩
   exact ⟨e,need2_err _ he,rfl⟩
  rintro v H' ⟨hne,rfl⟩
  obtain ⟨a,rfl⟩:=need2_ok hne
  rw [need2_tru,enc_tru]
  simp -implicitDefEqProofs only[go_sem,seval,↓reduceIte]
  refine AW.weak (Weak.st (l:=[(0,.view c1 (.agg [encSl c2 6 encXN sl,.mapv (envKs m) (envVs m)])),(3,.view .new (.agg [.int .u8 _,.int .i64 num,.str name,.int .i64 na,.int .i64 nb,.int .i64 nc])),(4,.ptr 4 g4 0),(17,.bool a)]) (m:=[(4,.cells .new g4 0 [.int .u8 0,.int .i64 0,.bool false])]) (by simp -implicitDefEqProofs only[go_sem,seval,↓reduceIte];try rfl) (by simp -implicitDefEqProofs only[go_sem,seval,↓reduceIte];try rfl)) ?_
  clear hA hne
 ·repeat first
   | (refine AW.qr (by kernel_rfl) ?_;simp -implicitDefEqProofs only[go_sem,seval,↓reduceIte])
   | (refine AW.region (by kernel_rfl) ?_;simp -implicitDefEqProofs only[go_sem,seval,↓reduceIte])
   | refine AW.qq ?_
   | refine AW.block ?_
   | refine AW.qT rfl ?_
   | refine AW.qF rfl ?_
   | (refine AW.skip ?_;simp -implicitDefEqProofs only[go_sem,seval,↓reduceIte])
   | (refine AW.exit ?_;simp -implicitDefEqProofs only[go_sem,seval,↓reduceIte])
   | (refine AW.ret ?_;simp -implicitDefEqProofs only[go_sem,seval,↓reduceIte];refine endK_some ?_)
  refine CallP.of (CallA.pure hG (by kernel_rfl) ?_)
  simp -implicitDefEqProofs only[go_sem,seval,↓reduceIte]
  refine (truth_spec G _).mono ?_
  rintro _ _ rfl
  rw [enc_tru]
  simp -implicitDefEqProofs only[go_sem,seval,↓reduceIte]
  repeat first
   | (refine AW.qr (by kernel_rfl) ?_;simp -implicitDefEqProofs only[go_sem,seval,↓reduceIte])
   | (refine AW.region (by kernel_rfl) ?_;simp -implicitDefEqProofs only[go_sem,seval,↓reduceIte])
   | refine AW.qq ?_
   | refine AW.block ?_
   | refine AW.qT rfl ?_
   | refine AW.qF rfl ?_
   | (refine AW.skip ?_;simp -implicitDefEqProofs only[go_sem,seval,↓reduceIte])
   | (refine AW.exit ?_;simp -implicitDefEqProofs only[go_sem,seval,↓reduceIte])
   | (refine AW.ret ?_;simp -implicitDefEqProofs only[go_sem,seval,↓reduceIte];refine endK_some ?_)
  exact ⟨(fun e h=>by cases h),rfl⟩
 ·cases a
  ·repeat first
    | (refine AW.qr (by kernel_rfl) ?_;simp -implicitDefEqProofs only[go_sem,seval,↓reduceIte])
    | (refine AW.region (by kernel_rfl) ?_;simp -implicitDefEqProofs only[go_sem,seval,↓reduceIte])
    | refine AW.qq ?_
    | refine AW.block ?_
    | refine AW.qT rfl ?_
    | refine AW.qF rfl ?_
    | (refine AW.skip ?_;simp -implicitDefEqProofs only[go_sem,seval,↓reduceIte])
    | (refine AW.exit ?_;simp -implicitDefEqProofs only[go_sem,seval,↓reduceIte])
    | (refine AW.ret ?_;simp -implicitDefEqProofs only[go_sem,seval,↓reduceIte];refine endK_some ?_)
   refine CallP.of (CallA.pure hG (by kernel_rfl) ?_)
   simp -implicitDefEqProofs only[go_sem,seval,↓reduceIte]
   refine (truth_spec G _).mono ?_
   rintro _ _ rfl
   rw [enc_tru]
   simp -implicitDefEqProofs only[go_sem,seval,↓reduceIte]
   repeat first
    | (refine AW.qr (by kernel_rfl) ?_;simp -implicitDefEqProofs only[go_sem,seval,↓reduceIte])
    | (refine AW.region (by kernel_rfl) ?_;simp -implicitDefEqProofs only[go_sem,seval,↓reduceIte])
    | refine AW.qq ?_
    | refine AW.block ?_
    | refine AW.qT rfl ?_
    | refine AW.qF rfl ?_
    | (refine AW.skip ?_;simp -implicitDefEqProofs only[go_sem,seval,↓reduceIte])
    | (refine AW.exit ?_;simp -implicitDefEqProofs only[go_sem,seval,↓reduceIte])
    | (refine AW.ret ?_;simp -implicitDefEqProofs only[go_sem,seval,↓reduceIte];refine endK_some ?_)
   exact ⟨(fun e h=>by cases h),rfl⟩
  ·have hR:(EV.tru true).onB (fun a=>nodeV m ⟨18,num,name,na,nb,nc⟩ (.tru a) B C)=B.onB fun b => .tru b:=rfl
   rw [hR]
   repeat first
    | (refine AW.qr (by kernel_rfl) ?_;simp -implicitDefEqProofs only[go_sem,seval,↓reduceIte])
    | (refine AW.region (by kernel_rfl) ?_;simp -implicitDefEqProofs only[go_sem,seval,↓reduceIte])
    | refine AW.qq ?_
    | refine AW.block ?_
    | refine AW.qT rfl ?_
    | refine AW.qF rfl ?_
    | (refine AW.skip ?_;simp -implicitDefEqProofs only[go_sem,seval,↓reduceIte])
    | (refine AW.exit ?_;simp -implicitDefEqProofs only[go_sem,seval,↓reduceIte])
    | (refine AW.ret ?_;simp -implicitDefEqProofs only[go_sem,seval,↓reduceIte];refine endK_some ?_)
   refine CallP.pureE hG (by kernel_rfl) ((hB (by decide)) c1.ent c2.ent 2 (by decide)) (by simp -implicitDefEqProofs only[go_sem,seval,↓reduceIte,lkV]) ?_ ?_
   ·rintro v H' ⟨e,he,rfl⟩
    exact ⟨e,need2_err _ he,rfl⟩
   rintro v H' ⟨hne,rfl⟩
   obtain ⟨b,rfl⟩:=need2_ok hne
   rw [need2_tru,enc_tru]
   simp -implicitDefEqProofs only[go_sem,seval,↓reduceIte]
   repeat first
    | (refine AW.qr (by kernel_rfl) ?_;simp -implicitDefEqProofs only[go_sem,seval,↓reduceIte])
    | (refine AW.region (by kernel_rfl) ?_;simp -implicitDefEqProofs only[go_sem,seval,↓reduceIte])
    | refine AW.qq ?_
    | refine AW.block ?_
    | refine AW.qT rfl ?_
    | refine AW.qF rfl ?_
    | (refine AW.skip ?_;simp -implicitDefEqProofs only[go_sem,seval,↓reduceIte])
    | (refine AW.exit ?_;simp -implicitDefEqProofs only[go_sem,seval,↓reduceIte])
    | (refine AW.ret ?_;simp -implicitDefEqProofs only[go_sem,seval,↓reduceIte];refine endK_some ?_)
   exact ⟨(fun e h=>by cases h),rfl⟩
 ·cases a
  ·have hR:(EV.tru false).onB (fun a=>nodeV m ⟨19,num,name,na,nb,nc⟩ (.tru a) B C)=B.onB fun b => .tru b:=rfl
   rw [hR]
   repeat first
    | (refine AW.qr (by kernel_rfl) ?_;simp -implicitDefEqProofs only[go_sem,seval,↓reduceIte])
    | (refine AW.region (by kernel_rfl) ?_;simp -implicitDefEqProofs only[go_sem,seval,↓reduceIte])
    | refine AW.qq ?_
    | refine AW.block ?_
    | refine AW.qT rfl ?_
    | refine AW.qF rfl ?_
    | (refine AW.skip ?_;simp -implicitDefEqProofs only[go_sem,seval,↓reduceIte])
    | (refine AW.exit ?_;simp -implicitDefEqProofs only[go_sem,seval,↓reduceIte])
    | (refine AW.ret ?_;simp -implicitDefEqProofs only[go_sem,seval,↓reduceIte];refine endK_some ?_)
   refine CallP.pureE hG (by kernel_rfl) ((hB (by decide)) c1.ent c2.ent 2 (by decide)) (by simp -implicitDefEqProofs only[go_sem,seval,↓reduceIte,lkV]) ?_ ?_
   ·rintro v H' ⟨e,he,rfl⟩
    exact ⟨e,need2_err _ he,rfl⟩
   rintro v H' ⟨hne,rfl⟩
   obtain ⟨b,rfl⟩:=need2_ok hne
   rw [need2_tru,enc_tru]
   simp -implicitDefEqProofs only[go_sem,seval,↓reduceIte]
   repeat first
    | (refine AW.qr (by kernel_rfl) ?_;simp -implicitDefEqProofs only[go_sem,seval,↓reduceIte])
    | (refine AW.region (by kernel_rfl) ?_;simp -implicitDefEqProofs only[go_sem,seval,↓reduceIte])
    | refine AW.qq ?_
    | refine AW.block ?_
    | refine AW.qT rfl ?_
    | refine AW.qF rfl ?_
    | (refine AW.skip ?_;simp -implicitDefEqProofs only[go_sem,seval,↓reduceIte])
    | (refine AW.exit ?_;simp -implicitDefEqProofs only[go_sem,seval,↓reduceIte])
    | (refine AW.ret ?_;simp -implicitDefEqProofs only[go_sem,seval,↓reduceIte];refine endK_some ?_)
   exact ⟨(fun e h=>by cases h),rfl⟩
  ·repeat first
    | (refine AW.qr (by kernel_rfl) ?_;simp -implicitDefEqProofs only[go_sem,seval,↓reduceIte])
    | (refine AW.region (by kernel_rfl) ?_;simp -implicitDefEqProofs only[go_sem,seval,↓reduceIte])
    | refine AW.qq ?_
    | refine AW.block ?_
    | refine AW.qT rfl ?_
    | refine AW.qF rfl ?_
    | (refine AW.skip ?_;simp -implicitDefEqProofs only[go_sem,seval,↓reduceIte])
    | (refine AW.exit ?_;simp -implicitDefEqProofs only[go_sem,seval,↓reduceIte])
    | (refine AW.ret ?_;simp -implicitDefEqProofs only[go_sem,seval,↓reduceIte];refine endK_some ?_)
   refine CallP.of (CallA.pure hG (by kernel_rfl) ?_)
   simp -implicitDefEqProofs only[go_sem,seval,↓reduceIte]
   refine (truth_spec G _).mono ?_
   rintro _ _ rfl
   rw [enc_tru]
   simp -implicitDefEqProofs only[go_sem,seval,↓reduceIte]
   repeat first
    | (refine AW.qr (by kernel_rfl) ?_;simp -implicitDefEqProofs only[go_sem,seval,↓reduceIte])
    | (refine AW.region (by kernel_rfl) ?_;simp -implicitDefEqProofs only[go_sem,seval,↓reduceIte])
    | refine AW.qq ?_
    | refine AW.block ?_
    | refine AW.qT rfl ?_
    | refine AW.qF rfl ?_
    | (refine AW.skip ?_;simp -implicitDefEqProofs only[go_sem,seval,↓reduceIte])
    | (refine AW.exit ?_;simp -implicitDefEqProofs only[go_sem,seval,↓reduceIte])
    | (refine AW.ret ?_;simp -implicitDefEqProofs only[go_sem,seval,↓reduceIte];refine endK_some ?_)
   exact ⟨(fun e h=>by cases h),rfl⟩
 ·have hR:(EV.tru a).onB (fun a=>nodeV m ⟨20,num,name,na,nb,nc⟩ (.tru a) B C)=B.onB fun b => .tru (a != b):=by cases a<;>rfl
  rw [hR]
  repeat first
   | (refine AW.qr (by kernel_rfl) ?_;simp -implicitDefEqProofs only[go_sem,seval,↓reduceIte])
   | (refine AW.region (by kernel_rfl) ?_;simp -implicitDefEqProofs only[go_sem,seval,↓reduceIte])
   | refine AW.qq ?_
   | refine AW.block ?_
   | refine AW.qT rfl ?_
   | refine AW.qF rfl ?_
   | (refine AW.skip ?_;simp -implicitDefEqProofs only[go_sem,seval,↓reduceIte])
   | (refine AW.exit ?_;simp -implicitDefEqProofs only[go_sem,seval,↓reduceIte])
   | (refine AW.ret ?_;simp -implicitDefEqProofs only[go_sem,seval,↓reduceIte];refine endK_some ?_)
  refine CallP.pureE hG (by kernel_rfl) ((hB (by decide)) c1.ent c2.ent 2 (by decide)) (by simp -implicitDefEqProofs only[go_sem,seval,↓reduceIte,lkV]) ?_ ?_
  ·rintro v H' ⟨e,he,rfl⟩
   exact ⟨e,need2_err _ he,rfl⟩
  rintro v H' ⟨hne,rfl⟩
  obtain ⟨b,rfl⟩:=need2_ok hne
  rw [need2_tru,enc_tru]
  simp -implicitDefEqProofs only[go_sem,seval,↓reduceIte]
  refine CallP.of (CallA.pure hG (by kernel_rfl) ?_)
  simp -implicitDefEqProofs only[go_sem,seval,↓reduceIte]
  refine (truth_spec G _).mono ?_
  rintro _ _ rfl
  rw [enc_tru]
  simp -implicitDefEqProofs only[go_sem,seval,↓reduceIte]
  repeat first
   | (refine AW.qr (by kernel_rfl) ?_;simp -implicitDefEqProofs only[go_sem,seval,↓reduceIte])
   | (refine AW.region (by kernel_rfl) ?_;simp -implicitDefEqProofs only[go_sem,seval,↓reduceIte])
   | refine AW.qq ?_
   | refine AW.block ?_
   | refine AW.qT rfl ?_
   | refine AW.qF rfl ?_
   | (refine AW.skip ?_;simp -implicitDefEqProofs only[go_sem,seval,↓reduceIte])
   | (refine AW.exit ?_;simp -implicitDefEqProofs only[go_sem,seval,↓reduceIte])
   | (refine AW.ret ?_;simp -implicitDefEqProofs only[go_sem,seval,↓reduceIte];refine endK_some ?_)
  exact ⟨(fun e h=>by cases h),rfl⟩
 ·cases a
  ·repeat first
    | (refine AW.qr (by kernel_rfl) ?_;simp -implicitDefEqProofs only[go_sem,seval,↓reduceIte])
    | (refine AW.region (by kernel_rfl) ?_;simp -implicitDefEqProofs only[go_sem,seval,↓reduceIte])
    | refine AW.qq ?_
    | refine AW.block ?_
    | refine AW.qT rfl ?_
    | refine AW.qF rfl ?_
    | (refine AW.skip ?_;simp -implicitDefEqProofs only[go_sem,seval,↓reduceIte])
    | (refine AW.exit ?_;simp -implicitDefEqProofs only[go_sem,seval,↓reduceIte])
    | (refine AW.ret ?_;simp -implicitDefEqProofs only[go_sem,seval,↓reduceIte];refine endK_some ?_)
   refine CallP.of (CallA.pure hG (by kernel_rfl) ?_)
   simp -implicitDefEqProofs only[go_sem,seval,↓reduceIte]
   refine (truth_spec G _).mono ?_
   rintro _ _ rfl
   rw [enc_tru]
   simp -implicitDefEqProofs only[go_sem,seval,↓reduceIte]
   repeat first
    | (refine AW.qr (by kernel_rfl) ?_;simp -implicitDefEqProofs only[go_sem,seval,↓reduceIte])
    | (refine AW.region (by kernel_rfl) ?_;simp -implicitDefEqProofs only[go_sem,seval,↓reduceIte])
    | refine AW.qq ?_
    | refine AW.block ?_
    | refine AW.qT rfl ?_
    | refine AW.qF rfl ?_
    | (refine AW.skip ?_;simp -implicitDefEqProofs only[go_sem,seval,↓reduceIte])
    | (refine AW.exit ?_;simp -implicitDefEqProofs only[go_sem,seval,↓reduceIte])
    | (refine AW.ret ?_;simp -implicitDefEqProofs only[go_sem,seval,↓reduceIte];refine endK_some ?_)
   exact ⟨(fun e h=>by cases h),rfl⟩
  ·have hR:(EV.tru true).onB (fun a=>nodeV m ⟨21,num,name,na,nb,nc⟩ (.tru a) B C)=B.onB fun b => .tru b:=rfl
   rw [hR]
   repeat first
    | (refine AW.qr (by kernel_rfl) ?_;simp -implicitDefEqProofs only[go_sem,seval,↓reduceIte])
    | (refine AW.region (by kernel_rfl) ?_;simp -implicitDefEqProofs only[go_sem,seval,↓reduceIte])
    | refine AW.qq ?_
    | refine AW.block ?_
    | refine AW.qT rfl ?_
    | refine AW.qF rfl ?_
    | (refine AW.skip ?_;simp -implicitDefEqProofs only[go_sem,seval,↓reduceIte])
    | (refine AW.exit ?_;simp -implicitDefEqProofs only[go_sem,seval,↓reduceIte])
    | (refine AW.ret ?_;simp -implicitDefEqProofs only[go_sem,seval,↓reduceIte];refine endK_some ?_)
   refine CallP.pureE hG (by kernel_rfl) ((hB (by decide)) c1.ent c2.ent 2 (by decide)) (by simp -implicitDefEqProofs only[go_sem,seval,↓reduceIte,lkV]) ?_ ?_
   ·rintro v H' ⟨e,he,rfl⟩
    exact ⟨e,need2_err _ he,rfl⟩
   rintro v H' ⟨hne,rfl⟩
   obtain ⟨b,rfl⟩:=need2_ok hne
   rw [need2_tru,enc_tru]
   simp -implicitDefEqProofs only[go_sem,seval,↓reduceIte]
   repeat first
    | (refine AW.qr (by kernel_rfl) ?_;simp -implicitDefEqProofs only[go_sem,seval,↓reduceIte])
    | (refine AW.region (by kernel_rfl) ?_;simp -implicitDefEqProofs only[go_sem,seval,↓reduceIte])
    | refine AW.qq ?_
    | refine AW.block ?_
    | refine AW.qT rfl ?_
    | refine AW.qF rfl ?_
    | (refine AW.skip ?_;simp -implicitDefEqProofs only[go_sem,seval,↓reduceIte])
    | (refine AW.exit ?_;simp -implicitDefEqProofs only[go_sem,seval,↓reduceIte])
    | (refine AW.ret ?_;simp -implicitDefEqProofs only[go_sem,seval,↓reduceIte];refine endK_some ?_)
   exact ⟨(fun e h=>by cases h),rfl⟩
 ·cases a
  ·have hR:(EV.tru false).onB (fun a=>nodeV m ⟨22,num,name,na,nb,nc⟩ (.tru a) B C)=C:=rfl
   rw [hR]
   repeat first
    | (refine AW.qr (by kernel_rfl) ?_;simp -implicitDefEqProofs only[go_sem,seval,↓reduceIte])
    | (refine AW.region (by kernel_rfl) ?_;simp -implicitDefEqProofs only[go_sem,seval,↓reduceIte])
    | refine AW.qq ?_
    | refine AW.block ?_
    | refine AW.qT rfl ?_
    | refine AW.qF rfl ?_
    | (refine AW.skip ?_;simp -implicitDefEqProofs only[go_sem,seval,↓reduceIte])
    | (refine AW.exit ?_;simp -implicitDefEqProofs only[go_sem,seval,↓reduceIte])
    | (refine AW.ret ?_;simp -implicitDefEqProofs only[go_sem,seval,↓reduceIte];refine endK_some ?_)
   refine CallP.pureE hG (by kernel_rfl) ((hC rfl) c1.ent c2.ent 0 (by decide)) (by simp -implicitDefEqProofs only[go_sem,seval,↓reduceIte,lkV]) ?_ ?_
   ·rintro v H' ⟨e,he,rfl⟩
    rw [need0] at he
    exact ⟨e,he,rfl⟩
   rintro v H' ⟨hne,rfl⟩
   rw [need0] at hne ⊢
   simp -implicitDefEqProofs only[go_sem,seval,↓reduceIte,encEV]
   repeat first
    | (refine AW.qr (by kernel_rfl) ?_;simp -implicitDefEqProofs only[go_sem,seval,↓reduceIte])
    | (refine AW.region (by kernel_rfl) ?_;simp -implicitDefEqProofs only[go_sem,seval,↓reduceIte])
    | refine AW.qq ?_
    | refine AW.block ?_
    | refine AW.qT rfl ?_
    | refine AW.qF rfl ?_
    | (refine AW.skip ?_;simp -implicitDefEqProofs only[go_sem,seval,↓reduceIte])
    | (refine AW.exit ?_;simp -implicitDefEqProofs only[go_sem,seval,↓reduceIte])
    | (refine AW.ret ?_;simp -implicitDefEqProofs only[go_sem,seval,↓reduceIte];refine endK_some ?_)
   exact ⟨hne,rfl⟩
  ·have hR:(EV.tru true).onB (fun a=>nodeV m ⟨22,num,name,na,nb,nc⟩ (.tru a) B C)=B:=rfl
   rw [hR]
   repeat first
    | (refine AW.qr (by kernel_rfl) ?_;simp -implicitDefEqProofs only[go_sem,seval,↓reduceIte])
    | (refine AW.region (by kernel_rfl) ?_;simp -implicitDefEqProofs only[go_sem,seval,↓reduceIte])
    | refine AW.qq ?_
    | refine AW.block ?_
    | refine AW.qT rfl ?_
    | refine AW.qF rfl ?_
    | (refine AW.skip ?_;simp -implicitDefEqProofs only[go_sem,seval,↓reduceIte])
    | (refine AW.exit ?_;simp -implicitDefEqProofs only[go_sem,seval,↓reduceIte])
    | (refine AW.ret ?_;simp -implicitDefEqProofs only[go_sem,seval,↓reduceIte];refine endK_some ?_)
   refine CallP.pureE hG (by kernel_rfl) ((hB (by decide)) c1.ent c2.ent 0 (by decide)) (by simp -implicitDefEqProofs only[go_sem,seval,↓reduceIte,lkV]) ?_ ?_
   ·rintro v H' ⟨e,he,rfl⟩
    rw [need0] at he
    exact ⟨e,he,rfl⟩
   rintro v H' ⟨hne,rfl⟩
   rw [need0] at hne ⊢
   simp -implicitDefEqProofs only[go_sem,seval,↓reduceIte,encEV]
   repeat first
    | (refine AW.qr (by kernel_rfl) ?_;simp -implicitDefEqProofs only[go_sem,seval,↓reduceIte])
    | (refine AW.region (by kernel_rfl) ?_;simp -implicitDefEqProofs only[go_sem,seval,↓reduceIte])
    | refine AW.qq ?_
    | refine AW.block ?_
    | refine AW.qT rfl ?_
    | refine AW.qF rfl ?_
    | (refine AW.skip ?_;simp -implicitDefEqProofs only[go_sem,seval,↓reduceIte])
    | (refine AW.exit ?_;simp -implicitDefEqProofs only[go_sem,seval,↓reduceIte])
    | (refine AW.ret ?_;simp -implicitDefEqProofs only[go_sem,seval,↓reduceIte];refine endK_some ?_)
   exact ⟨hne,rfl⟩
theorem alike_num (op a b:Int):alikeV op (.num a) (.num b) = .tru ((a==b)==(op==16)):=by
 have:(EV.num a==EV.num b)=(a==b):=by rw [Bool.eq_iff_iff];simp
 show (if (1:Int)=1 then EV.tru ((EV.num a==EV.num b)==(op==16)) else EV.err 90)=_
 rw [if_pos rfl,this]
theorem alike_tru (op:Int) (a b:Bool):alikeV op (.tru a) (.tru b) = .tru ((a==b)==(op==16)):=by
 have:(EV.tru a==EV.tru b)=(a==b):=by rw [Bool.eq_iff_iff];simp
 show (if (2:Int)=2 then EV.tru ((EV.tru a==EV.tru b)==(op==16)) else EV.err 90)=_
 rw [if_pos rfl,this]
theorem worth_eq (G:Nat→V) (hG:GOk G) (c1 c2:Col) (sl:Sl XN) (m:List (List UInt8 × Int)) (n:XN) (A B C:EV) (ho:16≤n.op∧n.op≤17) (hA:OfC G sl m n.a A) (hB:OfC G sl m n.b B) :
  SpecP Tryz.prog G (some (kpEV (nodeV m n A B C))) 92 [lkV c1 c2 sl m,encXN n] hNone (okEV (nodeV m n A B C)):=by
 have hN:nodeV m n A B C=alikeV n.op A B:=by
  unfold nodeV binV2
  rw [if_neg (by omega),if_neg (by omega),if_pos (by omega),if_neg (by omega),if_neg (by omega),if_pos (by omega)]
 rw [hN]
 refine SpecP.of_code' 0 200 [.cell 4 34] Tryz.func92 rfl rfl rfl rfl fun X=>?_
 refine AW.seq_k fun K hK=>AW.region (by kernel_rfl) ?_
 simp -implicitDefEqProofs only[go_sem,seval,↓reduceIte,encXN_K,lkV]
 intro g3 g4
 refine hK _ ?_
 clear hK K
 refine AW.weak (Weak.stF (fun o=>o==3) (l:=[(0,.view c1 (.agg [encSl c2 6 encXN sl,.mapv (envKs m) (envVs m)])),(3,.view .new (.agg [.int .u8 n.op,.int .i64 n.num,.str n.name,.int .i64 n.a,.int .i64 n.b,.int .i64 n.c])),(4,.ptr 4 g4 0)]) (m:=[(4,.cells .new g4 0 [.int .u8 0,.int .i64 0,.bool false])]) ?_ ?_) ?_
 ·simp -implicitDefEqProofs only[go_sem,seval,↓reduceIte,encXN_K,lkV]
  exact ⟨Fz.same _,Fz.ptr (v := .agg [.int .u8 n.op,.int .i64 n.num,.str n.name,.int .i64 n.a,.int .i64 n.b,.int .i64 n.c]) (c := .new) (fz:=0) rfl (by simp -implicitDefEqProofs only[go_sem,seval,↓reduceIte];try rfl),Fz.same _⟩
 ·simp only [allFzO_cons,allFzO_nil,and_true]
  exact FzO.keep rfl (by simp -implicitDefEqProofs only[go_sem,seval,↓reduceIte];try rfl)
 refine AW.seq_k fun K1 hK1=>?_
 refine AW.seq_k fun K hK=>AW.regionT ⟨fun i=>if i=0 then recMap else .top,fun i=>if i=2 then .lend else .pure⟩ (by kernel_rfl) hG (by kernel_rfl) (by kernel_rfl) ?_
 simp -implicitDefEqProofs only[go_sem,seval,↓reduceIte,look_rec0 (op:=n.op) (by omega),rec_map]
 refine hK _ ?_
 clear hK K
 refine AW.seq_k fun K hK=>AW.region (by kernel_rfl) ?_
 simp -implicitDefEqProofs only[go_sem,seval,↓reduceIte]
 refine hK _ ?_
 clear hK K
 refine AW.condS (by simp -implicitDefEqProofs only[go_sem,seval,↓reduceIte];rfl) (fun h1=>?_) (fun h1=>?_)
 ·cases h1
 refine AW.skip ?_
 simp -implicitDefEqProofs only[go_sem,seval,↓reduceIte]
 refine hK1 _ ?_
 clear hK1 K1
 refine AW.seq_k fun K1 hK1=>?_
 refine AW.seq_k fun K hK=>AW.regionT ⟨fun i=>if i=0 then cmpMap else .top,fun i=>if i=2 then .lend else .pure⟩ (by kernel_rfl) hG (by kernel_rfl) (by kernel_rfl) ?_
 simp -implicitDefEqProofs only[go_sem,seval,↓reduceIte,look_cmp0 (op:=n.op) (by omega),cmp_map]
 refine hK _ ?_
 clear hK K
 refine AW.seq_k fun K hK=>AW.region (by kernel_rfl) ?_
 simp -implicitDefEqProofs only[go_sem,seval,↓reduceIte]
 refine hK _ ?_
 clear hK K
 refine AW.condS (by simp -implicitDefEqProofs only[go_sem,seval,↓reduceIte];rfl) (fun h1=>?_) (fun h1=>?_)
 ·cases h1
 refine AW.skip ?_
 simp -implicitDefEqProofs only[go_sem,seval,↓reduceIte]
 refine hK1 _ ?_
 clear hK1 K1
 refine AW.weak (Weak.st (l:=[(0,.view c1 (.agg [encSl c2 6 encXN sl,.mapv (envKs m) (envVs m)])),(3,.view .new (.agg [.int .u8 n.op,.int .i64 n.num,.str n.name,.int .i64 n.a,.int .i64 n.b,.int .i64 n.c])),(4,.ptr 4 g4 0)]) (m:=[(4,.cells .new g4 0 [.int .u8 0,.int .i64 0,.bool false])]) (by simp -implicitDefEqProofs only[go_sem,seval,↓reduceIte];try rfl) (by simp -implicitDefEqProofs only[go_sem,seval,↓reduceIte];try rfl)) ?_
 obtain ⟨op,num,name,na,nb,nc⟩:=n
 simp only at ho hA hB ⊢
 obtain rfl | rfl:op=16∨op=17:=by omega
 ·repeat first
   | (refine AW.qr (by kernel_rfl) ?_;simp -implicitDefEqProofs only[go_sem,seval,↓reduceIte])
   | (refine AW.region (by kernel_rfl) ?_;simp -implicitDefEqProofs only[go_sem,seval,↓reduceIte])
   | refine AW.qq ?_
   | refine AW.block ?_
   | refine AW.qT rfl ?_
   | refine AW.qF rfl ?_
   | (refine AW.skip ?_;simp -implicitDefEqProofs only[go_sem,seval,↓reduceIte])
   | (refine AW.exit ?_;simp -implicitDefEqProofs only[go_sem,seval,↓reduceIte])
   | (refine AW.ret ?_;simp -implicitDefEqProofs only[go_sem,seval,↓reduceIte];refine endK_some ?_)
  refine CallP.pureE hG (by kernel_rfl) (hA c1.ent c2.ent 0 (by decide)) (by simp -implicitDefEqProofs only[go_sem,seval,↓reduceIte,lkV]) ?_ ?_
  ·rintro v H' ⟨e,he,rfl⟩
   rw [need0] at he
   exact ⟨e,by rw [he];rfl,rfl⟩
  rintro v H' ⟨hne,rfl⟩
  rw [need0] at hne ⊢
  simp -implicitDefEqProofs only[go_sem,seval,↓reduceIte,encEV]
  intro g15
  repeat first
   | (refine AW.qr (by kernel_rfl) ?_;simp -implicitDefEqProofs only[go_sem,seval,↓reduceIte])
   | (refine AW.region (by kernel_rfl) ?_;simp -implicitDefEqProofs only[go_sem,seval,↓reduceIte])
   | refine AW.qq ?_
   | refine AW.block ?_
   | refine AW.qT rfl ?_
   | refine AW.qF rfl ?_
   | (refine AW.skip ?_;simp -implicitDefEqProofs only[go_sem,seval,↓reduceIte])
   | (refine AW.exit ?_;simp -implicitDefEqProofs only[go_sem,seval,↓reduceIte])
   | (refine AW.ret ?_;simp -implicitDefEqProofs only[go_sem,seval,↓reduceIte];refine endK_some ?_)
  refine CallP.pureE hG (by kernel_rfl) (hB c1.ent c2.ent 0 (by decide)) (by simp -implicitDefEqProofs only[go_sem,seval,↓reduceIte,lkV]) ?_ ?_
  ·rintro v H' ⟨e,he,rfl⟩
   rw [need0] at he
   refine ⟨e,?_,rfl⟩
   rw [he]
   cases A with
   | err e'=>exact absurd rfl (hne e')
   | num=>rfl
   | tru=>rfl
  rintro v H' ⟨hne2,rfl⟩
  rw [need0] at hne2 ⊢
  simp -implicitDefEqProofs only[go_sem,seval,↓reduceIte,encEV]
  intro g16
  refine AW.weak (Weak.stF (fun o=>o==15 || o==16) (l:=[(3,.view .new (.agg [.int .u8 16,.int .i64 num,.str name,.int .i64 na,.int .i64 nb,.int .i64 nc])),(4,.ptr 4 g4 0),(15,.view .new (.agg [.int .u8 A.kind,.int .i64 A.nm,.bool A.tr])),(16,.view .new (.agg [.int .u8 B.kind,.int .i64 B.nm,.bool B.tr]))]) (m:=[(4,.cells .new g4 0 [.int .u8 0,.int .i64 0,.bool false])]) ?_ ?_) ?_
  ·simp -implicitDefEqProofs only[go_sem,seval,↓reduceIte]
   refine ⟨Fz.same _,Fz.same _,?_,?_⟩
   ·exact Fz.ptr (v := .agg [.int .u8 A.kind,.int .i64 A.nm,.bool A.tr]) (c := .new) (fz:=0) rfl (by simp -implicitDefEqProofs only[go_sem,seval,↓reduceIte];try rfl)
   ·exact Fz.ptr (v := .agg [.int .u8 B.kind,.int .i64 B.nm,.bool B.tr]) (c := .new) (fz:=0) rfl (by simp -implicitDefEqProofs only[go_sem,seval,↓reduceIte];try rfl)
  ·simp only [allFzO_cons,allFzO_nil,and_true]
   exact FzO.keep rfl (by simp -implicitDefEqProofs only[go_sem,seval,↓reduceIte];try rfl)
  cases A with
  | err e'=>exact absurd rfl (hne e')
  | num a =>
   cases B with
   | err e'=>exact absurd rfl (hne2 e')
   | num b =>
    simp only [EV.kind,EV.nm,EV.tr]
    repeat first
     | (refine AW.qr (by kernel_rfl) ?_;simp -implicitDefEqProofs only[go_sem,seval,↓reduceIte])
     | (refine AW.region (by kernel_rfl) ?_;simp -implicitDefEqProofs only[go_sem,seval,↓reduceIte])
     | refine AW.qq ?_
     | refine AW.block ?_
     | refine AW.qT rfl ?_
     | refine AW.qF rfl ?_
     | (refine AW.skip ?_;simp -implicitDefEqProofs only[go_sem,seval,↓reduceIte])
     | (refine AW.exit ?_;simp -implicitDefEqProofs only[go_sem,seval,↓reduceIte])
     | (refine AW.ret ?_;simp -implicitDefEqProofs only[go_sem,seval,↓reduceIte];refine endK_some ?_)
    refine AW.regionT ⟨fun i=>if i=7 then encEV (.tru ((a==b)==true)) else .top,fun i=>if i=0 then .lend else if i=1 then .lend else if i=4 then .lend else .pure⟩ (by kernel_rfl) hG (by kernel_rfl) (by kernel_rfl) ?_
    simp -implicitDefEqProofs only[go_sem,seval,↓reduceIte,enc_tru]
    refine ⟨by simp only [Bool.true_and,Bool.and_true];exact truth_pure G _,?_⟩
    repeat first
     | (refine AW.qr (by kernel_rfl) ?_;simp -implicitDefEqProofs only[go_sem,seval,↓reduceIte])
     | (refine AW.region (by kernel_rfl) ?_;simp -implicitDefEqProofs only[go_sem,seval,↓reduceIte])
     | refine AW.qq ?_
     | refine AW.block ?_
     | refine AW.qT rfl ?_
     | refine AW.qF rfl ?_
     | (refine AW.skip ?_;simp -implicitDefEqProofs only[go_sem,seval,↓reduceIte])
     | (refine AW.exit ?_;simp -implicitDefEqProofs only[go_sem,seval,↓reduceIte])
     | (refine AW.ret ?_;simp -implicitDefEqProofs only[go_sem,seval,↓reduceIte];refine endK_some ?_)
    rw [alike_num]
    exact ⟨(fun e h=>by cases h),rfl⟩
   | tru b =>
    simp only [EV.kind,EV.nm,EV.tr]
    repeat first
     | (refine AW.qr (by kernel_rfl) ?_;simp -implicitDefEqProofs only[go_sem,seval,↓reduceIte])
     | (refine AW.region (by kernel_rfl) ?_;simp -implicitDefEqProofs only[go_sem,seval,↓reduceIte])
     | refine AW.qq ?_
     | refine AW.block ?_
     | refine AW.qT rfl ?_
     | refine AW.qF rfl ?_
     | (refine AW.skip ?_;simp -implicitDefEqProofs only[go_sem,seval,↓reduceIte])
     | (refine AW.exit ?_;simp -implicitDefEqProofs only[go_sem,seval,↓reduceIte])
     | (refine AW.ret ?_;simp -implicitDefEqProofs only[go_sem,seval,↓reduceIte];refine endK_some ?_)
    exact CallP.pureE hG (by kernel_rfl) (must_spec G 90) rfl (fun v H' h=>⟨90,rfl,by rw [h.2];rfl⟩) fun v H' h=>absurd h.1 (by decide)
  | tru a =>
   cases B with
   | err e'=>exact absurd rfl (hne2 e')
   | num b =>
    simp only [EV.kind,EV.nm,EV.tr]
    repeat first
     | (refine AW.qr (by kernel_rfl) ?_;simp -implicitDefEqProofs only[go_sem,seval,↓reduceIte])
     | (refine AW.region (by kernel_rfl) ?_;simp -implicitDefEqProofs only[go_sem,seval,↓reduceIte])
     | refine AW.qq ?_
     | refine AW.block ?_
     | refine AW.qT rfl ?_
     | refine AW.qF rfl ?_
     | (refine AW.skip ?_;simp -implicitDefEqProofs only[go_sem,seval,↓reduceIte])
     | (refine AW.exit ?_;simp -implicitDefEqProofs only[go_sem,seval,↓reduceIte])
     | (refine AW.ret ?_;simp -implicitDefEqProofs only[go_sem,seval,↓reduceIte];refine endK_some ?_)
    exact CallP.pureE hG (by kernel_rfl) (must_spec G 90) rfl (fun v H' h=>⟨90,rfl,by rw [h.2];rfl⟩) fun v H' h=>absurd h.1 (by decide)
   | tru b =>
    simp only [EV.kind,EV.nm,EV.tr]
    repeat first
     | (refine AW.qr (by kernel_rfl) ?_;simp -implicitDefEqProofs only[go_sem,seval,↓reduceIte])
     | (refine AW.region (by kernel_rfl) ?_;simp -implicitDefEqProofs only[go_sem,seval,↓reduceIte])
     | refine AW.qq ?_
     | refine AW.block ?_
     | refine AW.qT rfl ?_
     | refine AW.qF rfl ?_
     | (refine AW.skip ?_;simp -implicitDefEqProofs only[go_sem,seval,↓reduceIte])
     | (refine AW.exit ?_;simp -implicitDefEqProofs only[go_sem,seval,↓reduceIte])
     | (refine AW.ret ?_;simp -implicitDefEqProofs only[go_sem,seval,↓reduceIte];refine endK_some ?_)
    refine AW.regionT ⟨fun i=>if i=7 then encEV (.tru ((a==b)==true)) else .top,fun i=>if i=0 then .lend else if i=1 then .lend else if i=4 then .lend else .pure⟩ (by kernel_rfl) hG (by kernel_rfl) (by kernel_rfl) ?_
    simp -implicitDefEqProofs only[go_sem,seval,↓reduceIte,enc_tru]
    refine ⟨by simp only [Bool.true_and,Bool.and_true];exact truth_pure G _,?_⟩
    repeat first
     | (refine AW.qr (by kernel_rfl) ?_;simp -implicitDefEqProofs only[go_sem,seval,↓reduceIte])
     | (refine AW.region (by kernel_rfl) ?_;simp -implicitDefEqProofs only[go_sem,seval,↓reduceIte])
     | refine AW.qq ?_
     | refine AW.block ?_
     | refine AW.qT rfl ?_
     | refine AW.qF rfl ?_
     | (refine AW.skip ?_;simp -implicitDefEqProofs only[go_sem,seval,↓reduceIte])
     | (refine AW.exit ?_;simp -implicitDefEqProofs only[go_sem,seval,↓reduceIte])
     | (refine AW.ret ?_;simp -implicitDefEqProofs only[go_sem,seval,↓reduceIte];refine endK_some ?_)
    rw [alike_tru]
    exact ⟨(fun e h=>by cases h),rfl⟩
 ·repeat first
   | (refine AW.qr (by kernel_rfl) ?_;simp -implicitDefEqProofs only[go_sem,seval,↓reduceIte])
   | (refine AW.region (by kernel_rfl) ?_;simp -implicitDefEqProofs only[go_sem,seval,↓reduceIte])
   | refine AW.qq ?_
   | refine AW.block ?_
   | refine AW.qT rfl ?_
   | refine AW.qF rfl ?_
   | (refine AW.skip ?_;simp -implicitDefEqProofs only[go_sem,seval,↓reduceIte])
   | (refine AW.exit ?_;simp -implicitDefEqProofs only[go_sem,seval,↓reduceIte])
   | (refine AW.ret ?_;simp -implicitDefEqProofs only[go_sem,seval,↓reduceIte];refine endK_some ?_)
  refine CallP.pureE hG (by kernel_rfl) (hA c1.ent c2.ent 0 (by decide)) (by simp -implicitDefEqProofs only[go_sem,seval,↓reduceIte,lkV]) ?_ ?_
  ·rintro v H' ⟨e,he,rfl⟩
   rw [need0] at he
   exact ⟨e,by rw [he];rfl,rfl⟩
  rintro v H' ⟨hne,rfl⟩
  rw [need0] at hne ⊢
  simp -implicitDefEqProofs only[go_sem,seval,↓reduceIte,encEV]
  intro g15
  repeat first
   | (refine AW.qr (by kernel_rfl) ?_;simp -implicitDefEqProofs only[go_sem,seval,↓reduceIte])
   | (refine AW.region (by kernel_rfl) ?_;simp -implicitDefEqProofs only[go_sem,seval,↓reduceIte])
   | refine AW.qq ?_
   | refine AW.block ?_
   | refine AW.qT rfl ?_
   | refine AW.qF rfl ?_
   | (refine AW.skip ?_;simp -implicitDefEqProofs only[go_sem,seval,↓reduceIte])
   | (refine AW.exit ?_;simp -implicitDefEqProofs only[go_sem,seval,↓reduceIte])
   | (refine AW.ret ?_;simp -implicitDefEqProofs only[go_sem,seval,↓reduceIte];refine endK_some ?_)
  refine CallP.pureE hG (by kernel_rfl) (hB c1.ent c2.ent 0 (by decide)) (by simp -implicitDefEqProofs only[go_sem,seval,↓reduceIte,lkV]) ?_ ?_
  ·rintro v H' ⟨e,he,rfl⟩
   rw [need0] at he
   refine ⟨e,?_,rfl⟩
   rw [he]
   cases A with
   | err e'=>exact absurd rfl (hne e')
   | num=>rfl
   | tru=>rfl
  rintro v H' ⟨hne2,rfl⟩
  rw [need0] at hne2 ⊢
  simp -implicitDefEqProofs only[go_sem,seval,↓reduceIte,encEV]
  intro g16
  refine AW.weak (Weak.stF (fun o=>o==15 || o==16) (l:=[(3,.view .new (.agg [.int .u8 17,.int .i64 num,.str name,.int .i64 na,.int .i64 nb,.int .i64 nc])),(4,.ptr 4 g4 0),(15,.view .new (.agg [.int .u8 A.kind,.int .i64 A.nm,.bool A.tr])),(16,.view .new (.agg [.int .u8 B.kind,.int .i64 B.nm,.bool B.tr]))]) (m:=[(4,.cells .new g4 0 [.int .u8 0,.int .i64 0,.bool false])]) ?_ ?_) ?_
  ·simp -implicitDefEqProofs only[go_sem,seval,↓reduceIte]
   refine ⟨Fz.same _,Fz.same _,?_,?_⟩
   ·exact Fz.ptr (v := .agg [.int .u8 A.kind,.int .i64 A.nm,.bool A.tr]) (c := .new) (fz:=0) rfl (by simp -implicitDefEqProofs only[go_sem,seval,↓reduceIte];try rfl)
   ·exact Fz.ptr (v := .agg [.int .u8 B.kind,.int .i64 B.nm,.bool B.tr]) (c := .new) (fz:=0) rfl (by simp -implicitDefEqProofs only[go_sem,seval,↓reduceIte];try rfl)
  ·simp only [allFzO_cons,allFzO_nil,and_true]
   exact FzO.keep rfl (by simp -implicitDefEqProofs only[go_sem,seval,↓reduceIte];try rfl)
  cases A with
  | err e'=>exact absurd rfl (hne e')
  | num a =>
   cases B with
   | err e'=>exact absurd rfl (hne2 e')
   | num b =>
    simp only [EV.kind,EV.nm,EV.tr]
    repeat first
     | (refine AW.qr (by kernel_rfl) ?_;simp -implicitDefEqProofs only[go_sem,seval,↓reduceIte])
     | (refine AW.region (by kernel_rfl) ?_;simp -implicitDefEqProofs only[go_sem,seval,↓reduceIte])
     | refine AW.qq ?_
     | refine AW.block ?_
     | refine AW.qT rfl ?_
     | refine AW.qF rfl ?_
     | (refine AW.skip ?_;simp -implicitDefEqProofs only[go_sem,seval,↓reduceIte])
     | (refine AW.exit ?_;simp -implicitDefEqProofs only[go_sem,seval,↓reduceIte])
     | (refine AW.ret ?_;simp -implicitDefEqProofs only[go_sem,seval,↓reduceIte];refine endK_some ?_)
    refine AW.regionT ⟨fun i=>if i=7 then encEV (.tru ((a==b)==false)) else .top,fun i=>if i=0 then .lend else if i=1 then .lend else if i=4 then .lend else .pure⟩ (by kernel_rfl) hG (by kernel_rfl) (by kernel_rfl) ?_
    simp -implicitDefEqProofs only[go_sem,seval,↓reduceIte,enc_tru]
    refine ⟨by simp only [Bool.true_and,Bool.and_true];exact truth_pure G _,?_⟩
    repeat first
     | (refine AW.qr (by kernel_rfl) ?_;simp -implicitDefEqProofs only[go_sem,seval,↓reduceIte])
     | (refine AW.region (by kernel_rfl) ?_;simp -implicitDefEqProofs only[go_sem,seval,↓reduceIte])
     | refine AW.qq ?_
     | refine AW.block ?_
     | refine AW.qT rfl ?_
     | refine AW.qF rfl ?_
     | (refine AW.skip ?_;simp -implicitDefEqProofs only[go_sem,seval,↓reduceIte])
     | (refine AW.exit ?_;simp -implicitDefEqProofs only[go_sem,seval,↓reduceIte])
     | (refine AW.ret ?_;simp -implicitDefEqProofs only[go_sem,seval,↓reduceIte];refine endK_some ?_)
    rw [alike_num]
    exact ⟨(fun e h=>by cases h),rfl⟩
   | tru b =>
    simp only [EV.kind,EV.nm,EV.tr]
    repeat first
     | (refine AW.qr (by kernel_rfl) ?_;simp -implicitDefEqProofs only[go_sem,seval,↓reduceIte])
     | (refine AW.region (by kernel_rfl) ?_;simp -implicitDefEqProofs only[go_sem,seval,↓reduceIte])
     | refine AW.qq ?_
     | refine AW.block ?_
     | refine AW.qT rfl ?_
     | refine AW.qF rfl ?_
     | (refine AW.skip ?_;simp -implicitDefEqProofs only[go_sem,seval,↓reduceIte])
     | (refine AW.exit ?_;simp -implicitDefEqProofs only[go_sem,seval,↓reduceIte])
     | (refine AW.ret ?_;simp -implicitDefEqProofs only[go_sem,seval,↓reduceIte];refine endK_some ?_)
    exact CallP.pureE hG (by kernel_rfl) (must_spec G 90) rfl (fun v H' h=>⟨90,rfl,by rw [h.2];rfl⟩) fun v H' h=>absurd h.1 (by decide)
  | tru a =>
   cases B with
   | err e'=>exact absurd rfl (hne2 e')
   | num b =>
    simp only [EV.kind,EV.nm,EV.tr]
    repeat first
     | (refine AW.qr (by kernel_rfl) ?_;simp -implicitDefEqProofs only[go_sem,seval,↓reduceIte])
     | (refine AW.region (by kernel_rfl) ?_;simp -implicitDefEqProofs only[go_sem,seval,↓reduceIte])
     | refine AW.qq ?_
     | refine AW.block ?_
     | refine AW.qT rfl ?_
     | refine AW.qF rfl ?_
     | (refine AW.skip ?_;simp -implicitDefEqProofs only[go_sem,seval,↓reduceIte])
     | (refine AW.exit ?_;simp -implicitDefEqProofs only[go_sem,seval,↓reduceIte])
     | (refine AW.ret ?_;simp -implicitDefEqProofs only[go_sem,seval,↓reduceIte];refine endK_some ?_)
    exact CallP.pureE hG (by kernel_rfl) (must_spec G 90) rfl (fun v H' h=>⟨90,rfl,by rw [h.2];rfl⟩) fun v H' h=>absurd h.1 (by decide)
   | tru b =>
    simp only [EV.kind,EV.nm,EV.tr]
    repeat first
     | (refine AW.qr (by kernel_rfl) ?_;simp -implicitDefEqProofs only[go_sem,seval,↓reduceIte])
     | (refine AW.region (by kernel_rfl) ?_;simp -implicitDefEqProofs only[go_sem,seval,↓reduceIte])
     | refine AW.qq ?_
     | refine AW.block ?_
     | refine AW.qT rfl ?_
     | refine AW.qF rfl ?_
     | (refine AW.skip ?_;simp -implicitDefEqProofs only[go_sem,seval,↓reduceIte])
     | (refine AW.exit ?_;simp -implicitDefEqProofs only[go_sem,seval,↓reduceIte])
     | (refine AW.ret ?_;simp -implicitDefEqProofs only[go_sem,seval,↓reduceIte];refine endK_some ?_)
    refine AW.regionT ⟨fun i=>if i=7 then encEV (.tru ((a==b)==false)) else .top,fun i=>if i=0 then .lend else if i=1 then .lend else if i=4 then .lend else .pure⟩ (by kernel_rfl) hG (by kernel_rfl) (by kernel_rfl) ?_
    simp -implicitDefEqProofs only[go_sem,seval,↓reduceIte,enc_tru]
    refine ⟨by simp only [Bool.true_and,Bool.and_true];exact truth_pure G _,?_⟩
    repeat first
     | (refine AW.qr (by kernel_rfl) ?_;simp -implicitDefEqProofs only[go_sem,seval,↓reduceIte])
     | (refine AW.region (by kernel_rfl) ?_;simp -implicitDefEqProofs only[go_sem,seval,↓reduceIte])
     | refine AW.qq ?_
     | refine AW.block ?_
     | refine AW.qT rfl ?_
     | refine AW.qF rfl ?_
     | (refine AW.skip ?_;simp -implicitDefEqProofs only[go_sem,seval,↓reduceIte])
     | (refine AW.exit ?_;simp -implicitDefEqProofs only[go_sem,seval,↓reduceIte])
     | (refine AW.ret ?_;simp -implicitDefEqProofs only[go_sem,seval,↓reduceIte];refine endK_some ?_)
    rw [alike_tru]
    exact ⟨(fun e h=>by cases h),rfl⟩
end Go.Hs
end

section
namespace Go.Hs
open Go.Proofs
set_option maxRecDepth 10000
theorem of_of_worth (G:Nat→V) (hG:GOk G) (sl:Sl XN) (hs:sl.l.length<1000000) (m:List (List UInt8 × Int)) (i:Nat) (n:XN) (x:EV) (hn:sl.l[i]? = some n)
  (hw:∀ c1 c2,SpecP Tryz.prog G (some (kpEV x)) 92 [lkV c1 c2 sl m,encXN n] hNone (okEV x)):OfC G sl m i x:=by
 intro c1 c2 k hk
 refine SpecP.of_code' 0 27 [.cell 6 34] Tryz.func67 rfl rfl rfl rfl fun X=>?_
 have hil:i<sl.l.length:=(List.getElem?_eq_some_iff.1 hn).1
 refine AW.seq_k fun K hK=>AW.region (by kernel_rfl) ?_
 simp -implicitDefEqProofs only[go_sem,seval,↓reduceIte]
 intro g6
 refine hK _ ?_
 clear hK K
 refine AW.seq_k fun K hK=>AW.region (by kernel_rfl) ?_
 simp -implicitDefEqProofs only[go_sem,seval,↓reduceIte,lkV,hn,Int.natCast_nonneg,Int.ofNat_lt,hil,encXN_K]
 refine CallP.pureE hG (by kernel_rfl) (hw c1.ent c2.ent) (by simp -implicitDefEqProofs only[go_sem,seval,↓reduceIte,lkV,encXN_K]) ?_ ?_
 ·rintro v H' ⟨e,he,rfl⟩
  exact ⟨e,by rw [he];rfl,rfl⟩
 rintro v H' ⟨hne,rfl⟩
 simp -implicitDefEqProofs only[go_sem,seval,↓reduceIte,encEV]
 intro g7
 refine hK _ ?_
 clear hK K
 have fin:x.need k=x→okEV (x.need k) (.agg [.int .u8 x.kind,.int .i64 x.nm,.bool x.tr])=okEV x (encEV x):=fun h=>by rw [h];rfl
 have hx:∀ e,x.need k = .err e→k≠0∧x.kind≠k∧e=90:=by
  intro e he
  cases x with
  | err e'=>exact absurd rfl (hne e')
  | num n =>
   simp only [EV.need] at he
   split at he
   ·rename_i h;cases he;exact ⟨h.1,h.2,rfl⟩
   ·cases he
  | tru n =>
   simp only [EV.need] at he
   split at he
   ·rename_i h;cases he;exact ⟨h.1,h.2,rfl⟩
   ·cases he
 have hx2:k≠0∧x.kind≠k→x.need k = .err 90:=by
  intro h
  cases x with
  | err e'=>exact absurd rfl (hne e')
  | num n=>exact if_pos h
  | tru n=>exact if_pos h
 have hx3:¬ (k≠0∧x.kind≠k)→x.need k=x:=by
  intro h
  cases x with
  | err e'=>exact absurd rfl (hne e')
  | num n=>exact if_neg h
  | tru n=>exact if_neg h
 refine AW.seq_k fun K1 hK1=>?_
 by_cases h0:k=0
 ·subst h0
  refine AW.seq_k fun K hK=>AW.region (by kernel_rfl) ?_
  simp -implicitDefEqProofs only[go_sem,seval,↓reduceIte]
  refine hK _ ?_
  clear hK K
  refine AW.condS (by simp -implicitDefEqProofs only[go_sem,seval,↓reduceIte];rfl) (fun h1=>?_) (fun h1=>?_)
  ·cases h1
  refine AW.skip ?_
  simp -implicitDefEqProofs only[go_sem,seval,↓reduceIte]
  refine hK1 _ ?_
  refine AW.seq_k fun K hK=>AW.region (by kernel_rfl) ?_
  simp -implicitDefEqProofs only[go_sem,seval,↓reduceIte]
  refine hK _ ?_
  clear hK K
  refine AW.ret ?_
  simp -implicitDefEqProofs only[go_sem,seval,↓reduceIte]
  refine endK_some ?_
  rw [hx3 (fun h=>h.1 rfl)]
  exact ⟨hne,rfl⟩
 have h0b:(k != 0)=true:=by simpa using h0
 by_cases h2:x.kind=k
 ·have h2b:(x.kind != k)=false:=by simpa using h2
  refine AW.seq_k fun K hK=>AW.region (by kernel_rfl) ?_
  simp -implicitDefEqProofs only[go_sem,seval,↓reduceIte,h0b,h2b]
  refine hK _ ?_
  clear hK K
  refine AW.condS (by simp -implicitDefEqProofs only[go_sem,seval,↓reduceIte];rfl) (fun h1=>?_) (fun h1=>?_)
  ·cases h1
  refine AW.skip ?_
  simp -implicitDefEqProofs only[go_sem,seval,↓reduceIte]
  refine hK1 _ ?_
  refine AW.seq_k fun K hK=>AW.region (by kernel_rfl) ?_
  simp -implicitDefEqProofs only[go_sem,seval,↓reduceIte]
  refine hK _ ?_
  clear hK K
  refine AW.ret ?_
  simp -implicitDefEqProofs only[go_sem,seval,↓reduceIte]
  refine endK_some ?_
  rw [hx3 (fun h=>h.2 h2)]
  exact ⟨hne,rfl⟩
 ·have h2b:(x.kind != k)=true:=by simpa using h2
  refine AW.seq_k fun K hK=>AW.region (by kernel_rfl) ?_
  simp -implicitDefEqProofs only[go_sem,seval,↓reduceIte,h0b,h2b]
  refine hK _ ?_
  clear hK K
  refine AW.condS (by simp -implicitDefEqProofs only[go_sem,seval,↓reduceIte];rfl) (fun h1=>?_) (fun h1=>?_)
  rotate_left
  ·cases h1
  refine AW.region (by kernel_rfl) ?_
  simp -implicitDefEqProofs only[go_sem,seval,↓reduceIte]
  exact CallP.pureE hG (by kernel_rfl) (must_spec G 90) rfl (fun v H' h=>⟨90,hx2 ⟨h0,h2⟩,by rw [h.2];rfl⟩) fun v H' h=>absurd h.1 (by decide)
def NumsOk (x:X):Prop:=∀ op num name,X.leaf op num name∈subs x→fits num=true
theorem evX_fine2 {env:List (List UInt8 × Int)} (he:∀ p∈env,fits p.2=true) (x:X) (h:x.ok=true) (hn:NumsOk x):(evX env x).fine:=by
 induction x with
 | leaf op num name =>
  show (leafV2 env op num name).fine
  unfold leafV2
  split
  ·exact hn op num name (by simp [subs])
  split
  ·cases hl:lookB env name with
   | none=>exact .inr (.inr rfl)
   | some v =>
    obtain ⟨p,h1,_,h2⟩:=lookB_mem hl
    exact h2 ▸ he p h1
  ·trivial
 | un op a ih =>
  simp only [X.ok,Bool.and_eq_true] at h
  have ha:=ih h.2 fun o n nm hm=>hn o n nm (by simp [subs,hm])
  show (unV2 op (evX env a)).fine
  unfold unV2
  split
  ·exact onN_fine ha fun n _=>told_fine _
  ·exact onB_fine ha fun n=>trivial
 | bin op a b iha ihb =>
  simp only [X.ok,Bool.and_eq_true] at h
  exact bin_fine (iha h.1.2 fun o n nm hm=>hn o n nm (by simp [subs,hm])) (ihb h.2 fun o n nm hm=>hn o n nm (by simp [subs,hm]))
 | ite a b c iha ihb ihc =>
  simp only [X.ok,Bool.and_eq_true] at h
  refine onB_fine (iha h.1.1 fun o n nm hm=>hn o n nm (by simp [subs,hm])) fun t=>?_
  split
  ·exact ihb h.1.2 fun o n nm hm=>hn o n nm (by simp [subs,hm])
  ·exact ihc h.2 fun o n nm hm=>hn o n nm (by simp [subs,hm])
theorem of_spec (G:Nat→V) (hG:GOk G) (sl:Sl XN) (hs:sl.l.length<1000000) (m:List (List UInt8 × Int)) (hm:∀ p∈m,fits p.2=true) (x:X) :
  ∀ b:Nat,x.ok=true→NumsOk x→At sl.l x b→OfC G sl m ((b+x.size-1:Nat):Int) (evX m x):=by
 induction x with
 | leaf op num name =>
  intro b h hn hat
  refine of_of_worth G hG sl hs m _ _ _ hat.get fun c1 c2=>?_
  simp only [X.ok,Bool.and_eq_true,decide_eq_true_eq] at h
  have hr:=(well_range h.1).1
  have hv:evX m (.leaf op num name)=nodeV m ((X.leaf op num name).top b) (.num 0) (.num 0) (.num 0):=by
   show _=if op≤4 then _ else _
   rw [if_pos h.2];rfl
  rw [hv]
  exact worth_leaf G hG c1 c2 sl m _ _ _ _ ⟨hr,h.2⟩
 | un op a ih =>
  intro b h hn hat
  have hsz:=a.size_pos
  simp only [X.ok,Bool.and_eq_true,decide_eq_true_eq] at h
  have na:NumsOk a:=fun o n nm hm=>hn o n nm (by simp [subs,hm])
  have hA:=ih b h.2 na hat.un
  rw [show ((b+a.size-1:Nat):Int)=(b:Int)+a.size-1 by omega] at hA
  refine of_of_worth G hG sl hs m _ _ _ hat.get fun c1 c2=>?_
  have hv:evX m (.un op a)=nodeV m ((X.un op a).top b) (evX m a) (.num 0) (.num 0):=by
   show _=if op≤4 then _ else if op≤6 then _ else _
   rw [if_neg (by omega),if_pos (by omega)];rfl
  rw [hv]
  obtain h5 | h6:op=5∨op=6:=by omega
  ·exact worth_neg G hG c1 c2 sl m _ _ _ _ h5 hA (evX_fine2 hm a h.2 na)
  ·exact worth_last G hG c1 c2 sl m _ _ _ _ (.inl h6) hA (fun hh=>absurd h6 hh) (fun hh=>absurd (h6.symm.trans hh) (by decide))
 | bin op a c iha ihc =>
  intro b h hn hat
  have hsz:=a.size_pos
  have hsc:=c.size_pos
  simp only [X.ok,Bool.and_eq_true,decide_eq_true_eq] at h
  have na:NumsOk a:=fun o n nm hm=>hn o n nm (by simp [subs,hm])
  have nc:NumsOk c:=fun o n nm hm=>hn o n nm (by simp [subs,hm])
  have hA:=iha b h.1.2 na hat.bin.1
  have hC:=ihc (b+a.size) h.2 nc hat.bin.2
  rw [show ((b+a.size-1:Nat):Int)=(b:Int)+a.size-1 by omega] at hA
  rw [show ((b+a.size+c.size-1:Nat):Int)=(b:Int)+a.size+c.size-1 by omega] at hC
  refine of_of_worth G hG sl hs m _ _ _ hat.get fun c1 c2=>?_
  have hv:evX m (.bin op a c)=nodeV m ((X.bin op a c).top b) (evX m a) (evX m c) (.num 0):=by
   show _=if op≤4 then _ else if op≤6 then _ else if op≤21 then _ else _
   rw [if_neg (by omega),if_neg (by omega),if_pos (by omega)];rfl
  rw [hv]
  by_cases h11:op≤11
  ·exact worth_two G hG c1 c2 sl m _ _ _ _ ⟨h.1.1.1,h11⟩ hA hC (evX_fine2 hm a h.1.2 na) (evX_fine2 hm c h.2 nc)
  by_cases h15:op≤15
  ·exact worth_cmp G hG c1 c2 sl m _ _ _ _ ⟨show 12≤op by omega,h15⟩ hA hC
  by_cases h17:op≤17
  ·exact worth_eq G hG c1 c2 sl m _ _ _ _ ⟨show 16≤op by omega,h17⟩ hA hC
  ·exact worth_last G hG c1 c2 sl m _ _ _ _ (.inr ⟨show 18≤op by omega,show op≤22 by omega⟩) hA (fun _=>hC) (fun hh=>absurd (show op=22 from hh) (by omega))
 | ite a c d iha ihc ihd =>
  intro b h hn hat
  have hsz:=a.size_pos
  have hsc:=c.size_pos
  have hsd:=d.size_pos
  simp only [X.ok,Bool.and_eq_true] at h
  have na:NumsOk a:=fun o n nm hm=>hn o n nm (by simp [subs,hm])
  have nc:NumsOk c:=fun o n nm hm=>hn o n nm (by simp [subs,hm])
  have nd:NumsOk d:=fun o n nm hm=>hn o n nm (by simp [subs,hm])
  have hA:=iha b h.1.1 na hat.ite.1
  have hC:=ihc (b+a.size) h.1.2 nc hat.ite.2.1
  have hD:=ihd (b+a.size+c.size) h.2 nd hat.ite.2.2
  rw [show ((b+a.size-1:Nat):Int)=(b:Int)+a.size-1 by omega] at hA
  rw [show ((b+a.size+c.size-1:Nat):Int)=(b:Int)+a.size+c.size-1 by omega] at hC
  rw [show ((b+a.size+c.size+d.size-1:Nat):Int)=(b:Int)+a.size+c.size+d.size-1 by omega] at hD
  refine of_of_worth G hG sl hs m _ _ _ hat.get fun c1 c2=>?_
  exact worth_last G hG c1 c2 sl m _ (evX m a) (evX m c) (evX m d) (.inr ⟨show (18:Int)≤22 by decide,show (22:Int)≤22 by decide⟩) hA (fun _=>hC) (fun _=>hD)
end Go.Hs
end

section
namespace Go.Hs
open Go.Proofs
set_option maxRecDepth 10000
theorem assert_halt (e:Int):assertV Tryz.prog (.iface 152 (.agg [.int .i64 e])) 152 true=some (.tuple [.agg [.int .i64 e],.bool true]):=by
 unfold assertV;rw [Tryz.underlying152];rfl
theorem assert_nil:assertV Tryz.prog .nili 152 true=some (.tuple [.agg [.int .i64 0],.bool false]):=by
 unfold assertV;rw [Tryz.underlying152];rfl
theorem close_nil (G:Nat→V) (g6 g7:Nat) (v6 v7:List V):SpecF Tryz.prog G 66 [.ptr 6 g6 0,.ptr 7 g7 0] (sets hNone [(6,.cells .new g6 0 v6),(7,.cells .new g7 0 v7)]) none (fun H'=>H' 6 = .cells .new g6 0 v6∧H' 7 = .cells .new g7 0 v7):=by
 refine SpecF.of_code 1000 13 5 Tryz.func66 rfl rfl rfl rfl rfl (by kernel_rfl) rfl fun X=>?_
 simp -implicitDefEqProofs only[go_sem,seval,↓reduceIte,recV,assert_nil,sets]
 intro g2
 refine AW.qr (by kernel_rfl) ?_
 simp -implicitDefEqProofs only[go_sem,seval,↓reduceIte]
 refine AW.qF rfl ?_
 refine AW.skip ?_
 exact ⟨rfl,rfl⟩
theorem close_halt (G:Nat→V) (hG:GOk G) (g6 g7:Nat) (v7:V) (e:Int):SpecF Tryz.prog G 66 [.ptr 6 g6 0,.ptr 7 g7 0] (sets hNone [(6,.cells .new g6 0 [.int .u8 0,.int .i64 0,.bool false]),(7,.cells .new g7 0 [v7])]) (some (haltV e)) (fun H'=>H' 6 = .cells .new g6 0 [.int .u8 0,.int .i64 0,.bool false]∧H' 7 = .cells .new g7 0 [.int .i64 e]):=by
 refine SpecF.of_code 1000 13 5 Tryz.func66 rfl rfl rfl rfl rfl (by kernel_rfl) rfl fun X=>?_
 simp -implicitDefEqProofs only[go_sem,seval,↓reduceIte,recV,haltV,assert_halt,sets]
 intro g2
 refine AW.qr (by kernel_rfl) ?_
 simp -implicitDefEqProofs only[go_sem,seval,↓reduceIte]
 refine AW.qT rfl ?_
 refine AW.weak (Weak.stF (fun o=>o==1002) (l:=[(0,.ptr 6 g6 0),(1,.ptr 7 g7 0),(2,.view .new (.agg [.int .i64 e]))]) (m:=[(6,.cells .new g6 0 [.int .u8 0,.int .i64 0,.bool false]),(7,.cells .new g7 0 [v7])]) ?_ ?_) ?_
 ·simp -implicitDefEqProofs only[go_sem,seval,↓reduceIte]
  refine ⟨Fz.same _,Fz.same _,?_⟩
  exact Fz.ptr (v := .agg [.int .i64 e]) (c := .new) (fz:=0) rfl (by simp -implicitDefEqProofs only[go_sem,seval,↓reduceIte];try rfl)
 ·simp only [allFzO_cons,allFzO_nil,and_true]
  exact ⟨FzO.keep rfl (by simp -implicitDefEqProofs only[go_sem,seval,↓reduceIte];try rfl),FzO.keep rfl (by simp -implicitDefEqProofs only[go_sem,seval,↓reduceIte];try rfl)⟩
 refine AW.regionT ⟨fun _ => .top,fun i=>if i=2 then .lend else .pure⟩ (by kernel_rfl) hG (by kernel_rfl) (by kernel_rfl) ?_
 simp -implicitDefEqProofs only[go_sem,seval,↓reduceIte]
 exact ⟨rfl,rfl⟩
def encBi (p:List UInt8 × Int):V := .agg [.str p.1,.int .i64 p.2]
theorem encBi_K (p:List UInt8 × Int):encBi p = .agg [.str p.1,.int .i64 p.2]:=rfl
@[go_sem] theorem recol_bi (f:Col→Col) (p:List UInt8 × Int):(encBi p).recol f=encBi p:=rfl
@[go_sem] theorem recol_bis (g:Col→Col) (c:Col) (s:Sl (List UInt8 × Int)):(encSl c 2 encBi s).recol g=encSl (g c) 2 encBi s:=recol_enc g c 2 (recol_bi g) s
def setB:List (List UInt8 × Int)→List UInt8 × Int→List (List UInt8 × Int)
 | [],p=>[p]
 | q::r,p=>if p.1=q.1 then (q.1,p.2)::r else q::setB r p
theorem lookB_set (p:List UInt8 × Int) (s:List UInt8):∀ m:List (List UInt8 × Int),lookB (setB m p) s=if s=p.1 then some p.2 else lookB m s
 | []=>by
  unfold setB lookB
  by_cases h:s=p.1
  ·rw [if_pos h,List.find?_cons_of_pos (by simpa using h.symm)];rfl
  ·rw [if_neg h,List.find?_cons_of_neg (by simpa using fun hh=>h hh.symm)]
 | q::r=>by
  have ih:=lookB_set p s r
  unfold setB
  by_cases hq:p.1=q.1
  ·rw [if_pos hq]
   unfold lookB
   by_cases h:s=p.1
   ·rw [if_pos h,List.find?_cons_of_pos (by simpa using (h.trans hq).symm)];rfl
   ·rw [if_neg h,List.find?_cons_of_neg (by simpa using fun hh=>h (hh.symm.trans hq.symm)),List.find?_cons_of_neg (by simpa using fun hh=>h (hh.symm.trans hq.symm))]
  ·rw [if_neg hq]
   unfold lookB at ih ⊢
   by_cases h2:q.1=s
   ·have hsp:¬ s=p.1:=fun h=>hq (h.symm.trans h2.symm)
    rw [if_neg hsp,List.find?_cons_of_pos (by simpa using h2),List.find?_cons_of_pos (by simpa using h2)]
   ·rw [List.find?_cons_of_neg (by simpa using h2),List.find?_cons_of_neg (by simpa using h2),ih]
theorem putV_set (p:List UInt8 × Int) (m:List (List UInt8 × Int)):putV .string (.str p.1) (.int .i64 p.2) (envKs m) (envVs m)=some (envKs (setB m p),envVs (setB m p)):=by
 have key:∀ m:List (List UInt8 × Int),∃ r,findIx .string (.str p.1) (envKs m)=some r∧(match r with
   | none=>setB m p=m++[p]
   | some j=>envKs (setB m p)=envKs m∧envVs (setB m p)=(envVs m).set j (.int .i64 p.2)):=by
  intro m
  induction m with
  | nil=>exact ⟨none,rfl,rfl⟩
  | cons q r ih =>
   have hstep:findIx .string (.str p.1) (envKs (q::r))=if p.1=q.1 then some (some 0) else (findIx .string (.str p.1) (envKs r)).map (·.map (· + 1)):=rfl
   by_cases h:p.1=q.1
   ·refine ⟨some 0,by rw [hstep,if_pos h],?_⟩
    show envKs (if p.1=q.1 then _ else _)=_∧envVs (if p.1=q.1 then _ else _)=_
    rw [if_pos h]
    exact ⟨rfl,rfl⟩
   ·obtain ⟨o,h1,h2⟩:=ih
    refine ⟨o.map (· + 1),by rw [hstep,if_neg h,h1];rfl,?_⟩
    have hs:setB (q::r) p=q::setB r p:=by show (if p.1=q.1 then _ else _)=_;rw [if_neg h]
    rw [hs]
    cases o with
    | none=>simp only at h2;simp only [Option.map_none];rw [h2];rfl
    | some j =>
     simp only at h2
     simp only [Option.map_some]
     exact ⟨by show _::envKs (setB r p)=_::envKs r;rw [h2.1],by show _::envVs (setB r p)=_::(envVs r).set j _;rw [h2.2]⟩
 obtain ⟨o,h1,h2⟩:=key m
 unfold putV
 rw [h1]
 cases o with
 | none=>simp only at h2;simp only [h2,envKs,envVs,List.map_append,List.map_cons,List.map_nil]
 | some j=>simp only at h2;simp only [h2.1,h2.2]
def envFrom (env:List (List UInt8 × Int)):Nat→List (List UInt8 × Int)
 | 0=>[]
 | n+1=>match env[env.length-(n+1)]? with
  | some p=>setB (envFrom env n) p
  | none=>envFrom env n
theorem look_from (env:List (List UInt8 × Int)) (s:List UInt8):∀ n,n≤env.length→lookB (envFrom env n) s=lookB (env.drop (env.length-n)) s
 | 0,_=>by rw [Nat.sub_zero,List.drop_length];rfl
 | n+1,h=>by
  have hlt:env.length-(n+1)<env.length:=by omega
  have hd:env.drop (env.length-(n+1))=env[env.length-(n+1)]::env.drop (env.length-n):=by
   rw [List.drop_eq_getElem_cons hlt,show env.length-(n+1)+1=env.length-n by omega]
  rw [envFrom,List.getElem?_eq_getElem hlt,hd]
  simp only
  rw [lookB_set,look_from env s n (by omega)]
  unfold lookB
  by_cases hs:s=env[env.length-(n+1)].1
  ·rw [if_pos hs,List.find?_cons_of_pos (by simpa using hs.symm)];rfl
  ·rw [if_neg hs,List.find?_cons_of_neg (by simpa using fun hh=>hs hh.symm)]
def envM (env:List (List UInt8 × Int)):=envFrom env env.length
theorem look_envM (env:List (List UInt8 × Int)) (s:List UInt8):lookB (envM env) s=lookB env s:=by
 unfold envM
 rw [look_from env s _ (Nat.le_refl _),Nat.sub_self,List.drop_zero]
theorem setB_fits {m:List (List UInt8 × Int)} {p:List UInt8 × Int} (hm:∀ q∈m,fits q.2=true) (hp:fits p.2=true):∀ q∈setB m p,fits q.2=true:=by
 induction m with
 | nil=>intro q hq;simp [setB] at hq;subst hq;exact hp
 | cons r t ih =>
  intro q hq
  unfold setB at hq
  split at hq
  ·rcases List.mem_cons.1 hq with rfl | h
   ·exact hp
   ·exact hm q (by simp [h])
  ·rcases List.mem_cons.1 hq with rfl | h
   ·exact hm q (by simp)
   ·exact ih (fun q hq=>hm q (by simp [hq])) q h
theorem envFrom_fits {env:List (List UInt8 × Int)} (h:∀ q∈env,fits q.2=true):∀ n,∀ q∈envFrom env n,fits q.2=true
 | 0=>fun q hq=>by cases hq
 | n+1=>by
  rw [envFrom]
  cases hg:env[env.length-(n+1)]? with
  | none=>exact envFrom_fits h n
  | some p=>exact setB_fits (envFrom_fits h n) (h p (List.mem_of_getElem? hg))
theorem evX_envM (env:List (List UInt8 × Int)) (x:X):evX (envM env) x=evX env x:=ev_congr fun t _=>look_envM env t
end Go.Hs
end

section
namespace Go.Hs
open Go.Proofs
set_option maxRecDepth 10000
theorem trimLeft_spec (G:Nat→V) (s:List UInt8):Spec Tryz.prog G 168 [.str s,.str [48]] hNone (fun v _=>v = .str (s.dropWhile (· == 48))):=by
 refine Spec.of_calls fun X cargs _ _ hA=>?_
 obtain ⟨x,y,rfl,hx,hy⟩:=hA.two
 obtain ⟨s',rfl,rfl⟩:=hx.str_inv
 obtain ⟨p',rfl,hp⟩:=hy.str_inv
 obtain rfl:p'=⟨#[48]⟩:=by
  obtain ⟨⟨l⟩⟩:=p'
  simp at hp
  rw [hp]
 refine (show Calls Tryz.prog 168 _ _ _ from Any.strings_TrimLeft_one Tryz.laysTL s' 48 (by decide) X.w).mono ?_
 rintro e w' ⟨rfl,rfl⟩
 exact ⟨_,_,rfl,RowKit.Below.refl _ _,.str _ _ rfl,by simp [Lib.trimLeftB]⟩
theorem xLeaf_spec (G:Nat→V) (hG:GOk G) (sl:Sl Tk) (g:Nat) (r:RS) (hi:r.i<1000000) (hr:r.nodes.length<1000000) (op num:Int) (name:List UInt8) (x y z:Int) :
  RdS 1031 [.func (.func 78) [] []] G 143 [encXN ⟨op,num,name,x,y,z⟩] sl g r (.bool true) (leafP r op num name).2:=by
 intro gx
 refine Spec.of_code' 1000 15 [.tmp 4] Tryz.func143 rfl rfl rfl rfl fun X=>?_
 have hw:IntKind.i64.wrap ((r.i:Int)+1)=((r.i+1:Nat):Int):=by rw [w64 (by omega) (by omega)];omega
 simp only [sets,rdO_K,encXN_K]
 refine AW.seq_k fun K hK=>AW.region (by kernel_rfl) ?_
 simp -implicitDefEqProofs only[go_sem,seval,↓reduceIte]
 intro g3
 refine hK _ ?_
 clear hK K
 refine AW.seq_k fun K hK=>AW.region (by kernel_rfl) ?_
 simp -implicitDefEqProofs only[go_sem,seval,↓reduceIte,hw]
 refine hK _ ?_
 clear hK K
 refine AW.seq_k fun K hK=>AW.region (by kernel_rfl) ?_
 simp -implicitDefEqProofs only[go_sem,seval,↓reduceIte]
 rw [← encXN_K ⟨op,num,name,x,y,z⟩]
 refine RdS.call hG (xPut_spec G hG sl g r.adv hr ⟨op,num,name,x,y,z⟩ .any .nil (by decide)) (gx:=gx) (by kernel_rfl) (fun F=>rfl) (by decide) (by first | rfl | (simp -implicitDefEqProofs only[go_sem,seval,↓reduceIte,List.map_cons,List.map_nil,encXN_K];try rfl)) (by first | rfl | (simp -implicitDefEqProofs only[go_sem,seval,↓reduceIte,List.map_cons,List.map_nil];try rfl)) (by first | rfl | (simp -implicitDefEqProofs only[go_sem,seval,↓reduceIte];try rfl)) (by first | rfl | (simp -implicitDefEqProofs only[go_sem,seval,↓reduceIte];try rfl)) fun gx'=>?_
 simp -implicitDefEqProofs only[go_sem,seval,↓reduceIte,sets]
 refine hK _ ?_
 clear hK K
 refine AW.ret ?_
 simp -implicitDefEqProofs only[go_sem,seval,↓reduceIte]
 refine endK_some ?_
 exact ⟨rfl,gx',by simp -implicitDefEqProofs only[go_sem,seval,↓reduceIte];rfl,by simp -implicitDefEqProofs only[go_sem,seval,↓reduceIte];rfl⟩
theorem xEat_spec (G:Nat→V) (hE:GExp G) (sl:Sl Tk) (hT:TkOk sl.l) (g:Nat) (r:RS) (hi:r.i<1000000) (w:List UInt8) :
  RdS 1031 [.func (.func 78) [] []] G 144 [.str w] sl g r (.bool (eatP sl.l w r).1) (eatP sl.l w r).2:=by
 have hG:=hE.ok
 intro gx
 refine Spec.of_code' 1000 27 [.tmp 4] Tryz.func144 rfl rfl rfl rfl fun X=>?_
 have hw:IntKind.i64.wrap ((r.i:Int)+1)=((r.i+1:Nat):Int):=by rw [w64 (by omega) (by omega)];omega
 refine AW.seq_k fun K hK=>AW.region (by kernel_rfl) ?_
 simp -implicitDefEqProofs only[go_sem,seval,↓reduceIte]
 refine hK _ ?_
 clear hK K
 refine AW.seq_k fun K1 hK1=>?_
 refine AW.seq_k fun K hK=>AW.region (by kernel_rfl) ?_
 simp -implicitDefEqProofs only[go_sem,seval,↓reduceIte]
 refine RdS.call hG (xNext_spec G hE sl hT g r hi) (gx:=gx) (by kernel_rfl) (fun F=>rfl) (by decide) (by first | rfl | (simp -implicitDefEqProofs only[go_sem,seval,↓reduceIte,List.map_cons,List.map_nil,encXN_K];try rfl)) (by first | rfl | (simp -implicitDefEqProofs only[go_sem,seval,↓reduceIte,List.map_cons,List.map_nil];try rfl)) (by first | rfl | (simp -implicitDefEqProofs only[go_sem,seval,↓reduceIte];try rfl)) (by first | rfl | (simp -implicitDefEqProofs only[go_sem,seval,↓reduceIte];try rfl)) fun gx'=>?_
 simp -implicitDefEqProofs only[go_sem,seval,↓reduceIte,sets]
 simp -implicitDefEqProofs only[go_sem,seval,↓reduceIte,encTk_K]
 intro g5
 refine hK _ ?_
 clear hK K
 have hP:eatP sl.l w r=if (nextP sl.l r.i).kind=0∨(nextP sl.l r.i).text≠w then (false,r.err 80) else (true,r.adv):=rfl
 generalize nextP sl.l r.i=t at hP ⊢
 obtain ⟨k,t,p⟩:=t
 simp only at hP
 by_cases hk:k=0
 ·have e1:(k==0)=true:=by simpa using hk
  rw [if_pos (.inl hk)] at hP
  refine AW.seq_k fun K hK=>AW.region (by kernel_rfl) ?_
  simp -implicitDefEqProofs only[go_sem,seval,↓reduceIte,e1]
  refine hK _ ?_
  clear hK K
  refine AW.condS (by simp -implicitDefEqProofs only[go_sem,seval,↓reduceIte];rfl) (fun h2=>?_) (fun h2=>?_)
  ·refine AW.seq_k fun K hK=>AW.region (by kernel_rfl) ?_
   simp -implicitDefEqProofs only[go_sem,seval,↓reduceIte,rdO_K]
   refine hK _ ?_
   clear hK K
   refine AW.seq_k fun K hK=>AW.region (by kernel_rfl) ?_
   simp -implicitDefEqProofs only[go_sem,seval,↓reduceIte]
   refine hK _ ?_
   clear hK K
   refine AW.ret ?_
   simp -implicitDefEqProofs only[go_sem,seval,↓reduceIte]
   refine endK_some ?_
   rw [hP]
   exact ⟨rfl,gx',by simp -implicitDefEqProofs only[go_sem,seval,↓reduceIte];rfl,by simp -implicitDefEqProofs only[go_sem,seval,↓reduceIte];rfl⟩
  ·cases h2
 ·have e1:(k==0)=false:=by simpa using hk
  by_cases ht:t=w
  ·have e2:(t==w)=true:=by simpa using ht
   rw [if_neg (by rintro (h | h);exact hk h;exact h ht)] at hP
   refine AW.seq_k fun K hK=>AW.region (by kernel_rfl) ?_
   simp -implicitDefEqProofs only[go_sem,seval,↓reduceIte,e1,bne,e2]
   refine hK _ ?_
   clear hK K
   refine AW.condS (by simp -implicitDefEqProofs only[go_sem,seval,↓reduceIte];rfl) (fun h2=>?_) (fun h2=>?_)
   ·cases h2
   ·refine AW.skip ?_
    simp -implicitDefEqProofs only[go_sem,seval,↓reduceIte]
    refine hK1 _ ?_
    refine AW.seq_k fun K hK=>AW.region (by kernel_rfl) ?_
    simp -implicitDefEqProofs only[go_sem,seval,↓reduceIte,rdO_K,hw]
    refine hK _ ?_
    clear hK K
    refine AW.seq_k fun K hK=>AW.region (by kernel_rfl) ?_
    simp -implicitDefEqProofs only[go_sem,seval,↓reduceIte]
    refine hK _ ?_
    clear hK K
    refine AW.ret ?_
    simp -implicitDefEqProofs only[go_sem,seval,↓reduceIte]
    refine endK_some ?_
    rw [hP]
    exact ⟨rfl,gx',by simp -implicitDefEqProofs only[go_sem,seval,↓reduceIte];rfl,by simp -implicitDefEqProofs only[go_sem,seval,↓reduceIte];rfl⟩
  ·have e2:(t==w)=false:=by simpa using ht
   rw [if_pos (.inr ht)] at hP
   refine AW.seq_k fun K hK=>AW.region (by kernel_rfl) ?_
   simp -implicitDefEqProofs only[go_sem,seval,↓reduceIte,e1,bne,e2]
   refine hK _ ?_
   clear hK K
   refine AW.condS (by simp -implicitDefEqProofs only[go_sem,seval,↓reduceIte];rfl) (fun h2=>?_) (fun h2=>?_)
   ·refine AW.seq_k fun K hK=>AW.region (by kernel_rfl) ?_
    simp -implicitDefEqProofs only[go_sem,seval,↓reduceIte,rdO_K]
    refine hK _ ?_
    clear hK K
    refine AW.seq_k fun K hK=>AW.region (by kernel_rfl) ?_
    simp -implicitDefEqProofs only[go_sem,seval,↓reduceIte]
    refine hK _ ?_
    clear hK K
    refine AW.ret ?_
    simp -implicitDefEqProofs only[go_sem,seval,↓reduceIte]
    refine endK_some ?_
    rw [hP]
    exact ⟨rfl,gx',by simp -implicitDefEqProofs only[go_sem,seval,↓reduceIte];rfl,by simp -implicitDefEqProofs only[go_sem,seval,↓reduceIte];rfl⟩
   ·cases h2
theorem trim0_len (t:List UInt8):(trim0 t).length≤t.length+1:=by
 unfold trim0
 split
 ·simp
 ·exact Nat.le_trans ((List.dropWhile_sublist _).length_le) (Nat.le_succ _)
theorem xNumber_spec (G:Nat→V) (hE:GExp G) (sl:Sl Tk) (g:Nat) (r:RS) (hi:r.i<1000000) (hr:r.nodes.length<1000000) (t:List UInt8) (ht:t.length<100000) :
  RdS 1031 [.func (.func 78) [] []] G 142 [.str t] sl g r (.bool (numberP r t).1) (numberP r t).2:=by
 have hG:=hE.ok
 intro gx
 refine Spec.of_code' 1000 26 [.tmp 4] Tryz.func142 rfl rfl rfl rfl fun X=>?_
 refine AW.seq_k fun K hK=>AW.region (by kernel_rfl) ?_
 simp -implicitDefEqProofs only[go_sem,seval,↓reduceIte]
 refine hK _ ?_
 clear hK K
 refine AW.seq_k fun K hK=>AW.region (by kernel_rfl) ?_
 simp -implicitDefEqProofs only[go_sem,seval,↓reduceIte]
 refine CallA.pure hG (by kernel_rfl) ?_
 simp -implicitDefEqProofs only[go_sem,seval,↓reduceIte]
 refine (trimLeft_spec G t).mono ?_
 rintro _ _ rfl
 simp -implicitDefEqProofs only[go_sem,seval,↓reduceIte]
 refine hK _ ?_
 clear hK K
 have hT0:trim0 t=if t.dropWhile (· == 48)=[] then [48] else t.dropWhile (· == 48):=rfl
 have hP:numberP r t=if (parseR (trim0 t)).2≠0 then (false,r.err (parseR (trim0 t)).2) else leafP r 1 (parseR (trim0 t)).1 []:=rfl
 have hl:=trim0_len t
 refine AW.seqJ (fun (_:Unit)=>st [(0,.ptr 8 g 0),(1,.str (trim0 t))] [(8,rdO 1031 [.func (.func 78) [] []] sl g gx r),(1031,ndO gx r.nodes)]) (fun _=>True) (fun K1 hK1=>?_) ?_
 ·rw [hT0] at hK1
  refine AW.seq_k fun K hK=>AW.region (by kernel_rfl) ?_
  simp -implicitDefEqProofs only[go_sem,seval,↓reduceIte]
  refine hK _ ?_
  clear hK K
  refine AW.condS (by simp -implicitDefEqProofs only[go_sem,seval,↓reduceIte];rfl) (fun h2=>?_) (fun h2=>?_)
  ·have h2:t.dropWhile (· == 48)=[]:=by simpa using h2
   rw [if_pos h2] at hK1
   refine AW.region (by kernel_rfl) ?_
   simp -implicitDefEqProofs only[go_sem,seval,↓reduceIte]
   exact hK1 _ () trivial (Weak.st (by simp -implicitDefEqProofs only[go_sem,seval,↓reduceIte]) (by simp -implicitDefEqProofs only[go_sem,seval,↓reduceIte,sets]))
  ·have h2:¬ t.dropWhile (· == 48)=[]:=by simpa using h2
   rw [if_neg h2] at hK1
   refine AW.skip ?_
   simp -implicitDefEqProofs only[go_sem,seval,↓reduceIte]
   exact hK1 _ () trivial (Weak.st (by simp -implicitDefEqProofs only[go_sem,seval,↓reduceIte]) (by simp -implicitDefEqProofs only[go_sem,seval,↓reduceIte,sets]))
 intro _ _
 generalize trim0 t=s at hl hP ⊢
 refine AW.seq_k fun K hK=>AW.region (by kernel_rfl) ?_
 simp -implicitDefEqProofs only[go_sem,seval,↓reduceIte]
 refine CallA.pure hG (by kernel_rfl) ?_
 simp -implicitDefEqProofs only[go_sem,seval,↓reduceIte]
 refine (nParse_spec G hE.toGNum s (by omega)).mono ?_
 rintro _ _ rfl
 generalize parseR s=q at hP ⊢
 obtain ⟨n,e⟩:=q
 simp only at hP
 simp -implicitDefEqProofs only[go_sem,seval,↓reduceIte,encR]
 refine hK _ ?_
 clear hK K
 refine AW.seq_k fun K3 hK3=>?_
 by_cases he:e=0
 ·have e1:(e==0)=true:=by simpa using he
  rw [if_neg (show ¬ e≠0 by simpa using he)] at hP
  refine AW.seq_k fun K hK=>AW.region (by kernel_rfl) ?_
  simp -implicitDefEqProofs only[go_sem,seval,↓reduceIte,bne,e1]
  refine hK _ ?_
  clear hK K
  refine AW.condS (by simp -implicitDefEqProofs only[go_sem,seval,↓reduceIte];rfl) (fun h4=>?_) (fun h4=>?_)
  ·cases h4
  ·refine AW.skip ?_
   simp -implicitDefEqProofs only[go_sem,seval,↓reduceIte]
   refine hK3 _ ?_
   refine AW.seq_k fun K hK=>AW.region (by kernel_rfl) ?_
   simp -implicitDefEqProofs only[go_sem,seval,↓reduceIte]
   rw [← encXN_K ⟨1,n,[],0,0,0⟩]
   refine RdS.call hG (xLeaf_spec G hG sl g r hi hr 1 n [] 0 0 0) (gx:=gx) (by kernel_rfl) (fun F=>rfl) (by decide) (by first | rfl | (simp -implicitDefEqProofs only[go_sem,seval,↓reduceIte,List.map_cons,List.map_nil,encXN_K];try rfl)) (by first | rfl | (simp -implicitDefEqProofs only[go_sem,seval,↓reduceIte,List.map_cons,List.map_nil];try rfl)) (by first | rfl | (simp -implicitDefEqProofs only[go_sem,seval,↓reduceIte];try rfl)) (by first | rfl | (simp -implicitDefEqProofs only[go_sem,seval,↓reduceIte];try rfl)) fun gx'=>?_
   simp -implicitDefEqProofs only[go_sem,seval,↓reduceIte,sets]
   refine hK _ ?_
   clear hK K
   refine AW.ret ?_
   simp -implicitDefEqProofs only[go_sem,seval,↓reduceIte]
   refine endK_some ?_
   rw [hP]
   exact ⟨rfl,gx',by simp -implicitDefEqProofs only[go_sem,seval,↓reduceIte],by simp -implicitDefEqProofs only[go_sem,seval,↓reduceIte]⟩
 ·have e1:(e==0)=false:=by simpa using he
  rw [if_pos he] at hP
  refine AW.seq_k fun K hK=>AW.region (by kernel_rfl) ?_
  simp -implicitDefEqProofs only[go_sem,seval,↓reduceIte,bne,e1]
  refine hK _ ?_
  clear hK K
  refine AW.condS (by simp -implicitDefEqProofs only[go_sem,seval,↓reduceIte];rfl) (fun h4=>?_) (fun h4=>?_)
  ·refine AW.seq_k fun K hK=>AW.region (by kernel_rfl) ?_
   simp -implicitDefEqProofs only[go_sem,seval,↓reduceIte,rdO_K]
   refine hK _ ?_
   clear hK K
   refine AW.seq_k fun K hK=>AW.region (by kernel_rfl) ?_
   simp -implicitDefEqProofs only[go_sem,seval,↓reduceIte]
   refine hK _ ?_
   clear hK K
   refine AW.ret ?_
   simp -implicitDefEqProofs only[go_sem,seval,↓reduceIte]
   refine endK_some ?_
   rw [hP]
   exact ⟨rfl,gx,by simp -implicitDefEqProofs only[go_sem,seval,↓reduceIte];rfl,by simp -implicitDefEqProofs only[go_sem,seval,↓reduceIte];rfl⟩
  ·cases h4
end Go.Hs
end

section
namespace Go.Hs
open Go.Proofs
set_option maxRecDepth 10000
def InnerS (G:Nat→V) (sl:Sl Tk) (g:Nat) (inner:Inner) (i0:Nat):Prop :=
 ∀ n r,1≤n→n≤9→i0<r.i→RSok sl.l r→RdS 1031 [.func (.func 78) [] []] G 78 [.int .i64 n] sl g r (.bool (inner n r).1) (inner n r).2
theorem nextP_len {l:List Tk} (hT:TkOk l) (i:Nat):(nextP l i).text.length<100000:=by
 unfold nextP
 split
 ·rename_i t h
  split
  ·exact hT.text _ (List.mem_of_getElem? h)
  ·exact Nat.zero_lt_succ _
 ·exact Nat.zero_lt_succ _
theorem eatP_true (l:List Tk) (w:List UInt8) (r:RS):(eatP l w r).1=true→(eatP l w r).2=r.adv:=by
 unfold eatP
 split
 ·intro h;cases h
 ·exact fun _=>rfl
def restP (l:List Tk) (inner:Inner):List (List UInt8)→List Int→RS→Bool × RS
 | [],parts,r=>andThen (eatP l wEndif r) fun r4=>(true,r4.put (putAt ⟨22,0,[],0,0,0⟩ parts))
 | w::ws,parts,r=>andThen (eatP l w r) fun r1=>andThen (inner 1 r1) fun a=>restP l inner ws (parts++[a.last]) a
theorem branches_rest (l:List Tk) (inner:Inner) (r:RS):branchesP l inner r=restP l inner [wIf,wThen,wElse] [] r:=rfl
def brW:List (List UInt8):=[wIf,wThen,wElse]
theorem xBranches_spec (G:Nat→V) (hE:GExp G) (sl:Sl Tk) (hT:TkOk sl.l) (g:Nat) (r:RS) (hr:RSok sl.l r) (inner:Inner) (hin:InnerS G sl g inner r.i) (hb:Bals sl.l inner) :
  RdS 1031 [.func (.func 78) [] []] G 145 [] sl g r (.bool (branchesP sl.l inner r).1) (branchesP sl.l inner r).2:=by
 have hG:=hE.ok
 have hTl:=hT.len
 intro gx
 refine Spec.of_code' 1000 37 [.tmp 2] Tryz.func145 rfl rfl rfl rfl fun X=>?_
 refine AW.seq_k fun K hK=>AW.region (by kernel_rfl) ?_
 simp -implicitDefEqProofs only[go_sem,seval,↓reduceIte]
 refine hK _ ?_
 clear hK K
 refine AW.seq_k fun K hK=>AW.region (by kernel_rfl) ?_
 simp -implicitDefEqProofs only[go_sem,seval,↓reduceIte]
 refine hK _ ?_
 clear hK K
 refine AW.seq_k fun K1 hK1=>?_
 refine AW.seq_k fun K hK=>AW.region (by kernel_rfl) ?_
 simp -implicitDefEqProofs only[go_sem,seval,↓reduceIte]
 refine hK _ ?_
 clear hK K
 refine AW.block ?_
 refine AW.for 3 (fun k (x:Nat × Nat × List Int × RS)=>st [(0,.ptr 8 g 0),(3,grown 1027 x.1 1 x.2.2.1),(6,.agg (brW.map V.str)),(7,.int .i64 k)] [(1027,grownO x.1 (V.int .i64) x.2.2.1),(8,rdO 1031 [.func (.func 78) [] []] sl g x.2.1 x.2.2.2),(1031,ndO x.2.1 x.2.2.2.nodes)])
  (fun k x=>branchesP sl.l inner r=restP sl.l inner (brW.drop k) x.2.2.1 x.2.2.2∧RSok sl.l x.2.2.2∧r.i≤x.2.2.2.i∧x.2.2.1.length=k) 0 (0,gx,[],r) (Nat.zero_le _) ⟨branches_rest _ _ _,hr,Nat.le_refl _,rfl⟩
  (Weak.st (by simp -implicitDefEqProofs only[go_sem,seval,↓reduceIte,List.map_cons,List.map_nil];exact ⟨rfl,rfl⟩) (by simp -implicitDefEqProofs only[go_sem,seval,↓reduceIte,sets];try rfl)) ?_
 rintro k ⟨gp,gy,parts,q⟩ hk ⟨hP,hq,hqi,hpl⟩ L2 hL2
 have hP:branchesP sl.l inner r=restP sl.l inner (brW.drop k) parts q:=hP
 have hq:RSok sl.l q:=hq
 have hqi:r.i≤q.i:=hqi
 have hpl:parts.length=k:=hpl
 have hqI:q.i<1000000:=by have:=hq.1;omega
 refine AW.seq_k fun K hK=>AW.region (by kernel_rfl) ?_
 simp -implicitDefEqProofs only[go_sem,seval,↓reduceIte]
 refine hK _ ?_
 clear hK K
 refine AW.seq_k fun K3 hK3=>?_
 refine AW.condS (by simp -implicitDefEqProofs only[go_sem,seval,↓reduceIte];rfl) (fun h4=>?_) (fun h4=>?_)
 ·have hk1:k<3:=by have h4:decide ((k:Int)<3)=true:=h4;simp at h4;omega
  refine AW.skip ?_
  simp -implicitDefEqProofs only[go_sem,seval,↓reduceIte]
  refine hK3 _ ?_
  refine AW.seq_k fun K5 hK5=>?_
  refine AW.block ?_
  obtain ⟨w,hw1,hw2⟩:∃ w,(brW.map V.str)[k]? = some (.str w)∧brW.drop k=w::brW.drop (k+1):=by
   have hkl:k<brW.length:=hk1
   exact ⟨brW[k],by rw [List.getElem?_map,List.getElem?_eq_getElem hkl];rfl,List.drop_eq_getElem_cons hkl⟩
  have hk1':(k:Int)<3:=by omega
  rw [hw2,restP] at hP
  have heb:=eatP_bal sl.l w q
  have het:=eatP_true sl.l w q
  have hes:=xEat_spec G hE sl hT g q hqI w
  generalize eatP sl.l w q=y at hP heb hes het
  obtain ⟨b,q1⟩:=y
  simp only at heb hes het
  refine AW.seq_k fun K hK=>AW.region (by kernel_rfl) ?_
  simp -implicitDefEqProofs only[go_sem,seval,↓reduceIte,hw1,hk1',Int.natCast_nonneg,Nat.mul_one]
  refine hK _ ?_
  clear hK K
  refine AW.seq_k fun K6 hK6=>?_
  cases b with
  | false =>
   rw [andThen_false] at hP
   refine AW.seq_k fun K hK=>AW.region (by kernel_rfl) ?_
   simp -implicitDefEqProofs only[go_sem,seval,↓reduceIte]
   refine RdS.call hG (hes) (gx:=gy) (by kernel_rfl) (fun F=>rfl) (by decide) (by first | rfl | (simp -implicitDefEqProofs only[go_sem,seval,↓reduceIte,List.map_cons,List.map_nil,encXN_K];try rfl)) (by first | rfl | (simp -implicitDefEqProofs only[go_sem,seval,↓reduceIte,List.map_cons,List.map_nil];try rfl)) (by first | rfl | (simp -implicitDefEqProofs only[go_sem,seval,↓reduceIte];try rfl)) (by first | rfl | (simp -implicitDefEqProofs only[go_sem,seval,↓reduceIte];try rfl)) fun gz=>?_
   simp -implicitDefEqProofs only[go_sem,seval,↓reduceIte,sets]
   refine hK _ ?_
   clear hK K
   refine AW.condS (by simp -implicitDefEqProofs only[go_sem,seval,↓reduceIte];rfl) (fun h7=>?_) (fun h7=>?_)
   ·refine AW.seq_k fun K hK=>AW.region (by kernel_rfl) ?_
    simp -implicitDefEqProofs only[go_sem,seval,↓reduceIte]
    refine hK _ ?_
    clear hK K
    refine AW.ret ?_
    simp -implicitDefEqProofs only[go_sem,seval,↓reduceIte]
    refine endK_some ?_
    rw [hP]
    exact ⟨rfl,gz,by first | rfl | (simp -implicitDefEqProofs only[go_sem,seval,↓reduceIte];try rfl),by first | rfl | (simp -implicitDefEqProofs only[go_sem,seval,↓reduceIte];try rfl)⟩
   ·cases h7
  | true =>
   rw [andThen_true] at hP
   have hb1:=heb.2 rfl
   have hq1:=hb1.ok hq
   have hlt:r.i<q1.i:=by rw [het rfl];show r.i<q.i+1;omega
   have hc:=hin 1 q1 (by decide) (by decide) hlt hq1
   have hb2:=hb 1 q1
   generalize inner 1 q1=z at hP hc hb2
   obtain ⟨b,a⟩:=z
   simp only at hc hb2
   have ha:=hb2.ok hq1
   have han:a.nodes.length<1000000:=by have:=ha.1;have:=ha.2;omega
   cases b with
   | false =>
    rw [andThen_false] at hP
    refine AW.seq_k fun K hK=>AW.region (by kernel_rfl) ?_
    simp -implicitDefEqProofs only[go_sem,seval,↓reduceIte,rdO_K]
    refine RdS.call hG (hes) (gx:=gy) (by kernel_rfl) (fun F=>rfl) (by decide) (by first | rfl | (simp -implicitDefEqProofs only[go_sem,seval,↓reduceIte,List.map_cons,List.map_nil,encXN_K];try rfl)) (by first | rfl | (simp -implicitDefEqProofs only[go_sem,seval,↓reduceIte,List.map_cons,List.map_nil];try rfl)) (by first | rfl | (simp -implicitDefEqProofs only[go_sem,seval,↓reduceIte];try rfl)) (by first | rfl | (simp -implicitDefEqProofs only[go_sem,seval,↓reduceIte];try rfl)) fun gz=>?_
    simp -implicitDefEqProofs only[go_sem,seval,↓reduceIte,sets]
    simp -implicitDefEqProofs only[go_sem,seval,↓reduceIte,rdO_K]
    refine RdS.call hG (hc) (gx:=gz) (by kernel_rfl) (fun F=>rfl) (by decide) (by first | rfl | (simp -implicitDefEqProofs only[go_sem,seval,↓reduceIte,List.map_cons,List.map_nil,encXN_K];try rfl)) (by first | rfl | (simp -implicitDefEqProofs only[go_sem,seval,↓reduceIte,List.map_cons,List.map_nil];try rfl)) (by first | rfl | (simp -implicitDefEqProofs only[go_sem,seval,↓reduceIte];try rfl)) (by first | rfl | (simp -implicitDefEqProofs only[go_sem,seval,↓reduceIte];try rfl)) fun gz2=>?_
    simp -implicitDefEqProofs only[go_sem,seval,↓reduceIte,sets]
    refine hK _ ?_
    clear hK K
    refine AW.condS (by simp -implicitDefEqProofs only[go_sem,seval,↓reduceIte];rfl) (fun h7=>?_) (fun h7=>?_)
    ·refine AW.seq_k fun K hK=>AW.region (by kernel_rfl) ?_
     simp -implicitDefEqProofs only[go_sem,seval,↓reduceIte]
     refine hK _ ?_
     clear hK K
     refine AW.ret ?_
     simp -implicitDefEqProofs only[go_sem,seval,↓reduceIte]
     refine endK_some ?_
     rw [hP]
     exact ⟨rfl,gz2,by first | rfl | (simp -implicitDefEqProofs only[go_sem,seval,↓reduceIte];try rfl),by first | rfl | (simp -implicitDefEqProofs only[go_sem,seval,↓reduceIte];try rfl)⟩
    ·cases h7
   | true =>
    rw [andThen_true] at hP
    refine AW.seq_k fun K hK=>AW.region (by kernel_rfl) ?_
    simp -implicitDefEqProofs only[go_sem,seval,↓reduceIte,rdO_K]
    refine RdS.call hG (hes) (gx:=gy) (by kernel_rfl) (fun F=>rfl) (by decide) (by first | rfl | (simp -implicitDefEqProofs only[go_sem,seval,↓reduceIte,List.map_cons,List.map_nil,encXN_K];try rfl)) (by first | rfl | (simp -implicitDefEqProofs only[go_sem,seval,↓reduceIte,List.map_cons,List.map_nil];try rfl)) (by first | rfl | (simp -implicitDefEqProofs only[go_sem,seval,↓reduceIte];try rfl)) (by first | rfl | (simp -implicitDefEqProofs only[go_sem,seval,↓reduceIte];try rfl)) fun gz=>?_
    simp -implicitDefEqProofs only[go_sem,seval,↓reduceIte,sets]
    simp -implicitDefEqProofs only[go_sem,seval,↓reduceIte,rdO_K]
    refine RdS.call hG (hc) (gx:=gz) (by kernel_rfl) (fun F=>rfl) (by decide) (by first | rfl | (simp -implicitDefEqProofs only[go_sem,seval,↓reduceIte,List.map_cons,List.map_nil,encXN_K];try rfl)) (by first | rfl | (simp -implicitDefEqProofs only[go_sem,seval,↓reduceIte,List.map_cons,List.map_nil];try rfl)) (by first | rfl | (simp -implicitDefEqProofs only[go_sem,seval,↓reduceIte];try rfl)) (by first | rfl | (simp -implicitDefEqProofs only[go_sem,seval,↓reduceIte];try rfl)) fun gz2=>?_
    simp -implicitDefEqProofs only[go_sem,seval,↓reduceIte,sets]
    refine hK _ ?_
    clear hK K
    refine AW.condS (by simp -implicitDefEqProofs only[go_sem,seval,↓reduceIte];rfl) (fun h7=>?_) (fun h7=>?_)
    ·cases h7
    ·refine AW.skip ?_
     simp -implicitDefEqProofs only[go_sem,seval,↓reduceIte]
     refine hK6 _ ?_
     refine AW.region (by kernel_rfl) ?_
     simp -implicitDefEqProofs only[go_sem,seval,↓reduceIte]
     refine RdS.call hG (xLast_spec G hG sl g a han) (gx:=gz2) (by kernel_rfl) (fun F=>rfl) (by decide) (by first | rfl | (simp -implicitDefEqProofs only[go_sem,seval,↓reduceIte,List.map_cons,List.map_nil,encXN_K];try rfl)) (by first | rfl | (simp -implicitDefEqProofs only[go_sem,seval,↓reduceIte,List.map_cons,List.map_nil];try rfl)) (by first | rfl | (simp -implicitDefEqProofs only[go_sem,seval,↓reduceIte];try rfl)) (by first | rfl | (simp -implicitDefEqProofs only[go_sem,seval,↓reduceIte];try rfl)) fun gz3=>?_
     simp -implicitDefEqProofs only[go_sem,seval,↓reduceIte,sets]
     intro g26
     refine app_grown (f:=V.int .i64) (l:=parts) (l2:=[a.last]) (g:=gp) (fun _=>rfl) rfl rfl rfl (by simp -implicitDefEqProofs only[go_sem,seval,↓reduceIte]) (roomOk_of (by omega) (by simp;omega)) fun g27=>?_
     simp -implicitDefEqProofs only[go_sem,seval,↓reduceIte]
     refine hK5 _ ?_
     refine AW.region (by kernel_rfl) ?_
     simp -implicitDefEqProofs only[go_sem,seval,↓reduceIte]
     refine hL2 _ ⟨hk1,(g27,gz3,parts++[a.last],a),⟨hP,ha,?_,?_⟩,Weak.st (by simp -implicitDefEqProofs only[go_sem,seval,↓reduceIte];exact congrArg _ (w64 (by omega) (by omega))) (by simp -implicitDefEqProofs only[go_sem,seval,↓reduceIte];try rfl)⟩
     ·show r.i≤a.i
      have:=hb2.up;omega
     ·show (parts++[a.last]).length=k+1
      rw [List.length_append,List.length_singleton,hpl]
 ·have hk1:k=3:=by have h4:decide ((k:Int)<3)=false:=h4;simp at h4;omega
  refine AW.exit ?_
  simp -implicitDefEqProofs only[go_sem,seval,↓reduceIte]
  refine hK1 _ ?_
  rw [hk1,show brW.drop 3=[] from rfl,restP] at hP
  have heb:=eatP_bal sl.l wEndif q
  have hes:=xEat_spec G hE sl hT g q hqI wEndif
  generalize eatP sl.l wEndif q=y at hP heb hes
  obtain ⟨b,q1⟩:=y
  simp only at heb hes
  have hq1:=(heb.1).ok hq
  have hqn:q1.nodes.length<1000000:=by have:=hq1.1;have:=hq1.2;omega
  cases b with
  | false =>
   rw [andThen_false] at hP
   refine AW.seq_k fun K hK=>AW.region (by kernel_rfl) ?_
   simp -implicitDefEqProofs only[go_sem,seval,↓reduceIte]
   refine RdS.call hG (hes) (gx:=gy) (by kernel_rfl) (fun F=>rfl) (by decide) (by first | rfl | (simp -implicitDefEqProofs only[go_sem,seval,↓reduceIte,List.map_cons,List.map_nil,encXN_K];try rfl)) (by first | rfl | (simp -implicitDefEqProofs only[go_sem,seval,↓reduceIte,List.map_cons,List.map_nil];try rfl)) (by first | rfl | (simp -implicitDefEqProofs only[go_sem,seval,↓reduceIte];try rfl)) (by first | rfl | (simp -implicitDefEqProofs only[go_sem,seval,↓reduceIte];try rfl)) fun gz=>?_
   simp -implicitDefEqProofs only[go_sem,seval,↓reduceIte,sets]
   refine hK _ ?_
   clear hK K
   refine AW.ret ?_
   simp -implicitDefEqProofs only[go_sem,seval,↓reduceIte]
   refine endK_some ?_
   rw [hP]
   exact ⟨rfl,gz,by first | rfl | (simp -implicitDefEqProofs only[go_sem,seval,↓reduceIte];try rfl),by first | rfl | (simp -implicitDefEqProofs only[go_sem,seval,↓reduceIte];try rfl)⟩
  | true =>
   rw [andThen_true] at hP
   refine AW.seq_k fun K hK=>AW.region (by kernel_rfl) ?_
   simp -implicitDefEqProofs only[go_sem,seval,↓reduceIte]
   refine RdS.call hG (hes) (gx:=gy) (by kernel_rfl) (fun F=>rfl) (by decide) (by first | rfl | (simp -implicitDefEqProofs only[go_sem,seval,↓reduceIte,List.map_cons,List.map_nil,encXN_K];try rfl)) (by first | rfl | (simp -implicitDefEqProofs only[go_sem,seval,↓reduceIte,List.map_cons,List.map_nil];try rfl)) (by first | rfl | (simp -implicitDefEqProofs only[go_sem,seval,↓reduceIte];try rfl)) (by first | rfl | (simp -implicitDefEqProofs only[go_sem,seval,↓reduceIte];try rfl)) fun gz=>?_
   simp -implicitDefEqProofs only[go_sem,seval,↓reduceIte,sets]
   refine CallA.frzL (fun o=>o==1027) [.ptr 8 g 0,encXN ⟨22,0,[],0,0,0⟩,encSl .new 1 (V.int .i64) (grownS parts)] [(8,rdO 1031 [.func (.func 78) [] []] sl g gz q1),(1031,ndO gz q1.nodes)] ⟨Fz.same _,Fz.same _,?_,trivial⟩ ?_ ?_
   ·exact Fz.grown (g:=gp) rfl (by simp -implicitDefEqProofs only[go_sem,seval,↓reduceIte];try rfl) (fun _=>rfl)
   ·simp only [allFzO_cons,allFzO_nil,and_true]
    exact ⟨FzO.keep rfl (by simp -implicitDefEqProofs only[go_sem,seval,↓reduceIte];try rfl),FzO.keep rfl (by simp -implicitDefEqProofs only[go_sem,seval,↓reduceIte];try rfl)⟩
   have hp3:(grownS parts).l.length≤3:=by rw [grownS_l];omega
   refine RdS.call hG (xPut_spec G hG sl g q1 hqn ⟨22,0,[],0,0,0⟩ .old (grownS parts) hp3) (gx:=gz) (by kernel_rfl) (fun F=>rfl) (by decide) (by first | rfl | (simp -implicitDefEqProofs only[go_sem,seval,↓reduceIte,List.map_cons,List.map_nil,encXN_K];try rfl)) (by first | rfl | (simp -implicitDefEqProofs only[go_sem,seval,↓reduceIte,List.map_cons,List.map_nil];try rfl)) (by first | rfl | (simp -implicitDefEqProofs only[go_sem,seval,↓reduceIte];try rfl)) (by first | rfl | (simp -implicitDefEqProofs only[go_sem,seval,↓reduceIte];try rfl)) fun gz2=>?_
   simp -implicitDefEqProofs only[go_sem,seval,↓reduceIte,sets]
   refine hK _ ?_
   clear hK K
   refine AW.ret ?_
   simp -implicitDefEqProofs only[go_sem,seval,↓reduceIte]
   refine endK_some ?_
   rw [hP]
   exact ⟨rfl,gz2,by first | rfl | (simp -implicitDefEqProofs only[go_sem,seval,↓reduceIte];try rfl),by first | rfl | (simp -implicitDefEqProofs only[go_sem,seval,↓reduceIte];try rfl)⟩
theorem xAhead_spec (G:Nat→V) (hE:GExp G) (sl:Sl Tk) (hT:TkOk sl.l) (g:Nat) (r:RS) (hr:RSok sl.l r) (inner:Inner) (hin:InnerS G sl g inner r.i) (hb:Bals sl.l inner) :
  RdS 1031 [.func (.func 78) [] []] G 114 [] sl g r (.bool (aheadP sl.l inner r).1) (aheadP sl.l inner r).2:=by
 have hG:=hE.ok
 have hTl:=hT.len
 have hri:r.i<1000000:=by have:=hr.1;omega
 have hrn:r.nodes.length<1000000:=by have:=hr.2;omega
 have hw:IntKind.i64.wrap ((r.i:Int)+1)=((r.i+1:Nat):Int):=by rw [w64 (by omega) (by omega)];omega
 intro gx
 refine Spec.of_code' 1000 107 [.tmp 2] Tryz.func114 rfl rfl rfl rfl fun X=>?_
 have hP:aheadP sl.l inner r=if (nextP sl.l r.i).kind=1 then numberP r (nextP sl.l r.i).text
  else if (nextP sl.l r.i).kind=2 then leafP r 2 0 (nextP sl.l r.i).text
  else if (nextP sl.l r.i).kind=0 then (false,r.err 80)
  else if (ofP (nextP sl.l r.i).text 1).2 then andThen (inner 9 r.adv) fun a=>(true,a.put ⟨(ofP (nextP sl.l r.i).text 1).1,0,[],a.last,-1,-1⟩)
  else if (nextP sl.l r.i).text=[40] then andThen (inner 1 r.adv) (eatP sl.l [41])
  else if (nextP sl.l r.i).text=wIf then branchesP sl.l inner r
  else if (ofP (nextP sl.l r.i).text 0).2∧(nextP sl.l r.i).kind=3 then leafP r (ofP (nextP sl.l r.i).text 0).1 0 []
  else (false,r.err 80):=rfl
 have htl:=nextP_len hT r.i
 have hadv:(nextP sl.l r.i).kind≠0→RSok sl.l r.adv:=fun h=>(Bal.adv (nextP_lt h)).ok hr
 have hno0:(nextP sl.l r.i).kind=0→(ofP (nextP sl.l r.i).text 0).2=false:=fun h=>by
  unfold ofP
  cases ho:ofI (nextP sl.l r.i).text 0 with
  | none=>rfl
  | some i =>
   have hk:=nextP_is sl.l r.i
   rw [h] at hk
   rcases ofI_zero ho with ⟨h,_⟩ | ⟨h,_⟩
   ·rw [h] at hk;exact absurd hk (by decide)
   ·rw [h] at hk;exact absurd hk (by decide)
 refine AW.seq_k fun K hK=>AW.region (by kernel_rfl) ?_
 simp -implicitDefEqProofs only[go_sem,seval,↓reduceIte]
 refine hK _ ?_
 clear hK K
 refine AW.seq_k fun K hK=>AW.region (by kernel_rfl) ?_
 simp -implicitDefEqProofs only[go_sem,seval,↓reduceIte]
 refine RdS.call hG (xNext_spec G hE sl hT g r hri) (gx:=gx) (by kernel_rfl) (fun F=>rfl) (by decide) (by first | rfl | (simp -implicitDefEqProofs only[go_sem,seval,↓reduceIte,List.map_cons,List.map_nil,encXN_K];try rfl)) (by first | rfl | (simp -implicitDefEqProofs only[go_sem,seval,↓reduceIte,List.map_cons,List.map_nil];try rfl)) (by first | rfl | (simp -implicitDefEqProofs only[go_sem,seval,↓reduceIte];try rfl)) (by first | rfl | (simp -implicitDefEqProofs only[go_sem,seval,↓reduceIte];try rfl)) fun gx1=>?_
 simp -implicitDefEqProofs only[go_sem,seval,↓reduceIte,sets]
 simp -implicitDefEqProofs only[go_sem,seval,↓reduceIte,encTk_K]
 intro g3
 refine hK _ ?_
 clear hK K
 generalize nextP sl.l r.i=t at hP htl hadv hno0 ⊢
 obtain ⟨k,t,p⟩:=t
 simp only at hP htl hadv hno0
 refine AW.seq_k fun K hK=>AW.region (by kernel_rfl) ?_
 simp -implicitDefEqProofs only[go_sem,seval,↓reduceIte]
 refine CallA.pure hG (by kernel_rfl) ?_
 simp -implicitDefEqProofs only[go_sem,seval,↓reduceIte]
 refine (xOf_spec G hG t 1).mono ?_
 rintro _ _ rfl
 generalize ofP t 1=o1 at hP ⊢
 obtain ⟨op1,one⟩:=o1
 simp only at hP
 simp -implicitDefEqProofs only[go_sem,seval,↓reduceIte,encOf]
 refine hK _ ?_
 clear hK K
 refine AW.seqJ (fun (_:Unit)=>st [(0,.ptr 8 g 0),(3,.ptr 1003 g3 0)] [(1003,.cells .new g3 0 [.int .u8 k,.str t,.int .i64 p]),(8,rdO 1031 [.func (.func 78) [] []] sl g gx1 r),(1031,ndO gx1 r.nodes)])
  (fun _=>(k=0∨(k≠0∧k≠1∧k≠2∧one=false∧t≠[40]∧t≠wIf))) (fun K1 hK1=>?_) ?_
 ·refine AW.block ?_
  by_cases k1:k=1
  ·have e1:(k==1)=true:=by simpa using k1
   rw [if_pos k1] at hP
   refine AW.seq_k fun K hK=>AW.region (by kernel_rfl) ?_
   simp -implicitDefEqProofs only[go_sem,seval,↓reduceIte,e1]
   refine hK _ ?_
   clear hK K
   refine AW.condS (by simp -implicitDefEqProofs only[go_sem,seval,↓reduceIte];rfl) (fun h2=>?_) (fun h2=>?_)
   ·refine AW.seq_k fun K hK=>AW.region (by kernel_rfl) ?_
    simp -implicitDefEqProofs only[go_sem,seval,↓reduceIte]
    refine RdS.call hG (xNumber_spec G hE sl g r hri hrn t htl) (gx:=gx1) (by kernel_rfl) (fun F=>rfl) (by decide) (by first | rfl | (simp -implicitDefEqProofs only[go_sem,seval,↓reduceIte,List.map_cons,List.map_nil,encXN_K];try rfl)) (by first | rfl | (simp -implicitDefEqProofs only[go_sem,seval,↓reduceIte,List.map_cons,List.map_nil];try rfl)) (by first | rfl | (simp -implicitDefEqProofs only[go_sem,seval,↓reduceIte];try rfl)) (by first | rfl | (simp -implicitDefEqProofs only[go_sem,seval,↓reduceIte];try rfl)) fun gx2=>?_
    simp -implicitDefEqProofs only[go_sem,seval,↓reduceIte,sets]
    refine hK _ ?_
    clear hK K
    refine AW.ret ?_
    simp -implicitDefEqProofs only[go_sem,seval,↓reduceIte]
    refine endK_some ?_
    rw [hP]
    exact ⟨rfl,gx2,by first | rfl | (simp -implicitDefEqProofs only[go_sem,seval,↓reduceIte];try rfl),by first | rfl | (simp -implicitDefEqProofs only[go_sem,seval,↓reduceIte];try rfl)⟩
   ·cases h2
  have e1:(k==1)=false:=by simpa using k1
  rw [if_neg k1] at hP
  refine AW.seq_k fun K hK=>AW.region (by kernel_rfl) ?_
  simp -implicitDefEqProofs only[go_sem,seval,↓reduceIte,e1]
  refine hK _ ?_
  clear hK K
  refine AW.condS (by simp -implicitDefEqProofs only[go_sem,seval,↓reduceIte];rfl) (fun h2=>?_) (fun h2=>?_)
  ·cases h2
  clear h2
  by_cases k2:k=2
  ·have e2:(k==2)=true:=by simpa using k2
   rw [if_pos k2] at hP
   refine AW.seq_k fun K hK=>AW.region (by kernel_rfl) ?_
   simp -implicitDefEqProofs only[go_sem,seval,↓reduceIte,e2]
   refine hK _ ?_
   clear hK K
   refine AW.condS (by simp -implicitDefEqProofs only[go_sem,seval,↓reduceIte];rfl) (fun h2=>?_) (fun h2=>?_)
   ·refine AW.seq_k fun K hK=>AW.region (by kernel_rfl) ?_
    simp -implicitDefEqProofs only[go_sem,seval,↓reduceIte]
    rw [← encXN_K ⟨2,0,t,0,0,0⟩]
    refine RdS.call hG (xLeaf_spec G hG sl g r hri hrn 2 0 t 0 0 0) (gx:=gx1) (by kernel_rfl) (fun F=>rfl) (by decide) (by first | rfl | (simp -implicitDefEqProofs only[go_sem,seval,↓reduceIte,List.map_cons,List.map_nil,encXN_K];try rfl)) (by first | rfl | (simp -implicitDefEqProofs only[go_sem,seval,↓reduceIte,List.map_cons,List.map_nil];try rfl)) (by first | rfl | (simp -implicitDefEqProofs only[go_sem,seval,↓reduceIte];try rfl)) (by first | rfl | (simp -implicitDefEqProofs only[go_sem,seval,↓reduceIte];try rfl)) fun gx2=>?_
    simp -implicitDefEqProofs only[go_sem,seval,↓reduceIte,sets]
    refine hK _ ?_
    clear hK K
    refine AW.ret ?_
    simp -implicitDefEqProofs only[go_sem,seval,↓reduceIte]
    refine endK_some ?_
    rw [hP]
    exact ⟨rfl,gx2,by first | rfl | (simp -implicitDefEqProofs only[go_sem,seval,↓reduceIte];try rfl),by first | rfl | (simp -implicitDefEqProofs only[go_sem,seval,↓reduceIte];try rfl)⟩
   ·cases h2
  have e2:(k==2)=false:=by simpa using k2
  rw [if_neg k2] at hP
  refine AW.seq_k fun K hK=>AW.region (by kernel_rfl) ?_
  simp -implicitDefEqProofs only[go_sem,seval,↓reduceIte,e2]
  refine hK _ ?_
  clear hK K
  refine AW.condS (by simp -implicitDefEqProofs only[go_sem,seval,↓reduceIte];rfl) (fun h2=>?_) (fun h2=>?_)
  ·cases h2
  clear h2
  by_cases k0:k=0
  ·have e0:(k==0)=true:=by simpa using k0
   refine AW.seq_k fun K hK=>AW.region (by kernel_rfl) ?_
   simp -implicitDefEqProofs only[go_sem,seval,↓reduceIte,e0]
   refine hK _ ?_
   clear hK K
   refine AW.condS (by simp -implicitDefEqProofs only[go_sem,seval,↓reduceIte];rfl) (fun h2=>?_) (fun h2=>?_)
   ·refine AW.skip ?_
    simp -implicitDefEqProofs only[go_sem,seval,↓reduceIte]
    exact hK1 _ () (.inl k0) (Weak.st (by simp -implicitDefEqProofs only[go_sem,seval,↓reduceIte]) (by simp -implicitDefEqProofs only[go_sem,seval,↓reduceIte]))
   ·cases h2
  have e0:(k==0)=false:=by simpa using k0
  rw [if_neg k0] at hP
  have had:=hadv k0
  refine AW.seq_k fun K hK=>AW.region (by kernel_rfl) ?_
  simp -implicitDefEqProofs only[go_sem,seval,↓reduceIte,e0]
  refine hK _ ?_
  clear hK K
  refine AW.condS (by simp -implicitDefEqProofs only[go_sem,seval,↓reduceIte];rfl) (fun h2=>?_) (fun h2=>?_)
  ·cases h2
  clear h2
  refine AW.seq_k fun K hK=>AW.region (by kernel_rfl) ?_
  simp -implicitDefEqProofs only[go_sem,seval,↓reduceIte]
  refine hK _ ?_
  clear hK K
  refine AW.condS (by simp -implicitDefEqProofs only[go_sem,seval,↓reduceIte];rfl) (fun h3=>?_) (fun h3=>?_)
  ·subst h3
   rw [if_pos rfl] at hP
   have hc:=hin 9 r.adv (by decide) (by decide) (Nat.lt_succ_self _) had
   have hbl:=(hb 9 r.adv).ok had
   generalize inner 9 r.adv=x at hc hP hbl
   obtain ⟨b,a⟩:=x
   simp only at hc hbl
   have han:a.nodes.length<1000000:=by have:=hbl.1;have:=hbl.2;omega
   refine AW.seq_k fun K hK=>AW.region (by kernel_rfl) ?_
   simp -implicitDefEqProofs only[go_sem,seval,↓reduceIte,rdO_K,hw]
   refine hK _ ?_
   clear hK K
   cases b with
   | false =>
    refine AW.seq_k fun K hK=>AW.region (by kernel_rfl) ?_
    simp -implicitDefEqProofs only[go_sem,seval,↓reduceIte,rdO_K]
    refine RdS.call hG (hc) (gx:=gx1) (by kernel_rfl) (fun F=>rfl) (by decide) (by first | rfl | (simp -implicitDefEqProofs only[go_sem,seval,↓reduceIte,List.map_cons,List.map_nil,encXN_K];try rfl)) (by first | rfl | (simp -implicitDefEqProofs only[go_sem,seval,↓reduceIte,List.map_cons,List.map_nil];try rfl)) (by first | rfl | (simp -implicitDefEqProofs only[go_sem,seval,↓reduceIte];try rfl)) (by first | rfl | (simp -implicitDefEqProofs only[go_sem,seval,↓reduceIte];try rfl)) fun gx2=>?_
    simp -implicitDefEqProofs only[go_sem,seval,↓reduceIte,sets]
    refine hK _ ?_
    clear hK K
    refine AW.ret ?_
    simp -implicitDefEqProofs only[go_sem,seval,↓reduceIte]
    refine endK_some ?_
    rw [hP]
    exact ⟨rfl,gx2,by first | rfl | (simp -implicitDefEqProofs only[go_sem,seval,↓reduceIte];try rfl),by first | rfl | (simp -implicitDefEqProofs only[go_sem,seval,↓reduceIte];try rfl)⟩
   | true =>
    refine AW.seq_k fun K hK=>AW.region (by kernel_rfl) ?_
    simp -implicitDefEqProofs only[go_sem,seval,↓reduceIte,rdO_K]
    refine RdS.call hG (hc) (gx:=gx1) (by kernel_rfl) (fun F=>rfl) (by decide) (by first | rfl | (simp -implicitDefEqProofs only[go_sem,seval,↓reduceIte,List.map_cons,List.map_nil,encXN_K];try rfl)) (by first | rfl | (simp -implicitDefEqProofs only[go_sem,seval,↓reduceIte,List.map_cons,List.map_nil];try rfl)) (by first | rfl | (simp -implicitDefEqProofs only[go_sem,seval,↓reduceIte];try rfl)) (by first | rfl | (simp -implicitDefEqProofs only[go_sem,seval,↓reduceIte];try rfl)) fun gx2=>?_
    simp -implicitDefEqProofs only[go_sem,seval,↓reduceIte,sets]
    refine RdS.call hG (xLast_spec G hG sl g a han) (gx:=gx2) (by kernel_rfl) (fun F=>rfl) (by decide) (by first | rfl | (simp -implicitDefEqProofs only[go_sem,seval,↓reduceIte,List.map_cons,List.map_nil,encXN_K];try rfl)) (by first | rfl | (simp -implicitDefEqProofs only[go_sem,seval,↓reduceIte,List.map_cons,List.map_nil];try rfl)) (by first | rfl | (simp -implicitDefEqProofs only[go_sem,seval,↓reduceIte];try rfl)) (by first | rfl | (simp -implicitDefEqProofs only[go_sem,seval,↓reduceIte];try rfl)) fun gx3=>?_
    simp -implicitDefEqProofs only[go_sem,seval,↓reduceIte,sets]
    intro g58
    refine CallA.frzL (fun o=>o==1058) [.ptr 8 g 0,encXN ⟨op1,0,[],0,0,0⟩,.slice .new false 1 [.int .i64 a.last]] [(8,rdO 1031 [.func (.func 78) [] []] sl g gx3 a),(1031,ndO gx3 a.nodes)] ⟨Fz.same _,Fz.same _,?_,trivial⟩ ?_ ?_
    ·exact Fz.sl (f:=V.int .i64) (l:=[a.last]) (m:=1) (g:=g58) (fz:=0) (c := .new) rfl (by simp -implicitDefEqProofs only[go_sem,seval,↓reduceIte];rfl) (fun _=>rfl)
    ·simp only [allFzO_cons,allFzO_nil,and_true]
     exact ⟨FzO.keep rfl (by simp -implicitDefEqProofs only[go_sem,seval,↓reduceIte];try rfl),FzO.keep rfl (by simp -implicitDefEqProofs only[go_sem,seval,↓reduceIte];try rfl)⟩
    refine RdS.call hG (xPut_spec G hG sl g a han ⟨op1,0,[],0,0,0⟩ .old (.mk false [a.last]) (Nat.le_of_ble_eq_true rfl)) (gx:=gx3) (by kernel_rfl) (fun F=>rfl) (by decide) (by first | rfl | (simp -implicitDefEqProofs only[go_sem,seval,↓reduceIte,List.map_cons,List.map_nil,encXN_K];try rfl)) (by first | rfl | (simp -implicitDefEqProofs only[go_sem,seval,↓reduceIte,List.map_cons,List.map_nil];try rfl)) (by first | rfl | (simp -implicitDefEqProofs only[go_sem,seval,↓reduceIte];try rfl)) (by first | rfl | (simp -implicitDefEqProofs only[go_sem,seval,↓reduceIte];try rfl)) fun gx4=>?_
    simp -implicitDefEqProofs only[go_sem,seval,↓reduceIte,sets]
    refine hK _ ?_
    clear hK K
    refine AW.ret ?_
    simp -implicitDefEqProofs only[go_sem,seval,↓reduceIte]
    refine endK_some ?_
    rw [hP]
    exact ⟨rfl,gx4,by first | rfl | (simp -implicitDefEqProofs only[go_sem,seval,↓reduceIte];try rfl),by first | rfl | (simp -implicitDefEqProofs only[go_sem,seval,↓reduceIte];try rfl)⟩
  ·subst h3
   rw [if_neg (by simp)] at hP
   refine AW.seq_k fun K hK=>AW.region (by kernel_rfl) ?_
   simp -implicitDefEqProofs only[go_sem,seval,↓reduceIte]
   refine hK _ ?_
   clear hK K
   refine AW.condS (by simp -implicitDefEqProofs only[go_sem,seval,↓reduceIte];rfl) (fun h4=>?_) (fun h4=>?_)
   ·have h4:t=[40]:=by simpa using h4
    rw [if_pos h4] at hP
    have hc:=hin 1 r.adv (by decide) (by decide) (Nat.lt_succ_self _) had
    have hbl:=(hb 1 r.adv).ok had
    generalize inner 1 r.adv=x at hc hP hbl
    obtain ⟨b,a⟩:=x
    simp only at hc hbl
    have hai:a.i<1000000:=by have:=hbl.1;omega
    refine AW.seq_k fun K hK=>AW.region (by kernel_rfl) ?_
    simp -implicitDefEqProofs only[go_sem,seval,↓reduceIte,rdO_K,hw]
    refine hK _ ?_
    clear hK K
    cases b with
    | false =>
     refine AW.seq_k fun K hK=>AW.region (by kernel_rfl) ?_
     simp -implicitDefEqProofs only[go_sem,seval,↓reduceIte,rdO_K]
     refine RdS.call hG (hc) (gx:=gx1) (by kernel_rfl) (fun F=>rfl) (by decide) (by first | rfl | (simp -implicitDefEqProofs only[go_sem,seval,↓reduceIte,List.map_cons,List.map_nil,encXN_K];try rfl)) (by first | rfl | (simp -implicitDefEqProofs only[go_sem,seval,↓reduceIte,List.map_cons,List.map_nil];try rfl)) (by first | rfl | (simp -implicitDefEqProofs only[go_sem,seval,↓reduceIte];try rfl)) (by first | rfl | (simp -implicitDefEqProofs only[go_sem,seval,↓reduceIte];try rfl)) fun gx2=>?_
     simp -implicitDefEqProofs only[go_sem,seval,↓reduceIte,sets]
     refine hK _ ?_
     clear hK K
     refine AW.ret ?_
     simp -implicitDefEqProofs only[go_sem,seval,↓reduceIte]
     refine endK_some ?_
     rw [hP]
     exact ⟨rfl,gx2,by first | rfl | (simp -implicitDefEqProofs only[go_sem,seval,↓reduceIte];try rfl),by first | rfl | (simp -implicitDefEqProofs only[go_sem,seval,↓reduceIte];try rfl)⟩
    | true =>
     rw [andThen_true] at hP
     refine AW.seq_k fun K hK=>AW.region (by kernel_rfl) ?_
     simp -implicitDefEqProofs only[go_sem,seval,↓reduceIte,rdO_K]
     refine RdS.call hG (hc) (gx:=gx1) (by kernel_rfl) (fun F=>rfl) (by decide) (by first | rfl | (simp -implicitDefEqProofs only[go_sem,seval,↓reduceIte,List.map_cons,List.map_nil,encXN_K];try rfl)) (by first | rfl | (simp -implicitDefEqProofs only[go_sem,seval,↓reduceIte,List.map_cons,List.map_nil];try rfl)) (by first | rfl | (simp -implicitDefEqProofs only[go_sem,seval,↓reduceIte];try rfl)) (by first | rfl | (simp -implicitDefEqProofs only[go_sem,seval,↓reduceIte];try rfl)) fun gx2=>?_
     simp -implicitDefEqProofs only[go_sem,seval,↓reduceIte,sets]
     refine RdS.call hG (xEat_spec G hE sl hT g a hai [41]) (gx:=gx2) (by kernel_rfl) (fun F=>rfl) (by decide) (by first | rfl | (simp -implicitDefEqProofs only[go_sem,seval,↓reduceIte,List.map_cons,List.map_nil,encXN_K];try rfl)) (by first | rfl | (simp -implicitDefEqProofs only[go_sem,seval,↓reduceIte,List.map_cons,List.map_nil];try rfl)) (by first | rfl | (simp -implicitDefEqProofs only[go_sem,seval,↓reduceIte];try rfl)) (by first | rfl | (simp -implicitDefEqProofs only[go_sem,seval,↓reduceIte];try rfl)) fun gx3=>?_
     simp -implicitDefEqProofs only[go_sem,seval,↓reduceIte,sets]
     generalize eatP sl.l [41] a=y at hP ⊢
     obtain ⟨b,a2⟩:=y
     cases b with
     | true =>
      simp -implicitDefEqProofs only[go_sem,seval,↓reduceIte]
      refine hK _ ?_
      clear hK K
      refine AW.ret ?_
      simp -implicitDefEqProofs only[go_sem,seval,↓reduceIte]
      refine endK_some ?_
      rw [hP]
      exact ⟨rfl,gx3,by first | rfl | (simp -implicitDefEqProofs only[go_sem,seval,↓reduceIte];try rfl),by first | rfl | (simp -implicitDefEqProofs only[go_sem,seval,↓reduceIte];try rfl)⟩
     | false =>
      simp -implicitDefEqProofs only[go_sem,seval,↓reduceIte]
      refine hK _ ?_
      clear hK K
      refine AW.ret ?_
      simp -implicitDefEqProofs only[go_sem,seval,↓reduceIte]
      refine endK_some ?_
      rw [hP]
      exact ⟨rfl,gx3,by first | rfl | (simp -implicitDefEqProofs only[go_sem,seval,↓reduceIte];try rfl),by first | rfl | (simp -implicitDefEqProofs only[go_sem,seval,↓reduceIte];try rfl)⟩
   ·have h4:¬ t=[40]:=by simpa using h4
    rw [if_neg h4] at hP
    refine AW.seq_k fun K hK=>AW.region (by kernel_rfl) ?_
    simp -implicitDefEqProofs only[go_sem,seval,↓reduceIte]
    refine hK _ ?_
    clear hK K
    refine AW.condS (by simp -implicitDefEqProofs only[go_sem,seval,↓reduceIte];rfl) (fun h5=>?_) (fun h5=>?_)
    ·have h5:t=wIf:=by
      have h5:(t==[105,102])=true:=h5
      exact eq_of_beq h5
     rw [if_pos h5] at hP
     refine AW.seq_k fun K hK=>AW.region (by kernel_rfl) ?_
     simp -implicitDefEqProofs only[go_sem,seval,↓reduceIte]
     refine RdS.call hG (xBranches_spec G hE sl hT g r hr inner hin hb) (gx:=gx1) (by kernel_rfl) (fun F=>rfl) (by decide) (by first | rfl | (simp -implicitDefEqProofs only[go_sem,seval,↓reduceIte,List.map_cons,List.map_nil,encXN_K];try rfl)) (by first | rfl | (simp -implicitDefEqProofs only[go_sem,seval,↓reduceIte,List.map_cons,List.map_nil];try rfl)) (by first | rfl | (simp -implicitDefEqProofs only[go_sem,seval,↓reduceIte];try rfl)) (by first | rfl | (simp -implicitDefEqProofs only[go_sem,seval,↓reduceIte];try rfl)) fun gx2=>?_
     simp -implicitDefEqProofs only[go_sem,seval,↓reduceIte,sets]
     refine hK _ ?_
     clear hK K
     refine AW.ret ?_
     simp -implicitDefEqProofs only[go_sem,seval,↓reduceIte]
     refine endK_some ?_
     rw [hP]
     exact ⟨rfl,gx2,by first | rfl | (simp -implicitDefEqProofs only[go_sem,seval,↓reduceIte];try rfl),by first | rfl | (simp -implicitDefEqProofs only[go_sem,seval,↓reduceIte];try rfl)⟩
    ·have h5:¬ t=wIf:=by
      have h5:(t==[105,102])=false:=h5
      exact beq_eq_false_iff_ne.1 h5
     refine AW.skip ?_
     simp -implicitDefEqProofs only[go_sem,seval,↓reduceIte]
     exact hK1 _ () (.inr ⟨k0,k1,k2,rfl,h4,h5⟩) (Weak.st (by simp -implicitDefEqProofs only[go_sem,seval,↓reduceIte]) (by simp -implicitDefEqProofs only[go_sem,seval,↓reduceIte]))
 rintro _ hcase
 have hP2:aheadP sl.l inner r=if (ofP t 0).2∧k=3 then leafP r (ofP t 0).1 0 [] else (false,r.err 80):=by
  rw [hP]
  rcases hcase with k0 | ⟨k0,k1,k2,k3,k4,k5⟩
  ·have:=hno0 k0
   subst k0
   rw [if_neg (by decide),if_neg (by decide),if_pos rfl,this,if_neg (by simp)]
  ·rw [if_neg k1,if_neg k2,if_neg k0,k3,if_neg (by simp),if_neg k4,if_neg k5]
 clear hP
 have hP:=hP2
 clear hP2 hno0 hcase
 refine AW.seq_k fun K6 hK6=>?_
 refine AW.seq_k fun K hK=>AW.region (by kernel_rfl) ?_
 simp -implicitDefEqProofs only[go_sem,seval,↓reduceIte]
 refine CallA.pure hG (by kernel_rfl) ?_
 simp -implicitDefEqProofs only[go_sem,seval,↓reduceIte]
 refine (xOf_spec G hG t 0).mono ?_
 rintro _ _ rfl
 generalize ofP t 0=o0 at hP ⊢
 obtain ⟨op0,ok⟩:=o0
 simp only at hP
 simp -implicitDefEqProofs only[go_sem,seval,↓reduceIte,encOf]
 refine hK _ ?_
 clear hK K
 cases ok with
 | false =>
  rw [if_neg (by simp)] at hP
  refine AW.seq_k fun K hK=>AW.region (by kernel_rfl) ?_
  simp -implicitDefEqProofs only[go_sem,seval,↓reduceIte]
  refine hK _ ?_
  clear hK K
  refine AW.condS (by simp -implicitDefEqProofs only[go_sem,seval,↓reduceIte];rfl) (fun h7=>?_) (fun h7=>?_)
  ·cases h7
  ·refine AW.skip ?_
   simp -implicitDefEqProofs only[go_sem,seval,↓reduceIte]
   refine hK6 _ ?_
   refine AW.seq_k fun K hK=>AW.region (by kernel_rfl) ?_
   simp -implicitDefEqProofs only[go_sem,seval,↓reduceIte,rdO_K]
   refine hK _ ?_
   clear hK K
   refine AW.seq_k fun K hK=>AW.region (by kernel_rfl) ?_
   simp -implicitDefEqProofs only[go_sem,seval,↓reduceIte]
   refine hK _ ?_
   clear hK K
   refine AW.ret ?_
   simp -implicitDefEqProofs only[go_sem,seval,↓reduceIte]
   refine endK_some ?_
   rw [hP]
   exact ⟨rfl,gx1,by first | rfl | (simp -implicitDefEqProofs only[go_sem,seval,↓reduceIte];try rfl),by first | rfl | (simp -implicitDefEqProofs only[go_sem,seval,↓reduceIte];try rfl)⟩
 | true =>
  by_cases k3:k=3
  ·have e3:(k==3)=true:=by simpa using k3
   rw [if_pos ⟨rfl,k3⟩] at hP
   refine AW.seq_k fun K hK=>AW.region (by kernel_rfl) ?_
   simp -implicitDefEqProofs only[go_sem,seval,↓reduceIte,e3]
   refine hK _ ?_
   clear hK K
   refine AW.condS (by simp -implicitDefEqProofs only[go_sem,seval,↓reduceIte];rfl) (fun h7=>?_) (fun h7=>?_)
   ·refine AW.seq_k fun K hK=>AW.region (by kernel_rfl) ?_
    simp -implicitDefEqProofs only[go_sem,seval,↓reduceIte]
    rw [← encXN_K ⟨op0,0,[],0,0,0⟩]
    refine RdS.call hG (xLeaf_spec G hG sl g r hri hrn op0 0 [] 0 0 0) (gx:=gx1) (by kernel_rfl) (fun F=>rfl) (by decide) (by first | rfl | (simp -implicitDefEqProofs only[go_sem,seval,↓reduceIte,List.map_cons,List.map_nil,encXN_K];try rfl)) (by first | rfl | (simp -implicitDefEqProofs only[go_sem,seval,↓reduceIte,List.map_cons,List.map_nil];try rfl)) (by first | rfl | (simp -implicitDefEqProofs only[go_sem,seval,↓reduceIte];try rfl)) (by first | rfl | (simp -implicitDefEqProofs only[go_sem,seval,↓reduceIte];try rfl)) fun gx2=>?_
    simp -implicitDefEqProofs only[go_sem,seval,↓reduceIte,sets]
    refine hK _ ?_
    clear hK K
    refine AW.ret ?_
    simp -implicitDefEqProofs only[go_sem,seval,↓reduceIte]
    refine endK_some ?_
    rw [hP]
    exact ⟨rfl,gx2,by first | rfl | (simp -implicitDefEqProofs only[go_sem,seval,↓reduceIte];try rfl),by first | rfl | (simp -implicitDefEqProofs only[go_sem,seval,↓reduceIte];try rfl)⟩
   ·cases h7
  ·have e3:(k==3)=false:=by simpa using k3
   rw [if_neg (fun h=>k3 h.2)] at hP
   refine AW.seq_k fun K hK=>AW.region (by kernel_rfl) ?_
   simp -implicitDefEqProofs only[go_sem,seval,↓reduceIte,e3]
   refine hK _ ?_
   clear hK K
   refine AW.condS (by simp -implicitDefEqProofs only[go_sem,seval,↓reduceIte];rfl) (fun h7=>?_) (fun h7=>?_)
   ·cases h7
   ·refine AW.skip ?_
    simp -implicitDefEqProofs only[go_sem,seval,↓reduceIte]
    refine hK6 _ ?_
    refine AW.seq_k fun K hK=>AW.region (by kernel_rfl) ?_
    simp -implicitDefEqProofs only[go_sem,seval,↓reduceIte,rdO_K]
    refine hK _ ?_
    clear hK K
    refine AW.seq_k fun K hK=>AW.region (by kernel_rfl) ?_
    simp -implicitDefEqProofs only[go_sem,seval,↓reduceIte]
    refine hK _ ?_
    clear hK K
    refine AW.ret ?_
    simp -implicitDefEqProofs only[go_sem,seval,↓reduceIte]
    refine endK_some ?_
    rw [hP]
    exact ⟨rfl,gx1,by first | rfl | (simp -implicitDefEqProofs only[go_sem,seval,↓reduceIte];try rfl),by first | rfl | (simp -implicitDefEqProofs only[go_sem,seval,↓reduceIte];try rfl)⟩
end Go.Hs
end

section
namespace Go.Hs
open Go.Proofs
set_option maxRecDepth 10000
theorem loopP_succ (l:List Tk) (inner:Inner) (n:Int) (m:Nat) (r:RS):loopP l inner n (m+1) r=match opAt l r.i with
  | none=>(true,r)
  | some op=>if lvl op<n then (true,r) else andThen (inner (lvl op+1) r.adv) fun a=>loopP l inner n m (a.put ⟨op,0,[],r.last,a.last,-1⟩):=rfl
theorem ofP_opAt {l:List Tk} {i:Nat}:((nextP l i).kind=0∨(ofP (nextP l i).text 2).2=false→opAt l i=none)∧((nextP l i).kind≠0→(ofP (nextP l i).text 2).2=true→opAt l i=some (ofP (nextP l i).text 2).1):=by
 unfold opAt ofP
 constructor
 ·rintro (h | h)
  ·rw [if_pos h]
  ·split
   ·rfl
   ·cases ho:ofI (nextP l i).text 2 with
    | none=>rfl
    | some op=>rw [ho] at h;cases h
 ·intro h h2
  rw [if_neg h]
  cases ho:ofI (nextP l i).text 2 with
  | none=>rw [ho] at h2;cases h2
  | some op=>rfl
theorem ofP_lt (t:List UInt8) (p:Int):(ofP t p).1<23:=by
 unfold ofP
 split
 ·rename_i h;exact ofI_lt h
 ·decide
theorem xClimb_spec (G:Nat→V) (hE:GExp G) (sl:Sl Tk) (hT:TkOk sl.l) (g:Nat):∀ (f:Nat) (n:Int) (r:RS),1≤n→n≤9→sl.l.length<f+r.i→RSok sl.l r →
  RdS 1031 [.func (.func 78) [] []] G 78 [.int .i64 n] sl g r (.bool (climbP sl.l f n r).1) (climbP sl.l f n r).2:=by
 have hG:=hE.ok
 have hTl:=hT.len
 intro f
 induction f with
 | zero=>intro n r _ _ hf hr;have:=hr.1;omega
 | succ f ih =>
 intro n r hn1 hn9 hf hr gx
 have hin:∀ i0,r.i≤i0→InnerS G sl g (climbP sl.l f) i0:=fun i0 hi0 n' r' h1 h9 hi hr'=>ih n' r' h1 h9 (by omega) hr'
 have hbs:=climbP_bal sl.l f
 have hP:climbP sl.l (f+1) n r=andThen (aheadP sl.l (climbP sl.l f) r) (loopP sl.l (climbP sl.l f) n (sl.l.length+1)):=rfl
 generalize climbP sl.l (f+1) n r=res at hP ⊢
 refine Spec.of_code' 1000 65 [.tmp 4] Tryz.func78 rfl rfl rfl rfl fun X=>?_
 have hah:=xAhead_spec G hE sl hT g r hr _ (hin r.i (Nat.le_refl _)) hbs
 have hab:=aheadP_bal hbs r
 generalize aheadP sl.l (climbP sl.l f) r=y at hP hah hab
 obtain ⟨b,q0⟩:=y
 simp only at hah hab
 refine AW.seq_k fun K hK=>AW.region (by kernel_rfl) ?_
 simp -implicitDefEqProofs only[go_sem,seval,↓reduceIte]
 refine hK _ ?_
 clear hK K
 refine AW.seq_k fun K1 hK1=>?_
 cases b with
 | false =>
  rw [andThen_false] at hP
  refine AW.seq_k fun K hK=>AW.region (by kernel_rfl) ?_
  simp -implicitDefEqProofs only[go_sem,seval,↓reduceIte]
  refine RdS.call hG (hah) (gx:=gx) (by kernel_rfl) (fun F=>rfl) (by decide) (by first | rfl | (simp -implicitDefEqProofs only[go_sem,seval,↓reduceIte,List.map_cons,List.map_nil,encXN_K];try rfl)) (by first | rfl | (simp -implicitDefEqProofs only[go_sem,seval,↓reduceIte,List.map_cons,List.map_nil];try rfl)) (by first | rfl | (simp -implicitDefEqProofs only[go_sem,seval,↓reduceIte];try rfl)) (by first | rfl | (simp -implicitDefEqProofs only[go_sem,seval,↓reduceIte];try rfl)) fun gx1=>?_
  simp -implicitDefEqProofs only[go_sem,seval,↓reduceIte,sets]
  refine hK _ ?_
  clear hK K
  refine AW.condS (by simp -implicitDefEqProofs only[go_sem,seval,↓reduceIte];rfl) (fun h2=>?_) (fun h2=>?_)
  ·refine AW.seq_k fun K hK=>AW.region (by kernel_rfl) ?_
   simp -implicitDefEqProofs only[go_sem,seval,↓reduceIte]
   refine hK _ ?_
   clear hK K
   refine AW.ret ?_
   simp -implicitDefEqProofs only[go_sem,seval,↓reduceIte]
   refine endK_some ?_
   rw [hP]
   exact ⟨rfl,gx1,by first | rfl | (simp -implicitDefEqProofs only[go_sem,seval,↓reduceIte];try rfl),by first | rfl | (simp -implicitDefEqProofs only[go_sem,seval,↓reduceIte];try rfl)⟩
  ·cases h2
 | true =>
 rw [andThen_true] at hP
 have hq0:=hab.ok hr
 refine AW.seq_k fun K hK=>AW.region (by kernel_rfl) ?_
 simp -implicitDefEqProofs only[go_sem,seval,↓reduceIte]
 refine RdS.call hG (hah) (gx:=gx) (by kernel_rfl) (fun F=>rfl) (by decide) (by first | rfl | (simp -implicitDefEqProofs only[go_sem,seval,↓reduceIte,List.map_cons,List.map_nil,encXN_K];try rfl)) (by first | rfl | (simp -implicitDefEqProofs only[go_sem,seval,↓reduceIte,List.map_cons,List.map_nil];try rfl)) (by first | rfl | (simp -implicitDefEqProofs only[go_sem,seval,↓reduceIte];try rfl)) (by first | rfl | (simp -implicitDefEqProofs only[go_sem,seval,↓reduceIte];try rfl)) fun gx1=>?_
 simp -implicitDefEqProofs only[go_sem,seval,↓reduceIte,sets]
 refine hK _ ?_
 clear hK K
 refine AW.condS (by simp -implicitDefEqProofs only[go_sem,seval,↓reduceIte];rfl) (fun h2=>?_) (fun h2=>?_)
 ·cases h2
 refine AW.skip ?_
 simp -implicitDefEqProofs only[go_sem,seval,↓reduceIte]
 refine hK1 _ ?_
 refine AW.seq_k fun K hK=>AW.region (by kernel_rfl) ?_
 simp -implicitDefEqProofs only[go_sem,seval,↓reduceIte]
 refine CallA.pure hG (by kernel_rfl) ?_
 simp -implicitDefEqProofs only[go_sem,seval,↓reduceIte,List.map_nil]
 refine (xTable_spec G hG).mono ?_
 rintro _ _ rfl
 simp -implicitDefEqProofs only[go_sem,seval,↓reduceIte,tabC_rc,tabC_len,Nat.le_refl]
 intro g5
 rw [setAt_tab _ ?hl]
 case hl=>rfl
 refine hK _ ?_
 clear hK K
 refine AW.block ?_
 refine AW.while (fun (x:Nat × Nat × RS)=>st [(0,.ptr 8 g 0),(1,.int .i64 n),(5,.ptr 1005 g5 0)] [(1005,.cells .new g5 0 tabC),(8,rdO 1031 [.func (.func 78) [] []] sl g x.1 x.2.2),(1031,ndO x.1 x.2.2.nodes)])
  (fun x=>res=loopP sl.l (climbP sl.l f) n x.2.1 x.2.2∧RSok sl.l x.2.2∧r.i≤x.2.2.i∧sl.l.length<x.2.1+x.2.2.i) (fun x=>x.2.1) (gx1,sl.l.length+1,q0) ⟨hP,hq0,hab.up,Nat.lt_add_right _ (Nat.lt_succ_self _)⟩
  (Weak.st (by simp -implicitDefEqProofs only[go_sem,seval,↓reduceIte]) (by simp -implicitDefEqProofs only[go_sem,seval,↓reduceIte];try rfl)) ?_
 clear hP
 rintro ⟨gy,m,q⟩ ⟨hP,hq,hqi,hm⟩ L3 hL3
 replace hP:res=loopP sl.l (climbP sl.l f) n m q:=hP
 replace hq:RSok sl.l q:=hq
 replace hqi:r.i≤q.i:=hqi
 replace hm:sl.l.length<m+q.i:=hm
 obtain ⟨m,rfl⟩:∃ m',m=m'+1:=⟨m-1,by have:=hq.1;omega⟩
 have hqI:q.i<1000000:=by have:=hq.1;omega
 have hqn:q.nodes.length<1000000:=by have:=hq.1;have:=hq.2;omega
 rw [loopP_succ] at hP
 have hop:=ofP_opAt (l:=sl.l) (i:=q.i)
 have hlt23:=ofP_lt (nextP sl.l q.i).text 2
 have htl:=nextP_len hT q.i
 have hbnd:∀ op,opAt sl.l q.i=some op→1≤lvl op∧lvl op≤8:=fun op h=>by have:=op_pos h;exact ⟨this.2.2.1,this.2.2.2⟩
 have hilt:∀ op,opAt sl.l q.i=some op→q.i<sl.l.length:=fun op h=>opAt_lt h
 refine AW.block ?_
 refine AW.seq_k fun K hK=>AW.region (by kernel_rfl) ?_
 simp -implicitDefEqProofs only[go_sem,seval,↓reduceIte]
 refine RdS.call hG (xNext_spec G hE sl hT g q hqI) (gx:=gy) (by kernel_rfl) (fun F=>rfl) (by decide) (by first | rfl | (simp -implicitDefEqProofs only[go_sem,seval,↓reduceIte,List.map_cons,List.map_nil,encXN_K];try rfl)) (by first | rfl | (simp -implicitDefEqProofs only[go_sem,seval,↓reduceIte,List.map_cons,List.map_nil];try rfl)) (by first | rfl | (simp -implicitDefEqProofs only[go_sem,seval,↓reduceIte];try rfl)) (by first | rfl | (simp -implicitDefEqProofs only[go_sem,seval,↓reduceIte];try rfl)) fun gz=>?_
 simp -implicitDefEqProofs only[go_sem,seval,↓reduceIte,sets]
 simp -implicitDefEqProofs only[go_sem,seval,↓reduceIte,encTk_K]
 intro g6
 refine hK _ ?_
 clear hK K
 generalize opAt sl.l q.i=oa at hP hop hbnd hilt
 generalize nextP sl.l q.i=t at hop hlt23 htl ⊢
 obtain ⟨k,t,p⟩:=t
 simp only at hop hlt23 htl
 refine AW.seq_k fun K hK=>AW.region (by kernel_rfl) ?_
 simp -implicitDefEqProofs only[go_sem,seval,↓reduceIte]
 refine CallA.pure hG (by kernel_rfl) ?_
 simp -implicitDefEqProofs only[go_sem,seval,↓reduceIte]
 refine (xOf_spec G hG t 2).mono ?_
 rintro _ _ rfl
 generalize ofP t 2=o2 at hop hlt23 ⊢
 obtain ⟨op,ok⟩:=o2
 simp only at hop hlt23
 simp -implicitDefEqProofs only[go_sem,seval,↓reduceIte,encOf]
 refine hK _ ?_
 clear hK K
 have hlv:=tabC_lvl op hlt23
 have hi23:(op:Int)<23:=by omega
 refine AW.seq_k fun K hK=>AW.region (by kernel_rfl) ?_
 simp -implicitDefEqProofs only[go_sem,seval,↓reduceIte,hi23,Int.natCast_nonneg,hlv,Nat.zero_add]
 refine hK _ ?_
 clear hK K
 refine AW.seq_k fun K8 hK8=>?_
 cases ok with
 | false =>
  rw [hop.1 (.inr rfl)] at hP
  refine AW.seq_k fun K hK=>AW.region (by kernel_rfl) ?_
  simp -implicitDefEqProofs only[go_sem,seval,↓reduceIte]
  refine hK _ ?_
  clear hK K
  refine AW.condS (by simp -implicitDefEqProofs only[go_sem,seval,↓reduceIte];rfl) (fun h9=>?_) (fun h9=>?_)
  ·refine AW.seq_k fun K hK=>AW.region (by kernel_rfl) ?_
   simp -implicitDefEqProofs only[go_sem,seval,↓reduceIte]
   refine hK _ ?_
   clear hK K
   refine AW.ret ?_
   simp -implicitDefEqProofs only[go_sem,seval,↓reduceIte]
   refine endK_some ?_
   rw [hP]
   exact ⟨rfl,gz,by first | rfl | (simp -implicitDefEqProofs only[go_sem,seval,↓reduceIte];try rfl),by first | rfl | (simp -implicitDefEqProofs only[go_sem,seval,↓reduceIte];try rfl)⟩
  ·cases h9
 | true =>
 by_cases hk:k=0
 ·have e1:(k==0)=true:=by simpa using hk
  rw [hop.1 (.inl hk)] at hP
  refine AW.seq_k fun K hK=>AW.region (by kernel_rfl) ?_
  simp -implicitDefEqProofs only[go_sem,seval,↓reduceIte,e1]
  refine hK _ ?_
  clear hK K
  refine AW.condS (by simp -implicitDefEqProofs only[go_sem,seval,↓reduceIte];rfl) (fun h9=>?_) (fun h9=>?_)
  ·refine AW.seq_k fun K hK=>AW.region (by kernel_rfl) ?_
   simp -implicitDefEqProofs only[go_sem,seval,↓reduceIte]
   refine hK _ ?_
   clear hK K
   refine AW.ret ?_
   simp -implicitDefEqProofs only[go_sem,seval,↓reduceIte]
   refine endK_some ?_
   rw [hP]
   exact ⟨rfl,gz,by first | rfl | (simp -implicitDefEqProofs only[go_sem,seval,↓reduceIte];try rfl),by first | rfl | (simp -implicitDefEqProofs only[go_sem,seval,↓reduceIte];try rfl)⟩
  ·cases h9
 have e1:(k==0)=false:=by simpa using hk
 have hoa:=hop.2 hk rfl
 rw [hoa] at hP
 simp only at hP
 obtain ⟨hl1,hl8⟩:=hbnd op hoa
 have hil:=hilt op hoa
 generalize lvl op=lv at hP hl1 hl8 ⊢
 by_cases hlt:lv<n
 ·have e2:decide (lv<n)=true:=by simpa using hlt
  rw [if_pos hlt] at hP
  refine AW.seq_k fun K hK=>AW.region (by kernel_rfl) ?_
  simp -implicitDefEqProofs only[go_sem,seval,↓reduceIte,e1,e2]
  refine hK _ ?_
  clear hK K
  refine AW.condS (by simp -implicitDefEqProofs only[go_sem,seval,↓reduceIte];rfl) (fun h9=>?_) (fun h9=>?_)
  ·refine AW.seq_k fun K hK=>AW.region (by kernel_rfl) ?_
   simp -implicitDefEqProofs only[go_sem,seval,↓reduceIte]
   refine hK _ ?_
   clear hK K
   refine AW.ret ?_
   simp -implicitDefEqProofs only[go_sem,seval,↓reduceIte]
   refine endK_some ?_
   rw [hP]
   exact ⟨rfl,gz,by first | rfl | (simp -implicitDefEqProofs only[go_sem,seval,↓reduceIte];try rfl),by first | rfl | (simp -implicitDefEqProofs only[go_sem,seval,↓reduceIte];try rfl)⟩
  ·cases h9
 have e2:decide (lv<n)=false:=by simpa using hlt
 rw [if_neg hlt] at hP
 refine AW.seq_k fun K hK=>AW.region (by kernel_rfl) ?_
 simp -implicitDefEqProofs only[go_sem,seval,↓reduceIte,e1,e2]
 refine hK _ ?_
 clear hK K
 refine AW.condS (by simp -implicitDefEqProofs only[go_sem,seval,↓reduceIte];rfl) (fun h9=>?_) (fun h9=>?_)
 ·cases h9
 refine AW.skip ?_
 simp -implicitDefEqProofs only[go_sem,seval,↓reduceIte]
 refine hK8 _ ?_
 have hw:IntKind.i64.wrap ((q.i:Int)+1)=((q.i+1:Nat):Int):=by rw [w64 (by omega) (by omega)];omega
 have hw2:IntKind.i64.wrap (lv+1)=lv+1:=w64 (by omega) (by omega)
 have hadv:RSok sl.l q.adv:=(Bal.adv hil).ok hq
 have hc:=ih (lv+1) q.adv (by omega) (by omega) (by show sl.l.length<f+(q.i+1);omega) hadv
 have hcb:=hbs (lv+1) q.adv
 generalize climbP sl.l f (lv+1) q.adv=z at hP hc hcb
 obtain ⟨b,a⟩:=z
 simp only at hc hcb
 have ha:=hcb.ok hadv
 have haup:q.i+1≤a.i:=hcb.up
 have han:a.nodes.length<1000000:=by have:=ha.1;have:=ha.2;omega
 refine AW.seq_k fun K hK=>AW.region (by kernel_rfl) ?_
 simp -implicitDefEqProofs only[go_sem,seval,↓reduceIte]
 refine RdS.call hG (xLast_spec G hG sl g q hqn) (gx:=gz) (by kernel_rfl) (fun F=>rfl) (by decide) (by first | rfl | (simp -implicitDefEqProofs only[go_sem,seval,↓reduceIte,List.map_cons,List.map_nil,encXN_K];try rfl)) (by first | rfl | (simp -implicitDefEqProofs only[go_sem,seval,↓reduceIte,List.map_cons,List.map_nil];try rfl)) (by first | rfl | (simp -implicitDefEqProofs only[go_sem,seval,↓reduceIte];try rfl)) (by first | rfl | (simp -implicitDefEqProofs only[go_sem,seval,↓reduceIte];try rfl)) fun gz1=>?_
 simp -implicitDefEqProofs only[go_sem,seval,↓reduceIte,sets]
 refine hK _ ?_
 clear hK K
 refine AW.seq_k fun K hK=>AW.region (by kernel_rfl) ?_
 simp -implicitDefEqProofs only[go_sem,seval,↓reduceIte,rdO_K,hw]
 refine hK _ ?_
 clear hK K
 refine AW.seq_k fun K10 hK10=>?_
 cases b with
 | false =>
  rw [andThen_false] at hP
  refine AW.seq_k fun K hK=>AW.region (by kernel_rfl) ?_
  simp -implicitDefEqProofs only[go_sem,seval,↓reduceIte,rdO_K,hw2]
  refine RdS.call hG (hc) (gx:=gz1) (by kernel_rfl) (fun F=>rfl) (by decide) (by first | rfl | (simp -implicitDefEqProofs only[go_sem,seval,↓reduceIte,List.map_cons,List.map_nil,encXN_K];try rfl)) (by first | rfl | (simp -implicitDefEqProofs only[go_sem,seval,↓reduceIte,List.map_cons,List.map_nil];try rfl)) (by first | rfl | (simp -implicitDefEqProofs only[go_sem,seval,↓reduceIte];try rfl)) (by first | rfl | (simp -implicitDefEqProofs only[go_sem,seval,↓reduceIte];try rfl)) fun gz2=>?_
  simp -implicitDefEqProofs only[go_sem,seval,↓reduceIte,sets]
  refine hK _ ?_
  clear hK K
  refine AW.condS (by simp -implicitDefEqProofs only[go_sem,seval,↓reduceIte];rfl) (fun h11=>?_) (fun h11=>?_)
  ·refine AW.seq_k fun K hK=>AW.region (by kernel_rfl) ?_
   simp -implicitDefEqProofs only[go_sem,seval,↓reduceIte]
   refine hK _ ?_
   clear hK K
   refine AW.ret ?_
   simp -implicitDefEqProofs only[go_sem,seval,↓reduceIte]
   refine endK_some ?_
   rw [hP]
   exact ⟨rfl,gz2,by first | rfl | (simp -implicitDefEqProofs only[go_sem,seval,↓reduceIte];try rfl),by first | rfl | (simp -implicitDefEqProofs only[go_sem,seval,↓reduceIte];try rfl)⟩
  ·cases h11
 | true =>
  rw [andThen_true] at hP
  refine AW.seq_k fun K hK=>AW.region (by kernel_rfl) ?_
  simp -implicitDefEqProofs only[go_sem,seval,↓reduceIte,rdO_K,hw2]
  refine RdS.call hG (hc) (gx:=gz1) (by kernel_rfl) (fun F=>rfl) (by decide) (by first | rfl | (simp -implicitDefEqProofs only[go_sem,seval,↓reduceIte,List.map_cons,List.map_nil,encXN_K];try rfl)) (by first | rfl | (simp -implicitDefEqProofs only[go_sem,seval,↓reduceIte,List.map_cons,List.map_nil];try rfl)) (by first | rfl | (simp -implicitDefEqProofs only[go_sem,seval,↓reduceIte];try rfl)) (by first | rfl | (simp -implicitDefEqProofs only[go_sem,seval,↓reduceIte];try rfl)) fun gz2=>?_
  simp -implicitDefEqProofs only[go_sem,seval,↓reduceIte,sets]
  refine hK _ ?_
  clear hK K
  refine AW.condS (by simp -implicitDefEqProofs only[go_sem,seval,↓reduceIte];rfl) (fun h11=>?_) (fun h11=>?_)
  ·cases h11
  refine AW.skip ?_
  simp -implicitDefEqProofs only[go_sem,seval,↓reduceIte]
  refine hK10 _ ?_
  refine AW.region (by kernel_rfl) ?_
  simp -implicitDefEqProofs only[go_sem,seval,↓reduceIte]
  refine RdS.call hG (xLast_spec G hG sl g a han) (gx:=gz2) (by kernel_rfl) (fun F=>rfl) (by decide) (by first | rfl | (simp -implicitDefEqProofs only[go_sem,seval,↓reduceIte,List.map_cons,List.map_nil,encXN_K];try rfl)) (by first | rfl | (simp -implicitDefEqProofs only[go_sem,seval,↓reduceIte,List.map_cons,List.map_nil];try rfl)) (by first | rfl | (simp -implicitDefEqProofs only[go_sem,seval,↓reduceIte];try rfl)) (by first | rfl | (simp -implicitDefEqProofs only[go_sem,seval,↓reduceIte];try rfl)) fun gz3=>?_
  simp -implicitDefEqProofs only[go_sem,seval,↓reduceIte,sets]
  intro g63
  refine CallA.frzL (fun o=>o==1063) [.ptr 8 g 0,encXN ⟨op,0,[],0,0,0⟩,.slice .new false 1 [.int .i64 q.last,.int .i64 a.last]] [(8,rdO 1031 [.func (.func 78) [] []] sl g gz3 a),(1031,ndO gz3 a.nodes),(1005,.cells .new g5 0 tabC)] ⟨Fz.same _,Fz.same _,?_,trivial⟩ ?_ ?_
  ·exact Fz.sl (f:=V.int .i64) (l:=[q.last,a.last]) (m:=1) (g:=g63) (fz:=0) (c := .new) rfl (by simp -implicitDefEqProofs only[go_sem,seval,↓reduceIte];rfl) (fun _=>rfl)
  ·simp only [allFzO_cons,allFzO_nil,and_true]
   exact ⟨FzO.keep rfl (by simp -implicitDefEqProofs only[go_sem,seval,↓reduceIte];try rfl),FzO.keep rfl (by simp -implicitDefEqProofs only[go_sem,seval,↓reduceIte];try rfl),FzO.keep rfl (by simp -implicitDefEqProofs only[go_sem,seval,↓reduceIte];try rfl)⟩
  refine RdS.call hG (xPut_spec G hG sl g a han ⟨op,0,[],0,0,0⟩ .old (.mk false [q.last,a.last]) (Nat.le_of_ble_eq_true rfl)) (gx:=gz3) (by kernel_rfl) (fun F=>rfl) (by decide) (by first | rfl | (simp -implicitDefEqProofs only[go_sem,seval,↓reduceIte,List.map_cons,List.map_nil,encXN_K];try rfl)) (by first | rfl | (simp -implicitDefEqProofs only[go_sem,seval,↓reduceIte,List.map_cons,List.map_nil];try rfl)) (by first | rfl | (simp -implicitDefEqProofs only[go_sem,seval,↓reduceIte];try rfl)) (by first | rfl | (simp -implicitDefEqProofs only[go_sem,seval,↓reduceIte];try rfl)) fun gz4=>?_
  simp -implicitDefEqProofs only[go_sem,seval,↓reduceIte,sets]
  have hres:RSok sl.l (a.put ⟨op,0,[],q.last,a.last,-1⟩):=⟨ha.1,by
   have h1:=hcb.cnt
   have h2:=hq.2
   show (a.nodes++[_]).length≤a.i
   rw [List.length_append,List.length_singleton]
   have h3:a.nodes.length+(q.i+1)+0≤q.nodes.length+a.i:=h1
   omega⟩
  refine hL3 _ ⟨(gz4,m,a.put ⟨op,0,[],q.last,a.last,-1⟩),Nat.lt_succ_self _,⟨hP,hres,?_,?_⟩,Weak.st (by simp -implicitDefEqProofs only[go_sem,seval,↓reduceIte]) (by simp -implicitDefEqProofs only[go_sem,seval,↓reduceIte];exact ⟨rfl,rfl⟩)⟩
  ·show r.i≤a.i
   omega
  ·show sl.l.length<m+a.i
   omega
end Go.Hs
end

section
namespace Go.Hs
open Go.Proofs
set_option maxRecDepth 10000
theorem sEqual_spec (G:Nat→V) (hG:GOk G) (ca cb:Col) (a b:Sl Int) (ha:a.l.length<1000000000) :
  Spec Tryz.prog G 43 [encSl ca 1 (V.int .i64) a,encSl cb 1 (V.int .i64) b] hNone (fun v _=>v = .bool (a.l==b.l)):=by
 refine Spec.of_code' 0 26 [.tmp 4] Tryz.func43 rfl rfl rfl rfl fun X=>?_
 refine AW.seq_k fun K hK=>AW.region (by kernel_rfl) ?_
 simp -implicitDefEqProofs only[go_sem,seval,↓reduceIte]
 refine hK _ ?_
 clear hK K
 refine AW.seq_k fun K1 hK1=>?_
 refine AW.seq_k fun K hK=>AW.region (by kernel_rfl) ?_
 simp -implicitDefEqProofs only[go_sem,seval,↓reduceIte]
 refine hK _ ?_
 clear hK K
 refine AW.condS (by simp -implicitDefEqProofs only[go_sem,seval,↓reduceIte];rfl) (fun h2=>?_) (fun h2=>?_)
 ·
  refine AW.seq_k fun K hK=>AW.region (by kernel_rfl) ?_
  simp -implicitDefEqProofs only[go_sem,seval,↓reduceIte]
  refine hK _ ?_
  clear hK K
  refine AW.ret ?_
  simp -implicitDefEqProofs only[go_sem,seval,↓reduceIte]
  refine endK_some ?_
  simp at h2 ⊢
  intro e
  rw [e] at h2
  exact h2 rfl
 ·
  refine AW.skip ?_
  simp -implicitDefEqProofs only[go_sem,seval,↓reduceIte]
  refine hK1 _ ?_
  have hl:a.l.length=b.l.length:=by simp at h2;omega
  refine AW.seq_k fun K3 hK3=>?_
  refine AW.seq_k fun K hK=>AW.region (by kernel_rfl) ?_
  simp -implicitDefEqProofs only[go_sem,seval,↓reduceIte]
  refine hK _ ?_
  clear hK K
  refine AW.block ?_
  refine AW.for a.l.length (fun k (_:Unit)=>st [(0,encSl ca 1 (V.int .i64) a),(1,encSl cb 1 (V.int .i64) b),(12,.int .i64 a.l.length),(13,.int .i64 k)] []) (fun k _=>a.l.take k=b.l.take k) 0 () (Nat.zero_le _) (by simp)
   (Weak.st (by simp -implicitDefEqProofs only[go_sem,seval,↓reduceIte];try simp) (by simp -implicitDefEqProofs only[go_sem,seval,↓reduceIte])) ?_
  intro k _ hk hR L4 hL4
  refine AW.seq_k fun K hK=>AW.region (by kernel_rfl) ?_
  simp -implicitDefEqProofs only[go_sem,seval,↓reduceIte]
  refine hK _ ?_
  clear hK K
  refine AW.seq_k fun K5 hK5=>?_
  refine AW.condS (by simp -implicitDefEqProofs only[go_sem,seval,↓reduceIte];rfl) (fun h6=>?_) (fun h6=>?_)
  ·
   refine AW.skip ?_
   simp -implicitDefEqProofs only[go_sem,seval,↓reduceIte]
   refine hK5 _ ?_
   have hk1:k<a.l.length:=by simpa using h6
   have hk2:k<b.l.length:=by omega
   refine AW.seq_k fun K7 hK7=>?_
   refine AW.block ?_
   refine AW.seq_k fun K hK=>AW.region (by kernel_rfl) ?_
   simp -implicitDefEqProofs only[go_sem,seval,↓reduceIte]
   refine hK _ ?_
   clear hK K
   refine AW.seq_k fun K hK=>AW.regionT ⟨fun _ => .top,fun _ => .pure⟩ (by kernel_rfl) hG (by kernel_rfl) (by kernel_rfl) ?_
   simp -implicitDefEqProofs only[go_sem,seval,↓reduceIte,List.getElem?_eq_getElem hk1,List.getElem?_eq_getElem hk2]
   refine hK _ ?_
   clear hK K
   refine AW.condS (by simp -implicitDefEqProofs only[go_sem,seval,↓reduceIte];rfl) (fun h8=>?_) (fun h8=>?_)
   ·
    refine AW.seq_k fun K hK=>AW.region (by kernel_rfl) ?_
    simp -implicitDefEqProofs only[go_sem,seval,↓reduceIte]
    refine hK _ ?_
    clear hK K
    refine AW.ret ?_
    simp -implicitDefEqProofs only[go_sem,seval,↓reduceIte]
    refine endK_some ?_
    simp at h8
    simp
    intro e
    simp [e] at h8
   ·
    refine AW.skip ?_
    simp -implicitDefEqProofs only[go_sem,seval,↓reduceIte]
    refine hK7 _ ?_
    have h3':a.l[k]=b.l[k]:=by simpa using h8
    refine AW.region (by kernel_rfl) ?_
    simp -implicitDefEqProofs only[go_sem,seval,↓reduceIte]
    refine hL4 _ ⟨hk1,(),?_,Weak.st (by simp -implicitDefEqProofs only[go_sem,seval,↓reduceIte];simp;exact w64 (by omega) (by omega)) (by simp -implicitDefEqProofs only[go_sem,seval,↓reduceIte])⟩
    rw [List.take_succ_eq_append_getElem hk1,List.take_succ_eq_append_getElem hk2,hR,h3']
  ·
   refine AW.exit ?_
   simp -implicitDefEqProofs only[go_sem,seval,↓reduceIte]
   refine hK3 _ ?_
   have hk1:k=a.l.length:=by simp at h6;omega
   refine AW.seq_k fun K hK=>AW.region (by kernel_rfl) ?_
   simp -implicitDefEqProofs only[go_sem,seval,↓reduceIte]
   refine hK _ ?_
   clear hK K
   refine AW.ret ?_
   simp -implicitDefEqProofs only[go_sem,seval,↓reduceIte]
   refine endK_some ?_
   subst hk1
   rw [List.take_length,hl,List.take_length] at hR
   simp [hR]
theorem xWell_spec (G:Nat→V) (hE:GExp G) (n:XN) (hn:n.name.length<100000):Spec Tryz.prog G 42 [encXN n] hNone (fun v _=>v = .bool (wellP n)):=by
 have hG:=hE.ok
 refine Spec.of_code' 0 43 [.tmp 2] Tryz.func42 rfl rfl rfl rfl fun X=>?_
 have hW:wellP n=if n.op<1∨n.op > 22∨n.num<0 then false else if n.op=2 then n.num==0 && isP n.name==2 else n.name==[] && (n.op==1 || n.num==0):=rfl
 obtain ⟨op,num,name,a,b,c⟩:=n
 simp only at hn hW
 simp only [encXN_K]
 refine AW.seq_k fun K hK=>AW.region (by kernel_rfl) ?_
 simp -implicitDefEqProofs only[go_sem,seval,↓reduceIte]
 intro g1
 refine hK _ ?_
 clear hK K
 refine AW.seqJ (fun (_:Unit)=>st [(1,.ptr 1 g1 0)] [(1,.cells .new g1 0 [.int .u8 op,.int .i64 num,.str name,.int .i64 a,.int .i64 b,.int .i64 c])]) (fun _=>¬ (op<1∨op > 22∨num<0)∧op≠2) (fun K1 hK1=>?_) ?_
 ·refine AW.block ?_
  by_cases h0:op<1∨op > 22∨num<0
  ·rw [if_pos h0] at hW
   have key:∀ K:AS→Prop,(K (st [(1,.ptr 1 g1 0),(3,.bool true)] [(1,.cells .new g1 0 [.int .u8 op,.int .i64 num,.str name,.int .i64 a,.int .i64 b,.int .i64 c])]))→True:=fun _ _=>trivial
   cases h1:decide (op<1)<;>cases h2:decide (op > 22)<;>cases h3:decide (num<0)
   ·simp only [decide_eq_false_iff_not] at h1 h2 h3
    rcases h0 with h | h | h
    ·exact absurd h h1
    ·exact absurd h h2
    ·exact absurd h h3
   all_goals
    (refine AW.seq_k fun K hK=>AW.region (by kernel_rfl) ?_;simp -implicitDefEqProofs only[go_sem,seval,↓reduceIte,h1,h2,h3];refine hK _ ?_;clear hK K)
    refine AW.condS (b:=true) (by simp -implicitDefEqProofs only[go_sem,seval,↓reduceIte]) (fun _=>?_) (fun h=>by cases h)
    (refine AW.seq_k fun K hK=>AW.region (by kernel_rfl) ?_;simp -implicitDefEqProofs only[go_sem,seval,↓reduceIte];refine hK _ ?_;clear hK K)
    (refine AW.ret ?_;simp -implicitDefEqProofs only[go_sem,seval,↓reduceIte];refine endK_some ?_)
    rw [hW]
  ·have h1:decide (op<1)=false:=by rw [decide_eq_false_iff_not];exact fun h=>h0 (.inl h)
   have h2:decide (op > 22)=false:=by rw [decide_eq_false_iff_not];exact fun h=>h0 (.inr (.inl h))
   have h3:decide (num<0)=false:=by rw [decide_eq_false_iff_not];exact fun h=>h0 (.inr (.inr h))
   rw [if_neg h0] at hW
   refine AW.seq_k fun K hK=>AW.region (by kernel_rfl) ?_
   simp -implicitDefEqProofs only[go_sem,seval,↓reduceIte,h1,h2,h3]
   refine hK _ ?_
   clear hK K
   refine AW.condS (by simp -implicitDefEqProofs only[go_sem,seval,↓reduceIte];rfl) (fun h4=>?_) (fun h4=>?_)
   ·cases h4
   clear h4
   refine AW.seq_k fun K hK=>AW.region (by kernel_rfl) ?_
   simp -implicitDefEqProofs only[go_sem,seval,↓reduceIte]
   refine hK _ ?_
   clear hK K
   refine AW.condS (by simp -implicitDefEqProofs only[go_sem,seval,↓reduceIte];rfl) (fun h5=>?_) (fun h5=>?_)
   ·have h5:op=2:=by simpa using h5
    rw [if_pos h5] at hW
    cases h6:(num==0) with
    | false =>
     refine AW.seq_k fun K hK=>AW.region (by kernel_rfl) ?_
     simp -implicitDefEqProofs only[go_sem,seval,↓reduceIte,h6]
     refine hK _ ?_
     clear hK K
     refine AW.ret ?_
     simp -implicitDefEqProofs only[go_sem,seval,↓reduceIte]
     refine endK_some ?_
     rw [hW,h6];rfl
    | true =>
     refine AW.seq_k fun K hK=>AW.region (by kernel_rfl) ?_
     simp -implicitDefEqProofs only[go_sem,seval,↓reduceIte,h6]
     refine CallA.pure hG (by kernel_rfl) ?_
     simp -implicitDefEqProofs only[go_sem,seval,↓reduceIte]
     refine (lIs_spec G hE name hn).mono ?_
     rintro _ _ rfl
     simp -implicitDefEqProofs only[go_sem,seval,↓reduceIte]
     refine hK _ ?_
     clear hK K
     refine AW.ret ?_
     simp -implicitDefEqProofs only[go_sem,seval,↓reduceIte]
     refine endK_some ?_
     rw [hW,h6,Bool.true_and]
     generalize isP name=z
     cases hz:(z==2) with
     | true =>
      have:((z:Int)==2)=true:=by rw [beq_iff_eq] at hz ⊢;omega
      rw [this]
     | false =>
      have:((z:Int)==2)=false:=by rw [beq_eq_false_iff_ne] at hz ⊢;omega
      rw [this]
   ·have h5:¬ op=2:=by simpa using h5
    refine AW.skip ?_
    simp -implicitDefEqProofs only[go_sem,seval,↓reduceIte]
    exact hK1 _ () ⟨h0,h5⟩ (Weak.st (by simp -implicitDefEqProofs only[go_sem,seval,↓reduceIte]) (by simp -implicitDefEqProofs only[go_sem,seval,↓reduceIte]))
 rintro _ ⟨h0,h5⟩
 rw [if_neg h0,if_neg h5] at hW
 cases h1:(name==[])<;>cases h2:(op==1)<;>cases h3:(num==0)<;>((refine AW.seq_k fun K hK=>AW.region (by kernel_rfl) ?_;simp -implicitDefEqProofs only[go_sem,seval,↓reduceIte,h1,h2,h3];refine hK _ ?_;clear hK K);(refine AW.ret ?_;simp -implicitDefEqProofs only[go_sem,seval,↓reduceIte];refine endK_some ?_);rw [hW,h1,h2,h3];rfl)
end Go.Hs
end
