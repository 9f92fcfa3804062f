/- Part 43 of the proof of a statement of seat YtnjcehngoajnnaaGreatDoor: HsExprBal HsExprTree HsExprRef HsExprSub HsTypLaw HsTypLaw2 HsTypLaw3 HsEvLaw HsGEvB HsGEvW HsGEvX HsGEvY HsGEvZ HsGExpr2 HsGExpr3 HsGExpr4 HsGExprDep HsGExprDep2 HsGExprDep3 HsGExprDep4 HsGEvK HsGNumRef5. -/
import Derived.Test.YtnjcehngoajnnaaGreatDoorPart40
import Derived.Test.YtnjcehngoajnnaaGreatDoorPart34
import Derived.Test.YtnjcehngoajnnaaGreatDoorPart42
set_option linter.unusedSimpArgs false
set_option linter.unusedVariables false
section
namespace Go.Hs
structure Bal (l:List Tk) (k:Nat) (r r':RS):Prop where
 up:r.i≤r'.i
 inn:r.i≤l.length→r'.i≤l.length
 cnt:r'.nodes.length+r.i+k≤r.nodes.length+r'.i
theorem Bal.refl (l:List Tk) (r:RS):Bal l 0 r r:=⟨Nat.le_refl _,id,Nat.le_refl _⟩
theorem Bal.trans {l:List Tk} {k k':Nat} {r r' r'':RS} (h:Bal l k r r') (h':Bal l k' r' r''):Bal l (k+k') r r'' :=
 ⟨Nat.le_trans h.up h'.up,fun x=>h'.inn (h.inn x),by have:=h.cnt;have:=h'.cnt;omega⟩
theorem Bal.weak {l:List Tk} {k k':Nat} {r r':RS} (h:Bal l k r r') (hk:k'≤k):Bal l k' r r':=⟨h.up,h.inn,by have:=h.cnt;omega⟩
theorem Bal.adv {l:List Tk} {r:RS} (h:r.i<l.length):Bal l 1 r r.adv:=⟨Nat.le_succ _,fun _=>h,by show r.nodes.length+r.i+1≤r.nodes.length+(r.i+1);omega⟩
theorem Bal.err (l:List Tk) (r:RS) (e:Int):Bal l 0 r (r.err e):=⟨Nat.le_refl _,id,Nat.le_refl _⟩
theorem Bal.put {l:List Tk} {k:Nat} {r r':RS} (h:Bal l (k+1) r r') (n:XN):Bal l k r (r'.put n) :=
 ⟨h.up,h.inn,by have:=h.cnt;show (r'.nodes++[n]).length+r.i+k≤_;rw [List.length_append,List.length_singleton];show _≤r.nodes.length+r'.i;omega⟩
def Bals (l:List Tk) (inner:Inner):Prop:=∀ n r,Bal l 0 r (inner n r).2
theorem Zrd {l:List Tk} {r:RS} {x:Bool × RS} {k:RS→Bool × RS} (h:Bal l 0 r x.2) (hk:x.1=true→Bal l 0 r (k x.2).2):Bal l 0 r (andThen x k).2:=by
 obtain ⟨b,r1⟩:=x;cases b
 ·exact h
 ·exact hk rfl
theorem Z5d (l:List Tk) (w:List UInt8) (r:RS):Bal l 0 r (Zeg l w r).2∧((Zeg l w r).1=true→Bal l 1 r (Zeg l w r).2):=by
 unfold Zeg
 split
 ·exact ⟨Bal.err _ _ _,fun h=>by cases h⟩
 ·rename_i h
  have hk:(Zda l r.i).kind≠0:=fun hh=>h (.inl hh);have:=Bal.adv (Zdf hk);exact ⟨this.weak (Nat.zero_le _),fun _=>this⟩
theorem Zsm {l:List Tk} {r:RS} (h:(Zda l r.i).kind≠0) (op num:Int) (name:List UInt8):Bal l 0 r (Zfl r op num name).2:=(Bal.adv (Zdf h)).put _
theorem Z8u {l:List Tk} {r:RS} (h:(Zda l r.i).kind≠0) (t:List UInt8):Bal l 0 r (Zhd r t).2:=by
 unfold Zhd
 split
 ·exact Bal.err _ _ _
 ·exact Zsm h _ _ _
theorem Zeq {l:List Tk} {inner:Inner} (h:Bals l inner) (r:RS):Bal l 0 r (Zjb l inner r).2:=by
 unfold Zjb;have e1:=Z5d l wIf r;refine Zrd e1.1 fun h1=>?_;have b1:=e1.2 h1;generalize (Zeg l wIf r).2=r1 at b1 ⊢;have b2:=b1.trans (h 1 r1);refine Zrd (b2.weak (Nat.zero_le _)) fun _=>?_;generalize (inner 1 r1).2=a at b2 ⊢;have e2:=Z5d l Zbp a;refine Zrd ((b2.trans e2.1).weak (Nat.zero_le _)) fun h2=>?_;have b3:=b2.trans (e2.2 h2);generalize (Zeg l Zbp a).2=r2 at b3 ⊢;have b4:=b3.trans (h 1 r2);refine Zrd (b4.weak (Nat.zero_le _)) fun _=>?_;generalize (inner 1 r2).2=b at b4 ⊢;have e3:=Z5d l Zcp b;refine Zrd ((b4.trans e3.1).weak (Nat.zero_le _)) fun h3=>?_;have b5:=b4.trans (e3.2 h3);generalize (Zeg l Zcp b).2=r3 at b5 ⊢;have b6:=b5.trans (h 1 r3);refine Zrd (b6.weak (Nat.zero_le _)) fun _=>?_;generalize (inner 1 r3).2=c at b6 ⊢;have e4:=Z5d l Zuk c;refine Zrd ((b6.trans e4.1).weak (Nat.zero_le _)) fun h4=>?_;have b7:=b6.trans (e4.2 h4);exact (b7.put _).weak (Nat.zero_le _)
theorem Zqk {l:List Tk} {inner:Inner} (h:Bals l inner) (r:RS):Bal l 0 r (Zdd l inner r).2:=by
 unfold Zdd
 split
 ·rename_i hk;exact Z8u (by rw [hk];decide) _
 split
 ·rename_i hk;exact Zsm (by rw [hk];decide) _ _ _
 split
 ·exact Bal.err _ _ _
 rename_i h0;have ba:=Bal.adv (Zdf h0)
 split
 ·have b1:=ba.trans (h 9 r.adv)
  exact Zrd (b1.weak (Nat.zero_le _)) fun _=>b1.put _
 split
 ·have b1:=ba.trans (h 1 r.adv)
  exact Zrd (b1.weak (Nat.zero_le _)) fun _=>(b1.trans (Z5d l [41] _).1).weak (Nat.zero_le _)
 split
 ·exact Zeq h r
 split
 ·exact Zsm h0 _ _ _
 ·exact Bal.err _ _ _
theorem Zos {l:List Tk} {inner:Inner} (h:Bals l inner) (n:Int):∀ (m:Nat) (r:RS),Bal l 0 r (Zkf l inner n m r).2
 | 0,r=>Bal.refl l r
 | m+1,r=>by
  rw [Zkf]
  cases ho:Zqo l r.i with
  | none=>exact Bal.refl l r
  | some op =>
   simp only
   split
   ·exact Bal.refl l r
   ·have b1:=(Bal.adv (Zmm ho)).trans (h (lvl op+1) r.adv)
    exact Zrd (b1.weak (Nat.zero_le _)) fun _=>((b1.put _).trans (Zos h n m _)).weak (Nat.zero_le _)
theorem Z1d (l:List Tk):∀ f,Bals l (Zba l f)
 | 0=>fun _ r=>Bal.refl l r
 | f+1=>fun n r=>by
  rw [Zba];have b1:=Zqk (Z1d l f) r;exact Zrd b1 fun _=>(b1.trans (Zos (Z1d l f) n _ _)).weak (Nat.zero_le _)
def Zpx (l:List Tk) (r:RS):Prop:=r.i≤l.length∧r.nodes.length≤r.i
theorem Bal.ok {l:List Tk} {k:Nat} {r r':RS} (h:Bal l k r r') (hr:Zpx l r):Zpx l r':=⟨h.inn hr.1,by have:=h.cnt;have:=h.up;have:=hr.2;omega⟩
end Go.Hs
end

section
namespace Go.Hs
inductive X where
 | leaf (op num:Int) (name:List UInt8)
 | un (op:Int) (a:X)
 | bin (op:Int) (a b:X)
 | ite (a b c:X)
 deriving DecidableEq,Inhabited
namespace X
def size:X→Nat
 | leaf .. => 1
 | un _ a=>a.size+1
 | bin _ a b=>a.size+b.size+1
 | ite a b c=>a.size+b.size+c.size+1
def depth:X→Nat
 | leaf .. => 1
 | un _ a=>a.depth+1
 | bin _ a b=>max a.depth b.depth+1
 | ite a b c=>max (max a.depth b.depth) c.depth+1
end X
def Zxc (n:XN):Bool :=
 if n.op<1∨n.op > 22∨n.num<0 then false else if n.op=2 then n.num==0 && isP n.name==2 else n.name==[] && (n.op==1 || n.num==0)
namespace X
def ok:X→Bool
 | leaf op num name=>Zxc ⟨op,num,name,-1,-1,-1⟩ && decide (op≤4)
 | un op a=>decide (5≤op) && decide (op≤6) && a.ok
 | bin op a b=>decide (7≤op) && decide (op≤21) && a.ok && b.ok
 | ite a b c=>a.ok && b.ok && c.ok
def row:X→Int→List XN
 | leaf op num name,_=>[⟨op,num,name,-1,-1,-1⟩]
 | un op a,k=>a.row k++[⟨op,0,[],k+a.size-1,-1,-1⟩]
 | bin op a b,k=>a.row k++b.row (k+a.size)++[⟨op,0,[],k+a.size-1,k+a.size+b.size-1,-1⟩]
 | ite a b c,k=>a.row k++b.row (k+a.size)++c.row (k+a.size+b.size)++[⟨22,0,[],k+a.size-1,k+a.size+b.size-1,k+a.size+b.size+c.size-1⟩]
theorem row_len:∀ (x:X) (k:Int),(x.row k).length=x.size
 | leaf ..,_=>rfl
 | un _ a,k=>by simp [row,size,row_len a]
 | bin _ a b,k=>by simp [row,size,row_len a,row_len b];omega
 | ite a b c,k=>by simp [row,size,row_len a,row_len b,row_len c];omega
theorem size_pos:∀ x:X,0<x.size
 | leaf .. => by simp [size]
 | un .. => by simp [size]
 | bin .. => by simp [size]
 | ite .. => by simp [size]
def top:X→Int→XN
 | leaf op num name,_=>⟨op,num,name,-1,-1,-1⟩
 | un op a,k=>⟨op,0,[],k+a.size-1,-1,-1⟩
 | bin op a b,k=>⟨op,0,[],k+a.size-1,k+a.size+b.size-1,-1⟩
 | ite a b c,k=>⟨22,0,[],k+a.size-1,k+a.size+b.size-1,k+a.size+b.size+c.size-1⟩
end X
theorem Zzf {op:Int} (h:3≤op∧op≤22) (a b c:Int):Zxc ⟨op,0,[],a,b,c⟩=true:=by
 unfold Zxc;rw [if_neg (by simp;omega),if_neg (by simp;omega)];simp
theorem Zlw {n:XN} (h:Zxc n=true) (h3:n.op≠1):n.num=0∧(n.op≠2→n.name=[])∧1≤n.op∧n.op≤22:=by
 unfold Zxc at h
 split at h
 ·cases h
 ·rename_i h0
  simp only [not_or,Int.not_lt] at h0
  split at h
  ·rename_i h2
   simp only [Bool.and_eq_true,beq_iff_eq] at h;exact ⟨h.1,fun hh=>absurd h2 hh,by omega,by omega⟩
  ·simp only [Bool.and_eq_true,beq_iff_eq,Bool.or_eq_true] at h
   exact ⟨h.2.resolve_left h3,fun _=>h.1,by omega,by omega⟩
theorem Zxd {n:XN} (h:Zxc n=true):1≤n.op∧n.op≤22:=by
 unfold Zxc at h
 split at h
 ·cases h
 ·rename_i h0
  simp only [not_or,Int.not_lt] at h0;omega
def Zt (op:Int):Nat:=if op≤4 then 0 else if op≤6 then 1 else if op≤21 then 2 else 3
def Zpb (l:List (Int × Int)):List Int:=[(l.map (·.1)).getD 0 (-1),(l.map (·.1)).getD 1 (-1),(l.map (·.1)).getD 2 (-1)]
def Zxb (l:List (Int × Int)):Int:=l.foldl (fun d p=>max d p.2) 0
def Z5c (i:Int) (n:XN) (opn:List (Int × Int)):Option (List (Int × Int)) :=
 if Zxc n=false then none else if opn.length<Zt n.op then none
 else if Zpb (opn.drop (opn.length-Zt n.op))≠[n.a,n.b,n.c] then none
 else some (opn.take (opn.length-Zt n.op)++[(i,Zxb (opn.drop (opn.length-Zt n.op))+1)])
def Zmd:List XN→Int→List (Int × Int)→Option (List (Int × Int))
 | [],_,opn=>some opn
 | n::r,i,opn=>match Z5c i n opn with
  | some o=>Zmd r (i+1) o
  | none=>none
def Zia (l:List XN):Int:=match Zmd l 0 [] with
 | some [x]=>x.2
 | _=>0
def Z8f:Int→List X→List XN
 | _,[]=>[]
 | k,x::r=>x.row k++Z8f (k+x.size) r
def Zub (F:List X):Nat:=(F.map X.size).sum
def Zlb:Int→List X→List (Int × Int)
 | _,[]=>[]
 | k,x::r=>(k+x.size-1,(x.depth:Int))::Zlb (k+x.size) r
theorem Z7j (x:X) (r:List X):Zub (x::r)=x.size+Zub r:=by simp [Zub]
theorem Z6i (a b:List X):Zub (a++b)=Zub a+Zub b:=by simp [Zub]
theorem Zkl:∀ (a b:List X) (k:Int),Z8f k (a++b)=Z8f k a++Z8f (k+Zub a) b
 | [],b,k=>by simp [Z8f,Zub]
 | x::a,b,k=>by
  rw [List.cons_append,Z8f,Z8f,Zkl a b,List.append_assoc,Z7j]
  congr 3;omega
theorem Zkh:∀ (a b:List X) (k:Int),Zlb k (a++b)=Zlb k a++Zlb (k+Zub a) b
 | [],b,k=>by simp [Zlb,Zub]
 | x::a,b,k=>by
  rw [List.cons_append,Zlb,Zlb,Zkh a b,List.cons_append,Z7j]
  congr 3;omega
theorem Zjh:∀ (F:List X) (k:Int),(Zlb k F).length=F.length
 | [],_=>rfl
 | x::r,k=>by simp [Zlb,Zjh r]
theorem Z7f:∀ (F:List X) (k:Int),(Z8f k F).length=Zub F
 | [],_=>rfl
 | x::r,k=>by rw [Z8f,List.length_append,X.row_len,Z7f r,Z7j]
theorem Z2x {F:List X} {p:Nat} (h:p≤F.length):∃ A B,F=A++B∧B.length=p:=⟨F.take (F.length-p),F.drop (F.length-p),(List.take_append_drop _ _).symm,by simp;omega⟩
theorem Z4s {F:List X} {n:XN} {o:List (Int × Int)} (hF:∀ x∈F,x.ok=true) (h:Z5c (Zub F) n (Zlb 0 F)=some o) :
  ∃ F',(∀ x∈F',x.ok=true)∧Z8f 0 F'=Z8f 0 F++[n]∧o=Zlb 0 F':=by
 unfold Z5c at h;rw [Zjh] at h
 split at h
 ·cases h
 rename_i hw
 have hw:Zxc n=true:=by simpa using hw
 have hrg:=Zxd hw
 split at h
 ·cases h
 rename_i hlen;obtain ⟨A,B,rfl,hB⟩:=Z2x (F:=F) (p:=Zt n.op) (by omega)
 have hAl:(A++B).length-Zt n.op=A.length:=by rw [List.length_append,hB];omega
 have hdrop:(Zlb 0 (A++B)).drop A.length=Zlb (Zub A) B:=by
  rw [Zkh,List.drop_left' (Zjh _ _),Int.zero_add]
 have htake:(Zlb 0 (A++B)).take A.length=Zlb 0 A:=by
  rw [Zkh,List.take_left' (Zjh _ _)]
 rw [hAl,hdrop,htake] at h
 split at h
 ·cases h
 rename_i hpl;simp only [ne_eq,Decidable.not_not] at hpl;simp only [Option.some.injEq] at h;have hokA:∀ x∈A,x.ok=true:=fun x hx=>hF x (by simp [hx])
 have fin:∀ x:X,x.ok=true→x.row (Zub A)=Z8f (Zub A) B++[n]→(x.depth:Int)=Zxb (Zlb (Zub A) B)+1 →
   ∃ F',(∀ x∈F',x.ok=true)∧Z8f 0 F'=Z8f 0 (A++B)++[n]∧o=Zlb 0 F':=by
  intro x hx hr hd;refine ⟨A++[x],fun y hy=>?_,?_,?_⟩
  ·rcases List.mem_append.1 hy with h1 | h1
   ·exact hokA y h1
   ·rw [List.mem_singleton.1 h1];exact hx
  ·rw [Zkl,Zkl,List.append_assoc,Int.zero_add,← hr]
   simp [Z8f]
  ·rw [← h,Zkh,Zlb,Zlb,hd]
   have h1:(x.row (Zub A)).length=x.size:=X.row_len _ _;rw [hr,List.length_append,Z7f,List.length_singleton] at h1;rw [Z6i]
   congr 4
   omega
 obtain ⟨op,num,name,a,b,c⟩:=n;simp only at hB hpl hrg;unfold Zt at hB
 split at hB
 ·rename_i h4
  obtain rfl:B=[]:=List.length_eq_zero_iff.1 hB;simp only [Zpb,Zlb,List.map_nil,List.getD_nil,List.cons.injEq,and_true] at hpl;obtain ⟨rfl,rfl,rfl⟩:=hpl;exact fin (.leaf op num name) (by unfold X.ok;rw [hw];simp;omega) rfl rfl
 rename_i h4;have hn:=Zlw hw (show op≠1 by omega);simp only at hn;obtain ⟨rfl,hnm,_⟩:=hn;obtain rfl:=hnm (by omega)
 split at hB
 ·rename_i h6
  obtain ⟨x,rfl⟩:=List.length_eq_one_iff.1 hB
  ·simp only [Zpb,Zlb,List.map_cons,List.map_nil,List.getD_cons_zero,List.getD_cons_succ,List.getD_nil,List.cons.injEq,and_true] at hpl
   obtain ⟨rfl,rfl,rfl⟩:=hpl;refine fin (.un op x) (by unfold X.ok;rw [hF x (by simp)];simp;omega) ?_ ?_
   ·simp [X.row,Z8f]
   ·simp [X.depth,Zlb,Zxb]
 rename_i h6
 split at hB
 ·rename_i h21
  obtain ⟨x,y,rfl⟩:∃ x y,B=[x,y]:=by
   match B,hB with
   | [x,y],_=>exact ⟨x,y,rfl⟩
  ·simp only [Zpb,Zlb,List.map_cons,List.map_nil,List.getD_cons_zero,List.getD_cons_succ,List.getD_nil,List.cons.injEq,and_true] at hpl
   obtain ⟨rfl,rfl,rfl⟩:=hpl;refine fin (.bin op x y) (by unfold X.ok;rw [hF x (by simp),hF y (by simp)];simp;omega) ?_ ?_
   ·simp [X.row,Z8f]
   ·simp [X.depth,Zlb,Zxb];omega
 ·rename_i h21
  obtain ⟨x,y,z,rfl⟩:∃ x y z,B=[x,y,z]:=by
   match B,hB with
   | [x,y,z],_=>exact ⟨x,y,z,rfl⟩
  ·simp only [Zpb,Zlb,List.map_cons,List.map_nil,List.getD_cons_zero,List.getD_cons_succ,List.cons.injEq,and_true] at hpl
   obtain ⟨rfl,rfl,rfl⟩:=hpl
   obtain rfl:op=22:=by omega
   refine fin (.ite x y z) (by unfold X.ok;rw [hF x (by simp),hF y (by simp),hF z (by simp)];rfl) ?_ ?_
   ·simp [X.row,Z8f]
   ·simp [X.depth,Zlb,Zxb];omega
theorem Z2o:∀ (l:List XN) (F:List X) (opn:List (Int × Int)),(∀ x∈F,x.ok=true)→Zmd l (Zub F) (Zlb 0 F)=some opn →
  ∃ F',(∀ x∈F',x.ok=true)∧Z8f 0 F'=Z8f 0 F++l∧opn=Zlb 0 F'
 | [],F,opn,hF,h=>⟨F,hF,by simp,by simpa [Zmd] using h.symm⟩
 | n::r,F,opn,hF,h=>by
  rw [Zmd] at h
  cases hs:Z5c (Zub F) n (Zlb 0 F) with
  | none=>rw [hs] at h;cases h
  | some o =>
   rw [hs] at h;obtain ⟨F1,h1,h2,rfl⟩:=Z4s hF hs
   have hsz:(Zub F:Int)+1=Zub F1:=by
    have:=congrArg List.length h2;rw [List.length_append,Z7f,Z7f,List.length_singleton] at this;omega
   simp only at h;rw [hsz] at h;obtain ⟨F',h3,h4,h5⟩:=Z2o r F1 opn h1 h;exact ⟨F',h3,by rw [h4,h2];simp,h5⟩
theorem Z4e:∀ (l m:List XN) (i:Int) (opn:List (Int × Int)),Zmd (l++m) i opn=(Zmd l i opn).bind fun o=>Zmd m (i+l.length) o
 | [],m,i,opn=>by simp [Zmd]
 | n::r,m,i,opn=>by
  rw [List.cons_append,Zmd,Zmd]
  cases Z5c i n opn with
  | none=>rfl
  | some o =>
   simp only;rw [Z4e r m]
   congr 1;funext o'
   congr 1
   simp only [List.length_cons];omega
theorem Z3e:∀ (x:X) (k:Int) (opn:List (Int × Int)),x.ok=true→Zmd (x.row k) k opn=some (opn++[(k+x.size-1,(x.depth:Int))])
 | .leaf op num name,k,opn,h=>by
  unfold X.ok at h;simp only [Bool.and_eq_true,decide_eq_true_eq] at h;simp only [X.row,Zmd]
  have hs:Z5c k ⟨op,num,name,-1,-1,-1⟩ opn=some (opn++[(k,1)]):=by
   unfold Z5c;rw [if_neg (by rw [h.1];simp)]
   have:Zt op=0:=by unfold Zt;rw [if_pos h.2]
   rw [this,if_neg (by omega),Nat.sub_zero,List.drop_length,List.take_length];rfl
  rw [hs];simp [Zmd,X.size,X.depth]
 | .un op a,k,opn,h=>by
  unfold X.ok at h;simp only [Bool.and_eq_true,decide_eq_true_eq] at h;rw [X.row,Z4e,Z3e a k opn h.2,Option.bind_some,X.row_len,Zmd]
  have hp:Zt op=1:=by unfold Zt;rw [if_neg (by omega),if_pos (by omega)]
  have hs:Z5c (k+a.size) ⟨op,0,[],k+a.size-1,-1,-1⟩ (opn++[(k+a.size-1,(a.depth:Int))])=some (opn++[(k+a.size,(a.depth:Int)+1)]):=by
   unfold Z5c
   have hl:(opn++[(k+(a.size:Int)-1,(a.depth:Int))]).length-1=opn.length:=by simp
   rw [if_neg (by rw [Zzf (by omega)];simp)];simp only [hp];rw [if_neg (by simp),hl,List.drop_left,List.take_left,if_neg (by simp [Zpb])]
   congr 4
   all_goals first | (simp [Zxb];done) | (simp [Zxb];omega)
  rw [hs];simp only [Zmd,X.size,X.depth]
  congr 4
  all_goals first | (simp;done) | (simp;omega) | omega
 | .bin op a b,k,opn,h=>by
  unfold X.ok at h;simp only [Bool.and_eq_true,decide_eq_true_eq] at h;rw [X.row,Z4e,Z4e,Z3e a k opn h.1.2,Option.bind_some,X.row_len,Z3e b _ _ h.2,Option.bind_some,Zmd]
  have hp:Zt op=2:=by unfold Zt;rw [if_neg (by omega),if_neg (by omega),if_pos (by omega)]
  have hlen:((a.row k++b.row (k+a.size)).length:Int)=a.size+b.size:=by rw [List.length_append,X.row_len,X.row_len];omega
  rw [hlen]
  have hs:Z5c (k+(a.size+b.size)) ⟨op,0,[],k+a.size-1,k+a.size+b.size-1,-1⟩ (opn++[(k+a.size-1,(a.depth:Int))]++[(k+a.size+b.size-1,(b.depth:Int))])=some (opn++[(k+(a.size+b.size),max (a.depth:Int) b.depth+1)]):=by
   unfold Z5c
   have hl:(opn++[(k+(a.size:Int)-1,(a.depth:Int))]++[(k+a.size+b.size-1,(b.depth:Int))]).length-2=opn.length:=by simp
   rw [if_neg (by rw [Zzf (by omega)];simp)];simp only [hp];rw [if_neg (by simp),hl,List.append_assoc,List.drop_left,List.take_left,if_neg (by simp [Zpb])]
   congr 4
   all_goals first | (simp [Zxb];done) | (simp [Zxb];omega)
  rw [hs];simp only [Zmd,X.size,X.depth]
  congr 4
  all_goals first | (simp;done) | (simp;omega) | omega
 | .ite a b c,k,opn,h=>by
  unfold X.ok at h;simp only [Bool.and_eq_true] at h;rw [X.row,Z4e,Z4e,Z4e,Z3e a k opn h.1.1,Option.bind_some,X.row_len,Z3e b _ _ h.1.2,Option.bind_some]
  have hlen1:k+((a.row k++b.row (k+a.size)).length:Int)=k+a.size+b.size:=by rw [List.length_append,X.row_len,X.row_len];omega
  rw [hlen1,Z3e c _ _ h.2,Option.bind_some,Zmd]
  have hlen:((a.row k++b.row (k+a.size)++c.row (k+a.size+b.size)).length:Int)=a.size+b.size+c.size:=by simp only [List.length_append,X.row_len];omega
  rw [hlen]
  have hs:Z5c (k+(a.size+b.size+c.size)) ⟨22,0,[],k+a.size-1,k+a.size+b.size-1,k+a.size+b.size+c.size-1⟩ (opn++[(k+a.size-1,(a.depth:Int))]++[(k+a.size+b.size-1,(b.depth:Int))]++[(k+a.size+b.size+c.size-1,(c.depth:Int))])=some (opn++[(k+(a.size+b.size+c.size),max (max (a.depth:Int) b.depth) c.depth+1)]):=by
   unfold Z5c;have hp:Zt 22=3:=rfl
   have hl:(opn++[(k+(a.size:Int)-1,(a.depth:Int))]++[(k+a.size+b.size-1,(b.depth:Int))]++[(k+a.size+b.size+c.size-1,(c.depth:Int))]).length-3=opn.length:=by simp
   rw [if_neg (by rw [Zzf (by omega)];simp)];simp only [hp];rw [if_neg (by simp),hl,List.append_assoc,List.append_assoc,List.drop_left,List.take_left,if_neg (by simp [Zpb])]
   congr 4
   all_goals first | (simp [Zxb];done) | (simp [Zxb];omega)
  rw [hs];simp only [Zmd,X.size,X.depth]
  congr 4
  all_goals first | (simp;done) | (simp;omega) | omega
theorem Z8g {x:X} (h:x.ok=true):Zia (x.row 0)=x.depth:=by
 unfold Zia;rw [Z3e x 0 [] h];rfl
theorem Zmk {l:List XN} (h:Zia l≠0):∃ x:X,x.ok=true∧l=x.row 0:=by
 unfold Zia at h
 split at h
 ·rename_i y hy
  obtain ⟨F,h1,h2,h3⟩:=Z2o l [] _ (by simp) (by simpa [Zub,Zlb] using hy)
  match F,h3 with
  | [x],_=>exact ⟨x,h1 x (by simp),by simpa [Z8f] using h2.symm⟩
  | [],h3=>simp [Zlb] at h3
  | _::_::_,h3=>simp [Zlb] at h3
 ·exact absurd rfl h
theorem X.depth_pos:∀ x:X,0<x.depth
 | .leaf .. => by simp [depth]
 | .un .. => by simp [depth]
 | .bin .. => by simp [depth]
 | .ite .. => by simp [depth]
end Go.Hs
end

section
namespace Go.Hs
def Zwa (rec:Int→Int) (has:Bool) (place last:Int):Option Int :=
 if has=false then (if place ≠ -1 then none else some last)
 else if place≠last then none else if rec last<0 then none else some (rec last-1)
def Zks (l:List XN) (i:Int):Option XN:=if i<0 then none else l[i.toNat]?
def Zfg (l:List XN):Nat→Int→Int
 | 0,_ => -1
 | f+1,i=>match Zks l i with
  | none => -1
  | some n=>bif Zxc n then
   match Zwa (Zfg l f) (Nat.blt 2 (Zt n.op)) n.c (i-1) with
   | none => -1
   | some l2=>match Zwa (Zfg l f) (Nat.blt 1 (Zt n.op)) n.b l2 with
    | none => -1
    | some l1=>match Zwa (Zfg l f) (Nat.blt 0 (Zt n.op)) n.a l1 with
     | none => -1
     | some l0=>l0+1
   else -1
theorem Z12 (l:List XN):∀ f i,-1≤Zfg l f i
 | 0,_=>by simp [Zfg]
 | f+1,i=>by
  have ih:=Z12 l f
  have hs:∀ has place last q,Zwa (Zfg l f) has place last=some q→q=last ∨ -1≤q:=by
   intro has place last q h;unfold Zwa at h
   split at h
   ·split at h
    ·cases h
    ·cases h;exact .inl rfl
   ·split at h
    ·cases h
    ·split at h
     ·cases h
     ·cases h;right;omega
  rw [Zfg]
  cases hn:Zks l i with
  | none=>simp
  | some n =>
   simp only
   have hi:0≤i:=by unfold Zks at hn;split at hn;cases hn;omega
   cases Zxc n with
   | false=>simp
   | true =>
    simp only [cond_true]
    cases h2:Zwa (Zfg l f) (Nat.blt 2 (Zt n.op)) n.c (i-1) with
    | none=>simp
    | some l2 =>
     simp only
     cases h1:Zwa (Zfg l f) (Nat.blt 1 (Zt n.op)) n.b l2 with
     | none=>simp
     | some l1 =>
      simp only
      cases h0:Zwa (Zfg l f) (Nat.blt 0 (Zt n.op)) n.a l1 with
      | none=>simp
      | some l0 =>
       simp only;have a2:=hs _ _ _ _ h2;have a1:=hs _ _ _ _ h1;have a0:=hs _ _ _ _ h0;omega
def At (l:List XN) (x:X) (b:Nat):Prop:=∃ pre post,l=pre++x.row b++post∧pre.length=b
theorem X.row_top:∀ (x:X) (k:Int),∃ body,x.row k=body++[x.top k]∧body.length+1=x.size
 | .leaf op num name,k=>⟨[],rfl,rfl⟩
 | .un op a,k=>⟨a.row k,rfl,by rw [X.row_len];rfl⟩
 | .bin op a b,k=>⟨a.row k++b.row (k+a.size),rfl,by rw [List.length_append,X.row_len,X.row_len];rfl⟩
 | .ite a b c,k=>⟨a.row k++b.row (k+a.size)++c.row (k+a.size+b.size),rfl,by rw [List.length_append,List.length_append,X.row_len,X.row_len,X.row_len];rfl⟩
theorem At.top {l:List XN} {x:X} {b:Nat} (h:At l x b):Zks l ((b:Int)+x.size-1)=some (x.top b):=by
 obtain ⟨pre,post,rfl,hb⟩:=h;obtain ⟨body,h1,h2⟩:=x.row_top b;unfold Zks;rw [if_neg (by omega)]
 have:((b:Int)+x.size-1).toNat=(pre++body).length:=by rw [List.length_append];omega
 rw [this,h1,show pre++(body++[x.top b])++post=(pre++body)++(x.top b::post) by simp];rw [List.getElem?_append_right (Nat.le_refl _)];simp
theorem At.get {l:List XN} {x:X} {b:Nat} (h:At l x b):l[b+x.size-1]? = some (x.top b):=by
 have:=h.top;unfold Zks at this;have hp:=x.size_pos;rw [if_neg (by omega)] at this;rw [← this];congr 1;omega
theorem At.un {l:List XN} {op:Int} {a:X} {b:Nat} (h:At l (.un op a) b):At l a b:=by
 obtain ⟨pre,post,rfl,hb⟩:=h;exact ⟨pre,_,by simp only [X.row,List.append_assoc];rfl,hb⟩
theorem At.bin {l:List XN} {op:Int} {x y:X} {b:Nat} (h:At l (.bin op x y) b):At l x b∧At l y (b+x.size):=by
 obtain ⟨pre,post,rfl,hb⟩:=h;refine ⟨⟨pre,y.row (b+x.size)++[X.top (.bin op x y) b]++post,by simp only [X.row,List.append_assoc];rfl,hb⟩,⟨pre++x.row b,[X.top (.bin op x y) b]++post,?_,by rw [List.length_append,X.row_len,hb]⟩⟩;simp only [X.row,List.append_assoc];rfl
theorem At.ite {l:List XN} {x y z:X} {b:Nat} (h:At l (.ite x y z) b):At l x b∧At l y (b+x.size)∧At l z (b+x.size+y.size):=by
 obtain ⟨pre,post,rfl,hb⟩:=h;refine ⟨⟨pre,y.row (b+x.size)++z.row (b+x.size+y.size)++[X.top (.ite x y z) b]++post,by simp only [X.row,List.append_assoc];rfl,hb⟩,⟨pre++x.row b,z.row (b+x.size+y.size)++[X.top (.ite x y z) b]++post,?_,by rw [List.length_append,X.row_len,hb]⟩,⟨pre++x.row b++y.row (b+x.size),[X.top (.ite x y z) b]++post,?_,by rw [List.length_append,List.length_append,X.row_len,X.row_len,hb]⟩⟩
 ·simp only [X.row,List.append_assoc];rfl
 ·simp only [X.row,List.append_assoc];rfl
theorem Znk (rec:Int→Int) (last:Int):Zwa rec false (-1) last=some last:=rfl
theorem Z2d {rec:Int→Int} {last:Int} (h:0≤rec last):Zwa rec true last last=some (rec last-1):=by
 unfold Zwa;rw [if_neg (by simp),if_neg (by simp),if_neg (by omega)]
theorem Zsi:∀ (x:X) (l:List XN) (b f:Nat),x.ok=true→At l x b→x.size≤f→Zfg l f ((b:Int)+x.size-1)=b
 | .leaf op num name,l,b,f,hok,h,hf=>by
  unfold X.ok at hok;simp only [Bool.and_eq_true,decide_eq_true_eq] at hok;obtain ⟨f,rfl⟩:∃ f',f=f'+1:=⟨f-1,by simp only [X.size] at hf;omega⟩;rw [Zfg,h.top];simp only [X.top]
  have hp:Zt op=0:=by unfold Zt;rw [if_pos hok.2]
  rw [hok.1,hp,cond_true];simp only [show Nat.blt 2 0=false from rfl,show Nat.blt 1 0=false from rfl,show Nat.blt 0 0=false from rfl,Znk,X.size];omega
 | .un op a,l,b,f,hok,h,hf=>by
  unfold X.ok at hok;simp only [Bool.and_eq_true,decide_eq_true_eq] at hok;simp only [X.size] at hf;obtain ⟨f,rfl⟩:∃ f',f=f'+1:=⟨f-1,by omega⟩;have ia:=Zsi a l b f hok.2 h.un (by omega);rw [Zfg,h.top];simp only [X.top]
  have hp:Zt op=1:=by unfold Zt;rw [if_neg (by omega),if_pos (by omega)]
  rw [Zzf (by omega),hp,cond_true]
  have e:(b:Int)+(X.un op a).size-1-1=b+a.size-1:=by simp only [X.size];omega
  simp only [show Nat.blt 2 1=false from rfl,show Nat.blt 1 1=false from rfl,show Nat.blt 0 1=true from rfl,Znk,e];rw [Z2d (by rw [ia];omega),ia];simp
 | .bin op x y,l,b,f,hok,h,hf=>by
  unfold X.ok at hok;simp only [Bool.and_eq_true,decide_eq_true_eq] at hok;simp only [X.size] at hf;obtain ⟨f,rfl⟩:∃ f',f=f'+1:=⟨f-1,by omega⟩;have ix:=Zsi x l b f hok.1.2 h.bin.1 (by omega);have iy:=Zsi y l (b+x.size) f hok.2 h.bin.2 (by omega);rw [Zfg,h.top];simp only [X.top]
  have hp:Zt op=2:=by unfold Zt;rw [if_neg (by omega),if_neg (by omega),if_pos (by omega)]
  rw [Zzf (by omega),hp,cond_true]
  have e:(b:Int)+(X.bin op x y).size-1-1=b+x.size+y.size-1:=by simp only [X.size];omega
  have ey:((b+x.size:Nat):Int)=b+x.size:=by omega
  rw [ey] at iy;simp only [show Nat.blt 2 2=false from rfl,show Nat.blt 1 2=true from rfl,show Nat.blt 0 2=true from rfl,Znk,e];rw [Z2d (by rw [iy];omega),iy];simp only;rw [Z2d (by rw [ix];omega),ix];simp
 | .ite x y z,l,b,f,hok,h,hf=>by
  unfold X.ok at hok;simp only [Bool.and_eq_true] at hok;simp only [X.size] at hf;obtain ⟨f,rfl⟩:∃ f',f=f'+1:=⟨f-1,by omega⟩;have ix:=Zsi x l b f hok.1.1 h.ite.1 (by omega);have iy:=Zsi y l (b+x.size) f hok.1.2 h.ite.2.1 (by omega);have iz:=Zsi z l (b+x.size+y.size) f hok.2 h.ite.2.2 (by omega);rw [Zfg,h.top];simp only [X.top];rw [Zzf (by omega),show Zt 22=3 from rfl,cond_true]
  have e:(b:Int)+(X.ite x y z).size-1-1=b+x.size+y.size+z.size-1:=by simp only [X.size];omega
  have ey:((b+x.size:Nat):Int)=b+x.size:=by omega
  have ez:((b+x.size+y.size:Nat):Int)=b+x.size+y.size:=by omega
  rw [ey] at iy;rw [ez] at iz;simp only [show Nat.blt 2 3=true from rfl,show Nat.blt 1 3=true from rfl,show Nat.blt 0 3=true from rfl,e];rw [Z2d (by rw [iz];omega),iz];simp only;rw [Z2d (by rw [iy];omega),iy];simp only;rw [Z2d (by rw [ix];omega),ix];simp
theorem Zib {rec:Int→Int} {has:Bool} {place last q:Int} (h:Zwa rec has place last=some q):has=false∧place = -1∧q=last∨has=true∧place=last∧0≤rec last∧q=rec last-1:=by
 unfold Zwa at h
 split at h
 ·rename_i h1
  split at h
  ·cases h
  ·rename_i h2;cases h;exact .inl ⟨h1,by simpa using h2,rfl⟩
 ·rename_i h1
  split at h
  ·cases h
  ·rename_i h2
   split at h
   ·cases h
   ·rename_i h3;cases h;exact .inr ⟨by simpa using h1,by simpa using h2,by omega,rfl⟩
theorem At.glue {l:List XN} {x:X} {b:Nat} (h:At l x b):∃ pre,l.take (b+x.size)=pre++x.row b∧pre.length=b:=by
 obtain ⟨pre,post,rfl,hb⟩:=h;refine ⟨pre,?_,hb⟩;rw [List.take_append_of_le_length (by rw [List.length_append,X.row_len];omega),List.take_of_length_le (by rw [List.length_append,X.row_len];omega)]
theorem Zuh {l:List XN} {x:X} {b:Nat} {pre:List XN} (h:l.take (b+x.size)=pre++x.row b) (hb:pre.length=b):At l x b :=
 ⟨pre,l.drop (b+x.size),by rw [← h,List.take_append_drop],hb⟩
theorem Zh1 {l:List XN} {i:Int} {n:XN} (h:Zks l i=some n):0≤i∧l[i.toNat]? = some n∧i.toNat<l.length:=by
 unfold Zks at h
 split at h
 ·cases h
 ·have:=List.getElem?_eq_some_iff.1 h
  exact ⟨by omega,h,this.1⟩
theorem Zce (l:List XN):∀ (f:Nat) (i:Int),0≤Zfg l f i→∃ (x:X) (b:Nat),x.ok=true∧At l x b∧Zfg l f i=b∧(b:Int)+x.size=i+1
 | 0,i,h=>by simp [Zfg] at h
 | f+1,i,h=>by
  rw [Zfg] at h ⊢
  cases hn:Zks l i with
  | none=>rw [hn] at h;simp at h
  | some n =>
   rw [hn] at h;obtain ⟨hi,hg,hlt⟩:=Zh1 hn;simp only at h ⊢
   cases hw:Zxc n with
   | false=>rw [hw] at h;simp at h
   | true =>
   rw [hw,cond_true] at h;rw [cond_true];have hrg:=Zxd hw
   have htk:l.take (i.toNat+1)=l.take i.toNat++[n]:=by rw [List.take_add_one,hg];rfl
   cases h2:Zwa (Zfg l f) (Nat.blt 2 (Zt n.op)) n.c (i-1) with
   | none=>rw [h2] at h;simp at h
   | some l2 =>
   rw [h2] at h;simp only at h ⊢
   cases h1:Zwa (Zfg l f) (Nat.blt 1 (Zt n.op)) n.b l2 with
   | none=>rw [h1] at h;simp at h
   | some l1 =>
   rw [h1] at h;simp only at h ⊢
   cases h0:Zwa (Zfg l f) (Nat.blt 0 (Zt n.op)) n.a l1 with
   | none=>rw [h0] at h;simp at h
   | some l0 =>
   rw [h0] at h;simp only at h ⊢;obtain ⟨op,num,name,a,b,c⟩:=n;simp only at h2 h1 h0 hrg
   by_cases h4:op≤4
   ·have hp:Zt op=0:=by unfold Zt;rw [if_pos h4]
    rw [hp] at h2 h1 h0
    obtain ⟨_,rfl,rfl⟩ | ⟨hh,_⟩:=Zib h2
    rotate_left
    ·exact absurd hh (by decide)
    obtain ⟨_,rfl,rfl⟩ | ⟨hh,_⟩:=Zib h1
    rotate_left
    ·exact absurd hh (by decide)
    obtain ⟨_,rfl,rfl⟩ | ⟨hh,_⟩:=Zib h0
    rotate_left
    ·exact absurd hh (by decide)
    refine ⟨.leaf op num name,i.toNat,by unfold X.ok;rw [hw];simp;omega,Zuh (pre:=l.take i.toNat) (by rw [X.size,htk];rfl) (by rw [List.length_take];omega),by omega,by simp only [X.size];omega⟩
   have hnn:=Zlw hw (show op≠1 by omega);simp only at hnn;obtain ⟨rfl,hnm,_⟩:=hnn;obtain rfl:=hnm (by omega)
   by_cases h6:op≤6
   ·have hp:Zt op=1:=by unfold Zt;rw [if_neg h4,if_pos h6]
    rw [hp] at h2 h1 h0
    obtain ⟨_,rfl,rfl⟩ | ⟨hh,_⟩:=Zib h2
    rotate_left
    ·exact absurd hh (by decide)
    obtain ⟨_,rfl,rfl⟩ | ⟨hh,_⟩:=Zib h1
    rotate_left
    ·exact absurd hh (by decide)
    obtain ⟨hh,_⟩ | ⟨_,rfl,hr,rfl⟩:=Zib h0
    ·exact absurd hh (by decide)
    obtain ⟨x,bx,ok1,at1,e1,s1⟩:=Zce l f _ hr;obtain ⟨pre,g1,g2⟩:=at1.glue;refine ⟨.un op x,bx,by unfold X.ok;rw [ok1];simp;omega,Zuh (pre:=pre) ?_ g2,by omega,by simp only [X.size];omega⟩;rw [show bx+(X.un op x).size=i.toNat+1 by simp only [X.size];omega,htk,show i.toNat=bx+x.size by omega,g1,X.row,List.append_assoc]
    congr 4;omega
   by_cases h21:op≤21
   ·have hp:Zt op=2:=by unfold Zt;rw [if_neg h4,if_neg h6,if_pos h21]
    rw [hp] at h2 h1 h0
    obtain ⟨_,rfl,rfl⟩ | ⟨hh,_⟩:=Zib h2
    rotate_left
    ·exact absurd hh (by decide)
    obtain ⟨hh,_⟩ | ⟨_,rfl,hr1,rfl⟩:=Zib h1
    ·exact absurd hh (by decide)
    obtain ⟨hh,_⟩ | ⟨_,rfl,hr0,rfl⟩:=Zib h0
    ·exact absurd hh (by decide)
    obtain ⟨y,by',ok1,at1,e1,s1⟩:=Zce l f _ hr1;rw [e1] at hr0 h0 h ⊢;obtain ⟨x,bx,ok0,at0,e0,s0⟩:=Zce l f _ hr0;obtain ⟨prey,gy1,gy2⟩:=at1.glue;obtain ⟨prex,gx1,gx2⟩:=at0.glue
    have eby:by'=bx+x.size:=by omega
    have hpy:prey=prex++x.row bx:=by
     have:(l.take (by'+y.size)).take by'=prey:=by rw [gy1,List.take_left' gy2]
     rw [← this,List.take_take,Nat.min_eq_left (by omega),eby,gx1]
    refine ⟨.bin op x y,bx,by unfold X.ok;rw [ok1,ok0];simp;omega,Zuh (pre:=prex) ?_ gx2,by omega,by simp only [X.size];omega⟩;rw [show bx+(X.bin op x y).size=i.toNat+1 by simp only [X.size];omega,htk,show i.toNat=by'+y.size by omega,gy1,hpy,X.row,eby];simp only [List.append_assoc]
    congr 5<;>omega
   ·have hp:Zt op=3:=by unfold Zt;rw [if_neg h4,if_neg h6,if_neg h21]
    obtain rfl:op=22:=by omega
    rw [hp] at h2 h1 h0
    obtain ⟨hh,_⟩ | ⟨_,rfl,hr2,rfl⟩:=Zib h2
    ·exact absurd hh (by decide)
    obtain ⟨z,bz,ok2,at2,e2,s2⟩:=Zce l f _ hr2;rw [e2] at h1
    obtain ⟨hh,_⟩ | ⟨_,rfl,hr1,rfl⟩:=Zib h1
    ·exact absurd hh (by decide)
    obtain ⟨y,by',ok1,at1,e1,s1⟩:=Zce l f _ hr1;rw [e1] at h0
    obtain ⟨hh,_⟩ | ⟨_,rfl,hr0,rfl⟩:=Zib h0
    ·exact absurd hh (by decide)
    obtain ⟨x,bx,ok0,at0,e0,s0⟩:=Zce l f _ hr0;obtain ⟨prez,gz1,gz2⟩:=at2.glue;obtain ⟨prey,gy1,gy2⟩:=at1.glue;obtain ⟨prex,gx1,gx2⟩:=at0.glue
    have eby:by'=bx+x.size:=by omega
    have ebz:bz=bx+x.size+y.size:=by omega
    have hpy:prey=prex++x.row bx:=by
     have:(l.take (by'+y.size)).take by'=prey:=by rw [gy1,List.take_left' gy2]
     rw [← this,List.take_take,Nat.min_eq_left (by omega),eby,gx1]
    have hpz:prez=prey++y.row by':=by
     have:(l.take (bz+z.size)).take bz=prez:=by rw [gz1,List.take_left' gz2]
     rw [← this,List.take_take,Nat.min_eq_left (by omega),show bz=by'+y.size by omega,gy1]
    refine ⟨.ite x y z,bx,by unfold X.ok;rw [ok2,ok1,ok0];rfl,Zuh (pre:=prex) ?_ gx2,by omega,by simp only [X.size];omega⟩;rw [show bx+(X.ite x y z).size=i.toNat+1 by simp only [X.size];omega,htk,show i.toNat=bz+z.size by omega,gz1,hpz,hpy,X.row,ebz,eby];simp only [List.append_assoc]
    congr 6<;>omega
def Z9r (l:List XN):Bool:=Zfg l l.length ((l.length:Int)-1)==0
theorem Zif (x:X):At (x.row 0) x 0:=⟨[],[],by simp,rfl⟩
theorem Z9j {l:List XN}:Z9r l=true ↔ ∃ x:X,x.ok=true∧l=x.row 0:=by
 unfold Z9r;rw [beq_iff_eq]
 constructor
 ·intro h
  obtain ⟨x,b,h1,h2,h3,h4⟩:=Zce l l.length ((l.length:Int)-1) (by omega)
  obtain rfl:b=0:=by omega
  obtain ⟨pre,post,rfl,hb⟩:=h2;obtain rfl:=List.length_eq_zero_iff.1 hb
  have hl:post.length=0:=by
   simp only [List.nil_append,List.length_append,X.row_len] at h4;omega
  obtain rfl:=List.length_eq_zero_iff.1 hl;exact ⟨x,h1,by simp⟩
 ·rintro ⟨x,hx,rfl⟩
  have:=Zsi x (x.row 0) 0 (x.row 0).length hx (Zif x) (by rw [X.row_len];exact Nat.le_refl _);rw [X.row_len] at this ⊢;simpa using this
theorem Zfi (l:List XN):Z9r l=decide (Zia l≠0):=by
 rw [Bool.eq_iff_iff,Z9j,decide_eq_true_iff]
 constructor
 ·rintro ⟨x,hx,rfl⟩
  rw [Z8g hx];have:=x.depth_pos;omega
 ·exact Zmk
end Go.Hs
end

section
namespace Go.Hs
inductive Sub:X→X→Nat→Prop where
 | refl (x:X):Sub x x 0
 | un {op:Int} {a y:X} {b:Nat}:Sub a y b→Sub (.un op a) y b
 | bin1 {op:Int} {a c y:X} {b:Nat}:Sub a y b→Sub (.bin op a c) y b
 | bin2 {op:Int} {a c y:X} {b:Nat}:Sub c y b→Sub (.bin op a c) y (a.size+b)
 | ite1 {a c d y:X} {b:Nat}:Sub a y b→Sub (.ite a c d) y b
 | ite2 {a c d y:X} {b:Nat}:Sub c y b→Sub (.ite a c d) y (a.size+b)
 | ite3 {a c d y:X} {b:Nat}:Sub d y b→Sub (.ite a c d) y (a.size+c.size+b)
def Zcc:X→List X
 | .leaf op num name=>[.leaf op num name]
 | .un op a=>Zcc a++[.un op a]
 | .bin op a c=>Zcc a++Zcc c++[.bin op a c]
 | .ite a c d=>Zcc a++Zcc c++Zcc d++[.ite a c d]
theorem Zdb:∀ x:X,(Zcc x).length=x.size
 | .leaf .. => rfl
 | .un _ a=>by simp [Zcc,X.size,Zdb a]
 | .bin _ a b=>by simp [Zcc,X.size,Zdb a,Zdb b];omega
 | .ite a b c=>by simp [Zcc,X.size,Zdb a,Zdb b,Zdb c];omega
theorem Sub.trans {x y z:X} {b c:Nat} (h:Sub x y b) (h2:Sub y z c):Sub x z (b+c):=by
 induction h with
 | refl=>simpa using h2
 | un _ ih=>exact .un (ih h2)
 | bin1 _ ih=>exact .bin1 (ih h2)
 | bin2 _ ih=>rw [Nat.add_assoc];exact .bin2 (ih h2)
 | ite1 _ ih=>exact .ite1 (ih h2)
 | ite2 _ ih=>rw [Nat.add_assoc];exact .ite2 (ih h2)
 | ite3 _ ih=>rw [Nat.add_assoc];exact .ite3 (ih h2)
theorem Sub.ok {x y:X} {b:Nat} (h:Sub x y b):x.ok=true→y.ok=true:=by
 induction h with
 | refl=>exact id
 | un _ ih=>intro h;simp [X.ok] at h;exact ih h.2
 | bin1 _ ih=>intro h;simp [X.ok] at h;exact ih h.1.2
 | bin2 _ ih=>intro h;simp [X.ok] at h;exact ih h.2
 | ite1 _ ih=>intro h;simp [X.ok] at h;exact ih h.1.1
 | ite2 _ ih=>intro h;simp [X.ok] at h;exact ih h.1.2
 | ite3 _ ih=>intro h;simp [X.ok] at h;exact ih h.2
theorem Sub.size {x y:X} {b:Nat} (h:Sub x y b):b+y.size≤x.size:=by
 induction h with
 | refl=>simp
 | un _ ih=>simp only [X.size];omega
 | bin1 _ ih=>simp only [X.size];omega
 | bin2 _ ih=>simp only [X.size];omega
 | ite1 _ ih=>simp only [X.size];omega
 | ite2 _ ih=>simp only [X.size];omega
 | ite3 _ ih=>simp only [X.size];omega
theorem Sub.depth {x y:X} {b:Nat} (h:Sub x y b):y.depth≤x.depth:=by
 induction h with
 | refl=>simp
 | un _ ih=>simp only [X.depth];omega
 | bin1 _ ih=>simp only [X.depth];omega
 | bin2 _ ih=>simp only [X.depth];omega
 | ite1 _ ih=>simp only [X.depth];omega
 | ite2 _ ih=>simp only [X.depth];omega
 | ite3 _ ih=>simp only [X.depth];omega
theorem Sub.at {x y:X} {b:Nat} (h:Sub x y b):∀ {l:List XN} {k:Nat},At l x k→At l y (k+b):=by
 induction h with
 | refl=>exact id
 | un _ ih=>intro l k h;exact ih h.un
 | bin1 _ ih=>intro l k h;exact ih h.bin.1
 | bin2 _ ih=>intro l k h;rw [← Nat.add_assoc];exact ih h.bin.2
 | ite1 _ ih=>intro l k h;exact ih h.ite.1
 | ite2 _ ih=>intro l k h;rw [← Nat.add_assoc];exact ih h.ite.2.1
 | ite3 _ ih=>intro l k h;rw [← Nat.add_assoc,← Nat.add_assoc];exact ih h.ite.2.2
theorem Zsw (x:X):(Zcc x)[x.size-1]? = some x:=by
 have:∃ l,Zcc x=l++[x]:=by
  cases x with
  | leaf=>exact ⟨[],rfl⟩
  | un=>exact ⟨_,rfl⟩
  | bin=>exact ⟨_,rfl⟩
  | ite=>exact ⟨_,rfl⟩
 obtain ⟨l,h⟩:=this;have hl:=Zdb x;rw [h,List.length_append,List.length_singleton] at hl;rw [h,List.getElem?_append_right (by omega),show x.size-1-l.length=0 by omega];rfl
theorem Sub.get {x y:X} {b:Nat} (h:Sub x y b):(Zcc x)[b+y.size-1]? = some y:=by
 have hy:=y.size_pos
 induction h with
 | refl x=>rw [Nat.zero_add];exact Zsw x
 | @un op a y b h ih =>
  have:=h.size;have hl:=Zdb a;rw [Zcc,List.getElem?_append_left (by omega)];exact ih hy
 | @bin1 op a c y b h ih =>
  have:=h.size;have hl:=Zdb a;rw [Zcc,List.append_assoc,List.getElem?_append_left (by omega)];exact ih hy
 | @bin2 op a c y b h ih =>
  have:=h.size;have hl:=Zdb a;have hl2:=Zdb c;rw [Zcc,List.append_assoc,List.getElem?_append_right (by omega),List.getElem?_append_left (by omega),← ih hy]
  congr 1;omega
 | @ite1 a c d y b h ih =>
  have:=h.size;have hl:=Zdb a;rw [Zcc,List.append_assoc,List.append_assoc,List.getElem?_append_left (by omega)];exact ih hy
 | @ite2 a c d y b h ih =>
  have:=h.size;have hl:=Zdb a;have hl2:=Zdb c;rw [Zcc,List.append_assoc,List.append_assoc,List.getElem?_append_right (by omega),List.getElem?_append_left (by omega),← ih hy]
  congr 1;omega
 | @ite3 a c d y b h ih =>
  have:=h.size;have hl:=Zdb a;have hl2:=Zdb c;have hl3:=Zdb d;rw [Zcc,List.append_assoc,List.append_assoc,List.getElem?_append_right (by omega),List.getElem?_append_right (by omega),List.getElem?_append_left (by omega),← ih hy]
  congr 1;omega
theorem Zai:∀ (x:X) (i:Nat),i<x.size→∃ y b,Sub x y b∧b+y.size=i+1
 | .leaf op num name,i,h=>⟨_,0,.refl _,by simp only [X.size] at h ⊢;omega⟩
 | .un op a,i,h=>by
  by_cases h1:i<a.size
  ·obtain ⟨y,b,h2,h3⟩:=Zai a i h1
   exact ⟨y,b,.un h2,h3⟩
  ·exact ⟨_,0,.refl _,by simp only [X.size] at h ⊢;omega⟩
 | .bin op a c,i,h=>by
  by_cases h1:i<a.size
  ·obtain ⟨y,b,h2,h3⟩:=Zai a i h1
   exact ⟨y,b,.bin1 h2,h3⟩
  by_cases h1':i-a.size<c.size
  ·obtain ⟨y,b,h2,h3⟩:=Zai c (i-a.size) h1'
   exact ⟨y,_,.bin2 h2,by omega⟩
  ·exact ⟨_,0,.refl _,by simp only [X.size] at h ⊢;omega⟩
 | .ite a c d,i,h=>by
  by_cases h1:i<a.size
  ·obtain ⟨y,b,h2,h3⟩:=Zai a i h1
   exact ⟨y,b,.ite1 h2,h3⟩
  by_cases h1':i-a.size<c.size
  ·obtain ⟨y,b,h2,h3⟩:=Zai c (i-a.size) h1'
   exact ⟨y,_,.ite2 h2,by omega⟩
  by_cases h1'':i-a.size-c.size<d.size
  ·obtain ⟨y,b,h2,h3⟩:=Zai d (i-a.size-c.size) h1''
   exact ⟨y,_,.ite3 h2,by omega⟩
  ·exact ⟨_,0,.refl _,by simp only [X.size] at h ⊢;omega⟩
theorem Sub.top {x y:X} {b:Nat} (h:Sub x y b):(x.row 0)[b+y.size-1]? = some (y.top b):=by
 have:=(h.at (Zif x)).get;rw [Nat.zero_add] at this;exact this
theorem Zp0 (x:X) (i:Nat) (h:i<x.size):∃ y b,Sub x y b∧b+y.size=i+1∧(Zcc x)[i]? = some y∧(x.row 0)[i]? = some (y.top b):=by
 obtain ⟨y,b,h1,h2⟩:=Zai x i h
 have e:i=b+y.size-1:=by omega
 exact ⟨y,b,h1,h2,e ▸ h1.get,e ▸ h1.top⟩
end Go.Hs
end

section
namespace Go.Hs
def kd (op:Int) (named:Bool) (a b c:Int):Int :=
 if op=1∨op=2∧named=true then 1
 else if op=3∨op=4 then 2
 else if op=5∧a=1∨7≤op∧op≤11∧a=1∧b=1 then 1
 else if 12≤op∧op≤15∧a=1∧b=1∨(op=16∨op=17)∧a=b∧a≠0 then 2
 else if op=6∧a=2∨18≤op∧op≤21∧a=2∧b=2 then 2
 else if op=22∧a=2∧b=c then b else 0
theorem Zmj {op:Int} {nm:Bool} {a b c:Int} (hb:0≤b∧b≤2):0≤kd op nm a b c∧kd op nm a b c≤2:=by
 unfold kd
 repeat' split
 all_goals omega
def Zmb (names:List (List UInt8)):X→Int
 | .leaf op _ name=>kd op (names.contains name) 0 0 0
 | .un op a=>kd op (names.contains []) (Zmb names a) 0 0
 | .bin op a b=>kd op (names.contains []) (Zmb names a) (Zmb names b) 0
 | .ite a b c=>kd 22 (names.contains []) (Zmb names a) (Zmb names b) (Zmb names c)
theorem Zli (names:List (List UInt8)):∀ x,0≤Zmb names x∧Zmb names x≤2
 | .leaf .. => Zmj (by decide)
 | .un .. => Zmj (by decide)
 | .bin _ a b=>Zmj (Zli names b)
 | .ite a b c=>Zmj (Zli names b)
def goX (names:List (List UInt8)):List X→Int→List Int→List Int × Int × Int
 | [],_,acc=>(acc,0,0)
 | y::r,i,acc=>if Zmb names y=0 then ([],i,90) else goX names r (i+1) (acc++[Zmb names y])
def plc (ks:List Int) (i:Int):Int:=if i<0 then 0 else ks.getD i.toNat 0
def Zlj (names:List (List UInt8)) (n:XN) (ks:List Int):Int:=kd n.op (names.contains n.name) (plc ks n.a) (plc ks n.b) (plc ks n.c)
def goN (names:List (List UInt8)):List XN→Int→List Int→List Int × Int × Int
 | [],_,acc=>(acc,0,0)
 | n::r,i,acc=>if Zlj names n acc=0 then ([],i,90) else goN names r (i+1) (acc++[Zlj names n acc])
theorem Z1u (ks:List Int):plc ks (-1)=0:=rfl
theorem Zbk {names:List (List UInt8)} {x y:X} {b i:Nat} (h:Sub x y b) (hi:b+y.size≤i):plc (((Zcc x).take i).map (Zmb names)) ((b:Int)+y.size-1)=Zmb names y:=by
 have hp:=y.size_pos;unfold plc;rw [if_neg (by omega),show ((b:Int)+y.size-1).toNat=b+y.size-1 by omega];rw [List.getD_eq_getElem?_getD,List.getElem?_map,List.getElem?_take,if_pos (by omega),h.get];rfl
theorem Z31 {names:List (List UInt8)} {x y:X} {b i:Nat} (h:Sub x y b) (hi:b+y.size=i+1):Zlj names (y.top b) (((Zcc x).take i).map (Zmb names))=Zmb names y:=by
 cases y with
 | leaf op num name=>rfl
 | un op a =>
  have h1:Sub x a b:=h.trans (.un (.refl a));simp only [X.size] at hi;simp only [Zlj,X.top,Z1u,Zmb];rw [Zbk h1 (by omega)]
 | bin op a c =>
  have h1:Sub x a b:=h.trans (.bin1 (.refl a));have h2:Sub x c (b+(a.size+0)):=h.trans (.bin2 (.refl c));rw [Nat.add_zero] at h2;simp only [X.size] at hi;simp only [Zlj,X.top,Z1u,Zmb];have:=Zbk (names:=names) h2 (i:=i) (by omega);rw [show ((b+a.size:Nat):Int)+c.size-1=(b:Int)+a.size+c.size-1 by omega] at this;rw [Zbk h1 (by omega),this]
 | ite a c d =>
  have h1:Sub x a b:=h.trans (.ite1 (.refl a));have h2:Sub x c (b+(a.size+0)):=h.trans (.ite2 (.refl c));have h3:Sub x d (b+(a.size+c.size+0)):=h.trans (.ite3 (.refl d));rw [Nat.add_zero] at h2 h3;simp only [X.size] at hi;simp only [Zlj,X.top,Z1u,Zmb];have q2:=Zbk (names:=names) h2 (i:=i) (by omega);rw [show ((b+a.size:Nat):Int)+c.size-1=(b:Int)+a.size+c.size-1 by omega] at q2;have q3:=Zbk (names:=names) h3 (i:=i) (by omega);rw [show ((b+(a.size+c.size):Nat):Int)+d.size-1=(b:Int)+a.size+c.size+d.size-1 by omega] at q3;rw [Zbk h1 (by omega),q2,q3]
theorem Z71 {names:List (List UInt8)} (x:X):∀ (m i:Nat),i+m=x.size→goN names ((x.row 0).drop i) i (((Zcc x).take i).map (Zmb names))=goX names ((Zcc x).drop i) i (((Zcc x).take i).map (Zmb names))
 | 0,i,h=>by
  rw [List.drop_of_length_le (by rw [X.row_len];omega),List.drop_of_length_le (by rw [Zdb];omega)];rfl
 | m+1,i,h=>by
  obtain ⟨y,b,h1,h2,h3,h4⟩:=Zp0 x i (by omega);obtain ⟨q1,e1⟩:=List.getElem?_eq_some_iff.1 h3;obtain ⟨q2,e2⟩:=List.getElem?_eq_some_iff.1 h4;rw [List.drop_eq_getElem_cons q2,List.drop_eq_getElem_cons q1,e1,e2,goN,goX,Z31 h1 h2];have ih:=Z71 (names:=names) x m (i+1) (by omega)
  have ht:((Zcc x).take (i+1)).map (Zmb names)=((Zcc x).take i).map (Zmb names)++[Zmb names y]:=by
   rw [List.take_add_one,h3];simp
  rw [ht] at ih
  split
  ·rfl
  ·exact ih
def PlOk (k:Nat) (n:XN):Prop:=Zxc n=true∧(0<Zt n.op→0≤n.a∧n.a<k)∧(1<Zt n.op→0≤n.b∧n.b<k)∧(2<Zt n.op→0≤n.c∧n.c<k) ∧
 (¬ 0<Zt n.op→n.a = -1)∧(¬ 1<Zt n.op→n.b = -1)∧(¬ 2<Zt n.op→n.c = -1)
theorem Zk4 {x y:X} {b i:Nat} (hx:x.ok=true) (h:Sub x y b) (hi:b+y.size=i+1):PlOk i (y.top b):=by
 have hy:=h.ok hx
 cases y with
 | leaf op num name =>
  simp only [X.ok,Bool.and_eq_true,decide_eq_true_eq] at hy
  have hp:Zt op=0:=by unfold Zt;rw [if_pos hy.2]
  refine ⟨hy.1,?_⟩;simp only [X.top,hp];exact ⟨fun h=>absurd h (by decide),fun h=>absurd h (by decide),fun h=>absurd h (by decide),fun _=>trivial,fun _=>trivial,fun _=>trivial⟩
 | un op a =>
  simp only [X.ok,Bool.and_eq_true,decide_eq_true_eq] at hy
  have hp:Zt op=1:=by unfold Zt;rw [if_neg (by omega),if_pos (by omega)]
  have hs:=a.size_pos;simp only [X.size] at hi;refine ⟨Zzf (by omega) _ _ _,?_⟩;simp only [X.top,hp];exact ⟨fun _=>by omega,fun h=>absurd h (by decide),fun h=>absurd h (by decide),fun h=>absurd (by decide) h,fun _=>trivial,fun _=>trivial⟩
 | bin op a c =>
  simp only [X.ok,Bool.and_eq_true,decide_eq_true_eq] at hy
  have hp:Zt op=2:=by unfold Zt;rw [if_neg (by omega),if_neg (by omega),if_pos (by omega)]
  have hs:=a.size_pos;have hs2:=c.size_pos;simp only [X.size] at hi;refine ⟨Zzf (by omega) _ _ _,?_⟩;simp only [X.top,hp];exact ⟨fun _=>by omega,fun _=>by omega,fun h=>absurd h (by decide),fun h=>absurd (by decide) h,fun h=>absurd (by decide) h,fun _=>trivial⟩
 | ite a c d =>
  have hp:Zt 22=3:=by decide
  have hs:=a.size_pos;have hs2:=c.size_pos;have hs3:=d.size_pos;simp only [X.size] at hi;refine ⟨Zzf (by decide) _ _ _,?_⟩;simp only [X.top,hp];exact ⟨fun _=>by omega,fun _=>by omega,fun _=>by omega,fun h=>absurd (by decide) h,fun h=>absurd (by decide) h,fun h=>absurd (by decide) h⟩
theorem Zl4 {l:List XN} (h:Zia l≠0) {i:Nat} {n:XN} (hg:l[i]? = some n):PlOk i n:=by
 obtain ⟨x,hx,rfl⟩:=Zmk h
 have hi:i<x.size:=by rw [← X.row_len x 0];exact (List.getElem?_eq_some_iff.1 hg).1
 obtain ⟨y,b,h1,h2,h3,h4⟩:=Zp0 x i hi;rw [h4] at hg;cases hg;exact Zk4 hx h1 h2
end Go.Hs
end

section
namespace Go.Hs
theorem Zl6 {names:List (List UInt8)}:∀ (l:List X) (i:Int) (acc:List Int),(goX names l i acc).2.2=0→(∀ y∈l,Zmb names y≠0)∧goX names l i acc=(acc++l.map (Zmb names),0,0)
 | [],i,acc,_=>⟨fun y hy=>(by cases hy),by simp [goX]⟩
 | y::r,i,acc,h=>by
  rw [goX] at h ⊢
  by_cases h1:Zmb names y=0
  ·rw [if_pos h1] at h;cases h
  ·rw [if_neg h1] at h ⊢
   obtain ⟨h2,h3⟩:=Zl6 r (i+1) _ h;refine ⟨fun z hz=>?_,by rw [h3];simp⟩
   cases hz with
   | head=>exact h1
   | tail _ hz=>exact h2 z hz
theorem Zyp {x y:X} (h:y∈Zcc x):∃ b,Sub x y b:=by
 obtain ⟨i,hi,e⟩:=List.mem_iff_getElem.1 h;obtain ⟨z,b,h1,h2,h3,h4⟩:=Zp0 x i (by rw [← Zdb];exact hi);rw [List.getElem?_eq_getElem hi,e] at h3;cases h3;exact ⟨b,h1⟩
theorem Sub.mem {x y:X} {b:Nat} (h:Sub x y b):y∈Zcc x:=List.mem_of_getElem? h.get
def Zjo (b:Int) (n:XN):XN:={ n with a:=max (-1) (n.a-b),b:=max (-1) (n.b-b),c:=max (-1) (n.c-b) }
theorem Zse:∀ (y:X) (b c:Int),0≤b→0≤c→(y.row (b+c)).map (Zjo b)=y.row c
 | .leaf op num name,b,c,hb,hc=>by
  have:max (-1) (-1-b)=(-1:Int):=by omega
  simp only [X.row,List.map_cons,List.map_nil,Zjo,this]
 | .un op a,b,c,hb,hc=>by
  have e1:max (-1) (-1-b)=(-1:Int):=by omega
  have hp:=a.size_pos
  have e2:max (-1) (b+c+a.size-1-b)=c+a.size-1:=by omega
  simp only [X.row,List.map_append,List.map_cons,List.map_nil,Zjo,e1,e2,Zse a b c hb hc]
 | .bin op x y,b,c,hb,hc=>by
  have e1:max (-1) (-1-b)=(-1:Int):=by omega
  have hp:=x.size_pos;have hp2:=y.size_pos
  have e2:max (-1) (b+c+x.size-1-b)=c+x.size-1:=by omega
  have e3:max (-1) (b+c+x.size+y.size-1-b)=c+x.size+y.size-1:=by omega
  have i2:=Zse y b (c+x.size) hb (by omega);rw [← Int.add_assoc] at i2;simp only [X.row,List.map_append,List.map_cons,List.map_nil,Zjo,e1,e2,e3,Zse x b c hb hc,i2]
 | .ite x y z,b,c,hb,hc=>by
  have hp:=x.size_pos;have hp2:=y.size_pos;have hp3:=z.size_pos
  have e2:max (-1) (b+c+x.size-1-b)=c+x.size-1:=by omega
  have e3:max (-1) (b+c+x.size+y.size-1-b)=c+x.size+y.size-1:=by omega
  have e4:max (-1) (b+c+x.size+y.size+z.size-1-b)=c+x.size+y.size+z.size-1:=by omega
  have i2:=Zse y b (c+x.size) hb (by omega);rw [← Int.add_assoc] at i2;have i3:=Zse z b (c+x.size+y.size) hb (by omega);rw [← Int.add_assoc,← Int.add_assoc] at i3;simp only [X.row,List.map_append,List.map_cons,List.map_nil,Zjo,e2,e3,e4,Zse x b c hb hc,i2,i3]
theorem Sub.shift {x y:X} {b:Nat} (h:Sub x y b):(((x.row 0).drop b).take y.size).map (Zjo b)=y.row 0:=by
 obtain ⟨pre,post,e,hb⟩:=h.at (Zif x);rw [Nat.zero_add] at hb e;have hl:(y.row ((b:Nat):Int)).length=y.size:=y.row_len _
 have ht:((x.row 0).drop b).take y.size=y.row (b:Nat):=by
  rw [e,List.append_assoc,← hb,List.drop_left,← hl,hb,List.take_left]
 rw [ht];have:=Zse y b 0 (by omega) (by omega);rw [Int.add_zero] at this;exact this
end Go.Hs
end

section
namespace Go.Hs
theorem kd_two (nm:Bool) (a b c:Int):kd 2 nm a b c=if nm=true then 1 else 0:=by
 unfold kd
 cases nm<;>simp
def NmIn (x:X) (t:List UInt8):Prop:=∃ num,X.leaf 2 num t∈Zcc x
theorem NmIn.sub {x y:X} {b:Nat} (h:Sub x y b) {t:List UInt8} (ht:NmIn y t):NmIn x t:=by
 obtain ⟨n,q⟩:=ht;obtain ⟨c,hc⟩:=Zyp q;exact ⟨n,(h.trans hc).mem⟩
end Go.Hs
end

section
namespace Go.Hs
inductive EV where
 | err (e:Int)
 | num (n:Int)
 | tru (b:Bool)
 deriving DecidableEq,Inhabited
namespace EV
def kind:EV→Int
 | err _=>0
 | num _=>1
 | tru _=>2
def nm:EV→Int
 | num n=>n
 | _=>0
def tr:EV→Bool
 | tru b=>b
 | _=>false
def er:EV→Int
 | err e=>e
 | _=>0
def need (k:Int):EV→EV
 | err e=>err e
 | v=>if k≠0∧v.kind≠k then err 90 else v
def onN (f:Int→EV):EV→EV
 | err e=>err e
 | num n=>f n
 | tru _=>err 90
def onB (f:Bool→EV):EV→EV
 | err e=>err e
 | num _=>err 90
 | tru b=>f b
def ofR (r:Int × Int):EV:=if r.2=0 then num r.1 else err r.2
def fine:EV→Prop
 | err e=>e=60∨e=61∨e=90
 | num n=>Z0b n=true
 | tru _=>True
end EV
def Zvc (env:List (List UInt8 × Int)) (s:List UInt8):Option Int:=(env.find? fun p=>p.1==s).map (·.2)
def Zti (op a b:Int):Int × Int :=
 if op=7 then Go.Hs.told (a * b) else if op=8 then Zs3 a b else if op=9 then Zp3 a b else if op=10 then Go.Hs.told (a+b) else Go.Hs.told (a-b)
def cmpV (op a b:Int):Bool:=if op=12 then decide (a<b) else if op=13 then decide (a≤b) else if op=14 then decide (a > b) else decide (a≥b)
def Zvj (op:Int):EV→EV→EV
 | .err e,_ => .err e
 | _,.err e => .err e
 | x,y=>if x.kind=y.kind then .tru ((x==y)==(op==16)) else .err 90
def Zge (op:Int) (x y:EV):EV:=x.onB fun a =>
 if op=18∧a=false then .tru false else if op=19∧a=true∨op=21∧a=false then .tru true
 else y.onB fun b => .tru (if op=20 then a != b else b)
def Zud (op:Int) (x y:EV):EV :=
 if op≤11 then x.onN fun a=>y.onN fun b => .ofR (Zti op a b)
 else if op≤15 then x.onN fun a=>y.onN fun b => .tru (cmpV op a b)
 else if op≤17 then Zvj op x y else Zge op x y
def Zbu (op:Int) (x:EV):EV:=if op=5 then x.onN fun a => .ofR (Go.Hs.told (-a)) else x.onB fun b => .tru (!b)
def Zvd (env:List (List UInt8 × Int)) (op num:Int) (name:List UInt8):EV :=
 if op=1 then .num num else if op=2 then (match Zvc env name with | some v => .num v | none => .err 90) else .tru (op==3)
def evX (env:List (List UInt8 × Int)):X→EV
 | .leaf op num name=>Zvd env op num name
 | .un op a=>Zbu op (evX env a)
 | .bin op a b=>Zud op (evX env a) (evX env b)
 | .ite a b c=>(evX env a).onB fun t=>if t=true then evX env b else evX env c
theorem Ztg (x:Int):(EV.ofR (Go.Hs.told x)).fine:=by
 unfold Go.Hs.told EV.ofR
 by_cases h:Z0b x=true
 ·rw [if_pos h];exact h
 ·rw [if_neg h];exact .inl rfl
theorem Zl5 (a b:Int):(EV.ofR (Zs3 a b)).fine:=by
 unfold Zs3
 split
 ·exact .inr (.inl rfl)
 ·exact Ztg _
theorem Zt4 (a b:Int):(EV.ofR (Zp3 a b)).fine:=by
 unfold Zp3
 split
 ·exact .inr (.inl rfl)
 ·exact Ztg _
theorem Ziz (op a b:Int):(EV.ofR (Zti op a b)).fine:=by
 unfold Zti
 repeat' split
 all_goals first | exact Ztg _ | exact Zl5 _ _ | exact Zt4 _ _
theorem Zfj {x:EV} {f:Int→EV} (h:x.fine) (hf:∀ n,Z0b n=true→(f n).fine):(x.onN f).fine:=by
 cases x with
 | err e=>exact h
 | num n=>exact hf n h
 | tru b=>exact .inr (.inr rfl)
theorem Zml {x:EV} {f:Bool→EV} (h:x.fine) (hf:∀ n,(f n).fine):(x.onB f).fine:=by
 cases x with
 | err e=>exact h
 | num n=>exact .inr (.inr rfl)
 | tru b=>exact hf b
theorem Zoz {op:Int} {x y:EV} (hx:x.fine) (hy:y.fine):(Zvj op x y).fine:=by
 cases x<;>cases y<;>simp only [Zvj]<;>first | exact hx | exact hy | (split<;>first | trivial | exact .inr (.inr rfl))
theorem Zt5 {op:Int} {x y:EV} (hx:x.fine) (hy:y.fine):(Zud op x y).fine:=by
 unfold Zud
 split
 ·exact Zfj hx fun a _=>Zfj hy fun b _=>Ziz _ _ _
 split
 ·exact Zfj hx fun a _=>Zfj hy fun b _=>trivial
 split
 ·exact Zoz hx hy
 ·refine Zml hx fun a=>?_
  split
  ·trivial
  split
  ·trivial
  ·exact Zml hy fun b=>trivial
theorem Zw1 {env:List (List UInt8 × Int)} {s:List UInt8} {v:Int} (h:Zvc env s=some v):∃ p∈env,p.1=s∧p.2=v:=by
 unfold Zvc at h
 cases hf:env.find? (fun p=>p.1==s) with
 | none=>rw [hf] at h;cases h
 | some p =>
  rw [hf] at h;have:=List.find?_some hf;exact ⟨p,List.mem_of_find?_eq_some hf,by simpa using this,by simpa using h⟩
theorem Za0 {n:XN} (h:Zxc n=true):0≤n.num:=by
 unfold Zxc at h
 split at h
 ·cases h
 ·rename_i h0;simp only [not_or,Int.not_lt] at h0;exact h0.2.2
theorem ev_kind {env:List (List UInt8 × Int)}:∀ {x:X},x.ok=true→(∀ y∈Zcc x,Zmb (env.map (·.1)) y≠0) →
  (evX env x).kind=Zmb (env.map (·.1)) x∨evX env x = .err 60∨evX env x = .err 61:=by
 intro x
 induction x with
 | leaf op num name =>
  intro h hk;have hk:=hk (.leaf op num name) (by simp [Zcc]);simp only [X.ok,Bool.and_eq_true,decide_eq_true_eq] at h;have hr:=(Zxd h.1).1;simp only at hr
  left
  simp only [Zmb] at hk ⊢
  show (Zvd env op num name).kind=_
  unfold Zvd
  by_cases h1:op=1
  ·subst h1;simp [EV.kind,kd]
  by_cases h2:op=2
  ·subst h2
   rw [kd_two] at hk ⊢
   have hc:(env.map (·.1)).contains name=true:=by
    apply Classical.byContradiction;intro hh;rw [if_neg hh] at hk;exact hk rfl
   rw [if_pos hc,if_neg (by decide),if_pos rfl];simp only [List.contains_eq_mem,List.mem_map,decide_eq_true_eq] at hc;obtain ⟨p,hp,rfl⟩:=hc
   cases hl:Zvc env p.1 with
   | some v=>rfl
   | none =>
    unfold Zvc at hl;rw [Option.map_eq_none_iff,List.find?_eq_none] at hl;exact absurd (by simp) (hl p hp)
  ·rw [if_neg h1,if_neg h2]
   simp only [EV.kind,kd];rw [if_neg (by simp [h1,h2]),if_pos (by omega)]
 | un op a ih =>
  intro h hk;simp only [X.ok,Bool.and_eq_true,decide_eq_true_eq] at h;have ha:=ih h.2 fun y hy=>hk y (by simp [Zcc,hy]);have hk:=hk (.un op a) (by simp [Zcc]);have hra:=Zli (env.map (·.1)) a;simp only [Zmb] at hk ⊢
  show (Zbu op (evX env a)).kind=_∨Zbu op (evX env a)=_∨Zbu op (evX env a)=_
  unfold Zbu
  obtain h5 | h6:op=5∨op=6:=by omega
  ·subst h5
   rw [if_pos rfl];generalize Zmb (env.map (·.1)) a=ka at *
   have hka:ka=1:=by unfold kd at hk;simp at hk;exact hk
   subst hka
   rcases ha with h1 | h1 | h1
   ·generalize evX env a=v at *
    cases v with
    | num n =>
     simp only [EV.onN];have hf:=Ztg (-n);unfold Go.Hs.told EV.ofR at hf ⊢
     by_cases hfit:Z0b (-n)=true
     ·rw [if_pos hfit];left;simp [EV.kind,kd]
     ·rw [if_neg hfit];right;left;rfl
    | err e=>simp [EV.kind] at h1
    | tru b=>simp [EV.kind] at h1
   ·rw [h1];right;left;rfl
   ·rw [h1];right;right;rfl
  ·subst h6
   rw [if_neg (by decide)];generalize Zmb (env.map (·.1)) a=ka at *
   have hka:ka=2:=by unfold kd at hk;simp at hk;exact hk
   subst hka
   rcases ha with h1 | h1 | h1
   ·generalize evX env a=v at *
    cases v with
    | tru n=>left;simp [EV.onB,EV.kind,kd]
    | err e=>simp [EV.kind] at h1
    | num b=>simp [EV.kind] at h1
   ·rw [h1];right;left;rfl
   ·rw [h1];right;right;rfl
 | bin op a b iha ihb =>
  intro h hk;simp only [X.ok,Bool.and_eq_true,decide_eq_true_eq] at h;have ha:=iha h.1.2 fun y hy=>hk y (by simp [Zcc,hy]);have hb:=ihb h.2 fun y hy=>hk y (by simp [Zcc,hy]);have hk:=hk (.bin op a b) (by simp [Zcc]);simp only [Zmb] at hk ⊢
  show (Zud op (evX env a) (evX env b)).kind=_∨Zud op (evX env a) (evX env b)=_∨Zud op (evX env a) (evX env b)=_
  generalize Zmb (env.map (·.1)) a=ka at *;generalize Zmb (env.map (·.1)) b=kb at *;generalize evX env a=v at *;generalize evX env b=u at *;unfold Zud
  by_cases h11:op≤11
  ·rw [if_pos h11]
   obtain ⟨rfl,rfl⟩:ka=1∧kb=1:=by
    unfold kd at hk;rw [if_neg (by omega),if_neg (by omega)] at hk
    split at hk
    ·omega
    ·rw [if_neg (by omega),if_neg (by omega),if_neg (by omega)] at hk;exact absurd rfl hk
   have hkd:kd op ((env.map (·.1)).contains []) 1 1 0=1:=by
    unfold kd;rw [if_neg (by omega),if_neg (by omega),if_pos (by omega)]
   rw [hkd]
   rcases ha with h1 | h1 | h1
   ·cases v with
    | err e=>simp [EV.kind] at h1
    | tru b=>simp [EV.kind] at h1
    | num m =>
     rcases hb with h2 | h2 | h2
     ·cases u with
      | err e=>simp [EV.kind] at h2
      | tru b=>simp [EV.kind] at h2
      | num n =>
       simp only [EV.onN]
       have hq:(Zti op m n).2=0∨(Zti op m n).2=60∨(Zti op m n).2=61:=by
        have ht:∀ x,(Go.Hs.told x).2=0∨(Go.Hs.told x).2=60∨(Go.Hs.told x).2=61:=by intro x;unfold Go.Hs.told;split<;>simp
        unfold Zti Zs3 Zp3
        repeat' split
        all_goals first | exact ht _ | exact .inr (.inr rfl)
       unfold EV.ofR
       rcases hq with q | q | q
       ·rw [if_pos q];exact .inl rfl
       ·rw [if_neg (by omega),q];exact .inr (.inl rfl)
       ·rw [if_neg (by omega),q];exact .inr (.inr rfl)
     ·rw [h2];exact .inr (.inl rfl)
     ·rw [h2];exact .inr (.inr rfl)
   ·rw [h1];exact .inr (.inl rfl)
   ·rw [h1];exact .inr (.inr rfl)
  rw [if_neg h11]
  by_cases h15:op≤15
  ·rw [if_pos h15]
   obtain ⟨rfl,rfl⟩:ka=1∧kb=1:=by
    unfold kd at hk;rw [if_neg (by omega),if_neg (by omega),if_neg (by omega)] at hk
    split at hk
    ·omega
    ·rw [if_neg (by omega),if_neg (by omega)] at hk;exact absurd rfl hk
   have hkd:kd op ((env.map (·.1)).contains []) 1 1 0=2:=by
    unfold kd;rw [if_neg (by omega),if_neg (by omega),if_neg (by omega),if_pos (by omega)]
   rw [hkd]
   rcases ha with h1 | h1 | h1
   ·cases v with
    | err e=>simp [EV.kind] at h1
    | tru b=>simp [EV.kind] at h1
    | num m =>
     rcases hb with h2 | h2 | h2
     ·cases u with
      | err e=>simp [EV.kind] at h2
      | tru b=>simp [EV.kind] at h2
      | num n=>exact .inl rfl
     ·rw [h2];exact .inr (.inl rfl)
     ·rw [h2];exact .inr (.inr rfl)
   ·rw [h1];exact .inr (.inl rfl)
   ·rw [h1];exact .inr (.inr rfl)
  rw [if_neg h15]
  by_cases h17:op≤17
  ·rw [if_pos h17]
   obtain ⟨rfl,h0⟩:ka=kb∧ka≠0:=by
    unfold kd at hk;rw [if_neg (by omega),if_neg (by omega),if_neg (by omega)] at hk
    split at hk
    ·omega
    ·rw [if_neg (by omega),if_neg (by omega)] at hk;exact absurd rfl hk
   have hkd:kd op ((env.map (·.1)).contains []) ka ka 0=2:=by
    unfold kd;rw [if_neg (by omega),if_neg (by omega),if_neg (by omega),if_pos (by omega)]
   rw [hkd]
   rcases ha with h1 | h1 | h1
   ·rcases hb with h2 | h2 | h2
    ·cases v<;>cases u<;>simp only [EV.kind] at h1 h2<;>first | omega | (left;simp [Zvj,EV.kind])
    ·rw [h2];cases v<;>simp only [EV.kind] at h1<;>first | omega | exact .inr (.inl rfl)
    ·rw [h2];cases v<;>simp only [EV.kind] at h1<;>first | omega | exact .inr (.inr rfl)
   ·rw [h1];exact .inr (.inl rfl)
   ·rw [h1];exact .inr (.inr rfl)
  rw [if_neg h17]
  obtain ⟨rfl,rfl⟩:ka=2∧kb=2:=by
   unfold kd at hk;rw [if_neg (by omega),if_neg (by omega),if_neg (by omega),if_neg (by omega)] at hk
   split at hk
   ·omega
   ·rw [if_neg (by omega)] at hk;exact absurd rfl hk
  have hkd:kd op ((env.map (·.1)).contains []) 2 2 0=2:=by
   unfold kd;rw [if_neg (by omega),if_neg (by omega),if_neg (by omega),if_neg (by omega),if_pos (by omega)]
  rw [hkd];unfold Zge
  rcases ha with h1 | h1 | h1
  ·cases v with
   | err e=>simp [EV.kind] at h1
   | num b=>simp [EV.kind] at h1
   | tru m =>
    simp only [EV.onB]
    split
    ·exact .inl rfl
    split
    ·exact .inl rfl
    rcases hb with h2 | h2 | h2
    ·cases u with
     | err e=>simp [EV.kind] at h2
     | num b=>simp [EV.kind] at h2
     | tru n=>exact .inl rfl
    ·rw [h2];exact .inr (.inl rfl)
    ·rw [h2];exact .inr (.inr rfl)
  ·rw [h1];exact .inr (.inl rfl)
  ·rw [h1];exact .inr (.inr rfl)
 | ite a b c iha ihb ihc =>
  intro h hk;simp only [X.ok,Bool.and_eq_true] at h;have ha:=iha h.1.1 fun y hy=>hk y (by simp [Zcc,hy]);have hb:=ihb h.1.2 fun y hy=>hk y (by simp [Zcc,hy]);have hc:=ihc h.2 fun y hy=>hk y (by simp [Zcc,hy]);have hk:=hk (.ite a b c) (by simp [Zcc]);simp only [Zmb] at hk ⊢
  obtain ⟨k1,k2⟩:Zmb (env.map (·.1)) a=2∧Zmb (env.map (·.1)) b=Zmb (env.map (·.1)) c:=by
   unfold kd at hk;rw [if_neg (by omega),if_neg (by omega),if_neg (by omega),if_neg (by omega),if_neg (by omega)] at hk
   split at hk
   ·omega
   ·exact absurd rfl hk
  have hkd:kd 22 ((env.map (·.1)).contains []) (Zmb (env.map (·.1)) a) (Zmb (env.map (·.1)) b) (Zmb (env.map (·.1)) c)=Zmb (env.map (·.1)) b:=by
   unfold kd;rw [if_neg (by omega),if_neg (by omega),if_neg (by omega),if_neg (by omega),if_neg (by omega),if_pos (by omega)]
  rw [hkd]
  have he:evX env (.ite a b c)=(evX env a).onB fun t=>if t=true then evX env b else evX env c:=rfl
  rw [he];rw [k1] at ha
  rcases ha with h1 | h1 | h1
  ·generalize evX env a=v at *
   cases v with
   | err e=>simp [EV.kind] at h1
   | num b=>simp [EV.kind] at h1
   | tru m =>
    cases m
    ·simp only [EV.onB,Bool.false_eq_true,if_false];rw [k2];exact hc
    ·simp only [EV.onB,if_true];exact hb
  ·rw [h1];exact .inr (.inl rfl)
  ·rw [h1];exact .inr (.inr rfl)
theorem Zfx {env env':List (List UInt8 × Int)}:∀ {x:X},(∀ t,NmIn x t→Zvc env t=Zvc env' t)→evX env x=evX env' x:=by
 intro x
 induction x with
 | leaf op num name =>
  intro h
  show Zvd env op num name=Zvd env' op num name
  unfold Zvd
  by_cases h2:op=2
  ·subst h2;rw [h name ⟨num,by simp [Zcc]⟩]
  ·rw [if_neg h2,if_neg h2]
 | un op a ih =>
  intro h
  show Zbu op _=Zbu op _
  rw [ih fun t ⟨n,ht⟩=>h t ⟨n,by simp [Zcc,ht]⟩]
 | bin op a b iha ihb =>
  intro h
  show Zud op _ _=Zud op _ _
  rw [iha fun t ⟨n,ht⟩=>h t ⟨n,by simp [Zcc,ht]⟩,ihb fun t ⟨n,ht⟩=>h t ⟨n,by simp [Zcc,ht]⟩]
 | ite a b c iha ihb ihc =>
  intro h
  show (evX env a).onB _=(evX env' a).onB _
  rw [iha fun t ⟨n,ht⟩=>h t ⟨n,by simp [Zcc,ht]⟩,ihb fun t ⟨n,ht⟩=>h t ⟨n,by simp [Zcc,ht]⟩,ihc fun t ⟨n,ht⟩=>h t ⟨n,by simp [Zcc,ht]⟩]
theorem Zxy {env:List (List UInt8 × Int)} {s t:List UInt8} {v:Int} (h:s≠t):Zvc ((s,v)::env) t=Zvc env t:=by
 unfold Zvc;rw [List.find?_cons_of_neg (by simpa using h)]
end Go.Hs
end

section
namespace Go.Hs
open Go.Proofs
set_option maxRecDepth 10000
def Zka (v:EV):V := .agg [.int .u8 v.kind,.int .i64 v.nm,.bool v.tr]
def Zhv (e:Int):V := .iface 152 (.agg [.int .i64 e])
def Zf6 (x:EV):V→Heap→Prop:=fun v _=>∃ e,x = .err e∧v=Zhv e
def Zo3 (x:EV):V→Heap→Prop:=fun v _=>(∀ e,x ≠ .err e)∧v=Zka x
theorem Zs1 (v:V):mkIfV Tryz.prog 152 v=some (.iface 152 v):=by
 unfold mkIfV;rw [Tryz.underlying152]
theorem Zae (G:Nat→V) (e:Int):SpecP Tryz.prog G (some fun v _=>e≠0∧v=Zhv e) 93 [.int .i64 e] Zu (fun v _=>e=0∧v = .tuple []):=by
 refine Z9a 0 7 [] Tryz.func93 rfl rfl rfl rfl fun X=>?_
 by_cases h0:e=0
 ·have h1:(e != 0)=false:=by simpa using h0
  refine Z1f h1 ?_;refine Zd (b:=false) zp (fun h=>by cases h) (fun _=>?_);refine Z0 ?_;refine Zk ⟨h0,rfl⟩
 ·have h1:(e != 0)=true:=by simpa using h0
  refine Z1f h1 ?_;refine Zd (b:=true) zp (fun _=>?_) (fun h=>by cases h);refine Z1f @Zs1 ?_;exact ⟨h0,rfl⟩
theorem Z7c (G:Nat→V) (b:Bool):Spec Tryz.prog G 131 [.bool b] Zu (fun v _=>v=Zka (.tru b)):=by
 refine Zo 0 5 [.cell 2 34] Tryz.func131 fun X=>?_;refine Z1 ?_;intro g2;exact Zr
def Zg4 (op:Int):Nat:=if op=7 then 154 else if op=8 then 155 else if op=9 then 156 else if op=10 then 157 else 158
def Zp5 (op:Int):Nat:=if op=12 then 159 else if op=13 then 160 else if op=14 then 161 else 162
def fnV (f:Nat):V := .func (.func f) [] []
def Zvf:V := .mapv [.int .u8 7,.int .u8 8,.int .u8 9,.int .u8 10,.int .u8 11] [fnV 154,fnV 155,fnV 156,fnV 157,fnV 158]
def Zlg:V := .mapv [.int .u8 12,.int .u8 13,.int .u8 14,.int .u8 15] [fnV 159,fnV 160,fnV 161,fnV 162]
theorem Zbs (G:Nat→V):Spec Tryz.prog G 129 [] Zu (fun v _=>v=Zvf):=by
 refine Zo 0 3 [.tmp 0] Tryz.func129 fun X=>?_;refine Z1 ?_;refine Z4 (by kernel_rfl) ?_;simp -implicitDefEqProofs only[go_sem,seval,↓reduceIte,Zyg Tryz.underlying232 Tryz.underlying5,Zf3,Zad,Zjm,Nat.le_refl,List.cons_append,List.nil_append];intro b;refine AW.weak (Zrk 1 [(0,Zvf)] [] zp (Nat.le_refl _) (by simp -implicitDefEqProofs only[go_sem,seval,↓reduceIte];exact .inr ⟨rfl,rfl⟩) trivial) ?_;exact Zr
theorem Z9p (G:Nat→V):Spec Tryz.prog G 130 [] Zu (fun v _=>v=Zlg):=by
 refine Zo 0 3 [.tmp 0] Tryz.func130 fun X=>?_;refine Z1 ?_;refine Z4 (by kernel_rfl) ?_;simp -implicitDefEqProofs only[go_sem,seval,↓reduceIte,Zyg Tryz.underlying236 Tryz.underlying5,Zf3,Zad,Zjm,Nat.le_refl,List.cons_append,List.nil_append];intro b;refine AW.weak (Zrk 1 [(0,Zlg)] [] zp (Nat.le_refl _) (by simp -implicitDefEqProofs only[go_sem,seval,↓reduceIte];exact .inr ⟨rfl,rfl⟩) trivial) ?_;exact Zr
def Z7b (m:List (List UInt8 × Int)):List V:=m.map fun p=>V.str p.1
def Zgc (m:List (List UInt8 × Int)):List V:=m.map fun p=>V.int .i64 p.2
def lkV (c1 c2:Col) (sl:Sl XN) (m:List (List UInt8 × Int)):V := .view c1 (.agg [Zb c2 6 Zw sl,.mapv (Z7b m) (Zgc m)])
@[go_sem] theorem recol_env (f:Col→Col) (m:List (List UInt8 × Int)):V.recol f (.mapv (Z7b m) (Zgc m)) = .mapv (Z7b m) (Zgc m):=by
 have h1:Zqa f (Z7b m)=Z7b m:=by rw [Zz];unfold Z7b;rw [List.map_map];exact List.map_congr_left fun p _=>rfl
 have h2:Zqa f (Zgc m)=Zgc m:=by rw [Zz];unfold Zgc;rw [List.map_map];exact List.map_congr_left fun p _=>rfl
 simp only [V.recol,h1,h2]
theorem Zdx (s:List UInt8):∀ m:List (List UInt8 × Int),Zmg .string (.str s) (Z7b m) (Zgc m)=some ((Zvc m s).map (V.int .i64))
 | []=>rfl
 | p::r=>by
  have ih:=Zdx s r
  show (if s=p.1 then some (some (V.int .i64 p.2)) else Zmg .string (.str s) (Z7b r) (Zgc r))=_
  by_cases h:s=p.1
  ·rw [if_pos h]
   unfold Zvc;rw [List.find?_cons_of_pos (by simpa using h.symm)]
   try rfl
  ·rw [if_neg h,ih]
   unfold Zvc;rw [List.find?_cons_of_neg (by simpa using fun hh=>h hh.symm)]
theorem Zw4 (s:List UInt8) (m:List (List UInt8 × Int)):Zjj Tryz.prog 155 (.mapv (Z7b m) (Zgc m)) (.str s) true=some (match Zvc m s with | some n => .tuple [.int .i64 n,.bool true] | none => .tuple [.int .i64 0,.bool false]):=by
 unfold Zjj;rw [Tryz.underlying155];simp only [Zbv,Tryz.underlying9,Zdx]
 cases Zvc m s with
 | some n=>rfl
 | none=>rfl
theorem Zl1 (G:Nat→V) (hG:GOk G) (c1 c2:Col) (sl:Sl XN) (m:List (List UInt8 × Int)) (s:List UInt8) :
  SpecP Tryz.prog G (some fun v _=>Zvc m s=none∧v=Zhv 90) 132 [lkV c1 c2 sl m,.str s] Zu (fun v _=>∃ n,Zvc m s=some n∧v = .int .i64 n):=by
 refine Z9a 0 20 [.tmp 4] Tryz.func132 rfl rfl rfl rfl fun X=>?_;refine Z1 ?_;have hl:=Zw4 s m
 cases hm:Zvc m s with
 | some n =>
  rw [hm] at hl;refine Z4 (by kernel_rfl) ?_;simp -implicitDefEqProofs only[go_sem,seval,↓reduceIte,lkV,hl];refine Z ?_;exact ⟨n,rfl,rfl⟩
 | none =>
  rw [hm] at hl;refine Z4 (by kernel_rfl) ?_;simp -implicitDefEqProofs only[go_sem,seval,↓reduceIte,lkV,hl];refine Z1 ?_;refine Zd rfl (fun h2=>?_) (fun h2=>?_)
  ·refine Z1 ?_
   refine Z3 hG (by kernel_rfl) (Zae G 90) rfl (fun v H' h=>by rw [h.2]<;>rfl) fun v H' h=>absurd h.1 (by decide)
  ·cases h2
end Go.Hs
end

section
namespace Go.Hs
open Go.Proofs
set_option maxRecDepth 10000
theorem Zzc {x:EV} {e:Int} (f:Int→EV) (h:x.need 1 = .err e):x.onN f = .err e:=by
 cases x with
 | err e'=>exact h
 | num n=>simp [EV.need,EV.kind] at h
 | tru b=>simp [EV.need,EV.kind] at h;subst h;rfl
theorem Zef {x:EV} (h:∀ e,x.need 1 ≠ .err e):∃ n,x = .num n:=by
 cases x with
 | err e'=>exact absurd rfl (h e')
 | num n=>exact ⟨n,rfl⟩
 | tru b=>exact absurd rfl (h 90)
theorem Z6a {x:EV} {e:Int} (f:Bool→EV) (h:x.need 2 = .err e):x.onB f = .err e:=by
 cases x with
 | err e'=>exact h
 | tru n=>simp [EV.need,EV.kind] at h
 | num b=>simp [EV.need,EV.kind] at h;subst h;rfl
theorem Zkb {x:EV} (h:∀ e,x.need 2 ≠ .err e):∃ n,x = .tru n:=by
 cases x with
 | err e'=>exact absurd rfl (h e')
 | tru n=>exact ⟨n,rfl⟩
 | num b=>exact absurd rfl (h 90)
theorem Zek (x:EV):x.need 0=x:=by cases x<;>rfl
theorem Z2m (n:Int):Zka (.num n) = .agg [.int .u8 1,.int .i64 n,.bool false]:=rfl
theorem Zjc (b:Bool):Zka (.tru b) = .agg [.int .u8 2,.int .i64 0,.bool b]:=rfl
theorem Z9d (n:Int):(EV.num n).need 1 = .num n:=rfl
theorem Zxa (b:Bool):(EV.tru b).need 2 = .tru b:=rfl
def Znc (m:List (List UInt8 × Int)) (n:XN) (A B C:EV):EV :=
 if n.op≤4 then Zvd m n.op n.num n.name else if n.op≤6 then Zbu n.op A else if n.op≤21 then Zud n.op A B else A.onB fun t=>if t=true then B else C
def OfC (G:Nat→V) (sl:Sl XN) (m:List (List UInt8 × Int)) (a:Int) (x:EV):Prop:=∀ c1 c2 (k:Int),0≤k∧k≤2→SpecP Tryz.prog G (some (Zf6 (x.need k))) 67 [lkV c1 c2 sl m,.int .i64 a,.int .u8 k] Zu (Zo3 (x.need k))
theorem Zv4 {op:Int} (h:7≤op∧op≤11):Zjj Tryz.prog 232 Zvf (.int .u8 op) true=some (.tuple [fnV (Zg4 op),.bool true]):=by
 obtain rfl | rfl | rfl | rfl | rfl:op=7∨op=8∨op=9∨op=10∨op=11:=by omega
 all_goals
  unfold Zjj;rw [Tryz.underlying232];simp only [Zbv,Zvf,Tryz.underlying5];rfl
theorem Zzg {op:Int} (h:¬ (7≤op∧op≤11)):Zjj Tryz.prog 232 Zvf (.int .u8 op) true=some (.tuple [.nilf,.bool false]):=by
 unfold Zjj;rw [Tryz.underlying232];simp only [Zbv,Zvf,Tryz.underlying5]
 have:Zmg (.int .u8) (.int .u8 op) [.int .u8 7,.int .u8 8,.int .u8 9,.int .u8 10,.int .u8 11] [fnV 154,fnV 155,fnV 156,fnV 157,fnV 158]=some none:=by
  simp only [Zmg,if_true]
  repeat rw [if_neg (by omega)]
 rw [this]
 try rfl
theorem Zx4 {op:Int} (h:12≤op∧op≤15):Zjj Tryz.prog 236 Zlg (.int .u8 op) true=some (.tuple [fnV (Zp5 op),.bool true]):=by
 obtain rfl | rfl | rfl | rfl:op=12∨op=13∨op=14∨op=15:=by omega
 all_goals
  unfold Zjj;rw [Tryz.underlying236];simp only [Zbv,Zlg,Tryz.underlying5];rfl
theorem Zij {op:Int} (h:¬ (12≤op∧op≤15)):Zjj Tryz.prog 236 Zlg (.int .u8 op) true=some (.tuple [.nilf,.bool false]):=by
 unfold Zjj;rw [Tryz.underlying236];simp only [Zbv,Zlg,Tryz.underlying5]
 have:Zmg (.int .u8) (.int .u8 op) [.int .u8 12,.int .u8 13,.int .u8 14,.int .u8 15] [fnV 159,fnV 160,fnV 161,fnV 162]=some none:=by
  simp only [Zmg,if_true]
  repeat rw [if_neg (by omega)]
 rw [this]
 try rfl
theorem Zza {n:Int} (h:Z0b n=true):InK .i64 n:=by
 unfold Z0b at h;have h:=of_decide_eq_true h;exact h
theorem Zf4 (G:Nat→V) (hG:GOk G) {op a b:Int} (h:7≤op∧op≤11) (ha:Z0b a=true) (hb:Z0b b=true):Zng Tryz.prog G (Zg4 op) [.int .i64 a,.int .i64 b] (Zpg (Zti op a b)):=by
 have ha:=Zza ha;have hb:=Zza hb
 obtain rfl | rfl | rfl | rfl | rfl:op=7∨op=8∨op=9∨op=10∨op=11:=by omega
 ·exact ⟨by kernel_rfl,(Zn1 G hG a b ha hb).mono fun v _ hv=>by subst hv;rfl⟩
 ·exact ⟨by kernel_rfl,(Zp1 G hG a b ha hb).mono fun v _ hv=>by subst hv;rfl⟩
 ·exact ⟨by kernel_rfl,(Zo1 G hG a b ha hb).mono fun v _ hv=>by subst hv;rfl⟩
 ·exact ⟨by kernel_rfl,(Zq1 G hG a b ha hb).mono fun v _ hv=>by subst hv;rfl⟩
 ·exact ⟨by kernel_rfl,(Zls G hG a b ha hb).mono fun v _ hv=>by subst hv;rfl⟩
theorem lt_spec (G:Nat→V) (a b:Int):Spec Tryz.prog G 159 [.int .i64 a,.int .i64 b] Zu (fun v _=>v = .bool (decide (a<b))):=by
 refine Zo 0 8 [.tmp 4] Tryz.func159 fun X=>?_;exact Zr
theorem le_spec (G:Nat→V) (a b:Int):Spec Tryz.prog G 160 [.int .i64 a,.int .i64 b] Zu (fun v _=>v = .bool (decide (a≤b))):=by
 refine Zo 0 8 [.tmp 4] Tryz.func160 fun X=>?_;exact Zr
theorem gt_spec (G:Nat→V) (a b:Int):Spec Tryz.prog G 161 [.int .i64 a,.int .i64 b] Zu (fun v _=>v = .bool (decide (a > b))):=by
 refine Zo 0 8 [.tmp 4] Tryz.func161 fun X=>?_;exact Zr
theorem ge_spec (G:Nat→V) (a b:Int):Spec Tryz.prog G 162 [.int .i64 a,.int .i64 b] Zu (fun v _=>v = .bool (decide (a≥b))):=by
 refine Zo 0 8 [.tmp 4] Tryz.func162 fun X=>?_;exact Zr
theorem Zo5 (G:Nat→V) {op a b:Int} (h:12≤op∧op≤15):Zng Tryz.prog G (Zp5 op) [.int .i64 a,.int .i64 b] (.bool (cmpV op a b)):=by
 obtain rfl | rfl | rfl | rfl:op=12∨op=13∨op=14∨op=15:=by omega
 ·exact ⟨by kernel_rfl,(lt_spec G a b).mono fun v _ hv=>by subst hv;rfl⟩
 ·exact ⟨by kernel_rfl,(le_spec G a b).mono fun v _ hv=>by subst hv;rfl⟩
 ·exact ⟨by kernel_rfl,(gt_spec G a b).mono fun v _ hv=>by subst hv;rfl⟩
 ·exact ⟨by kernel_rfl,(ge_spec G a b).mono fun v _ hv=>by subst hv;rfl⟩
theorem Zpf (G:Nat→V) (b:Bool):Zng Tryz.prog G 131 [.bool b] (Zka (.tru b)):=⟨by kernel_rfl,(Z7c G b).mono fun v _ hv=>by subst hv;rfl⟩
theorem Zak (G:Nat→V):Zng Tryz.prog G 129 [] Zvf:=⟨by kernel_rfl,(Zbs G).mono fun v _ hv=>by subst hv;rfl⟩
theorem Z9m (G:Nat→V):Zng Tryz.prog G 130 [] Zlg:=⟨by kernel_rfl,(Z9p G).mono fun v _ hv=>by subst hv;rfl⟩
end Go.Hs
end

section
namespace Go.Hs
open Go.Proofs
set_option maxRecDepth 10000
set_option maxHeartbeats 1000000
theorem Z6z (G:Nat→V) (hG:GOk G) (c1 c2:Col) (sl:Sl XN) (m:List (List UInt8 × Int)) (n:XN) (A B C:EV) (ho:7≤n.op∧n.op≤11) (hA:OfC G sl m n.a A) (hB:OfC G sl m n.b B) (fA:A.fine) (fB:B.fine) :
  SpecP Tryz.prog G (some (Zf6 (Znc m n A B C))) 92 [lkV c1 c2 sl m,Zw n] Zu (Zo3 (Znc m n A B C)):=by
 have hN:Znc m n A B C=A.onN fun a=>B.onN fun b => .ofR (Zti n.op a b):=by
  unfold Znc Zud;rw [if_neg (by omega),if_neg (by omega),if_pos (by omega),if_pos (by omega)]
 rw [hN];refine Z9a 0 200 [.cell 4 34] Tryz.func92 rfl rfl rfl rfl fun X=>?_;refine Z4 (by kernel_rfl) ?_;simp -implicitDefEqProofs only[go_sem,seval,↓reduceIte,Zj,lkV];intro g3 g4;refine AW.weak (Z7 (fun o=>o==3) (l:=[(0,.view c1 (.agg [Zb c2 6 Zw sl,.mapv (Z7b m) (Zgc m)])),(3,.view .new (.agg [.int .u8 n.op,.int .i64 n.num,.str n.name,.int .i64 n.a,.int .i64 n.b,.int .i64 n.c])),(4,.ptr 4 g4 0)]) (m:=[(4,.cells .new g4 0 [.int .u8 0,.int .i64 0,.bool false])]) ?_ ?_) ?_
 ·simp -implicitDefEqProofs only[go_sem,seval,↓reduceIte,Zj,lkV]
  exact ⟨Zl _,Fz.ptr (v := .agg [.int .u8 n.op,.int .i64 n.num,.str n.name,.int .i64 n.a,.int .i64 n.b,.int .i64 n.c]) (c := .new) (fz:=0) rfl zp,Zl _⟩
 ·simp only [Zy,Z2,and_true]
  exact FzO.keep rfl zp
 refine Zv ?_
 refine Zv <| Zx ⟨fun i=>if i=0 then Zvf else .top,fun i=>if i=2 then .lend else .pure⟩ (by kernel_rfl) hG (by kernel_rfl) (by kernel_rfl) ?_
 simp -implicitDefEqProofs only[go_sem,seval,↓reduceIte,Zv4 ho,Zak];refine Z1 ?_;refine Zfa rfl ?_;refine AW.weak (Zg (l:=[(0,.view c1 (.agg [Zb c2 6 Zw sl,.mapv (Z7b m) (Zgc m)])),(3,.view .new (.agg [.int .u8 n.op,.int .i64 n.num,.str n.name,.int .i64 n.a,.int .i64 n.b,.int .i64 n.c])),(4,.ptr 4 g4 0),(5,fnV (Zg4 n.op))]) (m:=[(4,.cells .new g4 0 [.int .u8 0,.int .i64 0,.bool false])]) zp zp) ?_;refine Z1 ?_;refine Z3 hG (by kernel_rfl) (hA c1.ent c2.ent 1 (by decide)) (by simp -implicitDefEqProofs only[go_sem,seval,↓reduceIte,lkV]) ?_ ?_
 ·rintro v H' ⟨e,he,rfl⟩
  exact ⟨e,Zzc _ he,rfl⟩
 rintro v H' ⟨hne,rfl⟩;obtain ⟨a,rfl⟩:=Zef hne;rw [Z9d,Z2m];refine Zs ?_;intro g7;refine AW.weak (Z7 (fun o=>o==7) (l:=[(0,.view c1 (.agg [Zb c2 6 Zw sl,.mapv (Z7b m) (Zgc m)])),(3,.view .new (.agg [.int .u8 n.op,.int .i64 n.num,.str n.name,.int .i64 n.a,.int .i64 n.b,.int .i64 n.c])),(4,.ptr 4 g4 0),(5,fnV (Zg4 n.op)),(7,.view .new (.agg [.int .u8 1,.int .i64 a,.bool false]))]) (m:=[(4,.cells .new g4 0 [.int .u8 0,.int .i64 0,.bool false])]) ?_ ?_) ?_
 ·refine Zs ?_
  refine ⟨Zl _,Zl _,Zl _,Zl _,?_⟩;exact Fz.ptr (v := .agg [.int .u8 1,.int .i64 a,.bool false]) (c := .new) (fz:=0) rfl zp
 ·simp only [Zy,Z2,and_true]
  exact FzO.keep rfl zp
 by_cases hBe:∃ e,B.need 1 = .err e
 ·obtain ⟨e,he⟩:=hBe
  refine Zv <| Zx ⟨fun _ => .top,fun i=>if i=2 then .lend else if i=5 then .lend else if i=6 then .any else .pure⟩ (by kernel_rfl) hG (by kernel_rfl) (by kernel_rfl) ?_
  refine Zs ?_;refine Z3 hG (by kernel_rfl) (hB c1.ent c2.ent 1 (by decide)) (by simp -implicitDefEqProofs only[go_sem,seval,↓reduceIte,lkV]) ?_ fun v H' h=>absurd he (h.1 e);rintro v H' ⟨e,he,rfl⟩;exact ⟨e,(show B.onN _ = .err e from Zzc _ he),rfl⟩
 have hBe:=fun e he=>hBe ⟨e,he⟩;obtain ⟨b,rfl⟩:=Zef hBe
 refine Zv <| Zx ⟨fun i=>if i=8 then Zpg (Zti n.op a b) else .top,fun i=>if i=2 then .lend else if i=5 then .lend else if i=6 then .any else .pure⟩ (by kernel_rfl) hG (by kernel_rfl) (by kernel_rfl) ?_
 refine Zs ?_;refine Z3 hG (by kernel_rfl) (hB c1.ent c2.ent 1 (by decide)) (by simp -implicitDefEqProofs only[go_sem,seval,↓reduceIte,lkV]) (fun v H' ⟨e,he,_⟩=>absurd he (hBe e)) ?_;rintro v H' ⟨_,rfl⟩;rw [Z9d,Z2m];simp -implicitDefEqProofs only[go_sem,seval,↓reduceIte,fnV,Zpg];refine ⟨Zf4 G hG ho fA fB,?_⟩;refine AW.weak (Zg (l:=[(4,.ptr 4 g4 0),(8,.int .i64 (Zti n.op a b).1),(9,.int .i64 (Zti n.op a b).2)]) (m:=[(4,.cells .new g4 0 [.int .u8 0,.int .i64 0,.bool false])]) zp zp) ?_;generalize hr:Zti n.op a b=r
 have hR:(EV.num a).onN (fun a=>(EV.num b).onN fun b => .ofR (Zti n.op a b))=if r.2=0 then .num r.1 else .err r.2:=by simp only [EV.onN,EV.ofR,hr]
 rw [hR];generalize hv:(if r.2=0 then EV.num r.1 else .err r.2)=v0;refine Z1 ?_;refine Z3 hG (by kernel_rfl) (Zae G r.2) rfl ?_ ?_
 ·rintro v H' ⟨h0,rfl⟩
  exact ⟨r.2,by rw [← hv,if_neg h0],rfl⟩
 rintro v H' ⟨h0,rfl⟩;rw [if_pos h0] at hv;refine Zs ?_;refine Z ?_;subst hv;exact ⟨(fun e h=>by cases h),rfl⟩
theorem Z8z (G:Nat→V) (hG:GOk G) (c1 c2:Col) (sl:Sl XN) (m:List (List UInt8 × Int)) (n:XN) (A B C:EV) (ho:12≤n.op∧n.op≤15) (hA:OfC G sl m n.a A) (hB:OfC G sl m n.b B) :
  SpecP Tryz.prog G (some (Zf6 (Znc m n A B C))) 92 [lkV c1 c2 sl m,Zw n] Zu (Zo3 (Znc m n A B C)):=by
 have hN:Znc m n A B C=A.onN fun a=>B.onN fun b => .tru (cmpV n.op a b):=by
  unfold Znc Zud;rw [if_neg (by omega),if_neg (by omega),if_pos (by omega),if_neg (by omega),if_pos (by omega)]
 rw [hN];refine Z9a 0 200 [.cell 4 34] Tryz.func92 rfl rfl rfl rfl fun X=>?_;refine Z4 (by kernel_rfl) ?_;simp -implicitDefEqProofs only[go_sem,seval,↓reduceIte,Zj,lkV];intro g3 g4;refine AW.weak (Z7 (fun o=>o==3) (l:=[(0,.view c1 (.agg [Zb c2 6 Zw sl,.mapv (Z7b m) (Zgc m)])),(3,.view .new (.agg [.int .u8 n.op,.int .i64 n.num,.str n.name,.int .i64 n.a,.int .i64 n.b,.int .i64 n.c])),(4,.ptr 4 g4 0)]) (m:=[(4,.cells .new g4 0 [.int .u8 0,.int .i64 0,.bool false])]) ?_ ?_) ?_
 ·simp -implicitDefEqProofs only[go_sem,seval,↓reduceIte,Zj,lkV]
  exact ⟨Zl _,Fz.ptr (v := .agg [.int .u8 n.op,.int .i64 n.num,.str n.name,.int .i64 n.a,.int .i64 n.b,.int .i64 n.c]) (c := .new) (fz:=0) rfl zp,Zl _⟩
 ·simp only [Zy,Z2,and_true]
  exact FzO.keep rfl zp
 refine Zv ?_
 refine Zv <| Zx ⟨fun i=>if i=0 then Zvf else .top,fun i=>if i=2 then .lend else .pure⟩ (by kernel_rfl) hG (by kernel_rfl) (by kernel_rfl) ?_
 simp -implicitDefEqProofs only[go_sem,seval,↓reduceIte,Zzg (op:=n.op) (by omega),Zak];refine Z1 ?_;refine Z0 ?_;refine Zv ?_
 refine Zv <| Zx ⟨fun i=>if i=0 then Zlg else .top,fun i=>if i=2 then .lend else .pure⟩ (by kernel_rfl) hG (by kernel_rfl) (by kernel_rfl) ?_
 simp -implicitDefEqProofs only[go_sem,seval,↓reduceIte,Zx4 ho,Z9m];refine Z1 ?_;refine Zfa rfl ?_;refine AW.weak (Zg (l:=[(0,.view c1 (.agg [Zb c2 6 Zw sl,.mapv (Z7b m) (Zgc m)])),(3,.view .new (.agg [.int .u8 n.op,.int .i64 n.num,.str n.name,.int .i64 n.a,.int .i64 n.b,.int .i64 n.c])),(4,.ptr 4 g4 0),(10,fnV (Zp5 n.op))]) (m:=[(4,.cells .new g4 0 [.int .u8 0,.int .i64 0,.bool false])]) zp zp) ?_;refine Z1 ?_;refine Z3 hG (by kernel_rfl) (hA c1.ent c2.ent 1 (by decide)) (by simp -implicitDefEqProofs only[go_sem,seval,↓reduceIte,lkV]) ?_ ?_
 ·rintro v H' ⟨e,he,rfl⟩
  exact ⟨e,Zzc _ he,rfl⟩
 rintro v H' ⟨hne,rfl⟩;obtain ⟨a,rfl⟩:=Zef hne;rw [Z9d,Z2m];refine Zs ?_;intro g12;refine AW.weak (Z7 (fun o=>o==12) (l:=[(0,.view c1 (.agg [Zb c2 6 Zw sl,.mapv (Z7b m) (Zgc m)])),(3,.view .new (.agg [.int .u8 n.op,.int .i64 n.num,.str n.name,.int .i64 n.a,.int .i64 n.b,.int .i64 n.c])),(4,.ptr 4 g4 0),(10,fnV (Zp5 n.op)),(12,.view .new (.agg [.int .u8 1,.int .i64 a,.bool false]))]) (m:=[(4,.cells .new g4 0 [.int .u8 0,.int .i64 0,.bool false])]) ?_ ?_) ?_
 ·refine Zs ?_
  refine ⟨Zl _,Zl _,Zl _,Zl _,?_⟩;exact Fz.ptr (v := .agg [.int .u8 1,.int .i64 a,.bool false]) (c := .new) (fz:=0) rfl zp
 ·simp only [Zy,Z2,and_true]
  exact FzO.keep rfl zp
 by_cases hBe:∃ e,B.need 1 = .err e
 ·obtain ⟨e,he⟩:=hBe
  refine Zv <| Zx ⟨fun _ => .top,fun i=>if i=2 then .lend else if i=5 then .lend else if i=6 then .any else .pure⟩ (by kernel_rfl) hG (by kernel_rfl) (by kernel_rfl) ?_
  refine Zs ?_;refine Z3 hG (by kernel_rfl) (hB c1.ent c2.ent 1 (by decide)) (by simp -implicitDefEqProofs only[go_sem,seval,↓reduceIte,lkV]) ?_ fun v H' h=>absurd he (h.1 e);rintro v H' ⟨e,he,rfl⟩;exact ⟨e,(show B.onN _ = .err e from Zzc _ he),rfl⟩
 have hBe:=fun e he=>hBe ⟨e,he⟩;obtain ⟨b,rfl⟩:=Zef hBe
 refine Zv <| Zx ⟨fun i=>if i=8 then .bool (cmpV n.op a b) else if i=9 then Zka (.tru (cmpV n.op a b)) else .top,fun i=>if i=2 then .lend else if i=5 then .lend else if i=6 then .any else .pure⟩ (by kernel_rfl) hG (by kernel_rfl) (by kernel_rfl) ?_
 refine Zs ?_;refine Z3 hG (by kernel_rfl) (hB c1.ent c2.ent 1 (by decide)) (by simp -implicitDefEqProofs only[go_sem,seval,↓reduceIte,lkV]) (fun v H' ⟨e,he,_⟩=>absurd he (hBe e)) ?_;rintro v H' ⟨_,rfl⟩;rw [Z9d,Z2m,Zjc];simp -implicitDefEqProofs only[go_sem,seval,↓reduceIte,fnV];refine ⟨Zo5 G ho,Zpf G _,?_⟩;refine Z ?_;exact ⟨(fun e h=>by cases h),rfl⟩
theorem Zux (G:Nat→V) (hG:GOk G) (c1 c2:Col) (sl:Sl XN) (m:List (List UInt8 × Int)) (n:XN) (A B C:EV) (ho:1≤n.op∧n.op≤4) :
  SpecP Tryz.prog G (some (Zf6 (Znc m n A B C))) 92 [lkV c1 c2 sl m,Zw n] Zu (Zo3 (Znc m n A B C)):=by
 have hN:Znc m n A B C=Zvd m n.op n.num n.name:=by unfold Znc;rw [if_pos (by omega)]
 rw [hN];refine Z9a 0 200 [.cell 4 34] Tryz.func92 rfl rfl rfl rfl fun X=>?_;refine Z4 (by kernel_rfl) ?_;simp -implicitDefEqProofs only[go_sem,seval,↓reduceIte,Zj,lkV];intro g3 g4;refine AW.weak (Z7 (fun o=>o==3) (l:=[(0,.view c1 (.agg [Zb c2 6 Zw sl,.mapv (Z7b m) (Zgc m)])),(3,.view .new (.agg [.int .u8 n.op,.int .i64 n.num,.str n.name,.int .i64 n.a,.int .i64 n.b,.int .i64 n.c])),(4,.ptr 4 g4 0)]) (m:=[(4,.cells .new g4 0 [.int .u8 0,.int .i64 0,.bool false])]) ?_ ?_) ?_
 ·simp -implicitDefEqProofs only[go_sem,seval,↓reduceIte,Zj,lkV]
  exact ⟨Zl _,Fz.ptr (v := .agg [.int .u8 n.op,.int .i64 n.num,.str n.name,.int .i64 n.a,.int .i64 n.b,.int .i64 n.c]) (c := .new) (fz:=0) rfl zp,Zl _⟩
 ·simp only [Zy,Z2,and_true]
  exact FzO.keep rfl zp
 refine Zi fun K1 hK1=>?_
 refine Zv <| Zx ⟨fun i=>if i=0 then Zvf else .top,fun i=>if i=2 then .lend else .pure⟩ (by kernel_rfl) hG (by kernel_rfl) (by kernel_rfl) ?_
 simp -implicitDefEqProofs only[go_sem,seval,↓reduceIte,Zzg (op:=n.op) (by omega),Zak];refine Z1 ?_;refine Z0 ?_;refine hK1 _ ?_
 try clear hK1 K1
 refine Zi fun K1 hK1=>?_
 refine Zv <| Zx ⟨fun i=>if i=0 then Zlg else .top,fun i=>if i=2 then .lend else .pure⟩ (by kernel_rfl) hG (by kernel_rfl) (by kernel_rfl) ?_
 simp -implicitDefEqProofs only[go_sem,seval,↓reduceIte,Zij (op:=n.op) (by omega),Z9m];refine Z1 ?_;refine Z0 ?_;refine hK1 _ ?_
 try clear hK1 K1
 refine AW.weak (Zg (l:=[(0,.view c1 (.agg [Zb c2 6 Zw sl,.mapv (Z7b m) (Zgc m)])),(3,.view .new (.agg [.int .u8 n.op,.int .i64 n.num,.str n.name,.int .i64 n.a,.int .i64 n.b,.int .i64 n.c])),(4,.ptr 4 g4 0)]) (m:=[(4,.cells .new g4 0 [.int .u8 0,.int .i64 0,.bool false])]) zp zp) ?_;obtain ⟨op,num,name,na,nb,nc⟩:=n;simp only at ho ⊢
 obtain rfl | rfl | rfl | rfl:op=1∨op=2∨op=3∨op=4:=by omega
 ·refine Z ?_
  exact ⟨(fun e h=>by cases h),rfl⟩
 ·refine Z ?_
  refine Z3 hG (by kernel_rfl) (Zl1 G hG c1.ent c2.ent sl m name) (by simp -implicitDefEqProofs only[go_sem,seval,↓reduceIte,lkV]) ?_ ?_
  ·rintro v H' ⟨h0,rfl⟩
   exact ⟨90,by unfold Zvd;rw [h0]<;>rfl,rfl⟩
  rintro v H' ⟨k,h0,rfl⟩;refine Zs ?_;refine Z ?_
  have hv:Zvd m 2 num name = .num k:=by unfold Zvd;rw [h0]<;>rfl
  rw [hv];exact ⟨(fun e h=>by cases h),rfl⟩
 ·refine Z ?_
  refine Zqd (CallA.pure hG (by kernel_rfl) ?_);refine Zs ?_;refine (Z7c G _).mono ?_;rintro _ _ rfl;rw [Zjc];refine Zs ?_;refine Z ?_;exact ⟨(fun e h=>by cases h),rfl⟩
 ·refine Z ?_
  refine Zqd (CallA.pure hG (by kernel_rfl) ?_);refine Zs ?_;refine (Z7c G _).mono ?_;rintro _ _ rfl;rw [Zjc];refine Zs ?_;refine Z ?_;exact ⟨(fun e h=>by cases h),rfl⟩
theorem Z7z (G:Nat→V) (hG:GOk G) (c1 c2:Col) (sl:Sl XN) (m:List (List UInt8 × Int)) (n:XN) (A B C:EV) (ho:n.op=5) (hA:OfC G sl m n.a A) (fA:A.fine) :
  SpecP Tryz.prog G (some (Zf6 (Znc m n A B C))) 92 [lkV c1 c2 sl m,Zw n] Zu (Zo3 (Znc m n A B C)):=by
 have hN:Znc m n A B C=A.onN fun a => .ofR (Go.Hs.told (-a)):=by unfold Znc Zbu;rw [if_neg (by omega),if_pos (by omega),if_pos ho]
 rw [hN];refine Z9a 0 200 [.cell 4 34] Tryz.func92 rfl rfl rfl rfl fun X=>?_;refine Z4 (by kernel_rfl) ?_;simp -implicitDefEqProofs only[go_sem,seval,↓reduceIte,Zj,lkV];intro g3 g4;refine AW.weak (Z7 (fun o=>o==3) (l:=[(0,.view c1 (.agg [Zb c2 6 Zw sl,.mapv (Z7b m) (Zgc m)])),(3,.view .new (.agg [.int .u8 n.op,.int .i64 n.num,.str n.name,.int .i64 n.a,.int .i64 n.b,.int .i64 n.c])),(4,.ptr 4 g4 0)]) (m:=[(4,.cells .new g4 0 [.int .u8 0,.int .i64 0,.bool false])]) ?_ ?_) ?_
 ·simp -implicitDefEqProofs only[go_sem,seval,↓reduceIte,Zj,lkV]
  exact ⟨Zl _,Fz.ptr (v := .agg [.int .u8 n.op,.int .i64 n.num,.str n.name,.int .i64 n.a,.int .i64 n.b,.int .i64 n.c]) (c := .new) (fz:=0) rfl zp,Zl _⟩
 ·simp only [Zy,Z2,and_true]
  exact FzO.keep rfl zp
 refine Zi fun K1 hK1=>?_
 refine Zv <| Zx ⟨fun i=>if i=0 then Zvf else .top,fun i=>if i=2 then .lend else .pure⟩ (by kernel_rfl) hG (by kernel_rfl) (by kernel_rfl) ?_
 simp -implicitDefEqProofs only[go_sem,seval,↓reduceIte,Zzg (op:=n.op) (by omega),Zak];refine Z1 ?_;refine Z0 ?_;refine hK1 _ ?_
 try clear hK1 K1
 refine Zi fun K1 hK1=>?_
 refine Zv <| Zx ⟨fun i=>if i=0 then Zlg else .top,fun i=>if i=2 then .lend else .pure⟩ (by kernel_rfl) hG (by kernel_rfl) (by kernel_rfl) ?_
 simp -implicitDefEqProofs only[go_sem,seval,↓reduceIte,Zij (op:=n.op) (by omega),Z9m];refine Z1 ?_;refine Z0 ?_;refine hK1 _ ?_
 try clear hK1 K1
 refine AW.weak (Zg (l:=[(0,.view c1 (.agg [Zb c2 6 Zw sl,.mapv (Z7b m) (Zgc m)])),(3,.view .new (.agg [.int .u8 n.op,.int .i64 n.num,.str n.name,.int .i64 n.a,.int .i64 n.b,.int .i64 n.c])),(4,.ptr 4 g4 0)]) (m:=[(4,.cells .new g4 0 [.int .u8 0,.int .i64 0,.bool false])]) zp zp) ?_;obtain ⟨op,num,name,na,nb,nc⟩:=n;simp only at ho hA ⊢;subst ho;refine Z ?_;refine Z3 hG (by kernel_rfl) (hA c1.ent c2.ent 1 (by decide)) (by simp -implicitDefEqProofs only[go_sem,seval,↓reduceIte,lkV]) ?_ ?_
 ·rintro v H' ⟨e,he,rfl⟩
  exact ⟨e,Zzc _ he,rfl⟩
 rintro v H' ⟨hne,rfl⟩;obtain ⟨a,rfl⟩:=Zef hne;rw [Z9d,Z2m];refine Zs ?_;refine Zqd (CallA.pure hG (by kernel_rfl) ?_);refine Zs ?_;refine (Zm1 G hG a (Zza fA)).mono ?_;rintro _ _ rfl;simp -implicitDefEqProofs only[go_sem,seval,↓reduceIte,Zpg];generalize hr:Go.Hs.told (-a)=r
 have hR:(EV.num a).onN (fun a=>EV.ofR (Go.Hs.told (-a)))=if r.2=0 then .num r.1 else .err r.2:=by simp only [EV.onN,EV.ofR,hr]
 rw [hR];generalize hv:(if r.2=0 then EV.num r.1 else .err r.2)=v0;refine Z ?_;refine Z3 hG (by kernel_rfl) (Zae G r.2) rfl ?_ ?_
 ·rintro v H' ⟨h0,rfl⟩
  exact ⟨r.2,by rw [← hv,if_neg h0],rfl⟩
 rintro v H' ⟨h0,rfl⟩;rw [if_pos h0] at hv;refine Zs ?_;refine Z ?_;subst hv;exact ⟨(fun e h=>by cases h),rfl⟩
theorem Z5j (G:Nat→V) (hG:GOk G) (c1 c2:Col) (sl:Sl XN) (m:List (List UInt8 × Int)) (n:XN) (A B C:EV) (ho:n.op=6∨18≤n.op∧n.op≤22) (hA:OfC G sl m n.a A) (hB:n.op≠6→OfC G sl m n.b B) (hC:n.op=22→OfC G sl m n.c C) :
  SpecP Tryz.prog G (some (Zf6 (Znc m n A B C))) 92 [lkV c1 c2 sl m,Zw n] Zu (Zo3 (Znc m n A B C)):=by
 have hN:Znc m n A B C=A.onB fun a=>Znc m n (.tru a) B C:=by
  unfold Znc
  rcases ho with ho | ho
  ·rw [if_neg (by omega),if_pos (by omega)]
   cases A<;>simp only [Zbu,if_neg (show ¬ n.op=5 by omega),EV.onB,if_neg (show ¬ n.op≤4 by omega),if_pos (show n.op≤6 by omega)]
  ·rw [if_neg (by omega),if_neg (by omega)]
   by_cases h22:n.op≤21
   ·rw [if_pos h22]
    unfold Zud;rw [if_neg (by omega),if_neg (by omega),if_neg (by omega)]
    cases A<;>simp only [Zge,EV.onB,if_neg (show ¬ n.op≤4 by omega),if_neg (show ¬ n.op≤6 by omega),if_pos h22,if_neg (show ¬ n.op≤11 by omega),if_neg (show ¬ n.op≤15 by omega),if_neg (show ¬ n.op≤17 by omega)]
   ·rw [if_neg h22]
    cases A<;>simp only [EV.onB,if_neg (show ¬ n.op≤4 by omega),if_neg (show ¬ n.op≤6 by omega),if_neg h22]
 rw [hN]
 try clear hN
 refine Z9a 0 200 [.cell 4 34] Tryz.func92 rfl rfl rfl rfl fun X=>?_;refine Z4 (by kernel_rfl) ?_;simp -implicitDefEqProofs only[go_sem,seval,↓reduceIte,Zj,lkV];intro g3 g4;refine AW.weak (Z7 (fun o=>o==3) (l:=[(0,.view c1 (.agg [Zb c2 6 Zw sl,.mapv (Z7b m) (Zgc m)])),(3,.view .new (.agg [.int .u8 n.op,.int .i64 n.num,.str n.name,.int .i64 n.a,.int .i64 n.b,.int .i64 n.c])),(4,.ptr 4 g4 0)]) (m:=[(4,.cells .new g4 0 [.int .u8 0,.int .i64 0,.bool false])]) ?_ ?_) ?_
 ·simp -implicitDefEqProofs only[go_sem,seval,↓reduceIte,Zj,lkV]
  exact ⟨Zl _,Fz.ptr (v := .agg [.int .u8 n.op,.int .i64 n.num,.str n.name,.int .i64 n.a,.int .i64 n.b,.int .i64 n.c]) (c := .new) (fz:=0) rfl zp,Zl _⟩
 ·simp only [Zy,Z2,and_true]
  exact FzO.keep rfl zp
 refine Zi fun K1 hK1=>?_
 refine Zv <| Zx ⟨fun i=>if i=0 then Zvf else .top,fun i=>if i=2 then .lend else .pure⟩ (by kernel_rfl) hG (by kernel_rfl) (by kernel_rfl) ?_
 simp -implicitDefEqProofs only[go_sem,seval,↓reduceIte,Zzg (op:=n.op) (by omega),Zak];refine Z1 ?_;refine Z0 ?_;refine hK1 _ ?_
 try clear hK1 K1
 refine Zi fun K1 hK1=>?_
 refine Zv <| Zx ⟨fun i=>if i=0 then Zlg else .top,fun i=>if i=2 then .lend else .pure⟩ (by kernel_rfl) hG (by kernel_rfl) (by kernel_rfl) ?_
 simp -implicitDefEqProofs only[go_sem,seval,↓reduceIte,Zij (op:=n.op) (by omega),Z9m];refine Z1 ?_;refine Z0 ?_;refine hK1 _ ?_
 try clear hK1 K1
 refine AW.weak (Zg (l:=[(0,.view c1 (.agg [Zb c2 6 Zw sl,.mapv (Z7b m) (Zgc m)])),(3,.view .new (.agg [.int .u8 n.op,.int .i64 n.num,.str n.name,.int .i64 n.a,.int .i64 n.b,.int .i64 n.c])),(4,.ptr 4 g4 0)]) (m:=[(4,.cells .new g4 0 [.int .u8 0,.int .i64 0,.bool false])]) zp zp) ?_;obtain ⟨op,num,name,na,nb,nc⟩:=n;simp only at ho hA hB hC ⊢
 obtain rfl | rfl | rfl | rfl | rfl | rfl:op=6∨op=18∨op=19∨op=20∨op=21∨op=22:=by omega
 all_goals
  refine Z ?_;refine Z3 hG (by kernel_rfl) (hA c1.ent c2.ent 2 (by decide)) (by simp -implicitDefEqProofs only[go_sem,seval,↓reduceIte,lkV]) ?_ ?_
  ·rintro v H' ⟨e,he,rfl⟩
   exact ⟨e,Z6a _ he,rfl⟩
  rintro v H' ⟨hne,rfl⟩;obtain ⟨a,rfl⟩:=Zkb hne;rw [Zxa,Zjc];refine Zs ?_;refine AW.weak (Zg (l:=[(0,.view c1 (.agg [Zb c2 6 Zw sl,.mapv (Z7b m) (Zgc m)])),(3,.view .new (.agg [.int .u8 _,.int .i64 num,.str name,.int .i64 na,.int .i64 nb,.int .i64 nc])),(4,.ptr 4 g4 0),(17,.bool a)]) (m:=[(4,.cells .new g4 0 [.int .u8 0,.int .i64 0,.bool false])]) zp zp) ?_
  try clear hA hne
 ·refine Z ?_
  refine Zqd (CallA.pure hG (by kernel_rfl) ?_);refine Zs ?_;refine (Z7c G _).mono ?_;rintro _ _ rfl;rw [Zjc];refine Zs ?_;refine Z ?_;exact ⟨(fun e h=>by cases h),rfl⟩
 ·cases a
  ·refine Z ?_
   refine Zqd (CallA.pure hG (by kernel_rfl) ?_);refine Zs ?_;refine (Z7c G _).mono ?_;rintro _ _ rfl;rw [Zjc];refine Zs ?_;refine Z ?_;exact ⟨(fun e h=>by cases h),rfl⟩
  ·have hR:(EV.tru true).onB (fun a=>Znc m ⟨18,num,name,na,nb,nc⟩ (.tru a) B C)=B.onB fun b => .tru b:=rfl
   rw [hR];refine Z ?_;refine Z3 hG (by kernel_rfl) ((hB (by decide)) c1.ent c2.ent 2 (by decide)) (by simp -implicitDefEqProofs only[go_sem,seval,↓reduceIte,lkV]) ?_ ?_
   ·rintro v H' ⟨e,he,rfl⟩
    exact ⟨e,Z6a _ he,rfl⟩
   rintro v H' ⟨hne,rfl⟩;obtain ⟨b,rfl⟩:=Zkb hne;rw [Zxa,Zjc];refine Zs ?_;refine Z ?_;exact ⟨(fun e h=>by cases h),rfl⟩
 ·cases a
  ·have hR:(EV.tru false).onB (fun a=>Znc m ⟨19,num,name,na,nb,nc⟩ (.tru a) B C)=B.onB fun b => .tru b:=rfl
   rw [hR];refine Z ?_;refine Z3 hG (by kernel_rfl) ((hB (by decide)) c1.ent c2.ent 2 (by decide)) (by simp -implicitDefEqProofs only[go_sem,seval,↓reduceIte,lkV]) ?_ ?_
   ·rintro v H' ⟨e,he,rfl⟩
    exact ⟨e,Z6a _ he,rfl⟩
   rintro v H' ⟨hne,rfl⟩;obtain ⟨b,rfl⟩:=Zkb hne;rw [Zxa,Zjc];refine Zs ?_;refine Z ?_;exact ⟨(fun e h=>by cases h),rfl⟩
  ·refine Z ?_
   refine Zqd (CallA.pure hG (by kernel_rfl) ?_);refine Zs ?_;refine (Z7c G _).mono ?_;rintro _ _ rfl;rw [Zjc];refine Zs ?_;refine Z ?_;exact ⟨(fun e h=>by cases h),rfl⟩
 ·have hR:(EV.tru a).onB (fun a=>Znc m ⟨20,num,name,na,nb,nc⟩ (.tru a) B C)=B.onB fun b => .tru (a != b):=by cases a<;>rfl
  rw [hR];refine Z ?_;refine Z3 hG (by kernel_rfl) ((hB (by decide)) c1.ent c2.ent 2 (by decide)) (by simp -implicitDefEqProofs only[go_sem,seval,↓reduceIte,lkV]) ?_ ?_
  ·rintro v H' ⟨e,he,rfl⟩
   exact ⟨e,Z6a _ he,rfl⟩
  rintro v H' ⟨hne,rfl⟩;obtain ⟨b,rfl⟩:=Zkb hne;rw [Zxa,Zjc];refine Zs ?_;refine Zqd (CallA.pure hG (by kernel_rfl) ?_);refine Zs ?_;refine (Z7c G _).mono ?_;rintro _ _ rfl;rw [Zjc];refine Zs ?_;refine Z ?_;exact ⟨(fun e h=>by cases h),rfl⟩
 ·cases a
  ·refine Z ?_
   refine Zqd (CallA.pure hG (by kernel_rfl) ?_);refine Zs ?_;refine (Z7c G _).mono ?_;rintro _ _ rfl;rw [Zjc];refine Zs ?_;refine Z ?_;exact ⟨(fun e h=>by cases h),rfl⟩
  ·have hR:(EV.tru true).onB (fun a=>Znc m ⟨21,num,name,na,nb,nc⟩ (.tru a) B C)=B.onB fun b => .tru b:=rfl
   rw [hR];refine Z ?_;refine Z3 hG (by kernel_rfl) ((hB (by decide)) c1.ent c2.ent 2 (by decide)) (by simp -implicitDefEqProofs only[go_sem,seval,↓reduceIte,lkV]) ?_ ?_
   ·rintro v H' ⟨e,he,rfl⟩
    exact ⟨e,Z6a _ he,rfl⟩
   rintro v H' ⟨hne,rfl⟩;obtain ⟨b,rfl⟩:=Zkb hne;rw [Zxa,Zjc];refine Zs ?_;refine Z ?_;exact ⟨(fun e h=>by cases h),rfl⟩
 ·cases a
  ·have hR:(EV.tru false).onB (fun a=>Znc m ⟨22,num,name,na,nb,nc⟩ (.tru a) B C)=C:=rfl
   rw [hR];refine Z ?_;refine Z3 hG (by kernel_rfl) ((hC rfl) c1.ent c2.ent 0 (by decide)) (by simp -implicitDefEqProofs only[go_sem,seval,↓reduceIte,lkV]) ?_ ?_
   ·rintro v H' ⟨e,he,rfl⟩
    rw [Zek] at he;exact ⟨e,he,rfl⟩
   rintro v H' ⟨hne,rfl⟩;rw [Zek] at hne ⊢;simp -implicitDefEqProofs only[go_sem,seval,↓reduceIte,Zka];refine Z ?_;exact ⟨hne,rfl⟩
  ·have hR:(EV.tru true).onB (fun a=>Znc m ⟨22,num,name,na,nb,nc⟩ (.tru a) B C)=B:=rfl
   rw [hR];refine Z ?_;refine Z3 hG (by kernel_rfl) ((hB (by decide)) c1.ent c2.ent 0 (by decide)) (by simp -implicitDefEqProofs only[go_sem,seval,↓reduceIte,lkV]) ?_ ?_
   ·rintro v H' ⟨e,he,rfl⟩
    rw [Zek] at he;exact ⟨e,he,rfl⟩
   rintro v H' ⟨hne,rfl⟩;rw [Zek] at hne ⊢;simp -implicitDefEqProofs only[go_sem,seval,↓reduceIte,Zka];refine Z ?_;exact ⟨hne,rfl⟩
theorem Znn (op a b:Int):Zvj op (.num a) (.num b) = .tru ((a==b)==(op==16)):=by
 have:(EV.num a==EV.num b)=(a==b):=by rw [Bool.eq_iff_iff];simp
 show (if (1:Int)=1 then EV.tru ((EV.num a==EV.num b)==(op==16)) else EV.err 90)=_
 rw [if_pos rfl,this]
theorem Zmn (op:Int) (a b:Bool):Zvj op (.tru a) (.tru b) = .tru ((a==b)==(op==16)):=by
 have:(EV.tru a==EV.tru b)=(a==b):=by rw [Bool.eq_iff_iff];simp
 show (if (2:Int)=2 then EV.tru ((EV.tru a==EV.tru b)==(op==16)) else EV.err 90)=_
 rw [if_pos rfl,this]
theorem Zv3 (G:Nat→V) (hG:GOk G) (c1 c2:Col) (sl:Sl XN) (m:List (List UInt8 × Int)) (n:XN) (A B C:EV) (ho:16≤n.op∧n.op≤17) (hA:OfC G sl m n.a A) (hB:OfC G sl m n.b B) :
  SpecP Tryz.prog G (some (Zf6 (Znc m n A B C))) 92 [lkV c1 c2 sl m,Zw n] Zu (Zo3 (Znc m n A B C)):=by
 have hN:Znc m n A B C=Zvj n.op A B:=by
  unfold Znc Zud;rw [if_neg (by omega),if_neg (by omega),if_pos (by omega),if_neg (by omega),if_neg (by omega),if_pos (by omega)]
 rw [hN];refine Z9a 0 200 [.cell 4 34] Tryz.func92 rfl rfl rfl rfl fun X=>?_;refine Z4 (by kernel_rfl) ?_;simp -implicitDefEqProofs only[go_sem,seval,↓reduceIte,Zj,lkV];intro g3 g4;refine AW.weak (Z7 (fun o=>o==3) (l:=[(0,.view c1 (.agg [Zb c2 6 Zw sl,.mapv (Z7b m) (Zgc m)])),(3,.view .new (.agg [.int .u8 n.op,.int .i64 n.num,.str n.name,.int .i64 n.a,.int .i64 n.b,.int .i64 n.c])),(4,.ptr 4 g4 0)]) (m:=[(4,.cells .new g4 0 [.int .u8 0,.int .i64 0,.bool false])]) ?_ ?_) ?_
 ·simp -implicitDefEqProofs only[go_sem,seval,↓reduceIte,Zj,lkV]
  exact ⟨Zl _,Fz.ptr (v := .agg [.int .u8 n.op,.int .i64 n.num,.str n.name,.int .i64 n.a,.int .i64 n.b,.int .i64 n.c]) (c := .new) (fz:=0) rfl zp,Zl _⟩
 ·simp only [Zy,Z2,and_true]
  exact FzO.keep rfl zp
 refine Zi fun K1 hK1=>?_
 refine Zv <| Zx ⟨fun i=>if i=0 then Zvf else .top,fun i=>if i=2 then .lend else .pure⟩ (by kernel_rfl) hG (by kernel_rfl) (by kernel_rfl) ?_
 simp -implicitDefEqProofs only[go_sem,seval,↓reduceIte,Zzg (op:=n.op) (by omega),Zak];refine Z1 ?_;refine Z0 ?_;refine hK1 _ ?_
 try clear hK1 K1
 refine Zi fun K1 hK1=>?_
 refine Zv <| Zx ⟨fun i=>if i=0 then Zlg else .top,fun i=>if i=2 then .lend else .pure⟩ (by kernel_rfl) hG (by kernel_rfl) (by kernel_rfl) ?_
 simp -implicitDefEqProofs only[go_sem,seval,↓reduceIte,Zij (op:=n.op) (by omega),Z9m];refine Z1 ?_;refine Z0 ?_;refine hK1 _ ?_
 try clear hK1 K1
 refine AW.weak (Zg (l:=[(0,.view c1 (.agg [Zb c2 6 Zw sl,.mapv (Z7b m) (Zgc m)])),(3,.view .new (.agg [.int .u8 n.op,.int .i64 n.num,.str n.name,.int .i64 n.a,.int .i64 n.b,.int .i64 n.c])),(4,.ptr 4 g4 0)]) (m:=[(4,.cells .new g4 0 [.int .u8 0,.int .i64 0,.bool false])]) zp zp) ?_;obtain ⟨op,num,name,na,nb,nc⟩:=n;simp only at ho hA hB ⊢
 obtain rfl | rfl:op=16∨op=17:=by omega
 ·refine Z ?_
  refine Z3 hG (by kernel_rfl) (hA c1.ent c2.ent 0 (by decide)) (by simp -implicitDefEqProofs only[go_sem,seval,↓reduceIte,lkV]) ?_ ?_
  ·rintro v H' ⟨e,he,rfl⟩
   rw [Zek] at he;exact ⟨e,by rw [he]<;>rfl,rfl⟩
  rintro v H' ⟨hne,rfl⟩;rw [Zek] at hne ⊢;simp -implicitDefEqProofs only[go_sem,seval,↓reduceIte,Zka];intro g15;refine Z ?_;refine Z3 hG (by kernel_rfl) (hB c1.ent c2.ent 0 (by decide)) (by simp -implicitDefEqProofs only[go_sem,seval,↓reduceIte,lkV]) ?_ ?_
  ·rintro v H' ⟨e,he,rfl⟩
   rw [Zek] at he;refine ⟨e,?_,rfl⟩;rw [he]
   cases A with
   | err e'=>exact absurd rfl (hne e')
   | num=>rfl
   | tru=>rfl
  rintro v H' ⟨hne2,rfl⟩;rw [Zek] at hne2 ⊢;simp -implicitDefEqProofs only[go_sem,seval,↓reduceIte,Zka];intro g16;refine AW.weak (Z7 (fun o=>o==15 || o==16) (l:=[(3,.view .new (.agg [.int .u8 16,.int .i64 num,.str name,.int .i64 na,.int .i64 nb,.int .i64 nc])),(4,.ptr 4 g4 0),(15,.view .new (.agg [.int .u8 A.kind,.int .i64 A.nm,.bool A.tr])),(16,.view .new (.agg [.int .u8 B.kind,.int .i64 B.nm,.bool B.tr]))]) (m:=[(4,.cells .new g4 0 [.int .u8 0,.int .i64 0,.bool false])]) ?_ ?_) ?_
  ·refine Zs ?_
   refine ⟨Zl _,Zl _,?_,?_⟩
   ·exact Fz.ptr (v := .agg [.int .u8 A.kind,.int .i64 A.nm,.bool A.tr]) (c := .new) (fz:=0) rfl zp
   ·exact Fz.ptr (v := .agg [.int .u8 B.kind,.int .i64 B.nm,.bool B.tr]) (c := .new) (fz:=0) rfl zp
  ·simp only [Zy,Z2,and_true]
   exact FzO.keep rfl zp
  cases A with
  | err e'=>exact absurd rfl (hne e')
  | num a =>
   cases B with
   | err e'=>exact absurd rfl (hne2 e')
   | num b =>
    simp only [EV.kind,EV.nm,EV.tr];refine Z ?_;refine Zx ⟨fun i=>if i=7 then Zka (.tru ((a==b)==true)) else .top,fun i=>if i=0 then .lend else if i=1 then .lend else if i=4 then .lend else .pure⟩ (by kernel_rfl) hG (by kernel_rfl) (by kernel_rfl) ?_;refine Zsf @Zjc ?_;refine ⟨by simp only [Bool.true_and,Bool.and_true];exact Zpf G _,?_⟩;refine Z ?_;rw [Znn];exact ⟨(fun e h=>by cases h),rfl⟩
   | tru b =>
    simp only [EV.kind,EV.nm,EV.tr];refine Z ?_;exact Z3 hG (by kernel_rfl) (Zae G 90) rfl (fun v H' h=>⟨90,rfl,by rw [h.2]<;>rfl⟩) fun v H' h=>absurd h.1 (by decide)
  | tru a =>
   cases B with
   | err e'=>exact absurd rfl (hne2 e')
   | num b =>
    simp only [EV.kind,EV.nm,EV.tr];refine Z ?_;exact Z3 hG (by kernel_rfl) (Zae G 90) rfl (fun v H' h=>⟨90,rfl,by rw [h.2]<;>rfl⟩) fun v H' h=>absurd h.1 (by decide)
   | tru b =>
    simp only [EV.kind,EV.nm,EV.tr];refine Z ?_;refine Zx ⟨fun i=>if i=7 then Zka (.tru ((a==b)==true)) else .top,fun i=>if i=0 then .lend else if i=1 then .lend else if i=4 then .lend else .pure⟩ (by kernel_rfl) hG (by kernel_rfl) (by kernel_rfl) ?_;refine Zsf @Zjc ?_;refine ⟨by simp only [Bool.true_and,Bool.and_true];exact Zpf G _,?_⟩;refine Z ?_;rw [Zmn];exact ⟨(fun e h=>by cases h),rfl⟩
 ·refine Z ?_
  refine Z3 hG (by kernel_rfl) (hA c1.ent c2.ent 0 (by decide)) (by simp -implicitDefEqProofs only[go_sem,seval,↓reduceIte,lkV]) ?_ ?_
  ·rintro v H' ⟨e,he,rfl⟩
   rw [Zek] at he;exact ⟨e,by rw [he]<;>rfl,rfl⟩
  rintro v H' ⟨hne,rfl⟩;rw [Zek] at hne ⊢;simp -implicitDefEqProofs only[go_sem,seval,↓reduceIte,Zka];intro g15;refine Z ?_;refine Z3 hG (by kernel_rfl) (hB c1.ent c2.ent 0 (by decide)) (by simp -implicitDefEqProofs only[go_sem,seval,↓reduceIte,lkV]) ?_ ?_
  ·rintro v H' ⟨e,he,rfl⟩
   rw [Zek] at he;refine ⟨e,?_,rfl⟩;rw [he]
   cases A with
   | err e'=>exact absurd rfl (hne e')
   | num=>rfl
   | tru=>rfl
  rintro v H' ⟨hne2,rfl⟩;rw [Zek] at hne2 ⊢;simp -implicitDefEqProofs only[go_sem,seval,↓reduceIte,Zka];intro g16;refine AW.weak (Z7 (fun o=>o==15 || o==16) (l:=[(3,.view .new (.agg [.int .u8 17,.int .i64 num,.str name,.int .i64 na,.int .i64 nb,.int .i64 nc])),(4,.ptr 4 g4 0),(15,.view .new (.agg [.int .u8 A.kind,.int .i64 A.nm,.bool A.tr])),(16,.view .new (.agg [.int .u8 B.kind,.int .i64 B.nm,.bool B.tr]))]) (m:=[(4,.cells .new g4 0 [.int .u8 0,.int .i64 0,.bool false])]) ?_ ?_) ?_
  ·refine Zs ?_
   refine ⟨Zl _,Zl _,?_,?_⟩
   ·exact Fz.ptr (v := .agg [.int .u8 A.kind,.int .i64 A.nm,.bool A.tr]) (c := .new) (fz:=0) rfl zp
   ·exact Fz.ptr (v := .agg [.int .u8 B.kind,.int .i64 B.nm,.bool B.tr]) (c := .new) (fz:=0) rfl zp
  ·simp only [Zy,Z2,and_true]
   exact FzO.keep rfl zp
  cases A with
  | err e'=>exact absurd rfl (hne e')
  | num a =>
   cases B with
   | err e'=>exact absurd rfl (hne2 e')
   | num b =>
    simp only [EV.kind,EV.nm,EV.tr];refine Z ?_;refine Zx ⟨fun i=>if i=7 then Zka (.tru ((a==b)==false)) else .top,fun i=>if i=0 then .lend else if i=1 then .lend else if i=4 then .lend else .pure⟩ (by kernel_rfl) hG (by kernel_rfl) (by kernel_rfl) ?_;refine Zsf @Zjc ?_;refine ⟨by simp only [Bool.true_and,Bool.and_true];exact Zpf G _,?_⟩;refine Z ?_;rw [Znn];exact ⟨(fun e h=>by cases h),rfl⟩
   | tru b =>
    simp only [EV.kind,EV.nm,EV.tr];refine Z ?_;exact Z3 hG (by kernel_rfl) (Zae G 90) rfl (fun v H' h=>⟨90,rfl,by rw [h.2]<;>rfl⟩) fun v H' h=>absurd h.1 (by decide)
  | tru a =>
   cases B with
   | err e'=>exact absurd rfl (hne2 e')
   | num b =>
    simp only [EV.kind,EV.nm,EV.tr];refine Z ?_;exact Z3 hG (by kernel_rfl) (Zae G 90) rfl (fun v H' h=>⟨90,rfl,by rw [h.2]<;>rfl⟩) fun v H' h=>absurd h.1 (by decide)
   | tru b =>
    simp only [EV.kind,EV.nm,EV.tr];refine Z ?_;refine Zx ⟨fun i=>if i=7 then Zka (.tru ((a==b)==false)) else .top,fun i=>if i=0 then .lend else if i=1 then .lend else if i=4 then .lend else .pure⟩ (by kernel_rfl) hG (by kernel_rfl) (by kernel_rfl) ?_;refine Zsf @Zjc ?_;refine ⟨by simp only [Bool.true_and,Bool.and_true];exact Zpf G _,?_⟩;refine Z ?_;rw [Zmn];exact ⟨(fun e h=>by cases h),rfl⟩
end Go.Hs
end

section
namespace Go.Hs
open Go.Proofs
set_option maxRecDepth 10000
theorem Zag (G:Nat→V) (hG:GOk G) (sl:Sl XN) (hs:sl.l.length<1000000) (m:List (List UInt8 × Int)) (i:Nat) (n:XN) (x:EV) (hn:sl.l[i]? = some n)
  (hw:∀ c1 c2,SpecP Tryz.prog G (some (Zf6 x)) 92 [lkV c1 c2 sl m,Zw n] Zu (Zo3 x)):OfC G sl m i x:=by
 intro c1 c2 k hk;refine Z9a 0 27 [.cell 6 34] Tryz.func67 rfl rfl rfl rfl fun X=>?_;have hil:i<sl.l.length:=(List.getElem?_eq_some_iff.1 hn).1;refine Z1 ?_;intro g6;refine Z4 (by kernel_rfl) ?_;simp -implicitDefEqProofs only[go_sem,seval,↓reduceIte,lkV,hn,Int.natCast_nonneg,Int.ofNat_lt,hil,Zj];refine Z3 hG (by kernel_rfl) (hw c1.ent c2.ent) (by simp -implicitDefEqProofs only[go_sem,seval,↓reduceIte,lkV,Zj]) ?_ ?_
 ·rintro v H' ⟨e,he,rfl⟩
  exact ⟨e,by rw [he]<;>rfl,rfl⟩
 rintro v H' ⟨hne,rfl⟩;simp -implicitDefEqProofs only[go_sem,seval,↓reduceIte,Zka];intro g7
 have fin:x.need k=x→Zo3 (x.need k) (.agg [.int .u8 x.kind,.int .i64 x.nm,.bool x.tr])=Zo3 x (Zka x):=fun h=>by rw [h]<;>rfl
 have hx:∀ e,x.need k = .err e→k≠0∧x.kind≠k∧e=90:=by
  intro e he
  cases x with
  | err e'=>exact absurd rfl (hne e')
  | num n =>
   simp only [EV.need] at he
   split at he
   ·rename_i h;cases he;exact ⟨h.1,h.2,rfl⟩
   ·cases he
  | tru n =>
   simp only [EV.need] at he
   split at he
   ·rename_i h;cases he;exact ⟨h.1,h.2,rfl⟩
   ·cases he
 have hx2:k≠0∧x.kind≠k→x.need k = .err 90:=by
  intro h
  cases x with
  | err e'=>exact absurd rfl (hne e')
  | num n=>exact if_pos h
  | tru n=>exact if_pos h
 have hx3:¬ (k≠0∧x.kind≠k)→x.need k=x:=by
  intro h
  cases x with
  | err e'=>exact absurd rfl (hne e')
  | num n=>exact if_neg h
  | tru n=>exact if_neg h
 refine Zv ?_
 by_cases h0:k=0
 ·subst h0
  refine Z ?_;rw [hx3 (fun h=>h.1 rfl)];exact ⟨hne,rfl⟩
 have h0b:(k != 0)=true:=by simpa using h0
 by_cases h2:x.kind=k
 ·have h2b:(x.kind != k)=false:=by simpa using h2
  refine Zf (zi h0b h2b) ?_;rw [hx3 (fun h=>h.2 h2)];exact ⟨hne,rfl⟩
 ·have h2b:(x.kind != k)=true:=by simpa using h2
  refine Z1f (zi h0b h2b) ?_;refine Z1 ?_;exact Z3 hG (by kernel_rfl) (Zae G 90) rfl (fun v H' h=>⟨90,hx2 ⟨h0,h2⟩,by rw [h.2]<;>rfl⟩) fun v H' h=>absurd h.1 (by decide)
def Zwd (x:X):Prop:=∀ op num name,X.leaf op num name∈Zcc x→Z0b num=true
theorem Zac {env:List (List UInt8 × Int)} (he:∀ p∈env,Z0b p.2=true) (x:X) (h:x.ok=true) (hn:Zwd x):(evX env x).fine:=by
 induction x with
 | leaf op num name =>
  show (Zvd env op num name).fine
  unfold Zvd
  split
  ·exact hn op num name (by simp [Zcc])
  split
  ·cases hl:Zvc env name with
   | none=>exact .inr (.inr rfl)
   | some v =>
    obtain ⟨p,h1,_,h2⟩:=Zw1 hl;exact h2 ▸ he p h1
  ·trivial
 | un op a ih =>
  simp only [X.ok,Bool.and_eq_true] at h;have ha:=ih h.2 fun o n nm hm=>hn o n nm (by simp [Zcc,hm])
  show (Zbu op (evX env a)).fine
  unfold Zbu
  split
  ·exact Zfj ha fun n _=>Ztg _
  ·exact Zml ha fun n=>trivial
 | bin op a b iha ihb =>
  simp only [X.ok,Bool.and_eq_true] at h;exact Zt5 (iha h.1.2 fun o n nm hm=>hn o n nm (by simp [Zcc,hm])) (ihb h.2 fun o n nm hm=>hn o n nm (by simp [Zcc,hm]))
 | ite a b c iha ihb ihc =>
  simp only [X.ok,Bool.and_eq_true] at h;refine Zml (iha h.1.1 fun o n nm hm=>hn o n nm (by simp [Zcc,hm])) fun t=>?_
  split
  ·exact ihb h.1.2 fun o n nm hm=>hn o n nm (by simp [Zcc,hm])
  ·exact ihc h.2 fun o n nm hm=>hn o n nm (by simp [Zcc,hm])
theorem of_spec (G:Nat→V) (hG:GOk G) (sl:Sl XN) (hs:sl.l.length<1000000) (m:List (List UInt8 × Int)) (hm:∀ p∈m,Z0b p.2=true) (x:X) :
  ∀ b:Nat,x.ok=true→Zwd x→At sl.l x b→OfC G sl m ((b+x.size-1:Nat):Int) (evX m x):=by
 induction x with
 | leaf op num name =>
  intro b h hn hat;refine Zag G hG sl hs m _ _ _ hat.get fun c1 c2=>?_;simp only [X.ok,Bool.and_eq_true,decide_eq_true_eq] at h;have hr:=(Zxd h.1).1
  have hv:evX m (.leaf op num name)=Znc m ((X.leaf op num name).top b) (.num 0) (.num 0) (.num 0):=by
   show _=if op≤4 then _ else _
   rw [if_pos h.2]<;>rfl
  rw [hv];exact Zux G hG c1 c2 sl m _ _ _ _ ⟨hr,h.2⟩
 | un op a ih =>
  intro b h hn hat;have hsz:=a.size_pos;simp only [X.ok,Bool.and_eq_true,decide_eq_true_eq] at h;have na:Zwd a:=fun o n nm hm=>hn o n nm (by simp [Zcc,hm]);have hA:=ih b h.2 na hat.un;rw [show ((b+a.size-1:Nat):Int)=(b:Int)+a.size-1 by omega] at hA;refine Zag G hG sl hs m _ _ _ hat.get fun c1 c2=>?_
  have hv:evX m (.un op a)=Znc m ((X.un op a).top b) (evX m a) (.num 0) (.num 0):=by
   show _=if op≤4 then _ else if op≤6 then _ else _
   rw [if_neg (by omega),if_pos (by omega)]<;>rfl
  rw [hv]
  obtain h5 | h6:op=5∨op=6:=by omega
  ·exact Z7z G hG c1 c2 sl m _ _ _ _ h5 hA (Zac hm a h.2 na)
  ·exact Z5j G hG c1 c2 sl m _ _ _ _ (.inl h6) hA (fun hh=>absurd h6 hh) (fun hh=>absurd (h6.symm.trans hh) (by decide))
 | bin op a c iha ihc =>
  intro b h hn hat;have hsz:=a.size_pos;have hsc:=c.size_pos;simp only [X.ok,Bool.and_eq_true,decide_eq_true_eq] at h;have na:Zwd a:=fun o n nm hm=>hn o n nm (by simp [Zcc,hm]);have nc:Zwd c:=fun o n nm hm=>hn o n nm (by simp [Zcc,hm]);have hA:=iha b h.1.2 na hat.bin.1;have hC:=ihc (b+a.size) h.2 nc hat.bin.2;rw [show ((b+a.size-1:Nat):Int)=(b:Int)+a.size-1 by omega] at hA;rw [show ((b+a.size+c.size-1:Nat):Int)=(b:Int)+a.size+c.size-1 by omega] at hC;refine Zag G hG sl hs m _ _ _ hat.get fun c1 c2=>?_
  have hv:evX m (.bin op a c)=Znc m ((X.bin op a c).top b) (evX m a) (evX m c) (.num 0):=by
   show _=if op≤4 then _ else if op≤6 then _ else if op≤21 then _ else _
   rw [if_neg (by omega),if_neg (by omega),if_pos (by omega)]<;>rfl
  rw [hv]
  by_cases h11:op≤11
  ·exact Z6z G hG c1 c2 sl m _ _ _ _ ⟨h.1.1.1,h11⟩ hA hC (Zac hm a h.1.2 na) (Zac hm c h.2 nc)
  by_cases h15:op≤15
  ·exact Z8z G hG c1 c2 sl m _ _ _ _ ⟨show 12≤op by omega,h15⟩ hA hC
  by_cases h17:op≤17
  ·exact Zv3 G hG c1 c2 sl m _ _ _ _ ⟨show 16≤op by omega,h17⟩ hA hC
  ·exact Z5j G hG c1 c2 sl m _ _ _ _ (.inr ⟨show 18≤op by omega,show op≤22 by omega⟩) hA (fun _=>hC) (fun hh=>absurd (show op=22 from hh) (by omega))
 | ite a c d iha ihc ihd =>
  intro b h hn hat;have hsz:=a.size_pos;have hsc:=c.size_pos;have hsd:=d.size_pos;simp only [X.ok,Bool.and_eq_true] at h;have na:Zwd a:=fun o n nm hm=>hn o n nm (by simp [Zcc,hm]);have nc:Zwd c:=fun o n nm hm=>hn o n nm (by simp [Zcc,hm]);have nd:Zwd d:=fun o n nm hm=>hn o n nm (by simp [Zcc,hm]);have hA:=iha b h.1.1 na hat.ite.1;have hC:=ihc (b+a.size) h.1.2 nc hat.ite.2.1;have hD:=ihd (b+a.size+c.size) h.2 nd hat.ite.2.2;rw [show ((b+a.size-1:Nat):Int)=(b:Int)+a.size-1 by omega] at hA;rw [show ((b+a.size+c.size-1:Nat):Int)=(b:Int)+a.size+c.size-1 by omega] at hC;rw [show ((b+a.size+c.size+d.size-1:Nat):Int)=(b:Int)+a.size+c.size+d.size-1 by omega] at hD;refine Zag G hG sl hs m _ _ _ hat.get fun c1 c2=>?_;exact Z5j G hG c1 c2 sl m _ (evX m a) (evX m c) (evX m d) (.inr ⟨show (18:Int)≤22 by decide,show (22:Int)≤22 by decide⟩) hA (fun _=>hC) (fun _=>hD)
end Go.Hs
end

section
namespace Go.Hs
open Go.Proofs
set_option maxRecDepth 10000
theorem Zpv (e:Int):Z9g Tryz.prog (.iface 152 (.agg [.int .i64 e])) 152 true=some (.tuple [.agg [.int .i64 e],.bool true]):=by
 unfold Z9g;rw [Tryz.underlying152]<;>rfl
theorem Zhz:Z9g Tryz.prog .nili 152 true=some (.tuple [.agg [.int .i64 0],.bool false]):=by
 unfold Z9g;rw [Tryz.underlying152]<;>rfl
theorem Zs2 (G:Nat→V) (g6 g7:Nat) (v6 v7:List V):SpecF Tryz.prog G 66 [.ptr 6 g6 0,.ptr 7 g7 0] (Zrb Zu [(6,.cells .new g6 0 v6),(7,.cells .new g7 0 v7)]) none (fun H'=>H' 6 = .cells .new g6 0 v6∧H' 7 = .cells .new g7 0 v7):=by
 refine Zzj 1000 13 5 Tryz.func66 rfl rfl rfl rfl rfl (by kernel_rfl) rfl fun X=>?_;simp -implicitDefEqProofs only[go_sem,seval,↓reduceIte,recV,Zhz,Zrb];intro g2;refine Z1 ?_;refine Z8 rfl ?_;refine AW.skip ?_;exact ⟨rfl,rfl⟩
theorem Zez (G:Nat→V) (hG:GOk G) (g6 g7:Nat) (v7:V) (e:Int):SpecF Tryz.prog G 66 [.ptr 6 g6 0,.ptr 7 g7 0] (Zrb Zu [(6,.cells .new g6 0 [.int .u8 0,.int .i64 0,.bool false]),(7,.cells .new g7 0 [v7])]) (some (Zhv e)) (fun H'=>H' 6 = .cells .new g6 0 [.int .u8 0,.int .i64 0,.bool false]∧H' 7 = .cells .new g7 0 [.int .i64 e]):=by
 refine Zzj 1000 13 5 Tryz.func66 rfl rfl rfl rfl rfl (by kernel_rfl) rfl fun X=>?_;simp -implicitDefEqProofs only[go_sem,seval,↓reduceIte,recV,Zhv,Zpv,Zrb];intro g2;refine Z1 ?_;refine Zfa rfl ?_;refine AW.weak (Z7 (fun o=>o==1002) (l:=[(0,.ptr 6 g6 0),(1,.ptr 7 g7 0),(2,.view .new (.agg [.int .i64 e]))]) (m:=[(6,.cells .new g6 0 [.int .u8 0,.int .i64 0,.bool false]),(7,.cells .new g7 0 [v7])]) ?_ ?_) ?_
 ·refine Zs ?_
  refine ⟨Zl _,Zl _,?_⟩;exact Fz.ptr (v := .agg [.int .i64 e]) (c := .new) (fz:=0) rfl zp
 ·simp only [Zy,Z2,and_true]
  exact ⟨FzO.keep rfl zp,FzO.keep rfl zp⟩
 refine Zx ⟨fun _ => .top,fun i=>if i=2 then .lend else .pure⟩ (by kernel_rfl) hG (by kernel_rfl) (by kernel_rfl) ?_;refine Zs ?_;exact ⟨rfl,rfl⟩
def Zea (p:List UInt8 × Int):V := .agg [.str p.1,.int .i64 p.2]
theorem Z5g (p:List UInt8 × Int):Zea p = .agg [.str p.1,.int .i64 p.2]:=rfl
@[go_sem] theorem Ze4 (f:Col→Col) (p:List UInt8 × Int):(Zea p).recol f=Zea p:=rfl
@[go_sem] theorem Ze (g:Col→Col) (c:Col) (s:Sl (List UInt8 × Int)):(Zb c 2 Zea s).recol g=Zb (g c) 2 Zea s:=Zue g c 2 (Ze4 g) s
def Zur:List (List UInt8 × Int)→List UInt8 × Int→List (List UInt8 × Int)
 | [],p=>[p]
 | q::r,p=>if p.1=q.1 then (q.1,p.2)::r else q::Zur r p
theorem Zqs (p:List UInt8 × Int) (s:List UInt8):∀ m:List (List UInt8 × Int),Zvc (Zur m p) s=if s=p.1 then some p.2 else Zvc m s
 | []=>by
  unfold Zur Zvc
  by_cases h:s=p.1
  ·rw [if_pos h,List.find?_cons_of_pos (by simpa using h.symm)]<;>rfl
  ·rw [if_neg h,List.find?_cons_of_neg (by simpa using fun hh=>h hh.symm)]
 | q::r=>by
  have ih:=Zqs p s r;unfold Zur
  by_cases hq:p.1=q.1
  ·rw [if_pos hq]
   unfold Zvc
   by_cases h:s=p.1
   ·rw [if_pos h,List.find?_cons_of_pos (by simpa using (h.trans hq).symm)]<;>rfl
   ·rw [if_neg h,List.find?_cons_of_neg (by simpa using fun hh=>h (hh.symm.trans hq.symm)),List.find?_cons_of_neg (by simpa using fun hh=>h (hh.symm.trans hq.symm))]
  ·rw [if_neg hq]
   unfold Zvc at ih ⊢
   by_cases h2:q.1=s
   ·have hsp:¬ s=p.1:=fun h=>hq (h.symm.trans h2.symm)
    rw [if_neg hsp,List.find?_cons_of_pos (by simpa using h2),List.find?_cons_of_pos (by simpa using h2)]
   ·rw [List.find?_cons_of_neg (by simpa using h2),List.find?_cons_of_neg (by simpa using h2),ih]
theorem Zj4 (p:List UInt8 × Int) (m:List (List UInt8 × Int)):Zf3 .string (.str p.1) (.int .i64 p.2) (Z7b m) (Zgc m)=some (Z7b (Zur m p),Zgc (Zur m p)):=by
 have key:∀ m:List (List UInt8 × Int),∃ r,Zad .string (.str p.1) (Z7b m)=some r∧(match r with
   | none=>Zur m p=m++[p]
   | some j=>Z7b (Zur m p)=Z7b m∧Zgc (Zur m p)=(Zgc m).set j (.int .i64 p.2)):=by
  intro m
  induction m with
  | nil=>exact ⟨none,rfl,rfl⟩
  | cons q r ih =>
   have hstep:Zad .string (.str p.1) (Z7b (q::r))=if p.1=q.1 then some (some 0) else (Zad .string (.str p.1) (Z7b r)).map (·.map (· + 1)):=rfl
   by_cases h:p.1=q.1
   ·refine ⟨some 0,by rw [hstep,if_pos h],?_⟩
    show Z7b (if p.1=q.1 then _ else _)=_∧Zgc (if p.1=q.1 then _ else _)=_
    rw [if_pos h];exact ⟨rfl,rfl⟩
   ·obtain ⟨o,h1,h2⟩:=ih
    refine ⟨o.map (· + 1),by rw [hstep,if_neg h,h1]<;>rfl,?_⟩
    have hs:Zur (q::r) p=q::Zur r p:=by show (if p.1=q.1 then _ else _)=_;rw [if_neg h]
    rw [hs]
    cases o with
    | none=>simp only at h2;simp only [Option.map_none];rw [h2]<;>rfl
    | some j =>
     simp only at h2;simp only [Option.map_some];exact ⟨by show _::Z7b (Zur r p)=_::Z7b r;rw [h2.1],by show _::Zgc (Zur r p)=_::(Zgc r).set j _;rw [h2.2]⟩
 obtain ⟨o,h1,h2⟩:=key m;unfold Zf3;rw [h1]
 cases o with
 | none=>simp only at h2;simp only [h2,Z7b,Zgc,List.map_append,List.map_cons,List.map_nil]
 | some j=>simp only at h2;simp only [h2.1,h2.2]
def Zfe (env:List (List UInt8 × Int)):Nat→List (List UInt8 × Int)
 | 0=>[]
 | n+1=>match env[env.length-(n+1)]? with
  | some p=>Zur (Zfe env n) p
  | none=>Zfe env n
theorem Zps (env:List (List UInt8 × Int)) (s:List UInt8):∀ n,n≤env.length→Zvc (Zfe env n) s=Zvc (env.drop (env.length-n)) s
 | 0,_=>by rw [Nat.sub_zero,List.drop_length]<;>rfl
 | n+1,h=>by
  have hlt:env.length-(n+1)<env.length:=by omega
  have hd:env.drop (env.length-(n+1))=env[env.length-(n+1)]::env.drop (env.length-n):=by
   rw [List.drop_eq_getElem_cons hlt,show env.length-(n+1)+1=env.length-n by omega]
  rw [Zfe,List.getElem?_eq_getElem hlt,hd];simp only;rw [Zqs,Zps env s n (by omega)];unfold Zvc
  by_cases hs:s=env[env.length-(n+1)].1
  ·rw [if_pos hs,List.find?_cons_of_pos (by simpa using hs.symm)]<;>rfl
  ·rw [if_neg hs,List.find?_cons_of_neg (by simpa using fun hh=>hs hh.symm)]
def Zl2 (env:List (List UInt8 × Int)):=Zfe env env.length
theorem Zu1 (env:List (List UInt8 × Int)) (s:List UInt8):Zvc (Zl2 env) s=Zvc env s:=by
 unfold Zl2;rw [Zps env s _ (Nat.le_refl _),Nat.sub_self,List.drop_zero]
theorem Zz0 {m:List (List UInt8 × Int)} {p:List UInt8 × Int} (hm:∀ q∈m,Z0b q.2=true) (hp:Z0b p.2=true):∀ q∈Zur m p,Z0b q.2=true:=by
 induction m with
 | nil=>intro q hq;simp [Zur] at hq;subst hq;exact hp
 | cons r t ih =>
  intro q hq;unfold Zur at hq
  split at hq
  ·rcases List.mem_cons.1 hq with rfl | h
   ·exact hp
   ·exact hm q (by simp [h])
  ·rcases List.mem_cons.1 hq with rfl | h
   ·exact hm q (by simp)
   ·exact ih (fun q hq=>hm q (by simp [hq])) q h
theorem Z3g {env:List (List UInt8 × Int)} (h:∀ q∈env,Z0b q.2=true):∀ n,∀ q∈Zfe env n,Z0b q.2=true
 | 0=>fun q hq=>by cases hq
 | n+1=>by
  rw [Zfe]
  cases hg:env[env.length-(n+1)]? with
  | none=>exact Z3g h n
  | some p=>exact Zz0 (Z3g h n) (h p (List.mem_of_getElem? hg))
theorem Zh5 (env:List (List UInt8 × Int)) (x:X):evX (Zl2 env) x=evX env x:=Zfx fun t _=>Zu1 env t
end Go.Hs
end

section
namespace Go.Hs
open Go.Proofs
set_option maxRecDepth 10000
theorem Zgp (G:Nat→V) (s:List UInt8):Spec Tryz.prog G 168 [.str s,.str [48]] Zu (fun v _=>v = .str (s.dropWhile (· == 48))):=by
 refine Zod fun X cargs _ _ hA=>?_;obtain ⟨x,y,rfl,hx,hy⟩:=hA.two;obtain ⟨s',rfl,rfl⟩:=hx.str_inv;obtain ⟨p',rfl,hp⟩:=hy.str_inv
 obtain rfl:p'=⟨#[48]⟩:=by
  obtain ⟨⟨l⟩⟩:=p';simp at hp;rw [hp]
 refine (show Calls Tryz.prog 168 _ _ _ from Any.strings_TrimLeft_one Z2v s' 48 (by decide) X.w).mono ?_;rintro e w' ⟨rfl,rfl⟩;exact ⟨_,_,rfl,RowKit.Below.refl _ _,.str _ _ rfl,by simp [Lib.trimLeftB]⟩
theorem Z3j (G:Nat→V) (hG:GOk G) (sl:Sl Tk) (g:Nat) (r:RS) (hi:r.i<1000000) (hr:r.nodes.length<1000000) (op num:Int) (name:List UInt8) (x y z:Int) :
  RdS 1031 [.func (.func 78) [] []] G 143 [Zw ⟨op,num,name,x,y,z⟩] sl g r (.bool true) (Zfl r op num name).2:=by
 intro gx;refine Zo 1000 15 [.tmp 4] Tryz.func143 fun X=>?_
 have hw:IntKind.i64.wrap ((r.i:Int)+1)=((r.i+1:Nat):Int):=by rw [w64 (by omega) (by omega)];omega
 simp only [Zrb,Zzd,Zj];refine Z1 ?_;intro g3;refine Z1f hw ?_;refine Z1 ?_;rw [← Zj ⟨op,num,name,x,y,z⟩];refine RdS.call hG (Zyi G hG sl g r.adv hr ⟨op,num,name,x,y,z⟩ .any .nil (by decide)) (gx:=gx) (by kernel_rfl) (fun F=>rfl) (by decide) (by first | rfl | (simp -implicitDefEqProofs only[go_sem,seval,↓reduceIte,List.map_cons,List.map_nil,Zj];try rfl)) (by first | rfl | (simp -implicitDefEqProofs only[go_sem,seval,↓reduceIte,List.map_cons,List.map_nil];try rfl)) (by first | rfl | (simp -implicitDefEqProofs only[go_sem,seval,↓reduceIte];try rfl)) (by first | rfl | (simp -implicitDefEqProofs only[go_sem,seval,↓reduceIte];try rfl)) fun gx'=>?_;simp -implicitDefEqProofs only[go_sem,seval,↓reduceIte,Zrb];refine Z ?_;exact ⟨rfl,gx',by simp -implicitDefEqProofs only[go_sem,seval,↓reduceIte];rfl,by simp -implicitDefEqProofs only[go_sem,seval,↓reduceIte];rfl⟩
theorem Zvl (G:Nat→V) (hE:GExp G) (sl:Sl Tk) (hT:TkOk sl.l) (g:Nat) (r:RS) (hi:r.i<1000000) (w:List UInt8) :
  RdS 1031 [.func (.func 78) [] []] G 144 [.str w] sl g r (.bool (Zeg sl.l w r).1) (Zeg sl.l w r).2:=by
 have hG:=hE.ok;intro gx;refine Zo 1000 27 [.tmp 4] Tryz.func144 fun X=>?_
 have hw:IntKind.i64.wrap ((r.i:Int)+1)=((r.i+1:Nat):Int):=by rw [w64 (by omega) (by omega)];omega
 refine Z1 ?_;refine Z1 ?_;refine RdS.call hG (Z2j G hE sl hT g r hi) (gx:=gx) (by kernel_rfl) (fun F=>rfl) (by decide) (by first | rfl | (simp -implicitDefEqProofs only[go_sem,seval,↓reduceIte,List.map_cons,List.map_nil,Zj];try rfl)) (by first | rfl | (simp -implicitDefEqProofs only[go_sem,seval,↓reduceIte,List.map_cons,List.map_nil];try rfl)) (by first | rfl | (simp -implicitDefEqProofs only[go_sem,seval,↓reduceIte];try rfl)) (by first | rfl | (simp -implicitDefEqProofs only[go_sem,seval,↓reduceIte];try rfl)) fun gx'=>?_;simp -implicitDefEqProofs only[go_sem,seval,↓reduceIte,Zrb];refine Zsf @Zdg ?_;intro g5
 have hP:Zeg sl.l w r=if (Zda sl.l r.i).kind=0∨(Zda sl.l r.i).text≠w then (false,r.err 80) else (true,r.adv):=rfl
 generalize Zda sl.l r.i=t at hP ⊢;obtain ⟨k,t,p⟩:=t;simp only at hP
 by_cases hk:k=0
 ·have e1:(k==0)=true:=by simpa using hk
  rw [if_pos (.inl hk)] at hP;refine Z1f e1 ?_;refine Zd rfl (fun h2=>?_) (fun h2=>?_)
  ·refine Zf @Zzd ?_
   rw [hP];exact ⟨rfl,gx',by simp -implicitDefEqProofs only[go_sem,seval,↓reduceIte];rfl,by simp -implicitDefEqProofs only[go_sem,seval,↓reduceIte];rfl⟩
  ·cases h2
 ·have e1:(k==0)=false:=by simpa using hk
  by_cases ht:t=w
  ·have e2:(t==w)=true:=by simpa using ht
   rw [if_neg (by rintro (h | h);exact hk h;exact h ht)] at hP;refine Z4 (by kernel_rfl) ?_;simp -implicitDefEqProofs only[go_sem,seval,↓reduceIte,e1,bne,e2];refine Z8 rfl ?_
   ·refine Zf (zi @Zzd hw) ?_
    rw [hP];exact ⟨rfl,gx',by simp -implicitDefEqProofs only[go_sem,seval,↓reduceIte];rfl,by simp -implicitDefEqProofs only[go_sem,seval,↓reduceIte];rfl⟩
  ·have e2:(t==w)=false:=by simpa using ht
   rw [if_pos (.inr ht)] at hP;refine Z4 (by kernel_rfl) ?_;simp -implicitDefEqProofs only[go_sem,seval,↓reduceIte,e1,bne,e2];refine Zd rfl (fun h2=>?_) (fun h2=>?_)
   ·refine Zf @Zzd ?_
    rw [hP];exact ⟨rfl,gx',by simp -implicitDefEqProofs only[go_sem,seval,↓reduceIte];rfl,by simp -implicitDefEqProofs only[go_sem,seval,↓reduceIte];rfl⟩
   ·cases h2
theorem Zi0 (t:List UInt8):(Zjf t).length≤t.length+1:=by
 unfold Zjf
 split
 ·simp
 ·exact Nat.le_trans ((List.dropWhile_sublist _).length_le) (Nat.le_succ _)
theorem Zvr (G:Nat→V) (hE:GExp G) (sl:Sl Tk) (g:Nat) (r:RS) (hi:r.i<1000000) (hr:r.nodes.length<1000000) (t:List UInt8) (ht:t.length<100000) :
  RdS 1031 [.func (.func 78) [] []] G 142 [.str t] sl g r (.bool (Zhd r t).1) (Zhd r t).2:=by
 have hG:=hE.ok;intro gx;refine Zo 1000 26 [.tmp 4] Tryz.func142 fun X=>?_;refine Z1 ?_;refine Z1 ?_;refine Zc hG ?_ (s:=(Zgp G t))
 have hT0:Zjf t=if t.dropWhile (· == 48)=[] then [48] else t.dropWhile (· == 48):=rfl
 have hP:Zhd r t=if (Zyc (Zjf t)).2≠0 then (false,r.err (Zyc (Zjf t)).2) else Zfl r 1 (Zyc (Zjf t)).1 []:=rfl
 have hl:=Zi0 t;refine Zyb (fun (_:Unit)=>st [(0,.ptr 8 g 0),(1,.str (Zjf t))] [(8,rdO 1031 [.func (.func 78) [] []] sl g gx r),(1031,ndO gx r.nodes)]) (fun _=>True) (fun K1 hK1=>?_) ?_
 ·rw [hT0] at hK1
  refine Z1 ?_;refine Zd rfl (fun h2=>?_) (fun h2=>?_)
  ·have h2:t.dropWhile (· == 48)=[]:=by simpa using h2
   rw [if_pos h2] at hK1;refine Z1 ?_;exact hK1 _ () trivial (Zg zp (by simp -implicitDefEqProofs only[go_sem,seval,↓reduceIte,Zrb]))
  ·have h2:¬ t.dropWhile (· == 48)=[]:=by simpa using h2
   rw [if_neg h2] at hK1;refine Z0 ?_;exact hK1 _ () trivial (Zg zp (by simp -implicitDefEqProofs only[go_sem,seval,↓reduceIte,Zrb]))
 intro _ _;generalize Zjf t=s at hl hP ⊢;refine Z1 ?_;refine Zn hG ?_ (s:=(Z9u G hE.toGNum s (by omega)));generalize Zyc s=q at hP ⊢;obtain ⟨n,e⟩:=q;simp only at hP;simp -implicitDefEqProofs only[go_sem,seval,↓reduceIte,Zpg];refine Zv ?_
 by_cases he:e=0
 ·have e1:(e==0)=true:=by simpa using he
  rw [if_neg (show ¬ e≠0 by simpa using he)] at hP;refine Z4 (by kernel_rfl) ?_;simp -implicitDefEqProofs only[go_sem,seval,↓reduceIte,bne,e1];refine Z8 rfl ?_
  ·refine Z1 ?_
   rw [← Zj ⟨1,n,[],0,0,0⟩];refine RdS.call hG (Z3j G hG sl g r hi hr 1 n [] 0 0 0) (gx:=gx) (by kernel_rfl) (fun F=>rfl) (by decide) (by first | rfl | (simp -implicitDefEqProofs only[go_sem,seval,↓reduceIte,List.map_cons,List.map_nil,Zj];try rfl)) (by first | rfl | (simp -implicitDefEqProofs only[go_sem,seval,↓reduceIte,List.map_cons,List.map_nil];try rfl)) (by first | rfl | (simp -implicitDefEqProofs only[go_sem,seval,↓reduceIte];try rfl)) (by first | rfl | (simp -implicitDefEqProofs only[go_sem,seval,↓reduceIte];try rfl)) fun gx'=>?_;simp -implicitDefEqProofs only[go_sem,seval,↓reduceIte,Zrb];refine Z ?_;rw [hP];exact ⟨rfl,gx',by simp -implicitDefEqProofs only[go_sem,seval,↓reduceIte],by simp -implicitDefEqProofs only[go_sem,seval,↓reduceIte]⟩
 ·have e1:(e==0)=false:=by simpa using he
  rw [if_pos he] at hP;refine Z4 (by kernel_rfl) ?_;simp -implicitDefEqProofs only[go_sem,seval,↓reduceIte,bne,e1];refine Zd rfl (fun h4=>?_) (fun h4=>?_)
  ·refine Zf @Zzd ?_
   rw [hP];exact ⟨rfl,gx,by simp -implicitDefEqProofs only[go_sem,seval,↓reduceIte];rfl,by simp -implicitDefEqProofs only[go_sem,seval,↓reduceIte];rfl⟩
  ·cases h4
end Go.Hs
end

section
namespace Go.Hs
open Go.Proofs
set_option maxRecDepth 10000
def Za3 (G:Nat→V) (sl:Sl Tk) (g:Nat) (inner:Inner) (i0:Nat):Prop :=
 ∀ n r,1≤n→n≤9→i0<r.i→Zpx sl.l r→RdS 1031 [.func (.func 78) [] []] G 78 [.int .i64 n] sl g r (.bool (inner n r).1) (inner n r).2
theorem Znm {l:List Tk} (hT:TkOk l) (i:Nat):(Zda l i).text.length<100000:=by
 unfold Zda
 split
 ·rename_i t h
  split
  ·exact hT.text _ (List.mem_of_getElem? h)
  ·exact Nat.zero_lt_succ _
 ·exact Nat.zero_lt_succ _
theorem Zp2 (l:List Tk) (w:List UInt8) (r:RS):(Zeg l w r).1=true→(Zeg l w r).2=r.adv:=by
 unfold Zeg
 split
 ·intro h;cases h
 ·exact fun _=>rfl
def Z6x (l:List Tk) (inner:Inner):List (List UInt8)→List Int→RS→Bool × RS
 | [],parts,r=>andThen (Zeg l Zuk r) fun r4=>(true,r4.put (Zly ⟨22,0,[],0,0,0⟩ parts))
 | w::ws,parts,r=>andThen (Zeg l w r) fun r1=>andThen (inner 1 r1) fun a=>Z6x l inner ws (parts++[a.last]) a
theorem Zdq (l:List Tk) (inner:Inner) (r:RS):Zjb l inner r=Z6x l inner [wIf,Zbp,Zcp] [] r:=rfl
def brW:List (List UInt8):=[wIf,Zbp,Zcp]
theorem Z2n (G:Nat→V) (hE:GExp G) (sl:Sl Tk) (hT:TkOk sl.l) (g:Nat) (r:RS) (hr:Zpx sl.l r) (inner:Inner) (hin:Za3 G sl g inner r.i) (hb:Bals sl.l inner) :
  RdS 1031 [.func (.func 78) [] []] G 145 [] sl g r (.bool (Zjb sl.l inner r).1) (Zjb sl.l inner r).2:=by
 have hG:=hE.ok;have hTl:=hT.len;intro gx;refine Zo 1000 37 [.tmp 2] Tryz.func145 fun X=>?_;refine Z1 ?_;refine Z1 ?_;refine Z1 ?_;refine AW.block ?_
 refine Z0a 3 (fun k (x:Nat × Nat × List Int × RS)=>st [(0,.ptr 8 g 0),(3,grown 1027 x.1 1 x.2.2.1),(6,.agg (brW.map V.str)),(7,.int .i64 k)] [(1027,Zfb x.1 (V.int .i64) x.2.2.1),(8,rdO 1031 [.func (.func 78) [] []] sl g x.2.1 x.2.2.2),(1031,ndO x.2.1 x.2.2.2.nodes)])
  (fun k x=>Zjb sl.l inner r=Z6x sl.l inner (brW.drop k) x.2.2.1 x.2.2.2∧Zpx sl.l x.2.2.2∧r.i≤x.2.2.2.i∧x.2.2.1.length=k) 0 (0,gx,[],r) (Nat.zero_le _) ⟨Zdq _ _ _,hr,Nat.le_refl _,rfl⟩
  (Zg (by simp -implicitDefEqProofs only[go_sem,seval,↓reduceIte,List.map_cons,List.map_nil];exact ⟨rfl,rfl⟩) (by simp -implicitDefEqProofs only[go_sem,seval,↓reduceIte,Zrb];try rfl)) ?_
 rintro k ⟨gp,gy,parts,q⟩ hk ⟨hP,hq,hqi,hpl⟩ L2 hL2;have hP:Zjb sl.l inner r=Z6x sl.l inner (brW.drop k) parts q:=hP;have hq:Zpx sl.l q:=hq;have hqi:r.i≤q.i:=hqi;have hpl:parts.length=k:=hpl
 have hqI:q.i<1000000:=by have:=hq.1;omega
 refine Z1 ?_;refine Zv ?_;refine Zd rfl (fun h4=>?_) (fun h4=>?_)
 ·have hk1:k<3:=by have h4:decide ((k:Int)<3)=true:=h4;simp at h4;omega
  refine Z0 ?_;refine Zv ?_;refine AW.block ?_
  obtain ⟨w,hw1,hw2⟩:∃ w,(brW.map V.str)[k]? = some (.str w)∧brW.drop k=w::brW.drop (k+1):=by
   have hkl:k<brW.length:=hk1;exact ⟨brW[k],by rw [List.getElem?_map,List.getElem?_eq_getElem hkl]<;>rfl,List.drop_eq_getElem_cons hkl⟩
  have hk1':(k:Int)<3:=by omega
  rw [hw2,Z6x] at hP;have heb:=Z5d sl.l w q;have het:=Zp2 sl.l w q;have hes:=Zvl G hE sl hT g q hqI w;generalize Zeg sl.l w q=y at hP heb hes het;obtain ⟨b,q1⟩:=y;simp only at heb hes het;refine Z1f (zi hw1 (zi hk1' (zi @Int.natCast_nonneg @Nat.mul_one))) ?_;refine Zv ?_
  cases b with
  | false =>
   rw [Znd] at hP;refine Z1 ?_;refine RdS.call hG (hes) (gx:=gy) (by kernel_rfl) (fun F=>rfl) (by decide) (by first | rfl | (simp -implicitDefEqProofs only[go_sem,seval,↓reduceIte,List.map_cons,List.map_nil,Zj];try rfl)) (by first | rfl | (simp -implicitDefEqProofs only[go_sem,seval,↓reduceIte,List.map_cons,List.map_nil];try rfl)) (by first | rfl | (simp -implicitDefEqProofs only[go_sem,seval,↓reduceIte];try rfl)) (by first | rfl | (simp -implicitDefEqProofs only[go_sem,seval,↓reduceIte];try rfl)) fun gz=>?_;simp -implicitDefEqProofs only[go_sem,seval,↓reduceIte,Zrb];refine Zd rfl (fun h7=>?_) (fun h7=>?_)
   ·refine Z ?_
    rw [hP];exact ⟨rfl,gz,by first | rfl | (simp -implicitDefEqProofs only[go_sem,seval,↓reduceIte];try rfl),by first | rfl | (simp -implicitDefEqProofs only[go_sem,seval,↓reduceIte];try rfl)⟩
   ·cases h7
  | true =>
   rw [Zcd] at hP;have hb1:=heb.2 rfl;have hq1:=hb1.ok hq
   have hlt:r.i<q1.i:=by rw [het rfl];show r.i<q.i+1;omega
   have hc:=hin 1 q1 (by decide) (by decide) hlt hq1;have hb2:=hb 1 q1;generalize inner 1 q1=z at hP hc hb2;obtain ⟨b,a⟩:=z;simp only at hc hb2;have ha:=hb2.ok hq1
   have han:a.nodes.length<1000000:=by have:=ha.1;have:=ha.2;omega
   cases b with
   | false =>
    rw [Znd] at hP;refine Z1f @Zzd ?_;refine RdS.call hG (hes) (gx:=gy) (by kernel_rfl) (fun F=>rfl) (by decide) (by first | rfl | (simp -implicitDefEqProofs only[go_sem,seval,↓reduceIte,List.map_cons,List.map_nil,Zj];try rfl)) (by first | rfl | (simp -implicitDefEqProofs only[go_sem,seval,↓reduceIte,List.map_cons,List.map_nil];try rfl)) (by first | rfl | (simp -implicitDefEqProofs only[go_sem,seval,↓reduceIte];try rfl)) (by first | rfl | (simp -implicitDefEqProofs only[go_sem,seval,↓reduceIte];try rfl)) fun gz=>?_;simp -implicitDefEqProofs only[go_sem,seval,↓reduceIte,Zrb];refine Zsf @Zzd ?_;refine RdS.call hG (hc) (gx:=gz) (by kernel_rfl) (fun F=>rfl) (by decide) (by first | rfl | (simp -implicitDefEqProofs only[go_sem,seval,↓reduceIte,List.map_cons,List.map_nil,Zj];try rfl)) (by first | rfl | (simp -implicitDefEqProofs only[go_sem,seval,↓reduceIte,List.map_cons,List.map_nil];try rfl)) (by first | rfl | (simp -implicitDefEqProofs only[go_sem,seval,↓reduceIte];try rfl)) (by first | rfl | (simp -implicitDefEqProofs only[go_sem,seval,↓reduceIte];try rfl)) fun gz2=>?_;simp -implicitDefEqProofs only[go_sem,seval,↓reduceIte,Zrb];refine Zd rfl (fun h7=>?_) (fun h7=>?_)
    ·refine Z ?_
     rw [hP];exact ⟨rfl,gz2,by first | rfl | (simp -implicitDefEqProofs only[go_sem,seval,↓reduceIte];try rfl),by first | rfl | (simp -implicitDefEqProofs only[go_sem,seval,↓reduceIte];try rfl)⟩
    ·cases h7
   | true =>
    rw [Zcd] at hP;refine Z1f @Zzd ?_;refine RdS.call hG (hes) (gx:=gy) (by kernel_rfl) (fun F=>rfl) (by decide) (by first | rfl | (simp -implicitDefEqProofs only[go_sem,seval,↓reduceIte,List.map_cons,List.map_nil,Zj];try rfl)) (by first | rfl | (simp -implicitDefEqProofs only[go_sem,seval,↓reduceIte,List.map_cons,List.map_nil];try rfl)) (by first | rfl | (simp -implicitDefEqProofs only[go_sem,seval,↓reduceIte];try rfl)) (by first | rfl | (simp -implicitDefEqProofs only[go_sem,seval,↓reduceIte];try rfl)) fun gz=>?_;simp -implicitDefEqProofs only[go_sem,seval,↓reduceIte,Zrb];refine Zsf @Zzd ?_;refine RdS.call hG (hc) (gx:=gz) (by kernel_rfl) (fun F=>rfl) (by decide) (by first | rfl | (simp -implicitDefEqProofs only[go_sem,seval,↓reduceIte,List.map_cons,List.map_nil,Zj];try rfl)) (by first | rfl | (simp -implicitDefEqProofs only[go_sem,seval,↓reduceIte,List.map_cons,List.map_nil];try rfl)) (by first | rfl | (simp -implicitDefEqProofs only[go_sem,seval,↓reduceIte];try rfl)) (by first | rfl | (simp -implicitDefEqProofs only[go_sem,seval,↓reduceIte];try rfl)) fun gz2=>?_;simp -implicitDefEqProofs only[go_sem,seval,↓reduceIte,Zrb];refine Z8 rfl ?_
    ·refine Z1 ?_
     refine RdS.call hG (Zch G hG sl g a han) (gx:=gz2) (by kernel_rfl) (fun F=>rfl) (by decide) (by first | rfl | (simp -implicitDefEqProofs only[go_sem,seval,↓reduceIte,List.map_cons,List.map_nil,Zj];try rfl)) (by first | rfl | (simp -implicitDefEqProofs only[go_sem,seval,↓reduceIte,List.map_cons,List.map_nil];try rfl)) (by first | rfl | (simp -implicitDefEqProofs only[go_sem,seval,↓reduceIte];try rfl)) (by first | rfl | (simp -implicitDefEqProofs only[go_sem,seval,↓reduceIte];try rfl)) fun gz3=>?_;simp -implicitDefEqProofs only[go_sem,seval,↓reduceIte,Zrb];intro g26;refine Zlc (f:=V.int .i64) (l:=parts) (l2:=[a.last]) (g:=gp) (fun _=>rfl) rfl rfl rfl zp (Zab (by omega) (by simp;omega)) fun g27=>?_;refine Zs ?_;refine Z1 ?_;refine hL2 _ ⟨hk1,(g27,gz3,parts++[a.last],a),⟨hP,ha,?_,?_⟩,Zg zw zp⟩
     ·show r.i≤a.i
      have:=hb2.up;omega
     ·show (parts++[a.last]).length=k+1
      rw [List.length_append,List.length_singleton,hpl]
 ·have hk1:k=3:=by have h4:decide ((k:Int)<3)=false:=h4;simp at h4;omega
  refine Z0 ?_;rw [hk1,show brW.drop 3=[] from rfl,Z6x] at hP;have heb:=Z5d sl.l Zuk q;have hes:=Zvl G hE sl hT g q hqI Zuk;generalize Zeg sl.l Zuk q=y at hP heb hes;obtain ⟨b,q1⟩:=y;simp only at heb hes;have hq1:=(heb.1).ok hq
  have hqn:q1.nodes.length<1000000:=by have:=hq1.1;have:=hq1.2;omega
  cases b with
  | false =>
   rw [Znd] at hP;refine Z1 ?_;refine RdS.call hG (hes) (gx:=gy) (by kernel_rfl) (fun F=>rfl) (by decide) (by first | rfl | (simp -implicitDefEqProofs only[go_sem,seval,↓reduceIte,List.map_cons,List.map_nil,Zj];try rfl)) (by first | rfl | (simp -implicitDefEqProofs only[go_sem,seval,↓reduceIte,List.map_cons,List.map_nil];try rfl)) (by first | rfl | (simp -implicitDefEqProofs only[go_sem,seval,↓reduceIte];try rfl)) (by first | rfl | (simp -implicitDefEqProofs only[go_sem,seval,↓reduceIte];try rfl)) fun gz=>?_;simp -implicitDefEqProofs only[go_sem,seval,↓reduceIte,Zrb];refine Z ?_;rw [hP];exact ⟨rfl,gz,by first | rfl | (simp -implicitDefEqProofs only[go_sem,seval,↓reduceIte];try rfl),by first | rfl | (simp -implicitDefEqProofs only[go_sem,seval,↓reduceIte];try rfl)⟩
  | true =>
   rw [Zcd] at hP;refine Z1 ?_;refine RdS.call hG (hes) (gx:=gy) (by kernel_rfl) (fun F=>rfl) (by decide) (by first | rfl | (simp -implicitDefEqProofs only[go_sem,seval,↓reduceIte,List.map_cons,List.map_nil,Zj];try rfl)) (by first | rfl | (simp -implicitDefEqProofs only[go_sem,seval,↓reduceIte,List.map_cons,List.map_nil];try rfl)) (by first | rfl | (simp -implicitDefEqProofs only[go_sem,seval,↓reduceIte];try rfl)) (by first | rfl | (simp -implicitDefEqProofs only[go_sem,seval,↓reduceIte];try rfl)) fun gz=>?_;simp -implicitDefEqProofs only[go_sem,seval,↓reduceIte,Zrb];refine Zoe (fun o=>o==1027) [.ptr 8 g 0,Zw ⟨22,0,[],0,0,0⟩,Zb .new 1 (V.int .i64) (Znb parts)] [(8,rdO 1031 [.func (.func 78) [] []] sl g gz q1),(1031,ndO gz q1.nodes)] ⟨Zl _,Zl _,?_,trivial⟩ ?_ ?_
   ·exact Zpd (g:=gp) rfl zp (fun _=>rfl)
   ·simp only [Zy,Z2,and_true]
    exact ⟨FzO.keep rfl zp,FzO.keep rfl zp⟩
   have hp3:(Znb parts).l.length≤3:=by rw [Zma];omega
   refine RdS.call hG (Zyi G hG sl g q1 hqn ⟨22,0,[],0,0,0⟩ .old (Znb parts) hp3) (gx:=gz) (by kernel_rfl) (fun F=>rfl) (by decide) (by first | rfl | (simp -implicitDefEqProofs only[go_sem,seval,↓reduceIte,List.map_cons,List.map_nil,Zj];try rfl)) (by first | rfl | (simp -implicitDefEqProofs only[go_sem,seval,↓reduceIte,List.map_cons,List.map_nil];try rfl)) (by first | rfl | (simp -implicitDefEqProofs only[go_sem,seval,↓reduceIte];try rfl)) (by first | rfl | (simp -implicitDefEqProofs only[go_sem,seval,↓reduceIte];try rfl)) fun gz2=>?_;simp -implicitDefEqProofs only[go_sem,seval,↓reduceIte,Zrb];refine Z ?_;rw [hP];exact ⟨rfl,gz2,by first | rfl | (simp -implicitDefEqProofs only[go_sem,seval,↓reduceIte];try rfl),by first | rfl | (simp -implicitDefEqProofs only[go_sem,seval,↓reduceIte];try rfl)⟩
theorem Zeu (G:Nat→V) (hE:GExp G) (sl:Sl Tk) (hT:TkOk sl.l) (g:Nat) (r:RS) (hr:Zpx sl.l r) (inner:Inner) (hin:Za3 G sl g inner r.i) (hb:Bals sl.l inner) :
  RdS 1031 [.func (.func 78) [] []] G 114 [] sl g r (.bool (Zdd sl.l inner r).1) (Zdd sl.l inner r).2:=by
 have hG:=hE.ok;have hTl:=hT.len
 have hri:r.i<1000000:=by have:=hr.1;omega
 have hrn:r.nodes.length<1000000:=by have:=hr.2;omega
 have hw:IntKind.i64.wrap ((r.i:Int)+1)=((r.i+1:Nat):Int):=by rw [w64 (by omega) (by omega)];omega
 intro gx;refine Zo 1000 107 [.tmp 2] Tryz.func114 fun X=>?_
 have hP:Zdd sl.l inner r=if (Zda sl.l r.i).kind=1 then Zhd r (Zda sl.l r.i).text
  else if (Zda sl.l r.i).kind=2 then Zfl r 2 0 (Zda sl.l r.i).text
  else if (Zda sl.l r.i).kind=0 then (false,r.err 80)
  else if (ofP (Zda sl.l r.i).text 1).2 then andThen (inner 9 r.adv) fun a=>(true,a.put ⟨(ofP (Zda sl.l r.i).text 1).1,0,[],a.last,-1,-1⟩)
  else if (Zda sl.l r.i).text=[40] then andThen (inner 1 r.adv) (Zeg sl.l [41])
  else if (Zda sl.l r.i).text=wIf then Zjb sl.l inner r
  else if (ofP (Zda sl.l r.i).text 0).2∧(Zda sl.l r.i).kind=3 then Zfl r (ofP (Zda sl.l r.i).text 0).1 0 []
  else (false,r.err 80):=rfl
 have htl:=Znm hT r.i;have hadv:(Zda sl.l r.i).kind≠0→Zpx sl.l r.adv:=fun h=>(Bal.adv (Zdf h)).ok hr
 have hno0:(Zda sl.l r.i).kind=0→(ofP (Zda sl.l r.i).text 0).2=false:=fun h=>by
  unfold ofP
  cases ho:ofI (Zda sl.l r.i).text 0 with
  | none=>rfl
  | some i =>
   have hk:=Zql sl.l r.i;rw [h] at hk
   rcases Zxp ho with ⟨h,_⟩ | ⟨h,_⟩
   ·rw [h] at hk;exact absurd hk (by decide)
   ·rw [h] at hk;exact absurd hk (by decide)
 refine Z1 ?_;refine Z1 ?_;refine RdS.call hG (Z2j G hE sl hT g r hri) (gx:=gx) (by kernel_rfl) (fun F=>rfl) (by decide) (by first | rfl | (simp -implicitDefEqProofs only[go_sem,seval,↓reduceIte,List.map_cons,List.map_nil,Zj];try rfl)) (by first | rfl | (simp -implicitDefEqProofs only[go_sem,seval,↓reduceIte,List.map_cons,List.map_nil];try rfl)) (by first | rfl | (simp -implicitDefEqProofs only[go_sem,seval,↓reduceIte];try rfl)) (by first | rfl | (simp -implicitDefEqProofs only[go_sem,seval,↓reduceIte];try rfl)) fun gx1=>?_;simp -implicitDefEqProofs only[go_sem,seval,↓reduceIte,Zrb];refine Zsf @Zdg ?_;intro g3;generalize Zda sl.l r.i=t at hP htl hadv hno0 ⊢;obtain ⟨k,t,p⟩:=t;simp only at hP htl hadv hno0;refine Z1 ?_;refine Zn hG ?_ (s:=(Z9o G hG t 1));generalize ofP t 1=o1 at hP ⊢;obtain ⟨op1,one⟩:=o1;simp only at hP;simp -implicitDefEqProofs only[go_sem,seval,↓reduceIte,Zj5]
 refine Zyb (fun (_:Unit)=>st [(0,.ptr 8 g 0),(3,.ptr 1003 g3 0)] [(1003,.cells .new g3 0 [.int .u8 k,.str t,.int .i64 p]),(8,rdO 1031 [.func (.func 78) [] []] sl g gx1 r),(1031,ndO gx1 r.nodes)])
  (fun _=>(k=0∨(k≠0∧k≠1∧k≠2∧one=false∧t≠[40]∧t≠wIf))) (fun K1 hK1=>?_) ?_
 ·refine AW.block ?_
  by_cases k1:k=1
  ·have e1:(k==1)=true:=by simpa using k1
   rw [if_pos k1] at hP;refine Z1f e1 ?_;refine Zd rfl (fun h2=>?_) (fun h2=>?_)
   ·refine Z1 ?_
    refine RdS.call hG (Zvr G hE sl g r hri hrn t htl) (gx:=gx1) (by kernel_rfl) (fun F=>rfl) (by decide) (by first | rfl | (simp -implicitDefEqProofs only[go_sem,seval,↓reduceIte,List.map_cons,List.map_nil,Zj];try rfl)) (by first | rfl | (simp -implicitDefEqProofs only[go_sem,seval,↓reduceIte,List.map_cons,List.map_nil];try rfl)) (by first | rfl | (simp -implicitDefEqProofs only[go_sem,seval,↓reduceIte];try rfl)) (by first | rfl | (simp -implicitDefEqProofs only[go_sem,seval,↓reduceIte];try rfl)) fun gx2=>?_;simp -implicitDefEqProofs only[go_sem,seval,↓reduceIte,Zrb];refine Z ?_;rw [hP];exact ⟨rfl,gx2,by first | rfl | (simp -implicitDefEqProofs only[go_sem,seval,↓reduceIte];try rfl),by first | rfl | (simp -implicitDefEqProofs only[go_sem,seval,↓reduceIte];try rfl)⟩
   ·cases h2
  have e1:(k==1)=false:=by simpa using k1
  rw [if_neg k1] at hP;refine Z1f e1 ?_;refine Z8 rfl ?_
  try clear h2
  by_cases k2:k=2
  ·have e2:(k==2)=true:=by simpa using k2
   rw [if_pos k2] at hP;refine Z1f e2 ?_;refine Zd rfl (fun h2=>?_) (fun h2=>?_)
   ·refine Z1 ?_
    rw [← Zj ⟨2,0,t,0,0,0⟩];refine RdS.call hG (Z3j G hG sl g r hri hrn 2 0 t 0 0 0) (gx:=gx1) (by kernel_rfl) (fun F=>rfl) (by decide) (by first | rfl | (simp -implicitDefEqProofs only[go_sem,seval,↓reduceIte,List.map_cons,List.map_nil,Zj];try rfl)) (by first | rfl | (simp -implicitDefEqProofs only[go_sem,seval,↓reduceIte,List.map_cons,List.map_nil];try rfl)) (by first | rfl | (simp -implicitDefEqProofs only[go_sem,seval,↓reduceIte];try rfl)) (by first | rfl | (simp -implicitDefEqProofs only[go_sem,seval,↓reduceIte];try rfl)) fun gx2=>?_;simp -implicitDefEqProofs only[go_sem,seval,↓reduceIte,Zrb];refine Z ?_;rw [hP];exact ⟨rfl,gx2,by first | rfl | (simp -implicitDefEqProofs only[go_sem,seval,↓reduceIte];try rfl),by first | rfl | (simp -implicitDefEqProofs only[go_sem,seval,↓reduceIte];try rfl)⟩
   ·cases h2
  have e2:(k==2)=false:=by simpa using k2
  rw [if_neg k2] at hP;refine Z1f e2 ?_;refine Z8 rfl ?_
  try clear h2
  by_cases k0:k=0
  ·have e0:(k==0)=true:=by simpa using k0
   refine Z1f e0 ?_;refine Zd rfl (fun h2=>?_) (fun h2=>?_)
   ·refine Z0 ?_
    exact hK1 _ () (.inl k0) (Zg zp zp)
   ·cases h2
  have e0:(k==0)=false:=by simpa using k0
  rw [if_neg k0] at hP;have had:=hadv k0;refine Z1f e0 ?_;refine Z8 rfl ?_
  try clear h2
  refine Z1 ?_;refine Zd rfl (fun h3=>?_) (fun h3=>?_)
  ·subst h3
   rw [if_pos rfl] at hP;have hc:=hin 9 r.adv (by decide) (by decide) (Nat.lt_succ_self _) had;have hbl:=(hb 9 r.adv).ok had;generalize inner 9 r.adv=x at hc hP hbl;obtain ⟨b,a⟩:=x;simp only at hc hbl
   have han:a.nodes.length<1000000:=by have:=hbl.1;have:=hbl.2;omega
   refine Z1f (zi @Zzd hw) ?_
   cases b with
   | false =>
    refine Z1f @Zzd ?_;refine RdS.call hG (hc) (gx:=gx1) (by kernel_rfl) (fun F=>rfl) (by decide) (by first | rfl | (simp -implicitDefEqProofs only[go_sem,seval,↓reduceIte,List.map_cons,List.map_nil,Zj];try rfl)) (by first | rfl | (simp -implicitDefEqProofs only[go_sem,seval,↓reduceIte,List.map_cons,List.map_nil];try rfl)) (by first | rfl | (simp -implicitDefEqProofs only[go_sem,seval,↓reduceIte];try rfl)) (by first | rfl | (simp -implicitDefEqProofs only[go_sem,seval,↓reduceIte];try rfl)) fun gx2=>?_;simp -implicitDefEqProofs only[go_sem,seval,↓reduceIte,Zrb];refine Z ?_;rw [hP];exact ⟨rfl,gx2,by first | rfl | (simp -implicitDefEqProofs only[go_sem,seval,↓reduceIte];try rfl),by first | rfl | (simp -implicitDefEqProofs only[go_sem,seval,↓reduceIte];try rfl)⟩
   | true =>
    refine Z1f @Zzd ?_;refine RdS.call hG (hc) (gx:=gx1) (by kernel_rfl) (fun F=>rfl) (by decide) (by first | rfl | (simp -implicitDefEqProofs only[go_sem,seval,↓reduceIte,List.map_cons,List.map_nil,Zj];try rfl)) (by first | rfl | (simp -implicitDefEqProofs only[go_sem,seval,↓reduceIte,List.map_cons,List.map_nil];try rfl)) (by first | rfl | (simp -implicitDefEqProofs only[go_sem,seval,↓reduceIte];try rfl)) (by first | rfl | (simp -implicitDefEqProofs only[go_sem,seval,↓reduceIte];try rfl)) fun gx2=>?_;simp -implicitDefEqProofs only[go_sem,seval,↓reduceIte,Zrb];refine RdS.call hG (Zch G hG sl g a han) (gx:=gx2) (by kernel_rfl) (fun F=>rfl) (by decide) (by first | rfl | (simp -implicitDefEqProofs only[go_sem,seval,↓reduceIte,List.map_cons,List.map_nil,Zj];try rfl)) (by first | rfl | (simp -implicitDefEqProofs only[go_sem,seval,↓reduceIte,List.map_cons,List.map_nil];try rfl)) (by first | rfl | (simp -implicitDefEqProofs only[go_sem,seval,↓reduceIte];try rfl)) (by first | rfl | (simp -implicitDefEqProofs only[go_sem,seval,↓reduceIte];try rfl)) fun gx3=>?_;simp -implicitDefEqProofs only[go_sem,seval,↓reduceIte,Zrb];intro g58;refine Zoe (fun o=>o==1058) [.ptr 8 g 0,Zw ⟨op1,0,[],0,0,0⟩,.slice .new false 1 [.int .i64 a.last]] [(8,rdO 1031 [.func (.func 78) [] []] sl g gx3 a),(1031,ndO gx3 a.nodes)] ⟨Zl _,Zl _,?_,trivial⟩ ?_ ?_
    ·exact Zog (f:=V.int .i64) (l:=[a.last]) (m:=1) (g:=g58) (fz:=0) (c := .new) rfl zp (fun _=>rfl)
    ·simp only [Zy,Z2,and_true]
     exact ⟨FzO.keep rfl zp,FzO.keep rfl zp⟩
    refine RdS.call hG (Zyi G hG sl g a han ⟨op1,0,[],0,0,0⟩ .old (.mk false [a.last]) (Nat.le_of_ble_eq_true rfl)) (gx:=gx3) (by kernel_rfl) (fun F=>rfl) (by decide) (by first | rfl | (simp -implicitDefEqProofs only[go_sem,seval,↓reduceIte,List.map_cons,List.map_nil,Zj];try rfl)) (by first | rfl | (simp -implicitDefEqProofs only[go_sem,seval,↓reduceIte,List.map_cons,List.map_nil];try rfl)) (by first | rfl | (simp -implicitDefEqProofs only[go_sem,seval,↓reduceIte];try rfl)) (by first | rfl | (simp -implicitDefEqProofs only[go_sem,seval,↓reduceIte];try rfl)) fun gx4=>?_;simp -implicitDefEqProofs only[go_sem,seval,↓reduceIte,Zrb];refine Z ?_;rw [hP];exact ⟨rfl,gx4,by first | rfl | (simp -implicitDefEqProofs only[go_sem,seval,↓reduceIte];try rfl),by first | rfl | (simp -implicitDefEqProofs only[go_sem,seval,↓reduceIte];try rfl)⟩
  ·subst h3
   rw [if_neg (by simp)] at hP;refine Z1 ?_;refine Zd rfl (fun h4=>?_) (fun h4=>?_)
   ·have h4:t=[40]:=by simpa using h4
    rw [if_pos h4] at hP;have hc:=hin 1 r.adv (by decide) (by decide) (Nat.lt_succ_self _) had;have hbl:=(hb 1 r.adv).ok had;generalize inner 1 r.adv=x at hc hP hbl;obtain ⟨b,a⟩:=x;simp only at hc hbl
    have hai:a.i<1000000:=by have:=hbl.1;omega
    refine Z1f (zi @Zzd hw) ?_
    cases b with
    | false =>
     refine Z1f @Zzd ?_;refine RdS.call hG (hc) (gx:=gx1) (by kernel_rfl) (fun F=>rfl) (by decide) (by first | rfl | (simp -implicitDefEqProofs only[go_sem,seval,↓reduceIte,List.map_cons,List.map_nil,Zj];try rfl)) (by first | rfl | (simp -implicitDefEqProofs only[go_sem,seval,↓reduceIte,List.map_cons,List.map_nil];try rfl)) (by first | rfl | (simp -implicitDefEqProofs only[go_sem,seval,↓reduceIte];try rfl)) (by first | rfl | (simp -implicitDefEqProofs only[go_sem,seval,↓reduceIte];try rfl)) fun gx2=>?_;simp -implicitDefEqProofs only[go_sem,seval,↓reduceIte,Zrb];refine Z ?_;rw [hP];exact ⟨rfl,gx2,by first | rfl | (simp -implicitDefEqProofs only[go_sem,seval,↓reduceIte];try rfl),by first | rfl | (simp -implicitDefEqProofs only[go_sem,seval,↓reduceIte];try rfl)⟩
    | true =>
     rw [Zcd] at hP;refine Z1f @Zzd ?_;refine RdS.call hG (hc) (gx:=gx1) (by kernel_rfl) (fun F=>rfl) (by decide) (by first | rfl | (simp -implicitDefEqProofs only[go_sem,seval,↓reduceIte,List.map_cons,List.map_nil,Zj];try rfl)) (by first | rfl | (simp -implicitDefEqProofs only[go_sem,seval,↓reduceIte,List.map_cons,List.map_nil];try rfl)) (by first | rfl | (simp -implicitDefEqProofs only[go_sem,seval,↓reduceIte];try rfl)) (by first | rfl | (simp -implicitDefEqProofs only[go_sem,seval,↓reduceIte];try rfl)) fun gx2=>?_;simp -implicitDefEqProofs only[go_sem,seval,↓reduceIte,Zrb];refine RdS.call hG (Zvl G hE sl hT g a hai [41]) (gx:=gx2) (by kernel_rfl) (fun F=>rfl) (by decide) (by first | rfl | (simp -implicitDefEqProofs only[go_sem,seval,↓reduceIte,List.map_cons,List.map_nil,Zj];try rfl)) (by first | rfl | (simp -implicitDefEqProofs only[go_sem,seval,↓reduceIte,List.map_cons,List.map_nil];try rfl)) (by first | rfl | (simp -implicitDefEqProofs only[go_sem,seval,↓reduceIte];try rfl)) (by first | rfl | (simp -implicitDefEqProofs only[go_sem,seval,↓reduceIte];try rfl)) fun gx3=>?_;simp -implicitDefEqProofs only[go_sem,seval,↓reduceIte,Zrb];generalize Zeg sl.l [41] a=y at hP ⊢;obtain ⟨b,a2⟩:=y
     cases b with
     | true =>
      refine Zs ?_;refine Z ?_;rw [hP];exact ⟨rfl,gx3,by first | rfl | (simp -implicitDefEqProofs only[go_sem,seval,↓reduceIte];try rfl),by first | rfl | (simp -implicitDefEqProofs only[go_sem,seval,↓reduceIte];try rfl)⟩
     | false =>
      refine Zs ?_;refine Z ?_;rw [hP];exact ⟨rfl,gx3,by first | rfl | (simp -implicitDefEqProofs only[go_sem,seval,↓reduceIte];try rfl),by first | rfl | (simp -implicitDefEqProofs only[go_sem,seval,↓reduceIte];try rfl)⟩
   ·have h4:¬ t=[40]:=by simpa using h4
    rw [if_neg h4] at hP;refine Z1 ?_;refine Zd rfl (fun h5=>?_) (fun h5=>?_)
    ·have h5:t=wIf:=by
      have h5:(t==[105,102])=true:=h5;exact eq_of_beq h5
     rw [if_pos h5] at hP;refine Z1 ?_;refine RdS.call hG (Z2n G hE sl hT g r hr inner hin hb) (gx:=gx1) (by kernel_rfl) (fun F=>rfl) (by decide) (by first | rfl | (simp -implicitDefEqProofs only[go_sem,seval,↓reduceIte,List.map_cons,List.map_nil,Zj];try rfl)) (by first | rfl | (simp -implicitDefEqProofs only[go_sem,seval,↓reduceIte,List.map_cons,List.map_nil];try rfl)) (by first | rfl | (simp -implicitDefEqProofs only[go_sem,seval,↓reduceIte];try rfl)) (by first | rfl | (simp -implicitDefEqProofs only[go_sem,seval,↓reduceIte];try rfl)) fun gx2=>?_;simp -implicitDefEqProofs only[go_sem,seval,↓reduceIte,Zrb];refine Z ?_;rw [hP];exact ⟨rfl,gx2,by first | rfl | (simp -implicitDefEqProofs only[go_sem,seval,↓reduceIte];try rfl),by first | rfl | (simp -implicitDefEqProofs only[go_sem,seval,↓reduceIte];try rfl)⟩
    ·have h5:¬ t=wIf:=by
      have h5:(t==[105,102])=false:=h5;exact beq_eq_false_iff_ne.1 h5
     refine Z0 ?_;exact hK1 _ () (.inr ⟨k0,k1,k2,rfl,h4,h5⟩) (Zg zp zp)
 rintro _ hcase
 have hP2:Zdd sl.l inner r=if (ofP t 0).2∧k=3 then Zfl r (ofP t 0).1 0 [] else (false,r.err 80):=by
  rw [hP]
  rcases hcase with k0 | ⟨k0,k1,k2,k3,k4,k5⟩
  ·have:=hno0 k0
   subst k0;rw [if_neg (by decide),if_neg (by decide),if_pos rfl,this,if_neg (by simp)]
  ·rw [if_neg k1,if_neg k2,if_neg k0,k3,if_neg (by simp),if_neg k4,if_neg k5]
 try clear hP
 have hP:=hP2
 try clear hP2 hno0 hcase
 refine Z1 ?_;refine Zn hG ?_ (s:=(Z9o G hG t 0));generalize ofP t 0=o0 at hP ⊢;obtain ⟨op0,ok⟩:=o0;simp only at hP;simp -implicitDefEqProofs only[go_sem,seval,↓reduceIte,Zj5]
 cases ok with
 | false =>
  rw [if_neg (by simp)] at hP;refine Z1 ?_;refine Z8 rfl ?_
  ·refine Zf @Zzd ?_
   rw [hP];exact ⟨rfl,gx1,by first | rfl | (simp -implicitDefEqProofs only[go_sem,seval,↓reduceIte];try rfl),by first | rfl | (simp -implicitDefEqProofs only[go_sem,seval,↓reduceIte];try rfl)⟩
 | true =>
  by_cases k3:k=3
  ·have e3:(k==3)=true:=by simpa using k3
   rw [if_pos ⟨rfl,k3⟩] at hP;refine Z1f e3 ?_;refine Zd rfl (fun h7=>?_) (fun h7=>?_)
   ·refine Z1 ?_
    rw [← Zj ⟨op0,0,[],0,0,0⟩];refine RdS.call hG (Z3j G hG sl g r hri hrn op0 0 [] 0 0 0) (gx:=gx1) (by kernel_rfl) (fun F=>rfl) (by decide) (by first | rfl | (simp -implicitDefEqProofs only[go_sem,seval,↓reduceIte,List.map_cons,List.map_nil,Zj];try rfl)) (by first | rfl | (simp -implicitDefEqProofs only[go_sem,seval,↓reduceIte,List.map_cons,List.map_nil];try rfl)) (by first | rfl | (simp -implicitDefEqProofs only[go_sem,seval,↓reduceIte];try rfl)) (by first | rfl | (simp -implicitDefEqProofs only[go_sem,seval,↓reduceIte];try rfl)) fun gx2=>?_;simp -implicitDefEqProofs only[go_sem,seval,↓reduceIte,Zrb];refine Z ?_;rw [hP];exact ⟨rfl,gx2,by first | rfl | (simp -implicitDefEqProofs only[go_sem,seval,↓reduceIte];try rfl),by first | rfl | (simp -implicitDefEqProofs only[go_sem,seval,↓reduceIte];try rfl)⟩
   ·cases h7
  ·have e3:(k==3)=false:=by simpa using k3
   rw [if_neg (fun h=>k3 h.2)] at hP;refine Z1f e3 ?_;refine Z8 rfl ?_
   ·refine Zf @Zzd ?_
    rw [hP];exact ⟨rfl,gx1,by first | rfl | (simp -implicitDefEqProofs only[go_sem,seval,↓reduceIte];try rfl),by first | rfl | (simp -implicitDefEqProofs only[go_sem,seval,↓reduceIte];try rfl)⟩
end Go.Hs
end

section
namespace Go.Hs
open Go.Proofs
set_option maxRecDepth 10000
theorem Zwy (l:List Tk) (inner:Inner) (n:Int) (m:Nat) (r:RS):Zkf l inner n (m+1) r=match Zqo l r.i with
  | none=>(true,r)
  | some op=>if lvl op<n then (true,r) else andThen (inner (lvl op+1) r.adv) fun a=>Zkf l inner n m (a.put ⟨op,0,[],r.last,a.last,-1⟩):=rfl
theorem Zs4 {l:List Tk} {i:Nat}:((Zda l i).kind=0∨(ofP (Zda l i).text 2).2=false→Zqo l i=none)∧((Zda l i).kind≠0→(ofP (Zda l i).text 2).2=true→Zqo l i=some (ofP (Zda l i).text 2).1):=by
 unfold Zqo ofP
 constructor
 ·rintro (h | h)
  ·rw [if_pos h]
  ·split
   ·rfl
   ·cases ho:ofI (Zda l i).text 2 with
    | none=>rfl
    | some op=>rw [ho] at h;cases h
 ·intro h h2
  rw [if_neg h]
  cases ho:ofI (Zda l i).text 2 with
  | none=>rw [ho] at h2;cases h2
  | some op=>rfl
theorem ofP_lt (t:List UInt8) (p:Int):(ofP t p).1<23:=by
 unfold ofP
 split
 ·rename_i h;exact Zd6 h
 ·decide
theorem Zdu (G:Nat→V) (hE:GExp G) (sl:Sl Tk) (hT:TkOk sl.l) (g:Nat):∀ (f:Nat) (n:Int) (r:RS),1≤n→n≤9→sl.l.length<f+r.i→Zpx sl.l r →
  RdS 1031 [.func (.func 78) [] []] G 78 [.int .i64 n] sl g r (.bool (Zba sl.l f n r).1) (Zba sl.l f n r).2:=by
 have hG:=hE.ok;have hTl:=hT.len;intro f
 induction f with
 | zero=>intro n r _ _ hf hr;have:=hr.1;omega
 | succ f ih =>
 intro n r hn1 hn9 hf hr gx;have hin:∀ i0,r.i≤i0→Za3 G sl g (Zba sl.l f) i0:=fun i0 hi0 n' r' h1 h9 hi hr'=>ih n' r' h1 h9 (by omega) hr';have hbs:=Z1d sl.l f;have hP:Zba sl.l (f+1) n r=andThen (Zdd sl.l (Zba sl.l f) r) (Zkf sl.l (Zba sl.l f) n (sl.l.length+1)):=rfl;generalize Zba sl.l (f+1) n r=res at hP ⊢;refine Zo 1000 65 [.tmp 4] Tryz.func78 fun X=>?_;have hah:=Zeu G hE sl hT g r hr _ (hin r.i (Nat.le_refl _)) hbs;have hab:=Zqk hbs r;generalize Zdd sl.l (Zba sl.l f) r=y at hP hah hab;obtain ⟨b,q0⟩:=y;simp only at hah hab;refine Z1 ?_;refine Zv ?_
 cases b with
 | false =>
  rw [Znd] at hP;refine Z1 ?_;refine RdS.call hG (hah) (gx:=gx) (by kernel_rfl) (fun F=>rfl) (by decide) (by first | rfl | (simp -implicitDefEqProofs only[go_sem,seval,↓reduceIte,List.map_cons,List.map_nil,Zj];try rfl)) (by first | rfl | (simp -implicitDefEqProofs only[go_sem,seval,↓reduceIte,List.map_cons,List.map_nil];try rfl)) (by first | rfl | (simp -implicitDefEqProofs only[go_sem,seval,↓reduceIte];try rfl)) (by first | rfl | (simp -implicitDefEqProofs only[go_sem,seval,↓reduceIte];try rfl)) fun gx1=>?_;simp -implicitDefEqProofs only[go_sem,seval,↓reduceIte,Zrb];refine Zd rfl (fun h2=>?_) (fun h2=>?_)
  ·refine Z ?_
   rw [hP];exact ⟨rfl,gx1,by first | rfl | (simp -implicitDefEqProofs only[go_sem,seval,↓reduceIte];try rfl),by first | rfl | (simp -implicitDefEqProofs only[go_sem,seval,↓reduceIte];try rfl)⟩
  ·cases h2
 | true =>
 rw [Zcd] at hP;have hq0:=hab.ok hr;refine Z1 ?_;refine RdS.call hG (hah) (gx:=gx) (by kernel_rfl) (fun F=>rfl) (by decide) (by first | rfl | (simp -implicitDefEqProofs only[go_sem,seval,↓reduceIte,List.map_cons,List.map_nil,Zj];try rfl)) (by first | rfl | (simp -implicitDefEqProofs only[go_sem,seval,↓reduceIte,List.map_cons,List.map_nil];try rfl)) (by first | rfl | (simp -implicitDefEqProofs only[go_sem,seval,↓reduceIte];try rfl)) (by first | rfl | (simp -implicitDefEqProofs only[go_sem,seval,↓reduceIte];try rfl)) fun gx1=>?_;simp -implicitDefEqProofs only[go_sem,seval,↓reduceIte,Zrb];refine Z1 ?_;refine Zn hG ?_ (s:=(Z5h G hG));refine Zsf (zi @Zku (zi @Zip @Nat.le_refl)) ?_;intro g5;rw [Z3l _ ?hl]
 case hl=>rfl
 refine AW.block ?_
 refine Zig (fun (x:Nat × Nat × RS)=>st [(0,.ptr 8 g 0),(1,.int .i64 n),(5,.ptr 1005 g5 0)] [(1005,.cells .new g5 0 tabC),(8,rdO 1031 [.func (.func 78) [] []] sl g x.1 x.2.2),(1031,ndO x.1 x.2.2.nodes)])
  (fun x=>res=Zkf sl.l (Zba sl.l f) n x.2.1 x.2.2∧Zpx sl.l x.2.2∧r.i≤x.2.2.i∧sl.l.length<x.2.1+x.2.2.i) (fun x=>x.2.1) (gx1,sl.l.length+1,q0) ⟨hP,hq0,hab.up,Nat.lt_add_right _ (Nat.lt_succ_self _)⟩
  (Zg zp zp) ?_
 try clear hP
 rintro ⟨gy,m,q⟩ ⟨hP,hq,hqi,hm⟩ L3 hL3
 replace hP:res=Zkf sl.l (Zba sl.l f) n m q:=hP
 replace hq:Zpx sl.l q:=hq
 replace hqi:r.i≤q.i:=hqi
 replace hm:sl.l.length<m+q.i:=hm
 obtain ⟨m,rfl⟩:∃ m',m=m'+1:=⟨m-1,by have:=hq.1;omega⟩
 have hqI:q.i<1000000:=by have:=hq.1;omega
 have hqn:q.nodes.length<1000000:=by have:=hq.1;have:=hq.2;omega
 rw [Zwy] at hP;have hop:=Zs4 (l:=sl.l) (i:=q.i);have hlt23:=ofP_lt (Zda sl.l q.i).text 2;have htl:=Znm hT q.i
 have hbnd:∀ op,Zqo sl.l q.i=some op→1≤lvl op∧lvl op≤8:=fun op h=>by have:=Zf1 h;exact ⟨this.2.2.1,this.2.2.2⟩
 have hilt:∀ op,Zqo sl.l q.i=some op→q.i<sl.l.length:=fun op h=>Zmm h;refine Z1 ?_;refine RdS.call hG (Z2j G hE sl hT g q hqI) (gx:=gy) (by kernel_rfl) (fun F=>rfl) (by decide) (by first | rfl | (simp -implicitDefEqProofs only[go_sem,seval,↓reduceIte,List.map_cons,List.map_nil,Zj];try rfl)) (by first | rfl | (simp -implicitDefEqProofs only[go_sem,seval,↓reduceIte,List.map_cons,List.map_nil];try rfl)) (by first | rfl | (simp -implicitDefEqProofs only[go_sem,seval,↓reduceIte];try rfl)) (by first | rfl | (simp -implicitDefEqProofs only[go_sem,seval,↓reduceIte];try rfl)) fun gz=>?_;simp -implicitDefEqProofs only[go_sem,seval,↓reduceIte,Zrb];refine Zsf @Zdg ?_;intro g6;generalize Zqo sl.l q.i=oa at hP hop hbnd hilt;generalize Zda sl.l q.i=t at hop hlt23 htl ⊢;obtain ⟨k,t,p⟩:=t;simp only at hop hlt23 htl;refine Z1 ?_;refine Zn hG ?_ (s:=(Z9o G hG t 2));generalize ofP t 2=o2 at hop hlt23 ⊢;obtain ⟨op,ok⟩:=o2;simp only at hop hlt23;simp -implicitDefEqProofs only[go_sem,seval,↓reduceIte,Zj5];have hlv:=Z23 op hlt23
 have hi23:(op:Int)<23:=by omega
 refine Z1f (zi hi23 (zi @Int.natCast_nonneg (zi hlv @Nat.zero_add))) ?_;refine Zv ?_
 cases ok with
 | false =>
  rw [hop.1 (.inr rfl)] at hP;refine Z1 ?_;refine Zd rfl (fun h9=>?_) (fun h9=>?_)
  ·refine Z ?_
   rw [hP];exact ⟨rfl,gz,by first | rfl | (simp -implicitDefEqProofs only[go_sem,seval,↓reduceIte];try rfl),by first | rfl | (simp -implicitDefEqProofs only[go_sem,seval,↓reduceIte];try rfl)⟩
  ·cases h9
 | true =>
 by_cases hk:k=0
 ·have e1:(k==0)=true:=by simpa using hk
  rw [hop.1 (.inl hk)] at hP;refine Z1f e1 ?_;refine Zd rfl (fun h9=>?_) (fun h9=>?_)
  ·refine Z ?_
   rw [hP];exact ⟨rfl,gz,by first | rfl | (simp -implicitDefEqProofs only[go_sem,seval,↓reduceIte];try rfl),by first | rfl | (simp -implicitDefEqProofs only[go_sem,seval,↓reduceIte];try rfl)⟩
  ·cases h9
 have e1:(k==0)=false:=by simpa using hk
 have hoa:=hop.2 hk rfl;rw [hoa] at hP;simp only at hP;obtain ⟨hl1,hl8⟩:=hbnd op hoa;have hil:=hilt op hoa;generalize lvl op=lv at hP hl1 hl8 ⊢
 by_cases hlt:lv<n
 ·have e2:decide (lv<n)=true:=by simpa using hlt
  rw [if_pos hlt] at hP;refine Z1f (zi e1 e2) ?_;refine Zd rfl (fun h9=>?_) (fun h9=>?_)
  ·refine Z ?_
   rw [hP];exact ⟨rfl,gz,by first | rfl | (simp -implicitDefEqProofs only[go_sem,seval,↓reduceIte];try rfl),by first | rfl | (simp -implicitDefEqProofs only[go_sem,seval,↓reduceIte];try rfl)⟩
  ·cases h9
 have e2:decide (lv<n)=false:=by simpa using hlt
 rw [if_neg hlt] at hP;refine Z1f (zi e1 e2) ?_;refine Z0 ?_
 have hw:IntKind.i64.wrap ((q.i:Int)+1)=((q.i+1:Nat):Int):=by rw [w64 (by omega) (by omega)];omega
 have hw2:IntKind.i64.wrap (lv+1)=lv+1:=w64 (by omega) (by omega);have hadv:Zpx sl.l q.adv:=(Bal.adv hil).ok hq;have hc:=ih (lv+1) q.adv (by omega) (by omega) (by show sl.l.length<f+(q.i+1);omega) hadv;have hcb:=hbs (lv+1) q.adv;generalize Zba sl.l f (lv+1) q.adv=z at hP hc hcb;obtain ⟨b,a⟩:=z;simp only at hc hcb;have ha:=hcb.ok hadv;have haup:q.i+1≤a.i:=hcb.up
 have han:a.nodes.length<1000000:=by have:=ha.1;have:=ha.2;omega
 refine Z1 ?_;refine RdS.call hG (Zch G hG sl g q hqn) (gx:=gz) (by kernel_rfl) (fun F=>rfl) (by decide) (by first | rfl | (simp -implicitDefEqProofs only[go_sem,seval,↓reduceIte,List.map_cons,List.map_nil,Zj];try rfl)) (by first | rfl | (simp -implicitDefEqProofs only[go_sem,seval,↓reduceIte,List.map_cons,List.map_nil];try rfl)) (by first | rfl | (simp -implicitDefEqProofs only[go_sem,seval,↓reduceIte];try rfl)) (by first | rfl | (simp -implicitDefEqProofs only[go_sem,seval,↓reduceIte];try rfl)) fun gz1=>?_;simp -implicitDefEqProofs only[go_sem,seval,↓reduceIte,Zrb];refine Z1f (zi @Zzd hw) ?_;refine Zv ?_
 cases b with
 | false =>
  rw [Znd] at hP;refine Z1f (zi @Zzd hw2) ?_;refine RdS.call hG (hc) (gx:=gz1) (by kernel_rfl) (fun F=>rfl) (by decide) (by first | rfl | (simp -implicitDefEqProofs only[go_sem,seval,↓reduceIte,List.map_cons,List.map_nil,Zj];try rfl)) (by first | rfl | (simp -implicitDefEqProofs only[go_sem,seval,↓reduceIte,List.map_cons,List.map_nil];try rfl)) (by first | rfl | (simp -implicitDefEqProofs only[go_sem,seval,↓reduceIte];try rfl)) (by first | rfl | (simp -implicitDefEqProofs only[go_sem,seval,↓reduceIte];try rfl)) fun gz2=>?_;simp -implicitDefEqProofs only[go_sem,seval,↓reduceIte,Zrb];refine Zd rfl (fun h11=>?_) (fun h11=>?_)
  ·refine Z ?_
   rw [hP];exact ⟨rfl,gz2,by first | rfl | (simp -implicitDefEqProofs only[go_sem,seval,↓reduceIte];try rfl),by first | rfl | (simp -implicitDefEqProofs only[go_sem,seval,↓reduceIte];try rfl)⟩
  ·cases h11
 | true =>
  rw [Zcd] at hP;refine Z1f (zi @Zzd hw2) ?_;refine RdS.call hG (hc) (gx:=gz1) (by kernel_rfl) (fun F=>rfl) (by decide) (by first | rfl | (simp -implicitDefEqProofs only[go_sem,seval,↓reduceIte,List.map_cons,List.map_nil,Zj];try rfl)) (by first | rfl | (simp -implicitDefEqProofs only[go_sem,seval,↓reduceIte,List.map_cons,List.map_nil];try rfl)) (by first | rfl | (simp -implicitDefEqProofs only[go_sem,seval,↓reduceIte];try rfl)) (by first | rfl | (simp -implicitDefEqProofs only[go_sem,seval,↓reduceIte];try rfl)) fun gz2=>?_;simp -implicitDefEqProofs only[go_sem,seval,↓reduceIte,Zrb];refine Z1 ?_;refine RdS.call hG (Zch G hG sl g a han) (gx:=gz2) (by kernel_rfl) (fun F=>rfl) (by decide) (by first | rfl | (simp -implicitDefEqProofs only[go_sem,seval,↓reduceIte,List.map_cons,List.map_nil,Zj];try rfl)) (by first | rfl | (simp -implicitDefEqProofs only[go_sem,seval,↓reduceIte,List.map_cons,List.map_nil];try rfl)) (by first | rfl | (simp -implicitDefEqProofs only[go_sem,seval,↓reduceIte];try rfl)) (by first | rfl | (simp -implicitDefEqProofs only[go_sem,seval,↓reduceIte];try rfl)) fun gz3=>?_;simp -implicitDefEqProofs only[go_sem,seval,↓reduceIte,Zrb];intro g63;refine Zoe (fun o=>o==1063) [.ptr 8 g 0,Zw ⟨op,0,[],0,0,0⟩,.slice .new false 1 [.int .i64 q.last,.int .i64 a.last]] [(8,rdO 1031 [.func (.func 78) [] []] sl g gz3 a),(1031,ndO gz3 a.nodes),(1005,.cells .new g5 0 tabC)] ⟨Zl _,Zl _,?_,trivial⟩ ?_ ?_
  ·exact Zog (f:=V.int .i64) (l:=[q.last,a.last]) (m:=1) (g:=g63) (fz:=0) (c := .new) rfl zp (fun _=>rfl)
  ·simp only [Zy,Z2,and_true]
   exact ⟨FzO.keep rfl zp,FzO.keep rfl zp,FzO.keep rfl zp⟩
  refine RdS.call hG (Zyi G hG sl g a han ⟨op,0,[],0,0,0⟩ .old (.mk false [q.last,a.last]) (Nat.le_of_ble_eq_true rfl)) (gx:=gz3) (by kernel_rfl) (fun F=>rfl) (by decide) (by first | rfl | (simp -implicitDefEqProofs only[go_sem,seval,↓reduceIte,List.map_cons,List.map_nil,Zj];try rfl)) (by first | rfl | (simp -implicitDefEqProofs only[go_sem,seval,↓reduceIte,List.map_cons,List.map_nil];try rfl)) (by first | rfl | (simp -implicitDefEqProofs only[go_sem,seval,↓reduceIte];try rfl)) (by first | rfl | (simp -implicitDefEqProofs only[go_sem,seval,↓reduceIte];try rfl)) fun gz4=>?_;simp -implicitDefEqProofs only[go_sem,seval,↓reduceIte,Zrb]
  have hres:Zpx sl.l (a.put ⟨op,0,[],q.last,a.last,-1⟩):=⟨ha.1,by
   have h1:=hcb.cnt;have h2:=hq.2
   show (a.nodes++[_]).length≤a.i
   rw [List.length_append,List.length_singleton];have h3:a.nodes.length+(q.i+1)+0≤q.nodes.length+a.i:=h1
   omega⟩
  refine hL3 _ ⟨(gz4,m,a.put ⟨op,0,[],q.last,a.last,-1⟩),Nat.lt_succ_self _,⟨hP,hres,?_,?_⟩,Zg zp (by simp -implicitDefEqProofs only[go_sem,seval,↓reduceIte];exact ⟨rfl,rfl⟩)⟩
  ·show r.i≤a.i
   omega
  ·show sl.l.length<m+a.i
   omega
end Go.Hs
end

section
namespace Go.Hs
open Go.Proofs
set_option maxRecDepth 10000
theorem Ztu (G:Nat→V) (hG:GOk G) (ca cb:Col) (a b:Sl Int) (ha:a.l.length<1000000000) :
  Spec Tryz.prog G 43 [Zb ca 1 (V.int .i64) a,Zb cb 1 (V.int .i64) b] Zu (fun v _=>v = .bool (a.l==b.l)):=by
 refine Zo 0 26 [.tmp 4] Tryz.func43 fun X=>?_;refine Z1 ?_;refine Z1 ?_;refine Zd rfl (fun h2=>?_) (fun h2=>?_)
 ·
  refine Z ?_;simp at h2 ⊢;intro e;rw [e] at h2;exact h2 rfl
 ·
  refine Z0 ?_
  have hl:a.l.length=b.l.length:=by simp at h2;omega
  refine Z1 ?_;refine AW.block ?_
  refine Z0a a.l.length (fun k (_:Unit)=>st [(0,Zb ca 1 (V.int .i64) a),(1,Zb cb 1 (V.int .i64) b),(12,.int .i64 a.l.length),(13,.int .i64 k)] []) (fun k _=>a.l.take k=b.l.take k) 0 () (Nat.zero_le _) (by simp)
   (Zg (by simp -implicitDefEqProofs only[go_sem,seval,↓reduceIte];try simp) zp) ?_
  intro k _ hk hR L4 hL4;refine Z1 ?_;refine Zv ?_;refine Zd rfl (fun h6=>?_) (fun h6=>?_)
  ·
   refine Z0 ?_
   have hk1:k<a.l.length:=by simpa using h6
   have hk2:k<b.l.length:=by omega
   refine Z1 ?_
   refine Zv <| Zx ⟨fun _ => .top,fun _ => .pure⟩ (by kernel_rfl) hG (by kernel_rfl) (by kernel_rfl) ?_
   simp -implicitDefEqProofs only[go_sem,seval,↓reduceIte,List.getElem?_eq_getElem hk1,List.getElem?_eq_getElem hk2];refine Zd rfl (fun h8=>?_) (fun h8=>?_)
   ·
    refine Z ?_;simp at h8;simp;intro e;simp [e] at h8
   ·
    refine Z0 ?_
    have h3':a.l[k]=b.l[k]:=by simpa using h8
    refine Z1 ?_;refine hL4 _ ⟨hk1,(),?_,Zg (by simp -implicitDefEqProofs only[go_sem,seval,↓reduceIte];simp;exact w64 (by omega) (by omega)) zp⟩;rw [List.take_succ_eq_append_getElem hk1,List.take_succ_eq_append_getElem hk2,hR,h3']
  ·
   refine Z0 ?_
   have hk1:k=a.l.length:=by simp at h6;omega
   refine Z ?_;subst hk1;rw [List.take_length,hl,List.take_length] at hR;simp [hR]
theorem Zsx (G:Nat→V) (hE:GExp G) (n:XN) (hn:n.name.length<100000):Spec Tryz.prog G 42 [Zw n] Zu (fun v _=>v = .bool (Zxc n)):=by
 have hG:=hE.ok;refine Zo 0 43 [.tmp 2] Tryz.func42 fun X=>?_
 have hW:Zxc n=if n.op<1∨n.op > 22∨n.num<0 then false else if n.op=2 then n.num==0 && isP n.name==2 else n.name==[] && (n.op==1 || n.num==0):=rfl
 obtain ⟨op,num,name,a,b,c⟩:=n;simp only at hn hW;simp only [Zj];refine Zi fun K hK=>AW.region (by kernel_rfl) ?_;refine Zs ?_;intro g1;refine hK _ ?_
 try clear hK K
 refine Zyb (fun (_:Unit)=>st [(1,.ptr 1 g1 0)] [(1,.cells .new g1 0 [.int .u8 op,.int .i64 num,.str name,.int .i64 a,.int .i64 b,.int .i64 c])]) (fun _=>¬ (op<1∨op > 22∨num<0)∧op≠2) (fun K1 hK1=>?_) ?_
 ·refine AW.block ?_
  by_cases h0:op<1∨op > 22∨num<0
  ·rw [if_pos h0] at hW
   have key:∀ K:AS→Prop,(K (st [(1,.ptr 1 g1 0),(3,.bool true)] [(1,.cells .new g1 0 [.int .u8 op,.int .i64 num,.str name,.int .i64 a,.int .i64 b,.int .i64 c])]))→True:=fun _ _=>trivial
   cases h1:decide (op<1)<;>cases h2:decide (op > 22)<;>cases h3:decide (num<0)
   ·simp only [decide_eq_false_iff_not] at h1 h2 h3
    rcases h0 with h | h | h
    ·exact absurd h h1
    ·exact absurd h h2
    ·exact absurd h h3
   all_goals
    (refine Zi fun K hK=>AW.region (by kernel_rfl) ?_;simp -implicitDefEqProofs only[go_sem,seval,↓reduceIte,h1,h2,h3];refine hK _ ?_;clear hK K)
    refine Zd (b:=true) zp (fun _=>?_) (fun h=>by cases h)
    (refine Zi fun K hK=>AW.region (by kernel_rfl) ?_;simp -implicitDefEqProofs only[go_sem,seval,↓reduceIte];refine hK _ ?_;clear hK K)
    (refine AW.ret ?_;simp -implicitDefEqProofs only[go_sem,seval,↓reduceIte];refine Zk ?_)
    rw [hW]
  ·have h1:decide (op<1)=false:=by rw [decide_eq_false_iff_not];exact fun h=>h0 (.inl h)
   have h2:decide (op > 22)=false:=by rw [decide_eq_false_iff_not];exact fun h=>h0 (.inr (.inl h))
   have h3:decide (num<0)=false:=by rw [decide_eq_false_iff_not];exact fun h=>h0 (.inr (.inr h))
   rw [if_neg h0] at hW;refine Zi fun K hK=>AW.region (by kernel_rfl) ?_;refine Zsf (zi h1 (zi h2 h3)) ?_;refine hK _ ?_
   try clear hK K
   refine Z8 rfl ?_
   try clear h4
   refine Zi fun K hK=>AW.region (by kernel_rfl) ?_;refine Zs ?_;refine hK _ ?_
   try clear hK K
   refine Zd rfl (fun h5=>?_) (fun h5=>?_)
   ·have h5:op=2:=by simpa using h5
    rw [if_pos h5] at hW
    cases h6:(num==0) with
    | false =>
     refine Zi fun K hK=>AW.region (by kernel_rfl) ?_;refine Zsf h6 ?_;refine hK _ ?_
     try clear hK K
     refine Z ?_
     rw [hW,h6]<;>rfl
    | true =>
     refine Zi fun K hK=>AW.region (by kernel_rfl) ?_;refine Zsf h6 ?_;refine Zc hG ?_ (s:=(Zax G hE name hn));refine hK _ ?_
     try clear hK K
     refine Z ?_;rw [hW,h6,Bool.true_and];generalize isP name=z
     cases hz:(z==2) with
     | true =>
      have:((z:Int)==2)=true:=by rw [beq_iff_eq] at hz ⊢;omega
      rw [this]
     | false =>
      have:((z:Int)==2)=false:=by rw [beq_eq_false_iff_ne] at hz ⊢;omega
      rw [this]
   ·have h5:¬ op=2:=by simpa using h5
    refine Z0 ?_;exact hK1 _ () ⟨h0,h5⟩ (Zg zp zp)
 rintro _ ⟨h0,h5⟩;rw [if_neg h0,if_neg h5] at hW
 cases h1:(name==[])<;>cases h2:(op==1)<;>cases h3:(num==0)<;>((refine Zi fun K hK=>AW.region (by kernel_rfl) ?_;simp -implicitDefEqProofs only[go_sem,seval,↓reduceIte,h1,h2,h3];refine hK _ ?_;clear hK K);(refine AW.ret ?_;simp -implicitDefEqProofs only[go_sem,seval,↓reduceIte];refine Zk ?_);rw [hW,h1,h2,h3]<;>rfl)
end Go.Hs
end

section
namespace Go.Hs
open Go.Proofs
set_option maxRecDepth 10000
def Zmf (p:Int × Int):V := .agg [.int .i64 p.1,.int .i64 p.2]
theorem Zpi (p:Int × Int):(Zmf p).cells.length=2:=rfl
theorem Zaz {l:List XN} {k:Nat} {n:XN} (h:l[k]? = some n) (i:Int) (opn:List (Int × Int)):Zmd (l.drop k) i opn=match Z5c i n opn with | some o=>Zmd (l.drop (k+1)) (i+1) o | none=>none:=by
 obtain ⟨h1,h2⟩:=List.getElem?_eq_some_iff.1 h
 rw [List.drop_eq_getElem_cons h1,h2]<;>rfl
theorem Za1 {op:Int} (h1:1≤op) (h2:op≤22):tabC[op.toNat * 3+2]? = some (.int .i64 (Zt op:Nat)):=by
 obtain ⟨n,rfl⟩:∃ n:Nat,op=n:=⟨op.toNat,by omega⟩;rw [Int.toNat_natCast,Zrw n (by omega) 2 (by decide)]
 have:∀ n:Nat,n<23→1≤n→(tabL.getD n ⟨[],0,0⟩).parts=(Zt n:Nat):=by decide +kernel
 rw [← this n (by omega) (by omega)]<;>rfl
theorem Zc2:∀ (l:List (Int × Int)) (i:Nat) (x:Int × Int),l[i]? = some x→((flat (l.map Zmf)).drop (i * 2)).take 2=[.int .i64 x.1,.int .i64 x.2]
 | [],i,x,h=>by simp at h
 | y::r,0,x,h=>by
  have:y=x:=by simpa using h
  subst this;rfl
 | y::r,i+1,x,h=>by
  have ih:=Zc2 r i x (by simpa using h);rw [← ih,List.map_cons];have:flat (Zmf y::r.map Zmf) = .int .i64 y.1 :: .int .i64 y.2::flat (r.map Zmf):=rfl;rw [this,show (i+1) * 2=i * 2+1+1 by omega,List.drop_succ_cons,List.drop_succ_cons]
def plC (l:List (Int × Int)):List V:=(Zpb l).map (V.int .i64)
theorem plC_set:∀ (l:List (Int × Int)) (j:Nat) (x:Int × Int),l[j]? = some x→j<3→Hs.setAt (plC (l.take j)) j [.int .i64 x.1]=plC (l.take (j+1)):=by
 intro l j x h hj
 match l,j,h,hj with
 | a::r,0,h,_ =>
  have:a=x:=by simpa using h
  subst this;rfl
 | a::b::r,1,h,_ =>
  have:b=x:=by simpa using h
  subst this;rfl
 | a::b::c::r,2,h,_ =>
  have:c=x:=by simpa using h
  subst this;rfl
theorem Z5s (l:List (Int × Int)) (j:Nat) (x:Int × Int) (h:l[j]? = some x):Zxb (l.take (j+1))=max (Zxb (l.take j)) x.2:=by
 unfold Zxb
 rw [List.take_add_one,h,List.foldl_append]<;>rfl
theorem plC_len (l:List (Int × Int)):(plC l).length=3:=rfl
theorem Zny (op:Int):Zt op≤3:=by
 unfold Zt
 split
 ·omega
 ·split
  ·omega
  ·split<;>omega
theorem Zbz {l:List (Int × Int)} {k:Int} (hk:0≤k) (h:∀ y∈l,(0:Int)≤y.2∧y.2≤k):0≤Zxb l∧Zxb l≤k:=by
 have:∀ (l:List (Int × Int)) (d:Int),0≤d→d≤k→(∀ y∈l,(0:Int)≤y.2∧y.2≤k)→0≤l.foldl (fun d p=>max d p.2) d∧l.foldl (fun d p=>max d p.2) d≤k:=by
  intro l
  induction l with
  | nil=>intro d h1 h2 _;exact ⟨h1,h2⟩
  | cons y r ih =>
   intro d h1 h2 h3;have:=h3 y (by simp);exact ih (max d y.2) (by omega) (by omega) fun z hz=>h3 z (by simp [hz])
 exact this l 0 (Int.le_refl _) hk h
theorem Zb2 (l:List (Int × Int)) (n:Nat):(flat (l.map Zmf)).take (n * 2)=flat ((l.take n).map Zmf):=by
 induction l generalizing n with
 | nil=>simp [flat]
 | cons y r ih =>
  cases n with
  | zero=>simp [flat]
  | succ n =>
   have e:flat ((y::r).map Zmf) = .int .i64 y.1 :: .int .i64 y.2::flat (r.map Zmf):=rfl
   rw [e,List.take_succ_cons,List.map_cons,show (n+1) * 2=n * 2+1+1 by omega,List.take_succ_cons,List.take_succ_cons,ih]<;>rfl
theorem Zre (G:Nat→V) (hE:GExp G) (c:Col) (s:Sl XN) (hs:s.l.length<1000000) (hnm:∀ n∈s.l,n.name.length<100000) :
  Spec Tryz.prog G 15 [.agg [Zb c 6 Zw s]] Zu (fun v _=>v = .int .i64 (Zia s.l)):=by
 have hG:=hE.ok;refine Zo 0 81 [.tmp 2] Tryz.func15 fun X=>?_
 have hD:Zia s.l=match Zmd s.l 0 [] with | some [x]=>x.2 | _=>0:=rfl
 have hnone:Zmd s.l 0 []=none→Zia s.l=0:=fun h=>by rw [hD,h]
 refine Z1 ?_;intro g1;refine Z1 ?_;refine Zn hG ?_ (s:=(Z5h G hG));refine Zsf (zi @Zku (zi @Zip @Nat.le_refl)) ?_;intro g3;rw [Z3l _ ?hl]
 case hl=>rfl
 refine Z1 ?_;refine Z1 ?_;refine AW.block ?_
 refine Z0a s.l.length (fun k (x:Nat × List (Int × Int))=>st [(3,.ptr 3 g3 0),(4,grown 72 x.1 2 x.2),(14,Zb c 6 Zw s),(15,.int .i64 s.l.length),(16,.int .i64 k)] [(3,.cells .new g3 0 tabC),(72,Zfb x.1 Zmf x.2)])
  (fun k x=>Zmd s.l 0 []=Zmd (s.l.drop k) k x.2∧x.2.length≤k∧∀ y∈x.2,(0:Int)≤y.2∧y.2≤k) 0 (0,[]) (Nat.zero_le _) ⟨by simp,Nat.le_refl _,by simp⟩
  (Zg zp zp) ?_
 rintro k ⟨gx,opn⟩ hk ⟨hR,hol,hdp⟩ L2 hL2
 replace hR:Zmd s.l 0 []=Zmd (s.l.drop k) k opn:=hR
 replace hol:opn.length≤k:=hol
 replace hdp:∀ y∈opn,(0:Int)≤y.2∧y.2≤k:=hdp
 refine Z1 ?_;refine Zv ?_;refine Zd rfl (fun h4=>?_) (fun h4=>?_)
 ·have hk1:k<s.l.length:=by simpa using h4
  have hg:=List.getElem?_eq_getElem hk1;have hnn:=hnm _ (List.getElem_mem hk1);generalize s.l[k]=n at hg hnn;rw [Zaz hg] at hR;refine Z1f (zi hg @Zj) ?_;intro g6;refine Z1 ?_;rw [← Zj];refine Zcf @Zih hG ?_ (s:=(Zsx G hE n hnn))
  have hst:Z5c k n opn=if Zxc n=false then none else if opn.length<Zt n.op then none
   else if Zpb (opn.drop (opn.length-Zt n.op))≠[n.a,n.b,n.c] then none
   else some (opn.take (opn.length-Zt n.op)++[((k:Int),Zxb (opn.drop (opn.length-Zt n.op))+1)]):=rfl
  cases hw:Zxc n with
  | false =>
   rw [if_pos hw] at hst;rw [hst] at hR;refine Zd rfl (fun h7=>?_) (fun h7=>?_)
   ·refine Z ?_
    rw [hnone hR]
   ·cases h7
  | true =>
  rw [if_neg (by rw [hw];simp)] at hst;refine Z0 ?_;have hrg:=Zxd hw;have hpt:=Za1 hrg.1 hrg.2;have hp3:Zt n.op≤3:=Zny _;generalize hpd:Zt n.op=p at hst hpt hp3
  have hop0:(0:Int)≤n.op:=by omega
  have hop23:n.op<23:=by omega
  have hsub:IntKind.i64.wrap ((opn.length:Int)-(p:Int))=(opn.length:Int)-p:=w64 (by omega) (by omega);refine Z1f (zi hop0 (zi hop23 (zi hpt (zi hsub @Nat.zero_add)))) ?_;refine Zv ?_
  by_cases hlt:opn.length<p
  ·have e1:decide ((opn.length:Int)-p<0)=true:=zT
   rw [if_pos hlt] at hst;rw [hst] at hR;refine Z1f e1 ?_;refine Zd rfl (fun h9=>?_) (fun h9=>?_)
   ·refine Z ?_
    rw [hnone hR]
   ·cases h9
  have e1:decide ((opn.length:Int)-p<0)=false:=zF;rw [if_neg hlt] at hst;refine Z1f e1 ?_;refine Z0 ?_;obtain ⟨kk,hkk⟩:∃ kk:Nat,kk=opn.length-p:=⟨_,rfl⟩;rw [← hkk] at hst
  have hkd:(opn.length:Int)-p=(kk:Int):=by omega
  rw [hkd];refine Z1 ?_;intro g34
  have hkl:kk+p=opn.length:=by omega
  refine Zyb (fun (_:Unit)=>st [(3,.ptr 3 g3 0),(4,grown 72 gx 2 opn),(5,.int .i64 k),(6,.ptr 6 g6 0),(7,.int .i64 kk),(8,.msl 34 g34 0 3 1),(9,.int .i64 (Zxb (opn.drop kk))),(14,Zb c 6 Zw s),(15,.int .i64 s.l.length),(16,.int .i64 k)]
    [(3,.cells .new g3 0 tabC),(72,Zfb gx Zmf opn),(6,.cells .new g6 0 [.int .u8 n.op,.int .i64 n.num,.str n.name,.int .i64 n.a,.int .i64 n.b,.int .i64 n.c]),(34,.cells .new g34 0 (plC (opn.drop kk)))])
   (fun _=>True) (fun K10 hK10=>?_) ?_
  ·by_cases hp0:p=0
   ·have hdn:opn.drop kk=[]:=List.drop_eq_nil_of_le (by omega)
    rw [hdn] at hK10;subst hp0
    have hkle:kk≤opn.length:=by omega
    have hnlt:¬ kk<opn.length:=by omega
    by_cases hne:opn=[]
    ·subst hne
     have hk0:kk=0:=by simpa using hkl
     subst hk0;refine Z4 (by kernel_rfl) ?_;simp -implicitDefEqProofs only[go_sem,seval,↓reduceIte,Z0c,Z0d,and_self];refine AW.block ?_
     refine Z0a 0 (fun j (_:Unit)=>st [(3,.ptr 3 g3 0),(5,.int .i64 k),(4,.nils),(6,.ptr 6 g6 0),(7,.int .i64 (0:Nat)),(8,.msl 34 g34 0 3 1),(9,.int .i64 0),(14,Zb c 6 Zw s),(15,.int .i64 s.l.length),(16,.int .i64 k),(38,.int .i64 0),(39,.int .i64 j)]
       [(3,.cells .new g3 0 tabC),(6,.cells .new g6 0 [.int .u8 n.op,.int .i64 n.num,.str n.name,.int .i64 n.a,.int .i64 n.b,.int .i64 n.c]),(34,.cells .new g34 0 (plC []))])
      (fun j _=>True) 0 () (Nat.zero_le _) trivial (Zg zp zp) ?_
     intro j _ hj _ L11 hL11
     obtain rfl:j=0:=by omega
     refine Z1 ?_;refine Z0 ?_
     ·refine Z0 ?_
      exact hK10 _ () trivial (Zg (zpf @Z0c) (zpf @Z0d))
    ·have hk0:¬ kk=0:=by
      intro h
      have:opn.length=0:=by omega
      exact hne (List.length_eq_zero_iff.1 this)
     refine Z4 (by kernel_rfl) ?_;simp -implicitDefEqProofs only[go_sem,seval,↓reduceIte,Zzb 72 gx 2 hne,hkle,Nat.le_refl,and_self,hk0,hnlt];refine AW.block ?_
     refine Z0a 0 (fun j (_:Unit)=>st [(3,.ptr 3 g3 0),(4,grown 72 gx 2 opn),(5,.int .i64 k),(6,.ptr 6 g6 0),(7,.int .i64 kk),(8,.msl 34 g34 0 3 1),(9,.int .i64 0),(14,Zb c 6 Zw s),(15,.int .i64 s.l.length),(16,.int .i64 k),(38,.int .i64 0),(39,.int .i64 j)]
       [(3,.cells .new g3 0 tabC),(72,Zfb gx Zmf opn),(6,.cells .new g6 0 [.int .u8 n.op,.int .i64 n.num,.str n.name,.int .i64 n.a,.int .i64 n.b,.int .i64 n.c]),(34,.cells .new g34 0 (plC []))])
      (fun j _=>True) 0 () (Nat.zero_le _) trivial (Zg (by simp -implicitDefEqProofs only[go_sem,seval,↓reduceIte];rw [Zzb 72 gx 2 hne];try exact ⟨rfl,rfl⟩) zp) ?_
     intro j _ hj _ L11 hL11
     obtain rfl:j=0:=by omega
     refine Z1 ?_;refine Z0 ?_
     ·refine Z0 ?_
      exact hK10 _ () trivial (Zg zp zp)
   ·have hne:opn≠[]:=by intro e;rw [e] at hkl;simp at hkl;omega
    have hsl:(if kk=0 then V.msl 72 gx 0 opn.length 2 else if kk<opn.length then V.msl 72 gx (kk * 2) (opn.length-kk) 2 else V.slice .any false 2 []) = .msl 72 gx (kk * 2) p 2:=by
     by_cases h0:kk=0
     ·rw [if_pos h0];congr 1<;>omega
     ·rw [if_neg h0,if_pos (by omega)];congr 1;omega
    have hkle:kk≤opn.length:=by omega
    refine Z4 (by kernel_rfl) ?_;simp -implicitDefEqProofs only[go_sem,seval,↓reduceIte,Zzb 72 gx 2 hne,hkle,Nat.le_refl,and_self,hsl,Nat.zero_add];refine AW.block ?_
    refine Z0a p (fun j (_:Unit)=>st [(3,.ptr 3 g3 0),(4,grown 72 gx 2 opn),(5,.int .i64 k),(6,.ptr 6 g6 0),(7,.int .i64 kk),(8,.msl 34 g34 0 3 1),(9,.int .i64 (Zxb ((opn.drop kk).take j))),(14,Zb c 6 Zw s),(15,.int .i64 s.l.length),(16,.int .i64 k),(37,.msl 72 gx (kk * 2) p 2),(38,.int .i64 p),(39,.int .i64 j)]
      [(3,.cells .new g3 0 tabC),(72,Zfb gx Zmf opn),(6,.cells .new g6 0 [.int .u8 n.op,.int .i64 n.num,.str n.name,.int .i64 n.a,.int .i64 n.b,.int .i64 n.c]),(34,.cells .new g34 0 (plC ((opn.drop kk).take j)))])
     (fun j _=>True) 0 () (Nat.zero_le _) trivial
     (Zg (by simp -implicitDefEqProofs only[go_sem,seval,↓reduceIte];rw [Zzb 72 gx 2 hne];exact ⟨rfl,rfl⟩) zp) ?_
    intro j _ hj _ L11 hL11;refine Z1 ?_;refine Zv ?_;refine Zd rfl (fun h13=>?_) (fun h13=>?_)
    ·have hj1:j<p:=zL h13
     refine Z0 ?_;refine Zv ?_;refine AW.block ?_;obtain ⟨x,hx⟩:∃ x,opn[kk+j]? = some x:=⟨_,List.getElem?_eq_getElem (by omega)⟩
     have hxd:(opn.drop kk)[j]? = some x:=by rw [List.getElem?_drop];exact hx
     have hfp:=Zc2 opn (kk+j) x hx;rw [show (kk+j) * 2=kk * 2+j * 2 by omega] at hfp
     have hfl:kk * 2+j * 2+2≤(flat (opn.map Zmf)).length:=by rw [Z2c (m:=2) Zpi];omega
     have hps:=plC_set (opn.drop kk) j x hxd (by omega);have hds:=Z5s (opn.drop kk) j x hxd;have hpl:=plC_len ((opn.drop kk).take j);generalize plC ((opn.drop kk).take j)=pc at hps hpl ⊢;generalize Zxb ((opn.drop kk).take j)=dd at hds ⊢
     have hj3:(j:Int)<3:=by omega
     refine Z4 (by kernel_rfl) ?_;simp -implicitDefEqProofs only[go_sem,seval,↓reduceIte,Z9b gx Zmf hne,hfp,hfl,Int.natCast_nonneg,hj1,Int.ofNat_lt];intro g11
     refine AW.weak (Z7 (fun o=>o==11) (l:=[(3,.ptr 3 g3 0),(4,grown 72 gx 2 opn),(5,.int .i64 k),(6,.ptr 6 g6 0),(7,.int .i64 kk),(8,.msl 34 g34 0 3 1),(9,.int .i64 dd),(10,.int .i64 j),(11,.view .new (.agg [.int .i64 x.1,.int .i64 x.2])),(14,Zb c 6 Zw s),(15,.int .i64 s.l.length),(16,.int .i64 k),(37,.msl 72 gx (kk * 2) p 2),(38,.int .i64 p),(39,.int .i64 j)])
      (m:=[(3,.cells .new g3 0 tabC),(72,Zfb gx Zmf opn),(6,.cells .new g6 0 [.int .u8 n.op,.int .i64 n.num,.str n.name,.int .i64 n.a,.int .i64 n.b,.int .i64 n.c]),(34,.cells .new g34 0 pc)]) ?_ ?_) ?_
     ·refine Zs ?_
      refine ⟨Zl _,Zl _,Zl _,Zl _,Zl _,Zl _,Zl _,Zl _,?_,Zl _,Zl _,Zl _,Zl _,Zl _,Zl _⟩;exact Fz.ptr (v := .agg [.int .i64 x.1,.int .i64 x.2]) (c := .new) (fz:=0) rfl zp
     ·simp only [Zy,Z2,and_true]
      exact ⟨FzO.keep rfl zp,FzO.keep rfl (by first | rfl | (rw [Z9b gx Zmf hne]<;>rfl) | (simp -implicitDefEqProofs only[go_sem,seval,↓reduceIte];try rfl)),FzO.keep rfl zp,FzO.keep rfl zp⟩
     refine Zx ⟨fun _ => .top,fun i=>if i=3 then .lend else if i=6 then .lend else .pure⟩ (by kernel_rfl) hG (by kernel_rfl) (by kernel_rfl) ?_
     have hjl:j+1≤pc.length:=by omega
     have hset:pc.set j (.int .i64 x.1)=plC ((opn.drop kk).take (j+1)):=hps
     have hmx:(if x.2 > dd then x.2 else dd)=max dd x.2:=by
      rw [Int.max_def];split<;>split<;>omega
     simp -implicitDefEqProofs only[go_sem,seval,↓reduceIte,hj3,Int.natCast_nonneg,Nat.mul_one,Nat.zero_le,hjl,hset,hmx,← hds];refine Z1 ?_;refine hL11 _ ⟨hj1,(),trivial,Zg zw zp⟩
    ·have hj1:j=p:=by have:=zN h13;omega
     have htk:(opn.drop kk).take j=opn.drop kk:=List.take_of_length_le (by rw [List.length_drop];omega);rw [htk];refine Z0 ?_;exact hK10 _ () trivial (Zg zp zp)
  intro _ _;refine Zv ?_;have hpl:Zpb (opn.drop kk)=[(Zpb (opn.drop kk)).getD 0 0,(Zpb (opn.drop kk)).getD 1 0,(Zpb (opn.drop kk)).getD 2 0]:=rfl;refine Z1 ?_;intro g61;refine Z5e hG [Zb .old 1 (V.int .i64) (.mk false (Zpb (opn.drop kk))),Zb .old 1 (V.int .i64) (.mk false [n.a,n.b,n.c])] (by kernel_rfl) ⟨?_,?_,trivial⟩ ?_
  ·exact Rd.msl (off:=0) (n:=3) (l:=Zpb (opn.drop kk)) (f:=V.int .i64) (f':=V.int .i64) (g:=g34) (fz:=0) (c := .new) (by simp -implicitDefEqProofs only[go_sem,seval,↓reduceIte];exact congrArg (AObj.cells Col.new g34 0) (Z0o _ _).symm) (fun _=>rfl) (fun x y hy=>by simp [V.cells] at hy;subst hy;exact .int _ _) (fun _=>rfl) (by simp [Zpb])
  ·exact Rd.msl (off:=0) (n:=3) (l:=[n.a,n.b,n.c]) (f:=V.int .i64) (f':=V.int .i64) (g:=g61) (fz:=0) (c := .new) zp (fun _=>rfl) (fun x y hy=>by simp [V.cells] at hy;subst hy;exact .int _ _) (fun _=>rfl) (by simp)
  refine (Ztu G hG _ _ (.mk false (Zpb (opn.drop kk))) (.mk false [n.a,n.b,n.c]) (by simp [Zpb,Sl.l])).mono ?_;rintro _ _ rfl;refine ⟨.bool _,?_⟩;refine Zs ?_
  cases heq:(Zpb (opn.drop kk)==[n.a,n.b,n.c]) with
  | false =>
   have heq2:Zpb (opn.drop kk)≠[n.a,n.b,n.c]:=by simpa using heq
   rw [if_pos heq2] at hst;rw [hst] at hR;refine Zd rfl (fun h12=>?_) (fun h12=>?_)
   ·refine Z ?_
    rw [hnone hR]
   ·cases h12
  | true =>
  have heq2:¬ Zpb (opn.drop kk)≠[n.a,n.b,n.c]:=by simpa using heq
  rw [if_neg heq2] at hst;rw [hst] at hR;refine Z0 ?_;have hdb:=Zbz (l:=opn.drop kk) (k:=k) (by omega) fun y hy=>hdp y (List.mem_of_mem_drop hy);generalize Zxb (opn.drop kk)=dd at hR hdb ⊢;have hwd:IntKind.i64.wrap (dd+1)=dd+1:=w64 (by omega) (by omega)
  have hne2:opn.take kk++[((k:Int),dd+1)]≠[]:=by simp
  have hlen2:(opn.take kk++[((k:Int),dd+1)]).length=kk+1:=by rw [List.length_append,List.length_take];simp;omega
  have hdp2:∀ y∈opn.take kk++[((k:Int),dd+1)],(0:Int)≤y.2∧y.2≤(k+1:Nat):=by
   intro y hy
   rcases List.mem_append.1 hy with h | h
   ·have:=hdp y (List.mem_of_mem_take h);omega
   ·rw [List.mem_singleton.1 h];show 0≤dd+1∧dd+1≤_;omega
  by_cases hne:opn=[]
  ·subst hne
   have hk0:kk=0:=by simpa using hkk
   subst hk0;refine AW.region (by kernel_rfl) ?_;simp -implicitDefEqProofs only[go_sem,seval,↓reduceIte,Z0c,Z0d,and_self,hwd];intro g71;refine Zlc (f:=Zmf) (l:=([]:List (Int × Int))) (l2:=[((k:Int),dd+1)]) (g:=gx) Zpi rfl rfl rfl rfl (Zab (by omega) (by simp)) fun g2=>?_;refine Zs ?_;refine Z1 ?_;refine hL2 _ ⟨hk1,(g2,[((k:Int),dd+1)]),⟨hR,?_,hdp2⟩,Zg zw zp⟩
   show 1≤k+1
   omega
  ·have hkle:kk≤opn.length:=by omega
   refine AW.region (by kernel_rfl) ?_;simp -implicitDefEqProofs only[go_sem,seval,↓reduceIte,Zzb 72 gx 2 hne,Nat.zero_le,hkle,and_self,hwd,Z9b gx Zmf hne];intro g71;refine ⟨Zab (by omega) (by omega),by rw [Z2c (m:=2) Zpi];omega,fun g2=>?_⟩;refine Z1 ?_;refine hL2 _ ⟨hk1,(g2,opn.take kk++[((k:Int),dd+1)]),⟨hR,?_,hdp2⟩,Zg (by simp -implicitDefEqProofs only[go_sem,seval,↓reduceIte];exact ⟨by rw [Zzb _ _ _ hne2,hlen2],congrArg _ (w64 (by omega) (by omega))⟩) (by simp -implicitDefEqProofs only[go_sem,seval,↓reduceIte];rw [Z9b _ _ hne2,List.map_append,Zph,← Zb2]<;>rfl)⟩
   show (opn.take kk++[_]).length≤k+1
   rw [hlen2];omega
 ·have hk1:k=s.l.length:=by simp at h4;omega
  refine Z0 ?_;rw [hk1,List.drop_length,Zmd] at hR;rw [hR] at hD;refine Zv ?_
  match opn,hD with
  | [],hD =>
   refine Z1f @Z0c ?_;refine Zd rfl (fun h7=>?_) (fun h7=>?_)
   ·refine Z ?_
    rw [hD]
   ·cases h7
  | [x],hD =>
   have hne:[x]≠([]:List (Int × Int)):=by simp
   refine Z1 ?_;refine Z0 ?_;have hfx:flat ([x].map Zmf)=[.int .i64 x.1,.int .i64 x.2]:=rfl;refine Z4 (by kernel_rfl) ?_;simp -implicitDefEqProofs only[go_sem,seval,↓reduceIte,Zzb 72 gx 2 hne,Z9b gx Zmf hne,hfx];refine Z ?_;rw [hD]
  | x::y::r,hD =>
   have e1:(((x::y::r).length:Int) != 1)=true:=by simp;omega
   refine Z1f e1 ?_;refine Zd rfl (fun h7=>?_) (fun h7=>?_)
   ·refine Z ?_
    rw [hD]
   ·cases h7
end Go.Hs
end

section
namespace Go.Hs
open Go.Proofs
set_option maxRecDepth 10000
theorem Ztp (G:Nat→V) (hG:GOk G) (op:Int):Spec Tryz.prog G 135 [.int .u8 op] Zu (fun v _=>v = .int .i64 (Zt op:Nat)):=by
 refine Zo 0 12 [.tmp 2] Tryz.func135 fun X=>?_
 have hP:Zt op=if op≤4 then 0 else if op≤6 then 1 else if op≤21 then 2 else 3:=rfl
 refine Z1 ?_;refine Zyb (fun (_:Unit)=>st [] []) (fun _=>¬ op≤4∧¬ op≤6∧¬ op≤21) (fun K1 hK1=>?_) ?_
 ·refine Z1 ?_
  refine Zd rfl (fun h1=>?_) (fun h1=>?_)
  ·refine Z ?_
   rw [hP,if_pos (by simpa using h1)]<;>rfl
  refine Z1 ?_;refine Zd rfl (fun h2=>?_) (fun h2=>?_)
  ·refine Z ?_
   rw [hP,if_neg (by simpa using h1),if_pos (by simpa using h2)]<;>rfl
  refine Z1 ?_;refine Zd rfl (fun h3=>?_) (fun h3=>?_)
  ·refine Z ?_
   rw [hP,if_neg (by simpa using h1),if_neg (by simpa using h2),if_pos (by simpa using h3)]<;>rfl
  ·refine Z0 ?_
   exact hK1 _ () ⟨by simpa using h1,by simpa using h2,by simpa using h3⟩ (Zg zp zp)
 rintro _ ⟨h1,h2,h3⟩;refine Z ?_
 rw [hP,if_neg h1,if_neg h2,if_neg h3]<;>rfl
theorem Zes (G:Nat→V) (hG:GOk G) (n:XN) (hn:n.name.length<100000):Spec Tryz.prog G 134 [Zw n] Zu (fun v _=>v = .bool (Zxc n)):=by
 refine Zo 0 36 [.tmp 2] Tryz.func134 fun X=>?_
 have hW:Zxc n=if n.op<1∨n.op > 22∨n.num<0 then false else if n.op=2 then n.num==0 && isP n.name==2 else n.name==[] && (n.op==1 || n.num==0):=rfl
 obtain ⟨op,num,name,a,b,c⟩:=n;simp only at hn hW;simp only [Zj];refine Zi fun K hK=>AW.region (by kernel_rfl) ?_;refine Zs ?_;intro g1;refine hK _ ?_
 try clear hK K
 refine Zyb (fun (_:Unit)=>st [(1,.ptr 1 g1 0)] [(1,.cells .new g1 0 [.int .u8 op,.int .i64 num,.str name,.int .i64 a,.int .i64 b,.int .i64 c])]) (fun _=>Zxc ⟨op,num,name,a,b,c⟩=if op=2 then isP name==2 else name==[]) (fun K1 hK1=>?_) ?_
 ·have hK2:(op<1)=False→(op > 22)=False→(num<0)=False→(op=1∨num=0)→Zxc ⟨op,num,name,a,b,c⟩=if op=2 then isP name==2 else name==[]:=by
   intro h1 h2 h3 h4;rw [hW,if_neg (by rintro (h | h | h);exact h1 ▸ h;exact h2 ▸ h;exact h3 ▸ h)]
   by_cases ho:op=2
   ·have:num=0:=h4.resolve_left (by omega)
    rw [if_pos ho,if_pos ho,this]<;>rfl
   ·rw [if_neg ho,if_neg ho]
    rcases h4 with h | h
    ·rw [h];simp
    ·rw [h];simp
  have hK3:(op<1∨op > 22∨num<0∨(op≠1∧num≠0))→Zxc ⟨op,num,name,a,b,c⟩=false:=by
   intro h;rw [hW]
   split
   ·rfl
   ·rename_i h0
    simp only [not_or] at h0
    obtain ⟨q1,q2⟩:op≠1∧num≠0:=by
     rcases h with h | h | h | h
     ·exact absurd h h0.1
     ·exact absurd h h0.2.1
     ·exact absurd h h0.2.2
     ·exact h
    have e1:(op==1)=false:=by simpa using q1
    have e2:(num==0)=false:=by simpa using q2
    rw [e1,e2];simp
  by_cases q1:op<1
  ·have h1:decide (op<1)=true:=by simpa using q1
   (refine Zi fun K hK=>AW.region (by kernel_rfl) ?_;simp -implicitDefEqProofs only[go_sem,seval,↓reduceIte,h1];refine hK _ ?_;clear hK K)
   refine Zd (b:=true) zp (fun _=>?_) (fun h=>by cases h)
   (refine Zi fun K hK=>AW.region (by kernel_rfl) ?_;simp -implicitDefEqProofs only[go_sem,seval,↓reduceIte];refine hK _ ?_;clear hK K)
   (refine AW.ret ?_;simp -implicitDefEqProofs only[go_sem,seval,↓reduceIte];refine Zk ?_)
   rw [hK3 (.inl q1)]
  have h1:decide (op<1)=false:=by simpa using q1
  by_cases q2:op > 22
  ·have h2:decide (op > 22)=true:=by simpa using q2
   (refine Zi fun K hK=>AW.region (by kernel_rfl) ?_;simp -implicitDefEqProofs only[go_sem,seval,↓reduceIte,h1,h2];refine hK _ ?_;clear hK K)
   refine Zd (b:=true) zp (fun _=>?_) (fun h=>by cases h)
   (refine Zi fun K hK=>AW.region (by kernel_rfl) ?_;simp -implicitDefEqProofs only[go_sem,seval,↓reduceIte];refine hK _ ?_;clear hK K)
   (refine AW.ret ?_;simp -implicitDefEqProofs only[go_sem,seval,↓reduceIte];refine Zk ?_)
   rw [hK3 (.inr (.inl q2))]
  have h2:decide (op > 22)=false:=by simpa using q2
  by_cases q4:op=1
  ·have h4:(op != 1)=false:=by simpa using q4
   by_cases q3:num<0
   ·have h3:decide (num<0)=true:=by simpa using q3
    (refine Zi fun K hK=>AW.region (by kernel_rfl) ?_;simp -implicitDefEqProofs only[go_sem,seval,↓reduceIte,h1,h2,h3,h4];refine hK _ ?_;clear hK K)
    refine Zd (b:=true) zp (fun _=>?_) (fun h=>by cases h)
    (refine Zi fun K hK=>AW.region (by kernel_rfl) ?_;simp -implicitDefEqProofs only[go_sem,seval,↓reduceIte];refine hK _ ?_;clear hK K)
    (refine AW.ret ?_;simp -implicitDefEqProofs only[go_sem,seval,↓reduceIte];refine Zk ?_)
    rw [hK3 (.inr (.inr (.inl q3)))]
   have h3:decide (num<0)=false:=by simpa using q3
   (refine Zi fun K hK=>AW.region (by kernel_rfl) ?_;simp -implicitDefEqProofs only[go_sem,seval,↓reduceIte,h1,h2,h3,h4];refine hK _ ?_;clear hK K)
   refine Zd (b:=false) zp (fun h=>by cases h) (fun _=>?_);refine Z0 ?_;exact hK1 _ () (hK2 (eq_false q1) (eq_false q2) (eq_false q3) (.inl q4)) (Zg zp zp)
  have h4:(op != 1)=true:=by simpa using q4
  by_cases q5:num=0
  ·have h5:(num != 0)=false:=by simpa using q5
   have q3:¬ num<0:=by omega
   have h3:decide (num<0)=false:=by simpa using q3
   (refine Zi fun K hK=>AW.region (by kernel_rfl) ?_;simp -implicitDefEqProofs only[go_sem,seval,↓reduceIte,h1,h2,h3,h4,h5];refine hK _ ?_;clear hK K)
   refine Zd (b:=false) zp (fun h=>by cases h) (fun _=>?_);refine Z0 ?_;exact hK1 _ () (hK2 (eq_false q1) (eq_false q2) (eq_false q3) (.inr q5)) (Zg zp zp)
  have h5:(num != 0)=true:=by simpa using q5
  (refine Zi fun K hK=>AW.region (by kernel_rfl) ?_;simp -implicitDefEqProofs only[go_sem,seval,↓reduceIte,h1,h2,h4,h5];refine hK _ ?_;clear hK K)
  refine Zd (b:=true) zp (fun _=>?_) (fun h=>by cases h)
  (refine Zi fun K hK=>AW.region (by kernel_rfl) ?_;simp -implicitDefEqProofs only[go_sem,seval,↓reduceIte];refine hK _ ?_;clear hK K)
  (refine AW.ret ?_;simp -implicitDefEqProofs only[go_sem,seval,↓reduceIte];refine Zk ?_)
  rw [hK3 (.inr (.inr (.inr ⟨q4,q5⟩)))]
 rintro _ hW2;refine Zi fun K2 hK2=>?_;refine Zi fun K hK=>AW.region (by kernel_rfl) ?_;refine Zs ?_;refine hK _ ?_
 try clear hK K
 refine Zd rfl (fun h5=>?_) (fun h5=>?_)
 ·have h5:op=2:=by simpa using h5
  rw [if_pos h5] at hW2;refine Zi fun K hK=>AW.region (by kernel_rfl) ?_;refine Zs ?_;refine Zc hG ?_ (s:=(Zh4 G hG name (by omega)));refine hK _ ?_
  try clear hK K
  refine Z ?_;rw [hW2];generalize isP name=z
  cases hz:(z==2) with
  | true =>
   have:((z:Int)==2)=true:=by rw [beq_iff_eq] at hz ⊢;omega
   rw [this]
  | false =>
   have:((z:Int)==2)=false:=by rw [beq_eq_false_iff_ne] at hz ⊢;omega
   rw [this]
 ·have h5:¬ op=2:=by simpa using h5
  rw [if_neg h5] at hW2;refine Z0 ?_;refine hK2 _ ?_;refine Zi fun K hK=>AW.region (by kernel_rfl) ?_;refine Zs ?_;refine hK _ ?_
  try clear hK K
  refine Z ?_;rw [hW2]
def Zup (n:XN):Nat→Int
 | 0=>n.a
 | 1=>n.b
 | _=>n.c
def Zok (rec:Int→Int) (n:XN):Nat→Int→Option Int
 | 0,last=>some last
 | k+1,last=>match Zwa rec (Nat.blt k (Zt n.op)) (Zup n k) last with
  | none=>none
  | some q=>Zok rec n k q
theorem Z02 (l:List XN) (f:Nat) (i:Int):Zfg l (f+1) i=match Zks l i with
  | none => -1
  | some n=>bif Zxc n then (match Zok (Zfg l f) n 3 (i-1) with | none => -1 | some q=>q+1) else -1:=by
 rw [Zfg]
 cases Zks l i with
 | none=>rfl
 | some n =>
  simp only
  cases Zxc n with
  | false=>rfl
  | true =>
   simp only [cond_true,Zok,Zup]
   cases Zwa (Zfg l f) (Nat.blt 2 (Zt n.op)) n.c (i-1) with
   | none=>rfl
   | some l2 =>
    simp only
    cases Zwa (Zfg l f) (Nat.blt 1 (Zt n.op)) n.b l2 with
    | none=>rfl
    | some l1 =>
     simp only
     cases Zwa (Zfg l f) (Nat.blt 0 (Zt n.op)) n.a l1 with
     | none=>rfl
     | some l0=>rfl
theorem Zgz {rec:Int→Int} {pl last:Int} (h:¬ pl=last):Zwa rec true pl last=none:=by simp [Zwa,h]
theorem Zov {rec:Int→Int} {pl last:Int} (h:pl=last) (h2:rec last<0):Zwa rec true pl last=none:=by simp [Zwa,h,h2]
theorem Znv {rec:Int→Int} {pl last:Int} (h:pl=last) (h2:¬ rec last<0):Zwa rec true pl last=some (rec last-1):=by simp [Zwa,h,h2]
theorem bsNo {rec:Int→Int} {pl last:Int} (h:¬ pl = -1):Zwa rec false pl last=none:=by simp [Zwa,h]
theorem bsNone {rec:Int→Int} {pl last:Int} (h:pl = -1):Zwa rec false pl last=some last:=by simp [Zwa,h]
theorem begR_le (l:List XN) (f:Nat) (i:Int) (h:0≤Zfg l f i):Zfg l f i≤i:=by
 obtain ⟨x,b,_,_,h3,h4⟩:=Zce l f i h;have:=x.size_pos;omega
theorem Z0u (G:Nat→V) (hG:GOk G) (s:Sl XN) (hs:s.l.length<1000000) (hnm:∀ n∈s.l,n.name.length<100000):∀ (f:Nat) (c:Col) (i:Int),-1≤i→i<f→i<1000000 →
  Spec Tryz.prog G 94 [Zb c 6 Zw s,.int .i64 i] Zu (fun v _=>v = .int .i64 (Zfg s.l f i)):=by
 intro f
 induction f with
 | zero =>
  intro c i h1 h2 _
  obtain rfl:i = -1:=by omega
  refine Zo 0 68 [.tmp 4] Tryz.func94 fun X=>?_;refine Z1 ?_;refine Z1 ?_;refine Zd rfl (fun h2=>?_) (fun h2=>?_)
  ·exact Zr
  ·cases h2
 | succ f ih =>
 intro c i h1 h2 h3;refine Zo 0 68 [.tmp 4] Tryz.func94 fun X=>?_;have hB:=Z02 s.l f i;generalize Zfg s.l (f+1) i=res at hB ⊢;refine Z1 ?_;refine Zv ?_
 by_cases hi:i<0
 ·have e1:decide (i<0)=true:=by simpa using hi
  have hno:Zks s.l i=none:=by unfold Zks;rw [if_pos hi]
  rw [hno] at hB;refine Z1f e1 ?_;refine Zd rfl (fun h4=>?_) (fun h4=>?_)
  ·refine Z ?_
   rw [hB]
  ·cases h4
 have e1:decide (i<0)=false:=by simpa using hi
 obtain ⟨m,rfl⟩:∃ m:Nat,i=m:=⟨i.toNat,by omega⟩
 by_cases hm:m≥s.l.length
 ·have e2:decide ((m:Int)≥s.l.length)=true:=zT
  have hno:Zks s.l m=none:=by unfold Zks;rw [if_neg hi];exact List.getElem?_eq_none (by simpa using hm)
  rw [hno] at hB;refine Z1f (zi e1 e2) ?_;refine Zd rfl (fun h4=>?_) (fun h4=>?_)
  ·refine Z ?_
   rw [hB]
  ·cases h4
 have e2:decide ((m:Int)≥s.l.length)=false:=zF;have hg:=List.getElem?_eq_getElem (Nat.lt_of_not_le hm);have hnn:=hnm _ (List.getElem_mem (Nat.lt_of_not_le hm));generalize s.l[m]=n at hg hnn
 have hno:Zks s.l m=some n:=by unfold Zks;rw [if_neg hi];exact hg
 rw [hno] at hB;simp only at hB;refine Z1f (zi e1 (zi e2 (zi hg @Zj))) ?_;rw [← Zj];refine Zcf @Zih hG ?_ (s:=(Zes G hG n hnn))
 cases hw:Zxc n with
 | false =>
  rw [hw,cond_false] at hB;refine Zd rfl (fun h4=>?_) (fun h4=>?_)
  ·refine Z ?_
   rw [hB]
  ·cases h4
 | true =>
 rw [hw,cond_true] at hB;refine Z1f (zi hg @Zj) ?_;intro g5;refine Z1 ?_;intro g36;have hw1:IntKind.i64.wrap ((m:Int)-1)=(m:Int)-1:=w64 (by omega) (by omega);refine Z1f hw1 ?_;refine Z1 ?_;refine AW.block ?_
 refine Zig (fun (x:Nat × Int)=>st [(0,Zb c 6 Zw s),(5,.ptr 5 g5 0),(6,.msl 36 g36 0 3 1),(7,.int .i64 x.2),(8,.int .i64 ((x.1:Int)-1))] [(5,.cells .new g5 0 [.int .u8 n.op,.int .i64 n.num,.str n.name,.int .i64 n.a,.int .i64 n.b,.int .i64 n.c]),(36,.cells .new g36 0 [.int .i64 n.a,.int .i64 n.b,.int .i64 n.c])])
  (fun x=>(res=match Zok (Zfg s.l f) n x.1 x.2 with | none => -1 | some q=>q+1)∧x.1≤3 ∧ -1≤x.2∧x.2≤(m:Int)-1) (fun x=>x.1) (3,(m:Int)-1) ⟨hB,Nat.le_refl _,by show -1≤(m:Int)-1;omega,Int.le_refl _⟩
  (Zg zp zp) ?_
 try clear hB
 rintro ⟨k,last⟩ ⟨hB,hk3,hl1,hl2⟩ L6 hL6
 replace hB:res=match Zok (Zfg s.l f) n k last with | none => -1 | some q=>q+1:=hB
 replace hk3:k≤3:=hk3
 replace hl1 : -1≤last:=hl1
 replace hl2:last≤(m:Int)-1:=hl2
 refine Z1 ?_
 cases k with
 | zero =>
  refine Z ?_
  rw [hB,w64 (by omega) (by omega)]<;>rfl
 | succ k =>
 have e8:decide (((k+1:Nat):Int)-1≥0)=true:=zT;rw [Zok] at hB;refine Zd rfl (fun h8=>?_) (fun h8=>?_);rotate_left
 ·rw [e8] at h8;cases h8
 refine Z0 ?_
 have ek:((k+1:Nat):Int)-1=(k:Int):=by omega
 rw [ek];have hwk:IntKind.i64.wrap ((k:Int)-1)=(k:Int)-1:=w64 (by omega) (by omega)
 have hpl:([.int .i64 n.a,.int .i64 n.b,.int .i64 n.c]:List V)[k]? = some (.int .i64 (Zup n k)):=by
  match k,hk3 with
  | 0,_=>rfl
  | 1,_=>rfl
  | 2,_=>rfl
 have hklt:(k:Int)<3:=by omega
 generalize Zup n k=pl at hB hpl;refine Z1 ?_;refine Zc hG ?_ (s:=(Ztp G hG n.op));generalize hpo:Zt n.op=po at hB ⊢
 by_cases hkp:k<po
 ·have e5:decide ((k:Int)≥(po:Int))=false:=zF
  have hbs:Nat.blt k po=true:=by simpa using hkp
  rw [hbs] at hB;refine Zd rfl (fun h11=>?_) (fun h11=>?_)
  ·rw [e5] at h11;cases h11
  refine Z0 ?_;refine Zv ?_
  by_cases hpe:pl=last
  rotate_left
  ·have e6:(pl != last)=true:=by simpa using hpe
   rw [Zgz hpe] at hB;refine Z1f (zi @Nat.mul_one (zi hpl (zi hklt (zi @Int.natCast_nonneg e6)))) ?_;refine Zd rfl (fun h13=>?_) (fun h13=>?_)
   ·refine Z ?_
    rw [hB]
   ·cases h13
  have e6:(pl != last)=false:=by simpa using hpe
  refine Z1f (zi @Nat.mul_one (zi hpl (zi hklt (zi @Int.natCast_nonneg e6)))) ?_;refine Z1 ?_;refine Zcf @Za hG ?_ (s:=(ih c.ent last (by omega) (by omega) (by omega)));have hge:=Z12 s.l f last;have hle:=begR_le s.l f last;refine Zv ?_
  by_cases hr0:Zfg s.l f last<0
  ·have e7:decide (Zfg s.l f last<0)=true:=by simpa using hr0
   rw [Zov hpe hr0] at hB;refine Z1f e7 ?_;refine Zd rfl (fun h15=>?_) (fun h15=>?_)
   ·refine Z ?_
    rw [hB]
   ·cases h15
  have e7:decide (Zfg s.l f last<0)=false:=by simpa using hr0
  rw [Znv hpe hr0] at hB;refine Z1f e7 ?_;refine Z0 ?_;have hle2:=hle (by omega);generalize Zfg s.l f last=r at hB hge hle2 hr0 ⊢;have hwr:IntKind.i64.wrap (r-1)=r-1:=w64 (by omega) (by omega);refine Z1f hwr ?_;refine Z1f hwk ?_;refine hL6 _ ⟨(k,r-1),by show k<k+1;omega,⟨hB,by show k≤3;omega,by show -1≤r-1;omega,by show r-1≤(m:Int)-1;omega⟩,Zg zp zp⟩
 ·have e5:decide ((k:Int)≥(po:Int))=true:=zT
  have hbs:Nat.blt k po=false:=by
   rw [Bool.eq_false_iff];simpa using hkp
  rw [hbs] at hB;refine Zd rfl (fun h11=>?_) (fun h11=>?_);rotate_left
  ·rw [e5] at h11;cases h11
  refine Zv ?_
  by_cases hpe:pl = -1
  rotate_left
  ·have e6:(pl != -1)=true:=by simpa using hpe
   rw [bsNo hpe] at hB;refine Z1f (zi @Nat.mul_one (zi hpl (zi hklt (zi @Int.natCast_nonneg e6)))) ?_;refine Zd rfl (fun h13=>?_) (fun h13=>?_)
   ·refine Z ?_
    rw [hB]
   ·cases h13
  have e6:(pl != -1)=false:=by simpa using hpe
  rw [bsNone hpe] at hB;refine Z1f (zi @Nat.mul_one (zi hpl (zi hklt (zi @Int.natCast_nonneg e6)))) ?_;refine Z1f hwk ?_;refine hL6 _ ⟨(k,last),by show k<k+1;omega,⟨hB,by show k≤3;omega,hl1,hl2⟩,Zg zp zp⟩
def dep0 (s:Sl XN) (G:Nat→V) (i d:Int):Prop:=∀ c,Spec Tryz.prog G 95 [Zb c 6 Zw s,.int .i64 i] Zu (fun v _=>v = .int .i64 d)
theorem Zme (G:Nat→V) (hG:GOk G) (s:Sl XN):dep0 s G (-1) 0:=by
 intro c;refine Zo 0 30 [.tmp 4] Tryz.func95 fun X=>?_;refine Z1 ?_;refine Z1 ?_;refine Zd rfl (fun h2=>?_) (fun h2=>?_)
 ·exact Zr
 ·cases h2
theorem Z9f (G:Nat→V) (hG:GOk G) (s:Sl XN) (m:Nat) (n:XN) (hg:s.l[m]? = some n) (d0 d1 d2:Int) (h0:dep0 s G n.a d0) (h1:dep0 s G n.b d1) (h2:dep0 s G n.c d2) (hb:(0≤d0∧d0<1000000)∧(0≤d1∧d1<1000000)∧(0≤d2∧d2<1000000)) :
  dep0 s G m (max (max d0 d1) d2+1):=by
 intro c;refine Zo 0 30 [.tmp 4] Tryz.func95 fun X=>?_;refine Z1 ?_;refine Zv ?_;have e1:decide ((m:Int)<0)=false:=zF;refine Z1f e1 ?_;refine Z0 ?_
 have pc:∀ i d,dep0 s G i d→Zng Tryz.prog G 95 [Zb c 6 Zw s,.int .i64 i] (.int .i64 d):=fun i d h=>⟨by kernel_rfl,by
  simp only [List.map_cons,List.map_nil,Za,Zuf];refine (h c.ent).mono ?_;rintro _ _ rfl
  rfl⟩
 have hmx:(if d2 > (if d1 > d0 then d1 else d0) then d2 else (if d1 > d0 then d1 else d0))=max (max d0 d1) d2:=by
  rw [Int.max_def,Int.max_def]
  split<;>split<;>split<;>omega
 have hw:IntKind.i64.wrap (1+max (max d0 d1) d2)=max (max d0 d1) d2+1:=by rw [w64 (by omega) (by omega)];omega
 refine Zv <| Zx ⟨fun i=>if i=6 then .int .i64 d0 else if i=13 then .int .i64 d1 else if i=20 then .int .i64 d2 else .top,fun _ => .pure⟩ (by kernel_rfl) hG (by kernel_rfl) (by kernel_rfl) ?_
 refine Zsf (zi hg (zi @Zj (zi hmx hw))) ?_;refine ⟨pc _ _ h0,pc _ _ h1,pc _ _ h2,?_⟩;exact Zr
theorem Z3c:∀ x:X,x.depth≤x.size
 | .leaf .. => Nat.le_refl _
 | .un _ a=>by have:=Z3c a;simp only [X.depth,X.size];omega
 | .bin _ a b=>by have:=Z3c a;have:=Z3c b;simp only [X.depth,X.size];omega
 | .ite a b c=>by have:=Z3c a;have:=Z3c b;have:=Z3c c;simp only [X.depth,X.size];omega
theorem Ztk {l:List XN} {x:X} {b:Nat} (h:At l x b):b+x.size≤l.length:=by
 obtain ⟨pre,post,rfl,hb⟩:=h;rw [List.length_append,List.length_append,X.row_len];omega
theorem Zve (G:Nat→V) (hG:GOk G) (s:Sl XN) (hs:s.l.length<1000000):∀ (x:X) (b:Nat),At s.l x b→dep0 s G ((b:Int)+x.size-1) x.depth
 | .leaf op num name,b,h=>by
  have:=Z9f G hG s b _ h.get 0 0 0 (Zme G hG s) (Zme G hG s) (Zme G hG s) ⟨by decide,by decide,by decide⟩
  have e:(b:Int)+(X.leaf op num name).size-1=(b:Nat):=by simp only [X.size];omega
  rw [e];exact this
 | .un op a,b,h=>by
  have ha:=h.un;have ih:=Zve G hG s hs a b ha;have hz:=Ztk h;have hd:=Z3c a;have hp:=a.size_pos;have:=Z9f G hG s _ _ h.get _ 0 0 ih (Zme G hG s) (Zme G hG s) ⟨⟨by omega,by simp only [X.size] at hz;omega⟩,by decide,by decide⟩
  have e:(b:Int)+(X.un op a).size-1=((b+(X.un op a).size-1:Nat):Int):=by simp only [X.size];omega
  rw [e]
  have e2:((X.un op a).depth:Int)=max (max (a.depth:Int) 0) 0+1:=by simp only [X.depth];omega
  rw [e2];exact this
 | .bin op x y,b,h=>by
  obtain ⟨hx,hy⟩:=h.bin;have ihx:=Zve G hG s hs x b hx;have ihy:=Zve G hG s hs y (b+x.size) hy;have hz:=Ztk h;have hd1:=Z3c x;have hd2:=Z3c y;have hp1:=x.size_pos;have hp2:=y.size_pos
  have e3:((b+x.size:Nat):Int)+y.size-1=(b:Int)+x.size+y.size-1:=by omega
  rw [e3] at ihy;simp only [X.size] at hz;have:=Z9f G hG s _ _ h.get _ _ 0 ihx ihy (Zme G hG s) ⟨⟨by omega,by omega⟩,⟨by omega,by omega⟩,by decide⟩
  have e:(b:Int)+(X.bin op x y).size-1=((b+(X.bin op x y).size-1:Nat):Int):=by simp only [X.size];omega
  rw [e]
  have e2:((X.bin op x y).depth:Int)=max (max (x.depth:Int) y.depth) 0+1:=by simp only [X.depth];omega
  rw [e2];exact this
 | .ite x y z,b,h=>by
  obtain ⟨hx,hy,hz'⟩:=h.ite;have ihx:=Zve G hG s hs x b hx;have ihy:=Zve G hG s hs y (b+x.size) hy;have ihz:=Zve G hG s hs z (b+x.size+y.size) hz';have hz:=Ztk h;have hd1:=Z3c x;have hd2:=Z3c y;have hd3:=Z3c z;have hp1:=x.size_pos;have hp2:=y.size_pos;have hp3:=z.size_pos
  have e3:((b+x.size:Nat):Int)+y.size-1=(b:Int)+x.size+y.size-1:=by omega
  rw [e3] at ihy
  have e4:((b+x.size+y.size:Nat):Int)+z.size-1=(b:Int)+x.size+y.size+z.size-1:=by omega
  rw [e4] at ihz;simp only [X.size] at hz;have:=Z9f G hG s _ _ h.get _ _ _ ihx ihy ihz ⟨⟨by omega,by omega⟩,⟨by omega,by omega⟩,⟨by omega,by omega⟩⟩
  have e:(b:Int)+(X.ite x y z).size-1=((b+(X.ite x y z).size-1:Nat):Int):=by simp only [X.size];omega
  rw [e]
  have e2:((X.ite x y z).depth:Int)=max (max (x.depth:Int) y.depth) z.depth+1:=by simp only [X.depth];omega
  rw [e2];exact this
end Go.Hs
end

section
namespace Go.Hs
open Go.Proofs
set_option maxRecDepth 10000
theorem Zem (G:Nat→V) (hG:GOk G) (c:Col) (s:Sl XN) (hs:s.l.length<1000000) (hnm:∀ n∈s.l,n.name.length<100000) :
  Spec Tryz.prog G 68 [Zb c 6 Zw s] Zu (fun v _=>v = .bool (Z9r s.l)):=by
 refine Zo 0 9 [.tmp 2] Tryz.func68 fun X=>?_;have hw:IntKind.i64.wrap ((s.l.length:Int)-1)=(s.l.length:Int)-1:=w64 (by omega) (by omega);refine Z1 ?_;refine Z1f hw ?_;refine Zcf @Za hG ?_ (s:=(Z0u G hG s hs hnm s.l.length c.ent ((s.l.length:Int)-1) (by omega) (by omega) (by omega)));exact Zr
theorem Zfs (G:Nat→V) (hG:GOk G) (c:Col) (s:Sl XN) (hs:s.l.length<1000000) (hnm:∀ n∈s.l,n.name.length<100000) :
  Spec Tryz.prog G 69 [Zb c 6 Zw s] Zu (fun v _=>v = .int .i64 (Zia s.l)):=by
 refine Zo 0 11 [.tmp 2] Tryz.func69 fun X=>?_;have hw:IntKind.i64.wrap ((s.l.length:Int)-1)=(s.l.length:Int)-1:=w64 (by omega) (by omega);refine Z1 ?_;refine Z1 ?_;refine Zcf @Za hG ?_ (s:=(Zem G hG c.ent s hs hnm))
 cases hr:Z9r s.l with
 | false =>
  have hd:Zia s.l=0:=by
   have:=Zfi s.l;rw [hr] at this;have h2:=of_decide_eq_false this.symm;exact Classical.byContradiction h2
  refine Zd rfl (fun h6=>?_) (fun h6=>?_)
  ·refine Z ?_
   rw [hd]
  ·cases h6
 | true =>
 refine Z0 ?_;obtain ⟨x,hx,hl⟩:=Z9j.1 hr;have hat:At s.l x 0:=hl ▸ Zif x
 have hdep:Zia s.l=x.depth:=by rw [hl,Z8g hx]
 have hlen:s.l.length=x.size:=by rw [hl,Go.Hs.X.row_len]
 have hsp:=Zve G hG s hs x 0 hat;rw [show ((0:Nat):Int)+x.size-1=(s.l.length:Int)-1 by omega] at hsp;refine Z1f hw ?_;refine Zcf @Za hG ?_ (s:=(hsp c.ent));refine Z ?_;rw [hdep]
def Zaa (l:List XN):Int:=if Zia l=0 then 2 else if Zia l > 64 then 3 else 0
theorem Zgi (G:Nat→V) (hG:GOk G) (c:Col) (s:Sl XN) (hs:s.l.length<1000000) (hnm:∀ n∈s.l,n.name.length<100000) :
  Spec Tryz.prog G 45 [Zb c 6 Zw s] Zu (fun v _=>v = .int .i64 (Zaa s.l)):=by
 refine Zo 0 9 [.tmp 2] Tryz.func45 fun X=>?_
 have hC:Zaa s.l=if Zia s.l=0 then 2 else if Zia s.l > 64 then 3 else 0:=rfl
 generalize Zaa s.l=res at hC ⊢;refine Z1 ?_;refine Z1 ?_;refine Zcf @Za hG ?_ (s:=(Zem G hG c.ent s hs hnm));rw [Zfi]
 by_cases hd:Zia s.l=0
 ·rw [if_pos hd] at hC
  have e1:decide (Zia s.l≠0)=false:=by simpa using hd
  rw [e1];refine Zd rfl (fun h6=>?_) (fun h6=>?_)
  ·refine Z ?_
   rw [hC]
  ·cases h6
 have e1:decide (Zia s.l≠0)=true:=by simpa using hd
 rw [if_neg hd] at hC;rw [e1];refine Z1 ?_;refine Zcf @Za hG ?_ (s:=(Zfs G hG c.ent s hs hnm));refine Zd rfl (fun h7=>?_) (fun h7=>?_)
 ·have h7:Zia s.l > 64:=by simpa using h7
  rw [if_pos h7] at hC;refine Z ?_;rw [hC]
 ·have h7:¬ Zia s.l > 64:=by simpa using h7
  rw [if_neg h7] at hC;refine Z ?_;rw [hC]
theorem Zwl (G:Nat→V) (hE:GExp G) (c:Col) (s:Sl XN) (hs:s.l.length<1000000) (hnm:∀ n∈s.l,n.name.length<100000) :
  Spec Tryz.prog G 65 [.agg [Zb c 6 Zw s]] Zu (fun v _=>v = .int .i64 (Zaa s.l)):=by
 have hG:=hE.ok;refine Zo 0 12 [.tmp 2] Tryz.func65 fun X=>?_
 have hC:Zaa s.l=if Zia s.l=0 then 2 else if Zia s.l > 64 then 3 else 0:=rfl
 generalize Zaa s.l=res at hC ⊢;refine Z1 ?_;intro g1;refine Z1 ?_;refine Zcf @Za hG ?_ (s:=(Zre G hE c.ent s hs hnm));refine Z1 ?_;refine Zd rfl (fun h6=>?_) (fun h6=>?_)
 ·have h6:Zia s.l=0:=by simpa using h6
  rw [if_pos h6] at hC;refine Z ?_;rw [hC]
 have h6:¬ Zia s.l=0:=by simpa using h6
 rw [if_neg h6] at hC;refine Z1 ?_;refine Zd rfl (fun h7=>?_) (fun h7=>?_)
 ·have h7:Zia s.l > 64:=by simpa using h7
  rw [if_pos h7] at hC;refine Z ?_;rw [hC]
 ·have h7:¬ Zia s.l > 64:=by simpa using h7
  rw [if_neg h7] at hC;refine Z ?_;rw [hC]
end Go.Hs
end

section
namespace Go.Hs
open Go.Proofs
set_option maxRecDepth 10000
set_option maxHeartbeats 1000000
def Zpa (r:EV):V := .tuple [Zka r,.int .i64 r.er]
def Z92 (env:List (List UInt8 × Int)) (l:List XN) (k:Int) (r:EV):Prop:=Zaa l≠0∧r = .err (Zaa l)∨Zaa l=0∧∃ x:X,x.ok=true∧Zwd x∧l=x.row 0∧r=(evX env x).need k
theorem Z3r {H:Heap} {a b:AObj} (h6:H 6=a) (h7:H 7=b) (o:Nat):Zrb Zu [(6,a),(7,b)] o = .dead∨Zrb Zu [(6,a),(7,b)] o=H o:=by
 simp only [Zrb,upd]
 split
 ·rename_i h;subst h;exact .inr h6.symm
 split
 ·rename_i h;subst h;exact .inr h7.symm
 ·exact .inl rfl
theorem Zgk (G:Nat→V) (hE:GExp G) (c c2:Col) (s:Sl XN) (hs:s.l.length<1000000) (hnm:∀ n∈s.l,n.name.length<100000) (env:Sl (List UInt8 × Int)) (hv:env.l.length<1000000) (hf:∀ p∈env.l,Z0b p.2=true) (k:Int) (hk:0≤k∧k≤2) (r:EV) (hr:Z92 env.l s.l k r) :
  Spec Tryz.prog G 44 [.agg [Zb c 6 Zw s],Zb c2 2 Zea env,.int .u8 k] Zu (fun v _=>v=Zpa r):=by
 have hG:=hE.ok;refine Zbo 0 51 [.cell 6 34,.cell 7 30] Tryz.func44 rfl rfl rfl rfl fun X0=>?_;refine Z1j rfl fun K hK=>AW.region (by kernel_rfl) ?_;simp -implicitDefEqProofs only[go_sem,seval,↓reduceIte];intro g3 g6 g7;refine hK _ ?_;clear hK K;refine Z1j rfl fun K1 hK1=>?_;refine Zi fun K hK=>AW.region (by kernel_rfl) ?_;simp -implicitDefEqProofs only[go_sem,seval,↓reduceIte];refine CallA.pure hG (by kernel_rfl) ?_;simp -implicitDefEqProofs only[go_sem,seval,↓reduceIte,Za];refine (Zwl G hE c.ent s hs hnm).mono ?_;rintro _ _ rfl;simp -implicitDefEqProofs only[go_sem,seval,↓reduceIte];refine hK _ ?_;clear hK K
 by_cases hc:Zaa s.l=0
 rotate_left
 ·obtain rfl:r = .err (Zaa s.l):=by
   rcases hr with ⟨_,h⟩ | ⟨h,_⟩
   ·exact h
   ·exact absurd h hc
  have hcb:(Zaa s.l != 0)=true:=by simpa using hc
  refine Zi fun K hK=>AW.region (by kernel_rfl) ?_;simp -implicitDefEqProofs only[go_sem,seval,↓reduceIte,hcb];refine hK _ ?_;clear hK K;refine Zfa rfl ?_;refine Zi fun K hK=>AW.region (by kernel_rfl) ?_;simp -implicitDefEqProofs only[go_sem,seval,↓reduceIte];refine hK _ ?_;clear hK K;refine AW.ret ?_;intro a w hsat;refine Zmy rfl hsat (v:=Zpa (.err (Zaa s.l))) (rs:=[.cell 6 34,.cell 7 30]) ?_ ?_
  ·simp -implicitDefEqProofs only[go_sem,seval,↓reduceIte]
   rfl
  ·rfl
 obtain ⟨x,hx,hxn,hl,rfl⟩:∃ x:X,x.ok=true∧Zwd x∧s.l=x.row 0∧r=(evX env.l x).need k:=by
  rcases hr with ⟨h,_⟩ | ⟨_,h⟩
  ·exact absurd hc h
  ·exact h
 have hcb:(Zaa s.l != 0)=false:=by simpa using hc
 refine Zi fun K hK=>AW.region (by kernel_rfl) ?_;simp -implicitDefEqProofs only[go_sem,seval,↓reduceIte,hcb];refine hK _ ?_;clear hK K;refine Z8 rfl ?_;refine AW.skip ?_;simp -implicitDefEqProofs only[go_sem,seval,↓reduceIte];refine hK1 _ ?_;clear hK1 K1;refine Zd3 1 (fun _=>(⟨X0,Zu,51,0,G,none,[.func (.func 66) [] [.ptr 6 g6 0,.ptr 7 g7 0]]⟩:Ent)) (fun _=>rfl) (by kernel_rfl) rfl rfl rfl (fun _=>rfl) ?_;simp -implicitDefEqProofs only[go_sem,seval,↓reduceIte];intro X1 a1 hX1;refine Zm5 hX1 (fun d hd=>by cases hd) (fid:=66) (first:=[]) (cap:=[.ptr 6 g6 0,.ptr 7 g7 0]) (by simp -implicitDefEqProofs only[go_sem,seval,↓reduceIte]) ?_;rw [Zi4];refine AWR.weak (Zg (l:=[(1,Zb c2 2 Zea env),(2,.int .u8 k),(3,.ptr 3 g3 0),(6,.ptr 6 g6 0),(7,.ptr 7 g7 0)]) (m:=[(3,.cells .new g3 0 [Zb c 6 Zw s]),(6,.cells .new g6 0 [.int .u8 0,.int .i64 0,.bool false]),(7,.cells .new g7 0 [.int .i64 0])]) (by simp -implicitDefEqProofs only[go_sem,seval,↓reduceIte];try rfl) (by simp -implicitDefEqProofs only[go_sem,seval,↓reduceIte];try rfl)) ?_;refine Z1j rfl fun K hK=>AW.region (by kernel_rfl) ?_;simp -implicitDefEqProofs only[go_sem,seval,↓reduceIte];intro b g22;refine hK _ ?_;clear hK K;refine AWR.weak (Zg (l:=[(1,Zb c2 2 Zea env),(2,.int .u8 k),(3,.ptr 3 g3 0),(6,.ptr 6 g6 0),(7,.ptr 7 g7 0),(9,.ptr 22 g22 0)]) (m:=[(3,.cells .new g3 0 [Zb c 6 Zw s]),(6,.cells .new g6 0 [.int .u8 0,.int .i64 0,.bool false]),(7,.cells .new g7 0 [.int .i64 0]),(20,.mp X0.w.heap.size b [] []),(22,.cells .new g22 0 [Zb c 6 Zw s,.mref 20 b])]) (by simp -implicitDefEqProofs only[go_sem,seval,↓reduceIte];try rfl) (by simp -implicitDefEqProofs only[go_sem,seval,↓reduceIte];try rfl)) ?_
 refine Z1j rfl fun K1 hK1=>?_;have hw:IntKind.i64.wrap ((env.l.length:Int)-1)=(env.l.length:Int)-1:=w64 (by omega) (by omega);refine Zi fun K hK=>AW.region (by kernel_rfl) ?_;simp -implicitDefEqProofs only[go_sem,seval,↓reduceIte,hw];refine hK _ ?_;clear hK K;refine AW.block ?_
 refine Z0a env.l.length (fun j (_:Unit)=>st [(1,Zb c2 2 Zea env),(2,.int .u8 k),(3,.ptr 3 g3 0),(6,.ptr 6 g6 0),(7,.ptr 7 g7 0),(9,.ptr 22 g22 0),(10,.int .i64 ((env.l.length:Int)-1-j))] [(3,.cells .new g3 0 [Zb c 6 Zw s]),(6,.cells .new g6 0 [.int .u8 0,.int .i64 0,.bool false]),(7,.cells .new g7 0 [.int .i64 0]),(20,.mp X0.w.heap.size b (Z7b (Zfe env.l j)) (Zgc (Zfe env.l j))),(22,.cells .new g22 0 [Zb c 6 Zw s,.mref 20 b])]) (fun _ _=>True) 0 () (Nat.zero_le _) trivial
  (Zg (by simp -implicitDefEqProofs only[go_sem,seval,↓reduceIte];simp) (by simp -implicitDefEqProofs only[go_sem,seval,↓reduceIte];try rfl)) ?_
 rintro j _ hj-L hL;refine Zi fun K3 hK3=>?_
 by_cases hjl:j<env.l.length
 ·obtain ⟨i,hi⟩:∃ i:Nat,i=env.l.length-(j+1):=⟨_,rfl⟩
  have hil:i<env.l.length:=by omega
  have hq:(env.l.length:Int)-1-j=(i:Int):=by omega
  have hg:env.l[i]? = some env.l[i]:=List.getElem?_eq_getElem hil
  have hnx:Zfe env.l (j+1)=Zur (Zfe env.l j) env.l[i]:=by
   rw [Zfe,← hi,hg]
  generalize env.l[i]=p at hg hnx;rw [hq];refine Zi fun K hK=>AW.region (by kernel_rfl) ?_;simp -implicitDefEqProofs only[go_sem,seval,↓reduceIte];refine hK _ ?_;clear hK K;refine Zd (by simp -implicitDefEqProofs only[go_sem,seval,↓reduceIte];rfl) (fun h1=>?_) (fun h1=>?_);rotate_left
  ·have h1:decide ((i:Int)≥0)=false:=h1
   simp at h1
  refine AW.skip ?_;simp -implicitDefEqProofs only[go_sem,seval,↓reduceIte];refine hK3 _ ?_;clear hK3 K3;refine Zi fun K4 hK4=>?_;refine AW.block ?_;refine Zx ⟨fun _ => .top,fun _ => .pure⟩ (by kernel_rfl) hG (by kernel_rfl) (by kernel_rfl) ?_;simp -implicitDefEqProofs only[go_sem,seval,↓reduceIte,hg,Z5g,hil,Int.natCast_nonneg,Int.ofNat_lt,Zyg Tryz.underlying155 Tryz.underlying9,Zj4,Zjm,Nat.le_refl];refine hK4 _ ?_;clear hK4 K4;have hw2:IntKind.i64.wrap ((i:Int)-1)=(i:Int)-1:=w64 (by omega) (by omega);refine AW.region (by kernel_rfl) ?_;simp -implicitDefEqProofs only[go_sem,seval,↓reduceIte,hw2];refine hL _ ⟨hjl,(),trivial,Zg (by simp -implicitDefEqProofs only[go_sem,seval,↓reduceIte];exact congrArg (V.int .i64) (by omega)) (by simp -implicitDefEqProofs only[go_sem,seval,↓reduceIte];rw [hnx];try rfl)⟩
 ·have hje:j=env.l.length:=by omega
  subst hje
  have hq:(env.l.length:Int)-1-env.l.length = -1:=by omega
  rw [hq];refine Z4 (by kernel_rfl) ?_;simp -implicitDefEqProofs only[go_sem,seval,↓reduceIte];refine Z8 rfl ?_;refine AW.exit ?_;simp -implicitDefEqProofs only[go_sem,seval,↓reduceIte];refine hK1 _ ?_;clear hK1 hL hK3 K1 K3;refine AWR.weak (Zrk 20 (lo:=X0.w.heap.size) (b:=b) (ks:=Z7b (Zl2 env.l)) (vs:=Zgc (Zl2 env.l)) [(1,Zb c2 2 Zea env),(2,.int .u8 k),(3,.ptr 3 g3 0),(6,.ptr 6 g6 0),(7,.ptr 7 g7 0),(9,.ptr 22 g22 0)] [(3,.cells .new g3 0 [Zb c 6 Zw s]),(6,.cells .new g6 0 [.int .u8 0,.int .i64 0,.bool false]),(7,.cells .new g7 0 [.int .i64 0]),(22,.cells .new g22 0 [Zb c 6 Zw s,.mapv (Z7b (Zl2 env.l)) (Zgc (Zl2 env.l))])] (by simp -implicitDefEqProofs only[go_sem,seval,↓reduceIte];try rfl) (Nat.le_refl _) ?_ ?_) ?_
  ·simp -implicitDefEqProofs only[go_sem,seval,↓reduceIte]
   exact ⟨.inl rfl,.inl rfl,.inl rfl,.inl rfl,.inl rfl,.inl rfl⟩
  ·simp -implicitDefEqProofs only[go_sem,seval,↓reduceIte]
   exact ⟨⟨_,rfl,.inl rfl,trivial⟩,⟨_,rfl,.inl rfl,.inl rfl,.inl rfl,trivial⟩,⟨_,rfl,.inl rfl,trivial⟩,⟨_,rfl,.inl rfl,.inr ⟨rfl,rfl⟩,trivial⟩⟩
  refine AWR.weak (Z7 (fun o=>o==22) (l:=[(1,Zb c2 2 Zea env),(2,.int .u8 k),(3,.ptr 3 g3 0),(6,.ptr 6 g6 0),(7,.ptr 7 g7 0),(9,lkV .new c s (Zl2 env.l))]) (m:=[(3,.cells .new g3 0 [Zb c 6 Zw s]),(6,.cells .new g6 0 [.int .u8 0,.int .i64 0,.bool false]),(7,.cells .new g7 0 [.int .i64 0])]) ?_ ?_) ?_
  ·simp -implicitDefEqProofs only[go_sem,seval,↓reduceIte]
   refine ⟨Zl _,Zl _,Zl _,Zl _,Zl _,?_⟩;exact Fz.ptr (v := .agg [Zb c 6 Zw s,.mapv (Z7b (Zl2 env.l)) (Zgc (Zl2 env.l))]) (c := .new) (fz:=0) rfl (by simp -implicitDefEqProofs only[go_sem,seval,↓reduceIte];try rfl)
  ·simp only [Zy,Z2,and_true]
   exact ⟨FzO.keep rfl (by simp -implicitDefEqProofs only[go_sem,seval,↓reduceIte];try rfl),FzO.keep rfl (by simp -implicitDefEqProofs only[go_sem,seval,↓reduceIte];try rfl),FzO.keep rfl (by simp -implicitDefEqProofs only[go_sem,seval,↓reduceIte];try rfl)⟩
  have hw3:IntKind.i64.wrap ((s.l.length:Int)-1)=(s.l.length:Int)-1:=w64 (by omega) (by omega);refine Zd3 6 (fun _=>(⟨X0,Zu,51,0,G,none,[.func (.func 66) [] [.ptr 6 g6 0,.ptr 7 g7 0]]⟩:Ent)) (fun _=>rfl) (by kernel_rfl) rfl rfl rfl (fun _=>rfl) ?_;simp -implicitDefEqProofs only[go_sem,seval,↓reduceIte,hw3];intro X2 a2 hX2;refine call_wp hX2 (fun d hd=>by cases hd;exact Nat.le_refl 51) (fid:=67) (first:=[]) (cap:=[]) (KP:=fun v H'=>(∃ e,(evX env.l x).need k = .err e∧v=Zhv e)∧H' 6 = .cells .new g6 0 [.int .u8 0,.int .i64 0,.bool false]∧H' 7 = .cells .new g7 0 [.int .i64 0]) (by simp -implicitDefEqProofs only[go_sem,seval,↓reduceIte]) ?_ ?_
  ·simp -implicitDefEqProofs only[go_sem,seval,↓reduceIte]
   have hsz:((0+x.size-1:Nat):Int)=(s.l.length:Int)-1:=by
    have:=x.size_pos;rw [hl,Go.Hs.X.row_len];omega
   have hO:=of_spec G hG s hs (Zl2 env.l) (Z3g hf _) x 0 hx hxn (hl ▸ Zif x);rw [hsz,Zh5] at hO;refine Z3 hG (by kernel_rfl) (hO .old c.ent k hk) (by simp -implicitDefEqProofs only[go_sem,seval,↓reduceIte,lkV]) ?_ ?_
   ·rintro v H' ⟨e,he,rfl⟩
    exact ⟨⟨e,he,rfl⟩,rfl,rfl⟩
   rintro v H' ⟨hne,rfl⟩;simp -implicitDefEqProofs only[go_sem,seval,↓reduceIte,Zka];refine AWR.ret ?_;rintro a w ⟨Y,hY⟩;obtain rfl:Y.w=w:=hY.hw;refine Zwo (rs:=[.cell 6 34,.cell 7 30]) (pv:=none) rfl hY (by kernel_rfl) rfl (Zs2 G g6 g7 [.int .u8 ((evX env.l x).need k).kind,.int .i64 ((evX env.l x).need k).nm,.bool ((evX env.l x).need k).tr] [.int .i64 0]) ?_ ?_
   ·intro o
    refine Z3r ?_ ?_ o
    ·simp -implicitDefEqProofs only[go_sem,seval,↓reduceIte]
     try rfl
    ·simp -implicitDefEqProofs only[go_sem,seval,↓reduceIte]
     try rfl
   rintro H'' ⟨q6,q7⟩;simp -implicitDefEqProofs only[go_sem,seval,↓reduceIte];rw [q6,q7];simp -implicitDefEqProofs only[go_sem,seval,↓reduceIte];generalize (evX env.l x).need k=r at hne ⊢
   cases r with
   | err e=>exact absurd rfl (hne e)
   | num n=>exact ⟨_,rfl,rfl⟩
   | tru b=>exact ⟨_,rfl,rfl⟩
  ·rintro cv v Y H' hY hrel ⟨⟨e,he,rfl⟩,h6,h7⟩
   refine Zwo (rs:=[.cell 6 34,.cell 7 30]) (pv:=some (Zhv e)) rfl hY (by kernel_rfl) ⟨cv,rfl,hrel⟩ (Zez G hG g6 g7 (.int .i64 0) e) ?_ ?_
   ·exact fun o=>Z3r h6 h7 o
   ·rintro H'' ⟨q6,q7⟩
    simp -implicitDefEqProofs only[go_sem,seval,↓reduceIte];rw [q6,q7,he];simp -implicitDefEqProofs only[go_sem,seval,↓reduceIte];exact ⟨_,rfl,rfl⟩
end Go.Hs
end

section
namespace Go.Hs
open Go.Proofs
set_option maxRecDepth 10000
theorem Zw5 (G:Nat→V) (hG:GOk G) (c1 c2:Col) (n1 n2:Bool) (a b:Nat) (h1:n1=true→dg a=[]) (h2:n2=true→dg b=[]) (hla:(dg a).length<1000000) (hlb:(dg b).length<1000000) :
  Zng Tryz.prog G 163 [Zb c1 1 (V.int .i64) (slD n1 (dg a)),Zb c2 1 (V.int .i64) (slD n2 (dg b))] (Zb .any 1 (V.int .i64) (slD (decide (dg a=[]∧dg b=[])) (dg (a+b)))):=⟨by kernel_rfl,by
 refine Zs ?_;refine (Zgs G hG _ _ _ _ (dg a) (dg b) (Z5i h1) (Z5i h2) (Zbd a) (Zbd b) hla hlb).mono ?_;rintro _ _ rfl;rw [Zhc,Zhc]
 simp -implicitDefEqProofs only[go_sem,seval,↓reduceIte]⟩
theorem Z0l (G:Nat→V) (hG:GOk G) (c1 c2:Col) (n1 n2:Bool) (a b:Nat) (h1:n1=true→dg a=[]) (h2:n2=true→dg b=[]) (hla:(dg a).length<1000000) (hab:b≤a) :
  Zng Tryz.prog G 166 [Zb c1 1 (V.int .i64) (slD n1 (dg a)),Zb c2 1 (V.int .i64) (slD n2 (dg b))] (Zb .any 1 (V.int .i64) (slD (decide (dg a=[])) (dg (a-b)))):=⟨by kernel_rfl,by
 have hlen:(dg b).length≤(dg a).length:=by
  rcases Nat.lt_or_ge (dg a).length (dg b).length with h | h
  ·have:=Z8m h;omega
  ·exact h
 refine Zs ?_;refine (Zdy G hG _ _ _ _ (dg a) (dg b) (Z5i h1) (Z5i h2) (Zbd a) (Zbd b) hla hlen (by rw [Zhc,Zhc];exact hab)).mono ?_;rintro _ _ rfl;rw [Zhc,Zhc]
 simp -implicitDefEqProofs only[go_sem,seval,↓reduceIte]⟩
theorem Zno (G:Nat→V) (hG:GOk G) (c1 c2:Col) (n1 n2 b1 b2:Bool) (a b:Nat) (h1:n1=true→dg a=[]) (h2:n2=true→dg b=[]) (hla:(dg a).length<1000000) (hlb:(dg b).length<1000000) :
  Spec Tryz.prog G 139 [Z9 c1 n1 (dg a) b1,Z9 c2 n2 (dg b) b2] Zu (fun v _=>∃ nl m below,v=Z9 .any nl (dg m) below∧(nl=true→dg m=[])∧sgn below m=sgn b1 a+sgn b2 b∧m≤a+b):=by
 refine Zo 0 39 [.cell 4 204] Tryz.func139 fun X=>?_;simp only [Z9];refine Z1 ?_;intro g2 g3 g4;refine Z1 ?_;refine Zd zp (fun h2'=>?_) (fun h2'=>?_)
 ·have hb:b1=b2:=by simpa using h2'
  have p1:=Zw5 G hG c1 c2 n1 n2 a b h1 h2 hla hlb
  refine Zv <| Zx ⟨fun i=>if i=4 then Zb .any 1 (V.int .i64) (slD (decide (dg a=[]∧dg b=[])) (dg (a+b))) else .top,fun _ => .pure⟩ (by kernel_rfl) hG (by kernel_rfl) (by kernel_rfl) ?_
  refine Zs ?_;refine ⟨p1,?_⟩;refine Z ?_;refine ⟨_,a+b,b1,rfl,?_,?_,Nat.le_refl _⟩
  ·intro h
   have h:=of_decide_eq_true h;rw [Z9y] at h ⊢;rw [Z9y] at h;omega
  ·subst hb
   unfold sgn
   split<;>omega
 ·have hb:b1≠b2:=by simpa using h2'
  refine Z1 ?_;refine Zc hG ?_ (s:=(Zoo G hG _ _ _ _ a b (Z5i h1) (Z5i h2) hla hlb));refine Zd rfl (fun h4=>?_) (fun h4=>?_)
  ·have h4':=of_decide_eq_true h4
   have p1:=Z0l G hG c2 c1 n2 n1 b a h2 h1 hlb (by omega)
   refine Zv <| Zx ⟨fun i=>if i=4 then Zb .any 1 (V.int .i64) (slD (decide (dg b=[])) (dg (b-a))) else .top,fun _ => .pure⟩ (by kernel_rfl) hG (by kernel_rfl) (by kernel_rfl) ?_
   refine Zs ?_;refine ⟨p1,?_⟩;refine Z ?_;refine ⟨_,b-a,b2,rfl,?_,?_,by omega⟩
   ·intro h
    have h:=of_decide_eq_true h;rw [Z9y] at h ⊢;omega
   ·unfold sgn
    cases b1<;>cases b2<;>simp at hb ⊢ <;> omega
  ·have h4':=of_decide_eq_false h4
   have p1:=Z0l G hG c1 c2 n1 n2 a b h1 h2 hla (by omega);refine Z0 ?_
   refine Zv <| Zx ⟨fun i=>if i=4 then Zb .any 1 (V.int .i64) (slD (decide (dg a=[])) (dg (a-b))) else .top,fun _ => .pure⟩ (by kernel_rfl) hG (by kernel_rfl) (by kernel_rfl) ?_
   refine Zs ?_;refine ⟨p1,?_⟩;refine Z ?_;refine ⟨_,a-b,b1,rfl,?_,?_,by omega⟩
   ·intro h
    have h:=of_decide_eq_true h;rw [Z9y] at h ⊢;omega
   ·unfold sgn
    cases b1<;>cases b2<;>simp at hb ⊢ <;> omega
theorem Zt0 {n:Int}:sgn (decide (n<0)) n.natAbs=n:=by
 unfold sgn
 split
 ·rename_i h;have:=of_decide_eq_true h;omega
 ·rename_i h;have:¬ n<0:=by simpa using h
  omega
theorem Zxg {n:Int} (h:decide (n=0)=true):dg n.natAbs=[]:=by
 have:=of_decide_eq_true h;subst this;rfl
theorem Zss {n:Int} (hn:InK .i64 n):(dg n.natAbs).length<1000000:=by
 have:=(Zgb n).1 hn;have:=Zrj (n:=n.natAbs) (k:=20) (by omega);omega
theorem Zqm {m:Nat} (h:m≤100000000000000000000000000000000000000000):(dg m).length<1000000:=by
 have:=Zrj (n:=m) (k:=42) (by omega);omega
theorem Zky (G:Nat→V) (hG:GOk G) (a b:Int) (ha:InK .i64 a) (hb:InK .i64 b):Spec Tryz.prog G 102 [.int .i64 a,.int .i64 b] Zu (fun v _=>v=Zpg (told (a+b))):=by
 have ha':=(Zgb a).1 ha;have hb':=(Zgb b).1 hb;refine Zo 0 14 [.tmp 4,.tmp 5] Tryz.func102 fun X=>?_;refine Z1 ?_;refine Z1 ?_;refine Zn hG ?_ (s:=(Zgd G hG a ha));simp -implicitDefEqProofs only[go_sem,seval,↓reduceIte,Z9];refine Zn hG ?_ (s:=(Zgd G hG b hb));simp -implicitDefEqProofs only[go_sem,seval,↓reduceIte,Z9];refine CallA.pure hG (by kernel_rfl) ?_;refine Zs ?_;rw [← Z9,← Z9];refine (Zno G hG _ _ _ _ _ _ _ _ Zxg Zxg (Zss ha) (Zss hb)).mono ?_;rintro _ _ ⟨nl,m,below,rfl,hnl,hm,hml⟩;rw [Zt0,Zt0] at hm;simp -implicitDefEqProofs only[go_sem,seval,↓reduceIte,Z9];refine CallA.pure hG (by kernel_rfl) ?_;refine Zs ?_;rw [← Z9];refine (Zle G hG _ _ _ _ hnl (Zbd _) (Zqm (by omega))).mono ?_;rintro _ _ rfl;rw [Zhc,hm];simp -implicitDefEqProofs only[go_sem,seval,↓reduceIte,Zpg];exact Zr
theorem Zey (G:Nat→V) (hG:GOk G) (a b:Int) (ha:InK .i64 a) (hb:InK .i64 b):Spec Tryz.prog G 103 [.int .i64 a,.int .i64 b] Zu (fun v _=>v=Zpg (told (a-b))):=by
 have ha':=(Zgb a).1 ha;have hb':=(Zgb b).1 hb;refine Zo 0 15 [.tmp 4,.tmp 5] Tryz.func103 fun X=>?_;refine Z1 ?_;refine Z1 ?_;refine Zn hG ?_ (s:=(Zgd G hG a ha));simp -implicitDefEqProofs only[go_sem,seval,↓reduceIte,Z9];refine Zn hG ?_ (s:=(Zgd G hG b hb));simp -implicitDefEqProofs only[go_sem,seval,↓reduceIte,Z9];refine CallA.pure hG (by kernel_rfl) ?_;refine Zs ?_;rw [← Z9];refine (Zgm G hG _ _ _ _).mono ?_;rintro _ _ rfl;simp -implicitDefEqProofs only[go_sem,seval,↓reduceIte,Z9];refine CallA.pure hG (by kernel_rfl) ?_;refine Zs ?_;rw [← Z9,← Z9];refine (Zno G hG _ _ _ _ _ _ _ _ Zxg Zxg (Zss ha) (Zss hb)).mono ?_;rintro _ _ ⟨nl,m,below,rfl,hnl,hm,hml⟩
 have hneg:sgn (!decide (b<0)) b.natAbs = -b:=by unfold sgn;by_cases h:b<0<;>simp [h]<;>omega
 rw [Zt0,hneg] at hm;simp -implicitDefEqProofs only[go_sem,seval,↓reduceIte,Z9];refine CallA.pure hG (by kernel_rfl) ?_;refine Zs ?_;rw [← Z9];refine (Zle G hG _ _ _ _ hnl (Zbd _) (Zqm (by omega))).mono ?_;rintro _ _ rfl;rw [Zhc,hm,show a + -b=a-b by omega];simp -implicitDefEqProofs only[go_sem,seval,↓reduceIte,Zpg];exact Zr
theorem Zfy (G:Nat→V) (hG:GOk G) (a:Int) (ha:InK .i64 a):Spec Tryz.prog G 72 [.int .i64 a] Zu (fun v _=>v=Zpg (told (-a))):=by
 have ha':=(Zgb a).1 ha;refine Zo 0 10 [.tmp 2,.tmp 3] Tryz.func72 fun X=>?_;refine Z1 ?_;refine Z1 ?_;refine Zn hG ?_ (s:=(Zgd G hG a ha));simp -implicitDefEqProofs only[go_sem,seval,↓reduceIte,Z9];refine CallA.pure hG (by kernel_rfl) ?_;refine Zs ?_;rw [← Z9];refine (Zgm G hG _ _ _ _).mono ?_;rintro _ _ rfl
 have hneg:sgn (!decide (a<0)) a.natAbs = -a:=by unfold sgn;by_cases h:a<0<;>simp [h]<;>omega
 simp -implicitDefEqProofs only[go_sem,seval,↓reduceIte,Z9];refine CallA.pure hG (by kernel_rfl) ?_;refine Zs ?_;rw [← Z9];refine (Zle G hG _ _ _ _ Zxg (Zbd _) (Zss ha)).mono ?_;rintro _ _ rfl;rw [Zhc,hneg];simp -implicitDefEqProofs only[go_sem,seval,↓reduceIte,Zpg];exact Zr
end Go.Hs
end
