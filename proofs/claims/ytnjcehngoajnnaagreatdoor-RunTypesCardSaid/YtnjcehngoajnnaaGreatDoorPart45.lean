/- Part 45 of the proof of a statement of seat YtnjcehngoajnnaaGreatDoor: HsTypLaw2 HsTypLaw3 HsEvLaw HsGEvB HsGEvW HsGEvX HsGEvY HsGEvZ HsGEvK HsGNumRef7 HsGEvR HsLexLaw3 HsLexLaw4 HsExprPrn HsExprBkLaw HsGEvU. -/
import Derived.Test.YtnjcehngoajnnaaGreatDoorPart40
import Derived.Test.YtnjcehngoajnnaaGreatDoorPart34
import Derived.Test.YtnjcehngoajnnaaGreatDoorPart44
set_option linter.unusedSimpArgs false
set_option linter.unusedVariables false
section
namespace Go.Hs
theorem Za8 {names:List (List UInt8)}:∀ (l:List X) (i:Int) (acc:List Int),(goX names l i acc).2.2=0→(∀ y∈l,Zab names y≠0)∧goX names l i acc=(acc++l.map (Zab names),0,0)
 | [],i,acc,_=>⟨fun y hy=>(by cases hy),by simp [goX]⟩
 | y::r,i,acc,h=>by
  rw [goX] at h ⊢
  by_cases h1:Zab names y=0
  ·rw [if_pos h1] at h;cases h
  ·rw [if_neg h1] at h ⊢
   obtain ⟨h2,h3⟩:=Za8 r (i+1) _ h;refine ⟨fun z hz=>?_,by rw [h3];simp⟩
   cases hz with
   | head=>exact h1
   | tail _ hz=>exact h2 z hz
theorem Zop {x y:X} (h:y∈Zxb x):∃ b,Sub x y b:=by
 obtain ⟨i,hi,e⟩:=List.mem_iff_getElem.1 h;obtain ⟨z,b,h1,h2,h3,h4⟩:=Zn1 x i (by rw [← Z0a];exact hi);rw [List.getElem?_eq_getElem hi,e] at h3;cases h3;exact ⟨b,h1⟩
theorem Sub.mem {x y:X} {b:Nat} (h:Sub x y b):y∈Zxb x:=List.mem_of_getElem? h.get
def Z8n (b:Int) (n:XN):XN:={ n with a:=max (-1) (n.a-b),b:=max (-1) (n.b-b),c:=max (-1) (n.c-b) }
theorem Zbe:∀ (y:X) (b c:Int),0≤b→0≤c→(y.row (b+c)).map (Z8n b)=y.row c
 | .leaf op num name,b,c,hb,hc=>by
  have:max (-1) (-1-b)=(-1:Int):=by omega
  simp only [X.row,List.map_cons,List.map_nil,Z8n,this]
 | .un op a,b,c,hb,hc=>by
  have e1:max (-1) (-1-b)=(-1:Int):=by omega
  have hp:=a.size_pos
  have e2:max (-1) (b+c+a.size-1-b)=c+a.size-1:=by omega
  simp only [X.row,List.map_append,List.map_cons,List.map_nil,Z8n,e1,e2,Zbe a b c hb hc]
 | .bin op x y,b,c,hb,hc=>by
  have e1:max (-1) (-1-b)=(-1:Int):=by omega
  have hp:=x.size_pos;have hp2:=y.size_pos
  have e2:max (-1) (b+c+x.size-1-b)=c+x.size-1:=by omega
  have e3:max (-1) (b+c+x.size+y.size-1-b)=c+x.size+y.size-1:=by omega
  have i2:=Zbe y b (c+x.size) hb (by omega);rw [← Int.add_assoc] at i2;simp only [X.row,List.map_append,List.map_cons,List.map_nil,Z8n,e1,e2,e3,Zbe x b c hb hc,i2]
 | .ite x y z,b,c,hb,hc=>by
  have hp:=x.size_pos;have hp2:=y.size_pos;have hp3:=z.size_pos
  have e2:max (-1) (b+c+x.size-1-b)=c+x.size-1:=by omega
  have e3:max (-1) (b+c+x.size+y.size-1-b)=c+x.size+y.size-1:=by omega
  have e4:max (-1) (b+c+x.size+y.size+z.size-1-b)=c+x.size+y.size+z.size-1:=by omega
  have i2:=Zbe y b (c+x.size) hb (by omega);rw [← Int.add_assoc] at i2;have i3:=Zbe z b (c+x.size+y.size) hb (by omega);rw [← Int.add_assoc,← Int.add_assoc] at i3;simp only [X.row,List.map_append,List.map_cons,List.map_nil,Z8n,e2,e3,e4,Zbe x b c hb hc,i2,i3]
theorem Sub.shift {x y:X} {b:Nat} (h:Sub x y b):(((x.row 0).drop b).take y.size).map (Z8n b)=y.row 0:=by
 obtain ⟨pre,post,e,hb⟩:=h.at (Zjl x);rw [Nat.zero_add] at hb e;have hl:(y.row ((b:Nat):Int)).length=y.size:=y.row_len _
 have ht:((x.row 0).drop b).take y.size=y.row (b:Nat):=by
  rw [e,List.append_assoc,← hb,List.drop_left,← hl,hb,List.take_left]
 rw [ht];have:=Zbe y b 0 (by omega) (by omega);rw [Int.add_zero] at this;exact this
end Go.Hs
end

section
namespace Go.Hs
theorem kd_two (nm:Bool) (a b c:Int):kd 2 nm a b c=if nm=true then 1 else 0:=by
 unfold kd
 cases nm<;>simp
def NmIn (x:X) (t:List UInt8):Prop:=∃ num,X.leaf 2 num t∈Zxb x
theorem NmIn.sub {x y:X} {b:Nat} (h:Sub x y b) {t:List UInt8} (ht:NmIn y t):NmIn x t:=by
 obtain ⟨n,q⟩:=ht;obtain ⟨c,hc⟩:=Zop q;exact ⟨n,(h.trans hc).mem⟩
end Go.Hs
end

section
namespace Go.Hs
inductive EV where
 | err (e:Int)
 | num (n:Int)
 | tru (b:Bool)
 deriving DecidableEq,Inhabited
namespace EV
def kind:EV→Int
 | err _=>0
 | num _=>1
 | tru _=>2
def nm:EV→Int
 | num n=>n
 | _=>0
def tr:EV→Bool
 | tru b=>b
 | _=>false
def er:EV→Int
 | err e=>e
 | _=>0
def need (k:Int):EV→EV
 | err e=>err e
 | v=>if k≠0∧v.kind≠k then err 90 else v
def onN (f:Int→EV):EV→EV
 | err e=>err e
 | num n=>f n
 | tru _=>err 90
def onB (f:Bool→EV):EV→EV
 | err e=>err e
 | num _=>err 90
 | tru b=>f b
def ofR (r:Int × Int):EV:=if r.2=0 then num r.1 else err r.2
def fine:EV→Prop
 | err e=>e=60∨e=61∨e=90
 | num n=>Zsb n=true
 | tru _=>True
end EV
def Zhd (env:List (List UInt8 × Int)) (s:List UInt8):Option Int:=(env.find? fun p=>p.1==s).map (·.2)
def Znj (op a b:Int):Int × Int :=
 if op=7 then Go.Hs.told (a * b) else if op=8 then divR a b else if op=9 then modR a b else if op=10 then Go.Hs.told (a+b) else Go.Hs.told (a-b)
def cmpV (op a b:Int):Bool:=if op=12 then decide (a<b) else if op=13 then decide (a≤b) else if op=14 then decide (a > b) else decide (a≥b)
def Z4m (op:Int):EV→EV→EV
 | .err e,_ => .err e
 | _,.err e => .err e
 | x,y=>if x.kind=y.kind then .tru ((x==y)==(op==16)) else .err 90
def Z02 (op:Int) (x y:EV):EV:=x.onB fun a =>
 if op=18∧a=false then .tru false else if op=19∧a=true∨op=21∧a=false then .tru true
 else y.onB fun b => .tru (if op=20 then a != b else b)
def Zmj (op:Int) (x y:EV):EV :=
 if op≤11 then x.onN fun a=>y.onN fun b => .ofR (Znj op a b)
 else if op≤15 then x.onN fun a=>y.onN fun b => .tru (cmpV op a b)
 else if op≤17 then Z4m op x y else Z02 op x y
def Zbx (op:Int) (x:EV):EV:=if op=5 then x.onN fun a => .ofR (Go.Hs.told (-a)) else x.onB fun b => .tru (!b)
def Zhe (env:List (List UInt8 × Int)) (op num:Int) (name:List UInt8):EV :=
 if op=1 then .num num else if op=2 then (match Zhd env name with | some v => .num v | none => .err 90) else .tru (op==3)
def evX (env:List (List UInt8 × Int)):X→EV
 | .leaf op num name=>Zhe env op num name
 | .un op a=>Zbx op (evX env a)
 | .bin op a b=>Zmj op (evX env a) (evX env b)
 | .ite a b c=>(evX env a).onB fun t=>if t=true then evX env b else evX env c
theorem Zaf (x:Int):(EV.ofR (Go.Hs.told x)).fine:=by
 unfold Go.Hs.told EV.ofR
 by_cases h:Zsb x=true
 ·rw [if_pos h];exact h
 ·rw [if_neg h];exact .inl rfl
theorem Z66 (a b:Int):(EV.ofR (divR a b)).fine:=by
 unfold divR
 split
 ·exact .inr (.inl rfl)
 ·exact Zaf _
theorem Ze6 (a b:Int):(EV.ofR (modR a b)).fine:=by
 unfold modR
 split
 ·exact .inr (.inl rfl)
 ·exact Zaf _
theorem Zm0 (op a b:Int):(EV.ofR (Znj op a b)).fine:=by
 unfold Znj
 repeat' split
 all_goals first | exact Zaf _ | exact Z66 _ _ | exact Ze6 _ _
theorem Zbh {x:EV} {f:Int→EV} (h:x.fine) (hf:∀ n,Zsb n=true→(f n).fine):(x.onN f).fine:=by
 cases x with
 | err e=>exact h
 | num n=>exact hf n h
 | tru b=>exact .inr (.inr rfl)
theorem Zch {x:EV} {f:Bool→EV} (h:x.fine) (hf:∀ n,(f n).fine):(x.onB f).fine:=by
 cases x with
 | err e=>exact h
 | num n=>exact .inr (.inr rfl)
 | tru b=>exact hf b
theorem Zs0 {op:Int} {x y:EV} (hx:x.fine) (hy:y.fine):(Z4m op x y).fine:=by
 cases x<;>cases y<;>simp only [Z4m]<;>first | exact hx | exact hy | (split<;>first | trivial | exact .inr (.inr rfl))
theorem Zky {op:Int} {x y:EV} (hx:x.fine) (hy:y.fine):(Zmj op x y).fine:=by
 unfold Zmj
 split
 ·exact Zbh hx fun a _=>Zbh hy fun b _=>Zm0 _ _ _
 split
 ·exact Zbh hx fun a _=>Zbh hy fun b _=>trivial
 split
 ·exact Zs0 hx hy
 ·refine Zch hx fun a=>?_
  split
  ·trivial
  split
  ·trivial
  ·exact Zch hy fun b=>trivial
theorem Z0s {env:List (List UInt8 × Int)} {s:List UInt8} {v:Int} (h:Zhd env s=some v):∃ p∈env,p.1=s∧p.2=v:=by
 unfold Zhd at h
 cases hf:env.find? (fun p=>p.1==s) with
 | none=>rw [hf] at h;cases h
 | some p =>
  rw [hf] at h;have:=List.find?_some hf;exact ⟨p,List.mem_of_find?_eq_some hf,by simpa using this,by simpa using h⟩
theorem Zd1 {n:XN} (h:Zyd n=true):0≤n.num:=by
 unfold Zyd at h
 split at h
 ·cases h
 ·rename_i h0;simp only [not_or,Int.not_lt] at h0;exact h0.2.2
theorem Z16 {env:List (List UInt8 × Int)} (he:∀ p∈env,Zsb p.2=true):∀ {x:X},x.ok=true→(∀ n∈x.row 0,Zsb n.num=true)→(evX env x).fine:=by
 have key:∀ (x:X),x.ok=true→(∀ op num name,X.leaf op num name∈Zxb x→Zsb num=true)→(evX env x).fine:=by
  intro x
  induction x with
  | leaf op num name =>
   intro h hn
   show (Zhe env op num name).fine
   unfold Zhe
   split
   ·exact hn op num name (by simp [Zxb])
   split
   ·cases hl:Zhd env name with
    | none=>exact .inr (.inr rfl)
    | some v =>
     obtain ⟨p,h1,_,h2⟩:=Z0s hl;exact h2 ▸ he p h1
   ·trivial
  | un op a ih =>
   intro h hn;simp only [X.ok,Bool.and_eq_true] at h;have ha:=ih h.2 fun o n nm hm=>hn o n nm (by simp [Zxb,hm])
   show (Zbx op (evX env a)).fine
   unfold Zbx
   split
   ·exact Zbh ha fun n _=>Zaf _
   ·exact Zch ha fun n=>trivial
  | bin op a b iha ihb =>
   intro h hn;simp only [X.ok,Bool.and_eq_true] at h;exact Zky (iha h.1.2 fun o n nm hm=>hn o n nm (by simp [Zxb,hm])) (ihb h.2 fun o n nm hm=>hn o n nm (by simp [Zxb,hm]))
  | ite a b c iha ihb ihc =>
   intro h hn;simp only [X.ok,Bool.and_eq_true] at h;refine Zch (iha h.1.1 fun o n nm hm=>hn o n nm (by simp [Zxb,hm])) fun t=>?_
   split
   ·exact ihb h.1.2 fun o n nm hm=>hn o n nm (by simp [Zxb,hm])
   ·exact ihc h.2 fun o n nm hm=>hn o n nm (by simp [Zxb,hm])
 intro x hx hn;refine key x hx fun op num name hm=>?_;obtain ⟨b,hb⟩:=Zop hm;have ht:=hb.top;have:=hn _ (List.mem_of_getElem? ht);exact this
theorem ev_kind {env:List (List UInt8 × Int)}:∀ {x:X},x.ok=true→(∀ y∈Zxb x,Zab (env.map (·.1)) y≠0) →
  (evX env x).kind=Zab (env.map (·.1)) x∨evX env x = .err 60∨evX env x = .err 61:=by
 intro x
 induction x with
 | leaf op num name =>
  intro h hk;have hk:=hk (.leaf op num name) (by simp [Zxb]);simp only [X.ok,Bool.and_eq_true,decide_eq_true_eq] at h;have hr:=(Z2d h.1).1;simp only at hr
  left
  simp only [Zab] at hk ⊢
  show (Zhe env op num name).kind=_
  unfold Zhe
  by_cases h1:op=1
  ·subst h1;simp [EV.kind,kd]
  by_cases h2:op=2
  ·subst h2
   rw [kd_two] at hk ⊢
   have hc:(env.map (·.1)).contains name=true:=by
    apply Classical.byContradiction;intro hh;rw [if_neg hh] at hk;exact hk rfl
   rw [if_pos hc,if_neg (by decide),if_pos rfl];simp only [List.contains_eq_mem,List.mem_map,decide_eq_true_eq] at hc;obtain ⟨p,hp,rfl⟩:=hc
   cases hl:Zhd env p.1 with
   | some v=>rfl
   | none =>
    unfold Zhd at hl;rw [Option.map_eq_none_iff,List.find?_eq_none] at hl;exact absurd (by simp) (hl p hp)
  ·rw [if_neg h1,if_neg h2]
   simp only [EV.kind,kd];rw [if_neg (by simp [h1,h2]),if_pos (by omega)]
 | un op a ih =>
  intro h hk;simp only [X.ok,Bool.and_eq_true,decide_eq_true_eq] at h;have ha:=ih h.2 fun y hy=>hk y (by simp [Zxb,hy]);have hk:=hk (.un op a) (by simp [Zxb]);have hra:=Z2h (env.map (·.1)) a;simp only [Zab] at hk ⊢
  show (Zbx op (evX env a)).kind=_∨Zbx op (evX env a)=_∨Zbx op (evX env a)=_
  unfold Zbx
  obtain h5 | h6:op=5∨op=6:=by omega
  ·subst h5
   rw [if_pos rfl];generalize Zab (env.map (·.1)) a=ka at *
   have hka:ka=1:=by unfold kd at hk;simp at hk;exact hk
   subst hka
   rcases ha with h1 | h1 | h1
   ·generalize evX env a=v at *
    cases v with
    | num n =>
     simp only [EV.onN];have hf:=Zaf (-n);unfold Go.Hs.told EV.ofR at hf ⊢
     by_cases hfit:Zsb (-n)=true
     ·rw [if_pos hfit];left;simp [EV.kind,kd]
     ·rw [if_neg hfit];right;left;rfl
    | err e=>simp [EV.kind] at h1
    | tru b=>simp [EV.kind] at h1
   ·rw [h1];right;left;rfl
   ·rw [h1];right;right;rfl
  ·subst h6
   rw [if_neg (by decide)];generalize Zab (env.map (·.1)) a=ka at *
   have hka:ka=2:=by unfold kd at hk;simp at hk;exact hk
   subst hka
   rcases ha with h1 | h1 | h1
   ·generalize evX env a=v at *
    cases v with
    | tru n=>left;simp [EV.onB,EV.kind,kd]
    | err e=>simp [EV.kind] at h1
    | num b=>simp [EV.kind] at h1
   ·rw [h1];right;left;rfl
   ·rw [h1];right;right;rfl
 | bin op a b iha ihb =>
  intro h hk;simp only [X.ok,Bool.and_eq_true,decide_eq_true_eq] at h;have ha:=iha h.1.2 fun y hy=>hk y (by simp [Zxb,hy]);have hb:=ihb h.2 fun y hy=>hk y (by simp [Zxb,hy]);have hk:=hk (.bin op a b) (by simp [Zxb]);simp only [Zab] at hk ⊢
  show (Zmj op (evX env a) (evX env b)).kind=_∨Zmj op (evX env a) (evX env b)=_∨Zmj op (evX env a) (evX env b)=_
  generalize Zab (env.map (·.1)) a=ka at *;generalize Zab (env.map (·.1)) b=kb at *;generalize evX env a=v at *;generalize evX env b=u at *;unfold Zmj
  by_cases h11:op≤11
  ·rw [if_pos h11]
   obtain ⟨rfl,rfl⟩:ka=1∧kb=1:=by
    unfold kd at hk;rw [if_neg (by omega),if_neg (by omega)] at hk
    split at hk
    ·omega
    ·rw [if_neg (by omega),if_neg (by omega),if_neg (by omega)] at hk;exact absurd rfl hk
   have hkd:kd op ((env.map (·.1)).contains []) 1 1 0=1:=by
    unfold kd;rw [if_neg (by omega),if_neg (by omega),if_pos (by omega)]
   rw [hkd]
   rcases ha with h1 | h1 | h1
   ·cases v with
    | err e=>simp [EV.kind] at h1
    | tru b=>simp [EV.kind] at h1
    | num m =>
     rcases hb with h2 | h2 | h2
     ·cases u with
      | err e=>simp [EV.kind] at h2
      | tru b=>simp [EV.kind] at h2
      | num n =>
       simp only [EV.onN]
       have hq:(Znj op m n).2=0∨(Znj op m n).2=60∨(Znj op m n).2=61:=by
        have ht:∀ x,(Go.Hs.told x).2=0∨(Go.Hs.told x).2=60∨(Go.Hs.told x).2=61:=by intro x;unfold Go.Hs.told;split<;>simp
        unfold Znj divR modR
        repeat' split
        all_goals first | exact ht _ | exact .inr (.inr rfl)
       unfold EV.ofR
       rcases hq with q | q | q
       ·rw [if_pos q];exact .inl rfl
       ·rw [if_neg (by omega),q];exact .inr (.inl rfl)
       ·rw [if_neg (by omega),q];exact .inr (.inr rfl)
     ·rw [h2];exact .inr (.inl rfl)
     ·rw [h2];exact .inr (.inr rfl)
   ·rw [h1];exact .inr (.inl rfl)
   ·rw [h1];exact .inr (.inr rfl)
  rw [if_neg h11]
  by_cases h15:op≤15
  ·rw [if_pos h15]
   obtain ⟨rfl,rfl⟩:ka=1∧kb=1:=by
    unfold kd at hk;rw [if_neg (by omega),if_neg (by omega),if_neg (by omega)] at hk
    split at hk
    ·omega
    ·rw [if_neg (by omega),if_neg (by omega)] at hk;exact absurd rfl hk
   have hkd:kd op ((env.map (·.1)).contains []) 1 1 0=2:=by
    unfold kd;rw [if_neg (by omega),if_neg (by omega),if_neg (by omega),if_pos (by omega)]
   rw [hkd]
   rcases ha with h1 | h1 | h1
   ·cases v with
    | err e=>simp [EV.kind] at h1
    | tru b=>simp [EV.kind] at h1
    | num m =>
     rcases hb with h2 | h2 | h2
     ·cases u with
      | err e=>simp [EV.kind] at h2
      | tru b=>simp [EV.kind] at h2
      | num n=>exact .inl rfl
     ·rw [h2];exact .inr (.inl rfl)
     ·rw [h2];exact .inr (.inr rfl)
   ·rw [h1];exact .inr (.inl rfl)
   ·rw [h1];exact .inr (.inr rfl)
  rw [if_neg h15]
  by_cases h17:op≤17
  ·rw [if_pos h17]
   obtain ⟨rfl,h0⟩:ka=kb∧ka≠0:=by
    unfold kd at hk;rw [if_neg (by omega),if_neg (by omega),if_neg (by omega)] at hk
    split at hk
    ·omega
    ·rw [if_neg (by omega),if_neg (by omega)] at hk;exact absurd rfl hk
   have hkd:kd op ((env.map (·.1)).contains []) ka ka 0=2:=by
    unfold kd;rw [if_neg (by omega),if_neg (by omega),if_neg (by omega),if_pos (by omega)]
   rw [hkd]
   rcases ha with h1 | h1 | h1
   ·rcases hb with h2 | h2 | h2
    ·cases v<;>cases u<;>simp only [EV.kind] at h1 h2<;>first | omega | (left;simp [Z4m,EV.kind])
    ·rw [h2];cases v<;>simp only [EV.kind] at h1<;>first | omega | exact .inr (.inl rfl)
    ·rw [h2];cases v<;>simp only [EV.kind] at h1<;>first | omega | exact .inr (.inr rfl)
   ·rw [h1];exact .inr (.inl rfl)
   ·rw [h1];exact .inr (.inr rfl)
  rw [if_neg h17]
  obtain ⟨rfl,rfl⟩:ka=2∧kb=2:=by
   unfold kd at hk;rw [if_neg (by omega),if_neg (by omega),if_neg (by omega),if_neg (by omega)] at hk
   split at hk
   ·omega
   ·rw [if_neg (by omega)] at hk;exact absurd rfl hk
  have hkd:kd op ((env.map (·.1)).contains []) 2 2 0=2:=by
   unfold kd;rw [if_neg (by omega),if_neg (by omega),if_neg (by omega),if_neg (by omega),if_pos (by omega)]
  rw [hkd];unfold Z02
  rcases ha with h1 | h1 | h1
  ·cases v with
   | err e=>simp [EV.kind] at h1
   | num b=>simp [EV.kind] at h1
   | tru m =>
    simp only [EV.onB]
    split
    ·exact .inl rfl
    split
    ·exact .inl rfl
    rcases hb with h2 | h2 | h2
    ·cases u with
     | err e=>simp [EV.kind] at h2
     | num b=>simp [EV.kind] at h2
     | tru n=>exact .inl rfl
    ·rw [h2];exact .inr (.inl rfl)
    ·rw [h2];exact .inr (.inr rfl)
  ·rw [h1];exact .inr (.inl rfl)
  ·rw [h1];exact .inr (.inr rfl)
 | ite a b c iha ihb ihc =>
  intro h hk;simp only [X.ok,Bool.and_eq_true] at h;have ha:=iha h.1.1 fun y hy=>hk y (by simp [Zxb,hy]);have hb:=ihb h.1.2 fun y hy=>hk y (by simp [Zxb,hy]);have hc:=ihc h.2 fun y hy=>hk y (by simp [Zxb,hy]);have hk:=hk (.ite a b c) (by simp [Zxb]);simp only [Zab] at hk ⊢
  obtain ⟨k1,k2⟩:Zab (env.map (·.1)) a=2∧Zab (env.map (·.1)) b=Zab (env.map (·.1)) c:=by
   unfold kd at hk;rw [if_neg (by omega),if_neg (by omega),if_neg (by omega),if_neg (by omega),if_neg (by omega)] at hk
   split at hk
   ·omega
   ·exact absurd rfl hk
  have hkd:kd 22 ((env.map (·.1)).contains []) (Zab (env.map (·.1)) a) (Zab (env.map (·.1)) b) (Zab (env.map (·.1)) c)=Zab (env.map (·.1)) b:=by
   unfold kd;rw [if_neg (by omega),if_neg (by omega),if_neg (by omega),if_neg (by omega),if_neg (by omega),if_pos (by omega)]
  rw [hkd]
  have he:evX env (.ite a b c)=(evX env a).onB fun t=>if t=true then evX env b else evX env c:=rfl
  rw [he];rw [k1] at ha
  rcases ha with h1 | h1 | h1
  ·generalize evX env a=v at *
   cases v with
   | err e=>simp [EV.kind] at h1
   | num b=>simp [EV.kind] at h1
   | tru m =>
    cases m
    ·simp only [EV.onB,Bool.false_eq_true,if_false];rw [k2];exact hc
    ·simp only [EV.onB,if_true];exact hb
  ·rw [h1];exact .inr (.inl rfl)
  ·rw [h1];exact .inr (.inr rfl)
theorem Z06 {env env':List (List UInt8 × Int)}:∀ {x:X},(∀ t,NmIn x t→Zhd env t=Zhd env' t)→evX env x=evX env' x:=by
 intro x
 induction x with
 | leaf op num name =>
  intro h
  show Zhe env op num name=Zhe env' op num name
  unfold Zhe
  by_cases h2:op=2
  ·subst h2;rw [h name ⟨num,by simp [Zxb]⟩]
  ·rw [if_neg h2,if_neg h2]
 | un op a ih =>
  intro h
  show Zbx op _=Zbx op _
  rw [ih fun t ⟨n,ht⟩=>h t ⟨n,by simp [Zxb,ht]⟩]
 | bin op a b iha ihb =>
  intro h
  show Zmj op _ _=Zmj op _ _
  rw [iha fun t ⟨n,ht⟩=>h t ⟨n,by simp [Zxb,ht]⟩,ihb fun t ⟨n,ht⟩=>h t ⟨n,by simp [Zxb,ht]⟩]
 | ite a b c iha ihb ihc =>
  intro h
  show (evX env a).onB _=(evX env' a).onB _
  rw [iha fun t ⟨n,ht⟩=>h t ⟨n,by simp [Zxb,ht]⟩,ihb fun t ⟨n,ht⟩=>h t ⟨n,by simp [Zxb,ht]⟩,ihc fun t ⟨n,ht⟩=>h t ⟨n,by simp [Zxb,ht]⟩]
end Go.Hs
end

section
namespace Go.Hs
open Go.Proofs
set_option maxRecDepth 10000
def Z5e (v:EV):V := .agg [.int .u8 v.kind,.int .i64 v.nm,.bool v.tr]
def Z3v (e:Int):V := .iface 152 (.agg [.int .i64 e])
def Z47 (x:EV):V→Heap→Prop:=fun v _=>∃ e,x = .err e∧v=Z3v e
def Zz4 (x:EV):V→Heap→Prop:=fun v _=>(∀ e,x ≠ .err e)∧v=Z5e x
theorem Zv2 (v:V):mkIfV Tryz.prog 152 v=some (.iface 152 v):=by
 unfold mkIfV;rw [Tryz.underlying152]
theorem Zpd (G:Nat→V) (e:Int):SpecP Tryz.prog G (some fun v _=>e≠0∧v=Z3v e) 93 [.int .i64 e] Zk (fun v _=>e=0∧v = .tuple []):=by
 refine Zxa 0 7 [] Tryz.func93 rfl rfl rfl rfl fun X=>?_
 by_cases h0:e=0
 ·have h1:(e != 0)=false:=by simpa using h0
  refine Z1f h1 ?_;refine Zh (b:=false) zp (fun h=>by cases h) (fun _=>?_);refine Z0 ?_;refine Zmc ⟨h0,rfl⟩
 ·have h1:(e != 0)=true:=by simpa using h0
  refine Z1f h1 ?_;refine Zh (b:=true) zp (fun _=>?_) (fun h=>by cases h);refine Z1f @Zv2 ?_;exact ⟨h0,rfl⟩
theorem Zuc (G:Nat→V) (b:Bool):Spec Tryz.prog G 131 [.bool b] Zk (fun v _=>v=Z5e (.tru b)):=by
 refine Zo 0 5 [.cell 2 34] Tryz.func131 fun X=>?_;refine Z1 ?_;intro g2;exact Zr
def Zx5 (op:Int):Nat:=if op=7 then 154 else if op=8 then 155 else if op=9 then 156 else if op=10 then 157 else 158
def Za7 (op:Int):Nat:=if op=12 then 159 else if op=13 then 160 else if op=14 then 161 else 162
def fnV (f:Nat):V := .func (.func f) [] []
def Zff:V := .mapv [.int .u8 7,.int .u8 8,.int .u8 9,.int .u8 10,.int .u8 11] [fnV 154,fnV 155,fnV 156,fnV 157,fnV 158]
def Zxf:V := .mapv [.int .u8 12,.int .u8 13,.int .u8 14,.int .u8 15] [fnV 159,fnV 160,fnV 161,fnV 162]
theorem Zms (G:Nat→V):Spec Tryz.prog G 129 [] Zk (fun v _=>v=Zff):=by
 refine Zo 0 3 [.tmp 0] Tryz.func129 fun X=>?_;refine Z1 ?_;refine Ztc (by kernel_rfl) ?_;simp -implicitDefEqProofs only[go_sem,seval,↓reduceIte,Zig Tryz.underlying232 Tryz.underlying5,Zq4,Zwc,Z7l,Nat.le_refl,List.cons_append,List.nil_append];intro b;refine AW.weak (Zek 1 [(0,Zff)] [] zp (Nat.le_refl _) (by simp -implicitDefEqProofs only[go_sem,seval,↓reduceIte];exact .inr ⟨rfl,rfl⟩) trivial) ?_;exact Zr
theorem Z4p (G:Nat→V):Spec Tryz.prog G 130 [] Zk (fun v _=>v=Zxf):=by
 refine Zo 0 3 [.tmp 0] Tryz.func130 fun X=>?_;refine Z1 ?_;refine Ztc (by kernel_rfl) ?_;simp -implicitDefEqProofs only[go_sem,seval,↓reduceIte,Zig Tryz.underlying236 Tryz.underlying5,Zq4,Zwc,Z7l,Nat.le_refl,List.cons_append,List.nil_append];intro b;refine AW.weak (Zek 1 [(0,Zxf)] [] zp (Nat.le_refl _) (by simp -implicitDefEqProofs only[go_sem,seval,↓reduceIte];exact .inr ⟨rfl,rfl⟩) trivial) ?_;exact Zr
def Zub (m:List (List UInt8 × Int)):List V:=m.map fun p=>V.str p.1
def Z7b (m:List (List UInt8 × Int)):List V:=m.map fun p=>V.int .i64 p.2
def lkV (c1 c2:Col) (sl:Sl XN) (m:List (List UInt8 × Int)):V := .view c1 (.agg [Za c2 6 Z3 sl,.mapv (Zub m) (Z7b m)])
@[go_sem] theorem recol_env (f:Col→Col) (m:List (List UInt8 × Int)):V.recol f (.mapv (Zub m) (Z7b m)) = .mapv (Zub m) (Z7b m):=by
 have h1:Zja f (Zub m)=Zub m:=by rw [Zm];unfold Zub;rw [List.map_map];exact List.map_congr_left fun p _=>rfl
 have h2:Zja f (Z7b m)=Z7b m:=by rw [Zm];unfold Z7b;rw [List.map_map];exact List.map_congr_left fun p _=>rfl
 simp only [V.recol,h1,h2]
theorem Zcy (s:List UInt8):∀ m:List (List UInt8 × Int),Z0f .string (.str s) (Zub m) (Z7b m)=some ((Zhd m s).map (V.int .i64))
 | []=>rfl
 | p::r=>by
  have ih:=Zcy s r
  show (if s=p.1 then some (some (V.int .i64 p.2)) else Z0f .string (.str s) (Zub r) (Z7b r))=_
  by_cases h:s=p.1
  ·rw [if_pos h]
   unfold Zhd;rw [List.find?_cons_of_pos (by simpa using h.symm)]
   try rfl
  ·rw [if_neg h,ih]
   unfold Zhd;rw [List.find?_cons_of_neg (by simpa using fun hh=>h hh.symm)]
theorem Zh6 (s:List UInt8) (m:List (List UInt8 × Int)):Z6i Tryz.prog 155 (.mapv (Zub m) (Z7b m)) (.str s) true=some (match Zhd m s with | some n => .tuple [.int .i64 n,.bool true] | none => .tuple [.int .i64 0,.bool false]):=by
 unfold Z6i;rw [Tryz.underlying155];simp only [Zyv,Tryz.underlying9,Zcy]
 cases Zhd m s with
 | some n=>rfl
 | none=>rfl
theorem Zp2 (G:Nat→V) (hG:GOk G) (c1 c2:Col) (sl:Sl XN) (m:List (List UInt8 × Int)) (s:List UInt8) :
  SpecP Tryz.prog G (some fun v _=>Zhd m s=none∧v=Z3v 90) 132 [lkV c1 c2 sl m,.str s] Zk (fun v _=>∃ n,Zhd m s=some n∧v = .int .i64 n):=by
 refine Zxa 0 20 [.tmp 4] Tryz.func132 rfl rfl rfl rfl fun X=>?_;refine Z1 ?_;have hl:=Zh6 s m
 cases hm:Zhd m s with
 | some n =>
  rw [hm] at hl;refine Ztc (by kernel_rfl) ?_;simp -implicitDefEqProofs only[go_sem,seval,↓reduceIte,lkV,hl];refine Z ?_;exact ⟨n,rfl,rfl⟩
 | none =>
  rw [hm] at hl;refine Ztc (by kernel_rfl) ?_;simp -implicitDefEqProofs only[go_sem,seval,↓reduceIte,lkV,hl];refine Z1 ?_;refine Zh rfl (fun h2=>?_) (fun h2=>?_)
  ·refine Z1 ?_
   refine Zy hG (by kernel_rfl) (Zpd G 90) rfl (fun v H' h=>by rw [h.2]<;>rfl) fun v H' h=>absurd h.1 (by decide)
  ·cases h2
end Go.Hs
end

section
namespace Go.Hs
open Go.Proofs
set_option maxRecDepth 10000
theorem Zhg {x:EV} {e:Int} (f:Int→EV) (h:x.need 1 = .err e):x.onN f = .err e:=by
 cases x with
 | err e'=>exact h
 | num n=>simp [EV.need,EV.kind] at h
 | tru b=>simp [EV.need,EV.kind] at h;subst h;rfl
theorem Z3i {x:EV} (h:∀ e,x.need 1 ≠ .err e):∃ n,x = .num n:=by
 cases x with
 | err e'=>exact absurd rfl (h e')
 | num n=>exact ⟨n,rfl⟩
 | tru b=>exact absurd rfl (h 90)
theorem Zfg {x:EV} {e:Int} (f:Bool→EV) (h:x.need 2 = .err e):x.onB f = .err e:=by
 cases x with
 | err e'=>exact h
 | tru n=>simp [EV.need,EV.kind] at h
 | num b=>simp [EV.need,EV.kind] at h;subst h;rfl
theorem Z2i {x:EV} (h:∀ e,x.need 2 ≠ .err e):∃ n,x = .tru n:=by
 cases x with
 | err e'=>exact absurd rfl (h e')
 | tru n=>exact ⟨n,rfl⟩
 | num b=>exact absurd rfl (h 90)
theorem Zzk (x:EV):x.need 0=x:=by cases x<;>rfl
theorem Zmm (n:Int):Z5e (.num n) = .agg [.int .u8 1,.int .i64 n,.bool false]:=rfl
theorem Zac (b:Bool):Z5e (.tru b) = .agg [.int .u8 2,.int .i64 0,.bool b]:=rfl
theorem Zgg (n:Int):(EV.num n).need 1 = .num n:=rfl
theorem Zeg (b:Bool):(EV.tru b).need 2 = .tru b:=rfl
def Zdc (m:List (List UInt8 × Int)) (n:XN) (A B C:EV):EV :=
 if n.op≤4 then Zhe m n.op n.num n.name else if n.op≤6 then Zbx n.op A else if n.op≤21 then Zmj n.op A B else A.onB fun t=>if t=true then B else C
def OfC (G:Nat→V) (sl:Sl XN) (m:List (List UInt8 × Int)) (a:Int) (x:EV):Prop:=∀ c1 c2 (k:Int),0≤k∧k≤2→SpecP Tryz.prog G (some (Z47 (x.need k))) 67 [lkV c1 c2 sl m,.int .i64 a,.int .u8 k] Zk (Zz4 (x.need k))
theorem Zg6 {op:Int} (h:7≤op∧op≤11):Z6i Tryz.prog 232 Zff (.int .u8 op) true=some (.tuple [fnV (Zx5 op),.bool true]):=by
 obtain rfl | rfl | rfl | rfl | rfl:op=7∨op=8∨op=9∨op=10∨op=11:=by omega
 all_goals
  unfold Z6i;rw [Tryz.underlying232];simp only [Zyv,Zff,Tryz.underlying5];rfl
theorem Zjg {op:Int} (h:¬ (7≤op∧op≤11)):Z6i Tryz.prog 232 Zff (.int .u8 op) true=some (.tuple [.nilf,.bool false]):=by
 unfold Z6i;rw [Tryz.underlying232];simp only [Zyv,Zff,Tryz.underlying5]
 have:Z0f (.int .u8) (.int .u8 op) [.int .u8 7,.int .u8 8,.int .u8 9,.int .u8 10,.int .u8 11] [fnV 154,fnV 155,fnV 156,fnV 157,fnV 158]=some none:=by
  simp only [Z0f,if_true]
  repeat rw [if_neg (by omega)]
 rw [this]
 try rfl
theorem Zi6 {op:Int} (h:12≤op∧op≤15):Z6i Tryz.prog 236 Zxf (.int .u8 op) true=some (.tuple [fnV (Za7 op),.bool true]):=by
 obtain rfl | rfl | rfl | rfl:op=12∨op=13∨op=14∨op=15:=by omega
 all_goals
  unfold Z6i;rw [Tryz.underlying236];simp only [Zyv,Zxf,Tryz.underlying5];rfl
theorem Z5i {op:Int} (h:¬ (12≤op∧op≤15)):Z6i Tryz.prog 236 Zxf (.int .u8 op) true=some (.tuple [.nilf,.bool false]):=by
 unfold Z6i;rw [Tryz.underlying236];simp only [Zyv,Zxf,Tryz.underlying5]
 have:Z0f (.int .u8) (.int .u8 op) [.int .u8 12,.int .u8 13,.int .u8 14,.int .u8 15] [fnV 159,fnV 160,fnV 161,fnV 162]=some none:=by
  simp only [Z0f,if_true]
  repeat rw [if_neg (by omega)]
 rw [this]
 try rfl
theorem Z3h {n:Int} (h:Zsb n=true):InK .i64 n:=by
 unfold Zsb at h;have h:=of_decide_eq_true h;exact h
theorem Zw5 (G:Nat→V) (hG:GOk G) {op a b:Int} (h:7≤op∧op≤11) (ha:Zsb a=true) (hb:Zsb b=true):Zkn Tryz.prog G (Zx5 op) [.int .i64 a,.int .i64 b] (Zat (Znj op a b)):=by
 have ha:=Z3h ha;have hb:=Z3h hb
 obtain rfl | rfl | rfl | rfl | rfl:op=7∨op=8∨op=9∨op=10∨op=11:=by omega
 ·exact ⟨by kernel_rfl,(Zr2 G hG a b ha hb).mono fun v _ hv=>by subst hv;rfl⟩
 ·exact ⟨by kernel_rfl,(Zt2 G hG a b ha hb).mono fun v _ hv=>by subst hv;rfl⟩
 ·exact ⟨by kernel_rfl,(Zs2 G hG a b ha hb).mono fun v _ hv=>by subst hv;rfl⟩
 ·exact ⟨by kernel_rfl,(Zu2 G hG a b ha hb).mono fun v _ hv=>by subst hv;rfl⟩
 ·exact ⟨by kernel_rfl,(Zts G hG a b ha hb).mono fun v _ hv=>by subst hv;rfl⟩
theorem lt_spec (G:Nat→V) (a b:Int):Spec Tryz.prog G 159 [.int .i64 a,.int .i64 b] Zk (fun v _=>v = .bool (decide (a<b))):=by
 refine Zo 0 8 [.tmp 4] Tryz.func159 fun X=>?_;exact Zr
theorem le_spec (G:Nat→V) (a b:Int):Spec Tryz.prog G 160 [.int .i64 a,.int .i64 b] Zk (fun v _=>v = .bool (decide (a≤b))):=by
 refine Zo 0 8 [.tmp 4] Tryz.func160 fun X=>?_;exact Zr
theorem gt_spec (G:Nat→V) (a b:Int):Spec Tryz.prog G 161 [.int .i64 a,.int .i64 b] Zk (fun v _=>v = .bool (decide (a > b))):=by
 refine Zo 0 8 [.tmp 4] Tryz.func161 fun X=>?_;exact Zr
theorem ge_spec (G:Nat→V) (a b:Int):Spec Tryz.prog G 162 [.int .i64 a,.int .i64 b] Zk (fun v _=>v = .bool (decide (a≥b))):=by
 refine Zo 0 8 [.tmp 4] Tryz.func162 fun X=>?_;exact Zr
theorem Z96 (G:Nat→V) {op a b:Int} (h:12≤op∧op≤15):Zkn Tryz.prog G (Za7 op) [.int .i64 a,.int .i64 b] (.bool (cmpV op a b)):=by
 obtain rfl | rfl | rfl | rfl:op=12∨op=13∨op=14∨op=15:=by omega
 ·exact ⟨by kernel_rfl,(lt_spec G a b).mono fun v _ hv=>by subst hv;rfl⟩
 ·exact ⟨by kernel_rfl,(le_spec G a b).mono fun v _ hv=>by subst hv;rfl⟩
 ·exact ⟨by kernel_rfl,(gt_spec G a b).mono fun v _ hv=>by subst hv;rfl⟩
 ·exact ⟨by kernel_rfl,(ge_spec G a b).mono fun v _ hv=>by subst hv;rfl⟩
theorem Z9e (G:Nat→V) (b:Bool):Zkn Tryz.prog G 131 [.bool b] (Z5e (.tru b)):=⟨by kernel_rfl,(Zuc G b).mono fun v _ hv=>by subst hv;rfl⟩
theorem Z1j (G:Nat→V):Zkn Tryz.prog G 129 [] Zff:=⟨by kernel_rfl,(Zms G).mono fun v _ hv=>by subst hv;rfl⟩
theorem Ztm (G:Nat→V):Zkn Tryz.prog G 130 [] Zxf:=⟨by kernel_rfl,(Z4p G).mono fun v _ hv=>by subst hv;rfl⟩
end Go.Hs
end

section
namespace Go.Hs
open Go.Proofs
set_option maxRecDepth 10000
set_option maxHeartbeats 1000000
theorem Z90 (G:Nat→V) (hG:GOk G) (c1 c2:Col) (sl:Sl XN) (m:List (List UInt8 × Int)) (n:XN) (A B C:EV) (ho:7≤n.op∧n.op≤11) (hA:OfC G sl m n.a A) (hB:OfC G sl m n.b B) (fA:A.fine) (fB:B.fine) :
  SpecP Tryz.prog G (some (Z47 (Zdc m n A B C))) 92 [lkV c1 c2 sl m,Z3 n] Zk (Zz4 (Zdc m n A B C)):=by
 have hN:Zdc m n A B C=A.onN fun a=>B.onN fun b => .ofR (Znj n.op a b):=by
  unfold Zdc Zmj;rw [if_neg (by omega),if_neg (by omega),if_pos (by omega),if_pos (by omega)]
 rw [hN];refine Zxa 0 200 [.cell 4 34] Tryz.func92 rfl rfl rfl rfl fun X=>?_;refine Ztc (by kernel_rfl) ?_;simp -implicitDefEqProofs only[go_sem,seval,↓reduceIte,Zt,lkV];intro g3 g4;refine AW.weak (Z8 (fun o=>o==3) (l:=[(0,.view c1 (.agg [Za c2 6 Z3 sl,.mapv (Zub m) (Z7b m)])),(3,.view .new (.agg [.int .u8 n.op,.int .i64 n.num,.str n.name,.int .i64 n.a,.int .i64 n.b,.int .i64 n.c])),(4,.ptr 4 g4 0)]) (m:=[(4,.cells .new g4 0 [.int .u8 0,.int .i64 0,.bool false])]) ?_ ?_) ?_
 ·simp -implicitDefEqProofs only[go_sem,seval,↓reduceIte,Zt,lkV]
  exact ⟨Zd _,Fz.ptr (v := .agg [.int .u8 n.op,.int .i64 n.num,.str n.name,.int .i64 n.a,.int .i64 n.b,.int .i64 n.c]) (c := .new) (fz:=0) rfl zp,Zd _⟩
 ·simp only [Zl,Zp,and_true]
  exact FzO.keep rfl zp
 refine Z6 ?_
 refine Z6 <| Zv ⟨fun i=>if i=0 then Zff else .top,fun i=>if i=2 then .lend else .pure⟩ (by kernel_rfl) hG (by kernel_rfl) (by kernel_rfl) ?_
 simp -implicitDefEqProofs only[go_sem,seval,↓reduceIte,Zg6 ho,Z1j];refine Z1 ?_;refine Z2f rfl ?_;refine AW.weak (Zg (l:=[(0,.view c1 (.agg [Za c2 6 Z3 sl,.mapv (Zub m) (Z7b m)])),(3,.view .new (.agg [.int .u8 n.op,.int .i64 n.num,.str n.name,.int .i64 n.a,.int .i64 n.b,.int .i64 n.c])),(4,.ptr 4 g4 0),(5,fnV (Zx5 n.op))]) (m:=[(4,.cells .new g4 0 [.int .u8 0,.int .i64 0,.bool false])]) zp zp) ?_;refine Z1 ?_;refine Zy hG (by kernel_rfl) (hA c1.ent c2.ent 1 (by decide)) (by simp -implicitDefEqProofs only[go_sem,seval,↓reduceIte,lkV]) ?_ ?_
 ·rintro v H' ⟨e,he,rfl⟩
  exact ⟨e,Zhg _ he,rfl⟩
 rintro v H' ⟨hne,rfl⟩;obtain ⟨a,rfl⟩:=Z3i hne;rw [Zgg,Zmm];refine Zs ?_;intro g7;refine AW.weak (Z8 (fun o=>o==7) (l:=[(0,.view c1 (.agg [Za c2 6 Z3 sl,.mapv (Zub m) (Z7b m)])),(3,.view .new (.agg [.int .u8 n.op,.int .i64 n.num,.str n.name,.int .i64 n.a,.int .i64 n.b,.int .i64 n.c])),(4,.ptr 4 g4 0),(5,fnV (Zx5 n.op)),(7,.view .new (.agg [.int .u8 1,.int .i64 a,.bool false]))]) (m:=[(4,.cells .new g4 0 [.int .u8 0,.int .i64 0,.bool false])]) ?_ ?_) ?_
 ·refine Zs ?_
  refine ⟨Zd _,Zd _,Zd _,Zd _,?_⟩;exact Fz.ptr (v := .agg [.int .u8 1,.int .i64 a,.bool false]) (c := .new) (fz:=0) rfl zp
 ·simp only [Zl,Zp,and_true]
  exact FzO.keep rfl zp
 by_cases hBe:∃ e,B.need 1 = .err e
 ·obtain ⟨e,he⟩:=hBe
  refine Z6 <| Zv ⟨fun _ => .top,fun i=>if i=2 then .lend else if i=5 then .lend else if i=6 then .any else .pure⟩ (by kernel_rfl) hG (by kernel_rfl) (by kernel_rfl) ?_
  refine Zs ?_;refine Zy hG (by kernel_rfl) (hB c1.ent c2.ent 1 (by decide)) (by simp -implicitDefEqProofs only[go_sem,seval,↓reduceIte,lkV]) ?_ fun v H' h=>absurd he (h.1 e);rintro v H' ⟨e,he,rfl⟩;exact ⟨e,(show B.onN _ = .err e from Zhg _ he),rfl⟩
 have hBe:=fun e he=>hBe ⟨e,he⟩;obtain ⟨b,rfl⟩:=Z3i hBe
 refine Z6 <| Zv ⟨fun i=>if i=8 then Zat (Znj n.op a b) else .top,fun i=>if i=2 then .lend else if i=5 then .lend else if i=6 then .any else .pure⟩ (by kernel_rfl) hG (by kernel_rfl) (by kernel_rfl) ?_
 refine Zs ?_;refine Zy hG (by kernel_rfl) (hB c1.ent c2.ent 1 (by decide)) (by simp -implicitDefEqProofs only[go_sem,seval,↓reduceIte,lkV]) (fun v H' ⟨e,he,_⟩=>absurd he (hBe e)) ?_;rintro v H' ⟨_,rfl⟩;rw [Zgg,Zmm];simp -implicitDefEqProofs only[go_sem,seval,↓reduceIte,fnV,Zat];refine ⟨Zw5 G hG ho fA fB,?_⟩;refine AW.weak (Zg (l:=[(4,.ptr 4 g4 0),(8,.int .i64 (Znj n.op a b).1),(9,.int .i64 (Znj n.op a b).2)]) (m:=[(4,.cells .new g4 0 [.int .u8 0,.int .i64 0,.bool false])]) zp zp) ?_;generalize hr:Znj n.op a b=r
 have hR:(EV.num a).onN (fun a=>(EV.num b).onN fun b => .ofR (Znj n.op a b))=if r.2=0 then .num r.1 else .err r.2:=by simp only [EV.onN,EV.ofR,hr]
 rw [hR];generalize hv:(if r.2=0 then EV.num r.1 else .err r.2)=v0;refine Z1 ?_;refine Zy hG (by kernel_rfl) (Zpd G r.2) rfl ?_ ?_
 ·rintro v H' ⟨h0,rfl⟩
  exact ⟨r.2,by rw [← hv,if_neg h0],rfl⟩
 rintro v H' ⟨h0,rfl⟩;rw [if_pos h0] at hv;refine Zs ?_;refine Z ?_;subst hv;exact ⟨(fun e h=>by cases h),rfl⟩
theorem Zb1 (G:Nat→V) (hG:GOk G) (c1 c2:Col) (sl:Sl XN) (m:List (List UInt8 × Int)) (n:XN) (A B C:EV) (ho:12≤n.op∧n.op≤15) (hA:OfC G sl m n.a A) (hB:OfC G sl m n.b B) :
  SpecP Tryz.prog G (some (Z47 (Zdc m n A B C))) 92 [lkV c1 c2 sl m,Z3 n] Zk (Zz4 (Zdc m n A B C)):=by
 have hN:Zdc m n A B C=A.onN fun a=>B.onN fun b => .tru (cmpV n.op a b):=by
  unfold Zdc Zmj;rw [if_neg (by omega),if_neg (by omega),if_pos (by omega),if_neg (by omega),if_pos (by omega)]
 rw [hN];refine Zxa 0 200 [.cell 4 34] Tryz.func92 rfl rfl rfl rfl fun X=>?_;refine Ztc (by kernel_rfl) ?_;simp -implicitDefEqProofs only[go_sem,seval,↓reduceIte,Zt,lkV];intro g3 g4;refine AW.weak (Z8 (fun o=>o==3) (l:=[(0,.view c1 (.agg [Za c2 6 Z3 sl,.mapv (Zub m) (Z7b m)])),(3,.view .new (.agg [.int .u8 n.op,.int .i64 n.num,.str n.name,.int .i64 n.a,.int .i64 n.b,.int .i64 n.c])),(4,.ptr 4 g4 0)]) (m:=[(4,.cells .new g4 0 [.int .u8 0,.int .i64 0,.bool false])]) ?_ ?_) ?_
 ·simp -implicitDefEqProofs only[go_sem,seval,↓reduceIte,Zt,lkV]
  exact ⟨Zd _,Fz.ptr (v := .agg [.int .u8 n.op,.int .i64 n.num,.str n.name,.int .i64 n.a,.int .i64 n.b,.int .i64 n.c]) (c := .new) (fz:=0) rfl zp,Zd _⟩
 ·simp only [Zl,Zp,and_true]
  exact FzO.keep rfl zp
 refine Z6 ?_
 refine Z6 <| Zv ⟨fun i=>if i=0 then Zff else .top,fun i=>if i=2 then .lend else .pure⟩ (by kernel_rfl) hG (by kernel_rfl) (by kernel_rfl) ?_
 simp -implicitDefEqProofs only[go_sem,seval,↓reduceIte,Zjg (op:=n.op) (by omega),Z1j];refine Z1 ?_;refine Z0 ?_;refine Z6 ?_
 refine Z6 <| Zv ⟨fun i=>if i=0 then Zxf else .top,fun i=>if i=2 then .lend else .pure⟩ (by kernel_rfl) hG (by kernel_rfl) (by kernel_rfl) ?_
 simp -implicitDefEqProofs only[go_sem,seval,↓reduceIte,Zi6 ho,Ztm];refine Z1 ?_;refine Z2f rfl ?_;refine AW.weak (Zg (l:=[(0,.view c1 (.agg [Za c2 6 Z3 sl,.mapv (Zub m) (Z7b m)])),(3,.view .new (.agg [.int .u8 n.op,.int .i64 n.num,.str n.name,.int .i64 n.a,.int .i64 n.b,.int .i64 n.c])),(4,.ptr 4 g4 0),(10,fnV (Za7 n.op))]) (m:=[(4,.cells .new g4 0 [.int .u8 0,.int .i64 0,.bool false])]) zp zp) ?_;refine Z1 ?_;refine Zy hG (by kernel_rfl) (hA c1.ent c2.ent 1 (by decide)) (by simp -implicitDefEqProofs only[go_sem,seval,↓reduceIte,lkV]) ?_ ?_
 ·rintro v H' ⟨e,he,rfl⟩
  exact ⟨e,Zhg _ he,rfl⟩
 rintro v H' ⟨hne,rfl⟩;obtain ⟨a,rfl⟩:=Z3i hne;rw [Zgg,Zmm];refine Zs ?_;intro g12;refine AW.weak (Z8 (fun o=>o==12) (l:=[(0,.view c1 (.agg [Za c2 6 Z3 sl,.mapv (Zub m) (Z7b m)])),(3,.view .new (.agg [.int .u8 n.op,.int .i64 n.num,.str n.name,.int .i64 n.a,.int .i64 n.b,.int .i64 n.c])),(4,.ptr 4 g4 0),(10,fnV (Za7 n.op)),(12,.view .new (.agg [.int .u8 1,.int .i64 a,.bool false]))]) (m:=[(4,.cells .new g4 0 [.int .u8 0,.int .i64 0,.bool false])]) ?_ ?_) ?_
 ·refine Zs ?_
  refine ⟨Zd _,Zd _,Zd _,Zd _,?_⟩;exact Fz.ptr (v := .agg [.int .u8 1,.int .i64 a,.bool false]) (c := .new) (fz:=0) rfl zp
 ·simp only [Zl,Zp,and_true]
  exact FzO.keep rfl zp
 by_cases hBe:∃ e,B.need 1 = .err e
 ·obtain ⟨e,he⟩:=hBe
  refine Z6 <| Zv ⟨fun _ => .top,fun i=>if i=2 then .lend else if i=5 then .lend else if i=6 then .any else .pure⟩ (by kernel_rfl) hG (by kernel_rfl) (by kernel_rfl) ?_
  refine Zs ?_;refine Zy hG (by kernel_rfl) (hB c1.ent c2.ent 1 (by decide)) (by simp -implicitDefEqProofs only[go_sem,seval,↓reduceIte,lkV]) ?_ fun v H' h=>absurd he (h.1 e);rintro v H' ⟨e,he,rfl⟩;exact ⟨e,(show B.onN _ = .err e from Zhg _ he),rfl⟩
 have hBe:=fun e he=>hBe ⟨e,he⟩;obtain ⟨b,rfl⟩:=Z3i hBe
 refine Z6 <| Zv ⟨fun i=>if i=8 then .bool (cmpV n.op a b) else if i=9 then Z5e (.tru (cmpV n.op a b)) else .top,fun i=>if i=2 then .lend else if i=5 then .lend else if i=6 then .any else .pure⟩ (by kernel_rfl) hG (by kernel_rfl) (by kernel_rfl) ?_
 refine Zs ?_;refine Zy hG (by kernel_rfl) (hB c1.ent c2.ent 1 (by decide)) (by simp -implicitDefEqProofs only[go_sem,seval,↓reduceIte,lkV]) (fun v H' ⟨e,he,_⟩=>absurd he (hBe e)) ?_;rintro v H' ⟨_,rfl⟩;rw [Zgg,Zmm,Zac];simp -implicitDefEqProofs only[go_sem,seval,↓reduceIte,fnV];refine ⟨Z96 G ho,Z9e G _,?_⟩;refine Z ?_;exact ⟨(fun e h=>by cases h),rfl⟩
theorem Zwy (G:Nat→V) (hG:GOk G) (c1 c2:Col) (sl:Sl XN) (m:List (List UInt8 × Int)) (n:XN) (A B C:EV) (ho:1≤n.op∧n.op≤4) :
  SpecP Tryz.prog G (some (Z47 (Zdc m n A B C))) 92 [lkV c1 c2 sl m,Z3 n] Zk (Zz4 (Zdc m n A B C)):=by
 have hN:Zdc m n A B C=Zhe m n.op n.num n.name:=by unfold Zdc;rw [if_pos (by omega)]
 rw [hN];refine Zxa 0 200 [.cell 4 34] Tryz.func92 rfl rfl rfl rfl fun X=>?_;refine Ztc (by kernel_rfl) ?_;simp -implicitDefEqProofs only[go_sem,seval,↓reduceIte,Zt,lkV];intro g3 g4;refine AW.weak (Z8 (fun o=>o==3) (l:=[(0,.view c1 (.agg [Za c2 6 Z3 sl,.mapv (Zub m) (Z7b m)])),(3,.view .new (.agg [.int .u8 n.op,.int .i64 n.num,.str n.name,.int .i64 n.a,.int .i64 n.b,.int .i64 n.c])),(4,.ptr 4 g4 0)]) (m:=[(4,.cells .new g4 0 [.int .u8 0,.int .i64 0,.bool false])]) ?_ ?_) ?_
 ·simp -implicitDefEqProofs only[go_sem,seval,↓reduceIte,Zt,lkV]
  exact ⟨Zd _,Fz.ptr (v := .agg [.int .u8 n.op,.int .i64 n.num,.str n.name,.int .i64 n.a,.int .i64 n.b,.int .i64 n.c]) (c := .new) (fz:=0) rfl zp,Zd _⟩
 ·simp only [Zl,Zp,and_true]
  exact FzO.keep rfl zp
 refine Zu fun K1 hK1=>?_
 refine Z6 <| Zv ⟨fun i=>if i=0 then Zff else .top,fun i=>if i=2 then .lend else .pure⟩ (by kernel_rfl) hG (by kernel_rfl) (by kernel_rfl) ?_
 simp -implicitDefEqProofs only[go_sem,seval,↓reduceIte,Zjg (op:=n.op) (by omega),Z1j];refine Z1 ?_;refine Z0 ?_;refine hK1 _ ?_
 try clear hK1 K1
 refine Zu fun K1 hK1=>?_
 refine Z6 <| Zv ⟨fun i=>if i=0 then Zxf else .top,fun i=>if i=2 then .lend else .pure⟩ (by kernel_rfl) hG (by kernel_rfl) (by kernel_rfl) ?_
 simp -implicitDefEqProofs only[go_sem,seval,↓reduceIte,Z5i (op:=n.op) (by omega),Ztm];refine Z1 ?_;refine Z0 ?_;refine hK1 _ ?_
 try clear hK1 K1
 refine AW.weak (Zg (l:=[(0,.view c1 (.agg [Za c2 6 Z3 sl,.mapv (Zub m) (Z7b m)])),(3,.view .new (.agg [.int .u8 n.op,.int .i64 n.num,.str n.name,.int .i64 n.a,.int .i64 n.b,.int .i64 n.c])),(4,.ptr 4 g4 0)]) (m:=[(4,.cells .new g4 0 [.int .u8 0,.int .i64 0,.bool false])]) zp zp) ?_;obtain ⟨op,num,name,na,nb,nc⟩:=n;simp only at ho ⊢
 obtain rfl | rfl | rfl | rfl:op=1∨op=2∨op=3∨op=4:=by omega
 ·refine Z ?_
  exact ⟨(fun e h=>by cases h),rfl⟩
 ·refine Z ?_
  refine Zy hG (by kernel_rfl) (Zp2 G hG c1.ent c2.ent sl m name) (by simp -implicitDefEqProofs only[go_sem,seval,↓reduceIte,lkV]) ?_ ?_
  ·rintro v H' ⟨h0,rfl⟩
   exact ⟨90,by unfold Zhe;rw [h0]<;>rfl,rfl⟩
  rintro v H' ⟨k,h0,rfl⟩;refine Zs ?_;refine Z ?_
  have hv:Zhe m 2 num name = .num k:=by unfold Zhe;rw [h0]<;>rfl
  rw [hv];exact ⟨(fun e h=>by cases h),rfl⟩
 ·refine Z ?_
  refine Z8c (CallA.pure hG (by kernel_rfl) ?_);refine Zs ?_;refine (Zuc G _).mono ?_;rintro _ _ rfl;rw [Zac];refine Zs ?_;refine Z ?_;exact ⟨(fun e h=>by cases h),rfl⟩
 ·refine Z ?_
  refine Z8c (CallA.pure hG (by kernel_rfl) ?_);refine Zs ?_;refine (Zuc G _).mono ?_;rintro _ _ rfl;rw [Zac];refine Zs ?_;refine Z ?_;exact ⟨(fun e h=>by cases h),rfl⟩
theorem Za1 (G:Nat→V) (hG:GOk G) (c1 c2:Col) (sl:Sl XN) (m:List (List UInt8 × Int)) (n:XN) (A B C:EV) (ho:n.op=5) (hA:OfC G sl m n.a A) (fA:A.fine) :
  SpecP Tryz.prog G (some (Z47 (Zdc m n A B C))) 92 [lkV c1 c2 sl m,Z3 n] Zk (Zz4 (Zdc m n A B C)):=by
 have hN:Zdc m n A B C=A.onN fun a => .ofR (Go.Hs.told (-a)):=by unfold Zdc Zbx;rw [if_neg (by omega),if_pos (by omega),if_pos ho]
 rw [hN];refine Zxa 0 200 [.cell 4 34] Tryz.func92 rfl rfl rfl rfl fun X=>?_;refine Ztc (by kernel_rfl) ?_;simp -implicitDefEqProofs only[go_sem,seval,↓reduceIte,Zt,lkV];intro g3 g4;refine AW.weak (Z8 (fun o=>o==3) (l:=[(0,.view c1 (.agg [Za c2 6 Z3 sl,.mapv (Zub m) (Z7b m)])),(3,.view .new (.agg [.int .u8 n.op,.int .i64 n.num,.str n.name,.int .i64 n.a,.int .i64 n.b,.int .i64 n.c])),(4,.ptr 4 g4 0)]) (m:=[(4,.cells .new g4 0 [.int .u8 0,.int .i64 0,.bool false])]) ?_ ?_) ?_
 ·simp -implicitDefEqProofs only[go_sem,seval,↓reduceIte,Zt,lkV]
  exact ⟨Zd _,Fz.ptr (v := .agg [.int .u8 n.op,.int .i64 n.num,.str n.name,.int .i64 n.a,.int .i64 n.b,.int .i64 n.c]) (c := .new) (fz:=0) rfl zp,Zd _⟩
 ·simp only [Zl,Zp,and_true]
  exact FzO.keep rfl zp
 refine Zu fun K1 hK1=>?_
 refine Z6 <| Zv ⟨fun i=>if i=0 then Zff else .top,fun i=>if i=2 then .lend else .pure⟩ (by kernel_rfl) hG (by kernel_rfl) (by kernel_rfl) ?_
 simp -implicitDefEqProofs only[go_sem,seval,↓reduceIte,Zjg (op:=n.op) (by omega),Z1j];refine Z1 ?_;refine Z0 ?_;refine hK1 _ ?_
 try clear hK1 K1
 refine Zu fun K1 hK1=>?_
 refine Z6 <| Zv ⟨fun i=>if i=0 then Zxf else .top,fun i=>if i=2 then .lend else .pure⟩ (by kernel_rfl) hG (by kernel_rfl) (by kernel_rfl) ?_
 simp -implicitDefEqProofs only[go_sem,seval,↓reduceIte,Z5i (op:=n.op) (by omega),Ztm];refine Z1 ?_;refine Z0 ?_;refine hK1 _ ?_
 try clear hK1 K1
 refine AW.weak (Zg (l:=[(0,.view c1 (.agg [Za c2 6 Z3 sl,.mapv (Zub m) (Z7b m)])),(3,.view .new (.agg [.int .u8 n.op,.int .i64 n.num,.str n.name,.int .i64 n.a,.int .i64 n.b,.int .i64 n.c])),(4,.ptr 4 g4 0)]) (m:=[(4,.cells .new g4 0 [.int .u8 0,.int .i64 0,.bool false])]) zp zp) ?_;obtain ⟨op,num,name,na,nb,nc⟩:=n;simp only at ho hA ⊢;subst ho;refine Z ?_;refine Zy hG (by kernel_rfl) (hA c1.ent c2.ent 1 (by decide)) (by simp -implicitDefEqProofs only[go_sem,seval,↓reduceIte,lkV]) ?_ ?_
 ·rintro v H' ⟨e,he,rfl⟩
  exact ⟨e,Zhg _ he,rfl⟩
 rintro v H' ⟨hne,rfl⟩;obtain ⟨a,rfl⟩:=Z3i hne;rw [Zgg,Zmm];refine Zs ?_;refine Z8c (CallA.pure hG (by kernel_rfl) ?_);refine Zs ?_;refine (Zq2 G hG a (Z3h fA)).mono ?_;rintro _ _ rfl;simp -implicitDefEqProofs only[go_sem,seval,↓reduceIte,Zat];generalize hr:Go.Hs.told (-a)=r
 have hR:(EV.num a).onN (fun a=>EV.ofR (Go.Hs.told (-a)))=if r.2=0 then .num r.1 else .err r.2:=by simp only [EV.onN,EV.ofR,hr]
 rw [hR];generalize hv:(if r.2=0 then EV.num r.1 else .err r.2)=v0;refine Z ?_;refine Zy hG (by kernel_rfl) (Zpd G r.2) rfl ?_ ?_
 ·rintro v H' ⟨h0,rfl⟩
  exact ⟨r.2,by rw [← hv,if_neg h0],rfl⟩
 rintro v H' ⟨h0,rfl⟩;rw [if_pos h0] at hv;refine Zs ?_;refine Z ?_;subst hv;exact ⟨(fun e h=>by cases h),rfl⟩
theorem Zyj (G:Nat→V) (hG:GOk G) (c1 c2:Col) (sl:Sl XN) (m:List (List UInt8 × Int)) (n:XN) (A B C:EV) (ho:n.op=6∨18≤n.op∧n.op≤22) (hA:OfC G sl m n.a A) (hB:n.op≠6→OfC G sl m n.b B) (hC:n.op=22→OfC G sl m n.c C) :
  SpecP Tryz.prog G (some (Z47 (Zdc m n A B C))) 92 [lkV c1 c2 sl m,Z3 n] Zk (Zz4 (Zdc m n A B C)):=by
 have hN:Zdc m n A B C=A.onB fun a=>Zdc m n (.tru a) B C:=by
  unfold Zdc
  rcases ho with ho | ho
  ·rw [if_neg (by omega),if_pos (by omega)]
   cases A<;>simp only [Zbx,if_neg (show ¬ n.op=5 by omega),EV.onB,if_neg (show ¬ n.op≤4 by omega),if_pos (show n.op≤6 by omega)]
  ·rw [if_neg (by omega),if_neg (by omega)]
   by_cases h22:n.op≤21
   ·rw [if_pos h22]
    unfold Zmj;rw [if_neg (by omega),if_neg (by omega),if_neg (by omega)]
    cases A<;>simp only [Z02,EV.onB,if_neg (show ¬ n.op≤4 by omega),if_neg (show ¬ n.op≤6 by omega),if_pos h22,if_neg (show ¬ n.op≤11 by omega),if_neg (show ¬ n.op≤15 by omega),if_neg (show ¬ n.op≤17 by omega)]
   ·rw [if_neg h22]
    cases A<;>simp only [EV.onB,if_neg (show ¬ n.op≤4 by omega),if_neg (show ¬ n.op≤6 by omega),if_neg h22]
 rw [hN]
 try clear hN
 refine Zxa 0 200 [.cell 4 34] Tryz.func92 rfl rfl rfl rfl fun X=>?_;refine Ztc (by kernel_rfl) ?_;simp -implicitDefEqProofs only[go_sem,seval,↓reduceIte,Zt,lkV];intro g3 g4;refine AW.weak (Z8 (fun o=>o==3) (l:=[(0,.view c1 (.agg [Za c2 6 Z3 sl,.mapv (Zub m) (Z7b m)])),(3,.view .new (.agg [.int .u8 n.op,.int .i64 n.num,.str n.name,.int .i64 n.a,.int .i64 n.b,.int .i64 n.c])),(4,.ptr 4 g4 0)]) (m:=[(4,.cells .new g4 0 [.int .u8 0,.int .i64 0,.bool false])]) ?_ ?_) ?_
 ·simp -implicitDefEqProofs only[go_sem,seval,↓reduceIte,Zt,lkV]
  exact ⟨Zd _,Fz.ptr (v := .agg [.int .u8 n.op,.int .i64 n.num,.str n.name,.int .i64 n.a,.int .i64 n.b,.int .i64 n.c]) (c := .new) (fz:=0) rfl zp,Zd _⟩
 ·simp only [Zl,Zp,and_true]
  exact FzO.keep rfl zp
 refine Zu fun K1 hK1=>?_
 refine Z6 <| Zv ⟨fun i=>if i=0 then Zff else .top,fun i=>if i=2 then .lend else .pure⟩ (by kernel_rfl) hG (by kernel_rfl) (by kernel_rfl) ?_
 simp -implicitDefEqProofs only[go_sem,seval,↓reduceIte,Zjg (op:=n.op) (by omega),Z1j];refine Z1 ?_;refine Z0 ?_;refine hK1 _ ?_
 try clear hK1 K1
 refine Zu fun K1 hK1=>?_
 refine Z6 <| Zv ⟨fun i=>if i=0 then Zxf else .top,fun i=>if i=2 then .lend else .pure⟩ (by kernel_rfl) hG (by kernel_rfl) (by kernel_rfl) ?_
 simp -implicitDefEqProofs only[go_sem,seval,↓reduceIte,Z5i (op:=n.op) (by omega),Ztm];refine Z1 ?_;refine Z0 ?_;refine hK1 _ ?_
 try clear hK1 K1
 refine AW.weak (Zg (l:=[(0,.view c1 (.agg [Za c2 6 Z3 sl,.mapv (Zub m) (Z7b m)])),(3,.view .new (.agg [.int .u8 n.op,.int .i64 n.num,.str n.name,.int .i64 n.a,.int .i64 n.b,.int .i64 n.c])),(4,.ptr 4 g4 0)]) (m:=[(4,.cells .new g4 0 [.int .u8 0,.int .i64 0,.bool false])]) zp zp) ?_;obtain ⟨op,num,name,na,nb,nc⟩:=n;simp only at ho hA hB hC ⊢
 obtain rfl | rfl | rfl | rfl | rfl | rfl:op=6∨op=18∨op=19∨op=20∨op=21∨op=22:=by omega
 all_goals
  refine Z ?_;refine Zy hG (by kernel_rfl) (hA c1.ent c2.ent 2 (by decide)) (by simp -implicitDefEqProofs only[go_sem,seval,↓reduceIte,lkV]) ?_ ?_
  ·rintro v H' ⟨e,he,rfl⟩
   exact ⟨e,Zfg _ he,rfl⟩
  rintro v H' ⟨hne,rfl⟩;obtain ⟨a,rfl⟩:=Z2i hne;rw [Zeg,Zac];refine Zs ?_;refine AW.weak (Zg (l:=[(0,.view c1 (.agg [Za c2 6 Z3 sl,.mapv (Zub m) (Z7b m)])),(3,.view .new (.agg [.int .u8 _,.int .i64 num,.str name,.int .i64 na,.int .i64 nb,.int .i64 nc])),(4,.ptr 4 g4 0),(17,.bool a)]) (m:=[(4,.cells .new g4 0 [.int .u8 0,.int .i64 0,.bool false])]) zp zp) ?_
  try clear hA hne
 ·refine Z ?_
  refine Z8c (CallA.pure hG (by kernel_rfl) ?_);refine Zs ?_;refine (Zuc G _).mono ?_;rintro _ _ rfl;rw [Zac];refine Zs ?_;refine Z ?_;exact ⟨(fun e h=>by cases h),rfl⟩
 ·cases a
  ·refine Z ?_
   refine Z8c (CallA.pure hG (by kernel_rfl) ?_);refine Zs ?_;refine (Zuc G _).mono ?_;rintro _ _ rfl;rw [Zac];refine Zs ?_;refine Z ?_;exact ⟨(fun e h=>by cases h),rfl⟩
  ·have hR:(EV.tru true).onB (fun a=>Zdc m ⟨18,num,name,na,nb,nc⟩ (.tru a) B C)=B.onB fun b => .tru b:=rfl
   rw [hR];refine Z ?_;refine Zy hG (by kernel_rfl) ((hB (by decide)) c1.ent c2.ent 2 (by decide)) (by simp -implicitDefEqProofs only[go_sem,seval,↓reduceIte,lkV]) ?_ ?_
   ·rintro v H' ⟨e,he,rfl⟩
    exact ⟨e,Zfg _ he,rfl⟩
   rintro v H' ⟨hne,rfl⟩;obtain ⟨b,rfl⟩:=Z2i hne;rw [Zeg,Zac];refine Zs ?_;refine Z ?_;exact ⟨(fun e h=>by cases h),rfl⟩
 ·cases a
  ·have hR:(EV.tru false).onB (fun a=>Zdc m ⟨19,num,name,na,nb,nc⟩ (.tru a) B C)=B.onB fun b => .tru b:=rfl
   rw [hR];refine Z ?_;refine Zy hG (by kernel_rfl) ((hB (by decide)) c1.ent c2.ent 2 (by decide)) (by simp -implicitDefEqProofs only[go_sem,seval,↓reduceIte,lkV]) ?_ ?_
   ·rintro v H' ⟨e,he,rfl⟩
    exact ⟨e,Zfg _ he,rfl⟩
   rintro v H' ⟨hne,rfl⟩;obtain ⟨b,rfl⟩:=Z2i hne;rw [Zeg,Zac];refine Zs ?_;refine Z ?_;exact ⟨(fun e h=>by cases h),rfl⟩
  ·refine Z ?_
   refine Z8c (CallA.pure hG (by kernel_rfl) ?_);refine Zs ?_;refine (Zuc G _).mono ?_;rintro _ _ rfl;rw [Zac];refine Zs ?_;refine Z ?_;exact ⟨(fun e h=>by cases h),rfl⟩
 ·have hR:(EV.tru a).onB (fun a=>Zdc m ⟨20,num,name,na,nb,nc⟩ (.tru a) B C)=B.onB fun b => .tru (a != b):=by cases a<;>rfl
  rw [hR];refine Z ?_;refine Zy hG (by kernel_rfl) ((hB (by decide)) c1.ent c2.ent 2 (by decide)) (by simp -implicitDefEqProofs only[go_sem,seval,↓reduceIte,lkV]) ?_ ?_
  ·rintro v H' ⟨e,he,rfl⟩
   exact ⟨e,Zfg _ he,rfl⟩
  rintro v H' ⟨hne,rfl⟩;obtain ⟨b,rfl⟩:=Z2i hne;rw [Zeg,Zac];refine Zs ?_;refine Z8c (CallA.pure hG (by kernel_rfl) ?_);refine Zs ?_;refine (Zuc G _).mono ?_;rintro _ _ rfl;rw [Zac];refine Zs ?_;refine Z ?_;exact ⟨(fun e h=>by cases h),rfl⟩
 ·cases a
  ·refine Z ?_
   refine Z8c (CallA.pure hG (by kernel_rfl) ?_);refine Zs ?_;refine (Zuc G _).mono ?_;rintro _ _ rfl;rw [Zac];refine Zs ?_;refine Z ?_;exact ⟨(fun e h=>by cases h),rfl⟩
  ·have hR:(EV.tru true).onB (fun a=>Zdc m ⟨21,num,name,na,nb,nc⟩ (.tru a) B C)=B.onB fun b => .tru b:=rfl
   rw [hR];refine Z ?_;refine Zy hG (by kernel_rfl) ((hB (by decide)) c1.ent c2.ent 2 (by decide)) (by simp -implicitDefEqProofs only[go_sem,seval,↓reduceIte,lkV]) ?_ ?_
   ·rintro v H' ⟨e,he,rfl⟩
    exact ⟨e,Zfg _ he,rfl⟩
   rintro v H' ⟨hne,rfl⟩;obtain ⟨b,rfl⟩:=Z2i hne;rw [Zeg,Zac];refine Zs ?_;refine Z ?_;exact ⟨(fun e h=>by cases h),rfl⟩
 ·cases a
  ·have hR:(EV.tru false).onB (fun a=>Zdc m ⟨22,num,name,na,nb,nc⟩ (.tru a) B C)=C:=rfl
   rw [hR];refine Z ?_;refine Zy hG (by kernel_rfl) ((hC rfl) c1.ent c2.ent 0 (by decide)) (by simp -implicitDefEqProofs only[go_sem,seval,↓reduceIte,lkV]) ?_ ?_
   ·rintro v H' ⟨e,he,rfl⟩
    rw [Zzk] at he;exact ⟨e,he,rfl⟩
   rintro v H' ⟨hne,rfl⟩;rw [Zzk] at hne ⊢;simp -implicitDefEqProofs only[go_sem,seval,↓reduceIte,Z5e];refine Z ?_;exact ⟨hne,rfl⟩
  ·have hR:(EV.tru true).onB (fun a=>Zdc m ⟨22,num,name,na,nb,nc⟩ (.tru a) B C)=B:=rfl
   rw [hR];refine Z ?_;refine Zy hG (by kernel_rfl) ((hB (by decide)) c1.ent c2.ent 0 (by decide)) (by simp -implicitDefEqProofs only[go_sem,seval,↓reduceIte,lkV]) ?_ ?_
   ·rintro v H' ⟨e,he,rfl⟩
    rw [Zzk] at he;exact ⟨e,he,rfl⟩
   rintro v H' ⟨hne,rfl⟩;rw [Zzk] at hne ⊢;simp -implicitDefEqProofs only[go_sem,seval,↓reduceIte,Z5e];refine Z ?_;exact ⟨hne,rfl⟩
theorem Zrt (op a b:Int):Z4m op (.num a) (.num b) = .tru ((a==b)==(op==16)):=by
 have:(EV.num a==EV.num b)=(a==b):=by rw [Bool.eq_iff_iff];simp
 show (if (1:Int)=1 then EV.tru ((EV.num a==EV.num b)==(op==16)) else EV.err 90)=_
 rw [if_pos rfl,this]
theorem Zqt (op:Int) (a b:Bool):Z4m op (.tru a) (.tru b) = .tru ((a==b)==(op==16)):=by
 have:(EV.tru a==EV.tru b)=(a==b):=by rw [Bool.eq_iff_iff];simp
 show (if (2:Int)=2 then EV.tru ((EV.tru a==EV.tru b)==(op==16)) else EV.err 90)=_
 rw [if_pos rfl,this]
theorem Z44 (G:Nat→V) (hG:GOk G) (c1 c2:Col) (sl:Sl XN) (m:List (List UInt8 × Int)) (n:XN) (A B C:EV) (ho:16≤n.op∧n.op≤17) (hA:OfC G sl m n.a A) (hB:OfC G sl m n.b B) :
  SpecP Tryz.prog G (some (Z47 (Zdc m n A B C))) 92 [lkV c1 c2 sl m,Z3 n] Zk (Zz4 (Zdc m n A B C)):=by
 have hN:Zdc m n A B C=Z4m n.op A B:=by
  unfold Zdc Zmj;rw [if_neg (by omega),if_neg (by omega),if_pos (by omega),if_neg (by omega),if_neg (by omega),if_pos (by omega)]
 rw [hN];refine Zxa 0 200 [.cell 4 34] Tryz.func92 rfl rfl rfl rfl fun X=>?_;refine Ztc (by kernel_rfl) ?_;simp -implicitDefEqProofs only[go_sem,seval,↓reduceIte,Zt,lkV];intro g3 g4;refine AW.weak (Z8 (fun o=>o==3) (l:=[(0,.view c1 (.agg [Za c2 6 Z3 sl,.mapv (Zub m) (Z7b m)])),(3,.view .new (.agg [.int .u8 n.op,.int .i64 n.num,.str n.name,.int .i64 n.a,.int .i64 n.b,.int .i64 n.c])),(4,.ptr 4 g4 0)]) (m:=[(4,.cells .new g4 0 [.int .u8 0,.int .i64 0,.bool false])]) ?_ ?_) ?_
 ·simp -implicitDefEqProofs only[go_sem,seval,↓reduceIte,Zt,lkV]
  exact ⟨Zd _,Fz.ptr (v := .agg [.int .u8 n.op,.int .i64 n.num,.str n.name,.int .i64 n.a,.int .i64 n.b,.int .i64 n.c]) (c := .new) (fz:=0) rfl zp,Zd _⟩
 ·simp only [Zl,Zp,and_true]
  exact FzO.keep rfl zp
 refine Zu fun K1 hK1=>?_
 refine Z6 <| Zv ⟨fun i=>if i=0 then Zff else .top,fun i=>if i=2 then .lend else .pure⟩ (by kernel_rfl) hG (by kernel_rfl) (by kernel_rfl) ?_
 simp -implicitDefEqProofs only[go_sem,seval,↓reduceIte,Zjg (op:=n.op) (by omega),Z1j];refine Z1 ?_;refine Z0 ?_;refine hK1 _ ?_
 try clear hK1 K1
 refine Zu fun K1 hK1=>?_
 refine Z6 <| Zv ⟨fun i=>if i=0 then Zxf else .top,fun i=>if i=2 then .lend else .pure⟩ (by kernel_rfl) hG (by kernel_rfl) (by kernel_rfl) ?_
 simp -implicitDefEqProofs only[go_sem,seval,↓reduceIte,Z5i (op:=n.op) (by omega),Ztm];refine Z1 ?_;refine Z0 ?_;refine hK1 _ ?_
 try clear hK1 K1
 refine AW.weak (Zg (l:=[(0,.view c1 (.agg [Za c2 6 Z3 sl,.mapv (Zub m) (Z7b m)])),(3,.view .new (.agg [.int .u8 n.op,.int .i64 n.num,.str n.name,.int .i64 n.a,.int .i64 n.b,.int .i64 n.c])),(4,.ptr 4 g4 0)]) (m:=[(4,.cells .new g4 0 [.int .u8 0,.int .i64 0,.bool false])]) zp zp) ?_;obtain ⟨op,num,name,na,nb,nc⟩:=n;simp only at ho hA hB ⊢
 obtain rfl | rfl:op=16∨op=17:=by omega
 ·refine Z ?_
  refine Zy hG (by kernel_rfl) (hA c1.ent c2.ent 0 (by decide)) (by simp -implicitDefEqProofs only[go_sem,seval,↓reduceIte,lkV]) ?_ ?_
  ·rintro v H' ⟨e,he,rfl⟩
   rw [Zzk] at he;exact ⟨e,by rw [he]<;>rfl,rfl⟩
  rintro v H' ⟨hne,rfl⟩;rw [Zzk] at hne ⊢;simp -implicitDefEqProofs only[go_sem,seval,↓reduceIte,Z5e];intro g15;refine Z ?_;refine Zy hG (by kernel_rfl) (hB c1.ent c2.ent 0 (by decide)) (by simp -implicitDefEqProofs only[go_sem,seval,↓reduceIte,lkV]) ?_ ?_
  ·rintro v H' ⟨e,he,rfl⟩
   rw [Zzk] at he;refine ⟨e,?_,rfl⟩;rw [he]
   cases A with
   | err e'=>exact absurd rfl (hne e')
   | num=>rfl
   | tru=>rfl
  rintro v H' ⟨hne2,rfl⟩;rw [Zzk] at hne2 ⊢;simp -implicitDefEqProofs only[go_sem,seval,↓reduceIte,Z5e];intro g16;refine AW.weak (Z8 (fun o=>o==15 || o==16) (l:=[(3,.view .new (.agg [.int .u8 16,.int .i64 num,.str name,.int .i64 na,.int .i64 nb,.int .i64 nc])),(4,.ptr 4 g4 0),(15,.view .new (.agg [.int .u8 A.kind,.int .i64 A.nm,.bool A.tr])),(16,.view .new (.agg [.int .u8 B.kind,.int .i64 B.nm,.bool B.tr]))]) (m:=[(4,.cells .new g4 0 [.int .u8 0,.int .i64 0,.bool false])]) ?_ ?_) ?_
  ·refine Zs ?_
   refine ⟨Zd _,Zd _,?_,?_⟩
   ·exact Fz.ptr (v := .agg [.int .u8 A.kind,.int .i64 A.nm,.bool A.tr]) (c := .new) (fz:=0) rfl zp
   ·exact Fz.ptr (v := .agg [.int .u8 B.kind,.int .i64 B.nm,.bool B.tr]) (c := .new) (fz:=0) rfl zp
  ·simp only [Zl,Zp,and_true]
   exact FzO.keep rfl zp
  cases A with
  | err e'=>exact absurd rfl (hne e')
  | num a =>
   cases B with
   | err e'=>exact absurd rfl (hne2 e')
   | num b =>
    simp only [EV.kind,EV.nm,EV.tr];refine Z ?_;refine Zv ⟨fun i=>if i=7 then Z5e (.tru ((a==b)==true)) else .top,fun i=>if i=0 then .lend else if i=1 then .lend else if i=4 then .lend else .pure⟩ (by kernel_rfl) hG (by kernel_rfl) (by kernel_rfl) ?_;refine Zsf @Zac ?_;refine ⟨by simp only [Bool.true_and,Bool.and_true];exact Z9e G _,?_⟩;refine Z ?_;rw [Zrt];exact ⟨(fun e h=>by cases h),rfl⟩
   | tru b =>
    simp only [EV.kind,EV.nm,EV.tr];refine Z ?_;exact Zy hG (by kernel_rfl) (Zpd G 90) rfl (fun v H' h=>⟨90,rfl,by rw [h.2]<;>rfl⟩) fun v H' h=>absurd h.1 (by decide)
  | tru a =>
   cases B with
   | err e'=>exact absurd rfl (hne2 e')
   | num b =>
    simp only [EV.kind,EV.nm,EV.tr];refine Z ?_;exact Zy hG (by kernel_rfl) (Zpd G 90) rfl (fun v H' h=>⟨90,rfl,by rw [h.2]<;>rfl⟩) fun v H' h=>absurd h.1 (by decide)
   | tru b =>
    simp only [EV.kind,EV.nm,EV.tr];refine Z ?_;refine Zv ⟨fun i=>if i=7 then Z5e (.tru ((a==b)==true)) else .top,fun i=>if i=0 then .lend else if i=1 then .lend else if i=4 then .lend else .pure⟩ (by kernel_rfl) hG (by kernel_rfl) (by kernel_rfl) ?_;refine Zsf @Zac ?_;refine ⟨by simp only [Bool.true_and,Bool.and_true];exact Z9e G _,?_⟩;refine Z ?_;rw [Zqt];exact ⟨(fun e h=>by cases h),rfl⟩
 ·refine Z ?_
  refine Zy hG (by kernel_rfl) (hA c1.ent c2.ent 0 (by decide)) (by simp -implicitDefEqProofs only[go_sem,seval,↓reduceIte,lkV]) ?_ ?_
  ·rintro v H' ⟨e,he,rfl⟩
   rw [Zzk] at he;exact ⟨e,by rw [he]<;>rfl,rfl⟩
  rintro v H' ⟨hne,rfl⟩;rw [Zzk] at hne ⊢;simp -implicitDefEqProofs only[go_sem,seval,↓reduceIte,Z5e];intro g15;refine Z ?_;refine Zy hG (by kernel_rfl) (hB c1.ent c2.ent 0 (by decide)) (by simp -implicitDefEqProofs only[go_sem,seval,↓reduceIte,lkV]) ?_ ?_
  ·rintro v H' ⟨e,he,rfl⟩
   rw [Zzk] at he;refine ⟨e,?_,rfl⟩;rw [he]
   cases A with
   | err e'=>exact absurd rfl (hne e')
   | num=>rfl
   | tru=>rfl
  rintro v H' ⟨hne2,rfl⟩;rw [Zzk] at hne2 ⊢;simp -implicitDefEqProofs only[go_sem,seval,↓reduceIte,Z5e];intro g16;refine AW.weak (Z8 (fun o=>o==15 || o==16) (l:=[(3,.view .new (.agg [.int .u8 17,.int .i64 num,.str name,.int .i64 na,.int .i64 nb,.int .i64 nc])),(4,.ptr 4 g4 0),(15,.view .new (.agg [.int .u8 A.kind,.int .i64 A.nm,.bool A.tr])),(16,.view .new (.agg [.int .u8 B.kind,.int .i64 B.nm,.bool B.tr]))]) (m:=[(4,.cells .new g4 0 [.int .u8 0,.int .i64 0,.bool false])]) ?_ ?_) ?_
  ·refine Zs ?_
   refine ⟨Zd _,Zd _,?_,?_⟩
   ·exact Fz.ptr (v := .agg [.int .u8 A.kind,.int .i64 A.nm,.bool A.tr]) (c := .new) (fz:=0) rfl zp
   ·exact Fz.ptr (v := .agg [.int .u8 B.kind,.int .i64 B.nm,.bool B.tr]) (c := .new) (fz:=0) rfl zp
  ·simp only [Zl,Zp,and_true]
   exact FzO.keep rfl zp
  cases A with
  | err e'=>exact absurd rfl (hne e')
  | num a =>
   cases B with
   | err e'=>exact absurd rfl (hne2 e')
   | num b =>
    simp only [EV.kind,EV.nm,EV.tr];refine Z ?_;refine Zv ⟨fun i=>if i=7 then Z5e (.tru ((a==b)==false)) else .top,fun i=>if i=0 then .lend else if i=1 then .lend else if i=4 then .lend else .pure⟩ (by kernel_rfl) hG (by kernel_rfl) (by kernel_rfl) ?_;refine Zsf @Zac ?_;refine ⟨by simp only [Bool.true_and,Bool.and_true];exact Z9e G _,?_⟩;refine Z ?_;rw [Zrt];exact ⟨(fun e h=>by cases h),rfl⟩
   | tru b =>
    simp only [EV.kind,EV.nm,EV.tr];refine Z ?_;exact Zy hG (by kernel_rfl) (Zpd G 90) rfl (fun v H' h=>⟨90,rfl,by rw [h.2]<;>rfl⟩) fun v H' h=>absurd h.1 (by decide)
  | tru a =>
   cases B with
   | err e'=>exact absurd rfl (hne2 e')
   | num b =>
    simp only [EV.kind,EV.nm,EV.tr];refine Z ?_;exact Zy hG (by kernel_rfl) (Zpd G 90) rfl (fun v H' h=>⟨90,rfl,by rw [h.2]<;>rfl⟩) fun v H' h=>absurd h.1 (by decide)
   | tru b =>
    simp only [EV.kind,EV.nm,EV.tr];refine Z ?_;refine Zv ⟨fun i=>if i=7 then Z5e (.tru ((a==b)==false)) else .top,fun i=>if i=0 then .lend else if i=1 then .lend else if i=4 then .lend else .pure⟩ (by kernel_rfl) hG (by kernel_rfl) (by kernel_rfl) ?_;refine Zsf @Zac ?_;refine ⟨by simp only [Bool.true_and,Bool.and_true];exact Z9e G _,?_⟩;refine Z ?_;rw [Zqt];exact ⟨(fun e h=>by cases h),rfl⟩
end Go.Hs
end

section
namespace Go.Hs
open Go.Proofs
set_option maxRecDepth 10000
theorem Ztf (G:Nat→V) (hG:GOk G) (sl:Sl XN) (hs:sl.l.length<1000000) (m:List (List UInt8 × Int)) (i:Nat) (n:XN) (x:EV) (hn:sl.l[i]? = some n)
  (hw:∀ c1 c2,SpecP Tryz.prog G (some (Z47 x)) 92 [lkV c1 c2 sl m,Z3 n] Zk (Zz4 x)):OfC G sl m i x:=by
 intro c1 c2 k hk;refine Zxa 0 27 [.cell 6 34] Tryz.func67 rfl rfl rfl rfl fun X=>?_;have hil:i<sl.l.length:=(List.getElem?_eq_some_iff.1 hn).1;refine Z1 ?_;intro g6;refine Ztc (by kernel_rfl) ?_;simp -implicitDefEqProofs only[go_sem,seval,↓reduceIte,lkV,hn,Int.natCast_nonneg,Int.ofNat_lt,hil,Zt];refine Zy hG (by kernel_rfl) (hw c1.ent c2.ent) (by simp -implicitDefEqProofs only[go_sem,seval,↓reduceIte,lkV,Zt]) ?_ ?_
 ·rintro v H' ⟨e,he,rfl⟩
  exact ⟨e,by rw [he]<;>rfl,rfl⟩
 rintro v H' ⟨hne,rfl⟩;simp -implicitDefEqProofs only[go_sem,seval,↓reduceIte,Z5e];intro g7
 have fin:x.need k=x→Zz4 (x.need k) (.agg [.int .u8 x.kind,.int .i64 x.nm,.bool x.tr])=Zz4 x (Z5e x):=fun h=>by rw [h]<;>rfl
 have hx:∀ e,x.need k = .err e→k≠0∧x.kind≠k∧e=90:=by
  intro e he
  cases x with
  | err e'=>exact absurd rfl (hne e')
  | num n =>
   simp only [EV.need] at he
   split at he
   ·rename_i h;cases he;exact ⟨h.1,h.2,rfl⟩
   ·cases he
  | tru n =>
   simp only [EV.need] at he
   split at he
   ·rename_i h;cases he;exact ⟨h.1,h.2,rfl⟩
   ·cases he
 have hx2:k≠0∧x.kind≠k→x.need k = .err 90:=by
  intro h
  cases x with
  | err e'=>exact absurd rfl (hne e')
  | num n=>exact if_pos h
  | tru n=>exact if_pos h
 have hx3:¬ (k≠0∧x.kind≠k)→x.need k=x:=by
  intro h
  cases x with
  | err e'=>exact absurd rfl (hne e')
  | num n=>exact if_neg h
  | tru n=>exact if_neg h
 refine Z6 ?_
 by_cases h0:k=0
 ·subst h0
  refine Z ?_;rw [hx3 (fun h=>h.1 rfl)];exact ⟨hne,rfl⟩
 have h0b:(k != 0)=true:=by simpa using h0
 by_cases h2:x.kind=k
 ·have h2b:(x.kind != k)=false:=by simpa using h2
  refine Zf (zi h0b h2b) ?_;rw [hx3 (fun h=>h.2 h2)];exact ⟨hne,rfl⟩
 ·have h2b:(x.kind != k)=true:=by simpa using h2
  refine Z1f (zi h0b h2b) ?_;refine Z1 ?_;exact Zy hG (by kernel_rfl) (Zpd G 90) rfl (fun v H' h=>⟨90,hx2 ⟨h0,h2⟩,by rw [h.2]<;>rfl⟩) fun v H' h=>absurd h.1 (by decide)
def Zyg (x:X):Prop:=∀ op num name,X.leaf op num name∈Zxb x→Zsb num=true
theorem Zlm {env:List (List UInt8 × Int)} (he:∀ p∈env,Zsb p.2=true) (x:X) (h:x.ok=true) (hn:Zyg x):(evX env x).fine:=by
 induction x with
 | leaf op num name =>
  show (Zhe env op num name).fine
  unfold Zhe
  split
  ·exact hn op num name (by simp [Zxb])
  split
  ·cases hl:Zhd env name with
   | none=>exact .inr (.inr rfl)
   | some v =>
    obtain ⟨p,h1,_,h2⟩:=Z0s hl;exact h2 ▸ he p h1
  ·trivial
 | un op a ih =>
  simp only [X.ok,Bool.and_eq_true] at h;have ha:=ih h.2 fun o n nm hm=>hn o n nm (by simp [Zxb,hm])
  show (Zbx op (evX env a)).fine
  unfold Zbx
  split
  ·exact Zbh ha fun n _=>Zaf _
  ·exact Zch ha fun n=>trivial
 | bin op a b iha ihb =>
  simp only [X.ok,Bool.and_eq_true] at h;exact Zky (iha h.1.2 fun o n nm hm=>hn o n nm (by simp [Zxb,hm])) (ihb h.2 fun o n nm hm=>hn o n nm (by simp [Zxb,hm]))
 | ite a b c iha ihb ihc =>
  simp only [X.ok,Bool.and_eq_true] at h;refine Zch (iha h.1.1 fun o n nm hm=>hn o n nm (by simp [Zxb,hm])) fun t=>?_
  split
  ·exact ihb h.1.2 fun o n nm hm=>hn o n nm (by simp [Zxb,hm])
  ·exact ihc h.2 fun o n nm hm=>hn o n nm (by simp [Zxb,hm])
theorem of_spec (G:Nat→V) (hG:GOk G) (sl:Sl XN) (hs:sl.l.length<1000000) (m:List (List UInt8 × Int)) (hm:∀ p∈m,Zsb p.2=true) (x:X) :
  ∀ b:Nat,x.ok=true→Zyg x→At sl.l x b→OfC G sl m ((b+x.size-1:Nat):Int) (evX m x):=by
 induction x with
 | leaf op num name =>
  intro b h hn hat;refine Ztf G hG sl hs m _ _ _ hat.get fun c1 c2=>?_;simp only [X.ok,Bool.and_eq_true,decide_eq_true_eq] at h;have hr:=(Z2d h.1).1
  have hv:evX m (.leaf op num name)=Zdc m ((X.leaf op num name).top b) (.num 0) (.num 0) (.num 0):=by
   show _=if op≤4 then _ else _
   rw [if_pos h.2]<;>rfl
  rw [hv];exact Zwy G hG c1 c2 sl m _ _ _ _ ⟨hr,h.2⟩
 | un op a ih =>
  intro b h hn hat;have hsz:=a.size_pos;simp only [X.ok,Bool.and_eq_true,decide_eq_true_eq] at h;have na:Zyg a:=fun o n nm hm=>hn o n nm (by simp [Zxb,hm]);have hA:=ih b h.2 na hat.un;rw [show ((b+a.size-1:Nat):Int)=(b:Int)+a.size-1 by omega] at hA;refine Ztf G hG sl hs m _ _ _ hat.get fun c1 c2=>?_
  have hv:evX m (.un op a)=Zdc m ((X.un op a).top b) (evX m a) (.num 0) (.num 0):=by
   show _=if op≤4 then _ else if op≤6 then _ else _
   rw [if_neg (by omega),if_pos (by omega)]<;>rfl
  rw [hv]
  obtain h5 | h6:op=5∨op=6:=by omega
  ·exact Za1 G hG c1 c2 sl m _ _ _ _ h5 hA (Zlm hm a h.2 na)
  ·exact Zyj G hG c1 c2 sl m _ _ _ _ (.inl h6) hA (fun hh=>absurd h6 hh) (fun hh=>absurd (h6.symm.trans hh) (by decide))
 | bin op a c iha ihc =>
  intro b h hn hat;have hsz:=a.size_pos;have hsc:=c.size_pos;simp only [X.ok,Bool.and_eq_true,decide_eq_true_eq] at h;have na:Zyg a:=fun o n nm hm=>hn o n nm (by simp [Zxb,hm]);have nc:Zyg c:=fun o n nm hm=>hn o n nm (by simp [Zxb,hm]);have hA:=iha b h.1.2 na hat.bin.1;have hC:=ihc (b+a.size) h.2 nc hat.bin.2;rw [show ((b+a.size-1:Nat):Int)=(b:Int)+a.size-1 by omega] at hA;rw [show ((b+a.size+c.size-1:Nat):Int)=(b:Int)+a.size+c.size-1 by omega] at hC;refine Ztf G hG sl hs m _ _ _ hat.get fun c1 c2=>?_
  have hv:evX m (.bin op a c)=Zdc m ((X.bin op a c).top b) (evX m a) (evX m c) (.num 0):=by
   show _=if op≤4 then _ else if op≤6 then _ else if op≤21 then _ else _
   rw [if_neg (by omega),if_neg (by omega),if_pos (by omega)]<;>rfl
  rw [hv]
  by_cases h11:op≤11
  ·exact Z90 G hG c1 c2 sl m _ _ _ _ ⟨h.1.1.1,h11⟩ hA hC (Zlm hm a h.1.2 na) (Zlm hm c h.2 nc)
  by_cases h15:op≤15
  ·exact Zb1 G hG c1 c2 sl m _ _ _ _ ⟨show 12≤op by omega,h15⟩ hA hC
  by_cases h17:op≤17
  ·exact Z44 G hG c1 c2 sl m _ _ _ _ ⟨show 16≤op by omega,h17⟩ hA hC
  ·exact Zyj G hG c1 c2 sl m _ _ _ _ (.inr ⟨show 18≤op by omega,show op≤22 by omega⟩) hA (fun _=>hC) (fun hh=>absurd (show op=22 from hh) (by omega))
 | ite a c d iha ihc ihd =>
  intro b h hn hat;have hsz:=a.size_pos;have hsc:=c.size_pos;have hsd:=d.size_pos;simp only [X.ok,Bool.and_eq_true] at h;have na:Zyg a:=fun o n nm hm=>hn o n nm (by simp [Zxb,hm]);have nc:Zyg c:=fun o n nm hm=>hn o n nm (by simp [Zxb,hm]);have nd:Zyg d:=fun o n nm hm=>hn o n nm (by simp [Zxb,hm]);have hA:=iha b h.1.1 na hat.ite.1;have hC:=ihc (b+a.size) h.1.2 nc hat.ite.2.1;have hD:=ihd (b+a.size+c.size) h.2 nd hat.ite.2.2;rw [show ((b+a.size-1:Nat):Int)=(b:Int)+a.size-1 by omega] at hA;rw [show ((b+a.size+c.size-1:Nat):Int)=(b:Int)+a.size+c.size-1 by omega] at hC;rw [show ((b+a.size+c.size+d.size-1:Nat):Int)=(b:Int)+a.size+c.size+d.size-1 by omega] at hD;refine Ztf G hG sl hs m _ _ _ hat.get fun c1 c2=>?_;exact Zyj G hG c1 c2 sl m _ (evX m a) (evX m c) (evX m d) (.inr ⟨show (18:Int)≤22 by decide,show (22:Int)≤22 by decide⟩) hA (fun _=>hC) (fun _=>hD)
end Go.Hs
end

section
namespace Go.Hs
open Go.Proofs
set_option maxRecDepth 10000
theorem Zgw (e:Int):Zoe Tryz.prog (.iface 152 (.agg [.int .i64 e])) 152 true=some (.tuple [.agg [.int .i64 e],.bool true]):=by
 unfold Zoe;rw [Tryz.underlying152]<;>rfl
theorem Zl0:Zoe Tryz.prog .nili 152 true=some (.tuple [.agg [.int .i64 0],.bool false]):=by
 unfold Zoe;rw [Tryz.underlying152]<;>rfl
theorem Zx3 (G:Nat→V) (g6 g7:Nat) (v6 v7:List V):SpecF Tryz.prog G 66 [.ptr 6 g6 0,.ptr 7 g7 0] (Zha Zk [(6,.cells .new g6 0 v6),(7,.cells .new g7 0 v7)]) none (fun H'=>H' 6 = .cells .new g6 0 v6∧H' 7 = .cells .new g7 0 v7):=by
 refine Zrj 1000 13 5 Tryz.func66 rfl rfl rfl rfl rfl (by kernel_rfl) rfl fun X=>?_;simp -implicitDefEqProofs only[go_sem,seval,↓reduceIte,recV,Zl0,Zha];intro g2;refine Z1 ?_;refine Zbd rfl ?_;refine AW.skip ?_;exact ⟨rfl,rfl⟩
theorem Zh0 (G:Nat→V) (hG:GOk G) (g6 g7:Nat) (v7:V) (e:Int):SpecF Tryz.prog G 66 [.ptr 6 g6 0,.ptr 7 g7 0] (Zha Zk [(6,.cells .new g6 0 [.int .u8 0,.int .i64 0,.bool false]),(7,.cells .new g7 0 [v7])]) (some (Z3v e)) (fun H'=>H' 6 = .cells .new g6 0 [.int .u8 0,.int .i64 0,.bool false]∧H' 7 = .cells .new g7 0 [.int .i64 e]):=by
 refine Zrj 1000 13 5 Tryz.func66 rfl rfl rfl rfl rfl (by kernel_rfl) rfl fun X=>?_;simp -implicitDefEqProofs only[go_sem,seval,↓reduceIte,recV,Z3v,Zgw,Zha];intro g2;refine Z1 ?_;refine Z2f rfl ?_;refine AW.weak (Z8 (fun o=>o==1002) (l:=[(0,.ptr 6 g6 0),(1,.ptr 7 g7 0),(2,.view .new (.agg [.int .i64 e]))]) (m:=[(6,.cells .new g6 0 [.int .u8 0,.int .i64 0,.bool false]),(7,.cells .new g7 0 [v7])]) ?_ ?_) ?_
 ·refine Zs ?_
  refine ⟨Zd _,Zd _,?_⟩;exact Fz.ptr (v := .agg [.int .i64 e]) (c := .new) (fz:=0) rfl zp
 ·simp only [Zl,Zp,and_true]
  exact ⟨FzO.keep rfl zp,FzO.keep rfl zp⟩
 refine Zv ⟨fun _ => .top,fun i=>if i=2 then .lend else .pure⟩ (by kernel_rfl) hG (by kernel_rfl) (by kernel_rfl) ?_;refine Zs ?_;exact ⟨rfl,rfl⟩
def Zz (p:List UInt8 × Int):V := .agg [.str p.1,.int .i64 p.2]
theorem Z1c (p:List UInt8 × Int):Zz p = .agg [.str p.1,.int .i64 p.2]:=rfl
@[go_sem] theorem Zv5 (f:Col→Col) (p:List UInt8 × Int):(Zz p).recol f=Zz p:=rfl
@[go_sem] theorem Zls (g:Col→Col) (c:Col) (s:Sl (List UInt8 × Int)):(Za c 2 Zz s).recol g=Za (g c) 2 Zz s:=Zee g c 2 (Zv5 g) s
def Zsr:List (List UInt8 × Int)→List UInt8 × Int→List (List UInt8 × Int)
 | [],p=>[p]
 | q::r,p=>if p.1=q.1 then (q.1,p.2)::r else q::Zsr r p
theorem Zzs (p:List UInt8 × Int) (s:List UInt8):∀ m:List (List UInt8 × Int),Zhd (Zsr m p) s=if s=p.1 then some p.2 else Zhd m s
 | []=>by
  unfold Zsr Zhd
  by_cases h:s=p.1
  ·rw [if_pos h,List.find?_cons_of_pos (by simpa using h.symm)]<;>rfl
  ·rw [if_neg h,List.find?_cons_of_neg (by simpa using fun hh=>h hh.symm)]
 | q::r=>by
  have ih:=Zzs p s r;unfold Zsr
  by_cases hq:p.1=q.1
  ·rw [if_pos hq]
   unfold Zhd
   by_cases h:s=p.1
   ·rw [if_pos h,List.find?_cons_of_pos (by simpa using (h.trans hq).symm)]<;>rfl
   ·rw [if_neg h,List.find?_cons_of_neg (by simpa using fun hh=>h (hh.symm.trans hq.symm)),List.find?_cons_of_neg (by simpa using fun hh=>h (hh.symm.trans hq.symm))]
  ·rw [if_neg hq]
   unfold Zhd at ih ⊢
   by_cases h2:q.1=s
   ·have hsp:¬ s=p.1:=fun h=>hq (h.symm.trans h2.symm)
    rw [if_neg hsp,List.find?_cons_of_pos (by simpa using h2),List.find?_cons_of_pos (by simpa using h2)]
   ·rw [List.find?_cons_of_neg (by simpa using h2),List.find?_cons_of_neg (by simpa using h2),ih]
theorem Z05 (p:List UInt8 × Int) (m:List (List UInt8 × Int)):Zq4 .string (.str p.1) (.int .i64 p.2) (Zub m) (Z7b m)=some (Zub (Zsr m p),Z7b (Zsr m p)):=by
 have key:∀ m:List (List UInt8 × Int),∃ r,Zwc .string (.str p.1) (Zub m)=some r∧(match r with
   | none=>Zsr m p=m++[p]
   | some j=>Zub (Zsr m p)=Zub m∧Z7b (Zsr m p)=(Z7b m).set j (.int .i64 p.2)):=by
  intro m
  induction m with
  | nil=>exact ⟨none,rfl,rfl⟩
  | cons q r ih =>
   have hstep:Zwc .string (.str p.1) (Zub (q::r))=if p.1=q.1 then some (some 0) else (Zwc .string (.str p.1) (Zub r)).map (·.map (· + 1)):=rfl
   by_cases h:p.1=q.1
   ·refine ⟨some 0,by rw [hstep,if_pos h],?_⟩
    show Zub (if p.1=q.1 then _ else _)=_∧Z7b (if p.1=q.1 then _ else _)=_
    rw [if_pos h];exact ⟨rfl,rfl⟩
   ·obtain ⟨o,h1,h2⟩:=ih
    refine ⟨o.map (· + 1),by rw [hstep,if_neg h,h1]<;>rfl,?_⟩
    have hs:Zsr (q::r) p=q::Zsr r p:=by show (if p.1=q.1 then _ else _)=_;rw [if_neg h]
    rw [hs]
    cases o with
    | none=>simp only at h2;simp only [Option.map_none];rw [h2]<;>rfl
    | some j =>
     simp only at h2;simp only [Option.map_some];exact ⟨by show _::Zub (Zsr r p)=_::Zub r;rw [h2.1],by show _::Z7b (Zsr r p)=_::(Z7b r).set j _;rw [h2.2]⟩
 obtain ⟨o,h1,h2⟩:=key m;unfold Zq4;rw [h1]
 cases o with
 | none=>simp only at h2;simp only [h2,Zub,Z7b,List.map_append,List.map_cons,List.map_nil]
 | some j=>simp only at h2;simp only [h2.1,h2.2]
def Zrd (env:List (List UInt8 × Int)):Nat→List (List UInt8 × Int)
 | 0=>[]
 | n+1=>match env[env.length-(n+1)]? with
  | some p=>Zsr (Zrd env n) p
  | none=>Zrd env n
theorem Zys (env:List (List UInt8 × Int)) (s:List UInt8):∀ n,n≤env.length→Zhd (Zrd env n) s=Zhd (env.drop (env.length-n)) s
 | 0,_=>by rw [Nat.sub_zero,List.drop_length]<;>rfl
 | n+1,h=>by
  have hlt:env.length-(n+1)<env.length:=by omega
  have hd:env.drop (env.length-(n+1))=env[env.length-(n+1)]::env.drop (env.length-n):=by
   rw [List.drop_eq_getElem_cons hlt,show env.length-(n+1)+1=env.length-n by omega]
  rw [Zrd,List.getElem?_eq_getElem hlt,hd];simp only;rw [Zzs,Zys env s n (by omega)];unfold Zhd
  by_cases hs:s=env[env.length-(n+1)].1
  ·rw [if_pos hs,List.find?_cons_of_pos (by simpa using hs.symm)]<;>rfl
  ·rw [if_neg hs,List.find?_cons_of_neg (by simpa using fun hh=>hs hh.symm)]
def Zn3 (env:List (List UInt8 × Int)):=Zrd env env.length
theorem Zy2 (env:List (List UInt8 × Int)) (s:List UInt8):Zhd (Zn3 env) s=Zhd env s:=by
 unfold Zn3;rw [Zys env s _ (Nat.le_refl _),Nat.sub_self,List.drop_zero]
theorem Zy1 {m:List (List UInt8 × Int)} {p:List UInt8 × Int} (hm:∀ q∈m,Zsb q.2=true) (hp:Zsb p.2=true):∀ q∈Zsr m p,Zsb q.2=true:=by
 induction m with
 | nil=>intro q hq;simp [Zsr] at hq;subst hq;exact hp
 | cons r t ih =>
  intro q hq;unfold Zsr at hq
  split at hq
  ·rcases List.mem_cons.1 hq with rfl | h
   ·exact hp
   ·exact hm q (by simp [h])
  ·rcases List.mem_cons.1 hq with rfl | h
   ·exact hm q (by simp)
   ·exact ih (fun q hq=>hm q (by simp [hq])) q h
theorem Zpg {env:List (List UInt8 × Int)} (h:∀ q∈env,Zsb q.2=true):∀ n,∀ q∈Zrd env n,Zsb q.2=true
 | 0=>fun q hq=>by cases hq
 | n+1=>by
  rw [Zrd]
  cases hg:env[env.length-(n+1)]? with
  | none=>exact Zpg h n
  | some p=>exact Zy1 (Zpg h n) (h p (List.mem_of_getElem? hg))
theorem Z26 (env:List (List UInt8 × Int)) (x:X):evX (Zn3 env) x=evX env x:=Z06 fun t _=>Zy2 env t
end Go.Hs
end

section
namespace Go.Hs
open Go.Proofs
set_option maxRecDepth 10000
set_option maxHeartbeats 1000000
def encVE (r:EV):V := .tuple [Z5e r,.int .i64 r.er]
def Zk4 (env:List (List UInt8 × Int)) (l:List XN) (k:Int) (r:EV):Prop:=Zna l≠0∧r = .err (Zna l)∨Zna l=0∧∃ x:X,x.ok=true∧Zyg x∧l=x.row 0∧r=(evX env x).need k
theorem Zcs {H:Heap} {a b:AObj} (h6:H 6=a) (h7:H 7=b) (o:Nat):Zha Zk [(6,a),(7,b)] o = .dead∨Zha Zk [(6,a),(7,b)] o=H o:=by
 simp only [Zha,upd]
 split
 ·rename_i h;subst h;exact .inr h6.symm
 split
 ·rename_i h;subst h;exact .inr h7.symm
 ·exact .inl rfl
theorem Z4z (G:Nat→V) (hE:GExp G) (c c2:Col) (s:Sl XN) (hs:s.l.length<1000000) (hnm:∀ n∈s.l,n.name.length<100000) (env:Sl (List UInt8 × Int)) (hv:env.l.length<1000000) (hf:∀ p∈env.l,Zsb p.2=true) (k:Int) (hk:0≤k∧k≤2) (r:EV) (hr:Zk4 env.l s.l k r) :
  Spec Tryz.prog G 44 [.agg [Za c 6 Z3 s],Za c2 2 Zz env,.int .u8 k] Zk (fun v _=>v=encVE r):=by
 have hG:=hE.ok;refine Z2n 0 51 [.cell 6 34,.cell 7 30] Tryz.func44 rfl rfl rfl rfl fun X0=>?_;refine Ztj rfl fun K hK=>AW.region (by kernel_rfl) ?_;simp -implicitDefEqProofs only[go_sem,seval,↓reduceIte];intro g3 g6 g7;refine hK _ ?_;clear hK K;refine Ztj rfl fun K1 hK1=>?_;refine Zu fun K hK=>AW.region (by kernel_rfl) ?_;simp -implicitDefEqProofs only[go_sem,seval,↓reduceIte];refine CallA.pure hG (by kernel_rfl) ?_;simp -implicitDefEqProofs only[go_sem,seval,↓reduceIte,Zbb];refine (Zkf G hE c.ent s hs hnm).mono ?_;rintro _ _ rfl;simp -implicitDefEqProofs only[go_sem,seval,↓reduceIte];refine hK _ ?_;clear hK K
 by_cases hc:Zna s.l=0
 rotate_left
 ·obtain rfl:r = .err (Zna s.l):=by
   rcases hr with ⟨_,h⟩ | ⟨h,_⟩
   ·exact h
   ·exact absurd h hc
  have hcb:(Zna s.l != 0)=true:=by simpa using hc
  refine Zu fun K hK=>AW.region (by kernel_rfl) ?_;simp -implicitDefEqProofs only[go_sem,seval,↓reduceIte,hcb];refine hK _ ?_;clear hK K;refine Z2f rfl ?_;refine Zu fun K hK=>AW.region (by kernel_rfl) ?_;simp -implicitDefEqProofs only[go_sem,seval,↓reduceIte];refine hK _ ?_;clear hK K;refine AW.ret ?_;intro a w hsat;refine Zoz rfl hsat (v:=encVE (.err (Zna s.l))) (rs:=[.cell 6 34,.cell 7 30]) ?_ ?_
  ·simp -implicitDefEqProofs only[go_sem,seval,↓reduceIte]
   rfl
  ·rfl
 obtain ⟨x,hx,hxn,hl,rfl⟩:∃ x:X,x.ok=true∧Zyg x∧s.l=x.row 0∧r=(evX env.l x).need k:=by
  rcases hr with ⟨h,_⟩ | ⟨_,h⟩
  ·exact absurd hc h
  ·exact h
 have hcb:(Zna s.l != 0)=false:=by simpa using hc
 refine Zu fun K hK=>AW.region (by kernel_rfl) ?_;simp -implicitDefEqProofs only[go_sem,seval,↓reduceIte,hcb];refine hK _ ?_;clear hK K;refine Zbd rfl ?_;refine AW.skip ?_;simp -implicitDefEqProofs only[go_sem,seval,↓reduceIte];refine hK1 _ ?_;clear hK1 K1;refine Zo4 1 (fun _=>(⟨X0,Zk,51,0,G,none,[.func (.func 66) [] [.ptr 6 g6 0,.ptr 7 g7 0]]⟩:Ent)) (fun _=>rfl) (by kernel_rfl) rfl rfl rfl (fun _=>rfl) ?_;simp -implicitDefEqProofs only[go_sem,seval,↓reduceIte];intro X1 a1 hX1;refine Z76 hX1 (fun d hd=>by cases hd) (fid:=66) (first:=[]) (cap:=[.ptr 6 g6 0,.ptr 7 g7 0]) (by simp -implicitDefEqProofs only[go_sem,seval,↓reduceIte]) ?_;rw [Zz5];refine AWR.weak (Zg (l:=[(1,Za c2 2 Zz env),(2,.int .u8 k),(3,.ptr 3 g3 0),(6,.ptr 6 g6 0),(7,.ptr 7 g7 0)]) (m:=[(3,.cells .new g3 0 [Za c 6 Z3 s]),(6,.cells .new g6 0 [.int .u8 0,.int .i64 0,.bool false]),(7,.cells .new g7 0 [.int .i64 0])]) (by simp -implicitDefEqProofs only[go_sem,seval,↓reduceIte];try rfl) (by simp -implicitDefEqProofs only[go_sem,seval,↓reduceIte];try rfl)) ?_;refine Ztj rfl fun K hK=>AW.region (by kernel_rfl) ?_;simp -implicitDefEqProofs only[go_sem,seval,↓reduceIte];intro b g22;refine hK _ ?_;clear hK K;refine AWR.weak (Zg (l:=[(1,Za c2 2 Zz env),(2,.int .u8 k),(3,.ptr 3 g3 0),(6,.ptr 6 g6 0),(7,.ptr 7 g7 0),(9,.ptr 22 g22 0)]) (m:=[(3,.cells .new g3 0 [Za c 6 Z3 s]),(6,.cells .new g6 0 [.int .u8 0,.int .i64 0,.bool false]),(7,.cells .new g7 0 [.int .i64 0]),(20,.mp X0.w.heap.size b [] []),(22,.cells .new g22 0 [Za c 6 Z3 s,.mref 20 b])]) (by simp -implicitDefEqProofs only[go_sem,seval,↓reduceIte];try rfl) (by simp -implicitDefEqProofs only[go_sem,seval,↓reduceIte];try rfl)) ?_
 refine Ztj rfl fun K1 hK1=>?_;have hw:IntKind.i64.wrap ((env.l.length:Int)-1)=(env.l.length:Int)-1:=w64 (by omega) (by omega);refine Zu fun K hK=>AW.region (by kernel_rfl) ?_;simp -implicitDefEqProofs only[go_sem,seval,↓reduceIte,hw];refine hK _ ?_;clear hK K;refine AW.block ?_
 refine Zpb env.l.length (fun j (_:Unit)=>st [(1,Za c2 2 Zz env),(2,.int .u8 k),(3,.ptr 3 g3 0),(6,.ptr 6 g6 0),(7,.ptr 7 g7 0),(9,.ptr 22 g22 0),(10,.int .i64 ((env.l.length:Int)-1-j))] [(3,.cells .new g3 0 [Za c 6 Z3 s]),(6,.cells .new g6 0 [.int .u8 0,.int .i64 0,.bool false]),(7,.cells .new g7 0 [.int .i64 0]),(20,.mp X0.w.heap.size b (Zub (Zrd env.l j)) (Z7b (Zrd env.l j))),(22,.cells .new g22 0 [Za c 6 Z3 s,.mref 20 b])]) (fun _ _=>True) 0 () (Nat.zero_le _) trivial
  (Zg (by simp -implicitDefEqProofs only[go_sem,seval,↓reduceIte];simp) (by simp -implicitDefEqProofs only[go_sem,seval,↓reduceIte];try rfl)) ?_
 rintro j _ hj-L hL;refine Zu fun K3 hK3=>?_
 by_cases hjl:j<env.l.length
 ·obtain ⟨i,hi⟩:∃ i:Nat,i=env.l.length-(j+1):=⟨_,rfl⟩
  have hil:i<env.l.length:=by omega
  have hq:(env.l.length:Int)-1-j=(i:Int):=by omega
  have hg:env.l[i]? = some env.l[i]:=List.getElem?_eq_getElem hil
  have hnx:Zrd env.l (j+1)=Zsr (Zrd env.l j) env.l[i]:=by
   rw [Zrd,← hi,hg]
  generalize env.l[i]=p at hg hnx;rw [hq];refine Zu fun K hK=>AW.region (by kernel_rfl) ?_;simp -implicitDefEqProofs only[go_sem,seval,↓reduceIte];refine hK _ ?_;clear hK K;refine Zh (by simp -implicitDefEqProofs only[go_sem,seval,↓reduceIte];rfl) (fun h1=>?_) (fun h1=>?_);rotate_left
  ·have h1:decide ((i:Int)≥0)=false:=h1
   simp at h1
  refine AW.skip ?_;simp -implicitDefEqProofs only[go_sem,seval,↓reduceIte];refine hK3 _ ?_;clear hK3 K3;refine Zu fun K4 hK4=>?_;refine AW.block ?_;refine Zv ⟨fun _ => .top,fun _ => .pure⟩ (by kernel_rfl) hG (by kernel_rfl) (by kernel_rfl) ?_;simp -implicitDefEqProofs only[go_sem,seval,↓reduceIte,hg,Z1c,hil,Int.natCast_nonneg,Int.ofNat_lt,Zig Tryz.underlying155 Tryz.underlying9,Z05,Z7l,Nat.le_refl];refine hK4 _ ?_;clear hK4 K4;have hw2:IntKind.i64.wrap ((i:Int)-1)=(i:Int)-1:=w64 (by omega) (by omega);refine AW.region (by kernel_rfl) ?_;simp -implicitDefEqProofs only[go_sem,seval,↓reduceIte,hw2];refine hL _ ⟨hjl,(),trivial,Zg (by simp -implicitDefEqProofs only[go_sem,seval,↓reduceIte];exact congrArg (V.int .i64) (by omega)) (by simp -implicitDefEqProofs only[go_sem,seval,↓reduceIte];rw [hnx];try rfl)⟩
 ·have hje:j=env.l.length:=by omega
  subst hje
  have hq:(env.l.length:Int)-1-env.l.length = -1:=by omega
  rw [hq];refine Ztc (by kernel_rfl) ?_;simp -implicitDefEqProofs only[go_sem,seval,↓reduceIte];refine Zbd rfl ?_;refine AW.exit ?_;simp -implicitDefEqProofs only[go_sem,seval,↓reduceIte];refine hK1 _ ?_;clear hK1 hL hK3 K1 K3;refine AWR.weak (Zek 20 (lo:=X0.w.heap.size) (b:=b) (ks:=Zub (Zn3 env.l)) (vs:=Z7b (Zn3 env.l)) [(1,Za c2 2 Zz env),(2,.int .u8 k),(3,.ptr 3 g3 0),(6,.ptr 6 g6 0),(7,.ptr 7 g7 0),(9,.ptr 22 g22 0)] [(3,.cells .new g3 0 [Za c 6 Z3 s]),(6,.cells .new g6 0 [.int .u8 0,.int .i64 0,.bool false]),(7,.cells .new g7 0 [.int .i64 0]),(22,.cells .new g22 0 [Za c 6 Z3 s,.mapv (Zub (Zn3 env.l)) (Z7b (Zn3 env.l))])] (by simp -implicitDefEqProofs only[go_sem,seval,↓reduceIte];try rfl) (Nat.le_refl _) ?_ ?_) ?_
  ·simp -implicitDefEqProofs only[go_sem,seval,↓reduceIte]
   exact ⟨.inl rfl,.inl rfl,.inl rfl,.inl rfl,.inl rfl,.inl rfl⟩
  ·simp -implicitDefEqProofs only[go_sem,seval,↓reduceIte]
   exact ⟨⟨_,rfl,.inl rfl,trivial⟩,⟨_,rfl,.inl rfl,.inl rfl,.inl rfl,trivial⟩,⟨_,rfl,.inl rfl,trivial⟩,⟨_,rfl,.inl rfl,.inr ⟨rfl,rfl⟩,trivial⟩⟩
  refine AWR.weak (Z8 (fun o=>o==22) (l:=[(1,Za c2 2 Zz env),(2,.int .u8 k),(3,.ptr 3 g3 0),(6,.ptr 6 g6 0),(7,.ptr 7 g7 0),(9,lkV .new c s (Zn3 env.l))]) (m:=[(3,.cells .new g3 0 [Za c 6 Z3 s]),(6,.cells .new g6 0 [.int .u8 0,.int .i64 0,.bool false]),(7,.cells .new g7 0 [.int .i64 0])]) ?_ ?_) ?_
  ·simp -implicitDefEqProofs only[go_sem,seval,↓reduceIte]
   refine ⟨Zd _,Zd _,Zd _,Zd _,Zd _,?_⟩;exact Fz.ptr (v := .agg [Za c 6 Z3 s,.mapv (Zub (Zn3 env.l)) (Z7b (Zn3 env.l))]) (c := .new) (fz:=0) rfl (by simp -implicitDefEqProofs only[go_sem,seval,↓reduceIte];try rfl)
  ·simp only [Zl,Zp,and_true]
   exact ⟨FzO.keep rfl (by simp -implicitDefEqProofs only[go_sem,seval,↓reduceIte];try rfl),FzO.keep rfl (by simp -implicitDefEqProofs only[go_sem,seval,↓reduceIte];try rfl),FzO.keep rfl (by simp -implicitDefEqProofs only[go_sem,seval,↓reduceIte];try rfl)⟩
  have hw3:IntKind.i64.wrap ((s.l.length:Int)-1)=(s.l.length:Int)-1:=w64 (by omega) (by omega);refine Zo4 6 (fun _=>(⟨X0,Zk,51,0,G,none,[.func (.func 66) [] [.ptr 6 g6 0,.ptr 7 g7 0]]⟩:Ent)) (fun _=>rfl) (by kernel_rfl) rfl rfl rfl (fun _=>rfl) ?_;simp -implicitDefEqProofs only[go_sem,seval,↓reduceIte,hw3];intro X2 a2 hX2;refine call_wp hX2 (fun d hd=>by cases hd;exact Nat.le_refl 51) (fid:=67) (first:=[]) (cap:=[]) (KP:=fun v H'=>(∃ e,(evX env.l x).need k = .err e∧v=Z3v e)∧H' 6 = .cells .new g6 0 [.int .u8 0,.int .i64 0,.bool false]∧H' 7 = .cells .new g7 0 [.int .i64 0]) (by simp -implicitDefEqProofs only[go_sem,seval,↓reduceIte]) ?_ ?_
  ·simp -implicitDefEqProofs only[go_sem,seval,↓reduceIte]
   have hsz:((0+x.size-1:Nat):Int)=(s.l.length:Int)-1:=by
    have:=x.size_pos;rw [hl,Go.Hs.X.row_len];omega
   have hO:=of_spec G hG s hs (Zn3 env.l) (Zpg hf _) x 0 hx hxn (hl ▸ Zjl x);rw [hsz,Z26] at hO;refine Zy hG (by kernel_rfl) (hO .old c.ent k hk) (by simp -implicitDefEqProofs only[go_sem,seval,↓reduceIte,lkV]) ?_ ?_
   ·rintro v H' ⟨e,he,rfl⟩
    exact ⟨⟨e,he,rfl⟩,rfl,rfl⟩
   rintro v H' ⟨hne,rfl⟩;simp -implicitDefEqProofs only[go_sem,seval,↓reduceIte,Z5e];refine AWR.ret ?_;rintro a w ⟨Y,hY⟩;obtain rfl:Y.w=w:=hY.hw;refine Zoo (rs:=[.cell 6 34,.cell 7 30]) (pv:=none) rfl hY (by kernel_rfl) rfl (Zx3 G g6 g7 [.int .u8 ((evX env.l x).need k).kind,.int .i64 ((evX env.l x).need k).nm,.bool ((evX env.l x).need k).tr] [.int .i64 0]) ?_ ?_
   ·intro o
    refine Zcs ?_ ?_ o
    ·simp -implicitDefEqProofs only[go_sem,seval,↓reduceIte]
     try rfl
    ·simp -implicitDefEqProofs only[go_sem,seval,↓reduceIte]
     try rfl
   rintro H'' ⟨q6,q7⟩;simp -implicitDefEqProofs only[go_sem,seval,↓reduceIte];rw [q6,q7];simp -implicitDefEqProofs only[go_sem,seval,↓reduceIte];generalize (evX env.l x).need k=r at hne ⊢
   cases r with
   | err e=>exact absurd rfl (hne e)
   | num n=>exact ⟨_,rfl,rfl⟩
   | tru b=>exact ⟨_,rfl,rfl⟩
  ·rintro cv v Y H' hY hrel ⟨⟨e,he,rfl⟩,h6,h7⟩
   refine Zoo (rs:=[.cell 6 34,.cell 7 30]) (pv:=some (Z3v e)) rfl hY (by kernel_rfl) ⟨cv,rfl,hrel⟩ (Zh0 G hG g6 g7 (.int .i64 0) e) ?_ ?_
   ·exact fun o=>Zcs h6 h7 o
   ·rintro H'' ⟨q6,q7⟩
    simp -implicitDefEqProofs only[go_sem,seval,↓reduceIte];rw [q6,q7,he];simp -implicitDefEqProofs only[go_sem,seval,↓reduceIte];exact ⟨_,rfl,rfl⟩
end Go.Hs
end

section
namespace Go.Hs
open Go.Proofs
set_option maxRecDepth 10000
structure PartI (a b:Nat) (l:List Nat) (k:Nat) (q:List Nat) (rest:Nat):Prop where
 len:q.length=l.length
 dig:Dig q
 zero:∀ j,j<l.length-k→q.getD j 0=0
 v:val (q.drop (l.length-k)) * b+rest=val (l.drop (l.length-k))
 lt:rest<b
theorem PartI.step {a b:Nat} {l:List Nat} {k:Nat} {q:List Nat} {rest:Nat} (h:PartI a b l k q rest) (hk:k<l.length) {t r:Nat} (ht:r+t * b=l.getD (l.length-1-k) 0+10 * rest) (hr:r<b) (hd:Dig l) :
  PartI a b l (k+1) (q.set (l.length-1-k) t) r:=by
 have hi:l.length-(k+1)=l.length-1-k:=by omega
 have hi2:l.length-k=l.length-1-k+1:=by omega
 have h9:=Z4v hd (l.length-1-k)
 have ht10:t<10:=by
  have h1:=h.lt
  rcases Nat.lt_or_ge t 10 with h2 | h2
  ·exact h2
  ·have:10 * b≤t * b:=Nat.mul_le_mul_right b h2
   omega
 refine ⟨by simp [h.len],?_,?_,?_,hr⟩
 ·intro d hd'
  rcases List.mem_or_eq_of_mem_set hd' with h1 | h1
  ·exact h.dig d h1
  ·omega
 ·intro j hj
  have:=h.zero j (by omega);rw [List.getD_eq_getElem?_getD,List.getElem?_set_ne (by omega),← List.getD_eq_getElem?_getD];exact this
 ·have hv:=h.v
  rw [hi2] at hv;rw [hi,Z4g (q.set _ t),Z4g l (l.length-1-k)]
  have e1:(q.set (l.length-1-k) t).getD (l.length-1-k) 0=t:=by
   rw [List.getD_eq_getElem?_getD,List.getElem?_set_self (by rw [h.len];omega)]
   try rfl
  have e2:(q.set (l.length-1-k) t).drop (l.length-1-k+1)=q.drop (l.length-1-k+1):=by
   rw [List.drop_set_of_lt (by omega)]
  rw [e1,e2,← hv,Nat.add_mul,Nat.mul_assoc];generalize val (q.drop (l.length-1-k+1)) * b=z at *;omega
theorem PartI.done {a b:Nat} {q:List Nat} {rest:Nat} (h:PartI a b (dg a) (dg a).length q rest):val q=a / b∧rest=a % b:=by
 have hv:=h.v;rw [Nat.sub_self,List.drop_zero,List.drop_zero,val_dg] at hv;have hlt:=h.lt
 have hdm:(val q * b+rest) / b=val q:=by
  rw [Nat.add_comm,Nat.add_mul_div_right _ _ (by omega),Nat.div_eq_of_lt hlt,Nat.zero_add]
 have hmm:(val q * b+rest) % b=rest:=by
  rw [Nat.add_comm,Nat.add_mul_mod_self_right,Nat.mod_eq_of_lt hlt]
 rw [hv] at hdm hmm;exact ⟨hdm.symm,hmm.symm⟩
end Go.Hs
end

section
namespace Go.Hs
open Go.Proofs
set_option maxRecDepth 10000
set_option maxHeartbeats 1000000
def Zr3 (r:EV):V := .tuple [.int .i64 r.nm,.int .i64 r.er]
end Go.Hs
end

section
namespace Go.Hs
theorem Zaj {w:List UInt8} (h:isP w≠0):Zca w=(w.length,isP w)∧0<w.length∧w.length≤64:=by
 unfold isP at h ⊢
 split at h
 ·exact absurd rfl h
 ·rename_i q
  rw [if_neg q];simp only [not_or,Decidable.not_not,Nat.not_lt] at q;refine ⟨Prod.ext q.1 rfl,?_,by omega⟩
  cases w with
  | nil=>exact absurd rfl h
  | cons=>simp
end Go.Hs
end

section
namespace Go.Hs
inductive Lx:List UInt8→List (List UInt8)→Prop where
 | nil {s:List UInt8}:blk s=s.length→Lx s []
 | cons {s:List UInt8} {ws:List (List UInt8)} {k:Nat}:blk s<s.length→(Zca (s.drop (blk s))).1=k→0<k→k≤64→Lx ((s.drop (blk s)).drop k) ws→Lx s ((s.drop (blk s)).take k::ws)
theorem Zay {s:List UInt8} (hb:blk s<s.length) {k:Nat} (hk:(Zca (s.drop (blk s))).1=k) (h0:0<k) (h64:k≤64) :
  isP ((s.drop (blk s)).take k)=(Zca (s.drop (blk s))).2∧(Zca (s.drop (blk s))).2≠0:=by
 have hc:=Z53 s;generalize s.drop (blk s)=u at hk hc ⊢
 have hp:Zea [45,45] u=false:=by
  cases u with
  | nil=>rfl
  | cons c r=>exact (hc c r rfl).2
 obtain ⟨q1,q2⟩:=Zc0 hp (by omega);rw [hk] at q1;refine ⟨?_,q2⟩;rw [Z3s,if_neg (by rw [List.length_take];omega),q1]
theorem Zj1 {S:List UInt8}:∀ (f i:Nat) (acc l:List Tk),S.length<f+i→i≤S.length→Zcc f S (i+blk (S.drop i)) acc=(l,0,0)→∃ l2,l=acc++l2∧Lx (S.drop i) (l2.map Z8e)
 | 0,i,acc,l,hf,hi,_=>by omega
 | f+1,i,acc,l,hf,hi,h=>by
  have hbl:=Ziy (S.drop i);rw [List.length_drop] at hbl
  by_cases hb:blk (S.drop i)<(S.drop i).length
  ·have hb':=hb
   rw [List.length_drop] at hb'
   have hdd:S.drop (i+blk (S.drop i))=(S.drop i).drop (blk (S.drop i)):=by rw [List.drop_drop]
   by_cases hk:(Zca (S.drop (i+blk (S.drop i)))).1=0∨(Zca (S.drop (i+blk (S.drop i)))).1 > 64
   ·rw [Z9r (by omega) (by omega) hk] at h
    have:=congrArg (fun x=>x.2.2) h;simp at this
   ·rw [Zcc,if_pos (by omega),if_neg hk] at h
    rw [hdd] at h hk;simp only [not_or,Nat.not_lt] at hk;have hle:=Zjm ((S.drop i).drop (blk (S.drop i)));rw [List.length_drop,List.length_drop] at hle;obtain ⟨p1,p2⟩:=Zay hb rfl (by omega) (by omega);obtain ⟨l2,e1,e2⟩:=Zj1 f (i+blk (S.drop i)+(Zca ((S.drop i).drop (blk (S.drop i)))).1) _ l (by omega) (by omega) h;refine ⟨_::l2,by rw [e1,List.append_assoc];rfl,?_⟩;rw [List.map_cons]
    have hw:∀ p,Z8e ⟨(Zca ((S.drop i).drop (blk (S.drop i)))).2,((S.drop i).drop (blk (S.drop i))).take (Zca ((S.drop i).drop (blk (S.drop i)))).1,p⟩=((S.drop i).drop (blk (S.drop i))).take (Zca ((S.drop i).drop (blk (S.drop i)))).1:=by
     intro p;unfold Z8e;simp only;rw [p1,if_pos rfl]
    rw [hw];refine .cons hb rfl (by omega) (by omega) ?_;rw [← List.drop_drop,hdd] at e2;exact e2
  ·rw [List.length_drop] at hb
   rw [Z8r (by omega)] at h;have hl:acc=l:=congrArg Prod.fst h;refine ⟨[],by rw [hl,List.append_nil],.nil ?_⟩;rw [List.length_drop];omega
theorem Zb5 {s:List UInt8} {l:List Tk} (h:Z5b s=(l,0,0)):Lx s (l.map Z8e):=by
 unfold Z5b at h
 split at h
 ·have:=congrArg (fun x=>x.2.2) h
  simp at this
 ·have h2:Zcc (s.length+1) s (0+blk (s.drop 0)) []=(l,0,0):=by simpa using h
  obtain ⟨l2,e1,e2⟩:=Zj1 _ 0 [] l (by omega) (Nat.zero_le _) h2;rw [e1,List.nil_append];simpa using e2
end Go.Hs
end

section
namespace Go.Hs
def parW (b:Bool) (ts:List (List UInt8)):List (List UInt8):=if b then [40]::(ts++[[41]]) else ts
def X.W:X→Int→List (List UInt8)
 | .leaf op num name,_=>[if op=1 then putR num else if op=2 then name else sgT op.toNat]
 | .un op a,k=>parW (9<k) (sgT op.toNat::a.W 9)
 | .bin op a b,k=>parW (lvl op.toNat<k) (a.W (lvl op.toNat)++sgT op.toNat::b.W (lvl op.toNat+1))
 | .ite a b c,_=>wIf::(a.W 0++Zpn::(b.W 0++Zqn::(c.W 0++[Zii])))
def X.fit:X→Prop
 | .leaf _ num _=>num≤9223372036854775807
 | .un _ a=>a.fit
 | .bin _ a b=>a.fit∧b.fit
 | .ite a b c=>a.fit∧b.fit∧c.fit
theorem Z1z {op num:Int} {name:List UInt8} (h:(X.leaf op num name).ok=true):(op=1∧0≤num∧name=[])∨(op=2∧num=0∧isP name=2)∨(op=3∧num=0∧name=[])∨(op=4∧num=0∧name=[]):=by
 simp only [X.ok,Bool.and_eq_true,decide_eq_true_eq] at h;obtain ⟨h1,h2⟩:=h;unfold Zyd at h1
 split at h1
 ·cases h1
 rename_i h0;simp only [not_or,Int.not_lt] at h0
 split at h1
 ·simp only [Bool.and_eq_true,beq_iff_eq] at h1
  rename_i q;exact .inr (.inl ⟨q,h1⟩)
 ·rename_i q
  simp only [Bool.and_eq_true,beq_iff_eq,Bool.or_eq_true] at h1 q h0
  rcases h1.2 with q1 | q1
  ·exact .inl ⟨q1,h0.2.2,h1.1⟩
  ·by_cases o1:op=1
   ·exact .inl ⟨o1,h0.2.2,h1.1⟩
   ·by_cases o3:op=3
    ·exact .inr (.inr (.inl ⟨o3,q1,h1.1⟩))
    ·exact .inr (.inr (.inr ⟨by omega,q1,h1.1⟩))
theorem row_inj:∀ (x y:X) (k:Int),x.ok=true→y.ok=true→x.row k=y.row k→x=y:=by
 have last:∀ {a b:List XN} {m n:XN},a++[m]=b++[n]→a=b∧m=n:=by
  intro a b m n h;obtain ⟨q1,q2⟩:=List.append_inj' h rfl;exact ⟨q1,by simpa using q2⟩
 have body:∀ (x:X) (k:Int),∃ b,x.row k=b++[x.top k]:=fun x k=>by obtain ⟨b,h,_⟩:=x.row_top k;exact ⟨b,h⟩
 have opr:∀ (x:X) (k:Int),x.ok=true→match x with
   | .leaf op _ _=>1≤op∧op≤4
   | .un op _=>5≤op∧op≤6
   | .bin op _ _=>7≤op∧op≤21
   | .ite .. => True:=by
  intro x k h
  cases x with
  | leaf op num name=>rcases Z1z h with ⟨h,_⟩ | ⟨h,_⟩ | ⟨h,_⟩ | ⟨h,_⟩<;>(show 1≤op∧op≤4;omega)
  | un op a=>simp only [X.ok,Bool.and_eq_true,decide_eq_true_eq] at h;exact h.1
  | bin op a b=>simp only [X.ok,Bool.and_eq_true,decide_eq_true_eq] at h;exact h.1.1
  | ite=>trivial
 intro x
 induction x with
 | leaf op num name =>
  intro y k hx hy h;have o1:=opr _ k hx;have o2:=opr y k hy;obtain ⟨b,hb⟩:=body y k;rw [hb] at h;obtain ⟨_,ht⟩:=last (a:=[]) h
  cases y with
  | leaf op' num' name'=>simp only [X.top,XN.mk.injEq] at ht;obtain ⟨rfl,rfl,rfl,_⟩:=ht;rfl
  | un op' a'=>simp only [X.top,XN.mk.injEq] at ht o1 o2;omega
  | bin op' a' b'=>simp only [X.top,XN.mk.injEq] at ht o1 o2;omega
  | ite a' b' c'=>simp only [X.top,XN.mk.injEq] at ht o1 o2;omega
 | un op a iha =>
  intro y k hx hy h;have o1:=opr _ k hx;have o2:=opr y k hy
  cases y with
  | leaf op' num' name' =>
   have ht:=(last (b:=[]) h).2;simp only [XN.mk.injEq] at ht o1 o2;omega
  | un op' a' =>
   obtain ⟨hr,ht⟩:=last h;simp only [XN.mk.injEq] at ht;simp only [X.ok,Bool.and_eq_true] at hx hy;rw [iha a' k hx.2 hy.2 hr,ht.1]
  | bin op' a' b' =>
   have ht:=(last h).2;simp only [XN.mk.injEq] at ht o1 o2;omega
  | ite a' b' c' =>
   have ht:=(last h).2;simp only [XN.mk.injEq] at ht o1 o2;omega
 | bin op a b iha ihb =>
  intro y k hx hy h;have o1:=opr _ k hx;have o2:=opr y k hy
  cases y with
  | leaf op' num' name' =>
   have ht:=(last (b:=[]) h).2;simp only [XN.mk.injEq] at ht o1 o2;omega
  | un op' a' =>
   have ht:=(last h).2;simp only [XN.mk.injEq] at ht o1 o2;omega
  | bin op' a' b' =>
   obtain ⟨hr,ht⟩:=last h;simp only [XN.mk.injEq] at ht;simp only [X.ok,Bool.and_eq_true] at hx hy
   have hs:a.size=a'.size:=by omega
   obtain ⟨q1,q2⟩:=List.append_inj hr (by rw [X.row_len,X.row_len];exact hs);rw [← hs] at q2;rw [iha a' k hx.1.2 hy.1.2 q1,ihb b' _ hx.2 hy.2 q2,ht.1]
  | ite a' b' c' =>
   have ht:=(last h).2;simp only [XN.mk.injEq] at ht o1 o2;omega
 | ite a b c iha ihb ihc =>
  intro y k hx hy h;have o2:=opr y k hy
  cases y with
  | leaf op' num' name' =>
   have ht:=(last (b:=[]) h).2;simp only [XN.mk.injEq] at ht o2;omega
  | un op' a' =>
   have ht:=(last h).2;simp only [XN.mk.injEq] at ht o2;omega
  | bin op' a' b' =>
   have ht:=(last h).2;simp only [XN.mk.injEq] at ht o2;omega
  | ite a' b' c' =>
   obtain ⟨hr,ht⟩:=last h;simp only [XN.mk.injEq] at ht;simp only [X.ok,Bool.and_eq_true] at hx hy
   have hs:a.size=a'.size:=by omega
   have hs2:b.size=b'.size:=by omega
   obtain ⟨q1,q2⟩:=List.append_inj hr (by rw [List.length_append,List.length_append,X.row_len,X.row_len,X.row_len,X.row_len];omega);obtain ⟨q3,q4⟩:=List.append_inj q1 (by rw [X.row_len,X.row_len];exact hs);rw [← hs] at q4 q2;rw [← hs2] at q2;rw [iha a' k hx.1.1 hy.1.1 q3,ihb b' _ hx.1.2 hy.1.2 q4,ihc c' _ hx.2 hy.2 q2]
end Go.Hs
end

section
namespace Go.Hs
def ErrS (x:Bool × RS):Prop:=x.1=false→x.2.e≠0
theorem Zbc {x:Bool × RS} {k:RS→Bool × RS} (h1:ErrS x) (h2:x.1=true→ErrS (k x.2)):ErrS (andThen x k):=by
 obtain ⟨b,r⟩:=x;cases b
 ·exact h1
 ·exact h2 rfl
theorem ErrS.ok {x:RS}:ErrS (true,x):=fun h=>by cases h
theorem Zqm (l:List Tk) (w:List UInt8) (r:RS):ErrS (Z7e l w r):=by
 unfold Z7e
 split
 ·intro _;show (80:Int)≠0;decide
 ·exact .ok
theorem Zgt {l:List Tk}:∀ (f:Nat) (n:Int) (r:RS),l.length<f+r.i→r.i≤l.length→ErrS (Zw l f n r)
 | 0,n,r,h,h2=>by omega
 | f+1,n,r,h,h2=>by
  have hin:∀ n (r':RS),r.i<r'.i→r'.i≤l.length→ErrS (Zw l f n r'):=fun n r' a b=>Zgt f n r' (by omega) b;have hbs:=Z5d l f;rw [Zw];refine Zbc ?_ fun _=>?_
  ·have hkl:(Z5 l r.i).kind≠0→r.i+1≤l.length:=fun q=>Zxe q
   unfold Zla
   split
   ·unfold Zpc
    split
    ·rename_i q;intro _;exact q
    ·exact .ok
   split
   ·exact .ok
   split
   ·intro _;show (80:Int)≠0;decide
   rename_i k0;have hlt:=hkl k0
   split
   ·exact Zbc (hin 9 r.adv (Nat.lt_succ_self _) hlt) fun _ => .ok
   split
   ·exact Zbc (hin 1 r.adv (Nat.lt_succ_self _) hlt) fun _=>Zqm _ _ _
   split
   ·unfold Zua
    have b0:=Zmd l wIf r;refine Zbc (Zqm _ _ _) fun q1=>?_;have m1:=b0.2 q1
    have u1:r.i+1≤(Z7e l wIf r).2.i:=by
     unfold Z7e at q1 ⊢
     split at q1
     ·cases q1
     ·rename_i qq;rw [if_neg qq];exact Nat.le_refl _
    have i1:=m1.inn h2;generalize (Z7e l wIf r).2=r1 at u1 i1 ⊢;have b1:=hbs 1 r1;refine Zbc (hin 1 r1 u1 i1) fun _=>?_;have u2:=b1.up;have i2:=b1.inn i1;generalize (Zw l f 1 r1).2=a at u2 i2 ⊢;have b2:=(Zmd l Zpn a).1;refine Zbc (Zqm _ _ _) fun _=>?_;have u3:=b2.up;have i3:=b2.inn i2;generalize (Z7e l Zpn a).2=r2 at u3 i3 ⊢;have b3:=hbs 1 r2;refine Zbc (hin 1 r2 (by omega) i3) fun _=>?_;have u4:=b3.up;have i4:=b3.inn i3;generalize (Zw l f 1 r2).2=b at u4 i4 ⊢;have b4:=(Zmd l Zqn b).1;refine Zbc (Zqm _ _ _) fun _=>?_;have u5:=b4.up;have i5:=b4.inn i4;generalize (Z7e l Zqn b).2=r3 at u5 i5 ⊢;refine Zbc (hin 1 r3 (by omega) i5) fun _=>?_;exact Zbc (Zqm _ _ _) fun _ => .ok
   split
   ·exact .ok
   ·intro _;show (80:Int)≠0;decide
  ·have hb:=Zdk hbs r
   have u0:=hb.up;have i0:=hb.inn h2;generalize (Zla l (Zw l f) r).2=q at u0 i0 ⊢
   have key:∀ (m:Nat) (q:RS),r.i≤q.i→q.i≤l.length→ErrS (Z6b l (Zw l f) n m q):=by
    intro m
    induction m with
    | zero=>intro q _ _;exact .ok
    | succ m ih =>
     intro q hq hl;rw [Z6b]
     split
     ·exact .ok
     ·rename_i op ho
      split
      ·exact .ok
      ·have hb:=hbs (lvl op+1) q.adv
       have hlt:=Zyh ho;refine Zbc (hin _ q.adv (by show r.i<q.i+1;omega) hlt) fun _=>?_;refine ih _ ?_ ?_
       ·have:=hb.up
        show r.i≤_
        have h3:q.i+1≤_:=this;simp only [Zsj];omega
       ·simp only [Zsj];exact hb.inn hlt
   exact key _ q u0 i0
theorem Gr.size {n:Int} {ts:List (List UInt8)} {x:X} (h:Gr n ts x):x.size≤ts.length:=by
 induction h<;>simp only [X.size,List.length_cons,List.length_append,List.length_nil]<;>omega
theorem Gr.fit {n:Int} {ts:List (List UInt8)} {x:X} (h:Gr n ts x):x.fit:=by
 induction h with
 | @num n t v h1 h2 =>
  show v≤9223372036854775807
  have hp:(Zlc (Z2e t)).1≤9223372036854775807:=by
   have ht:∀ z:Int,(told z).1≤9223372036854775807:=by
    intro z;unfold told
    split
    ·rename_i q
     simp only [Zsb,decide_eq_true_eq] at q;exact q.2
    ·show (0:Int)≤_;decide
   generalize Z2e t=u;unfold Zlc;generalize (u.head? == some 45)=bl;cases bl
   ·simp only [Bool.false_eq_true,if_false]
    split
    ·show (0:Int)≤_;decide
    ·exact ht _
   ·simp only [if_true]
    split
    ·show (0:Int)≤_;decide
    ·exact ht _
  rw [h2] at hp;exact hp
 | name=>show (0:Int)≤_;decide
 | tr=>show (0:Int)≤_;decide
 | fa=>show (0:Int)≤_;decide
 | neg _ _ ih=>exact ih
 | not _ _ ih=>exact ih
 | par _ ih=>exact ih
 | bin _ _ _ _ _ i1 i2=>exact ⟨i1,i2⟩
 | ite _ _ _ i1 i2 i3=>exact ⟨i1,i2,i3⟩
theorem Zzy {s:List UInt8} {l:List Tk} (h:Z5b s=(l,0,0)):l.length≤s.length:=by
 have key:∀ {s:List UInt8} {ws:List (List UInt8)},Lx s ws→ws.length≤s.length:=by
  intro s ws h
  induction h with
  | nil=>exact Nat.zero_le _
  | @cons s ws k hb hk h0 h64 _ ih =>
   have hle:=Zjm (s.drop (blk s));rw [hk,List.length_drop] at hle;rw [List.length_drop,List.length_drop] at ih;simp only [List.length_cons];omega
 have:=key (Zb5 h);rwa [List.length_map] at this
end Go.Hs
end

section
namespace Go.Hs
open Go.Proofs
set_option maxRecDepth 10000
set_option maxHeartbeats 1000000
structure EvIn (s:Sl XN) (env:Sl (List UInt8 × Int)):Prop where
 hs:s.l.length<1000000
 hnm:∀ n∈s.l,n.name.length<100000
 hnum:∀ n∈s.l,Zsb n.num=true
 hv:env.l.length<1000000
 hf:∀ p∈env.l,Zsb p.2=true
theorem Zsz {x:X} (h:∀ n∈x.row 0,Zsb n.num=true):Zyg x:=by
 intro op num name hm;obtain ⟨b,hb⟩:=Zop hm;have ht:=hb.top;have:=h _ (List.mem_of_getElem? ht);exact this
theorem Zhh {l:List XN} (h:Zna l=0):∃ x:X,x.ok=true∧l=x.row 0:=by
 refine Zbo.1 ?_;rw [Zkv];unfold Zna at h
 split at h
 ·cases h
 ·rename_i h0;simpa using h0
open Classical in
noncomputable def evL (env:List (List UInt8 × Int)) (l:List XN):EV :=
 if h:Zna l=0 then evX env (Zhh h).choose else .err (Zna l)
theorem evL_err {env:List (List UInt8 × Int)} {l:List XN} (h:Zna l≠0):evL env l = .err (Zna l):=dif_neg h
theorem Zyp {env:List (List UInt8 × Int)} {x:X} (hx:x.ok=true) (h:Zna (x.row 0)=0):evL env (x.row 0)=evX env x:=by
 unfold evL;rw [dif_pos h];have hc:=(Zhh h).choose_spec;exact congrArg (evX env) (row_inj _ _ 0 hc.1 hx hc.2.symm)
theorem Z1v {env:List (List UInt8 × Int)} {l:List XN} {k:Int} (hnum:∀ n∈l,Zsb n.num=true):Zk4 env l k ((evL env l).need k):=by
 by_cases h:Zna l=0
 ·right
  obtain ⟨x,hx,rfl⟩:=Zhh h;exact ⟨h,x,hx,Zsz hnum,rfl,by rw [Zyp hx h]⟩
 ·left
  exact ⟨h,by rw [evL_err h]<;>rfl⟩
theorem Zsv (G:Nat→V) (hE:GExp G) (c c2:Col) (s:Sl XN) (env:Sl (List UInt8 × Int)) (h:EvIn s env):Spec Tryz.prog G 22 [.agg [Za c 6 Z3 s],Za c2 2 Zz env] Zk (fun v _=>v=Zr3 ((evL env.l s.l).need 1)):=by
 have hG:=hE.ok;refine Zo 0 17 [.tmp 4,.tmp 5] Tryz.func22 fun X=>?_;refine Z1 ?_;intro g2;refine Z ?_;refine Znf (zi @Zbb @Zls) hG ?_ (s:=(Z4z G hE c.ent c2.ent s h.hs h.hnm env h.hv h.hf 1 (by decide) _ (Z1v h.hnum)));simp -implicitDefEqProofs only[go_sem,seval,↓reduceIte,encVE,Z5e];intro g6;exact Zr
end Go.Hs
end
