/- Part 44 of a proof; no condition. -/
import Derived.Test.YtnjcehngoajnnaaGreatDoorPart39
import Derived.Test.YtnjcehngoajnnaaGreatDoorPart43
set_option linter.unusedSimpArgs false
set_option linter.unusedVariables false
section
namespace Go.Hs
theorem Z4ea {names:List (List UInt8)}:∀ (l:List X) (i:Int) (acc:List Int),(goX names l i acc).2.2=0→(∀ y∈l,Z5b names y≠0)∧goX names l i acc=(acc++l.map (Z5b names),0,0)
 | [],i,acc,_=>⟨fun y hy=>(by cases hy),by simp [goX]⟩
 | y::r,i,acc,h=>by
  rw [goX] at h ⊢
  by_cases h1:Z5b names y=0
  ·rw [if_pos h1] at h;cases h
  ·rw [if_neg h1] at h ⊢
   obtain ⟨h2,h3⟩:=Z4ea r (i+1) _ h;refine ⟨fun z hz=>?_,by rw [h3];simp⟩
   cases hz with
   | head=>exact h1
   | tail _ hz=>exact h2 z hz
theorem Z9t {x y:X} (h:y∈Zmc x):∃ b,Sub x y b:=by
 obtain ⟨i,hi,e⟩:=List.mem_iff_getElem.1 h;obtain ⟨z,b,h1,h2,h3,h4⟩:=Z27 x i (by rw [← Zvb];exact hi);rw [List.getElem?_eq_getElem hi,e] at h3;cases h3;exact ⟨b,h1⟩
theorem Sub.mem {x y:X} {b:Nat} (h:Sub x y b):y∈Zmc x:=List.mem_of_getElem? h.get
def Zfs (b:Int) (n:XN):XN:={ n with a:=max (-1) (n.a-b),b:=max (-1) (n.b-b),c:=max (-1) (n.c-b) }
theorem Z3f:∀ (y:X) (b c:Int),0≤b→0≤c→(y.row (b+c)).map (Zfs b)=y.row c
 | .leaf op num name,b,c,hb,hc=>by
  have:max (-1) (-1-b)=(-1:Int):=by omega
  simp only [X.row,List.map_cons,List.map_nil,Zfs,this]
 | .un op a,b,c,hb,hc=>by
  have e1:max (-1) (-1-b)=(-1:Int):=by omega
  have hp:=a.size_pos
  have e2:max (-1) (b+c+a.size-1-b)=c+a.size-1:=by omega
  simp only [X.row,List.map_append,List.map_cons,List.map_nil,Zfs,e1,e2,Z3f a b c hb hc]
 | .bin op x y,b,c,hb,hc=>by
  have e1:max (-1) (-1-b)=(-1:Int):=by omega
  have hp:=x.size_pos;have hp2:=y.size_pos
  have e2:max (-1) (b+c+x.size-1-b)=c+x.size-1:=by omega
  have e3:max (-1) (b+c+x.size+y.size-1-b)=c+x.size+y.size-1:=by omega
  have i2:=Z3f y b (c+x.size) hb (by omega);rw [← Int.add_assoc] at i2;simp only [X.row,List.map_append,List.map_cons,List.map_nil,Zfs,e1,e2,e3,Z3f x b c hb hc,i2]
 | .ite x y z,b,c,hb,hc=>by
  have hp:=x.size_pos;have hp2:=y.size_pos;have hp3:=z.size_pos
  have e2:max (-1) (b+c+x.size-1-b)=c+x.size-1:=by omega
  have e3:max (-1) (b+c+x.size+y.size-1-b)=c+x.size+y.size-1:=by omega
  have e4:max (-1) (b+c+x.size+y.size+z.size-1-b)=c+x.size+y.size+z.size-1:=by omega
  have i2:=Z3f y b (c+x.size) hb (by omega);rw [← Int.add_assoc] at i2;have i3:=Z3f z b (c+x.size+y.size) hb (by omega);rw [← Int.add_assoc,← Int.add_assoc] at i3;simp only [X.row,List.map_append,List.map_cons,List.map_nil,Zfs,e2,e3,e4,Z3f x b c hb hc,i2,i3]
theorem Sub.shift {x y:X} {b:Nat} (h:Sub x y b):(((x.row 0).drop b).take y.size).map (Zfs b)=y.row 0:=by
 obtain ⟨pre,post,e,hb⟩:=h.at (Z9h x);rw [Nat.zero_add] at hb e;have hl:(y.row ((b:Nat):Int)).length=y.size:=y.row_len _
 have ht:((x.row 0).drop b).take y.size=y.row (b:Nat):=by
  rw [e,List.append_assoc,← hb,List.drop_left,← hl,hb,List.take_left]
 rw [ht];have:=Z3f y b 0 (by omega) (by omega);rw [Int.add_zero] at this;exact this
theorem kd_two (nm:Bool) (a b c:Int):kd 2 nm a b c=if nm=true then 1 else 0:=by
 unfold kd
 cases nm<;>simp
def NmIn (x:X) (t:List UInt8):Prop:=∃ num,X.leaf 2 num t∈Zmc x
theorem NmIn.sub {x y:X} {b:Nat} (h:Sub x y b) {t:List UInt8} (ht:NmIn y t):NmIn x t:=by
 obtain ⟨n,q⟩:=ht;obtain ⟨c,hc⟩:=Z9t q;exact ⟨n,(h.trans hc).mem⟩
inductive EV where
 | err (e:Int)
 | num (n:Int)
 | tru (b:Bool)
 deriving DecidableEq,Inhabited
namespace EV
def kind:EV→Int
 | err _=>0
 | num _=>1
 | tru _=>2
def nm:EV→Int
 | num n=>n
 | _=>0
def tr:EV→Bool
 | tru b=>b
 | _=>false
def er:EV→Int
 | err e=>e
 | _=>0
def need (k:Int):EV→EV
 | err e=>err e
 | v=>if k≠0∧v.kind≠k then err 90 else v
def onN (f:Int→EV):EV→EV
 | err e=>err e
 | num n=>f n
 | tru _=>err 90
def onB (f:Bool→EV):EV→EV
 | err e=>err e
 | num _=>err 90
 | tru b=>f b
def ofR (r:Int × Int):EV:=if r.2=0 then num r.1 else err r.2
def fine:EV→Prop
 | err e=>e=60∨e=61∨e=90
 | num n=>Z2b n=true
 | tru _=>True
end EV
def Z0d (env:List (List UInt8 × Int)) (s:List UInt8):Option Int:=(env.find? fun p=>p.1==s).map (·.2)
def Z7k (op a b:Int):Int × Int :=
 if op=7 then Go.Hs.told (a * b) else if op=8 then divR a b else if op=9 then modR a b else if op=10 then Go.Hs.told (a+b) else Go.Hs.told (a-b)
def cmpV (op a b:Int):Bool:=if op=12 then decide (a<b) else if op=13 then decide (a≤b) else if op=14 then decide (a > b) else decide (a≥b)
def Zkm (op:Int):EV→EV→EV
 | .err e,_ => .err e
 | _,.err e => .err e
 | x,y=>if x.kind=y.kind then .tru ((x==y)==(op==16)) else .err 90
def Zys (op:Int) (x y:EV):EV:=x.onB fun a =>
 if op=18∧a=false then .tru false else if op=19∧a=true∨op=21∧a=false then .tru true
 else y.onB fun b => .tru (if op=20 then a != b else b)
def Z5e (op:Int) (x y:EV):EV :=
 if op≤11 then x.onN fun a=>y.onN fun b => .ofR (Z7k op a b)
 else if op≤15 then x.onN fun a=>y.onN fun b => .tru (cmpV op a b)
 else if op≤17 then Zkm op x y else Zys op x y
def Zzw (op:Int) (x:EV):EV:=if op=5 then x.onN fun a => .ofR (Go.Hs.told (-a)) else x.onB fun b => .tru (!b)
def Z6d (env:List (List UInt8 × Int)) (op num:Int) (name:List UInt8):EV :=
 if op=1 then .num num else if op=2 then (match Z0d env name with | some v => .num v | none => .err 90) else .tru (op==3)
def evX (env:List (List UInt8 × Int)):X→EV
 | .leaf op num name=>Z6d env op num name
 | .un op a=>Zzw op (evX env a)
 | .bin op a b=>Z5e op (evX env a) (evX env b)
 | .ite a b c=>(evX env a).onB fun t=>if t=true then evX env b else evX env c
theorem Z9g (x:Int):(EV.ofR (Go.Hs.told x)).fine:=by
 unfold Go.Hs.told EV.ofR
 by_cases h:Z2b x=true
 ·rw [if_pos h];exact h
 ·rw [if_neg h];exact .inl rfl
theorem Zwda (a b:Int):(EV.ofR (divR a b)).fine:=by
 unfold divR
 split
 ·exact .inr (.inl rfl)
 ·exact Z9g _
theorem Z7ca (a b:Int):(EV.ofR (modR a b)).fine:=by
 unfold modR
 split
 ·exact .inr (.inl rfl)
 ·exact Z9g _
theorem Zr6 (op a b:Int):(EV.ofR (Z7k op a b)).fine:=by
 unfold Z7k
 repeat' split
 all_goals first | exact Z9g _ | exact Zwda _ _ | exact Z7ca _ _
theorem Zrj {x:EV} {f:Int→EV} (h:x.fine) (hf:∀ n,Z2b n=true→(f n).fine):(x.onN f).fine:=by
 cases x with
 | err e=>exact h
 | num n=>exact hf n h
 | tru b=>exact .inr (.inr rfl)
theorem Zsj {x:EV} {f:Bool→EV} (h:x.fine) (hf:∀ n,(f n).fine):(x.onB f).fine:=by
 cases x with
 | err e=>exact h
 | num n=>exact .inr (.inr rfl)
 | tru b=>exact hf b
theorem Zw6 {op:Int} {x y:EV} (hx:x.fine) (hy:y.fine):(Zkm op x y).fine:=by
 cases x<;>cases y<;>simp only [Zkm]<;>first | exact hx | exact hy | (split<;>first | trivial | exact .inr (.inr rfl))
theorem Zq4 {op:Int} {x y:EV} (hx:x.fine) (hy:y.fine):(Z5e op x y).fine:=by
 unfold Z5e
 split
 ·exact Zrj hx fun a _=>Zrj hy fun b _=>Zr6 _ _ _
 split
 ·exact Zrj hx fun a _=>Zrj hy fun b _=>trivial
 split
 ·exact Zw6 hx hy
 ·refine Zsj hx fun a=>?_
  split
  ·trivial
  split
  ·trivial
  ·exact Zsj hy fun b=>trivial
theorem Zjy {env:List (List UInt8 × Int)} {s:List UInt8} {v:Int} (h:Z0d env s=some v):∃ p∈env,p.1=s∧p.2=v:=by
 unfold Z0d at h
 cases hf:env.find? (fun p=>p.1==s) with
 | none=>rw [hf] at h;cases h
 | some p =>
  rw [hf] at h;have:=List.find?_some hf;exact ⟨p,List.mem_of_find?_eq_some hf,by simpa using this,by simpa using h⟩
theorem Zl7 {n:XN} (h:Zod n=true):0≤n.num:=by
 unfold Zod at h
 split at h
 ·cases h
 ·rename_i h0;simp only [not_or,Int.not_lt] at h0;exact h0.2.2
theorem Zuda {env:List (List UInt8 × Int)} (he:∀ p∈env,Z2b p.2=true):∀ {x:X},x.ok=true→(∀ n∈x.row 0,Z2b n.num=true)→(evX env x).fine:=by
 have key:∀ (x:X),x.ok=true→(∀ op num name,X.leaf op num name∈Zmc x→Z2b num=true)→(evX env x).fine:=by
  intro x
  induction x with
  | leaf op num name =>
   intro h hn
   show (Z6d env op num name).fine
   unfold Z6d
   split
   ·exact hn op num name (by simp [Zmc])
   split
   ·cases hl:Z0d env name with
    | none=>exact .inr (.inr rfl)
    | some v =>
     obtain ⟨p,h1,_,h2⟩:=Zjy hl;exact h2 ▸ he p h1
   ·trivial
  | un op a ih =>
   intro h hn;simp only [X.ok,Bool.and_eq_true] at h;have ha:=ih h.2 fun o n nm hm=>hn o n nm (by simp [Zmc,hm])
   show (Zzw op (evX env a)).fine
   unfold Zzw
   split
   ·exact Zrj ha fun n _=>Z9g _
   ·exact Zsj ha fun n=>trivial
  | bin op a b iha ihb =>
   intro h hn;simp only [X.ok,Bool.and_eq_true] at h;exact Zq4 (iha h.1.2 fun o n nm hm=>hn o n nm (by simp [Zmc,hm])) (ihb h.2 fun o n nm hm=>hn o n nm (by simp [Zmc,hm]))
  | ite a b c iha ihb ihc =>
   intro h hn;simp only [X.ok,Bool.and_eq_true] at h;refine Zsj (iha h.1.1 fun o n nm hm=>hn o n nm (by simp [Zmc,hm])) fun t=>?_
   split
   ·exact ihb h.1.2 fun o n nm hm=>hn o n nm (by simp [Zmc,hm])
   ·exact ihc h.2 fun o n nm hm=>hn o n nm (by simp [Zmc,hm])
 intro x hx hn;refine key x hx fun op num name hm=>?_;obtain ⟨b,hb⟩:=Z9t hm;have ht:=hb.top;have:=hn _ (List.mem_of_getElem? ht);exact this
theorem ev_kind {env:List (List UInt8 × Int)}:∀ {x:X},x.ok=true→(∀ y∈Zmc x,Z5b (env.map (·.1)) y≠0) →
  (evX env x).kind=Z5b (env.map (·.1)) x∨evX env x = .err 60∨evX env x = .err 61:=by
 intro x
 induction x with
 | leaf op num name =>
  intro h hk;have hk:=hk (.leaf op num name) (by simp [Zmc]);simp only [X.ok,Bool.and_eq_true,decide_eq_true_eq] at h;have hr:=(Zke h.1).1;simp only at hr
  left
  simp only [Z5b] at hk ⊢
  show (Z6d env op num name).kind=_
  unfold Z6d
  by_cases h1:op=1
  ·subst h1;simp [EV.kind,kd]
  by_cases h2:op=2
  ·subst h2
   rw [kd_two] at hk ⊢
   have hc:(env.map (·.1)).contains name=true:=by
    apply Classical.byContradiction;intro hh;rw [if_neg hh] at hk;exact hk rfl
   rw [if_pos hc,if_neg (by decide),if_pos rfl];simp only [List.contains_eq_mem,List.mem_map,decide_eq_true_eq] at hc;obtain ⟨p,hp,rfl⟩:=hc
   cases hl:Z0d env p.1 with
   | some v=>rfl
   | none =>
    unfold Z0d at hl;rw [Option.map_eq_none_iff,List.find?_eq_none] at hl;exact absurd (by simp) (hl p hp)
  ·rw [if_neg h1,if_neg h2]
   simp only [EV.kind,kd];rw [if_neg (by simp [h1,h2]),if_pos (by omega)]
 | un op a ih =>
  intro h hk;simp only [X.ok,Bool.and_eq_true,decide_eq_true_eq] at h;have ha:=ih h.2 fun y hy=>hk y (by simp [Zmc,hy]);have hk:=hk (.un op a) (by simp [Zmc]);have hra:=Zwk (env.map (·.1)) a;simp only [Z5b] at hk ⊢
  show (Zzw op (evX env a)).kind=_∨Zzw op (evX env a)=_∨Zzw op (evX env a)=_
  unfold Zzw
  obtain h5 | h6:op=5∨op=6:=by omega
  ·subst h5
   rw [if_pos rfl];generalize Z5b (env.map (·.1)) a=ka at *
   have hka:ka=1:=by unfold kd at hk;simp at hk;exact hk
   subst hka
   rcases ha with h1 | h1 | h1
   ·generalize evX env a=v at *
    cases v with
    | num n =>
     simp only [EV.onN];have hf:=Z9g (-n);unfold Go.Hs.told EV.ofR at hf ⊢
     by_cases hfit:Z2b (-n)=true
     ·rw [if_pos hfit];left;simp [EV.kind,kd]
     ·rw [if_neg hfit];right;left;rfl
    | err e=>simp [EV.kind] at h1
    | tru b=>simp [EV.kind] at h1
   ·rw [h1];right;left;rfl
   ·rw [h1];right;right;rfl
  ·subst h6
   rw [if_neg (by decide)];generalize Z5b (env.map (·.1)) a=ka at *
   have hka:ka=2:=by unfold kd at hk;simp at hk;exact hk
   subst hka
   rcases ha with h1 | h1 | h1
   ·generalize evX env a=v at *
    cases v with
    | tru n=>left;simp [EV.onB,EV.kind,kd]
    | err e=>simp [EV.kind] at h1
    | num b=>simp [EV.kind] at h1
   ·rw [h1];right;left;rfl
   ·rw [h1];right;right;rfl
 | bin op a b iha ihb =>
  intro h hk;simp only [X.ok,Bool.and_eq_true,decide_eq_true_eq] at h;have ha:=iha h.1.2 fun y hy=>hk y (by simp [Zmc,hy]);have hb:=ihb h.2 fun y hy=>hk y (by simp [Zmc,hy]);have hk:=hk (.bin op a b) (by simp [Zmc]);simp only [Z5b] at hk ⊢
  show (Z5e op (evX env a) (evX env b)).kind=_∨Z5e op (evX env a) (evX env b)=_∨Z5e op (evX env a) (evX env b)=_
  generalize Z5b (env.map (·.1)) a=ka at *;generalize Z5b (env.map (·.1)) b=kb at *;generalize evX env a=v at *;generalize evX env b=u at *;unfold Z5e
  by_cases h11:op≤11
  ·rw [if_pos h11]
   obtain ⟨rfl,rfl⟩:ka=1∧kb=1:=by
    unfold kd at hk;rw [if_neg (by omega),if_neg (by omega)] at hk
    split at hk
    ·omega
    ·rw [if_neg (by omega),if_neg (by omega),if_neg (by omega)] at hk;exact absurd rfl hk
   have hkd:kd op ((env.map (·.1)).contains []) 1 1 0=1:=by
    unfold kd;rw [if_neg (by omega),if_neg (by omega),if_pos (by omega)]
   rw [hkd]
   rcases ha with h1 | h1 | h1
   ·cases v with
    | err e=>simp [EV.kind] at h1
    | tru b=>simp [EV.kind] at h1
    | num m =>
     rcases hb with h2 | h2 | h2
     ·cases u with
      | err e=>simp [EV.kind] at h2
      | tru b=>simp [EV.kind] at h2
      | num n =>
       simp only [EV.onN]
       have hq:(Z7k op m n).2=0∨(Z7k op m n).2=60∨(Z7k op m n).2=61:=by
        have ht:∀ x,(Go.Hs.told x).2=0∨(Go.Hs.told x).2=60∨(Go.Hs.told x).2=61:=by intro x;unfold Go.Hs.told;split<;>simp
        unfold Z7k divR modR
        repeat' split
        all_goals first | exact ht _ | exact .inr (.inr rfl)
       unfold EV.ofR
       rcases hq with q | q | q
       ·rw [if_pos q];exact .inl rfl
       ·rw [if_neg (by omega),q];exact .inr (.inl rfl)
       ·rw [if_neg (by omega),q];exact .inr (.inr rfl)
     ·rw [h2];exact .inr (.inl rfl)
     ·rw [h2];exact .inr (.inr rfl)
   ·rw [h1];exact .inr (.inl rfl)
   ·rw [h1];exact .inr (.inr rfl)
  rw [if_neg h11]
  by_cases h15:op≤15
  ·rw [if_pos h15]
   obtain ⟨rfl,rfl⟩:ka=1∧kb=1:=by
    unfold kd at hk;rw [if_neg (by omega),if_neg (by omega),if_neg (by omega)] at hk
    split at hk
    ·omega
    ·rw [if_neg (by omega),if_neg (by omega)] at hk;exact absurd rfl hk
   have hkd:kd op ((env.map (·.1)).contains []) 1 1 0=2:=by
    unfold kd;rw [if_neg (by omega),if_neg (by omega),if_neg (by omega),if_pos (by omega)]
   rw [hkd]
   rcases ha with h1 | h1 | h1
   ·cases v with
    | err e=>simp [EV.kind] at h1
    | tru b=>simp [EV.kind] at h1
    | num m =>
     rcases hb with h2 | h2 | h2
     ·cases u with
      | err e=>simp [EV.kind] at h2
      | tru b=>simp [EV.kind] at h2
      | num n=>exact .inl rfl
     ·rw [h2];exact .inr (.inl rfl)
     ·rw [h2];exact .inr (.inr rfl)
   ·rw [h1];exact .inr (.inl rfl)
   ·rw [h1];exact .inr (.inr rfl)
  rw [if_neg h15]
  by_cases h17:op≤17
  ·rw [if_pos h17]
   obtain ⟨rfl,h0⟩:ka=kb∧ka≠0:=by
    unfold kd at hk;rw [if_neg (by omega),if_neg (by omega),if_neg (by omega)] at hk
    split at hk
    ·omega
    ·rw [if_neg (by omega),if_neg (by omega)] at hk;exact absurd rfl hk
   have hkd:kd op ((env.map (·.1)).contains []) ka ka 0=2:=by
    unfold kd;rw [if_neg (by omega),if_neg (by omega),if_neg (by omega),if_pos (by omega)]
   rw [hkd]
   rcases ha with h1 | h1 | h1
   ·rcases hb with h2 | h2 | h2
    ·cases v<;>cases u<;>simp only [EV.kind] at h1 h2<;>first | omega | (left;simp [Zkm,EV.kind])
    ·rw [h2];cases v<;>simp only [EV.kind] at h1<;>first | omega | exact .inr (.inl rfl)
    ·rw [h2];cases v<;>simp only [EV.kind] at h1<;>first | omega | exact .inr (.inr rfl)
   ·rw [h1];exact .inr (.inl rfl)
   ·rw [h1];exact .inr (.inr rfl)
  rw [if_neg h17]
  obtain ⟨rfl,rfl⟩:ka=2∧kb=2:=by
   unfold kd at hk;rw [if_neg (by omega),if_neg (by omega),if_neg (by omega),if_neg (by omega)] at hk
   split at hk
   ·omega
   ·rw [if_neg (by omega)] at hk;exact absurd rfl hk
  have hkd:kd op ((env.map (·.1)).contains []) 2 2 0=2:=by
   unfold kd;rw [if_neg (by omega),if_neg (by omega),if_neg (by omega),if_neg (by omega),if_pos (by omega)]
  rw [hkd];unfold Zys
  rcases ha with h1 | h1 | h1
  ·cases v with
   | err e=>simp [EV.kind] at h1
   | num b=>simp [EV.kind] at h1
   | tru m =>
    simp only [EV.onB]
    split
    ·exact .inl rfl
    split
    ·exact .inl rfl
    rcases hb with h2 | h2 | h2
    ·cases u with
     | err e=>simp [EV.kind] at h2
     | num b=>simp [EV.kind] at h2
     | tru n=>exact .inl rfl
    ·rw [h2];exact .inr (.inl rfl)
    ·rw [h2];exact .inr (.inr rfl)
  ·rw [h1];exact .inr (.inl rfl)
  ·rw [h1];exact .inr (.inr rfl)
 | ite a b c iha ihb ihc =>
  intro h hk;simp only [X.ok,Bool.and_eq_true] at h;have ha:=iha h.1.1 fun y hy=>hk y (by simp [Zmc,hy]);have hb:=ihb h.1.2 fun y hy=>hk y (by simp [Zmc,hy]);have hc:=ihc h.2 fun y hy=>hk y (by simp [Zmc,hy]);have hk:=hk (.ite a b c) (by simp [Zmc]);simp only [Z5b] at hk ⊢
  obtain ⟨k1,k2⟩:Z5b (env.map (·.1)) a=2∧Z5b (env.map (·.1)) b=Z5b (env.map (·.1)) c:=by
   unfold kd at hk;rw [if_neg (by omega),if_neg (by omega),if_neg (by omega),if_neg (by omega),if_neg (by omega)] at hk
   split at hk
   ·omega
   ·exact absurd rfl hk
  have hkd:kd 22 ((env.map (·.1)).contains []) (Z5b (env.map (·.1)) a) (Z5b (env.map (·.1)) b) (Z5b (env.map (·.1)) c)=Z5b (env.map (·.1)) b:=by
   unfold kd;rw [if_neg (by omega),if_neg (by omega),if_neg (by omega),if_neg (by omega),if_neg (by omega),if_pos (by omega)]
  rw [hkd]
  have he:evX env (.ite a b c)=(evX env a).onB fun t=>if t=true then evX env b else evX env c:=rfl
  rw [he];rw [k1] at ha
  rcases ha with h1 | h1 | h1
  ·generalize evX env a=v at *
   cases v with
   | err e=>simp [EV.kind] at h1
   | num b=>simp [EV.kind] at h1
   | tru m =>
    cases m
    ·simp only [EV.onB,Bool.false_eq_true,if_false];rw [k2];exact hc
    ·simp only [EV.onB,if_true];exact hb
  ·rw [h1];exact .inr (.inl rfl)
  ·rw [h1];exact .inr (.inr rfl)
theorem Ztda {env env':List (List UInt8 × Int)}:∀ {x:X},(∀ t,NmIn x t→Z0d env t=Z0d env' t)→evX env x=evX env' x:=by
 intro x
 induction x with
 | leaf op num name =>
  intro h
  show Z6d env op num name=Z6d env' op num name
  unfold Z6d
  by_cases h2:op=2
  ·subst h2;rw [h name ⟨num,by simp [Zmc]⟩]
  ·rw [if_neg h2,if_neg h2]
 | un op a ih =>
  intro h
  show Zzw op _=Zzw op _
  rw [ih fun t ⟨n,ht⟩=>h t ⟨n,by simp [Zmc,ht]⟩]
 | bin op a b iha ihb =>
  intro h
  show Z5e op _ _=Z5e op _ _
  rw [iha fun t ⟨n,ht⟩=>h t ⟨n,by simp [Zmc,ht]⟩,ihb fun t ⟨n,ht⟩=>h t ⟨n,by simp [Zmc,ht]⟩]
 | ite a b c iha ihb ihc =>
  intro h
  show (evX env a).onB _=(evX env' a).onB _
  rw [iha fun t ⟨n,ht⟩=>h t ⟨n,by simp [Zmc,ht]⟩,ihb fun t ⟨n,ht⟩=>h t ⟨n,by simp [Zmc,ht]⟩,ihc fun t ⟨n,ht⟩=>h t ⟨n,by simp [Zmc,ht]⟩]
end Go.Hs
end

section
namespace Go.Hs
open Go.Proofs
set_option maxHeartbeats 1000000
set_option maxRecDepth 10000
@[go_sem] theorem EV.er_err (x:Int):(EV.err x).er=x:=rfl
@[go_sem] theorem EV.er_num (x:Int):(EV.num x).er=0:=rfl
@[go_sem] theorem EV.er_tru (x:Bool):(EV.tru x).er=0:=rfl
@[go_sem] theorem EV.nm_err (x:Int):(EV.err x).nm=0:=rfl
@[go_sem] theorem EV.nm_num (x:Int):(EV.num x).nm=x:=rfl
@[go_sem] theorem EV.nm_tru (x:Bool):(EV.tru x).nm=0:=rfl
@[go_sem] theorem EV.tr_err (x:Int):(EV.err x).tr=false:=rfl
@[go_sem] theorem EV.tr_num (x:Int):(EV.num x).tr=false:=rfl
@[go_sem] theorem EV.tr_tru (x:Bool):(EV.tru x).tr=x:=rfl
@[go_sem] theorem EV.kind_err (x:Int):(EV.err x).kind=0:=rfl
@[go_sem] theorem EV.kind_num (x:Int):(EV.num x).kind=1:=rfl
@[go_sem] theorem EV.kind_tru (x:Bool):(EV.tru x).kind=2:=rfl
def encEV (v:EV):V := .agg [.int .u8 v.kind,.int .i64 v.nm,.bool v.tr]
def Z71 (e:Int):V := .iface 152 (.agg [.int .i64 e])
def kpEV (x:EV):V→Heap→Prop:=fun v _=>∃ e,x = .err e∧v=Z71 e
def okEV (x:EV):V→Heap→Prop:=fun v _=>(∀ e,x ≠ .err e)∧v=encEV x
theorem Zg9 (v:V):mkIfV Tryz.prog 152 v=some (.iface 152 v):=by
 unfold mkIfV;rw [Tryz.underlying152]
theorem Z2e (G:Nat→V) (e:Int):SpecP Tryz.prog G (some fun v _=>e≠0∧v=Z71 e) 93 [.int .i64 e] Zm (fun v _=>e=0∧v = .tuple []):=by
 refine Zrb 0 7 [] Tryz.func93 rfl rfl rfl rfl fun X=>?_
 by_cases h0:e=0
 ·have h1:(e != 0)=false:=by simpa using h0
  refine Z1f h1 ?_;refine Ze (b:=false) zp (fun h=>by cases h) (fun _=>?_);refine Z0 ?_;refine Zmb ⟨h0,rfl⟩
 ·have h1:(e != 0)=true:=by simpa using h0
  refine Z1f h1 ?_;refine Ze (b:=true) zp (fun _=>?_) (fun h=>by cases h);refine Z1f @Zg9 ?_;exact ⟨h0,rfl⟩
theorem Z4d (G:Nat→V) (b:Bool):Spec Tryz.prog G 131 [.bool b] Zm (fun v _=>v=encEV (.tru b)):=by
 refine Zo 0 5 [.cell 2 34] Tryz.func131 fun X=>?_;refine Z1 ?_;intro g2;exact Zr
def Zpca (op:Int):Nat:=if op=7 then 154 else if op=8 then 155 else if op=9 then 156 else if op=10 then 157 else 158
def Z0da (op:Int):Nat:=if op=12 then 159 else if op=13 then 160 else if op=14 then 161 else 162
def fnV (f:Nat):V := .func (.func f) [] []
def Zeh:V := .mapv [.int .u8 7,.int .u8 8,.int .u8 9,.int .u8 10,.int .u8 11] [fnV 154,fnV 155,fnV 156,fnV 157,fnV 158]
def Zbi:V := .mapv [.int .u8 12,.int .u8 13,.int .u8 14,.int .u8 15] [fnV 159,fnV 160,fnV 161,fnV 162]
theorem Zzx (G:Nat→V):Spec Tryz.prog G 129 [] Zm (fun v _=>v=Zeh):=by
 refine Zo 0 3 [.tmp 0] Tryz.func129 fun X=>?_;refine Z1 ?_;refine Z5c zk ?_;simp -implicitDefEqProofs only[go_sem,seval,Zpi Tryz.underlying232 Tryz.underlying5,putV,Z9d,Zwp,Nat.le_refl,List.cons_append,List.nil_append];intro b;refine AW.weak (Zmn 1 [(0,Zeh)] [] zp (Nat.le_refl _) (by simp -implicitDefEqProofs only[go_sem,seval];exact .inr ⟨rfl,rfl⟩) trivial) ?_;exact Zr
theorem Znu (G:Nat→V):Spec Tryz.prog G 130 [] Zm (fun v _=>v=Zbi):=by
 refine Zo 0 3 [.tmp 0] Tryz.func130 fun X=>?_;refine Z1 ?_;refine Z5c zk ?_;simp -implicitDefEqProofs only[go_sem,seval,Zpi Tryz.underlying236 Tryz.underlying5,putV,Z9d,Zwp,Nat.le_refl,List.cons_append,List.nil_append];intro b;refine AW.weak (Zmn 1 [(0,Zbi)] [] zp (Nat.le_refl _) (by simp -implicitDefEqProofs only[go_sem,seval];exact .inr ⟨rfl,rfl⟩) trivial) ?_;exact Zr
def Zwc (m:List (List UInt8 × Int)):List V:=m.map fun p=>V.str p.1
def Zad (m:List (List UInt8 × Int)):List V:=m.map fun p=>V.int .i64 p.2
def lkV (c1 c2:Col) (sl:Sl XN) (m:List (List UInt8 × Int)):V := .view c1 (.agg [Za c2 6 Z8 sl,.mapv (Zwc m) (Zad m)])
@[go_sem] theorem recol_env (f:Col→Col) (m:List (List UInt8 × Int)):V.recol f (.mapv (Zwc m) (Zad m)) = .mapv (Zwc m) (Zad m):=by
 have h1:Z6a f (Zwc m)=Zwc m:=by rw [Z4];unfold Zwc;rw [List.map_map];exact List.map_congr_left fun p _=>rfl
 have h2:Z6a f (Zad m)=Zad m:=by rw [Z4];unfold Zad;rw [List.map_map];exact List.map_congr_left fun p _=>rfl
 simp only [V.recol,h1,h2]
theorem Zh4 (s:List UInt8):∀ m:List (List UInt8 × Int),Zei .string (.str s) (Zwc m) (Zad m)=some ((Z0d m s).map (V.int .i64))
 | []=>rfl
 | p::r=>by
  have ih:=Zh4 s r
  show (if s=p.1 then some (some (V.int .i64 p.2)) else Zei .string (.str s) (Zwc r) (Zad r))=_
  by_cases h:s=p.1
  ·rw [if_pos h]
   unfold Z0d;rw [List.find?_cons_of_pos (by simpa using h.symm)]
   try rfl
  ·rw [if_neg h,ih]
   unfold Z0d;rw [List.find?_cons_of_neg (by simpa using fun hh=>h hh.symm)]
theorem Z9ca (s:List UInt8) (m:List (List UInt8 × Int)):Z4l Tryz.prog 155 (.mapv (Zwc m) (Zad m)) (.str s) true=some (match Z0d m s with | some n => .tuple [.int .i64 n,.bool true] | none => .tuple [.int .i64 0,.bool false]):=by
 unfold Z4l;rw [Tryz.underlying155];simp only [Z11,Tryz.underlying9,Zh4]
 cases Z0d m s with
 | some n=>rfl
 | none=>rfl
theorem Z98 (G:Nat→V) (hG:GOk G) (c1 c2:Col) (sl:Sl XN) (m:List (List UInt8 × Int)) (s:List UInt8) :
  SpecP Tryz.prog G (some fun v _=>Z0d m s=none∧v=Z71 90) 132 [lkV c1 c2 sl m,.str s] Zm (fun v _=>∃ n,Z0d m s=some n∧v = .int .i64 n):=by
 refine Zrb 0 20 [.tmp 4] Tryz.func132 rfl rfl rfl rfl fun X=>?_;refine Z1 ?_;have hl:=Z9ca s m
 cases hm:Z0d m s with
 | some n =>
  rw [hm] at hl;refine Zf (zi @lkV.eq_1 hl) ?_;exact ⟨n,rfl,rfl⟩
 | none =>
  rw [hm] at hl;refine Z1f (zi @lkV.eq_1 hl) ?_;refine Z1 ?_;refine Ze rfl (fun h2=>?_) (fun h2=>?_)
  ·refine Z1 ?_
   refine Zba hG zk (Z2e G 90) rfl (fun v H' h=>by rw [h.2]<;>rfl) fun v H' h=>absurd h.1 (by decide)
  ·cases h2
theorem Zpd {x:EV} {e:Int} (f:Int→EV) (h:x.need 1 = .err e):x.onN f = .err e:=by
 cases x with
 | err e'=>exact h
 | num n=>simp [EV.need,EV.kind] at h
 | tru b=>simp [EV.need,EV.kind] at h;subst h;rfl
theorem Zvg {x:EV} (h:∀ e,x.need 1 ≠ .err e):∃ n,x = .num n:=by
 cases x with
 | err e'=>exact absurd rfl (h e')
 | num n=>exact ⟨n,rfl⟩
 | tru b=>exact absurd rfl (h 90)
theorem Zpc {x:EV} {e:Int} (f:Bool→EV) (h:x.need 2 = .err e):x.onB f = .err e:=by
 cases x with
 | err e'=>exact h
 | tru n=>simp [EV.need,EV.kind] at h
 | num b=>simp [EV.need,EV.kind] at h;subst h;rfl
theorem Zid {x:EV} (h:∀ e,x.need 2 ≠ .err e):∃ n,x = .tru n:=by
 cases x with
 | err e'=>exact absurd rfl (h e')
 | tru n=>exact ⟨n,rfl⟩
 | num b=>exact absurd rfl (h 90)
theorem Z9n (x:EV):x.need 0=x:=by cases x<;>rfl
theorem Zfq (n:Int):encEV (.num n) = .agg [.int .u8 1,.int .i64 n,.bool false]:=rfl
theorem Zfd (b:Bool):encEV (.tru b) = .agg [.int .u8 2,.int .i64 0,.bool b]:=rfl
theorem Z1e (n:Int):(EV.num n).need 1 = .num n:=rfl
theorem Zoc (b:Bool):(EV.tru b).need 2 = .tru b:=rfl
def Zhd (m:List (List UInt8 × Int)) (n:XN) (A B C:EV):EV :=
 if n.op≤4 then Z6d m n.op n.num n.name else if n.op≤6 then Zzw n.op A else if n.op≤21 then Z5e n.op A B else A.onB fun t=>if t=true then B else C
def OfC (G:Nat→V) (sl:Sl XN) (m:List (List UInt8 × Int)) (a:Int) (x:EV):Prop:=∀ c1 c2 (k:Int),0≤k∧k≤2→SpecP Tryz.prog G (some (kpEV (x.need k))) 67 [lkV c1 c2 sl m,.int .i64 a,.int .u8 k] Zm (okEV (x.need k))
theorem Z8ca {op:Int} (h:7≤op∧op≤11):Z4l Tryz.prog 232 Zeh (.int .u8 op) true=some (.tuple [fnV (Zpca op),.bool true]):=by
 obtain rfl | rfl | rfl | rfl | rfl:op=7∨op=8∨op=9∨op=10∨op=11:=by omega
 all_goals
  unfold Z4l;rw [Tryz.underlying232];simp only [Z11,Zeh,Tryz.underlying5];rfl
theorem Zqi {op:Int} (h:¬ (7≤op∧op≤11)):Z4l Tryz.prog 232 Zeh (.int .u8 op) true=some (.tuple [.nilf,.bool false]):=by
 unfold Z4l;rw [Tryz.underlying232];simp only [Z11,Zeh,Tryz.underlying5]
 have:Zei (.int .u8) (.int .u8 op) [.int .u8 7,.int .u8 8,.int .u8 9,.int .u8 10,.int .u8 11] [fnV 154,fnV 155,fnV 156,fnV 157,fnV 158]=some none:=by
  simp only [Zei,if_true]
  repeat rw [if_neg (by omega)]
 rw [this]
 try rfl
theorem Zada {op:Int} (h:12≤op∧op≤15):Z4l Tryz.prog 236 Zbi (.int .u8 op) true=some (.tuple [fnV (Z0da op),.bool true]):=by
 obtain rfl | rfl | rfl | rfl:op=12∨op=13∨op=14∨op=15:=by omega
 all_goals
  unfold Z4l;rw [Tryz.underlying236];simp only [Z11,Zbi,Tryz.underlying5];rfl
theorem Z3l {op:Int} (h:¬ (12≤op∧op≤15)):Z4l Tryz.prog 236 Zbi (.int .u8 op) true=some (.tuple [.nilf,.bool false]):=by
 unfold Z4l;rw [Tryz.underlying236];simp only [Z11,Zbi,Tryz.underlying5]
 have:Zei (.int .u8) (.int .u8 op) [.int .u8 12,.int .u8 13,.int .u8 14,.int .u8 15] [fnV 159,fnV 160,fnV 161,fnV 162]=some none:=by
  simp only [Zei,if_true]
  repeat rw [if_neg (by omega)]
 rw [this]
 try rfl
theorem Zfb {n:Int} (h:Z2b n=true):InK .i64 n:=by
 unfold Z2b at h;have h:=of_decide_eq_true h;exact h
theorem Zoca (G:Nat→V) (hG:GOk G) {op a b:Int} (h:7≤op∧op≤11) (ha:Z2b a=true) (hb:Z2b b=true):Z5g Tryz.prog G (Zpca op) [.int .i64 a,.int .i64 b] (encR (Z7k op a b)):=by
 have ha:=Zfb ha;have hb:=Zfb hb
 obtain rfl | rfl | rfl | rfl | rfl:op=7∨op=8∨op=9∨op=10∨op=11:=by omega
 ·exact ⟨by kernel_rfl,(Zb9 G hG a b ha hb).mono fun v _ hv=>by subst hv;rfl⟩
 ·exact ⟨by kernel_rfl,(Zd9 G hG a b ha hb).mono fun v _ hv=>by subst hv;rfl⟩
 ·exact ⟨by kernel_rfl,(Zc9 G hG a b ha hb).mono fun v _ hv=>by subst hv;rfl⟩
 ·exact ⟨by kernel_rfl,(Ze9 G hG a b ha hb).mono fun v _ hv=>by subst hv;rfl⟩
 ·exact ⟨by kernel_rfl,(Zdy G hG a b ha hb).mono fun v _ hv=>by subst hv;rfl⟩
theorem lt_spec (G:Nat→V) (a b:Int):Spec Tryz.prog G 159 [.int .i64 a,.int .i64 b] Zm (fun v _=>v = .bool (decide (a<b))):=by
 refine Zo 0 8 [.tmp 4] Tryz.func159 fun X=>?_;exact Zr
theorem le_spec (G:Nat→V) (a b:Int):Spec Tryz.prog G 160 [.int .i64 a,.int .i64 b] Zm (fun v _=>v = .bool (decide (a≤b))):=by
 refine Zo 0 8 [.tmp 4] Tryz.func160 fun X=>?_;exact Zr
theorem gt_spec (G:Nat→V) (a b:Int):Spec Tryz.prog G 161 [.int .i64 a,.int .i64 b] Zm (fun v _=>v = .bool (decide (a > b))):=by
 refine Zo 0 8 [.tmp 4] Tryz.func161 fun X=>?_;exact Zr
theorem ge_spec (G:Nat→V) (a b:Int):Spec Tryz.prog G 162 [.int .i64 a,.int .i64 b] Zm (fun v _=>v = .bool (decide (a≥b))):=by
 refine Zo 0 8 [.tmp 4] Tryz.func162 fun X=>?_;exact Zr
theorem Zzda (G:Nat→V) {op a b:Int} (h:12≤op∧op≤15):Z5g Tryz.prog G (Z0da op) [.int .i64 a,.int .i64 b] (.bool (cmpV op a b)):=by
 obtain rfl | rfl | rfl | rfl:op=12∨op=13∨op=14∨op=15:=by omega
 ·exact ⟨by kernel_rfl,(lt_spec G a b).mono fun v _ hv=>by subst hv;rfl⟩
 ·exact ⟨by kernel_rfl,(le_spec G a b).mono fun v _ hv=>by subst hv;rfl⟩
 ·exact ⟨by kernel_rfl,(gt_spec G a b).mono fun v _ hv=>by subst hv;rfl⟩
 ·exact ⟨by kernel_rfl,(ge_spec G a b).mono fun v _ hv=>by subst hv;rfl⟩
theorem Z7g (G:Nat→V) (b:Bool):Z5g Tryz.prog G 131 [.bool b] (encEV (.tru b)):=⟨by kernel_rfl,(Z4d G b).mono fun v _ hv=>by subst hv;rfl⟩
theorem Z0m (G:Nat→V):Z5g Tryz.prog G 129 [] Zeh:=⟨by kernel_rfl,(Zzx G).mono fun v _ hv=>by subst hv;rfl⟩
theorem Zlq (G:Nat→V):Z5g Tryz.prog G 130 [] Zbi:=⟨by kernel_rfl,(Znu G).mono fun v _ hv=>by subst hv;rfl⟩
theorem Zh7 (G:Nat→V) (hG:GOk G) (c1 c2:Col) (sl:Sl XN) (m:List (List UInt8 × Int)) (n:XN) (A B C:EV) (ho:7≤n.op∧n.op≤11) (hA:OfC G sl m n.a A) (hB:OfC G sl m n.b B) (fA:A.fine) (fB:B.fine) :
  SpecP Tryz.prog G (some (kpEV (Zhd m n A B C))) 92 [lkV c1 c2 sl m,Z8 n] Zm (okEV (Zhd m n A B C)):=by
 have hN:Zhd m n A B C=A.onN fun a=>B.onN fun b => .ofR (Z7k n.op a b):=by
  unfold Zhd Z5e;rw [if_neg (by omega),if_neg (by omega),if_pos (by omega),if_pos (by omega)]
 rw [hN];refine Zrb 0 200 [.cell 4 34] Tryz.func92 rfl rfl rfl rfl fun X=>?_;refine Z1f (zi @Zp @lkV.eq_1) ?_;intro g3 g4;refine AW.weak (Zz (fun o=>o==3) (l:=[(0,.view c1 (.agg [Za c2 6 Z8 sl,.mapv (Zwc m) (Zad m)])),(3,.view .new (.agg [.int .u8 n.op,.int .i64 n.num,.str n.name,.int .i64 n.a,.int .i64 n.b,.int .i64 n.c])),(4,.ptr 4 g4 0)]) (m:=[(4,.cells .new g4 0 [.int .u8 0,.int .i64 0,.bool false])]) ?_ ?_) ?_
 ·refine Zsf (zi @Zp @lkV.eq_1) ?_
  exact ⟨Zd _,Fz.ptr (v := .agg [.int .u8 n.op,.int .i64 n.num,.str n.name,.int .i64 n.a,.int .i64 n.b,.int .i64 n.c]) (c := .new) (fz:=0) rfl zp,Zd _⟩
 ·simp only [Zl,Zt,and_true]
  exact FzO.keep rfl zp
 refine Z5 ?_
 refine Z5 <| Zy ⟨fun i=>if i=0 then Zeh else .top,fun i=>if i=2 then .lend else .pure⟩ zk hG zk zk ?_
 simp -implicitDefEqProofs only[go_sem,seval,Z8ca ho,Z0m];refine Z1 ?_;refine Zog rfl ?_;refine AW.weak (Zb (l:=[(0,.view c1 (.agg [Za c2 6 Z8 sl,.mapv (Zwc m) (Zad m)])),(3,.view .new (.agg [.int .u8 n.op,.int .i64 n.num,.str n.name,.int .i64 n.a,.int .i64 n.b,.int .i64 n.c])),(4,.ptr 4 g4 0),(5,fnV (Zpca n.op))]) (m:=[(4,.cells .new g4 0 [.int .u8 0,.int .i64 0,.bool false])]) zp zp) ?_;refine Z1 ?_;refine Zba hG zk (hA c1.ent c2.ent 1 (by decide)) (zpf @lkV.eq_1) ?_ ?_
 ·rintro v H' ⟨e,he,rfl⟩
  exact ⟨e,Zpd _ he,rfl⟩
 rintro v H' ⟨hne,rfl⟩;obtain ⟨a,rfl⟩:=Zvg hne;rw [Z1e,Zfq];refine Zs ?_;intro g7;refine AW.weak (Zz (fun o=>o==7) (l:=[(0,.view c1 (.agg [Za c2 6 Z8 sl,.mapv (Zwc m) (Zad m)])),(3,.view .new (.agg [.int .u8 n.op,.int .i64 n.num,.str n.name,.int .i64 n.a,.int .i64 n.b,.int .i64 n.c])),(4,.ptr 4 g4 0),(5,fnV (Zpca n.op)),(7,.view .new (.agg [.int .u8 1,.int .i64 a,.bool false]))]) (m:=[(4,.cells .new g4 0 [.int .u8 0,.int .i64 0,.bool false])]) ?_ ?_) ?_
 ·refine Zs ?_
  refine ⟨Zd _,Zd _,Zd _,Zd _,?_⟩;exact Fz.ptr (v := .agg [.int .u8 1,.int .i64 a,.bool false]) (c := .new) (fz:=0) rfl zp
 ·simp only [Zl,Zt,and_true]
  exact FzO.keep rfl zp
 by_cases hBe:∃ e,B.need 1 = .err e
 ·obtain ⟨e,he⟩:=hBe
  refine Z5 <| Zy ⟨fun _ => .top,fun i=>if i=2 then .lend else if i=5 then .lend else if i=6 then .any else .pure⟩ zk hG zk zk ?_
  refine Zs ?_;refine Zba hG zk (hB c1.ent c2.ent 1 (by decide)) (zpf @lkV.eq_1) ?_ fun v H' h=>absurd he (h.1 e);rintro v H' ⟨e,he,rfl⟩;exact ⟨e,(show B.onN _ = .err e from Zpd _ he),rfl⟩
 have hBe:=fun e he=>hBe ⟨e,he⟩;obtain ⟨b,rfl⟩:=Zvg hBe
 refine Z5 <| Zy ⟨fun i=>if i=8 then encR (Z7k n.op a b) else .top,fun i=>if i=2 then .lend else if i=5 then .lend else if i=6 then .any else .pure⟩ zk hG zk zk ?_
 refine Zs ?_;refine Zba hG zk (hB c1.ent c2.ent 1 (by decide)) (zpf @lkV.eq_1) (fun v H' ⟨e,he,_⟩=>absurd he (hBe e)) ?_;rintro v H' ⟨_,rfl⟩;rw [Z1e,Zfq];refine Zsf (zi @fnV.eq_1 @encR.eq_1) ?_;refine ⟨Zoca G hG ho fA fB,?_⟩;refine AW.weak (Zb (l:=[(4,.ptr 4 g4 0),(8,.int .i64 (Z7k n.op a b).1),(9,.int .i64 (Z7k n.op a b).2)]) (m:=[(4,.cells .new g4 0 [.int .u8 0,.int .i64 0,.bool false])]) zp zp) ?_;generalize hr:Z7k n.op a b=r
 have hR:(EV.num a).onN (fun a=>(EV.num b).onN fun b => .ofR (Z7k n.op a b))=if r.2=0 then .num r.1 else .err r.2:=by simp only [EV.onN,EV.ofR,hr]
 rw [hR];generalize hv:(if r.2=0 then EV.num r.1 else .err r.2)=v0;refine Z1 ?_;refine Zba hG zk (Z2e G r.2) rfl ?_ ?_
 ·rintro v H' ⟨h0,rfl⟩
  exact ⟨r.2,by rw [← hv,if_neg h0],rfl⟩
 rintro v H' ⟨h0,rfl⟩;rw [if_pos h0] at hv;refine Zs ?_;refine Z ?_;subst hv;exact ⟨(fun e h=>by cases h),rfl⟩
theorem Zj7 (G:Nat→V) (hG:GOk G) (c1 c2:Col) (sl:Sl XN) (m:List (List UInt8 × Int)) (n:XN) (A B C:EV) (ho:12≤n.op∧n.op≤15) (hA:OfC G sl m n.a A) (hB:OfC G sl m n.b B) :
  SpecP Tryz.prog G (some (kpEV (Zhd m n A B C))) 92 [lkV c1 c2 sl m,Z8 n] Zm (okEV (Zhd m n A B C)):=by
 have hN:Zhd m n A B C=A.onN fun a=>B.onN fun b => .tru (cmpV n.op a b):=by
  unfold Zhd Z5e;rw [if_neg (by omega),if_neg (by omega),if_pos (by omega),if_neg (by omega),if_pos (by omega)]
 rw [hN];refine Zrb 0 200 [.cell 4 34] Tryz.func92 rfl rfl rfl rfl fun X=>?_;refine Z1f (zi @Zp @lkV.eq_1) ?_;intro g3 g4;refine AW.weak (Zz (fun o=>o==3) (l:=[(0,.view c1 (.agg [Za c2 6 Z8 sl,.mapv (Zwc m) (Zad m)])),(3,.view .new (.agg [.int .u8 n.op,.int .i64 n.num,.str n.name,.int .i64 n.a,.int .i64 n.b,.int .i64 n.c])),(4,.ptr 4 g4 0)]) (m:=[(4,.cells .new g4 0 [.int .u8 0,.int .i64 0,.bool false])]) ?_ ?_) ?_
 ·refine Zsf (zi @Zp @lkV.eq_1) ?_
  exact ⟨Zd _,Fz.ptr (v := .agg [.int .u8 n.op,.int .i64 n.num,.str n.name,.int .i64 n.a,.int .i64 n.b,.int .i64 n.c]) (c := .new) (fz:=0) rfl zp,Zd _⟩
 ·simp only [Zl,Zt,and_true]
  exact FzO.keep rfl zp
 refine Z5 ?_
 refine Z5 <| Zy ⟨fun i=>if i=0 then Zeh else .top,fun i=>if i=2 then .lend else .pure⟩ zk hG zk zk ?_
 simp -implicitDefEqProofs only[go_sem,seval,Zqi (op:=n.op) (by omega),Z0m];refine Z1 ?_;refine Z0 ?_;refine Z5 ?_
 refine Z5 <| Zy ⟨fun i=>if i=0 then Zbi else .top,fun i=>if i=2 then .lend else .pure⟩ zk hG zk zk ?_
 simp -implicitDefEqProofs only[go_sem,seval,Zada ho,Zlq];refine Z1 ?_;refine Zog rfl ?_;refine AW.weak (Zb (l:=[(0,.view c1 (.agg [Za c2 6 Z8 sl,.mapv (Zwc m) (Zad m)])),(3,.view .new (.agg [.int .u8 n.op,.int .i64 n.num,.str n.name,.int .i64 n.a,.int .i64 n.b,.int .i64 n.c])),(4,.ptr 4 g4 0),(10,fnV (Z0da n.op))]) (m:=[(4,.cells .new g4 0 [.int .u8 0,.int .i64 0,.bool false])]) zp zp) ?_;refine Z1 ?_;refine Zba hG zk (hA c1.ent c2.ent 1 (by decide)) (zpf @lkV.eq_1) ?_ ?_
 ·rintro v H' ⟨e,he,rfl⟩
  exact ⟨e,Zpd _ he,rfl⟩
 rintro v H' ⟨hne,rfl⟩;obtain ⟨a,rfl⟩:=Zvg hne;rw [Z1e,Zfq];refine Zs ?_;intro g12;refine AW.weak (Zz (fun o=>o==12) (l:=[(0,.view c1 (.agg [Za c2 6 Z8 sl,.mapv (Zwc m) (Zad m)])),(3,.view .new (.agg [.int .u8 n.op,.int .i64 n.num,.str n.name,.int .i64 n.a,.int .i64 n.b,.int .i64 n.c])),(4,.ptr 4 g4 0),(10,fnV (Z0da n.op)),(12,.view .new (.agg [.int .u8 1,.int .i64 a,.bool false]))]) (m:=[(4,.cells .new g4 0 [.int .u8 0,.int .i64 0,.bool false])]) ?_ ?_) ?_
 ·refine Zs ?_
  refine ⟨Zd _,Zd _,Zd _,Zd _,?_⟩;exact Fz.ptr (v := .agg [.int .u8 1,.int .i64 a,.bool false]) (c := .new) (fz:=0) rfl zp
 ·simp only [Zl,Zt,and_true]
  exact FzO.keep rfl zp
 by_cases hBe:∃ e,B.need 1 = .err e
 ·obtain ⟨e,he⟩:=hBe
  refine Z5 <| Zy ⟨fun _ => .top,fun i=>if i=2 then .lend else if i=5 then .lend else if i=6 then .any else .pure⟩ zk hG zk zk ?_
  refine Zs ?_;refine Zba hG zk (hB c1.ent c2.ent 1 (by decide)) (zpf @lkV.eq_1) ?_ fun v H' h=>absurd he (h.1 e);rintro v H' ⟨e,he,rfl⟩;exact ⟨e,(show B.onN _ = .err e from Zpd _ he),rfl⟩
 have hBe:=fun e he=>hBe ⟨e,he⟩;obtain ⟨b,rfl⟩:=Zvg hBe
 refine Z5 <| Zy ⟨fun i=>if i=8 then .bool (cmpV n.op a b) else if i=9 then encEV (.tru (cmpV n.op a b)) else .top,fun i=>if i=2 then .lend else if i=5 then .lend else if i=6 then .any else .pure⟩ zk hG zk zk ?_
 refine Zs ?_;refine Zba hG zk (hB c1.ent c2.ent 1 (by decide)) (zpf @lkV.eq_1) (fun v H' ⟨e,he,_⟩=>absurd he (hBe e)) ?_;rintro v H' ⟨_,rfl⟩;rw [Z1e,Zfq,Zfd];refine Zsf @fnV.eq_1 ?_;refine ⟨Zzda G ho,Z7g G _,?_⟩;refine Z ?_;exact ⟨(fun e h=>by cases h),rfl⟩
theorem Z04 (G:Nat→V) (hG:GOk G) (c1 c2:Col) (sl:Sl XN) (m:List (List UInt8 × Int)) (n:XN) (A B C:EV) (ho:1≤n.op∧n.op≤4) :
  SpecP Tryz.prog G (some (kpEV (Zhd m n A B C))) 92 [lkV c1 c2 sl m,Z8 n] Zm (okEV (Zhd m n A B C)):=by
 have hN:Zhd m n A B C=Z6d m n.op n.num n.name:=by unfold Zhd;rw [if_pos (by omega)]
 rw [hN];refine Zrb 0 200 [.cell 4 34] Tryz.func92 rfl rfl rfl rfl fun X=>?_;refine Z1f (zi @Zp @lkV.eq_1) ?_;intro g3 g4;refine AW.weak (Zz (fun o=>o==3) (l:=[(0,.view c1 (.agg [Za c2 6 Z8 sl,.mapv (Zwc m) (Zad m)])),(3,.view .new (.agg [.int .u8 n.op,.int .i64 n.num,.str n.name,.int .i64 n.a,.int .i64 n.b,.int .i64 n.c])),(4,.ptr 4 g4 0)]) (m:=[(4,.cells .new g4 0 [.int .u8 0,.int .i64 0,.bool false])]) ?_ ?_) ?_
 ·refine Zsf (zi @Zp @lkV.eq_1) ?_
  exact ⟨Zd _,Fz.ptr (v := .agg [.int .u8 n.op,.int .i64 n.num,.str n.name,.int .i64 n.a,.int .i64 n.b,.int .i64 n.c]) (c := .new) (fz:=0) rfl zp,Zd _⟩
 ·simp only [Zl,Zt,and_true]
  exact FzO.keep rfl zp
 refine Zx fun K1 hK1=>?_
 refine Z5 <| Zy ⟨fun i=>if i=0 then Zeh else .top,fun i=>if i=2 then .lend else .pure⟩ zk hG zk zk ?_
 simp -implicitDefEqProofs only[go_sem,seval,Zqi (op:=n.op) (by omega),Z0m];refine Z1 ?_;refine Z0 ?_;refine hK1 _ ?_
 try clear hK1 K1
 refine Zx fun K1 hK1=>?_
 refine Z5 <| Zy ⟨fun i=>if i=0 then Zbi else .top,fun i=>if i=2 then .lend else .pure⟩ zk hG zk zk ?_
 simp -implicitDefEqProofs only[go_sem,seval,Z3l (op:=n.op) (by omega),Zlq];refine Z1 ?_;refine Z0 ?_;refine hK1 _ ?_
 try clear hK1 K1
 refine AW.weak (Zb (l:=[(0,.view c1 (.agg [Za c2 6 Z8 sl,.mapv (Zwc m) (Zad m)])),(3,.view .new (.agg [.int .u8 n.op,.int .i64 n.num,.str n.name,.int .i64 n.a,.int .i64 n.b,.int .i64 n.c])),(4,.ptr 4 g4 0)]) (m:=[(4,.cells .new g4 0 [.int .u8 0,.int .i64 0,.bool false])]) zp zp) ?_;obtain ⟨op,num,name,na,nb,nc⟩:=n;simp only at ho ⊢
 obtain rfl | rfl | rfl | rfl:op=1∨op=2∨op=3∨op=4:=by omega
 ·refine Z ?_
  exact ⟨(fun e h=>by cases h),rfl⟩
 ·refine Z ?_
  refine Zba hG zk (Z98 G hG c1.ent c2.ent sl m name) (zpf @lkV.eq_1) ?_ ?_
  ·rintro v H' ⟨h0,rfl⟩
   exact ⟨90,by unfold Z6d;rw [h0]<;>rfl,rfl⟩
  rintro v H' ⟨k,h0,rfl⟩;refine Zs ?_;refine Z ?_
  have hv:Z6d m 2 num name = .num k:=by unfold Z6d;rw [h0]<;>rfl
  rw [hv];exact ⟨(fun e h=>by cases h),rfl⟩
 ·refine Z ?_
  refine Zie (CallA.pure hG zk ?_);refine Zs ?_;refine (Z4d G _).mono ?_;rintro _ _ rfl;rw [Zfd];refine Zs ?_;refine Z ?_;exact ⟨(fun e h=>by cases h),rfl⟩
 ·refine Z ?_
  refine Zie (CallA.pure hG zk ?_);refine Zs ?_;refine (Z4d G _).mono ?_;rintro _ _ rfl;rw [Zfd];refine Zs ?_;refine Z ?_;exact ⟨(fun e h=>by cases h),rfl⟩
theorem Zi7 (G:Nat→V) (hG:GOk G) (c1 c2:Col) (sl:Sl XN) (m:List (List UInt8 × Int)) (n:XN) (A B C:EV) (ho:n.op=5) (hA:OfC G sl m n.a A) (fA:A.fine) :
  SpecP Tryz.prog G (some (kpEV (Zhd m n A B C))) 92 [lkV c1 c2 sl m,Z8 n] Zm (okEV (Zhd m n A B C)):=by
 have hN:Zhd m n A B C=A.onN fun a => .ofR (Go.Hs.told (-a)):=by unfold Zhd Zzw;rw [if_neg (by omega),if_pos (by omega),if_pos ho]
 rw [hN];refine Zrb 0 200 [.cell 4 34] Tryz.func92 rfl rfl rfl rfl fun X=>?_;refine Z1f (zi @Zp @lkV.eq_1) ?_;intro g3 g4;refine AW.weak (Zz (fun o=>o==3) (l:=[(0,.view c1 (.agg [Za c2 6 Z8 sl,.mapv (Zwc m) (Zad m)])),(3,.view .new (.agg [.int .u8 n.op,.int .i64 n.num,.str n.name,.int .i64 n.a,.int .i64 n.b,.int .i64 n.c])),(4,.ptr 4 g4 0)]) (m:=[(4,.cells .new g4 0 [.int .u8 0,.int .i64 0,.bool false])]) ?_ ?_) ?_
 ·refine Zsf (zi @Zp @lkV.eq_1) ?_
  exact ⟨Zd _,Fz.ptr (v := .agg [.int .u8 n.op,.int .i64 n.num,.str n.name,.int .i64 n.a,.int .i64 n.b,.int .i64 n.c]) (c := .new) (fz:=0) rfl zp,Zd _⟩
 ·simp only [Zl,Zt,and_true]
  exact FzO.keep rfl zp
 refine Zx fun K1 hK1=>?_
 refine Z5 <| Zy ⟨fun i=>if i=0 then Zeh else .top,fun i=>if i=2 then .lend else .pure⟩ zk hG zk zk ?_
 simp -implicitDefEqProofs only[go_sem,seval,Zqi (op:=n.op) (by omega),Z0m];refine Z1 ?_;refine Z0 ?_;refine hK1 _ ?_
 try clear hK1 K1
 refine Zx fun K1 hK1=>?_
 refine Z5 <| Zy ⟨fun i=>if i=0 then Zbi else .top,fun i=>if i=2 then .lend else .pure⟩ zk hG zk zk ?_
 simp -implicitDefEqProofs only[go_sem,seval,Z3l (op:=n.op) (by omega),Zlq];refine Z1 ?_;refine Z0 ?_;refine hK1 _ ?_
 try clear hK1 K1
 refine AW.weak (Zb (l:=[(0,.view c1 (.agg [Za c2 6 Z8 sl,.mapv (Zwc m) (Zad m)])),(3,.view .new (.agg [.int .u8 n.op,.int .i64 n.num,.str n.name,.int .i64 n.a,.int .i64 n.b,.int .i64 n.c])),(4,.ptr 4 g4 0)]) (m:=[(4,.cells .new g4 0 [.int .u8 0,.int .i64 0,.bool false])]) zp zp) ?_;obtain ⟨op,num,name,na,nb,nc⟩:=n;simp only at ho hA ⊢;subst ho;refine Z ?_;refine Zba hG zk (hA c1.ent c2.ent 1 (by decide)) (zpf @lkV.eq_1) ?_ ?_
 ·rintro v H' ⟨e,he,rfl⟩
  exact ⟨e,Zpd _ he,rfl⟩
 rintro v H' ⟨hne,rfl⟩;obtain ⟨a,rfl⟩:=Zvg hne;rw [Z1e,Zfq];refine Zs ?_;refine Zie (CallA.pure hG zk ?_);refine Zs ?_;refine (Za9 G hG a (Zfb fA)).mono ?_;rintro _ _ rfl;refine Zsf @encR.eq_1 ?_;generalize hr:Go.Hs.told (-a)=r
 have hR:(EV.num a).onN (fun a=>EV.ofR (Go.Hs.told (-a)))=if r.2=0 then .num r.1 else .err r.2:=by simp only [EV.onN,EV.ofR,hr]
 rw [hR];generalize hv:(if r.2=0 then EV.num r.1 else .err r.2)=v0;refine Z ?_;refine Zba hG zk (Z2e G r.2) rfl ?_ ?_
 ·rintro v H' ⟨h0,rfl⟩
  exact ⟨r.2,by rw [← hv,if_neg h0],rfl⟩
 rintro v H' ⟨h0,rfl⟩;rw [if_pos h0] at hv;refine Zs ?_;refine Z ?_;subst hv;exact ⟨(fun e h=>by cases h),rfl⟩
theorem Zvm (G:Nat→V) (hG:GOk G) (c1 c2:Col) (sl:Sl XN) (m:List (List UInt8 × Int)) (n:XN) (A B C:EV) (ho:n.op=6∨18≤n.op∧n.op≤22) (hA:OfC G sl m n.a A) (hB:n.op≠6→OfC G sl m n.b B) (hC:n.op=22→OfC G sl m n.c C) :
  SpecP Tryz.prog G (some (kpEV (Zhd m n A B C))) 92 [lkV c1 c2 sl m,Z8 n] Zm (okEV (Zhd m n A B C)):=by
 have hN:Zhd m n A B C=A.onB fun a=>Zhd m n (.tru a) B C:=by
  unfold Zhd
  rcases ho with ho | ho
  ·rw [if_neg (by omega),if_pos (by omega)]
   cases A<;>simp only [Zzw,if_neg (show ¬ n.op=5 by omega),EV.onB,if_neg (show ¬ n.op≤4 by omega),if_pos (show n.op≤6 by omega)]
  ·rw [if_neg (by omega),if_neg (by omega)]
   by_cases h22:n.op≤21
   ·rw [if_pos h22]
    unfold Z5e;rw [if_neg (by omega),if_neg (by omega),if_neg (by omega)]
    cases A<;>simp only [Zys,EV.onB,if_neg (show ¬ n.op≤4 by omega),if_neg (show ¬ n.op≤6 by omega),if_pos h22,if_neg (show ¬ n.op≤11 by omega),if_neg (show ¬ n.op≤15 by omega),if_neg (show ¬ n.op≤17 by omega)]
   ·rw [if_neg h22]
    cases A<;>simp only [EV.onB,if_neg (show ¬ n.op≤4 by omega),if_neg (show ¬ n.op≤6 by omega),if_neg h22]
 rw [hN]
 try clear hN
 refine Zrb 0 200 [.cell 4 34] Tryz.func92 rfl rfl rfl rfl fun X=>?_;refine Z1f (zi @Zp @lkV.eq_1) ?_;intro g3 g4;refine AW.weak (Zz (fun o=>o==3) (l:=[(0,.view c1 (.agg [Za c2 6 Z8 sl,.mapv (Zwc m) (Zad m)])),(3,.view .new (.agg [.int .u8 n.op,.int .i64 n.num,.str n.name,.int .i64 n.a,.int .i64 n.b,.int .i64 n.c])),(4,.ptr 4 g4 0)]) (m:=[(4,.cells .new g4 0 [.int .u8 0,.int .i64 0,.bool false])]) ?_ ?_) ?_
 ·refine Zsf (zi @Zp @lkV.eq_1) ?_
  exact ⟨Zd _,Fz.ptr (v := .agg [.int .u8 n.op,.int .i64 n.num,.str n.name,.int .i64 n.a,.int .i64 n.b,.int .i64 n.c]) (c := .new) (fz:=0) rfl zp,Zd _⟩
 ·simp only [Zl,Zt,and_true]
  exact FzO.keep rfl zp
 refine Zx fun K1 hK1=>?_
 refine Z5 <| Zy ⟨fun i=>if i=0 then Zeh else .top,fun i=>if i=2 then .lend else .pure⟩ zk hG zk zk ?_
 simp -implicitDefEqProofs only[go_sem,seval,Zqi (op:=n.op) (by omega),Z0m];refine Z1 ?_;refine Z0 ?_;refine hK1 _ ?_
 try clear hK1 K1
 refine Zx fun K1 hK1=>?_
 refine Z5 <| Zy ⟨fun i=>if i=0 then Zbi else .top,fun i=>if i=2 then .lend else .pure⟩ zk hG zk zk ?_
 simp -implicitDefEqProofs only[go_sem,seval,Z3l (op:=n.op) (by omega),Zlq];refine Z1 ?_;refine Z0 ?_;refine hK1 _ ?_
 try clear hK1 K1
 refine AW.weak (Zb (l:=[(0,.view c1 (.agg [Za c2 6 Z8 sl,.mapv (Zwc m) (Zad m)])),(3,.view .new (.agg [.int .u8 n.op,.int .i64 n.num,.str n.name,.int .i64 n.a,.int .i64 n.b,.int .i64 n.c])),(4,.ptr 4 g4 0)]) (m:=[(4,.cells .new g4 0 [.int .u8 0,.int .i64 0,.bool false])]) zp zp) ?_;obtain ⟨op,num,name,na,nb,nc⟩:=n;simp only at ho hA hB hC ⊢
 obtain rfl | rfl | rfl | rfl | rfl | rfl:op=6∨op=18∨op=19∨op=20∨op=21∨op=22:=by omega
 all_goals
  refine Z ?_;refine Zba hG zk (hA c1.ent c2.ent 2 (by decide)) (zpf @lkV.eq_1) ?_ ?_
  ·rintro v H' ⟨e,he,rfl⟩
   exact ⟨e,Zpc _ he,rfl⟩
  rintro v H' ⟨hne,rfl⟩;obtain ⟨a,rfl⟩:=Zid hne;rw [Zoc,Zfd];refine Zs ?_;refine AW.weak (Zb (l:=[(0,.view c1 (.agg [Za c2 6 Z8 sl,.mapv (Zwc m) (Zad m)])),(3,.view .new (.agg [.int .u8 _,.int .i64 num,.str name,.int .i64 na,.int .i64 nb,.int .i64 nc])),(4,.ptr 4 g4 0),(17,.bool a)]) (m:=[(4,.cells .new g4 0 [.int .u8 0,.int .i64 0,.bool false])]) zp zp) ?_
  try clear hA hne
 ·refine Z ?_
  refine Zie (CallA.pure hG zk ?_);refine Zs ?_;refine (Z4d G _).mono ?_;rintro _ _ rfl;rw [Zfd];refine Zs ?_;refine Z ?_;exact ⟨(fun e h=>by cases h),rfl⟩
 ·cases a
  ·refine Z ?_
   refine Zie (CallA.pure hG zk ?_);refine Zs ?_;refine (Z4d G _).mono ?_;rintro _ _ rfl;rw [Zfd];refine Zs ?_;refine Z ?_;exact ⟨(fun e h=>by cases h),rfl⟩
  ·have hR:(EV.tru true).onB (fun a=>Zhd m ⟨18,num,name,na,nb,nc⟩ (.tru a) B C)=B.onB fun b => .tru b:=rfl
   rw [hR];refine Z ?_;refine Zba hG zk ((hB (by decide)) c1.ent c2.ent 2 (by decide)) (zpf @lkV.eq_1) ?_ ?_
   ·rintro v H' ⟨e,he,rfl⟩
    exact ⟨e,Zpc _ he,rfl⟩
   rintro v H' ⟨hne,rfl⟩;obtain ⟨b,rfl⟩:=Zid hne;rw [Zoc,Zfd];refine Zs ?_;refine Z ?_;exact ⟨(fun e h=>by cases h),rfl⟩
 ·cases a
  ·have hR:(EV.tru false).onB (fun a=>Zhd m ⟨19,num,name,na,nb,nc⟩ (.tru a) B C)=B.onB fun b => .tru b:=rfl
   rw [hR];refine Z ?_;refine Zba hG zk ((hB (by decide)) c1.ent c2.ent 2 (by decide)) (zpf @lkV.eq_1) ?_ ?_
   ·rintro v H' ⟨e,he,rfl⟩
    exact ⟨e,Zpc _ he,rfl⟩
   rintro v H' ⟨hne,rfl⟩;obtain ⟨b,rfl⟩:=Zid hne;rw [Zoc,Zfd];refine Zs ?_;refine Z ?_;exact ⟨(fun e h=>by cases h),rfl⟩
  ·refine Z ?_
   refine Zie (CallA.pure hG zk ?_);refine Zs ?_;refine (Z4d G _).mono ?_;rintro _ _ rfl;rw [Zfd];refine Zs ?_;refine Z ?_;exact ⟨(fun e h=>by cases h),rfl⟩
 ·have hR:(EV.tru a).onB (fun a=>Zhd m ⟨20,num,name,na,nb,nc⟩ (.tru a) B C)=B.onB fun b => .tru (a != b):=by cases a<;>rfl
  rw [hR];refine Z ?_;refine Zba hG zk ((hB (by decide)) c1.ent c2.ent 2 (by decide)) (zpf @lkV.eq_1) ?_ ?_
  ·rintro v H' ⟨e,he,rfl⟩
   exact ⟨e,Zpc _ he,rfl⟩
  rintro v H' ⟨hne,rfl⟩;obtain ⟨b,rfl⟩:=Zid hne;rw [Zoc,Zfd];refine Zs ?_;refine Zie (CallA.pure hG zk ?_);refine Zs ?_;refine (Z4d G _).mono ?_;rintro _ _ rfl;rw [Zfd];refine Zs ?_;refine Z ?_;exact ⟨(fun e h=>by cases h),rfl⟩
 ·cases a
  ·refine Z ?_
   refine Zie (CallA.pure hG zk ?_);refine Zs ?_;refine (Z4d G _).mono ?_;rintro _ _ rfl;rw [Zfd];refine Zs ?_;refine Z ?_;exact ⟨(fun e h=>by cases h),rfl⟩
  ·have hR:(EV.tru true).onB (fun a=>Zhd m ⟨21,num,name,na,nb,nc⟩ (.tru a) B C)=B.onB fun b => .tru b:=rfl
   rw [hR];refine Z ?_;refine Zba hG zk ((hB (by decide)) c1.ent c2.ent 2 (by decide)) (zpf @lkV.eq_1) ?_ ?_
   ·rintro v H' ⟨e,he,rfl⟩
    exact ⟨e,Zpc _ he,rfl⟩
   rintro v H' ⟨hne,rfl⟩;obtain ⟨b,rfl⟩:=Zid hne;rw [Zoc,Zfd];refine Zs ?_;refine Z ?_;exact ⟨(fun e h=>by cases h),rfl⟩
 ·cases a
  ·have hR:(EV.tru false).onB (fun a=>Zhd m ⟨22,num,name,na,nb,nc⟩ (.tru a) B C)=C:=rfl
   rw [hR];refine Z ?_;refine Zba hG zk ((hC rfl) c1.ent c2.ent 0 (by decide)) (zpf @lkV.eq_1) ?_ ?_
   ·rintro v H' ⟨e,he,rfl⟩
    rw [Z9n] at he;exact ⟨e,he,rfl⟩
   rintro v H' ⟨hne,rfl⟩;rw [Z9n] at hne ⊢;refine Zsf @encEV.eq_1 ?_;refine Z ?_;exact ⟨hne,rfl⟩
  ·have hR:(EV.tru true).onB (fun a=>Zhd m ⟨22,num,name,na,nb,nc⟩ (.tru a) B C)=B:=rfl
   rw [hR];refine Z ?_;refine Zba hG zk ((hB (by decide)) c1.ent c2.ent 0 (by decide)) (zpf @lkV.eq_1) ?_ ?_
   ·rintro v H' ⟨e,he,rfl⟩
    rw [Z9n] at he;exact ⟨e,he,rfl⟩
   rintro v H' ⟨hne,rfl⟩;rw [Z9n] at hne ⊢;refine Zsf @encEV.eq_1 ?_;refine Z ?_;exact ⟨hne,rfl⟩
theorem Z2q (op a b:Int):Zkm op (.num a) (.num b) = .tru ((a==b)==(op==16)):=by
 have:(EV.num a==EV.num b)=(a==b):=by rw [Bool.eq_iff_iff];simp
 show (if (1:Int)=1 then EV.tru ((EV.num a==EV.num b)==(op==16)) else EV.err 90)=_
 rw [if_pos rfl,this]
theorem Z1q (op:Int) (a b:Bool):Zkm op (.tru a) (.tru b) = .tru ((a==b)==(op==16)):=by
 have:(EV.tru a==EV.tru b)=(a==b):=by rw [Bool.eq_iff_iff];simp
 show (if (2:Int)=2 then EV.tru ((EV.tru a==EV.tru b)==(op==16)) else EV.err 90)=_
 rw [if_pos rfl,this]
theorem Zvba (G:Nat→V) (hG:GOk G) (c1 c2:Col) (sl:Sl XN) (m:List (List UInt8 × Int)) (n:XN) (A B C:EV) (ho:16≤n.op∧n.op≤17) (hA:OfC G sl m n.a A) (hB:OfC G sl m n.b B) :
  SpecP Tryz.prog G (some (kpEV (Zhd m n A B C))) 92 [lkV c1 c2 sl m,Z8 n] Zm (okEV (Zhd m n A B C)):=by
 have hN:Zhd m n A B C=Zkm n.op A B:=by
  unfold Zhd Z5e;rw [if_neg (by omega),if_neg (by omega),if_pos (by omega),if_neg (by omega),if_neg (by omega),if_pos (by omega)]
 rw [hN];refine Zrb 0 200 [.cell 4 34] Tryz.func92 rfl rfl rfl rfl fun X=>?_;refine Z1f (zi @Zp @lkV.eq_1) ?_;intro g3 g4;refine AW.weak (Zz (fun o=>o==3) (l:=[(0,.view c1 (.agg [Za c2 6 Z8 sl,.mapv (Zwc m) (Zad m)])),(3,.view .new (.agg [.int .u8 n.op,.int .i64 n.num,.str n.name,.int .i64 n.a,.int .i64 n.b,.int .i64 n.c])),(4,.ptr 4 g4 0)]) (m:=[(4,.cells .new g4 0 [.int .u8 0,.int .i64 0,.bool false])]) ?_ ?_) ?_
 ·refine Zsf (zi @Zp @lkV.eq_1) ?_
  exact ⟨Zd _,Fz.ptr (v := .agg [.int .u8 n.op,.int .i64 n.num,.str n.name,.int .i64 n.a,.int .i64 n.b,.int .i64 n.c]) (c := .new) (fz:=0) rfl zp,Zd _⟩
 ·simp only [Zl,Zt,and_true]
  exact FzO.keep rfl zp
 refine Zx fun K1 hK1=>?_
 refine Z5 <| Zy ⟨fun i=>if i=0 then Zeh else .top,fun i=>if i=2 then .lend else .pure⟩ zk hG zk zk ?_
 simp -implicitDefEqProofs only[go_sem,seval,Zqi (op:=n.op) (by omega),Z0m];refine Z1 ?_;refine Z0 ?_;refine hK1 _ ?_
 try clear hK1 K1
 refine Zx fun K1 hK1=>?_
 refine Z5 <| Zy ⟨fun i=>if i=0 then Zbi else .top,fun i=>if i=2 then .lend else .pure⟩ zk hG zk zk ?_
 simp -implicitDefEqProofs only[go_sem,seval,Z3l (op:=n.op) (by omega),Zlq];refine Z1 ?_;refine Z0 ?_;refine hK1 _ ?_
 try clear hK1 K1
 refine AW.weak (Zb (l:=[(0,.view c1 (.agg [Za c2 6 Z8 sl,.mapv (Zwc m) (Zad m)])),(3,.view .new (.agg [.int .u8 n.op,.int .i64 n.num,.str n.name,.int .i64 n.a,.int .i64 n.b,.int .i64 n.c])),(4,.ptr 4 g4 0)]) (m:=[(4,.cells .new g4 0 [.int .u8 0,.int .i64 0,.bool false])]) zp zp) ?_;obtain ⟨op,num,name,na,nb,nc⟩:=n;simp only at ho hA hB ⊢
 obtain rfl | rfl:op=16∨op=17:=by omega
 ·refine Z ?_
  refine Zba hG zk (hA c1.ent c2.ent 0 (by decide)) (zpf @lkV.eq_1) ?_ ?_
  ·rintro v H' ⟨e,he,rfl⟩
   rw [Z9n] at he;exact ⟨e,by rw [he]<;>rfl,rfl⟩
  rintro v H' ⟨hne,rfl⟩;rw [Z9n] at hne ⊢;refine Zsf @encEV.eq_1 ?_;intro g15;refine Z ?_;refine Zba hG zk (hB c1.ent c2.ent 0 (by decide)) (zpf @lkV.eq_1) ?_ ?_
  ·rintro v H' ⟨e,he,rfl⟩
   rw [Z9n] at he;refine ⟨e,?_,rfl⟩;rw [he]
   cases A with
   | err e'=>exact absurd rfl (hne e')
   | num=>rfl
   | tru=>rfl
  rintro v H' ⟨hne2,rfl⟩;rw [Z9n] at hne2 ⊢;refine Zsf @encEV.eq_1 ?_;intro g16;refine AW.weak (Zz (fun o=>o==15 || o==16) (l:=[(3,.view .new (.agg [.int .u8 16,.int .i64 num,.str name,.int .i64 na,.int .i64 nb,.int .i64 nc])),(4,.ptr 4 g4 0),(15,.view .new (.agg [.int .u8 A.kind,.int .i64 A.nm,.bool A.tr])),(16,.view .new (.agg [.int .u8 B.kind,.int .i64 B.nm,.bool B.tr]))]) (m:=[(4,.cells .new g4 0 [.int .u8 0,.int .i64 0,.bool false])]) ?_ ?_) ?_
  ·refine Zs ?_
   refine ⟨Zd _,Zd _,?_,?_⟩
   ·exact Fz.ptr (v := .agg [.int .u8 A.kind,.int .i64 A.nm,.bool A.tr]) (c := .new) (fz:=0) rfl zp
   ·exact Fz.ptr (v := .agg [.int .u8 B.kind,.int .i64 B.nm,.bool B.tr]) (c := .new) (fz:=0) rfl zp
  ·simp only [Zl,Zt,and_true]
   exact FzO.keep rfl zp
  cases A with
  | err e'=>exact absurd rfl (hne e')
  | num a =>
   cases B with
   | err e'=>exact absurd rfl (hne2 e')
   | num b =>
    simp only [EV.kind,EV.nm,EV.tr];refine Z ?_;refine Zy ⟨fun i=>if i=7 then encEV (.tru ((a==b)==true)) else .top,fun i=>if i=0 then .lend else if i=1 then .lend else if i=4 then .lend else .pure⟩ zk hG zk zk ?_;refine Zsf @Zfd ?_;refine ⟨by simp only [Bool.true_and,Bool.and_true];exact Z7g G _,?_⟩;refine Z ?_;rw [Z2q];exact ⟨(fun e h=>by cases h),rfl⟩
   | tru b =>
    simp only [EV.kind,EV.nm,EV.tr];refine Z ?_;exact Zba hG zk (Z2e G 90) rfl (fun v H' h=>⟨90,rfl,by rw [h.2]<;>rfl⟩) fun v H' h=>absurd h.1 (by decide)
  | tru a =>
   cases B with
   | err e'=>exact absurd rfl (hne2 e')
   | num b =>
    simp only [EV.kind,EV.nm,EV.tr];refine Z ?_;exact Zba hG zk (Z2e G 90) rfl (fun v H' h=>⟨90,rfl,by rw [h.2]<;>rfl⟩) fun v H' h=>absurd h.1 (by decide)
   | tru b =>
    simp only [EV.kind,EV.nm,EV.tr];refine Z ?_;refine Zy ⟨fun i=>if i=7 then encEV (.tru ((a==b)==true)) else .top,fun i=>if i=0 then .lend else if i=1 then .lend else if i=4 then .lend else .pure⟩ zk hG zk zk ?_;refine Zsf @Zfd ?_;refine ⟨by simp only [Bool.true_and,Bool.and_true];exact Z7g G _,?_⟩;refine Z ?_;rw [Z1q];exact ⟨(fun e h=>by cases h),rfl⟩
 ·refine Z ?_
  refine Zba hG zk (hA c1.ent c2.ent 0 (by decide)) (zpf @lkV.eq_1) ?_ ?_
  ·rintro v H' ⟨e,he,rfl⟩
   rw [Z9n] at he;exact ⟨e,by rw [he]<;>rfl,rfl⟩
  rintro v H' ⟨hne,rfl⟩;rw [Z9n] at hne ⊢;refine Zsf @encEV.eq_1 ?_;intro g15;refine Z ?_;refine Zba hG zk (hB c1.ent c2.ent 0 (by decide)) (zpf @lkV.eq_1) ?_ ?_
  ·rintro v H' ⟨e,he,rfl⟩
   rw [Z9n] at he;refine ⟨e,?_,rfl⟩;rw [he]
   cases A with
   | err e'=>exact absurd rfl (hne e')
   | num=>rfl
   | tru=>rfl
  rintro v H' ⟨hne2,rfl⟩;rw [Z9n] at hne2 ⊢;refine Zsf @encEV.eq_1 ?_;intro g16;refine AW.weak (Zz (fun o=>o==15 || o==16) (l:=[(3,.view .new (.agg [.int .u8 17,.int .i64 num,.str name,.int .i64 na,.int .i64 nb,.int .i64 nc])),(4,.ptr 4 g4 0),(15,.view .new (.agg [.int .u8 A.kind,.int .i64 A.nm,.bool A.tr])),(16,.view .new (.agg [.int .u8 B.kind,.int .i64 B.nm,.bool B.tr]))]) (m:=[(4,.cells .new g4 0 [.int .u8 0,.int .i64 0,.bool false])]) ?_ ?_) ?_
  ·refine Zs ?_
   refine ⟨Zd _,Zd _,?_,?_⟩
   ·exact Fz.ptr (v := .agg [.int .u8 A.kind,.int .i64 A.nm,.bool A.tr]) (c := .new) (fz:=0) rfl zp
   ·exact Fz.ptr (v := .agg [.int .u8 B.kind,.int .i64 B.nm,.bool B.tr]) (c := .new) (fz:=0) rfl zp
  ·simp only [Zl,Zt,and_true]
   exact FzO.keep rfl zp
  cases A with
  | err e'=>exact absurd rfl (hne e')
  | num a =>
   cases B with
   | err e'=>exact absurd rfl (hne2 e')
   | num b =>
    simp only [EV.kind,EV.nm,EV.tr];refine Z ?_;refine Zy ⟨fun i=>if i=7 then encEV (.tru ((a==b)==false)) else .top,fun i=>if i=0 then .lend else if i=1 then .lend else if i=4 then .lend else .pure⟩ zk hG zk zk ?_;refine Zsf @Zfd ?_;refine ⟨by simp only [Bool.true_and,Bool.and_true];exact Z7g G _,?_⟩;refine Z ?_;rw [Z2q];exact ⟨(fun e h=>by cases h),rfl⟩
   | tru b =>
    simp only [EV.kind,EV.nm,EV.tr];refine Z ?_;exact Zba hG zk (Z2e G 90) rfl (fun v H' h=>⟨90,rfl,by rw [h.2]<;>rfl⟩) fun v H' h=>absurd h.1 (by decide)
  | tru a =>
   cases B with
   | err e'=>exact absurd rfl (hne2 e')
   | num b =>
    simp only [EV.kind,EV.nm,EV.tr];refine Z ?_;exact Zba hG zk (Z2e G 90) rfl (fun v H' h=>⟨90,rfl,by rw [h.2]<;>rfl⟩) fun v H' h=>absurd h.1 (by decide)
   | tru b =>
    simp only [EV.kind,EV.nm,EV.tr];refine Z ?_;refine Zy ⟨fun i=>if i=7 then encEV (.tru ((a==b)==false)) else .top,fun i=>if i=0 then .lend else if i=1 then .lend else if i=4 then .lend else .pure⟩ zk hG zk zk ?_;refine Zsf @Zfd ?_;refine ⟨by simp only [Bool.true_and,Bool.and_true];exact Z7g G _,?_⟩;refine Z ?_;rw [Z1q];exact ⟨(fun e h=>by cases h),rfl⟩
theorem Z2h (G:Nat→V) (hG:GOk G) (sl:Sl XN) (hs:sl.l.length<1000000) (m:List (List UInt8 × Int)) (i:Nat) (n:XN) (x:EV) (hn:sl.l[i]? = some n)
  (hw:∀ c1 c2,SpecP Tryz.prog G (some (kpEV x)) 92 [lkV c1 c2 sl m,Z8 n] Zm (okEV x)):OfC G sl m i x:=by
 intro c1 c2 k hk;refine Zrb 0 27 [.cell 6 34] Tryz.func67 rfl rfl rfl rfl fun X=>?_;have hil:i<sl.l.length:=(List.getElem?_eq_some_iff.1 hn).1;refine Z1 ?_;intro g6;refine Z1f (zi @lkV.eq_1 (zi hn (zi @Int.natCast_nonneg (zi @Int.ofNat_lt (zi hil @Zp))))) ?_;refine Zba hG zk (hw c1.ent c2.ent) (zpf (zi @lkV.eq_1 @Zp)) ?_ ?_
 ·rintro v H' ⟨e,he,rfl⟩
  exact ⟨e,by rw [he]<;>rfl,rfl⟩
 rintro v H' ⟨hne,rfl⟩;refine Zsf @encEV.eq_1 ?_;intro g7
 have fin:x.need k=x→okEV (x.need k) (.agg [.int .u8 x.kind,.int .i64 x.nm,.bool x.tr])=okEV x (encEV x):=fun h=>by rw [h]<;>rfl
 have hx:∀ e,x.need k = .err e→k≠0∧x.kind≠k∧e=90:=by
  intro e he
  cases x with
  | err e'=>exact absurd rfl (hne e')
  | num n =>
   simp only [EV.need] at he
   split at he
   ·rename_i h;cases he;exact ⟨h.1,h.2,rfl⟩
   ·cases he
  | tru n =>
   simp only [EV.need] at he
   split at he
   ·rename_i h;cases he;exact ⟨h.1,h.2,rfl⟩
   ·cases he
 have hx2:k≠0∧x.kind≠k→x.need k = .err 90:=by
  intro h
  cases x with
  | err e'=>exact absurd rfl (hne e')
  | num n=>exact if_pos h
  | tru n=>exact if_pos h
 have hx3:¬ (k≠0∧x.kind≠k)→x.need k=x:=by
  intro h
  cases x with
  | err e'=>exact absurd rfl (hne e')
  | num n=>exact if_neg h
  | tru n=>exact if_neg h
 refine Z5 ?_
 by_cases h0:k=0
 ·subst h0
  refine Z ?_;rw [hx3 (fun h=>h.1 rfl)];exact ⟨hne,rfl⟩
 have h0b:(k != 0)=true:=by simpa using h0
 by_cases h2:x.kind=k
 ·have h2b:(x.kind != k)=false:=by simpa using h2
  refine Zf (zi h0b h2b) ?_;rw [hx3 (fun h=>h.2 h2)];exact ⟨hne,rfl⟩
 ·have h2b:(x.kind != k)=true:=by simpa using h2
  refine Z1f (zi h0b h2b) ?_;refine Z1 ?_;exact Zba hG zk (Z2e G 90) rfl (fun v H' h=>⟨90,hx2 ⟨h0,h2⟩,by rw [h.2]<;>rfl⟩) fun v H' h=>absurd h.1 (by decide)
def Zje (x:X):Prop:=∀ op num name,X.leaf op num name∈Zmc x→Z2b num=true
theorem Zqd {env:List (List UInt8 × Int)} (he:∀ p∈env,Z2b p.2=true) (x:X) (h:x.ok=true) (hn:Zje x):(evX env x).fine:=by
 induction x with
 | leaf op num name =>
  show (Z6d env op num name).fine
  unfold Z6d
  split
  ·exact hn op num name (by simp [Zmc])
  split
  ·cases hl:Z0d env name with
   | none=>exact .inr (.inr rfl)
   | some v =>
    obtain ⟨p,h1,_,h2⟩:=Zjy hl;exact h2 ▸ he p h1
  ·trivial
 | un op a ih =>
  simp only [X.ok,Bool.and_eq_true] at h;have ha:=ih h.2 fun o n nm hm=>hn o n nm (by simp [Zmc,hm])
  show (Zzw op (evX env a)).fine
  unfold Zzw
  split
  ·exact Zrj ha fun n _=>Z9g _
  ·exact Zsj ha fun n=>trivial
 | bin op a b iha ihb =>
  simp only [X.ok,Bool.and_eq_true] at h;exact Zq4 (iha h.1.2 fun o n nm hm=>hn o n nm (by simp [Zmc,hm])) (ihb h.2 fun o n nm hm=>hn o n nm (by simp [Zmc,hm]))
 | ite a b c iha ihb ihc =>
  simp only [X.ok,Bool.and_eq_true] at h;refine Zsj (iha h.1.1 fun o n nm hm=>hn o n nm (by simp [Zmc,hm])) fun t=>?_
  split
  ·exact ihb h.1.2 fun o n nm hm=>hn o n nm (by simp [Zmc,hm])
  ·exact ihc h.2 fun o n nm hm=>hn o n nm (by simp [Zmc,hm])
theorem of_spec (G:Nat→V) (hG:GOk G) (sl:Sl XN) (hs:sl.l.length<1000000) (m:List (List UInt8 × Int)) (hm:∀ p∈m,Z2b p.2=true) (x:X) :
  ∀ b:Nat,x.ok=true→Zje x→At sl.l x b→OfC G sl m ((b+x.size-1:Nat):Int) (evX m x):=by
 induction x with
 | leaf op num name =>
  intro b h hn hat;refine Z2h G hG sl hs m _ _ _ hat.get fun c1 c2=>?_;simp only [X.ok,Bool.and_eq_true,decide_eq_true_eq] at h;have hr:=(Zke h.1).1
  have hv:evX m (.leaf op num name)=Zhd m ((X.leaf op num name).top b) (.num 0) (.num 0) (.num 0):=by
   show _=if op≤4 then _ else _
   rw [if_pos h.2]<;>rfl
  rw [hv];exact Z04 G hG c1 c2 sl m _ _ _ _ ⟨hr,h.2⟩
 | un op a ih =>
  intro b h hn hat;have hsz:=a.size_pos;simp only [X.ok,Bool.and_eq_true,decide_eq_true_eq] at h;have na:Zje a:=fun o n nm hm=>hn o n nm (by simp [Zmc,hm]);have hA:=ih b h.2 na hat.un;rw [show ((b+a.size-1:Nat):Int)=(b:Int)+a.size-1 by omega] at hA;refine Z2h G hG sl hs m _ _ _ hat.get fun c1 c2=>?_
  have hv:evX m (.un op a)=Zhd m ((X.un op a).top b) (evX m a) (.num 0) (.num 0):=by
   show _=if op≤4 then _ else if op≤6 then _ else _
   rw [if_neg (by omega),if_pos (by omega)]<;>rfl
  rw [hv]
  obtain h5 | h6:op=5∨op=6:=by omega
  ·exact Zi7 G hG c1 c2 sl m _ _ _ _ h5 hA (Zqd hm a h.2 na)
  ·exact Zvm G hG c1 c2 sl m _ _ _ _ (.inl h6) hA (fun hh=>absurd h6 hh) (fun hh=>absurd (h6.symm.trans hh) (by decide))
 | bin op a c iha ihc =>
  intro b h hn hat;have hsz:=a.size_pos;have hsc:=c.size_pos;simp only [X.ok,Bool.and_eq_true,decide_eq_true_eq] at h;have na:Zje a:=fun o n nm hm=>hn o n nm (by simp [Zmc,hm]);have nc:Zje c:=fun o n nm hm=>hn o n nm (by simp [Zmc,hm]);have hA:=iha b h.1.2 na hat.bin.1;have hC:=ihc (b+a.size) h.2 nc hat.bin.2;rw [show ((b+a.size-1:Nat):Int)=(b:Int)+a.size-1 by omega] at hA;rw [show ((b+a.size+c.size-1:Nat):Int)=(b:Int)+a.size+c.size-1 by omega] at hC;refine Z2h G hG sl hs m _ _ _ hat.get fun c1 c2=>?_
  have hv:evX m (.bin op a c)=Zhd m ((X.bin op a c).top b) (evX m a) (evX m c) (.num 0):=by
   show _=if op≤4 then _ else if op≤6 then _ else if op≤21 then _ else _
   rw [if_neg (by omega),if_neg (by omega),if_pos (by omega)]<;>rfl
  rw [hv]
  by_cases h11:op≤11
  ·exact Zh7 G hG c1 c2 sl m _ _ _ _ ⟨h.1.1.1,h11⟩ hA hC (Zqd hm a h.1.2 na) (Zqd hm c h.2 nc)
  by_cases h15:op≤15
  ·exact Zj7 G hG c1 c2 sl m _ _ _ _ ⟨show 12≤op by omega,h15⟩ hA hC
  by_cases h17:op≤17
  ·exact Zvba G hG c1 c2 sl m _ _ _ _ ⟨show 16≤op by omega,h17⟩ hA hC
  ·exact Zvm G hG c1 c2 sl m _ _ _ _ (.inr ⟨show 18≤op by omega,show op≤22 by omega⟩) hA (fun _=>hC) (fun hh=>absurd (show op=22 from hh) (by omega))
 | ite a c d iha ihc ihd =>
  intro b h hn hat;have hsz:=a.size_pos;have hsc:=c.size_pos;have hsd:=d.size_pos;simp only [X.ok,Bool.and_eq_true] at h;have na:Zje a:=fun o n nm hm=>hn o n nm (by simp [Zmc,hm]);have nc:Zje c:=fun o n nm hm=>hn o n nm (by simp [Zmc,hm]);have nd:Zje d:=fun o n nm hm=>hn o n nm (by simp [Zmc,hm]);have hA:=iha b h.1.1 na hat.ite.1;have hC:=ihc (b+a.size) h.1.2 nc hat.ite.2.1;have hD:=ihd (b+a.size+c.size) h.2 nd hat.ite.2.2;rw [show ((b+a.size-1:Nat):Int)=(b:Int)+a.size-1 by omega] at hA;rw [show ((b+a.size+c.size-1:Nat):Int)=(b:Int)+a.size+c.size-1 by omega] at hC;rw [show ((b+a.size+c.size+d.size-1:Nat):Int)=(b:Int)+a.size+c.size+d.size-1 by omega] at hD;refine Z2h G hG sl hs m _ _ _ hat.get fun c1 c2=>?_;exact Zvm G hG c1 c2 sl m _ (evX m a) (evX m c) (evX m d) (.inr ⟨show (18:Int)≤22 by decide,show (22:Int)≤22 by decide⟩) hA (fun _=>hC) (fun _=>hD)
theorem Zh2 (e:Int):Zig Tryz.prog (.iface 152 (.agg [.int .i64 e])) 152 true=some (.tuple [.agg [.int .i64 e],.bool true]):=by
 unfold Zig;rw [Tryz.underlying152]<;>rfl
theorem Zq6:Zig Tryz.prog .nili 152 true=some (.tuple [.agg [.int .i64 0],.bool false]):=by
 unfold Zig;rw [Tryz.underlying152]<;>rfl
theorem Zjaa (G:Nat→V) (g6 g7:Nat) (v6 v7:List V):SpecF Tryz.prog G 66 [.ptr 6 g6 0,.ptr 7 g7 0] (Zcb Zm [(6,.cells .new g6 0 v6),(7,.cells .new g7 0 v7)]) none (fun H'=>H' 6 = .cells .new g6 0 v6∧H' 7 = .cells .new g7 0 v7):=by
 refine Zom 1000 13 5 Tryz.func66 rfl rfl rfl rfl rfl zk rfl fun X=>?_;simp -implicitDefEqProofs only[go_sem,seval,recV,Zq6,Zcb];intro g2;refine Z1 ?_;refine Zkc rfl ?_;refine AW.skip ?_;exact ⟨rfl,rfl⟩
theorem Zm6 (G:Nat→V) (hG:GOk G) (g6 g7:Nat) (v7:V) (e:Int):SpecF Tryz.prog G 66 [.ptr 6 g6 0,.ptr 7 g7 0] (Zcb Zm [(6,.cells .new g6 0 [.int .u8 0,.int .i64 0,.bool false]),(7,.cells .new g7 0 [v7])]) (some (Z71 e)) (fun H'=>H' 6 = .cells .new g6 0 [.int .u8 0,.int .i64 0,.bool false]∧H' 7 = .cells .new g7 0 [.int .i64 e]):=by
 refine Zom 1000 13 5 Tryz.func66 rfl rfl rfl rfl rfl zk rfl fun X=>?_;simp -implicitDefEqProofs only[go_sem,seval,recV,Z71,Zh2,Zcb];intro g2;refine Z1 ?_;refine Zog rfl ?_;refine AW.weak (Zz (fun o=>o==1002) (l:=[(0,.ptr 6 g6 0),(1,.ptr 7 g7 0),(2,.view .new (.agg [.int .i64 e]))]) (m:=[(6,.cells .new g6 0 [.int .u8 0,.int .i64 0,.bool false]),(7,.cells .new g7 0 [v7])]) ?_ ?_) ?_
 ·refine Zs ?_
  refine ⟨Zd _,Zd _,?_⟩;exact Fz.ptr (v := .agg [.int .i64 e]) (c := .new) (fz:=0) rfl zp
 ·simp only [Zl,Zt,and_true]
  exact ⟨FzO.keep rfl zp,FzO.keep rfl zp⟩
 refine Zy ⟨fun _ => .top,fun i=>if i=2 then .lend else .pure⟩ zk hG zk zk ?_;refine Zs ?_;exact ⟨rfl,rfl⟩
def Zi (p:List UInt8 × Int):V := .agg [.str p.1,.int .i64 p.2]
theorem Zzb (p:List UInt8 × Int):Zi p = .agg [.str p.1,.int .i64 p.2]:=rfl
@[go_sem] theorem Znca (f:Col→Col) (p:List UInt8 × Int):(Zi p).recol f=Zi p:=rfl
@[go_sem] theorem Z2 (g:Col→Col) (c:Col) (s:Sl (List UInt8 × Int)):(Za c 2 Zi s).recol g=Za (g c) 2 Zi s:=Z6f g c 2 (Znca g) s
def Z0w:List (List UInt8 × Int)→List UInt8 × Int→List (List UInt8 × Int)
 | [],p=>[p]
 | q::r,p=>if p.1=q.1 then (q.1,p.2)::r else q::Z0w r p
theorem Ziy (p:List UInt8 × Int) (s:List UInt8):∀ m:List (List UInt8 × Int),Z0d (Z0w m p) s=if s=p.1 then some p.2 else Z0d m s
 | []=>by
  unfold Z0w Z0d
  by_cases h:s=p.1
  ·rw [if_pos h,List.find?_cons_of_pos (by simpa using h.symm)]<;>rfl
  ·rw [if_neg h,List.find?_cons_of_neg (by simpa using fun hh=>h hh.symm)]
 | q::r=>by
  have ih:=Ziy p s r;unfold Z0w
  by_cases hq:p.1=q.1
  ·rw [if_pos hq]
   unfold Z0d
   by_cases h:s=p.1
   ·rw [if_pos h,List.find?_cons_of_pos (by simpa using (h.trans hq).symm)]<;>rfl
   ·rw [if_neg h,List.find?_cons_of_neg (by simpa using fun hh=>h (hh.symm.trans hq.symm)),List.find?_cons_of_neg (by simpa using fun hh=>h (hh.symm.trans hq.symm))]
  ·rw [if_neg hq]
   unfold Z0d at ih ⊢
   by_cases h2:q.1=s
   ·have hsp:¬ s=p.1:=fun h=>hq (h.symm.trans h2.symm)
    rw [if_neg hsp,List.find?_cons_of_pos (by simpa using h2),List.find?_cons_of_pos (by simpa using h2)]
   ·rw [List.find?_cons_of_neg (by simpa using h2),List.find?_cons_of_neg (by simpa using h2),ih]
theorem Zsca (p:List UInt8 × Int) (m:List (List UInt8 × Int)):putV .string (.str p.1) (.int .i64 p.2) (Zwc m) (Zad m)=some (Zwc (Z0w m p),Zad (Z0w m p)):=by
 have key:∀ m:List (List UInt8 × Int),∃ r,Z9d .string (.str p.1) (Zwc m)=some r∧(match r with
   | none=>Z0w m p=m++[p]
   | some j=>Zwc (Z0w m p)=Zwc m∧Zad (Z0w m p)=(Zad m).set j (.int .i64 p.2)):=by
  intro m
  induction m with
  | nil=>exact ⟨none,rfl,rfl⟩
  | cons q r ih =>
   have hstep:Z9d .string (.str p.1) (Zwc (q::r))=if p.1=q.1 then some (some 0) else (Z9d .string (.str p.1) (Zwc r)).map (·.map (· + 1)):=rfl
   by_cases h:p.1=q.1
   ·refine ⟨some 0,by rw [hstep,if_pos h],?_⟩
    show Zwc (if p.1=q.1 then _ else _)=_∧Zad (if p.1=q.1 then _ else _)=_
    rw [if_pos h];exact ⟨rfl,rfl⟩
   ·obtain ⟨o,h1,h2⟩:=ih
    refine ⟨o.map (· + 1),by rw [hstep,if_neg h,h1]<;>rfl,?_⟩
    have hs:Z0w (q::r) p=q::Z0w r p:=by show (if p.1=q.1 then _ else _)=_;rw [if_neg h]
    rw [hs]
    cases o with
    | none=>simp only at h2;simp only [Option.map_none];rw [h2]<;>rfl
    | some j =>
     simp only at h2;simp only [Option.map_some];exact ⟨by show _::Zwc (Z0w r p)=_::Zwc r;rw [h2.1],by show _::Zad (Z0w r p)=_::(Zad r).set j _;rw [h2.2]⟩
 obtain ⟨o,h1,h2⟩:=key m;unfold putV;rw [h1]
 cases o with
 | none=>simp only at h2;simp only [h2,Zwc,Zad,List.map_append,List.map_cons,List.map_nil]
 | some j=>simp only at h2;simp only [h2.1,h2.2]
def Z8e (env:List (List UInt8 × Int)):Nat→List (List UInt8 × Int)
 | 0=>[]
 | n+1=>match env[env.length-(n+1)]? with
  | some p=>Z0w (Z8e env n) p
  | none=>Z8e env n
theorem Zhy (env:List (List UInt8 × Int)) (s:List UInt8):∀ n,n≤env.length→Z0d (Z8e env n) s=Z0d (env.drop (env.length-n)) s
 | 0,_=>by rw [Nat.sub_zero,List.drop_length]<;>rfl
 | n+1,h=>by
  have hlt:env.length-(n+1)<env.length:=by omega
  have hd:env.drop (env.length-(n+1))=env[env.length-(n+1)]::env.drop (env.length-n):=by
   rw [List.drop_eq_getElem_cons hlt,show env.length-(n+1)+1=env.length-n by omega]
  rw [Z8e,List.getElem?_eq_getElem hlt,hd];simp only;rw [Ziy,Zhy env s n (by omega)];unfold Z0d
  by_cases hs:s=env[env.length-(n+1)].1
  ·rw [if_pos hs,List.find?_cons_of_pos (by simpa using hs.symm)]<;>rfl
  ·rw [if_neg hs,List.find?_cons_of_neg (by simpa using fun hh=>hs hh.symm)]
def envM (env:List (List UInt8 × Int)):=Z8e env env.length
theorem Zk9 (env:List (List UInt8 × Int)) (s:List UInt8):Z0d (envM env) s=Z0d env s:=by
 unfold envM;rw [Zhy env s _ (Nat.le_refl _),Nat.sub_self,List.drop_zero]
theorem Zf8 {m:List (List UInt8 × Int)} {p:List UInt8 × Int} (hm:∀ q∈m,Z2b q.2=true) (hp:Z2b p.2=true):∀ q∈Z0w m p,Z2b q.2=true:=by
 induction m with
 | nil=>intro q hq;simp [Z0w] at hq;subst hq;exact hp
 | cons r t ih =>
  intro q hq;unfold Z0w at hq
  split at hq
  ·rcases List.mem_cons.1 hq with rfl | h
   ·exact hp
   ·exact hm q (by simp [h])
  ·rcases List.mem_cons.1 hq with rfl | h
   ·exact hm q (by simp)
   ·exact ih (fun q hq=>hm q (by simp [hq])) q h
theorem Zyi {env:List (List UInt8 × Int)} (h:∀ q∈env,Z2b q.2=true):∀ n,∀ q∈Z8e env n,Z2b q.2=true
 | 0=>fun q hq=>by cases hq
 | n+1=>by
  rw [Z8e]
  cases hg:env[env.length-(n+1)]? with
  | none=>exact Zyi h n
  | some p=>exact Zf8 (Zyi h n) (h p (List.mem_of_getElem? hg))
theorem Zvda (env:List (List UInt8 × Int)) (x:X):evX (envM env) x=evX env x:=Ztda fun t _=>Zk9 env t
def encVE (r:EV):V := .tuple [encEV r,.int .i64 r.er]
def Z5aa (env:List (List UInt8 × Int)) (l:List XN) (k:Int) (r:EV):Prop:=Zra l≠0∧r = .err (Zra l)∨Zra l=0∧∃ x:X,x.ok=true∧Zje x∧l=x.row 0∧r=(evX env x).need k
theorem Znx {H:Heap} {a b:AObj} (h6:H 6=a) (h7:H 7=b) (o:Nat):Zcb Zm [(6,a),(7,b)] o = .dead∨Zcb Zm [(6,a),(7,b)] o=H o:=by
 simp only [Zcb,upd]
 split
 ·rename_i h;subst h;exact .inr h6.symm
 split
 ·rename_i h;subst h;exact .inr h7.symm
 ·exact .inl rfl
theorem Z95 (G:Nat→V) (hE:GExp G) (c c2:Col) (s:Sl XN) (hs:s.l.length<1000000) (hnm:∀ n∈s.l,n.name.length<100000) (env:Sl (List UInt8 × Int)) (hv:env.l.length<1000000) (hf:∀ p∈env.l,Z2b p.2=true) (k:Int) (hk:0≤k∧k≤2) (r:EV) (hr:Z5aa env.l s.l k r) :
  Spec Tryz.prog G 44 [.agg [Za c 6 Z8 s],Za c2 2 Zi env,.int .u8 k] Zm (fun v _=>v=encVE r):=by
 have hG:=hE.ok;refine Z5r 0 51 [.cell 6 34,.cell 7 30] Tryz.func44 rfl rfl rfl rfl fun X0=>?_;refine Zqm rfl fun K hK=>AW.region zk ?_;simp -implicitDefEqProofs only[go_sem,seval];intro g3 g6 g7;refine hK _ ?_;clear hK K;refine Zqm rfl fun K1 hK1=>?_;refine Zx fun K hK=>AW.region zk ?_;simp -implicitDefEqProofs only[go_sem,seval];refine CallA.pure hG zk ?_;simp -implicitDefEqProofs only[go_sem,seval,Zk];refine (Zoh G hE c.ent s hs hnm).mono ?_;rintro _ _ rfl;simp -implicitDefEqProofs only[go_sem,seval];refine hK _ ?_;clear hK K
 by_cases hc:Zra s.l=0
 rotate_left
 ·obtain rfl:r = .err (Zra s.l):=by
   rcases hr with ⟨_,h⟩ | ⟨h,_⟩
   ·exact h
   ·exact absurd h hc
  have hcb:(Zra s.l != 0)=true:=by simpa using hc
  refine Zx fun K hK=>AW.region zk ?_;simp -implicitDefEqProofs only[go_sem,seval,hcb];refine hK _ ?_;clear hK K;refine Zog rfl ?_;refine Zx fun K hK=>AW.region zk ?_;simp -implicitDefEqProofs only[go_sem,seval];refine hK _ ?_;clear hK K;refine AW.ret ?_;intro a w hsat;refine Zu5 rfl hsat (v:=encVE (.err (Zra s.l))) (rs:=[.cell 6 34,.cell 7 30]) ?_ ?_
  ·simp -implicitDefEqProofs only[go_sem,seval]
   rfl
  ·rfl
 obtain ⟨x,hx,hxn,hl,rfl⟩:∃ x:X,x.ok=true∧Zje x∧s.l=x.row 0∧r=(evX env.l x).need k:=by
  rcases hr with ⟨h,_⟩ | ⟨_,h⟩
  ·exact absurd hc h
  ·exact h
 have hcb:(Zra s.l != 0)=false:=by simpa using hc
 refine Zx fun K hK=>AW.region zk ?_;simp -implicitDefEqProofs only[go_sem,seval,hcb];refine hK _ ?_;clear hK K;refine Zkc rfl ?_;refine AW.skip ?_;simp -implicitDefEqProofs only[go_sem,seval];refine hK1 _ ?_;clear hK1 K1;refine Zaba 1 (fun _=>(⟨X0,Zm,51,0,G,none,[.func (.func 66) [] [.ptr 6 g6 0,.ptr 7 g7 0]]⟩:Ent)) (fun _=>rfl) zk rfl rfl rfl (fun _=>rfl) ?_;simp -implicitDefEqProofs only[go_sem,seval];intro X1 a1 hX1;refine Zxda hX1 (fun d hd=>by cases hd) (fid:=66) (first:=[]) (cap:=[.ptr 6 g6 0,.ptr 7 g7 0]) (zp) ?_;rw [Zrca];refine AWR.weak (Zb (l:=[(1,Za c2 2 Zi env),(2,.int .u8 k),(3,.ptr 3 g3 0),(6,.ptr 6 g6 0),(7,.ptr 7 g7 0)]) (m:=[(3,.cells .new g3 0 [Za c 6 Z8 s]),(6,.cells .new g6 0 [.int .u8 0,.int .i64 0,.bool false]),(7,.cells .new g7 0 [.int .i64 0])]) (zp) (zp)) ?_;refine Zqm rfl fun K hK=>AW.region zk ?_;simp -implicitDefEqProofs only[go_sem,seval];intro b g22;refine hK _ ?_;clear hK K;refine AWR.weak (Zb (l:=[(1,Za c2 2 Zi env),(2,.int .u8 k),(3,.ptr 3 g3 0),(6,.ptr 6 g6 0),(7,.ptr 7 g7 0),(9,.ptr 22 g22 0)]) (m:=[(3,.cells .new g3 0 [Za c 6 Z8 s]),(6,.cells .new g6 0 [.int .u8 0,.int .i64 0,.bool false]),(7,.cells .new g7 0 [.int .i64 0]),(20,.mp X0.w.heap.size b [] []),(22,.cells .new g22 0 [Za c 6 Z8 s,.mref 20 b])]) (zp) (zp)) ?_;refine Zqm rfl fun K1 hK1=>?_;have hw:IntKind.i64.wrap ((env.l.length:Int)-1)=(env.l.length:Int)-1:=w64 (by omega) (by omega);refine Zx fun K hK=>AW.region zk ?_
 simp -implicitDefEqProofs only[go_sem,seval,hw];refine hK _ ?_;clear hK K;refine AW.block ?_
 refine Zwa env.l.length (fun j (_:Unit)=>st [(1,Za c2 2 Zi env),(2,.int .u8 k),(3,.ptr 3 g3 0),(6,.ptr 6 g6 0),(7,.ptr 7 g7 0),(9,.ptr 22 g22 0),(10,.int .i64 ((env.l.length:Int)-1-j))] [(3,.cells .new g3 0 [Za c 6 Z8 s]),(6,.cells .new g6 0 [.int .u8 0,.int .i64 0,.bool false]),(7,.cells .new g7 0 [.int .i64 0]),(20,.mp X0.w.heap.size b (Zwc (Z8e env.l j)) (Zad (Z8e env.l j))),(22,.cells .new g22 0 [Za c 6 Z8 s,.mref 20 b])]) (fun _ _=>True) 0 () (Nat.zero_le _) trivial
  (Zb (by simp -implicitDefEqProofs only[go_sem,seval];simp) (zp)) ?_
 rintro j _ hj-L hL;refine Zx fun K3 hK3=>?_
 by_cases hjl:j<env.l.length
 ·obtain ⟨i,hi⟩:∃ i:Nat,i=env.l.length-(j+1):=⟨_,rfl⟩
  have hil:i<env.l.length:=by omega
  have hq:(env.l.length:Int)-1-j=(i:Int):=by omega
  have hg:env.l[i]? = some env.l[i]:=List.getElem?_eq_getElem hil
  have hnx:Z8e env.l (j+1)=Z0w (Z8e env.l j) env.l[i]:=by
   rw [Z8e,← hi,hg]
  generalize env.l[i]=p at hg hnx;rw [hq];refine Zx fun K hK=>AW.region zk ?_;simp -implicitDefEqProofs only[go_sem,seval];refine hK _ ?_;clear hK K;refine Ze (zp) (fun h1=>?_) (fun h1=>?_);rotate_left
  ·have h1:decide ((i:Int)≥0)=false:=h1
   simp at h1
  refine AW.skip ?_;simp -implicitDefEqProofs only[go_sem,seval];refine hK3 _ ?_;clear hK3 K3;refine Zx fun K4 hK4=>?_;refine AW.block ?_;refine Zy ⟨fun _ => .top,fun _ => .pure⟩ zk hG zk zk ?_;simp -implicitDefEqProofs only[go_sem,seval,hg,Zzb,hil,Int.natCast_nonneg,Int.ofNat_lt,Zpi Tryz.underlying155 Tryz.underlying9,Zsca,Zwp,Nat.le_refl];refine hK4 _ ?_;clear hK4 K4;have hw2:IntKind.i64.wrap ((i:Int)-1)=(i:Int)-1:=w64 (by omega) (by omega);refine AW.region zk ?_;simp -implicitDefEqProofs only[go_sem,seval,hw2];refine hL _ ⟨hjl,(),trivial,Zb (by simp -implicitDefEqProofs only[go_sem,seval];exact congrArg (V.int .i64) (by omega)) (by simp -implicitDefEqProofs only[go_sem,seval];rw [hnx];try rfl)⟩
 ·have hje:j=env.l.length:=by omega
  subst hje
  have hq:(env.l.length:Int)-1-env.l.length = -1:=by omega
  rw [hq];refine Z5c zk ?_;simp -implicitDefEqProofs only[go_sem,seval];refine Zkc rfl ?_;refine AW.exit ?_;simp -implicitDefEqProofs only[go_sem,seval];refine hK1 _ ?_;clear hK1 hL hK3 K1 K3;refine AWR.weak (Zmn 20 (lo:=X0.w.heap.size) (b:=b) (ks:=Zwc (envM env.l)) (vs:=Zad (envM env.l)) [(1,Za c2 2 Zi env),(2,.int .u8 k),(3,.ptr 3 g3 0),(6,.ptr 6 g6 0),(7,.ptr 7 g7 0),(9,.ptr 22 g22 0)] [(3,.cells .new g3 0 [Za c 6 Z8 s]),(6,.cells .new g6 0 [.int .u8 0,.int .i64 0,.bool false]),(7,.cells .new g7 0 [.int .i64 0]),(22,.cells .new g22 0 [Za c 6 Z8 s,.mapv (Zwc (envM env.l)) (Zad (envM env.l))])] (zp) (Nat.le_refl _) ?_ ?_) ?_
  ·simp -implicitDefEqProofs only[go_sem,seval]
   exact ⟨.inl rfl,.inl rfl,.inl rfl,.inl rfl,.inl rfl,.inl rfl⟩
  ·simp -implicitDefEqProofs only[go_sem,seval]
   exact ⟨⟨_,rfl,.inl rfl,trivial⟩,⟨_,rfl,.inl rfl,.inl rfl,.inl rfl,trivial⟩,⟨_,rfl,.inl rfl,trivial⟩,⟨_,rfl,.inl rfl,.inr ⟨rfl,rfl⟩,trivial⟩⟩
  refine AWR.weak (Zz (fun o=>o==22) (l:=[(1,Za c2 2 Zi env),(2,.int .u8 k),(3,.ptr 3 g3 0),(6,.ptr 6 g6 0),(7,.ptr 7 g7 0),(9,lkV .new c s (envM env.l))]) (m:=[(3,.cells .new g3 0 [Za c 6 Z8 s]),(6,.cells .new g6 0 [.int .u8 0,.int .i64 0,.bool false]),(7,.cells .new g7 0 [.int .i64 0])]) ?_ ?_) ?_
  ·simp -implicitDefEqProofs only[go_sem,seval]
   refine ⟨Zd _,Zd _,Zd _,Zd _,Zd _,?_⟩;exact Fz.ptr (v := .agg [Za c 6 Z8 s,.mapv (Zwc (envM env.l)) (Zad (envM env.l))]) (c := .new) (fz:=0) rfl (zp)
  ·simp only [Zl,Zt,and_true]
   exact ⟨FzO.keep rfl (zp),FzO.keep rfl (zp),FzO.keep rfl (zp)⟩
  have hw3:IntKind.i64.wrap ((s.l.length:Int)-1)=(s.l.length:Int)-1:=w64 (by omega) (by omega);refine Zaba 6 (fun _=>(⟨X0,Zm,51,0,G,none,[.func (.func 66) [] [.ptr 6 g6 0,.ptr 7 g7 0]]⟩:Ent)) (fun _=>rfl) zk rfl rfl rfl (fun _=>rfl) ?_;simp -implicitDefEqProofs only[go_sem,seval,hw3];intro X2 a2 hX2;refine call_wp hX2 (fun d hd=>by cases hd;exact Nat.le_refl 51) (fid:=67) (first:=[]) (cap:=[]) (KP:=fun v H'=>(∃ e,(evX env.l x).need k = .err e∧v=Z71 e)∧H' 6 = .cells .new g6 0 [.int .u8 0,.int .i64 0,.bool false]∧H' 7 = .cells .new g7 0 [.int .i64 0]) (zp) ?_ ?_
  ·simp -implicitDefEqProofs only[go_sem,seval]
   have hsz:((0+x.size-1:Nat):Int)=(s.l.length:Int)-1:=by
    have:=x.size_pos;rw [hl,Go.Hs.X.row_len];omega
   have hO:=of_spec G hG s hs (envM env.l) (Zyi hf _) x 0 hx hxn (hl ▸ Z9h x);rw [hsz,Zvda] at hO;refine Zba hG zk (hO .old c.ent k hk) (by simp -implicitDefEqProofs only[go_sem,seval,lkV]) ?_ ?_
   ·rintro v H' ⟨e,he,rfl⟩
    exact ⟨⟨e,he,rfl⟩,rfl,rfl⟩
   rintro v H' ⟨hne,rfl⟩;simp -implicitDefEqProofs only[go_sem,seval,encEV];refine AWR.ret ?_;rintro a w ⟨Y,hY⟩;obtain rfl:Y.w=w:=hY.hw;refine Zzs (rs:=[.cell 6 34,.cell 7 30]) (pv:=none) rfl hY zk rfl (Zjaa G g6 g7 [.int .u8 ((evX env.l x).need k).kind,.int .i64 ((evX env.l x).need k).nm,.bool ((evX env.l x).need k).tr] [.int .i64 0]) ?_ ?_
   ·intro o
    refine Znx ?_ ?_ o
    ·simp -implicitDefEqProofs only[go_sem,seval]
     try rfl
    ·simp -implicitDefEqProofs only[go_sem,seval]
     try rfl
   rintro H'' ⟨q6,q7⟩;simp -implicitDefEqProofs only[go_sem,seval];rw [q6,q7];simp -implicitDefEqProofs only[go_sem,seval];generalize (evX env.l x).need k=r at hne ⊢
   cases r with
   | err e=>exact absurd rfl (hne e)
   | num n=>exact ⟨_,rfl,rfl⟩
   | tru b=>exact ⟨_,rfl,rfl⟩
  ·rintro cv v Y H' hY hrel ⟨⟨e,he,rfl⟩,h6,h7⟩
   refine Zzs (rs:=[.cell 6 34,.cell 7 30]) (pv:=some (Z71 e)) rfl hY zk ⟨cv,rfl,hrel⟩ (Zm6 G hG g6 g7 (.int .i64 0) e) ?_ ?_
   ·exact fun o=>Znx h6 h7 o
   ·rintro H'' ⟨q6,q7⟩
    simp -implicitDefEqProofs only[go_sem,seval];rw [q6,q7,he];simp -implicitDefEqProofs only[go_sem,seval];exact ⟨_,rfl,rfl⟩
theorem Zaea (G:Nat→V) (hG:GOk G) (c1 c2:Col) (n1 n2:Bool) (a b:Nat) (h1:n1=true→dg a=[]) (h2:n2=true→dg b=[]) (hla:(dg a).length<1000000) (hlb:(dg b).length<1000000) :
  Z5g Tryz.prog G 163 [Za c1 1 (V.int .i64) (slD n1 (dg a)),Za c2 1 (V.int .i64) (slD n2 (dg b))] (Za .any 1 (V.int .i64) (slD (decide (dg a=[]∧dg b=[])) (dg (a+b)))):=⟨by kernel_rfl,by
 refine Zs ?_;refine (Z4x G hG _ _ _ _ (dg a) (dg b) (Zpl h1) (Zpl h2) (Zsd a) (Zsd b) hla hlb).mono ?_;rintro _ _ rfl;rw [Z6c,Z6c]
 simp -implicitDefEqProofs only[go_sem,seval]⟩
theorem Z7o (G:Nat→V) (hG:GOk G) (c1 c2:Col) (n1 n2:Bool) (a b:Nat) (h1:n1=true→dg a=[]) (h2:n2=true→dg b=[]) (hla:(dg a).length<1000000) (hab:b≤a) :
  Z5g Tryz.prog G 166 [Za c1 1 (V.int .i64) (slD n1 (dg a)),Za c2 1 (V.int .i64) (slD n2 (dg b))] (Za .any 1 (V.int .i64) (slD (decide (dg a=[])) (dg (a-b)))):=⟨by kernel_rfl,by
 have hlen:(dg b).length≤(dg a).length:=by
  rcases Nat.lt_or_ge (dg a).length (dg b).length with h | h
  ·have:=Zkq h;omega
  ·exact h
 refine Zs ?_;refine (Zk5 G hG _ _ _ _ (dg a) (dg b) (Zpl h1) (Zpl h2) (Zsd a) (Zsd b) hla hlen (by rw [Z6c,Z6c];exact hab)).mono ?_;rintro _ _ rfl;rw [Z6c,Z6c]
 simp -implicitDefEqProofs only[go_sem,seval]⟩
theorem Zos (G:Nat→V) (hG:GOk G) (c1 c2:Col) (n1 n2 b1 b2:Bool) (a b:Nat) (h1:n1=true→dg a=[]) (h2:n2=true→dg b=[]) (hla:(dg a).length<1000000) (hlb:(dg b).length<1000000) :
  Spec Tryz.prog G 139 [encLong c1 n1 (dg a) b1,encLong c2 n2 (dg b) b2] Zm (fun v _=>∃ nl m below,v=encLong .any nl (dg m) below∧(nl=true→dg m=[])∧sgn below m=sgn b1 a+sgn b2 b∧m≤a+b):=by
 refine Zo 0 39 [.cell 4 204] Tryz.func139 fun X=>?_;simp only [encLong];refine Z1 ?_;intro g2 g3 g4;refine Z1 ?_;refine Ze zp (fun h2'=>?_) (fun h2'=>?_)
 ·have hb:b1=b2:=by simpa using h2'
  have p1:=Zaea G hG c1 c2 n1 n2 a b h1 h2 hla hlb
  refine Z5 <| Zy ⟨fun i=>if i=4 then Za .any 1 (V.int .i64) (slD (decide (dg a=[]∧dg b=[])) (dg (a+b))) else .top,fun _ => .pure⟩ zk hG zk zk ?_
  refine Zs ?_;refine ⟨p1,?_⟩;refine Z ?_;refine ⟨_,a+b,b1,rfl,?_,?_,Nat.le_refl _⟩
  ·intro h
   have h:=of_decide_eq_true h;rw [Zh6] at h ⊢;rw [Zh6] at h;omega
  ·subst hb
   unfold sgn
   split<;>omega
 ·have hb:b1≠b2:=by simpa using h2'
  refine Z1 ?_;refine Zc hG ?_ (s:=(Zps G hG _ _ _ _ a b (Zpl h1) (Zpl h2) hla hlb));refine Ze rfl (fun h4=>?_) (fun h4=>?_)
  ·have h4':=of_decide_eq_true h4
   have p1:=Z7o G hG c2 c1 n2 n1 b a h2 h1 hlb (by omega)
   refine Z5 <| Zy ⟨fun i=>if i=4 then Za .any 1 (V.int .i64) (slD (decide (dg b=[])) (dg (b-a))) else .top,fun _ => .pure⟩ zk hG zk zk ?_
   refine Zs ?_;refine ⟨p1,?_⟩;refine Z ?_;refine ⟨_,b-a,b2,rfl,?_,?_,by omega⟩
   ·intro h
    have h:=of_decide_eq_true h;rw [Zh6] at h ⊢;omega
   ·unfold sgn
    cases b1<;>cases b2<;>simp at hb ⊢ <;> omega
  ·have h4':=of_decide_eq_false h4
   have p1:=Z7o G hG c1 c2 n1 n2 a b h1 h2 hla (by omega);refine Z0 ?_
   refine Z5 <| Zy ⟨fun i=>if i=4 then Za .any 1 (V.int .i64) (slD (decide (dg a=[])) (dg (a-b))) else .top,fun _ => .pure⟩ zk hG zk zk ?_
   refine Zs ?_;refine ⟨p1,?_⟩;refine Z ?_;refine ⟨_,a-b,b1,rfl,?_,?_,by omega⟩
   ·intro h
    have h:=of_decide_eq_true h;rw [Zh6] at h ⊢;omega
   ·unfold sgn
    cases b1<;>cases b2<;>simp at hb ⊢ <;> omega
theorem Za8 {n:Int}:sgn (decide (n<0)) n.natAbs=n:=by
 unfold sgn
 split
 ·rename_i h;have:=of_decide_eq_true h;omega
 ·rename_i h;have:¬ n<0:=by simpa using h
  omega
theorem Zoi {n:Int} (h:decide (n=0)=true):dg n.natAbs=[]:=by
 have:=of_decide_eq_true h;subst this;rfl
theorem Zky {n:Int} (hn:InK .i64 n):(dg n.natAbs).length<1000000:=by
 have:=(Zyb n).1 hn;have:=Zik (n:=n.natAbs) (k:=20) (by omega);omega
theorem Z6p {m:Nat} (h:m≤100000000000000000000000000000000000000000):(dg m).length<1000000:=by
 have:=Zik (n:=m) (k:=42) (by omega);omega
theorem Zs5 (G:Nat→V) (hG:GOk G) (a b:Int) (ha:InK .i64 a) (hb:InK .i64 b):Spec Tryz.prog G 102 [.int .i64 a,.int .i64 b] Zm (fun v _=>v=encR (told (a+b))):=by
 have ha':=(Zyb a).1 ha;have hb':=(Zyb b).1 hb;refine Zo 0 14 [.tmp 4,.tmp 5] Tryz.func102 fun X=>?_;refine Z1 ?_;refine Z1 ?_;refine Zn hG ?_ (s:=(Zde G hG a ha));refine Zsf @encLong.eq_1 ?_;refine Zn hG ?_ (s:=(Zde G hG b hb));refine Zsf @encLong.eq_1 ?_;refine CallA.pure hG zk ?_;refine Zs ?_;rw [← encLong,← encLong];refine (Zos G hG _ _ _ _ _ _ _ _ Zoi Zoi (Zky ha) (Zky hb)).mono ?_;rintro _ _ ⟨nl,m,below,rfl,hnl,hm,hml⟩;rw [Za8,Za8] at hm;refine Zsf @encLong.eq_1 ?_;refine CallA.pure hG zk ?_;refine Zs ?_;rw [← encLong];refine (Zpe G hG _ _ _ _ hnl (Zsd _) (Z6p (by omega))).mono ?_;rintro _ _ rfl;rw [Z6c,hm];refine Zsf @encR.eq_1 ?_;exact Zr
theorem Zl5 (G:Nat→V) (hG:GOk G) (a b:Int) (ha:InK .i64 a) (hb:InK .i64 b):Spec Tryz.prog G 103 [.int .i64 a,.int .i64 b] Zm (fun v _=>v=encR (told (a-b))):=by
 have ha':=(Zyb a).1 ha;have hb':=(Zyb b).1 hb;refine Zo 0 15 [.tmp 4,.tmp 5] Tryz.func103 fun X=>?_;refine Z1 ?_;refine Z1 ?_;refine Zn hG ?_ (s:=(Zde G hG a ha));refine Zsf @encLong.eq_1 ?_;refine Zn hG ?_ (s:=(Zde G hG b hb));refine Zsf @encLong.eq_1 ?_;refine CallA.pure hG zk ?_;refine Zs ?_;rw [← encLong];refine (Zrp G hG _ _ _ _).mono ?_;rintro _ _ rfl;refine Zsf @encLong.eq_1 ?_;refine CallA.pure hG zk ?_;refine Zs ?_;rw [← encLong,← encLong];refine (Zos G hG _ _ _ _ _ _ _ _ Zoi Zoi (Zky ha) (Zky hb)).mono ?_;rintro _ _ ⟨nl,m,below,rfl,hnl,hm,hml⟩
 have hneg:sgn (!decide (b<0)) b.natAbs = -b:=by unfold sgn;by_cases h:b<0<;>simp [h]<;>omega
 rw [Za8,hneg] at hm;refine Zsf @encLong.eq_1 ?_;refine CallA.pure hG zk ?_;refine Zs ?_;rw [← encLong];refine (Zpe G hG _ _ _ _ hnl (Zsd _) (Z6p (by omega))).mono ?_;rintro _ _ rfl;rw [Z6c,hm,show a + -b=a-b by omega];refine Zsf @encR.eq_1 ?_;exact Zr
theorem Zm5 (G:Nat→V) (hG:GOk G) (a:Int) (ha:InK .i64 a):Spec Tryz.prog G 72 [.int .i64 a] Zm (fun v _=>v=encR (told (-a))):=by
 have ha':=(Zyb a).1 ha;refine Zo 0 10 [.tmp 2,.tmp 3] Tryz.func72 fun X=>?_;refine Z1 ?_;refine Z1 ?_;refine Zn hG ?_ (s:=(Zde G hG a ha));refine Zsf @encLong.eq_1 ?_;refine CallA.pure hG zk ?_;refine Zs ?_;rw [← encLong];refine (Zrp G hG _ _ _ _).mono ?_;rintro _ _ rfl
 have hneg:sgn (!decide (a<0)) a.natAbs = -a:=by unfold sgn;by_cases h:a<0<;>simp [h]<;>omega
 refine Zsf @encLong.eq_1 ?_;refine CallA.pure hG zk ?_;refine Zs ?_;rw [← encLong];refine (Zpe G hG _ _ _ _ Zoi (Zsd _) (Zky ha)).mono ?_;rintro _ _ rfl;rw [Z6c,hneg];refine Zsf @encR.eq_1 ?_;exact Zr
theorem Zkp (k:Nat):Zmo k [V.int .i64 0]=(Zae (List.replicate k 0)).map (V.int .i64):=by
 induction k with
 | zero=>rfl
 | succ k ih=>rw [Zmo,ih]<;>rfl
theorem Zdq (k:IntKind) (l:List Int):flat (l.map (V.int k))=l.map (V.int k):=by
 induction l with
 | nil=>rfl
 | cons x r ih =>
  rw [List.map_cons]
  show [V.int k x]++flat (r.map (V.int k))=_
  rw [ih]<;>rfl
theorem Zk8 (k:Nat) (la:List Nat):(Zmo k [V.int .i64 0]).take (k * 1)++flat ((Zae la).map (V.int .i64))=flat ((Zae (List.replicate k 0++la)).map (V.int .i64)):=by
 rw [Zkp,Zdq,Zdq,Zgf,List.map_append,Nat.mul_one,List.take_of_length_le (by simp)]
theorem Zn7:∀ (k:Nat) (l:List Nat),val (List.replicate k 0++l)=10 ^ k * val l
 | 0,l=>by simp
 | k+1,l=>by
  rw [List.replicate_succ,List.cons_append,val,Zn7 k l,Nat.pow_succ,Nat.zero_add,Nat.mul_comm (10 ^ k) 10,Nat.mul_assoc]
theorem dig_rep {k:Nat} {l:List Nat} (h:Dig l):Dig (List.replicate k 0++l):=Dig.app.2 ⟨fun d hd=>by have:=List.eq_of_mem_replicate hd;omega,h⟩
theorem Znt {l:List Nat} {k:Nat} (h:k<l.length):val (l.take (k+1))=val (l.take k)+10 ^ k * l.getD k 0:=by
 rw [List.take_succ_eq_append_getElem h,Zth,List.length_take,Nat.min_eq_left (by omega),List.getD_eq_getElem?_getD,List.getElem?_eq_getElem h];simp [val]
theorem Z30 (l:List Nat) (k:Nat):val (l.take k)≤val l:=by
 have:val l=val (l.take k)+10 ^ (l.take k).length * val (l.drop k):=by rw [← Zth,List.take_append_drop]
 omega
theorem Zk1 (G:Nat→V) (hG:GOk G) (c1 c2:Col) (n1 n2 b1 b2:Bool) (a b:Nat) (h1:n1=true→dg a=[]) (h2:n2=true→dg b=[]) (ha:a≤10000000000000000000) (hb:b≤10000000000000000000) :
  Spec Tryz.prog G 137 [encLong c1 n1 (dg a) b1,encLong c2 n2 (dg b) b2] Zm (fun v _=>∃ nl,v=encLong .any nl (dg (a * b)) (b1 != b2)∧(nl=true→dg (a * b)=[])):=by
 have hla:=Zik (n:=a) (k:=20) (by omega);have hlb:=Zik (n:=b) (k:=20) (by omega);have hab:a * b≤100000000000000000000000000000000000000:=Nat.mul_le_mul ha hb;have s1:=Zpl h1;have s2:=Zpl h2;refine Zo 0 41 [.cell 4 204] Tryz.func137 fun X=>?_;simp only [encLong];refine Z1 ?_;intro g2 g3 g4;refine Z1 ?_;refine Z1 ?_;refine AW.block ?_
 refine Zwa (dg b).length (fun k (nl:Bool)=>st [(2,.ptr 2 g2 0),(3,.ptr 3 g3 0),(4,.ptr 4 g4 0),(5,Za .any 1 (V.int .i64) (slD nl (dg (a * val ((dg b).take k))))),(6,.int .i64 k)] [(2,.cells .new g2 0 [Za c1 1 (V.int .i64) (slD n1 (dg a)),.bool b1]),(3,.cells .new g3 0 [Za c2 1 (V.int .i64) (slD n2 (dg b)),.bool b2]),(4,.cells .new g4 0 [.nils,.bool false])]) (fun k nl=>nl=true→dg (a * val ((dg b).take k))=[]) 0 true (Nat.zero_le _) (fun _=>by simp [val,Zeg])
  (Zb (by simp -implicitDefEqProofs only[go_sem,seval];first | rfl | exact ⟨rfl,rfl⟩) zp) ?_
 intro k nl hk hR L2 hL2;refine Z1f (zi s2 @Ztd) ?_;refine Ze rfl (fun h4=>?_) (fun h4=>?_)
 ·have hk1:k<(dg b).length:=by have:=of_decide_eq_true h4;omega
  have gk:=Zjd hk1;have h5:=Z2g (Zsd b) k;have hts:=Znt hk1;have htl:=Z30 (dg b) (k+1);rw [Z6c] at htl;generalize hd:(dg b).getD k 0=d at gk h5 hts;obtain ⟨W,hW⟩:∃ W,W=a * val ((dg b).take k):=⟨_,rfl⟩;rw [← hW] at hR ⊢
  have hWd:W+d * (10 ^ k * a)=a * val ((dg b).take (k+1)):=by rw [hts,hW,Nat.mul_add,Nat.mul_comm (10 ^ k) d,Nat.mul_left_comm a d,Nat.mul_comm a (10 ^ k)]
  have hWl:W+d * (10 ^ k * a)≤a * b:=by rw [hWd];exact Nat.mul_le_mul_left a htl
  refine Z1 ?_;refine AW.block ?_
  refine Zwa d (fun t (nl:Bool)=>st [(2,.ptr 2 g2 0),(3,.ptr 3 g3 0),(4,.ptr 4 g4 0),(5,Za .any 1 (V.int .i64) (slD nl (dg (W+t * (10 ^ k * a))))),(6,.int .i64 k),(7,.int .i64 t)] [(2,.cells .new g2 0 [Za c1 1 (V.int .i64) (slD n1 (dg a)),.bool b1]),(3,.cells .new g3 0 [Za c2 1 (V.int .i64) (slD n2 (dg b)),.bool b2]),(4,.cells .new g4 0 [.nils,.bool false])]) (fun t nl=>nl=true→dg (W+t * (10 ^ k * a))=[]) 0 nl (Nat.zero_le _) (by rw [Nat.zero_mul,Nat.add_zero];exact hR)
   (Zb (zpf @Nat.zero_mul) zp) ?_
  intro t nl2 ht hR2 L6 hL6;refine Z1f (zi s2 gk) ?_;refine Ze rfl (fun h8=>?_) (fun h8=>?_)
  ·have ht1:t<d:=by have:=of_decide_eq_true h8;omega
   refine Z1 ?_;refine ⟨⟨by omega,by omega,by omega⟩,fun g26=>?_⟩;refine Z1f (zi s1 @Ztd) ?_;refine ⟨Zca (by omega) (by omega),by rw [Zkp];simp,by omega,fun g31=>?_⟩;rw [Zk8];have hmono:t * (10 ^ k * a)≤d * (10 ^ k * a):=Nat.mul_le_mul_right _ (by omega);have hlen:(dg (W+t * (10 ^ k * a))).length<1000000:=Z6p (by omega);have hrow:=dig_rep (k:=k) (Zsd a)
   have hrl:(List.replicate k 0++dg a).length<1000000:=by simp;omega
   have hrv:=Zn7 k (dg a);rw [Z6c] at hrv
   have hll:k+(dg a).length=(Zae (List.replicate k 0++dg a)).length:=by simp
   rw [hll];generalize hrw:List.replicate k 0++dg a=row at hrow hrl hrv;refine Zdc (fun o=>o==26) [Za .any 1 (V.int .i64) (slD nl2 (dg (W+t * (10 ^ k * a)))),Za .new 1 (V.int .i64) (.mk false (Zae row))] [(2,.cells .new g2 0 [Za c1 1 (V.int .i64) (slD n1 (dg a)),.bool b1]),(3,.cells .new g3 0 [Za c2 1 (V.int .i64) (slD n2 (dg b)),.bool b2]),(4,.cells .new g4 0 [.nils,.bool false])] ⟨Zd _,Zaf rfl rfl (fun _=>rfl),trivial⟩ ⟨FzO.keep rfl zp,FzO.keep rfl zp,FzO.keep rfl zp,trivial⟩ ?_;refine Zn hG ?_ (s:=(Z4x G hG _ _ _ _ (dg (W+t * (10 ^ k * a))) row (Zpl hR2) rfl (Zsd _) hrow hlen hrl));rw [Z6c,hrv];refine Zs ?_;refine Z1 ?_
   have hnx:W+t * (10 ^ k * a)+10 ^ k * a=W+(t+1) * (10 ^ k * a):=by rw [Nat.succ_mul];omega
   refine hL6 _ ⟨ht1,decide (dg (W+t * (10 ^ k * a))=[]∧row=[]),fun h=>?_,Zb (by simp -implicitDefEqProofs only[go_sem,seval,hnx];exact congrArg _ (w64 (by omega) (by omega))) zp⟩;have h:=of_decide_eq_true h
   have hr0:10 ^ k * a=0:=by rw [← hrv,h.2]<;>rfl
   rw [← hnx,show W+t * (10 ^ k * a)+10 ^ k * a=W+t * (10 ^ k * a) by omega];exact h.1
  ·have ht1:t=d:=by have:=of_decide_eq_false h8;omega
   subst ht1;refine Z1 ?_;rw [hWd] at hR2 ⊢;refine hL2 _ ⟨hk1,nl2,hR2,Zb zw zp⟩
 ·have hk1:k=(dg b).length:=by have:=of_decide_eq_false h4;omega
  rw [hk1,List.take_length,Z6c] at hR ⊢;refine Z0 ?_
  have p1:Z5g Tryz.prog G 164 [Za .any 1 (V.int .i64) (slD nl (dg (a * b)))] (Za .any 1 (V.int .i64) (slD nl (dg (a * b)))):=⟨by kernel_rfl,by
   refine Zs ?_;refine (Z8g G hG _ nl (dg (a * b)) hR (by have:=Z6p (m:=a * b) (by omega);omega)).mono ?_;rintro _ _ rfl;rw [Zuh _ _ (Nat.le_refl _) (Zsd _),Z6c]
   simp -implicitDefEqProofs only[go_sem,seval]⟩
  refine Z5 <| Zy ⟨fun i=>if i=1 then Za .any 1 (V.int .i64) (slD nl (dg (a * b))) else .top,fun _ => .pure⟩ zk hG zk zk ?_
  refine Zs ?_;refine ⟨p1,?_⟩;refine Z ?_;exact ⟨nl,rfl,hR⟩
theorem Zn5 (G:Nat→V) (hG:GOk G) (a b:Int) (ha:InK .i64 a) (hb:InK .i64 b):Spec Tryz.prog G 99 [.int .i64 a,.int .i64 b] Zm (fun v _=>v=encR (told (a * b))):=by
 have ha':=(Zyb a).1 ha;have hb':=(Zyb b).1 hb;refine Zo 0 14 [.tmp 4,.tmp 5] Tryz.func99 fun X=>?_;refine Z1 ?_;refine Z1 ?_;refine Zn hG ?_ (s:=(Zde G hG a ha));refine Zsf @encLong.eq_1 ?_;refine Zn hG ?_ (s:=(Zde G hG b hb));refine Zsf @encLong.eq_1 ?_;refine CallA.pure hG zk ?_;refine Zs ?_;rw [← encLong,← encLong];refine (Zk1 G hG _ _ _ _ _ _ a.natAbs b.natAbs Zoi Zoi (by omega) (by omega)).mono ?_;rintro _ _ ⟨nl,rfl,hnl⟩
 have hm:sgn (decide (a<0) != decide (b<0)) (a.natAbs * b.natAbs)=a * b:=by
  rw [← Int.natAbs_mul];unfold sgn
  by_cases h4:a<0<;>by_cases h5:b<0<;>simp only [h4,h5,decide_true,decide_false,bne_self_eq_false,Zsq,Ztq,if_true,Bool.false_eq_true,if_false]
  ·have:=Int.mul_pos_of_neg_of_neg h4 h5;omega
  ·have:=Int.mul_nonpos_of_nonpos_of_nonneg (Int.le_of_lt h4) (Int.not_lt.1 h5);omega
  ·have:=Int.mul_nonpos_of_nonneg_of_nonpos (Int.not_lt.1 h4) (Int.le_of_lt h5);omega
  ·have:=Int.mul_nonneg (Int.not_lt.1 h4) (Int.not_lt.1 h5);omega
 have hlen:(dg (a.natAbs * b.natAbs)).length<1000000:=Z6p (by have:a.natAbs * b.natAbs≤10000000000000000000 * 10000000000000000000:=Nat.mul_le_mul (by omega) (by omega);omega);refine Zsf @encLong.eq_1 ?_;refine CallA.pure hG zk ?_;refine Zs ?_;rw [← encLong];refine (Zpe G hG _ _ _ _ hnl (Zsd _) hlen).mono ?_;rintro _ _ rfl;rw [Z6c,hm];refine Zsf @encR.eq_1 ?_;exact Zr
structure PartI (a b:Nat) (l:List Nat) (k:Nat) (q:List Nat) (rest:Nat):Prop where
 len:q.length=l.length
 dig:Dig q
 zero:∀ j,j<l.length-k→q.getD j 0=0
 v:val (q.drop (l.length-k)) * b+rest=val (l.drop (l.length-k))
 lt:rest<b
theorem Z96 {a b:Nat} {l:List Nat} (hb:0<b):PartI a b l 0 (List.replicate l.length 0) 0:=by
 refine ⟨by simp,fun d hd=>by have:=List.eq_of_mem_replicate hd;omega,fun j hj=>by rw [List.getD_eq_getElem?_getD,List.getElem?_replicate];split<;>rfl,?_,hb⟩;rw [List.drop_eq_nil_of_le (by simp),List.drop_eq_nil_of_le (by omega)];simp [val]
theorem PartI.step {a b:Nat} {l:List Nat} {k:Nat} {q:List Nat} {rest:Nat} (h:PartI a b l k q rest) (hk:k<l.length) {t r:Nat} (ht:r+t * b=l.getD (l.length-1-k) 0+10 * rest) (hr:r<b) (hd:Dig l) :
  PartI a b l (k+1) (q.set (l.length-1-k) t) r:=by
 have hi:l.length-(k+1)=l.length-1-k:=by omega
 have hi2:l.length-k=l.length-1-k+1:=by omega
 have h9:=Z2g hd (l.length-1-k)
 have ht10:t<10:=by
  have h1:=h.lt
  rcases Nat.lt_or_ge t 10 with h2 | h2
  ·exact h2
  ·have:10 * b≤t * b:=Nat.mul_le_mul_right b h2
   omega
 refine ⟨by simp [h.len],?_,?_,?_,hr⟩
 ·intro d hd'
  rcases List.mem_or_eq_of_mem_set hd' with h1 | h1
  ·exact h.dig d h1
  ·omega
 ·intro j hj
  have:=h.zero j (by omega);rw [List.getD_eq_getElem?_getD,List.getElem?_set_ne (by omega),← List.getD_eq_getElem?_getD];exact this
 ·have hv:=h.v
  rw [hi2] at hv;rw [hi,Zpg (q.set _ t),Zpg l (l.length-1-k)]
  have e1:(q.set (l.length-1-k) t).getD (l.length-1-k) 0=t:=by
   rw [List.getD_eq_getElem?_getD,List.getElem?_set_self (by rw [h.len];omega)]
   try rfl
  have e2:(q.set (l.length-1-k) t).drop (l.length-1-k+1)=q.drop (l.length-1-k+1):=by
   rw [List.drop_set_of_lt (by omega)]
  rw [e1,e2,← hv,Nat.add_mul,Nat.mul_assoc];generalize val (q.drop (l.length-1-k+1)) * b=z at *;omega
theorem PartI.done {a b:Nat} {q:List Nat} {rest:Nat} (h:PartI a b (dg a) (dg a).length q rest):val q=a / b∧rest=a % b:=by
 have hv:=h.v;rw [Nat.sub_self,List.drop_zero,List.drop_zero,Z6c] at hv;have hlt:=h.lt
 have hdm:(val q * b+rest) / b=val q:=by
  rw [Nat.add_comm,Nat.add_mul_div_right _ _ (by omega),Nat.div_eq_of_lt hlt,Nat.zero_add]
 have hmm:(val q * b+rest) % b=rest:=by
  rw [Nat.add_comm,Nat.add_mul_mod_self_right,Nat.mod_eq_of_lt hlt]
 rw [hv] at hdm hmm;exact ⟨hdm.symm,hmm.symm⟩
theorem Zqp (G:Nat→V) (hG:GOk G) (c1 c2:Col) (n1 n2:Bool) (a b:Nat) (h1:n1=true→dg a=[]) (h2:n2=true→dg b=[]) (ha:a≤10000000000000000000) (hb:b≤10000000000000000000) (hb0:0<b) :
  Spec Tryz.prog G 138 [Za c1 1 (V.int .i64) (slD n1 (dg a)),Za c2 1 (V.int .i64) (slD n2 (dg b))] Zm (fun v _=>∃ nr,v = .tuple [Za .any 1 (V.int .i64) (slD false (dg (a / b))),Za .any 1 (V.int .i64) (slD nr (dg (a % b)))]∧(nr=true→dg (a % b)=[])):=by
 have hla:=Zik (n:=a) (k:=20) (by omega);have hlb:=Zik (n:=b) (k:=20) (by omega);have s1:=Zpl h1;have s2:=Zpl h2;refine Zo 0 45 [.tmp 4,.tmp 5] Tryz.func138 fun X=>?_;refine Z1 ?_;refine Z1f (zi s1 @Ztd) ?_;refine ⟨⟨by omega,by omega,by omega⟩,fun g12=>?_⟩;rw [Zkp];refine Z1 ?_;refine Z1f (zi s1 @Ztd) ?_;refine AW.block ?_
 refine Zwa (dg a).length (fun k (x:(Nat × Bool) × List Nat × Nat)=>st [(0,Za c1 1 (V.int .i64) (slD n1 (dg a))),(1,Za c2 1 (V.int .i64) (slD n2 (dg b))),(6,.msl 12 x.1.1 0 (dg a).length 1),(7,Za .any 1 (V.int .i64) (slD x.1.2 (dg x.2.2))),(8,.int .i64 (((dg a).length:Int)-1-k))] [(12,.cells .new x.1.1 0 ((Zae x.2.1).map (V.int .i64)))])
  (fun k x=>PartI a b (dg a) k x.2.1 x.2.2∧(x.1.2=true→dg x.2.2=[])) 0 ((g12,true),List.replicate (dg a).length 0,0) (Nat.zero_le _) ⟨Z96 hb0,fun _=>rfl⟩
  (Zb (by simp -implicitDefEqProofs only[go_sem,seval];exact ⟨rfl,congrArg _ (by rw [w64 (by omega) (by omega)];omega)⟩) zp) ?_
 rintro k ⟨⟨gq,nr⟩,q,rest⟩ hk ⟨hI,hnr⟩ L2 hL2;have hI:PartI a b (dg a) k q rest:=hI;have hnr:nr=true→dg rest=[]:=hnr;have hql:=hI.len;have hrl:=hI.lt;refine Z1 ?_;refine Ze rfl (fun h4=>?_) (fun h4=>?_)
 ·have hk1:k<(dg a).length:=by have:=of_decide_eq_true h4;omega
  refine Z0 ?_;obtain ⟨i,hi⟩:∃ i,i=(dg a).length-1-k:=⟨_,rfl⟩
  have e0:(((dg a).length:Int)-1-k)=(i:Int):=by omega
  have gi:=Zjd (l:=dg a) (k:=i) (by omega);have h5:=Z2g (Zsd a) i;have hstep:=fun t r=>hI.step hk1 (t:=t) (r:=r);rw [← hi] at hstep;rw [e0];generalize hd:(dg a).getD i 0=d at gi h5 hstep;refine Z1f (zi s1 gi) ?_;intro g24;have s3:=Zpl hnr;have hrd:=Zik (n:=rest) (k:=20) (by omega);refine Z1f (zi s3 @Ztd) ?_;refine ⟨Zca (by omega) (by omega),fun g27=>?_⟩;rw [show V.int .i64 (d:Int)::flat ((Zae (dg rest)).map (V.int .i64))=flat ((Zae (d::dg rest)).map (V.int .i64)) from rfl,show 1+(dg rest).length=(Zae (d::dg rest)).length by simp;omega];refine Zdc (fun o=>o==24) [Za .new 1 (V.int .i64) (.mk false (Zae (d::dg rest)))] [(12,.cells .new gq 0 ((Zae q).map (V.int .i64)))] ⟨Zaf rfl rfl (fun _=>rfl),trivial⟩ ⟨FzO.keep rfl zp,trivial⟩ ?_;refine Zn hG ?_ (s:=(Z8g G hG _ false (d::dg rest) (by simp) (by simp;omega)));rw [Zuh _ _ (Nat.le_refl _) (by intro x hx;rcases List.mem_cons.1 hx with rfl | hx;exact h5;exact Zsd _ x hx),val,Z6c];refine Zs ?_
  have hqi:i<q.length:=by omega
  have hq0:q.set i 0=q:=by
   have h0:=hI.zero i (by omega);rw [List.getD_eq_getElem?_getD,List.getElem?_eq_getElem hqi] at h0;have h0:q[i]=0:=h0
   conv=>rhs;rw [← List.set_getElem_self hqi,h0]
  refine AW.block ?_
  refine Zhc (fun (x:(Nat × Bool) × Nat × Nat)=>st [(0,Za c1 1 (V.int .i64) (slD n1 (dg a))),(1,Za c2 1 (V.int .i64) (slD n2 (dg b))),(6,.msl 12 x.1.1 0 (dg a).length 1),(7,Za .any 1 (V.int .i64) (slD x.1.2 (dg x.2.2))),(8,.int .i64 i)] [(12,.cells .new x.1.1 0 ((Zae (q.set i x.2.1)).map (V.int .i64)))])
   (fun x=>x.2.2+x.2.1 * b=d+10 * rest∧(x.1.2=true→dg x.2.2=[])) (fun x=>x.2.2) ((gq,false),0,d+10 * rest) ⟨by show d+10 * rest+0 * b=_;omega,by simp⟩
   (Zb zp (zpf hq0)) ?_
  rintro ⟨⟨gq2,nr2⟩,t,r⟩ ⟨ht,hnr2⟩ L6 hL6;have ht:r+t * b=d+10 * rest:=ht;have hnr2:nr2=true→dg r=[]:=hnr2;have hrr:=Zik (n:=r) (k:=21) (by omega);refine Z1 ?_;refine Zc hG ?_ (s:=(Zps G hG _ _ _ _ r b (Zpl hnr2) s2 (by omega) (by omega)));refine Ze rfl (fun h7=>?_) (fun h7=>?_)
  ·have h7':b≤r:=by simpa using h7
   refine Z1 ?_;refine CallA.pure hG zk ((Z7o G hG _ _ _ _ r b hnr2 h2 (by omega) h7').2.mono ?_);rintro v _ hv;rw [hv];refine Zs ?_
   have gc:((Zae (q.set i t)).map (V.int .i64))[i]? = some (V.int .i64 (t:Int)):=by
    rw [List.getElem?_map,Zro,List.getElem?_set_self hqi]
    try rfl
   have hil:(i:Int)<((dg a).length:Int):=by omega
   have hcl:i+1≤((Zae (q.set i t)).map (V.int .i64)).length:=by simp;omega
   have ht9:t<10:=by
    rcases Nat.lt_or_ge t 10 with h | h
    ·exact h
    ·have:10 * b≤t * b:=Nat.mul_le_mul_right b h
     omega
   have hw:IntKind.i64.wrap ((t:Int)+1)=((t+1:Nat):Int):=by rw [w64 (by omega) (by omega)];omega
   have hset:((Zae (q.set i t)).map (V.int .i64)).set i (V.int .i64 ((t+1:Nat):Int))=(Zae (q.set i (t+1))).map (V.int .i64):=by
    rw [Zae,Zae,List.map_map,List.map_map,List.map_set,List.map_set,List.set_set]
    try rfl
   refine Z1f (zi gc (zi hil (zi @Nat.mul_one (zi hcl (zi hw hset))))) ?_;refine hL6 _ ⟨((gq2,decide (dg r=[])),t+1,r-b),by show r-b<r;omega,⟨?_,?_⟩,Zb zp zp⟩
   ·show r-b+(t+1) * b=d+10 * rest
    rw [Nat.succ_mul];omega
   ·intro h
    have h:=of_decide_eq_true h;rw [Zh6] at h;omega
  ·have h7':r<b:=by simpa using h7
   refine Z1 ?_;refine hL2 _ ⟨hk1,((gq2,nr2),q.set i t,r),⟨hstep t r ht h7' (Zsd a),hnr2⟩,Zb (by simp -implicitDefEqProofs only[go_sem,seval];exact congrArg _ (by rw [w64 (by omega) (by omega)];omega)) zp⟩
 ·have hk1:k=(dg a).length:=by have:=of_decide_eq_false h4;omega
  subst hk1;obtain ⟨hq1,hr1⟩:=hI.done;have hqd:=hI.dig;subst hr1;refine Z1 ?_;rw [show (dg a).length=(Zae q).length by simp [hql]];refine Zdc (fun o=>o==12) [Za .new 1 (V.int .i64) (.mk false (Zae q))] [] ⟨Zaf (fz:=0) (c := .new) (f:=V.int .i64) rfl (zpf @Zdq) (fun _=>rfl),trivial⟩ trivial ?_;refine Zn hG ?_ (s:=(Z8g G hG _ false q (by simp) (by omega)));rw [Zuh _ _ (Nat.le_refl _) hqd,hq1];refine Zs ?_;refine Z ?_;exact ⟨nr,rfl,hnr⟩
theorem Zr5 (G:Nat→V) (hG:GOk G) (a b:Int) (ha:InK .i64 a) (hb:InK .i64 b):Spec Tryz.prog G 100 [.int .i64 a,.int .i64 b] Zm (fun v _=>v=encR (divR a b)):=by
 have ha':=(Zyb a).1 ha;have hb':=(Zyb b).1 hb;refine Zo 0 30 [.tmp 4,.tmp 5] Tryz.func100 fun X=>?_;refine Z1 ?_;refine Z1 ?_;refine Ze rfl (fun h2=>?_) (fun h2=>?_)
 ·have h3:b=0:=by simpa using h2
  refine Z ?_;rw [divR,if_pos h3]
  try rfl
 ·have h3:¬ b=0:=by simpa using h2
  refine Z1 ?_;refine Zn hG ?_ (s:=(Zde G hG a ha));refine Zsf @encLong.eq_1 ?_;refine Zn hG ?_ (s:=(Zde G hG b hb));refine Zsf @encLong.eq_1 ?_;refine CallA.pure hG zk ?_;refine Zs ?_;refine (Zqp G hG _ _ _ _ a.natAbs b.natAbs Zoi Zoi (by omega) (by omega) (by omega)).mono ?_;rintro _ _ ⟨nr,rfl,hnr⟩;refine Zs ?_;refine Z1 ?_;have hq:a.natAbs / b.natAbs≤a.natAbs:=Nat.div_le_self _ _;refine CallA.pure hG zk ?_;refine Zs ?_;rw [← encLong];refine (Zpe G hG _ _ _ _ (show false=true→dg (a.natAbs / b.natAbs)=[] from fun h=>by cases h) (Zsd _) (Z6p (m:=a.natAbs / b.natAbs) (by omega))).mono ?_;rintro _ _ rfl
  have hm:sgn (decide (a<0) != decide (b<0)) (a.natAbs / b.natAbs)=a.tdiv b:=by rw [Zeo]<;>rfl
  rw [Z6c,hm];refine Zsf @encR.eq_1 ?_;refine Z ?_;rw [divR,if_neg h3]
  try rfl
theorem Zo5 (G:Nat→V) (hG:GOk G) (a b:Int) (ha:InK .i64 a) (hb:InK .i64 b):Spec Tryz.prog G 101 [.int .i64 a,.int .i64 b] Zm (fun v _=>v=encR (modR a b)):=by
 have ha':=(Zyb a).1 ha;have hb':=(Zyb b).1 hb;refine Zo 0 27 [.tmp 4,.tmp 5] Tryz.func101 fun X=>?_;refine Z1 ?_;refine Z1 ?_;refine Ze rfl (fun h2=>?_) (fun h2=>?_)
 ·have h3:b=0:=by simpa using h2
  refine Z ?_;rw [modR,if_pos h3]
  try rfl
 ·have h3:¬ b=0:=by simpa using h2
  refine Z1 ?_;refine Zn hG ?_ (s:=(Zde G hG a ha));refine Zsf @encLong.eq_1 ?_;refine Zn hG ?_ (s:=(Zde G hG b hb));refine Zsf @encLong.eq_1 ?_;refine CallA.pure hG zk ?_;refine Zs ?_;refine (Zqp G hG _ _ _ _ a.natAbs b.natAbs Zoi Zoi (by omega) (by omega) (by omega)).mono ?_;rintro _ _ ⟨nr,rfl,hnr⟩;refine Zs ?_;refine Z1 ?_;have hq:a.natAbs % b.natAbs≤a.natAbs:=Nat.mod_le _ _;refine CallA.pure hG zk ?_;refine Zs ?_;rw [← encLong];refine (Zpe G hG _ _ _ _ hnr (Zsd _) (Z6p (m:=a.natAbs % b.natAbs) (by omega))).mono ?_;rintro _ _ rfl
  have hm:sgn (decide (a<0)) (a.natAbs % b.natAbs)=a.tmod b:=by rw [Zpt]<;>rfl
  rw [Z6c,hm];refine Zsf @encR.eq_1 ?_;refine Z ?_;rw [modR,if_neg h3]
  try rfl
def encNE (r:EV):V := .tuple [.int .i64 r.nm,.int .i64 r.er]
def encTE (r:EV):V := .tuple [.bool r.tr,.int .i64 r.er]
theorem Zuc (G:Nat→V) (n e:Int):Spec Tryz.prog G 70 [.int .i64 n,.int .i64 e] Zm (fun v _=>v=encVE (.ofR (n,e))):=by
 refine Zo 0 12 [.cell 4 43,.tmp 5] Tryz.func70 fun X=>?_
 by_cases h:e=0
 ·subst h
  refine Z1 ?_;intro g4;exact Zr
 ·have h1:(e != 0)=true:=by simpa using h
  have h2:EV.ofR (n,e) = .err e:=if_neg h;refine Z1 ?_;intro g4;refine Zf h1 ?_;rw [h2]
  try rfl
theorem Zxa (G:Nat→V) (b:Bool) (e:Int):Spec Tryz.prog G 71 [.bool b,.int .i64 e] Zm (fun v _=>v=encVE (if e=0 then .tru b else .err e)):=by
 refine Zo 0 12 [.cell 4 43,.tmp 5] Tryz.func71 fun X=>?_
 by_cases h:e=0
 ·subst h
  refine Z1 ?_;intro g4;exact Zr
 ·have h1:(e != 0)=true:=by simpa using h
  rw [if_neg h];refine Z1 ?_;intro g4;exact Zq h1
def lk10 (c1 c2:Col) (sl:Sl XN) (env:Sl (List UInt8 × Int)):V := .agg [Za c1 6 Z8 sl,Za c2 2 Zi env]
def RC (G:Nat→V) (sl:Sl XN) (env:Sl (List UInt8 × Int)) (a:Int) (x:EV):Prop:=∀ c1 c2,Spec Tryz.prog G 46 [lk10 c1 c2 sl env,.int .i64 a] Zm (fun v _=>v=encVE x)
theorem Zud {x:EV} (h:x.fine) {e:Int} (hx:x = .err e):e≠0:=by
 subst hx
 rcases h with h | h | h<;>omega
theorem Zoo (G:Nat→V) (hG:GOk G) (c1 c2:Col) (sl:Sl XN) (env:Sl (List UInt8 × Int)) (a:Int) (x:EV) (h:RC G sl env a x) (hf:x.fine):Spec Tryz.prog G 47 [lk10 c1 c2 sl env,.int .i64 a] Zm (fun v _=>v=encNE (x.need 1)):=by
 refine Zo 0 24 [.tmp 4,.tmp 5] Tryz.func47 fun X=>?_;refine Z1f @lk10.eq_1 ?_;intro g2;refine Z1f @lk10.eq_1 ?_;refine Znf (zi @Zk @lk10.eq_1) hG ?_ (s:=(h c1.ent c2.ent));refine Zsf (zi @encVE.eq_1 @encEV.eq_1) ?_;intro g6
 cases x with
 | err e =>
  have he:(e==0)=false:=by simpa using Zud hf rfl
  exact Zq he
 | num n =>
  exact Zr
 | tru b =>
  exact Zr
theorem Zhi (G:Nat→V) (hG:GOk G) (c1 c2:Col) (sl:Sl XN) (env:Sl (List UInt8 × Int)) (a:Int) (x:EV) (h:RC G sl env a x) (hf:x.fine):Spec Tryz.prog G 48 [lk10 c1 c2 sl env,.int .i64 a] Zm (fun v _=>v=encTE (x.need 2)):=by
 refine Zo 0 24 [.tmp 4,.tmp 5] Tryz.func48 fun X=>?_;refine Z1f @lk10.eq_1 ?_;intro g2;refine Z1f @lk10.eq_1 ?_;refine Znf (zi @Zk @lk10.eq_1) hG ?_ (s:=(h c1.ent c2.ent));refine Zsf (zi @encVE.eq_1 @encEV.eq_1) ?_;intro g6
 cases x with
 | err e =>
  have he:(e==0)=false:=by simpa using Zud hf rfl
  exact Zq he
 | num n =>
  exact Zr
 | tru b =>
  exact Zr
theorem two10 (G:Nat→V) (hG:GOk G) (c1 c2:Col) (sl:Sl XN) (env:Sl (List UInt8 × Int)) (n:XN) (A B:EV) (ho:7≤n.op∧n.op≤15) (hA:RC G sl env n.a A) (hB:RC G sl env n.b B) (fA:A.fine) (fB:B.fine) :
  Spec Tryz.prog G 73 [lk10 c1 c2 sl env,Z8 n] Zm (fun v _=>v=encVE (Z5e n.op A B)):=by
 obtain ⟨op,num,name,na,nb,nc⟩:=n;simp only at ho hA hB ⊢;refine Zo 0 113 [.cell 4 43,.tmp 5] Tryz.func73 fun X=>?_;refine Z1f (zi @lk10.eq_1 @Zp) ?_;intro g2 g3 g4;refine Z ?_;refine Znf (zi @Zk (zi @Z2 (zi @lk10.eq_1 @Zp))) hG ?_ (s:=(Zoo G hG c1.ent c2.ent sl env na A hA fA));refine Zsf @encNE.eq_1 ?_
 have hE:∀ e,A.need 1 = .err e→Z5e op A B = .err e:=by
  intro e he;unfold Z5e
  by_cases h11:op≤11
  ·rw [if_pos h11];exact Zpd _ he
  ·rw [if_neg h11,if_pos ho.2];exact Zpd _ he
 by_cases hAe:∃ e,A.need 1 = .err e
 ·obtain ⟨e,he⟩:=hAe
  have h0:(e != 0)=true:=by
   cases A with
   | err e'=>cases he;simpa using Zud fA rfl
   | num a=>cases he
   | tru a=>cases he;rfl
  rw [hE e he,he];exact Zq h0
 obtain ⟨a,rfl⟩:=Zvg fun e he=>hAe ⟨e,he⟩
 try clear hE hAe
 rw [Z1e];refine Zs ?_;refine Z ?_;refine Znf (zi @Zk (zi @Z2 (zi @lk10.eq_1 @Zp))) hG ?_ (s:=(Zoo G hG c1.ent c2.ent sl env nb B hB fB));refine Zsf @encNE.eq_1 ?_
 have hE:∀ e,B.need 1 = .err e→Z5e op (.num a) B = .err e:=by
  intro e he;unfold Z5e
  by_cases h11:op≤11
  ·rw [if_pos h11];exact Zpd (x:=B) (fun b => .ofR (Z7k op a b)) he
  ·rw [if_neg h11,if_pos ho.2];exact Zpd (x:=B) (fun b => .tru (cmpV op a b)) he
 by_cases hBe:∃ e,B.need 1 = .err e
 ·obtain ⟨e,he⟩:=hBe
  have h0:(e != 0)=true:=by
   cases B with
   | err e'=>cases he;simpa using Zud fB rfl
   | num a=>cases he
   | tru a=>cases he;rfl
  rw [hE e he,he];exact Zq h0
 obtain ⟨b,rfl⟩:=Zvg fun e he=>hBe ⟨e,he⟩
 try clear hE hBe hA hB
 rw [Z1e];refine Zs ?_;refine AW.weak (Zb (l:=[(3,.ptr 3 g3 0),(4,.ptr 4 g4 0),(6,.int .i64 a),(8,.int .i64 b),(7,.int .i64 0)]) (m:=[(3,.cells .new g3 0 [.int .u8 op,.int .i64 num,.str name,.int .i64 na,.int .i64 nb,.int .i64 nc]),(4,.cells .new g4 0 [.int .u8 0,.int .i64 0,.bool false])]) zp zp) ?_
 obtain rfl | rfl | rfl | rfl | rfl | rfl | rfl | rfl | rfl:op=7∨op=8∨op=9∨op=10∨op=11∨op=12∨op=13∨op=14∨op=15:=by omega
 ·refine Z ?_
  refine Znf (zi @Zk (zi @Z2 (zi @lk10.eq_1 @Zp))) hG ?_ (s:=(Zn5 G hG a b (Zfb fA) (Zfb fB)));refine Zsf @encR.eq_1 ?_;refine Znf (zi @Zk (zi @Z2 (zi @lk10.eq_1 @Zp))) hG ?_ (s:=(Zuc G _ _));refine Zsf (zi @encVE.eq_1 @encEV.eq_1) ?_;exact Zr
 ·refine Z ?_
  refine Znf (zi @Zk (zi @Z2 (zi @lk10.eq_1 @Zp))) hG ?_ (s:=(Zr5 G hG a b (Zfb fA) (Zfb fB)));refine Zsf @encR.eq_1 ?_;refine Znf (zi @Zk (zi @Z2 (zi @lk10.eq_1 @Zp))) hG ?_ (s:=(Zuc G _ _));refine Zsf (zi @encVE.eq_1 @encEV.eq_1) ?_;exact Zr
 ·refine Z ?_
  refine Znf (zi @Zk (zi @Z2 (zi @lk10.eq_1 @Zp))) hG ?_ (s:=(Zo5 G hG a b (Zfb fA) (Zfb fB)));refine Zsf @encR.eq_1 ?_;refine Znf (zi @Zk (zi @Z2 (zi @lk10.eq_1 @Zp))) hG ?_ (s:=(Zuc G _ _));refine Zsf (zi @encVE.eq_1 @encEV.eq_1) ?_;exact Zr
 ·refine Z ?_
  refine Znf (zi @Zk (zi @Z2 (zi @lk10.eq_1 @Zp))) hG ?_ (s:=(Zs5 G hG a b (Zfb fA) (Zfb fB)));refine Zsf @encR.eq_1 ?_;refine Znf (zi @Zk (zi @Z2 (zi @lk10.eq_1 @Zp))) hG ?_ (s:=(Zuc G _ _));refine Zsf (zi @encVE.eq_1 @encEV.eq_1) ?_;exact Zr
 ·refine Z ?_
  refine Znf (zi @Zk (zi @Z2 (zi @lk10.eq_1 @Zp))) hG ?_ (s:=(Zl5 G hG a b (Zfb fA) (Zfb fB)));refine Zsf @encR.eq_1 ?_;refine Znf (zi @Zk (zi @Z2 (zi @lk10.eq_1 @Zp))) hG ?_ (s:=(Zuc G _ _));refine Zsf (zi @encVE.eq_1 @encEV.eq_1) ?_;exact Zr
 ·refine Z ?_
  refine Znf (zi @Zk (zi @Z2 (zi @lk10.eq_1 @Zp))) hG ?_ (s:=(Zxa G _ 0));refine Zsf (zi @encVE.eq_1 @encEV.eq_1) ?_;exact Zr
 ·refine Z ?_
  refine Znf (zi @Zk (zi @Z2 (zi @lk10.eq_1 @Zp))) hG ?_ (s:=(Zxa G _ 0));refine Zsf (zi @encVE.eq_1 @encEV.eq_1) ?_;exact Zr
 ·refine Z ?_
  refine Znf (zi @Zk (zi @Z2 (zi @lk10.eq_1 @Zp))) hG ?_ (s:=(Zxa G _ 0));refine Zsf (zi @encVE.eq_1 @encEV.eq_1) ?_;exact Zr
 ·refine Z ?_
  refine Znf (zi @Zk (zi @Z2 (zi @lk10.eq_1 @Zp))) hG ?_ (s:=(Zxa G _ 0));refine Zsf (zi @encVE.eq_1 @encEV.eq_1) ?_;exact Zr
theorem Zas (G:Nat→V) (b:Bool):Z5g Tryz.prog G 71 [.bool b,.int .i64 0] (encVE (.tru b)):=⟨by kernel_rfl,(Zxa G b 0).mono fun v _ hv=>by subst hv;rfl⟩
theorem alike10 (G:Nat→V) (hG:GOk G) (c1 c2:Col) (sl:Sl XN) (env:Sl (List UInt8 × Int)) (n:XN) (A B:EV) (ho:16≤n.op∧n.op≤17) (hA:RC G sl env n.a A) (hB:RC G sl env n.b B) (fA:A.fine) (fB:B.fine) :
  Spec Tryz.prog G 74 [lk10 c1 c2 sl env,Z8 n] Zm (fun v _=>v=encVE (Z5e n.op A B)):=by
 have hN:Z5e n.op A B=Zkm n.op A B:=by
  unfold Z5e;rw [if_neg (by omega),if_neg (by omega),if_pos ho.2]
 rw [hN]
 try clear hN
 obtain ⟨op,num,name,na,nb,nc⟩:=n;simp only at ho hA hB ⊢;refine Zo 0 47 [.cell 4 43,.tmp 5] Tryz.func74 fun X=>?_;refine Z1f (zi @lk10.eq_1 @Zp) ?_;intro g2 g3 g4;refine Z ?_;refine Znf (zi @Zk (zi @Z2 (zi @lk10.eq_1 @Zp))) hG ?_ (s:=(hA c1.ent c2.ent));refine Zsf (zi @encVE.eq_1 @encEV.eq_1) ?_;intro g6
 by_cases hAe:∃ e,A = .err e
 ·obtain ⟨e,rfl⟩:=hAe
  have h0:(e != 0)=true:=by simpa using Zud fA rfl
  exact Zq h0
 have hA0:A.er=0:=by cases A<;>first | rfl | exact absurd ⟨_,rfl⟩ hAe
 rw [hA0];refine Z ?_;refine Znf (zi @Zk (zi @Z2 (zi @lk10.eq_1 @Zp))) hG ?_ (s:=(hB c1.ent c2.ent));refine Zsf (zi @encVE.eq_1 @encEV.eq_1) ?_;intro g8
 by_cases hBe:∃ e,B = .err e
 ·obtain ⟨e,rfl⟩:=hBe
  have h0:(e != 0)=true:=by simpa using Zud fB rfl
  have hR:Zkm op A (.err e) = .err e:=by cases A<;>first | rfl | exact absurd ⟨_,rfl⟩ hAe
  rw [hR];exact Zq h0
 have hB0:B.er=0:=by cases B<;>first | rfl | exact absurd ⟨_,rfl⟩ hBe
 rw [hB0];refine AW.weak (Zb (l:=[(3,.ptr 3 g3 0),(4,.ptr 4 g4 0),(6,.ptr 6 g6 0),(8,.ptr 8 g8 0),(7,.int .i64 0)]) (m:=[(3,.cells .new g3 0 [.int .u8 op,.int .i64 num,.str name,.int .i64 na,.int .i64 nb,.int .i64 nc]),(4,.cells .new g4 0 [.int .u8 0,.int .i64 0,.bool false]),(6,.cells .new g6 0 [.int .u8 A.kind,.int .i64 A.nm,.bool A.tr]),(8,.cells .new g8 0 [.int .u8 B.kind,.int .i64 B.nm,.bool B.tr])]) zp zp) ?_;refine AW.weak (Zz (fun o=>o==3 || o==6 || o==8) (l:=[(3,.view .new (.agg [.int .u8 op,.int .i64 num,.str name,.int .i64 na,.int .i64 nb,.int .i64 nc])),(4,.ptr 4 g4 0),(6,.view .new (.agg [.int .u8 A.kind,.int .i64 A.nm,.bool A.tr])),(8,.view .new (.agg [.int .u8 B.kind,.int .i64 B.nm,.bool B.tr])),(7,.int .i64 0)]) (m:=[(4,.cells .new g4 0 [.int .u8 0,.int .i64 0,.bool false])]) ?_ ?_) ?_
 ·refine Zs ?_
  refine ⟨?_,Zd _,?_,?_,Zd _⟩
  ·exact Fz.ptr (v := .agg [.int .u8 op,.int .i64 num,.str name,.int .i64 na,.int .i64 nb,.int .i64 nc]) (c := .new) (fz:=0) rfl zp
  ·exact Fz.ptr (v := .agg [.int .u8 A.kind,.int .i64 A.nm,.bool A.tr]) (c := .new) (fz:=0) rfl zp
  ·exact Fz.ptr (v := .agg [.int .u8 B.kind,.int .i64 B.nm,.bool B.tr]) (c := .new) (fz:=0) rfl zp
 ·simp only [Zl,Zt,and_true]
  exact FzO.keep rfl zp
 try clear hA hB
 cases A with
 | err e'=>exact absurd ⟨_,rfl⟩ hAe
 | num a =>
  cases B with
  | err e'=>exact absurd ⟨_,rfl⟩ hBe
  | num b =>
   rw [Z2q];simp only [EV.kind,EV.nm,EV.tr];refine Z ?_;refine Zy ⟨fun i=>if i=7 then encVE (.tru ((a==b)==(op==16))) else .top,fun i=>if i=0 then .lend else if i=1 then .lend else if i=4 then .lend else .pure⟩ zk hG zk zk ?_;refine Zsf (zi @encVE.eq_1 @encEV.eq_1) ?_;refine ⟨by simp only [Bool.true_and,Bool.and_true];exact Zas G _,?_⟩;exact Zr
  | tru b =>
   simp only [EV.kind,EV.nm,EV.tr];exact Zr
 | tru a =>
  cases B with
  | err e'=>exact absurd ⟨_,rfl⟩ hBe
  | num b =>
   simp only [EV.kind,EV.nm,EV.tr];exact Zr
  | tru b =>
   rw [Z1q];simp only [EV.kind,EV.nm,EV.tr];refine Z ?_;refine Zy ⟨fun i=>if i=7 then encVE (.tru ((a==b)==(op==16))) else .top,fun i=>if i=0 then .lend else if i=1 then .lend else if i=4 then .lend else .pure⟩ zk hG zk zk ?_;refine Zsf (zi @encVE.eq_1 @encEV.eq_1) ?_;refine ⟨by simp only [Bool.true_and,Bool.and_true];exact Zas G _,?_⟩;exact Zr
theorem logic10 (G:Nat→V) (hG:GOk G) (c1 c2:Col) (sl:Sl XN) (env:Sl (List UInt8 × Int)) (n:XN) (A B:EV) (ho:18≤n.op∧n.op≤21) (hA:RC G sl env n.a A) (hB:RC G sl env n.b B) (fA:A.fine) (fB:B.fine) :
  Spec Tryz.prog G 75 [lk10 c1 c2 sl env,Z8 n] Zm (fun v _=>v=encVE (Z5e n.op A B)):=by
 have hN:Z5e n.op A B=Zys n.op A B:=by
  unfold Z5e;rw [if_neg (by omega),if_neg (by omega),if_neg (by omega)]
 rw [hN]
 try clear hN
 obtain ⟨op,num,name,na,nb,nc⟩:=n;simp only at ho hA hB ⊢;refine Zo 0 70 [.cell 4 43,.tmp 5] Tryz.func75 fun X=>?_;refine Z1f (zi @lk10.eq_1 @Zp) ?_;intro g2 g3 g4;refine Z ?_;refine Znf (zi @Zk (zi @Z2 (zi @lk10.eq_1 @Zp))) hG ?_ (s:=(Zhi G hG c1.ent c2.ent sl env na A hA fA));refine Zsf @encTE.eq_1 ?_
 by_cases hAe:∃ e,A.need 2 = .err e
 ·obtain ⟨e,he⟩:=hAe
  have h0:(e != 0)=true:=by
   cases A with
   | err e'=>cases he;simpa using Zud fA rfl
   | tru a=>cases he
   | num a=>cases he;rfl
  have hE:Zys op A B = .err e:=Zpc _ he;rw [hE,he];exact Zq h0
 obtain ⟨a,rfl⟩:=Zid fun e he=>hAe ⟨e,he⟩
 try clear hAe
 rw [Zoc];refine Zs ?_
 have hEr:∀ e,B.need 2 = .err e→(e != 0)=true∧(e==0)=false:=by
  intro e he
  cases B with
  | err e'=>cases he;exact ⟨by simpa using Zud fB rfl,by simpa using Zud fB rfl⟩
  | tru a=>cases he
  | num a=>cases he;exact ⟨rfl,rfl⟩
 have hX:∀ op a,Zys op (.tru a) B=if op=18∧a=false then .tru false else if op=19∧a=true∨op=21∧a=false then .tru true else B.onB fun b => .tru (if op=20 then a != b else b):=fun _ _=>rfl
 obtain rfl | rfl | rfl | rfl:op=18∨op=19∨op=20∨op=21:=by omega
 ·cases a
  ·refine Z ?_
   refine Znf (zi @Zk (zi @Z2 (zi @lk10.eq_1 @Zp))) hG ?_ (s:=(Zxa G _ 0));refine Zsf (zi @encVE.eq_1 @encEV.eq_1) ?_;exact Zr
  ·refine Z ?_
   refine Znf (zi @Zk (zi @Z2 (zi @lk10.eq_1 @Zp))) hG ?_ (s:=(Zhi G hG c1.ent c2.ent sl env nb B hB fB));refine Zsf @encTE.eq_1 ?_
   by_cases hBe:∃ e,B.need 2 = .err e
   ·obtain ⟨e,he⟩:=hBe
    have h00:¬ e=0:=by simpa using (hEr e he).1
    rw [hX,if_neg (by decide),if_neg (by decide),Zpc _ he,he];refine Z ?_;refine Znf (zi @Zk (zi @Z2 (zi @lk10.eq_1 @Zp))) hG ?_ (s:=(Zxa G _ _));simp -implicitDefEqProofs only[go_sem,seval,if_neg h00,encVE,encEV];exact Zr
   obtain ⟨b,rfl⟩:=Zid fun e he=>hBe ⟨e,he⟩;rw [Zoc];refine Zs ?_;refine Z ?_;refine Znf (zi @Zk (zi @Z2 (zi @lk10.eq_1 @Zp))) hG ?_ (s:=(Zxa G _ 0));refine Zsf (zi @encVE.eq_1 @encEV.eq_1) ?_;exact Zr
 ·cases a
  ·refine Z ?_
   refine Znf (zi @Zk (zi @Z2 (zi @lk10.eq_1 @Zp))) hG ?_ (s:=(Zhi G hG c1.ent c2.ent sl env nb B hB fB));refine Zsf @encTE.eq_1 ?_
   by_cases hBe:∃ e,B.need 2 = .err e
   ·obtain ⟨e,he⟩:=hBe
    have h00:¬ e=0:=by simpa using (hEr e he).1
    rw [hX,if_neg (by decide),if_neg (by decide),Zpc _ he,he];refine Z ?_;refine Znf (zi @Zk (zi @Z2 (zi @lk10.eq_1 @Zp))) hG ?_ (s:=(Zxa G _ _));simp -implicitDefEqProofs only[go_sem,seval,if_neg h00,encVE,encEV];exact Zr
   obtain ⟨b,rfl⟩:=Zid fun e he=>hBe ⟨e,he⟩;rw [Zoc];refine Zs ?_;refine Z ?_;refine Znf (zi @Zk (zi @Z2 (zi @lk10.eq_1 @Zp))) hG ?_ (s:=(Zxa G _ 0));refine Zsf (zi @encVE.eq_1 @encEV.eq_1) ?_;exact Zr
  ·refine Z ?_
   refine Znf (zi @Zk (zi @Z2 (zi @lk10.eq_1 @Zp))) hG ?_ (s:=(Zxa G _ 0));refine Zsf (zi @encVE.eq_1 @encEV.eq_1) ?_;exact Zr
 ·cases a
  ·refine Z ?_
   refine Znf (zi @Zk (zi @Z2 (zi @lk10.eq_1 @Zp))) hG ?_ (s:=(Zhi G hG c1.ent c2.ent sl env nb B hB fB));refine Zsf @encTE.eq_1 ?_
   by_cases hBe:∃ e,B.need 2 = .err e
   ·obtain ⟨e,he⟩:=hBe
    have h00:¬ e=0:=by simpa using (hEr e he).1
    rw [hX,if_neg (by decide),if_neg (by decide),Zpc _ he,he];refine Z ?_;refine Znf (zi @Zk (zi @Z2 (zi @lk10.eq_1 @Zp))) hG ?_ (s:=(Zxa G _ _));simp -implicitDefEqProofs only[go_sem,seval,if_neg h00,encVE,encEV];exact Zr
   obtain ⟨b,rfl⟩:=Zid fun e he=>hBe ⟨e,he⟩;rw [Zoc];refine Zs ?_;refine Z ?_;refine Znf (zi @Zk (zi @Z2 (zi @lk10.eq_1 @Zp))) hG ?_ (s:=(Zxa G _ 0));refine Zsf (zi @encVE.eq_1 @encEV.eq_1) ?_;exact Zr
  ·refine Z ?_
   refine Znf (zi @Zk (zi @Z2 (zi @lk10.eq_1 @Zp))) hG ?_ (s:=(Zhi G hG c1.ent c2.ent sl env nb B hB fB));refine Zsf @encTE.eq_1 ?_
   by_cases hBe:∃ e,B.need 2 = .err e
   ·obtain ⟨e,he⟩:=hBe
    have h00:¬ e=0:=by simpa using (hEr e he).1
    rw [hX,if_neg (by decide),if_neg (by decide),Zpc _ he,he];refine Z ?_;refine Znf (zi @Zk (zi @Z2 (zi @lk10.eq_1 @Zp))) hG ?_ (s:=(Zxa G _ _));simp -implicitDefEqProofs only[go_sem,seval,if_neg h00,encVE,encEV];exact Zr
   obtain ⟨b,rfl⟩:=Zid fun e he=>hBe ⟨e,he⟩;rw [Zoc];refine Zs ?_;refine Z ?_;refine Znf (zi @Zk (zi @Z2 (zi @lk10.eq_1 @Zp))) hG ?_ (s:=(Zxa G _ 0));refine Zsf (zi @encVE.eq_1 @encEV.eq_1) ?_;exact Zr
 ·cases a
  ·refine Z ?_
   refine Znf (zi @Zk (zi @Z2 (zi @lk10.eq_1 @Zp))) hG ?_ (s:=(Zxa G _ 0));refine Zsf (zi @encVE.eq_1 @encEV.eq_1) ?_;exact Zr
  ·refine Z ?_
   refine Znf (zi @Zk (zi @Z2 (zi @lk10.eq_1 @Zp))) hG ?_ (s:=(Zhi G hG c1.ent c2.ent sl env nb B hB fB));refine Zsf @encTE.eq_1 ?_
   by_cases hBe:∃ e,B.need 2 = .err e
   ·obtain ⟨e,he⟩:=hBe
    have h00:¬ e=0:=by simpa using (hEr e he).1
    rw [hX,if_neg (by decide),if_neg (by decide),Zpc _ he,he];refine Z ?_;refine Znf (zi @Zk (zi @Z2 (zi @lk10.eq_1 @Zp))) hG ?_ (s:=(Zxa G _ _));simp -implicitDefEqProofs only[go_sem,seval,if_neg h00,encVE,encEV];exact Zr
   obtain ⟨b,rfl⟩:=Zid fun e he=>hBe ⟨e,he⟩;rw [Zoc];refine Zs ?_;refine Z ?_;refine Znf (zi @Zk (zi @Z2 (zi @lk10.eq_1 @Zp))) hG ?_ (s:=(Zxa G _ 0));refine Zsf (zi @encVE.eq_1 @encEV.eq_1) ?_;exact Zr
theorem leaf10 (G:Nat→V) (hG:GOk G) (sl:Sl XN) (hs:sl.l.length<1000000) (env:Sl (List UInt8 × Int)) (hv:env.l.length<1000000) (i:Nat) (n:XN) (hn:sl.l[i]? = some n) (ho:1≤n.op∧n.op≤4):RC G sl env i (Z6d env.l n.op n.num n.name):=by
 intro c1 c2;have hil:i<sl.l.length:=(List.getElem?_eq_some_iff.1 hn).1;obtain ⟨op,num,name,na,nb,nc⟩:=n;refine Zo 0 163 [.cell 4 43,.tmp 5] Tryz.func46 fun X=>?_;refine Z1f @lk10.eq_1 ?_;intro g2 g4;refine Z1f (zi hn (zi @Int.natCast_nonneg (zi @Int.ofNat_lt (zi hil @Zp)))) ?_;intro g6;refine AW.weak (Zz (fun o=>o==2 || o==6) (l:=[(2,.view .new (.agg [Za c1 6 Z8 sl,Za c2 2 Zi env])),(4,.ptr 4 g4 0),(5,.int .i64 0),(6,.view .new (.agg [.int .u8 op,.int .i64 num,.str name,.int .i64 na,.int .i64 nb,.int .i64 nc]))]) (m:=[(4,.cells .new g4 0 [.int .u8 0,.int .i64 0,.bool false])]) ?_ ?_) ?_
 ·refine Zs ?_
  refine ⟨?_,Zd _,Zd _,?_⟩
  ·exact Fz.ptr (v := .agg [Za c1 6 Z8 sl,Za c2 2 Zi env]) (c := .new) (fz:=0) rfl zp
  ·exact Fz.ptr (v := .agg [.int .u8 op,.int .i64 num,.str name,.int .i64 na,.int .i64 nb,.int .i64 nc]) (c := .new) (fz:=0) rfl zp
 ·simp only [Zl,Zt,and_true]
  exact FzO.keep rfl zp
 simp only at ho ⊢
 obtain rfl | rfl | rfl | rfl:op=1∨op=2∨op=3∨op=4:=by omega
 ·refine Z ?_
  refine Znf (zi @Zk (zi @Z2 (zi @lk10.eq_1 @Zp))) hG ?_ (s:=(Zuc G _ 0));refine Zsf (zi @encVE.eq_1 @encEV.eq_1) ?_;exact Zr
 rotate_left
 ·refine Z ?_
  refine Znf (zi @Zk (zi @Z2 (zi @lk10.eq_1 @Zp))) hG ?_ (s:=(Zxa G _ 0));refine Zsf (zi @encVE.eq_1 @encEV.eq_1) ?_;exact Zr
 ·refine Z ?_
  refine Znf (zi @Zk (zi @Z2 (zi @lk10.eq_1 @Zp))) hG ?_ (s:=(Zxa G _ 0));refine Zsf (zi @encVE.eq_1 @encEV.eq_1) ?_;exact Zr
 ·refine Zx fun K1 hK1=>?_
  try clear hK1
  refine Z1 ?_;refine Z1 ?_;refine Zog rfl ?_;refine Zx fun K2 hK2=>?_;refine Z ?_
  refine Zwa env.l.length (fun j (_:Unit)=>st [(2,.view .new (.agg [Za c1 6 Z8 sl,Za c2 2 Zi env])),(4,.ptr 4 g4 0),(5,.int .i64 0),(6,.view .new (.agg [.int .u8 2,.int .i64 num,.str name,.int .i64 na,.int .i64 nb,.int .i64 nc])),(7,.int .i64 j)] [(4,.cells .new g4 0 [.int .u8 0,.int .i64 0,.bool false])]) (fun j _=>Z0d env.l name=Z0d (env.l.drop j) name) 0 () (Nat.zero_le _) rfl
   (Zb zp zp) ?_
  rintro j _ hj hR L hL
  by_cases hjl:j<env.l.length
  ·have hlt:decide ((j:Int)<(env.l.length:Int))=true:=by simpa using hjl
   have hg:env.l[j]? = some env.l[j]:=List.getElem?_eq_getElem hjl;have hd:env.l.drop j=env.l[j]::env.l.drop (j+1):=List.drop_eq_getElem_cons hjl;generalize env.l[j]=p at hg hd;rw [hd] at hR;refine Zf hlt ?_
   by_cases hnm:p.1=name
   ·have hq:(p.1==name)=true:=by simpa using hnm
    refine Zy ⟨fun _ => .top,fun i=>if i=1 then .lend else if i=7 then .lend else .pure⟩ zk hG zk zk ?_;refine Zsf (zi hg (zi @Zzb (zi hjl (zi @Int.natCast_nonneg (zi @Int.ofNat_lt hq))))) ?_;refine Zf (zi hg (zi @Zzb (zi hjl (zi @Int.natCast_nonneg @Int.ofNat_lt)))) ?_;refine Znf (zi @Zk (zi @Z2 (zi @lk10.eq_1 @Zp))) hG ?_ (s:=(Zuc G _ 0));refine Zsf (zi @encVE.eq_1 @encEV.eq_1) ?_
    have hV:Z6d env.l 2 num name = .num p.2:=by
     unfold Z6d;rw [if_neg (by decide),if_pos rfl,hR];unfold Z0d;rw [List.find?_cons_of_pos (by simpa using hnm)]
     try rfl
    rw [hV];exact Zr
   ·have hq:(p.1==name)=false:=by simpa using hnm
    have w1:IntKind.i64.wrap ((j:Int)+1)=(j:Int)+1:=w64 (by omega) (by omega);refine Zy ⟨fun _ => .top,fun i=>if i=1 then .lend else if i=7 then .lend else .pure⟩ zk hG zk zk ?_;refine Zsf (zi hg (zi @Zzb (zi hjl (zi @Int.natCast_nonneg (zi @Int.ofNat_lt hq))))) ?_;refine Zf w1 ?_;refine hL _ ⟨hjl,(),?_,Zb zp zp⟩;rw [hR];unfold Z0d;rw [List.find?_cons_of_neg (by simpa using hnm)]
  ·have hje:j=env.l.length:=by omega
   have hlt:decide ((env.l.length:Int)<(env.l.length:Int))=false:=by simp
   subst hje;rw [List.drop_length] at hR
   have hV:Z6d env.l 2 num name = .err 90:=by
    unfold Z6d;rw [if_neg (by decide),if_pos rfl,hR]
    try rfl
   refine Zf hlt ?_;refine hK2 _ ?_;rw [hV];exact Zr
theorem neg10 (G:Nat→V) (hG:GOk G) (sl:Sl XN) (hs:sl.l.length<1000000) (env:Sl (List UInt8 × Int)) (i:Nat) (n:XN) (hn:sl.l[i]? = some n) (A:EV) (ho:n.op=5) (hA:RC G sl env n.a A) (fA:A.fine):RC G sl env i (Zzw n.op A):=by
 intro c1 c2;have hil:i<sl.l.length:=(List.getElem?_eq_some_iff.1 hn).1;obtain ⟨op,num,name,na,nb,nc⟩:=n;refine Zo 0 163 [.cell 4 43,.tmp 5] Tryz.func46 fun X=>?_;refine Z1f @lk10.eq_1 ?_;intro g2 g4;refine Z1f (zi hn (zi @Int.natCast_nonneg (zi @Int.ofNat_lt (zi hil @Zp)))) ?_;intro g6;refine AW.weak (Zz (fun o=>o==2 || o==6) (l:=[(2,.view .new (.agg [Za c1 6 Z8 sl,Za c2 2 Zi env])),(4,.ptr 4 g4 0),(5,.int .i64 0),(6,.view .new (.agg [.int .u8 op,.int .i64 num,.str name,.int .i64 na,.int .i64 nb,.int .i64 nc]))]) (m:=[(4,.cells .new g4 0 [.int .u8 0,.int .i64 0,.bool false])]) ?_ ?_) ?_
 ·refine Zs ?_
  refine ⟨?_,Zd _,Zd _,?_⟩
  ·exact Fz.ptr (v := .agg [Za c1 6 Z8 sl,Za c2 2 Zi env]) (c := .new) (fz:=0) rfl zp
  ·exact Fz.ptr (v := .agg [.int .u8 op,.int .i64 num,.str name,.int .i64 na,.int .i64 nb,.int .i64 nc]) (c := .new) (fz:=0) rfl zp
 ·simp only [Zl,Zt,and_true]
  exact FzO.keep rfl zp
 simp only at ho hA ⊢;subst ho;have hU:Zzw 5 A=A.onN fun a => .ofR (Go.Hs.told (-a)):=rfl;rw [hU];refine Z ?_;refine Znf (zi @Zk (zi @Z2 (zi @lk10.eq_1 @Zp))) hG ?_ (s:=(Zoo G hG c1.ent c2.ent sl env na A hA fA));refine Zsf @encNE.eq_1 ?_
 by_cases hAe:∃ e,A.need 1 = .err e
 ·obtain ⟨e,he⟩:=hAe
  have h0:(e != 0)=true:=by
   cases A with
   | err e'=>cases he;simpa using Zud fA rfl
   | num a=>cases he
   | tru a=>cases he;rfl
  rw [Zpd _ he,he];exact Zq h0
 obtain ⟨a,rfl⟩:=Zvg fun e he=>hAe ⟨e,he⟩;rw [Z1e];refine Zs ?_;refine Z ?_;refine Znf (zi @Zk (zi @Z2 (zi @lk10.eq_1 @Zp))) hG ?_ (s:=(Zm5 G hG a (Zfb fA)));refine Zsf @encR.eq_1 ?_;refine Znf (zi @Zk (zi @Z2 (zi @lk10.eq_1 @Zp))) hG ?_ (s:=(Zuc G _ _));refine Zsf (zi @encVE.eq_1 @encEV.eq_1) ?_;exact Zr
theorem not10 (G:Nat→V) (hG:GOk G) (sl:Sl XN) (hs:sl.l.length<1000000) (env:Sl (List UInt8 × Int)) (i:Nat) (n:XN) (hn:sl.l[i]? = some n) (A:EV) (ho:n.op=6) (hA:RC G sl env n.a A) (fA:A.fine):RC G sl env i (Zzw n.op A):=by
 intro c1 c2;have hil:i<sl.l.length:=(List.getElem?_eq_some_iff.1 hn).1;obtain ⟨op,num,name,na,nb,nc⟩:=n;refine Zo 0 163 [.cell 4 43,.tmp 5] Tryz.func46 fun X=>?_;refine Z1f @lk10.eq_1 ?_;intro g2 g4;refine Z1f (zi hn (zi @Int.natCast_nonneg (zi @Int.ofNat_lt (zi hil @Zp)))) ?_;intro g6;refine AW.weak (Zz (fun o=>o==2 || o==6) (l:=[(2,.view .new (.agg [Za c1 6 Z8 sl,Za c2 2 Zi env])),(4,.ptr 4 g4 0),(5,.int .i64 0),(6,.view .new (.agg [.int .u8 op,.int .i64 num,.str name,.int .i64 na,.int .i64 nb,.int .i64 nc]))]) (m:=[(4,.cells .new g4 0 [.int .u8 0,.int .i64 0,.bool false])]) ?_ ?_) ?_
 ·refine Zs ?_
  refine ⟨?_,Zd _,Zd _,?_⟩
  ·exact Fz.ptr (v := .agg [Za c1 6 Z8 sl,Za c2 2 Zi env]) (c := .new) (fz:=0) rfl zp
  ·exact Fz.ptr (v := .agg [.int .u8 op,.int .i64 num,.str name,.int .i64 na,.int .i64 nb,.int .i64 nc]) (c := .new) (fz:=0) rfl zp
 ·simp only [Zl,Zt,and_true]
  exact FzO.keep rfl zp
 simp only at ho hA ⊢;subst ho;have hU:Zzw 6 A=A.onB fun b => .tru (!b):=rfl;rw [hU];refine Z ?_;refine Znf (zi @Zk (zi @Z2 (zi @lk10.eq_1 @Zp))) hG ?_ (s:=(Zhi G hG c1.ent c2.ent sl env na A hA fA));refine Zsf @encTE.eq_1 ?_
 by_cases hAe:∃ e,A.need 2 = .err e
 ·obtain ⟨e,he⟩:=hAe
  have h00:¬ e=0:=by
   cases A with
   | err e'=>cases he;exact Zud fA rfl
   | tru a=>cases he
   | num a=>cases he;decide
  rw [Zpc _ he,he];refine Z ?_;refine Znf (zi @Zk (zi @Z2 (zi @lk10.eq_1 @Zp))) hG ?_ (s:=(Zxa G _ _));simp -implicitDefEqProofs only[go_sem,seval,if_neg h00,encVE,encEV];exact Zr
 obtain ⟨b,rfl⟩:=Zid fun e he=>hAe ⟨e,he⟩;rw [Zoc];refine Zs ?_;refine Z ?_;refine Znf (zi @Zk (zi @Z2 (zi @lk10.eq_1 @Zp))) hG ?_ (s:=(Zxa G _ 0));refine Zsf (zi @encVE.eq_1 @encEV.eq_1) ?_;exact Zr
theorem ite10 (G:Nat→V) (hG:GOk G) (sl:Sl XN) (hs:sl.l.length<1000000) (env:Sl (List UInt8 × Int)) (i:Nat) (n:XN) (hn:sl.l[i]? = some n) (A B C:EV) (ho:n.op=22) (hA:RC G sl env n.a A) (hB:RC G sl env n.b B) (hC:RC G sl env n.c C) (fA:A.fine):RC G sl env i (A.onB fun t=>if t=true then B else C):=by
 intro c1 c2;have hil:i<sl.l.length:=(List.getElem?_eq_some_iff.1 hn).1;obtain ⟨op,num,name,na,nb,nc⟩:=n;refine Zo 0 163 [.cell 4 43,.tmp 5] Tryz.func46 fun X=>?_;refine Z1f @lk10.eq_1 ?_;intro g2 g4;refine Z1f (zi hn (zi @Int.natCast_nonneg (zi @Int.ofNat_lt (zi hil @Zp)))) ?_;intro g6;refine AW.weak (Zz (fun o=>o==2 || o==6) (l:=[(2,.view .new (.agg [Za c1 6 Z8 sl,Za c2 2 Zi env])),(4,.ptr 4 g4 0),(5,.int .i64 0),(6,.view .new (.agg [.int .u8 op,.int .i64 num,.str name,.int .i64 na,.int .i64 nb,.int .i64 nc]))]) (m:=[(4,.cells .new g4 0 [.int .u8 0,.int .i64 0,.bool false])]) ?_ ?_) ?_
 ·refine Zs ?_
  refine ⟨?_,Zd _,Zd _,?_⟩
  ·exact Fz.ptr (v := .agg [Za c1 6 Z8 sl,Za c2 2 Zi env]) (c := .new) (fz:=0) rfl zp
  ·exact Fz.ptr (v := .agg [.int .u8 op,.int .i64 num,.str name,.int .i64 na,.int .i64 nb,.int .i64 nc]) (c := .new) (fz:=0) rfl zp
 ·simp only [Zl,Zt,and_true]
  exact FzO.keep rfl zp
 simp only at ho hA hB hC ⊢;subst ho;refine Z ?_;refine Znf (zi @Zk (zi @Z2 (zi @lk10.eq_1 @Zp))) hG ?_ (s:=(Zhi G hG c1.ent c2.ent sl env na A hA fA));refine Zsf @encTE.eq_1 ?_
 by_cases hAe:∃ e,A.need 2 = .err e
 ·obtain ⟨e,he⟩:=hAe
  have h0:(e != 0)=true:=by
   cases A with
   | err e'=>cases he;simpa using Zud fA rfl
   | tru a=>cases he
   | num a=>cases he;rfl
  rw [Zpc _ he,he];exact Zq h0
 obtain ⟨b,rfl⟩:=Zid fun e he=>hAe ⟨e,he⟩;rw [Zoc];refine Zs ?_;cases b
 ·have hR:(EV.tru false).onB (fun t=>if t=true then B else C)=C:=rfl
  rw [hR];refine Z ?_;refine Znf (zi @Zk (zi @Z2 (zi @lk10.eq_1 @Zp))) hG ?_ (s:=(hC c1.ent c2.ent));refine Zsf (zi @encVE.eq_1 @encEV.eq_1) ?_;exact Zr
 ·have hR:(EV.tru true).onB (fun t=>if t=true then B else C)=B:=rfl
  rw [hR];refine Z ?_;refine Znf (zi @Zk (zi @Z2 (zi @lk10.eq_1 @Zp))) hG ?_ (s:=(hB c1.ent c2.ent));refine Zsf (zi @encVE.eq_1 @encEV.eq_1) ?_;exact Zr
theorem bin10 (G:Nat→V) (hG:GOk G) (sl:Sl XN) (hs:sl.l.length<1000000) (env:Sl (List UInt8 × Int)) (i:Nat) (n:XN) (hn:sl.l[i]? = some n) (A B:EV) (ho:7≤n.op∧n.op≤21) (hA:RC G sl env n.a A) (hB:RC G sl env n.b B) (fA:A.fine) (fB:B.fine):RC G sl env i (Z5e n.op A B):=by
 intro c1 c2;have hil:i<sl.l.length:=(List.getElem?_eq_some_iff.1 hn).1;obtain ⟨op,num,name,na,nb,nc⟩:=n;refine Zo 0 163 [.cell 4 43,.tmp 5] Tryz.func46 fun X=>?_;refine Z1f @lk10.eq_1 ?_;intro g2 g4;refine Z1f (zi hn (zi @Int.natCast_nonneg (zi @Int.ofNat_lt (zi hil @Zp)))) ?_;intro g6;refine AW.weak (Zz (fun o=>o==2 || o==6) (l:=[(2,.view .new (.agg [Za c1 6 Z8 sl,Za c2 2 Zi env])),(4,.ptr 4 g4 0),(5,.int .i64 0),(6,.view .new (.agg [.int .u8 op,.int .i64 num,.str name,.int .i64 na,.int .i64 nb,.int .i64 nc]))]) (m:=[(4,.cells .new g4 0 [.int .u8 0,.int .i64 0,.bool false])]) ?_ ?_) ?_
 ·refine Zs ?_
  refine ⟨?_,Zd _,Zd _,?_⟩
  ·exact Fz.ptr (v := .agg [Za c1 6 Z8 sl,Za c2 2 Zi env]) (c := .new) (fz:=0) rfl zp
  ·exact Fz.ptr (v := .agg [.int .u8 op,.int .i64 num,.str name,.int .i64 na,.int .i64 nb,.int .i64 nc]) (c := .new) (fz:=0) rfl zp
 ·simp only [Zl,Zt,and_true]
  exact FzO.keep rfl zp
 simp only at ho hA hB ⊢
 have n1:(op==1)=false:=by simp;omega
 have n2:(op==2)=false:=by simp;omega
 have n3:(op==3)=false:=by simp;omega
 have n4:(op==4)=false:=by simp;omega
 have n5:(op==5)=false:=by simp;omega
 have n6:(op==6)=false:=by simp;omega
 have o21:decide (op≤21)=true:=by simp;omega
 by_cases h15:op≤15
 ·have o15:decide (op≤15)=true:=by simp;omega
  refine Zf (zi n1 (zi n2 (zi n3 (zi n4 (zi n5 (zi n6 o15)))))) ?_;refine Znf (zi @Zk (zi @Z2 (zi @lk10.eq_1 @Zp))) hG ?_ (s:=(two10 G hG c1.ent c2.ent sl env ⟨op,num,name,na,nb,nc⟩ A B ⟨ho.1,h15⟩ hA hB fA fB));refine Zsf (zi @encVE.eq_1 @encEV.eq_1) ?_;exact Zr
 have o15:decide (op≤15)=false:=by simp;omega
 by_cases h17:op≤17
 ·have o17:decide (op≤17)=true:=by simp;omega
  refine Zf (zi n1 (zi n2 (zi n3 (zi n4 (zi n5 (zi n6 (zi o15 o17))))))) ?_;refine Znf (zi @Zk (zi @Z2 (zi @lk10.eq_1 @Zp))) hG ?_ (s:=(alike10 G hG c1.ent c2.ent sl env ⟨op,num,name,na,nb,nc⟩ A B ⟨show 16≤op by omega,h17⟩ hA hB fA fB));refine Zsf (zi @encVE.eq_1 @encEV.eq_1) ?_;exact Zr
 have o17:decide (op≤17)=false:=by simp;omega
 refine Zf (zi n1 (zi n2 (zi n3 (zi n4 (zi n5 (zi n6 (zi o15 (zi o17 o21)))))))) ?_;refine Znf (zi @Zk (zi @Z2 (zi @lk10.eq_1 @Zp))) hG ?_ (s:=(logic10 G hG c1.ent c2.ent sl env ⟨op,num,name,na,nb,nc⟩ A B ⟨show 18≤op by omega,ho.2⟩ hA hB fA fB));refine Zsf (zi @encVE.eq_1 @encEV.eq_1) ?_;exact Zr
theorem Zk7 (G:Nat→V) (hG:GOk G) (sl:Sl XN) (hs:sl.l.length<1000000) (env:Sl (List UInt8 × Int)) (hv:env.l.length<1000000) (hm:∀ p∈env.l,Z2b p.2=true) (x:X) :
  ∀ b:Nat,x.ok=true→Zje x→At sl.l x b→RC G sl env ((b+x.size-1:Nat):Int) (evX env.l x):=by
 induction x with
 | leaf op num name =>
  intro b h hn hat;simp only [X.ok,Bool.and_eq_true,decide_eq_true_eq] at h;have hr:=(Zke h.1).1;exact leaf10 G hG sl hs env hv _ _ hat.get ⟨hr,h.2⟩
 | un op a ih =>
  intro b h hn hat;have hsz:=a.size_pos;simp only [X.ok,Bool.and_eq_true,decide_eq_true_eq] at h;have na:Zje a:=fun o n nm hm=>hn o n nm (by simp [Zmc,hm]);have hA:=ih b h.2 na hat.un;rw [show ((b+a.size-1:Nat):Int)=(b:Int)+a.size-1 by omega] at hA
  obtain h5 | h6:op=5∨op=6:=by omega
  ·exact neg10 G hG sl hs env _ _ hat.get (evX env.l a) h5 hA (Zqd hm a h.2 na)
  ·exact not10 G hG sl hs env _ _ hat.get (evX env.l a) h6 hA (Zqd hm a h.2 na)
 | bin op a c iha ihc =>
  intro b h hn hat;have hsz:=a.size_pos;have hsc:=c.size_pos;simp only [X.ok,Bool.and_eq_true,decide_eq_true_eq] at h;have na:Zje a:=fun o n nm hm=>hn o n nm (by simp [Zmc,hm]);have nc:Zje c:=fun o n nm hm=>hn o n nm (by simp [Zmc,hm]);have hA:=iha b h.1.2 na hat.bin.1;have hC:=ihc (b+a.size) h.2 nc hat.bin.2;rw [show ((b+a.size-1:Nat):Int)=(b:Int)+a.size-1 by omega] at hA;rw [show ((b+a.size+c.size-1:Nat):Int)=(b:Int)+a.size+c.size-1 by omega] at hC;exact bin10 G hG sl hs env _ _ hat.get (evX env.l a) (evX env.l c) h.1.1 hA hC (Zqd hm a h.1.2 na) (Zqd hm c h.2 nc)
 | ite a c d iha ihc ihd =>
  intro b h hn hat;have hsz:=a.size_pos;have hsc:=c.size_pos;have hsd:=d.size_pos;simp only [X.ok,Bool.and_eq_true] at h;have na:Zje a:=fun o n nm hm=>hn o n nm (by simp [Zmc,hm]);have nc:Zje c:=fun o n nm hm=>hn o n nm (by simp [Zmc,hm]);have nd:Zje d:=fun o n nm hm=>hn o n nm (by simp [Zmc,hm]);have hA:=iha b h.1.1 na hat.ite.1;have hC:=ihc (b+a.size) h.1.2 nc hat.ite.2.1;have hD:=ihd (b+a.size+c.size) h.2 nd hat.ite.2.2;rw [show ((b+a.size-1:Nat):Int)=(b:Int)+a.size-1 by omega] at hA;rw [show ((b+a.size+c.size-1:Nat):Int)=(b:Int)+a.size+c.size-1 by omega] at hC;rw [show ((b+a.size+c.size+d.size-1:Nat):Int)=(b:Int)+a.size+c.size+d.size-1 by omega] at hD;exact ite10 G hG sl hs env _ _ hat.get (evX env.l a) (evX env.l c) (evX env.l d) rfl hA hC hD (Zqd hm a h.1.1 na)
end Go.Hs
end

section
namespace Go.Hs
theorem Z9l {w:List UInt8} (h:isP w≠0):Zoa w=(w.length,isP w)∧0<w.length∧w.length≤64:=by
 unfold isP at h ⊢
 split at h
 ·exact absurd rfl h
 ·rename_i q
  rw [if_neg q];simp only [not_or,Decidable.not_not,Nat.not_lt] at q;refine ⟨Prod.ext q.1 rfl,?_,by omega⟩
  cases w with
  | nil=>exact absurd rfl h
  | cons=>simp
inductive Lx:List UInt8→List (List UInt8)→Prop where
 | nil {s:List UInt8}:blk s=s.length→Lx s []
 | cons {s:List UInt8} {ws:List (List UInt8)} {k:Nat}:blk s<s.length→(Zoa (s.drop (blk s))).1=k→0<k→k≤64→Lx ((s.drop (blk s)).drop k) ws→Lx s ((s.drop (blk s)).take k::ws)
theorem Zf4 {s:List UInt8} (hb:blk s<s.length) {k:Nat} (hk:(Zoa (s.drop (blk s))).1=k) (h0:0<k) (h64:k≤64) :
  isP ((s.drop (blk s)).take k)=(Zoa (s.drop (blk s))).2∧(Zoa (s.drop (blk s))).2≠0:=by
 have hc:=Zuq s;generalize s.drop (blk s)=u at hk hc ⊢
 have hp:Zta [45,45] u=false:=by
  cases u with
  | nil=>rfl
  | cons c r=>exact (hc c r rfl).2
 obtain ⟨q1,q2⟩:=Z3s hp (by omega);rw [hk] at q1;refine ⟨?_,q2⟩;rw [Zaq,if_neg (by rw [List.length_take];omega),q1]
theorem Zy7 {S:List UInt8}:∀ (f i:Nat) (acc l:List Tk),S.length<f+i→i≤S.length→Z2c f S (i+blk (S.drop i)) acc=(l,0,0)→∃ l2,l=acc++l2∧Lx (S.drop i) (l2.map Z6g)
 | 0,i,acc,l,hf,hi,_=>by omega
 | f+1,i,acc,l,hf,hi,h=>by
  have hbl:=Z8s (S.drop i);rw [List.length_drop] at hbl
  by_cases hb:blk (S.drop i)<(S.drop i).length
  ·have hb':=hb
   rw [List.length_drop] at hb'
   have hdd:S.drop (i+blk (S.drop i))=(S.drop i).drop (blk (S.drop i)):=by rw [List.drop_drop]
   by_cases hk:(Zoa (S.drop (i+blk (S.drop i)))).1=0∨(Zoa (S.drop (i+blk (S.drop i)))).1 > 64
   ·rw [Z5o (by omega) (by omega) hk] at h
    have:=congrArg (fun x=>x.2.2) h;simp at this
   ·rw [Z2c,if_pos (by omega),if_neg hk] at h
    rw [hdd] at h hk;simp only [not_or,Nat.not_lt] at hk;have hle:=Zdm ((S.drop i).drop (blk (S.drop i)));rw [List.length_drop,List.length_drop] at hle;obtain ⟨p1,p2⟩:=Zf4 hb rfl (by omega) (by omega);obtain ⟨l2,e1,e2⟩:=Zy7 f (i+blk (S.drop i)+(Zoa ((S.drop i).drop (blk (S.drop i)))).1) _ l (by omega) (by omega) h;refine ⟨_::l2,by rw [e1,List.append_assoc];rfl,?_⟩;rw [List.map_cons]
    have hw:∀ p,Z6g ⟨(Zoa ((S.drop i).drop (blk (S.drop i)))).2,((S.drop i).drop (blk (S.drop i))).take (Zoa ((S.drop i).drop (blk (S.drop i)))).1,p⟩=((S.drop i).drop (blk (S.drop i))).take (Zoa ((S.drop i).drop (blk (S.drop i)))).1:=by
     intro p;unfold Z6g;simp only;rw [p1,if_pos rfl]
    rw [hw];refine .cons hb rfl (by omega) (by omega) ?_;rw [← List.drop_drop,hdd] at e2;exact e2
  ·rw [List.length_drop] at hb
   rw [Z4o (by omega)] at h;have hl:acc=l:=congrArg Prod.fst h;refine ⟨[],by rw [hl,List.append_nil],.nil ?_⟩;rw [List.length_drop];omega
theorem Z4ba {s:List UInt8} {l:List Tk} (h:Zac s=(l,0,0)):Lx s (l.map Z6g):=by
 unfold Zac at h
 split at h
 ·have:=congrArg (fun x=>x.2.2) h
  simp at this
 ·have h2:Z2c (s.length+1) s (0+blk (s.drop 0)) []=(l,0,0):=by simpa using h
  obtain ⟨l2,e1,e2⟩:=Zy7 _ 0 [] l (by omega) (Nat.zero_le _) h2;rw [e1,List.nil_append];simpa using e2
def parW (b:Bool) (ts:List (List UInt8)):List (List UInt8):=if b then [40]::(ts++[[41]]) else ts
def X.W:X→Int→List (List UInt8)
 | .leaf op num name,_=>[if op=1 then putR num else if op=2 then name else sgT op.toNat]
 | .un op a,k=>parW (9<k) (sgT op.toNat::a.W 9)
 | .bin op a b,k=>parW (lvl op.toNat<k) (a.W (lvl op.toNat)++sgT op.toNat::b.W (lvl op.toNat+1))
 | .ite a b c,_=>wIf::(a.W 0++Z4j::(b.W 0++Z5j::(c.W 0++[Zyf])))
def X.fit:X→Prop
 | .leaf _ num _=>num≤9223372036854775807
 | .un _ a=>a.fit
 | .bin _ a b=>a.fit∧b.fit
 | .ite a b c=>a.fit∧b.fit∧c.fit
theorem Z65 {op num:Int} {name:List UInt8} (h:(X.leaf op num name).ok=true):(op=1∧0≤num∧name=[])∨(op=2∧num=0∧isP name=2)∨(op=3∧num=0∧name=[])∨(op=4∧num=0∧name=[]):=by
 simp only [X.ok,Bool.and_eq_true,decide_eq_true_eq] at h;obtain ⟨h1,h2⟩:=h;unfold Zod at h1
 split at h1
 ·cases h1
 rename_i h0;simp only [not_or,Int.not_lt] at h0
 split at h1
 ·simp only [Bool.and_eq_true,beq_iff_eq] at h1
  rename_i q;exact .inr (.inl ⟨q,h1⟩)
 ·rename_i q
  simp only [Bool.and_eq_true,beq_iff_eq,Bool.or_eq_true] at h1 q h0
  rcases h1.2 with q1 | q1
  ·exact .inl ⟨q1,h0.2.2,h1.1⟩
  ·by_cases o1:op=1
   ·exact .inl ⟨o1,h0.2.2,h1.1⟩
   ·by_cases o3:op=3
    ·exact .inr (.inr (.inl ⟨o3,q1,h1.1⟩))
    ·exact .inr (.inr (.inr ⟨by omega,q1,h1.1⟩))
theorem row_inj:∀ (x y:X) (k:Int),x.ok=true→y.ok=true→x.row k=y.row k→x=y:=by
 have last:∀ {a b:List XN} {m n:XN},a++[m]=b++[n]→a=b∧m=n:=by
  intro a b m n h;obtain ⟨q1,q2⟩:=List.append_inj' h rfl;exact ⟨q1,by simpa using q2⟩
 have body:∀ (x:X) (k:Int),∃ b,x.row k=b++[x.top k]:=fun x k=>by obtain ⟨b,h,_⟩:=x.row_top k;exact ⟨b,h⟩
 have opr:∀ (x:X) (k:Int),x.ok=true→match x with
   | .leaf op _ _=>1≤op∧op≤4
   | .un op _=>5≤op∧op≤6
   | .bin op _ _=>7≤op∧op≤21
   | .ite .. => True:=by
  intro x k h
  cases x with
  | leaf op num name=>rcases Z65 h with ⟨h,_⟩ | ⟨h,_⟩ | ⟨h,_⟩ | ⟨h,_⟩<;>(show 1≤op∧op≤4;omega)
  | un op a=>simp only [X.ok,Bool.and_eq_true,decide_eq_true_eq] at h;exact h.1
  | bin op a b=>simp only [X.ok,Bool.and_eq_true,decide_eq_true_eq] at h;exact h.1.1
  | ite=>trivial
 intro x
 induction x with
 | leaf op num name =>
  intro y k hx hy h;have o1:=opr _ k hx;have o2:=opr y k hy;obtain ⟨b,hb⟩:=body y k;rw [hb] at h;obtain ⟨_,ht⟩:=last (a:=[]) h
  cases y with
  | leaf op' num' name'=>simp only [X.top,XN.mk.injEq] at ht;obtain ⟨rfl,rfl,rfl,_⟩:=ht;rfl
  | un op' a'=>simp only [X.top,XN.mk.injEq] at ht o1 o2;omega
  | bin op' a' b'=>simp only [X.top,XN.mk.injEq] at ht o1 o2;omega
  | ite a' b' c'=>simp only [X.top,XN.mk.injEq] at ht o1 o2;omega
 | un op a iha =>
  intro y k hx hy h;have o1:=opr _ k hx;have o2:=opr y k hy
  cases y with
  | leaf op' num' name' =>
   have ht:=(last (b:=[]) h).2;simp only [XN.mk.injEq] at ht o1 o2;omega
  | un op' a' =>
   obtain ⟨hr,ht⟩:=last h;simp only [XN.mk.injEq] at ht;simp only [X.ok,Bool.and_eq_true] at hx hy;rw [iha a' k hx.2 hy.2 hr,ht.1]
  | bin op' a' b' =>
   have ht:=(last h).2;simp only [XN.mk.injEq] at ht o1 o2;omega
  | ite a' b' c' =>
   have ht:=(last h).2;simp only [XN.mk.injEq] at ht o1 o2;omega
 | bin op a b iha ihb =>
  intro y k hx hy h;have o1:=opr _ k hx;have o2:=opr y k hy
  cases y with
  | leaf op' num' name' =>
   have ht:=(last (b:=[]) h).2;simp only [XN.mk.injEq] at ht o1 o2;omega
  | un op' a' =>
   have ht:=(last h).2;simp only [XN.mk.injEq] at ht o1 o2;omega
  | bin op' a' b' =>
   obtain ⟨hr,ht⟩:=last h;simp only [XN.mk.injEq] at ht;simp only [X.ok,Bool.and_eq_true] at hx hy
   have hs:a.size=a'.size:=by omega
   obtain ⟨q1,q2⟩:=List.append_inj hr (by rw [X.row_len,X.row_len];exact hs);rw [← hs] at q2;rw [iha a' k hx.1.2 hy.1.2 q1,ihb b' _ hx.2 hy.2 q2,ht.1]
  | ite a' b' c' =>
   have ht:=(last h).2;simp only [XN.mk.injEq] at ht o1 o2;omega
 | ite a b c iha ihb ihc =>
  intro y k hx hy h;have o2:=opr y k hy
  cases y with
  | leaf op' num' name' =>
   have ht:=(last (b:=[]) h).2;simp only [XN.mk.injEq] at ht o2;omega
  | un op' a' =>
   have ht:=(last h).2;simp only [XN.mk.injEq] at ht o2;omega
  | bin op' a' b' =>
   have ht:=(last h).2;simp only [XN.mk.injEq] at ht o2;omega
  | ite a' b' c' =>
   obtain ⟨hr,ht⟩:=last h;simp only [XN.mk.injEq] at ht;simp only [X.ok,Bool.and_eq_true] at hx hy
   have hs:a.size=a'.size:=by omega
   have hs2:b.size=b'.size:=by omega
   obtain ⟨q1,q2⟩:=List.append_inj hr (by rw [List.length_append,List.length_append,X.row_len,X.row_len,X.row_len,X.row_len];omega);obtain ⟨q3,q4⟩:=List.append_inj q1 (by rw [X.row_len,X.row_len];exact hs);rw [← hs] at q4 q2;rw [← hs2] at q2;rw [iha a' k hx.1.1 hy.1.1 q3,ihb b' _ hx.1.2 hy.1.2 q4,ihc c' _ hx.2 hy.2 q2]
def ErrS (x:Bool × RS):Prop:=x.1=false→x.2.e≠0
theorem Zgd {x:Bool × RS} {k:RS→Bool × RS} (h1:ErrS x) (h2:x.1=true→ErrS (k x.2)):ErrS (andThen x k):=by
 obtain ⟨b,r⟩:=x;cases b
 ·exact h1
 ·exact h2 rfl
theorem ErrS.ok {x:RS}:ErrS (true,x):=fun h=>by cases h
theorem Zhq (l:List Tk) (w:List UInt8) (r:RS):ErrS (Ztf l w r):=by
 unfold Ztf
 split
 ·intro _;show (80:Int)≠0;decide
 ·exact .ok
theorem Z0y {l:List Tk}:∀ (f:Nat) (n:Int) (r:RS),l.length<f+r.i→r.i≤l.length→ErrS (Z3 l f n r)
 | 0,n,r,h,h2=>by omega
 | f+1,n,r,h,h2=>by
  have hin:∀ n (r':RS),r.i<r'.i→r'.i≤l.length→ErrS (Z3 l f n r'):=fun n r' a b=>Z0y f n r' (by omega) b;have hbs:=Zqc l f;rw [Z3];refine Zgd ?_ fun _=>?_
  ·have hkl:(Z7 l r.i).kind≠0→r.i+1≤l.length:=fun q=>Zug q
   unfold Z5a
   split
   ·unfold Zcd
    split
    ·rename_i q;intro _;exact q
    ·exact .ok
   split
   ·exact .ok
   split
   ·intro _;show (80:Int)≠0;decide
   rename_i k0;have hlt:=hkl k0
   split
   ·exact Zgd (hin 9 r.adv (Nat.lt_succ_self _) hlt) fun _ => .ok
   split
   ·exact Zgd (hin 1 r.adv (Nat.lt_succ_self _) hlt) fun _=>Zhq _ _ _
   split
   ·unfold Zab
    have b0:=Zvd l wIf r;refine Zgd (Zhq _ _ _) fun q1=>?_;have m1:=b0.2 q1
    have u1:r.i+1≤(Ztf l wIf r).2.i:=by
     unfold Ztf at q1 ⊢
     split at q1
     ·cases q1
     ·rename_i qq;rw [if_neg qq];exact Nat.le_refl _
    have i1:=m1.inn h2;generalize (Ztf l wIf r).2=r1 at u1 i1 ⊢;have b1:=hbs 1 r1;refine Zgd (hin 1 r1 u1 i1) fun _=>?_;have u2:=b1.up;have i2:=b1.inn i1;generalize (Z3 l f 1 r1).2=a at u2 i2 ⊢;have b2:=(Zvd l Z4j a).1;refine Zgd (Zhq _ _ _) fun _=>?_;have u3:=b2.up;have i3:=b2.inn i2;generalize (Ztf l Z4j a).2=r2 at u3 i3 ⊢;have b3:=hbs 1 r2;refine Zgd (hin 1 r2 (by omega) i3) fun _=>?_;have u4:=b3.up;have i4:=b3.inn i3;generalize (Z3 l f 1 r2).2=b at u4 i4 ⊢;have b4:=(Zvd l Z5j b).1;refine Zgd (Zhq _ _ _) fun _=>?_;have u5:=b4.up;have i5:=b4.inn i4;generalize (Ztf l Z5j b).2=r3 at u5 i5 ⊢;refine Zgd (hin 1 r3 (by omega) i5) fun _=>?_;exact Zgd (Zhq _ _ _) fun _ => .ok
   split
   ·exact .ok
   ·intro _;show (80:Int)≠0;decide
  ·have hb:=Zkh hbs r
   have u0:=hb.up;have i0:=hb.inn h2;generalize (Z5a l (Z3 l f) r).2=q at u0 i0 ⊢
   have key:∀ (m:Nat) (q:RS),r.i≤q.i→q.i≤l.length→ErrS (Z8b l (Z3 l f) n m q):=by
    intro m
    induction m with
    | zero=>intro q _ _;exact .ok
    | succ m ih =>
     intro q hq hl;rw [Z8b]
     split
     ·exact .ok
     ·rename_i op ho
      split
      ·exact .ok
      ·have hb:=hbs (lvl op+1) q.adv
       have hlt:=Z0g ho;refine Zgd (hin _ q.adv (by show r.i<q.i+1;omega) hlt) fun _=>?_;refine ih _ ?_ ?_
       ·have:=hb.up
        show r.i≤_
        have h3:q.i+1≤_:=this;simp only [Zif];omega
       ·simp only [Zif];exact hb.inn hlt
   exact key _ q u0 i0
theorem Gr.size {n:Int} {ts:List (List UInt8)} {x:X} (h:Gr n ts x):x.size≤ts.length:=by
 induction h<;>simp only [X.size,List.length_cons,List.length_append,List.length_nil]<;>omega
theorem Gr.fit {n:Int} {ts:List (List UInt8)} {x:X} (h:Gr n ts x):x.fit:=by
 induction h with
 | @num n t v h1 h2 =>
  show v≤9223372036854775807
  have hp:(Z7b (Znd t)).1≤9223372036854775807:=by
   have ht:∀ z:Int,(told z).1≤9223372036854775807:=by
    intro z;unfold told
    split
    ·rename_i q
     simp only [Z2b,decide_eq_true_eq] at q;exact q.2
    ·show (0:Int)≤_;decide
   generalize Znd t=u;unfold Z7b;generalize (u.head? == some 45)=bl;cases bl
   ·simp only [Bool.false_eq_true,if_false]
    split
    ·show (0:Int)≤_;decide
    ·exact ht _
   ·simp only [if_true]
    split
    ·show (0:Int)≤_;decide
    ·exact ht _
  rw [h2] at hp;exact hp
 | name=>show (0:Int)≤_;decide
 | tr=>show (0:Int)≤_;decide
 | fa=>show (0:Int)≤_;decide
 | neg _ _ ih=>exact ih
 | not _ _ ih=>exact ih
 | par _ ih=>exact ih
 | bin _ _ _ _ _ i1 i2=>exact ⟨i1,i2⟩
 | ite _ _ _ i1 i2 i3=>exact ⟨i1,i2,i3⟩
theorem Z24 {s:List UInt8} {l:List Tk} (h:Zac s=(l,0,0)):l.length≤s.length:=by
 have key:∀ {s:List UInt8} {ws:List (List UInt8)},Lx s ws→ws.length≤s.length:=by
  intro s ws h
  induction h with
  | nil=>exact Nat.zero_le _
  | @cons s ws k hb hk h0 h64 _ ih =>
   have hle:=Zdm (s.drop (blk s));rw [hk,List.length_drop] at hle;rw [List.length_drop,List.length_drop] at ih;simp only [List.length_cons];omega
 have:=key (Z4ba h);rwa [List.length_map] at this
end Go.Hs
end

section
namespace Go.Hs
open Go.Proofs
set_option maxHeartbeats 1000000
set_option maxRecDepth 10000
section
structure EvIn (s:Sl XN) (env:Sl (List UInt8 × Int)):Prop where
 hs:s.l.length<1000000
 hnm:∀ n∈s.l,n.name.length<100000
 hnum:∀ n∈s.l,Z2b n.num=true
 hv:env.l.length<1000000
 hf:∀ p∈env.l,Z2b p.2=true
theorem Z5m {x:X} (h:∀ n∈x.row 0,Z2b n.num=true):Zje x:=by
 intro op num name hm;obtain ⟨b,hb⟩:=Z9t hm;have ht:=hb.top;have:=h _ (List.mem_of_getElem? ht);exact this
theorem Zuf {l:List XN} (h:Zra l=0):∃ x:X,x.ok=true∧l=x.row 0:=by
 refine Zzm.1 ?_;rw [Zpk];unfold Zra at h
 split at h
 ·cases h
 ·rename_i h0;simpa using h0
open Classical in
noncomputable def evL (env:List (List UInt8 × Int)) (l:List XN):EV :=
 if h:Zra l=0 then evX env (Zuf h).choose else .err (Zra l)
theorem Z81 {env:List (List UInt8 × Int)} {l:List XN} (h:Zra l≠0):evL env l = .err (Zra l):=dif_neg h
theorem Zen {env:List (List UInt8 × Int)} {x:X} (hx:x.ok=true) (h:Zra (x.row 0)=0):evL env (x.row 0)=evX env x:=by
 unfold evL;rw [dif_pos h];have hc:=(Zuf h).choose_spec;exact congrArg (evX env) (row_inj _ _ 0 hc.1 hx hc.2.symm)
theorem Z51 {env:List (List UInt8 × Int)} {l:List XN} {k:Int} (hnum:∀ n∈l,Z2b n.num=true):Z5aa env l k ((evL env l).need k):=by
 by_cases h:Zra l=0
 ·right
  obtain ⟨x,hx,rfl⟩:=Zuf h;exact ⟨h,x,hx,Z5m hnum,rfl,by rw [Zen hx h]⟩
 ·left
  exact ⟨h,by rw [Z81 h]<;>rfl⟩
theorem Zw1 (G:Nat→V) (hE:GExp G) (c c2:Col) (s:Sl XN) (env:Sl (List UInt8 × Int)) (h:EvIn s env):Spec Tryz.prog G 22 [.agg [Za c 6 Z8 s],Za c2 2 Zi env] Zm (fun v _=>v=encNE ((evL env.l s.l).need 1)):=by
 have hG:=hE.ok;refine Zo 0 17 [.tmp 4,.tmp 5] Tryz.func22 fun X=>?_;refine Z1 ?_;intro g2;refine Z ?_;refine Znf (zi @Zk @Z2) hG ?_ (s:=(Z95 G hE c.ent c2.ent s h.hs h.hnm env h.hv h.hf 1 (by decide) _ (Z51 h.hnum)));refine Zsf (zi @encVE.eq_1 @encEV.eq_1) ?_;intro g6;exact Zr
theorem eval10 (G:Nat→V) (hG:GOk G) (c c2:Col) (s:Sl XN) (env:Sl (List UInt8 × Int)) (h:EvIn s env):Spec Tryz.prog G 21 [Za c 6 Z8 s,Za c2 2 Zi env] Zm (fun v _=>v=encVE (evL env.l s.l)):=by
 refine Zo 0 22 [.cell 4 43,.tmp 5] Tryz.func21 fun X=>?_;refine Z1 ?_;intro g4
 have hc0:(Zra s.l != 0)=false∨(Zra s.l != 0)=true:=by cases (Zra s.l != 0)<;>simp
 refine Z ?_;refine Zcf @Zk hG ?_ (s:=(Zrk G hG c.ent s h.hs h.hnm))
 by_cases hc:Zra s.l=0
 rotate_left
 ·have hcb:(Zra s.l != 0)=true:=by simpa using hc
  rw [Z81 hc];exact Zq hcb
 obtain ⟨x,hx,hl⟩:=Zuf hc
 have hsz:((0+x.size-1:Nat):Int)=(s.l.length:Int)-1:=by
  have:=x.size_pos;rw [hl,Go.Hs.X.row_len];omega
 have hn:=Z5m (hl ▸ h.hnum);have hW:=Zk7 G hG s h.hs env h.hv h.hf x 0 hx hn (hl ▸ Z9h x);have hF:=Zqd h.hf x hx hn
 have hLx:evL env.l s.l=evX env.l x:=by rw [hl,Zen hx (hl ▸ hc)]
 rw [hsz] at hW;rw [hLx];have hw3:IntKind.i64.wrap ((s.l.length:Int)-1)=(s.l.length:Int)-1:=w64 (by have:=h.hs;omega) (by have:=h.hs;omega);rw [hc];refine Zf hw3 ?_;refine Znf (zi @Zk (zi @Z2 @Zp)) hG ?_ (s:=(hW c.ent c2.ent));refine Zsf (zi @encVE.eq_1 @encEV.eq_1) ?_;exact Zr
theorem num10 (G:Nat→V) (hG:GOk G) (c c2:Col) (s:Sl XN) (env:Sl (List UInt8 × Int)) (h:EvIn s env):Spec Tryz.prog G 23 [Za c 6 Z8 s,Za c2 2 Zi env] Zm (fun v _=>v=encNE ((evL env.l s.l).need 1)):=by
 refine Zo 0 21 [.tmp 4,.tmp 5] Tryz.func23 fun X=>?_;refine Z1 ?_
 have hc0:(Zra s.l != 0)=false∨(Zra s.l != 0)=true:=by cases (Zra s.l != 0)<;>simp
 refine Z ?_;refine Zcf @Zk hG ?_ (s:=(Zrk G hG c.ent s h.hs h.hnm))
 by_cases hc:Zra s.l=0
 rotate_left
 ·have hcb:(Zra s.l != 0)=true:=by simpa using hc
  rw [Z81 hc];exact Zq hcb
 obtain ⟨x,hx,hl⟩:=Zuf hc
 have hsz:((0+x.size-1:Nat):Int)=(s.l.length:Int)-1:=by
  have:=x.size_pos;rw [hl,Go.Hs.X.row_len];omega
 have hn:=Z5m (hl ▸ h.hnum);have hW:=Zk7 G hG s h.hs env h.hv h.hf x 0 hx hn (hl ▸ Z9h x);have hF:=Zqd h.hf x hx hn
 have hLx:evL env.l s.l=evX env.l x:=by rw [hl,Zen hx (hl ▸ hc)]
 rw [hsz] at hW;rw [hLx];have hw3:IntKind.i64.wrap ((s.l.length:Int)-1)=(s.l.length:Int)-1:=w64 (by have:=h.hs;omega) (by have:=h.hs;omega);rw [hc];refine Zf hw3 ?_;refine Znf (zi @Zk (zi @Z2 @Zp)) hG ?_ (s:=(Zoo G hG c.ent c2.ent s env _ (evX env.l x) hW hF));refine Zsf @encNE.eq_1 ?_;exact Zr
end
end Go.Hs
end
