/- Part 12 of a proof; no condition. -/
import Derived.Test.YtegjlbpnpiigkaaGreatDoorPart11
set_option linter.unusedSimpArgs false
set_option linter.unusedVariables false
section
namespace Go.Hs
section
variable {P:Program} {E:Ent} {s:AS} {a:Act} {w:World}
def Spec (P:Program) (G:Nat→V) (f:FuncId) (args:List V) (H:Heap) (K:V→Heap→Prop):Prop :=
 ∀ (X:Cx) (cargs:Array Value),X.base=X.w.heap.size→Inv X H→(∀ g,RelG X g (G g))→RelA X cargs args →
  Calls P f cargs X.w (fun e w'=>∃ c v H' Y,e = .returned c∧Y.w=w'∧Goes X H Y H'∧Rel Y c v∧K v H')
theorem Spec.mono {G:Nat→V} {f:FuncId} {args:List V} {H:Heap} {K K':V→Heap→Prop} (h:Spec P G f args H K) (hk:∀ v H',K v H'→K' v H'):Spec P G f args H K' :=
 fun X cargs h0 h1 h2 h3=>(h X cargs h0 h1 h2 h3).mono fun e w' ⟨c,v,H',Y,a1,a2,a3,a4,a5⟩=>⟨c,v,H',Y,a1,a2,a3,a4,hk _ _ a5⟩
def SpecP (P:Program) (G:Nat→V) (kp:Option (V→Heap→Prop)) (f:FuncId) (args:List V) (H:Heap) (K:V→Heap→Prop):Prop :=
 ∀ (X:Cx) (cargs:Array Value),X.base=X.w.heap.size→Inv X H→(∀ g,RelG X g (G g))→RelA X cargs args →
  Calls P f cargs X.w (fun e w'=>∃ c v H' Y,outP kp K e c v H'∧Y.w=w'∧Goes X H Y H'∧Rel Y c v)
theorem SpecP.no {G:Nat→V} {f:FuncId} {args:List V} {H:Heap} {K:V→Heap→Prop} (h:SpecP P G none f args H K):Spec P G f args H K :=
 fun X cargs h0 h1 h2 h3=>(h X cargs h0 h1 h2 h3).mono fun e w' ⟨c,v,H',Y,a1,a2,a3,a4⟩=>by
  rcases a1 with ⟨a1,a5⟩ | ⟨k,hk,_⟩
  ·exact ⟨c,v,H',Y,a1,a2,a3,a4,a5⟩
  ·cases hk
theorem SpecP.mono {G:Nat→V} {kp:Option (V→Heap→Prop)} {f:FuncId} {args:List V} {H:Heap} {K K':V→Heap→Prop} (h:SpecP P G kp f args H K) (hk:∀ v H',K v H'→K' v H'):SpecP P G kp f args H K' :=
 fun X cargs h0 h1 h2 h3=>(h X cargs h0 h1 h2 h3).mono fun e w' ⟨c,v,H',Y,a1,a2,a3,a4⟩=>⟨c,v,H',Y,a1.imp (fun ⟨a,b⟩=>⟨a,hk _ _ b⟩) id,a2,a3,a4⟩
def Zwn (P:Program) (s:AS):ResultVar→Option V
 | .tmp t=>some (s.τ t)
 | .cell p t=>match s.τ p with
  | .ptr o g off=>Z8b P s.H t (.ptr o g off)
  | _=>none
def Zde (P:Program) (s:AS):List ResultVar→Option (List V)
 | []=>some []
 | r::l=>match Zwn P s r,Zde P s l with
  | some v,some m=>some (v::m)
  | _,_=>none
def Zb8 (P:Program) (s:AS) (rs:List ResultVar):Option V :=
 match Zde P s rs with
 | some [v]=>some v
 | some l=>some (.tuple l)
 | none=>none
theorem Z0z {X:Cx} (h:SatX E X s a w) {r:ResultVar} {v:V} (hr:Zwn P s r=some v) :
  ∃ c,(match r with | .tmp t=>pure (a.tmps.getD t undef) | .cell p t=>do loadVar t (← asAddr (a.tmps.getD p undef)):Sem Value).run P w = .ok c w∧Rel X c v:=by
 have hw:=h.hw;subst hw
 cases r with
 | tmp t=>simp [Zwn] at hr;subst hr;exact ⟨_,rfl,h.tm t⟩
 | cell p t =>
  simp only [Zwn] at hr
  split at hr
  ·rename_i o g off hp
   have hp':=h.tm p;rw [hp] at hp';obtain ⟨c,hc,hrel⟩:=Zmt h.go.inv hp' hr;refine ⟨c,?_,hrel⟩;simp only;generalize a.tmps.getD p undef=q at *
   cases hp' with
   | ptr _ _ _ b bs hβ =>
    simp only [Instr.loadAt,Instr.sureAddr,Sem.run_bind,Sem.run_pure,Result.andThen_ok] at hc;simp only [asAddr,Sem.run_bind,Sem.run_pure,Result.andThen_ok,hc]
  ·simp at hr
theorem Z7p {X:Cx} (h:SatX E X s a w):∀ {rs:List ResultVar} {l:List V},Zde P s rs=some l →
  ∃ cs:List Value,(rs.mapM fun r=>(match r with | .tmp t=>pure (a.tmps.getD t undef) | .cell p t=>do loadVar t (← asAddr (a.tmps.getD p undef)):Sem Value)).run P w = .ok cs w ∧
   cs.length=l.length∧∀ i (h1:i<cs.length) (h2:i<l.length),Rel X cs[i] l[i]
 | [],l,hl=>by simp [Zde] at hl;subst hl;exact ⟨[],rfl,rfl,by simp⟩
 | r::rs,l,hl=>by
  simp only [Zde] at hl
  cases h1:Zwn P s r with
  | none=>rw [h1] at hl;simp at hl
  | some v =>
   cases h2:Zde P s rs with
   | none=>rw [h1,h2] at hl;simp at hl
   | some m =>
    rw [h1,h2] at hl;simp at hl;subst hl;obtain ⟨c,hc,hr⟩:=Z0z h h1;obtain ⟨cs,hcs,hlen,hrel⟩:=Z7p h h2;refine ⟨c::cs,?_,by simp [hlen],?_⟩
    ·rw [List.mapM_cons,Sem.run_bind,hc,Result.andThen_ok,Sem.run_bind,hcs]
     rfl
    ·intro i hi1 hi2
     cases i with
     | zero=>exact hr
     | succ i=>exact hrel i (by simpa using hi1) (by simpa using hi2)
theorem Zay {X:Cx} (h:SatX E X s a w) {fn:Func} {v:V} (hr:Zb8 P s fn.results.toList=some v):∃ c,(results fn a.tmps).run P w = .ok c w∧Rel X c v:=by
 unfold Zb8 at hr
 cases hl:Zde P s fn.results.toList with
 | none=>rw [hl] at hr;simp at hr
 | some l =>
  obtain ⟨cs,hcs,hlen,hrel⟩:=Z7p h hl;rw [hl] at hr
  have hm:(fn.results.mapM fun r=>(match r with | .tmp t=>pure (a.tmps.getD t undef) | .cell p t=>do loadVar t (← asAddr (a.tmps.getD p undef)):Sem Value)).run P w = .ok cs.toArray w:=by
   rw [Array.mapM_eq_mapM_toList,Sem.run_map,hcs];rfl
  have hres:(results fn a.tmps).run P w = .ok (if h:cs.toArray.size=1 then cs.toArray[0] else .tuple cs.toArray) w:=by
   unfold results;rw [Sem.run_bind]
   erw [hm]
   rfl
  by_cases h1:∃ u,l=[u]
  ·obtain ⟨u,rfl⟩:=h1
   simp at hr;subst hr
   have hs:cs.toArray.size=1:=by simpa using hlen
   rw [dif_pos hs] at hres;exact ⟨_,hres,by simpa using hrel 0 (by simp at hs;omega) (by simp)⟩
  ·have hr':v = .tuple l:=by
    cases l with
    | nil=>simp at hr;exact hr.symm
    | cons u r =>
     cases r with
     | nil=>exact absurd ⟨u,rfl⟩ h1
     | cons u' r=>simp at hr;exact hr.symm
   subst hr'
   have hs:¬ cs.toArray.size=1:=by
    intro hh
    have:l.length=1:=by simp at hh;omega
    rw [List.length_eq_one_iff] at this;exact h1 this
   rw [dif_neg hs] at hres;refine ⟨_,hres,.tuple _ _ (by simpa using hlen) ?_⟩;intro i hi1 hi2;simpa using hrel i (by simpa using hi1) hi2
def Zuk (P:Program) (rs:List ResultVar) (K:V→Heap→Prop):Exit→AS→Prop
 | .normal,s | .ret,s=>∃ v,Zb8 P s rs=some v∧K v s.H
 | _,_=>False
def Zds (args:List V):Nat→V:=fun t=>if t<args.length then args.getD t .top else .tuple []
theorem Zxk {G:Nat→V} {kp:Option (V→Heap→Prop)} {f:FuncId} {fn:Func} {c:Code} {args:List V} {H:Heap} {K:V→Heap→Prop} (q:Nat) (hf:P.funcs[f]? = some fn) (hb:fn.body=some c) (hn0:Nat.ble args.length fn.ntmps=true)
  (h:∀ X,AW P ⟨X,H,fn.ntmps,q,G,kp,[]⟩ c (Zuk P fn.results.toList K) ⟨Zds args,H⟩):SpecP P G kp f args H K:=by
 intro X cargs hbase hI hG hA;have hn:args.length≤fn.ntmps:=Nat.le_of_ble_eq_true hn0;refine calls_of_wp hf hb ?_;have hlen:=hA.len
 have hs0:Sat ⟨X,H,fn.ntmps,q,G,kp,[]⟩ ⟨Zds args,H⟩ { tmps:=cargs++Array.replicate (fn.ntmps-cargs.size) undef,defers:=[] } X.w:=by
  refine ⟨X,rfl,Goes.refl hI,.none _,by simp;omega,?_,hG⟩;intro t;simp only [Zds]
  by_cases ht:t<args.length
  ·rw [if_pos ht]
   have h1:(cargs++Array.replicate (fn.ntmps-cargs.size) undef).getD t undef=cargs[t]'(by omega):=by
    simp [Array.getD,Array.getElem_append,hlen,ht];intro hh;omega
   rw [h1];have:=hA.rel t (by omega) ht;simpa [List.getD,List.getElem?_eq_getElem ht] using this
  ·rw [if_neg ht]
   have h1:(cargs++Array.replicate (fn.ntmps-cargs.size) undef).getD t undef=undef:=by
    rw [Array.getD_eq_getD_getElem?,Array.getElem?_append_right (by omega)]
    by_cases h2:t-cargs.size<fn.ntmps-cargs.size
    ·rw [Array.getElem?_replicate,if_pos h2];rfl
    ·rw [Array.getElem?_replicate,if_neg h2];rfl
   rw [h1];exact .tuple #[] [] rfl (fun i h1 h2=>by simp at h2)
 refine wp_mono (h X _ _ hs0) ?_;rintro e a' w' (⟨s',⟨Y,hY⟩,hQ⟩ | ⟨ch,rfl,k,c,v,Y,H',hk,rfl,hdf,rfl,hgo,hr,hv⟩)
 ·have fin:(∃ v,Zb8 P s' fn.results.toList=some v∧K v s'.H)→a'.defers=[]∧∃ v,(results fn a'.tmps).run P w' = .ok v w' ∧
    (fun e w'=>∃ c v H' Y,outP kp K e c v H'∧Y.w=w'∧Goes X H Y H'∧Rel Y c v) (.returned v) w':=by
   intro ⟨v,hv,hk⟩;obtain ⟨c,hc,hr⟩:=Zay hY hv;exact ⟨hY.df.nil,c,hc,c,v,s'.H,Y,.inl ⟨rfl,hk⟩,hY.hw,hY.go,hr⟩
  cases e with
  | normal=>exact fin hQ
  | ret=>exact fin hQ
  | exit id=>exact hQ.elim
  | goto l=>exact hQ.elim
  | panic ch=>exact hQ.elim
  | outgrown=>exact hQ.elim
 ·exact ⟨hdf.nil,c,v,H',Y,.inr ⟨k,hk,rfl,hv⟩,rfl,hgo,hr⟩
theorem Z6ba {G:Nat→V} {f:FuncId} {fn:Func} {c:Code} {args:List V} {H:Heap} {K:V→Heap→Prop} (q:Nat) (hf:P.funcs[f]? = some fn) (hb:fn.body=some c) (hn0:Nat.ble args.length fn.ntmps=true)
  (h:∀ X,AW P ⟨X,H,fn.ntmps,q,G,none,[]⟩ c (Zuk P fn.results.toList K) ⟨Zds args,H⟩):Spec P G f args H K:=(Zxk q hf hb hn0 h).no
def Zoi:Nat→List V→Nat→V
 | _,[]=>fun _ => .top
 | k,v::r=>upd (Zoi (k+1) r) k v
theorem Zlj:∀ (l:List V) (k t:Nat),Zoi k l t = .top∨(k≤t∧t-k<l.length∧Zoi k l t=l.getD (t-k) .top)
 | [],k,t => .inl rfl
 | v::r,k,t=>by
  simp only [Zoi,upd]
  by_cases h:t=k
  ·subst h;exact .inr ⟨Nat.le_refl _,by simp,by simp⟩
  ·rw [if_neg h]
   rcases Zlj r (k+1) t with h1 | ⟨h1,h2,h3⟩
   ·exact .inl h1
   ·refine .inr ⟨by omega,by simp;omega,?_⟩
    rw [h3]
    have:t-k=(t-(k+1))+1:=by omega
    rw [this];simp
theorem Zgs {G:Nat→V} {kp:Option (V→Heap→Prop)} {f:FuncId} {fn:Func} {c:Code} {args:List V} {H:Heap} {K:V→Heap→Prop} (q:Nat) (hf:P.funcs[f]? = some fn) (hb:fn.body=some c) (hn0:Nat.ble args.length fn.ntmps=true)
  (h:∀ X,AW P ⟨X,H,fn.ntmps,q,G,kp,[]⟩ c (Zuk P fn.results.toList K) ⟨Zoi 0 args,H⟩):SpecP P G kp f args H K:=by
 refine Zxk q hf hb hn0 fun X=>?_;refine AW.weak ?_ (h X);rintro a w ⟨Y,hY⟩;refine ⟨Y,hY.hw,hY.go,hY.df,hY.sz,fun t=>?_,hY.gl⟩;have h0:=hY.tm t
 rcases Zlj args 0 t with h1 | ⟨_,h2,h3⟩
 ·show Rel Y _ (Zoi 0 args t)
  rw [h1];exact .top _
 ·show Rel Y _ (Zoi 0 args t)
  rw [h3];simp only [Nat.sub_zero] at h2 ⊢;simpa [Zds,h2] using h0
theorem Z8u {G:Nat→V} {f:FuncId} {fn:Func} {c:Code} {args:List V} {H:Heap} {K:V→Heap→Prop} (q:Nat) (hf:P.funcs[f]? = some fn) (hb:fn.body=some c) (hn0:Nat.ble args.length fn.ntmps=true)
  (h:∀ X,AW P ⟨X,H,fn.ntmps,q,G,none,[]⟩ c (Zuk P fn.results.toList K) ⟨Zoi 0 args,H⟩):Spec P G f args H K:=(Zgs q hf hb hn0 h).no
end
end Go.Hs
end
