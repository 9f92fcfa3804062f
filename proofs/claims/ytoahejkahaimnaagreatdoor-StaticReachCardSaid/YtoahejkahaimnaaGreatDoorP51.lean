/- A part. No condition. -/
import Derived.Test.YtoahejkahaimnaaGreatDoorP33
set_option linter.all false
namespace Go.Hs
section
variable{P:Program}{E:Ent}
theorem Zbj{s:AS}{op:BinOp}{d:Option Nat}{t ty t':TypeId}{x y:Operand}{pos:String}{af:Array Edge}{gd:Option (Nat×Bool)}{ls ms:List V}{r:Bool}(hop:op=.eql\/op=.neq)
  (ht:P.underlying t=some (.struct (P.fieldsOf t))) (hst:P.stoodInHeld t=false) (hg:P.eqGuardType P.depth t=false)
  (hx:s.ev E x=.agg ls) (hy:s.ev E y=.agg ms) (hf:Z8ga P 0 (P.fieldsOf t).toList ls=true) (he:eqCs ls ms=some r):
  Gives P E ⟨d,.binOp op t x y t',ty,pos,af,gd⟩ s (.bool (if op=.eql then r else !r)):=by
 intro X a w hX;have hxx:=hX.ev x;have hyy:=hX.ev y;rw[hx]at hxx;rw[hy]at hyy;have hev:execOp a.eval ⟨d,.binOp op t x y t',ty,pos,af,gd⟩=(do let c <- (do eqGuard op t x y (a.eval x) (a.eval y);binOp op t (a.eval x) (a.eval y));pure (Next.value c)):=rfl;rw[hev];generalize a.eval x=xv at hxx;generalize a.eval y=yv at hyy
 cases hxx with
 |agg xs _ hsx _ hrx=>
  cases hyy with
  |agg ys _ hsy _ hry=>
   have key:(Op.equalIn 10000 t (.agg xs) (.agg ys)).run P X.w=.ok r X.w:=by
    rw[run_equalIn_agg X.w 9999 t xs ys ht hst];refine Z9r (X:=X) 9998 X.w _ 0 ls ms r hf he ?_ ?_;intro j hj;exact⟨xs[j]'zo,by rw[Nat.zero_add,Array.getElem?_eq_getElem],hrx j zo hj⟩;intro j hj;exact⟨ys[j]'zo,by rw[Nat.zero_add,Array.getElem?_eq_getElem],hry j zo hj⟩
   refine⟨.bool (if op=.eql then r else !r),?_,.bool _⟩
   rcases hop with rfl|rfl
   simp only[Sem.run_bind,run_eqGuard_agg X.w _ t x y xs ys hg,Result.andThen_ok,run_eql_struct,key,Sem.run_pure,if_true];simp only[Sem.run_bind,run_eqGuard_agg X.w _ t x y xs ys hg,Result.andThen_ok,run_neq_struct,key,Sem.run_pure];rfl
end
end Go.Hs
