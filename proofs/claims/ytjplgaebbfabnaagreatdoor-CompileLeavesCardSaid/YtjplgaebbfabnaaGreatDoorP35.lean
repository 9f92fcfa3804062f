/- A part. No condition. -/
import Derived.Test.YtjplgaebbfabnaaGreatDoorP31
set_option linter.all false
namespace Go.Hs
section
variable{P:Program}{E:Ent}
theorem Lj{s:AS}{op:BinOp}{d:Option Nat}{t ty l:TypeId}{x y:Operand}{pos:String}{af:Array Edge}{gd:Option (Nat×Bool)}{g h:List V}{r:Bool}(j:op=.eql\/op=.neq)
  (q:P.underlying t=some (.struct (P.fieldsOf t))) (i:P.stoodInHeld t=false) (m:P.eqGuardType P.depth t=false)
  (p:s.ev E x=.agg g) (o:s.ev E y=.agg h) (u:Z9j P 0 (P.fieldsOf t).toList g=true) (v:Zkt g h=some r):
  Gives P E ⟨d,.binOp op t x y l,ty,pos,af,gd⟩ s (.bool (if op=.eql then r else !r)):=by
 intro X a w n;have e:=n.ev x;have b:=n.ev y;rw[p]at e;rw[o]at b;have k:execOp a.eval ⟨d,.binOp op t x y l,ty,pos,af,gd⟩=(do let c <- (do eqGuard op t x y (a.eval x) (a.eval y);binOp op t (a.eval x) (a.eval y));pure (Next.value c)):=rfl;rw[k];generalize a.eval x=A at e;generalize a.eval y=z at b
 cases e with
 |agg xs _ hsx _ hrx=>
  cases b with
  |agg ys _ hsy _ hry=>
   have f:(Op.equalIn 10000 t (.agg xs) (.agg ys)).run P X.w=.ok r X.w:=by
    rw[run_equalIn_agg X.w 9999 t xs ys q i];refine Dg (X:=X) 9998 X.w _ 0 g h r u v ?_ ?_
    grind
    grind
   refine⟨.bool (if op=.eql then r else !r),?_,.bool _⟩
   rcases j with rfl|rfl
   simp only[Sem.run_bind,run_eqGuard_agg X.w _ t x y xs ys m,Result.andThen_ok,run_eql_struct,f,Sem.run_pure,if_true];simp only[Sem.run_bind,run_eqGuard_agg X.w _ t x y xs ys m,Result.andThen_ok,run_neq_struct,f];rfl
end
end Go.Hs
