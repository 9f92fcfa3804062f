/- A part. No condition. -/
import Derived.Test.YtoahejkahaimnaaGreatDoorP23
set_option linter.all false
namespace Go.Hs
section
variable{P:Program}
@[go_sem] theorem keepK_one(t t2:TypeId)(a v a2 v2:V)(H:Heap)(A:Prop):Z49 P [(t,a,v)] t2 a2 v2 H A=((t2=t/\a2=a/\v2=v)/\Zvb P H t a=some v/\A):=by
 apply propext;unfold Z49
 constructor
 rintro⟨⟨h1,h2⟩,h3⟩;have h1:=List.mem_singleton.1 h1;simp only[Prod.mk.injEq]at h1;exact⟨h1,h2 _ (List.mem_singleton.2 rfl),h3⟩;rintro⟨⟨rfl,rfl,rfl⟩,h2,h3⟩;refine⟨⟨List.mem_singleton.2 rfl,λp hp=>?_⟩,h3⟩;obtain rfl:=List.mem_singleton.1 hp;exact h2
end
end Go.Hs
