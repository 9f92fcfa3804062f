/- A part. No condition. -/
import Derived.Test.YtjplgaebbfabnaaGreatDoorP22
set_option linter.all false
namespace Go.Hs
section
variable{P:Program}
@[go_sem] theorem keepK_one(t e:TypeId)(a v g d:V)(H:Heap)(A:Prop):Z4x P [(t,a,v)] e g d H A=((e=t/\g=a/\d=v)/\Wc P H t a=some v/\A):=by
 apply propext
 constructor
 rintro⟨⟨b,f⟩,c⟩;have b:=List.mem_singleton.1 b;simp only[Prod.mk.injEq]at b;exact⟨b,f _ (List.mem_singleton.2 rfl),c⟩;rintro⟨⟨rfl,rfl,rfl⟩,f,c⟩;refine⟨⟨List.mem_singleton.2 rfl,λp h=>?_⟩,c⟩
 grind
end
end Go.Hs
