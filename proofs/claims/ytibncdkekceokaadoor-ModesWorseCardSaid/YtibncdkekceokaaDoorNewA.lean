/- configs.New: the rules, one by one. -/
import Derived.Test.YtibncdkekceokaaDoorRule3
import Derived.Test.YtibncdkekceokaaDoorOwn
import Derived.Test.YtibncdkekceokaaDoorRepeat
namespace Go.Proofs.YtibncdkekceokaaDoor
open Go.RowKit

theorem rules_any (w : World) :
    Calls Tryd.prog 67 #[] w fun e w' => e = .returned (.slice (some ⟨w.heap.size, 0, none⟩) 10 10) ∧ w.alloc (.cells #[.func (.func 95) #[] #[], .func (.func 97) #[] #[], .func (.func 98) #[] #[], .func (.func 103) #[] #[], .func (.func 104) #[] #[], .func (.func 106) #[] #[], .func (.func 107) #[] #[], .func (.func 110) #[] #[], .func (.func 111) #[] #[], .func (.func 112) #[] #[]] 130) = w' := by
  go_enter Tryd.func67, Tryd.ntmps67
  go_wp2
  go_ret
  exact ⟨rfl, rfl⟩
end Go.Proofs.YtibncdkekceokaaDoor
