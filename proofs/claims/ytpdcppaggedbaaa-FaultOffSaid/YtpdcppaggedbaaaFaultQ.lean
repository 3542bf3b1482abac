/- Layer 3: the methods that only read, told as reading only; and that the law's small example lives. -/
import Derived.Test.YtpdcppaggedbaaaFaultD4
set_option linter.unusedVariables false
set_option linter.unusedSimpArgs false
namespace Go.Proofs.Ytpdcppaggedbaaa
open Go.RowKit Go.Proofs.YtpdcppaggedbaaaW.PrintWords Go.Proofs.YtpdcppaggedbaaaW.PrintLast Go.Proofs.YtpdcppaggedbaaaW.PrintMore Go.Proofs.Ytpdcppaggedbaaa.PFaultActs
attribute [local go_sem] max2_int min2_int max_two min_two

theorem U.zero_failed : U.zero.failed false = ⟨8, 0, false, 0⟩ := rfl

theorem lives_true (w : World) : Calls Try.prog 13 #[] w fun e w' => e = .returned (.bool true) ∧ Below w.heap.size w w' := by
  have hB := Below.refl w.heap.size w
  go_enter Try.func13, Try.ntmps13
  go_wp2_with (first
    | (go_at_call 8; refine (cNew w _ hB).mono ?_; rintro e W1 ⟨g, rfl, hu1, hB1, _, _⟩)
    | (go_at_call 9; refine (cFailed false hu1 hB1).mono ?_; rintro e W2 ⟨rfl, hu2, hB2, hk2⟩; rw [U.zero_failed] at hu2)
    | (go_at_call 12; refine (cCounts hu2 hB2).mono ?_; rintro e W3 ⟨rfl, hu3, hB3, hk3⟩)
    | (go_at_call 10; refine (cState hu3 hB3).mono ?_; rintro e W4 ⟨rfl, hu4, hB4, hk4⟩))
  go_ret
  exact ⟨rfl, hB4⟩
end Go.Proofs.Ytpdcppaggedbaaa
