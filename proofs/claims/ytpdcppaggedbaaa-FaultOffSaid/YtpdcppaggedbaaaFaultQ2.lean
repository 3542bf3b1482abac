/- Layer 3: the methods that only read, told as reading only. -/
import Derived.Test.YtpdcppaggedbaaaFaultQ
set_option linter.unusedVariables false
set_option linter.unusedSimpArgs false
namespace Go.Proofs.Ytpdcppaggedbaaa
open Go.RowKit Go.Proofs.YtpdcppaggedbaaaW.PrintWords Go.Proofs.YtpdcppaggedbaaaW.PrintLast Go.Proofs.YtpdcppaggedbaaaW.PrintMore Go.Proofs.Ytpdcppaggedbaaa.PFaultActs
attribute [local go_sem] max2_int min2_int max_two min_two

section
variable {W : World} {g : Nat} {s r i : Int} {o : Bool}
theorem q20 (hG : W.heap[g]? = some (.cells #[.int .i64 s, .int .i64 r, .bool o, .int .i64 i] 44 (0, 0))) :
    Calls Try.prog 20 #[.pointer (some ⟨g, 0, none⟩)] W fun e W' => e = .returned (.int .i64 (U.state ⟨s, r, o, i⟩)) ∧ ∃ n, W' = W.drewN n := by
  have h0 := cellS44_0 hG
  have h1 := cellS44_1 hG
  have h2 := cellS44_2 hG
  clear hG
  cases o
  · obtain ⟨m, hm⟩ : ∃ m : Int, (if s < r then r else s) = m := ⟨_, rfl⟩
    by_cases c : 127 < m
    · have cb : decide (127 < m) = true := decide_eq_true c
      have e : U.state ⟨s, r, false, i⟩ = 1 := by
        simp only [U.state]; rw [if_neg (by simp), if_pos (by split at hm <;> omega)]
      rw [e]; clear e c
      go_enter Try.func20, Try.ntmps20
      go_wp2
      repeat (go_quiet (fail); try go_wp2)
      go_ret
      first | exact ⟨rfl, 0, rfl⟩ | exact ⟨rfl, _, rfl⟩
    · have cb : decide (127 < m) = false := decide_eq_false c
      have e : U.state ⟨s, r, false, i⟩ = 0 := by
        simp only [U.state]; rw [if_neg (by simp), if_neg (by split at hm <;> omega)]
      rw [e]; clear e c
      go_enter Try.func20, Try.ntmps20
      go_wp2
      repeat (go_quiet (fail); try go_wp2)
      go_ret
      first | exact ⟨rfl, 0, rfl⟩ | exact ⟨rfl, _, rfl⟩
  · go_enter Try.func20, Try.ntmps20
    go_wp2
    go_ret
    exact ⟨rfl, 0, rfl⟩
theorem q10 (hG : W.heap[g]? = some (.cells #[.int .i64 s, .int .i64 r, .bool o, .int .i64 i] 44 (0, 0))) :
    Calls Try.prog 10 #[.pointer (some ⟨g, 0, none⟩)] W fun e W' => e = .returned (.int .i64 (U.state ⟨s, r, o, i⟩)) ∧ ∃ n, W' = W.drewN n := by
  go_enter Try.func10, Try.ntmps10
  go_wp2_with (go_at_call 20; refine (q20 hG).mono ?_; rintro e W' ⟨rfl, n, rfl⟩)
  go_ret
  first | exact ⟨rfl, 0, rfl⟩ | exact ⟨rfl, _, rfl⟩
theorem q17 (hG : W.heap[g]? = some (.cells #[.int .i64 s, .int .i64 r, .bool o, .int .i64 i] 44 (0, 0))) :
    Calls Try.prog 17 #[.pointer (some ⟨g, 0, none⟩)] W fun e W' => e = .returned (.bool (U.warns ⟨s, r, o, i⟩)) ∧ ∃ n, W' = W.drewN n := by
  have h0 := cellS44_0 hG
  have h1 := cellS44_1 hG
  have h2 := cellS44_2 hG
  clear hG
  cases o
  · obtain ⟨m, hm⟩ : ∃ m : Int, (if s < r then r else s) = m := ⟨_, rfl⟩
    have e : U.warns ⟨s, r, false, i⟩ = decide (95 < m) := by
      simp only [U.warns, Bool.false_or]; rw [decide_eq_decide]; split at hm <;> omega
    rw [e]; clear e
    go_enter Try.func17, Try.ntmps17
    go_wp2
    repeat (go_quiet (fail); try go_wp2)
    go_ret
    first | exact ⟨rfl, 0, rfl⟩ | exact ⟨rfl, _, rfl⟩
  · go_enter Try.func17, Try.ntmps17
    go_wp2
    repeat (go_quiet (fail); try go_wp2)
    go_ret
    first | exact ⟨rfl, 0, rfl⟩ | exact ⟨rfl, _, rfl⟩
theorem q16 (hG : W.heap[g]? = some (.cells #[.int .i64 s, .int .i64 r, .bool o, .int .i64 i] 38 (0, 0))) :
    Calls Try.prog 16 #[.pointer (some ⟨g, 0, none⟩)] W fun e W' => e = .returned (.int .i64 (U.state ⟨s, r, o, i⟩)) ∧ ∃ n, W' = W.drewN n := by
  have h0 := cellS38_0 hG
  have h1 := cellS38_1 hG
  have h2 := cellS38_2 hG
  clear hG
  cases o
  · by_cases c : 127 < s
    · have cb : decide (127 < s) = true := decide_eq_true c
      have e : U.state ⟨s, r, false, i⟩ = 1 := by simp only [U.state]; rw [if_neg (by simp), if_pos (by omega)]
      rw [e]; clear e
      go_enter Try.func16, Try.ntmps16
      go_wp2
      repeat (go_quiet (fail); try go_wp2)
      go_ret
      first | exact ⟨rfl, 0, rfl⟩ | exact ⟨rfl, _, rfl⟩
    · have cb : decide (127 < s) = false := decide_eq_false c
      by_cases d : 127 < r
      · have db : decide (127 < r) = true := decide_eq_true d
        have e : U.state ⟨s, r, false, i⟩ = 1 := by simp only [U.state]; rw [if_neg (by simp), if_pos (by omega)]
        rw [e]; clear e
        go_enter Try.func16, Try.ntmps16
        go_wp2
        repeat (go_quiet (fail); try go_wp2)
        go_ret
        first | exact ⟨rfl, 0, rfl⟩ | exact ⟨rfl, _, rfl⟩
      · have db : decide (127 < r) = false := decide_eq_false d
        have e : U.state ⟨s, r, false, i⟩ = 0 := by simp only [U.state]; rw [if_neg (by simp), if_neg (by omega)]
        rw [e]; clear e
        go_enter Try.func16, Try.ntmps16
        go_wp2
        repeat (go_quiet (fail); try go_wp2)
        go_ret
        first | exact ⟨rfl, 0, rfl⟩ | exact ⟨rfl, _, rfl⟩
  · go_enter Try.func16, Try.ntmps16
    go_wp2
    go_ret
    exact ⟨rfl, 0, rfl⟩
theorem q18 (hG : W.heap[g]? = some (.cells #[.int .i64 s, .int .i64 r, .bool o, .int .i64 i] 38 (0, 0))) :
    Calls Try.prog 18 #[.pointer (some ⟨g, 0, none⟩)] W fun e W' => e = .returned (.bool (U.warns ⟨s, r, o, i⟩)) ∧ ∃ n, W' = W.drewN n := by
  have h0 := cellS38_0 hG
  have h1 := cellS38_1 hG
  have h2 := cellS38_2 hG
  clear hG
  cases o
  · by_cases c : 95 < s
    · have cb : decide (95 < s) = true := decide_eq_true c
      have e : U.warns ⟨s, r, false, i⟩ = true := by simp [U.warns, c]
      rw [e]; clear e
      go_enter Try.func18, Try.ntmps18
      go_wp2
      repeat (go_quiet (fail); try go_wp2)
      go_ret
      first | exact ⟨rfl, 0, rfl⟩ | exact ⟨rfl, _, rfl⟩
    · have cb : decide (95 < s) = false := decide_eq_false c
      have e : U.warns ⟨s, r, false, i⟩ = decide (95 < r) := by simp [U.warns, c]
      rw [e]; clear e
      go_enter Try.func18, Try.ntmps18
      go_wp2
      repeat (go_quiet (fail); try go_wp2)
      go_ret
      first | exact ⟨rfl, 0, rfl⟩ | exact ⟨rfl, _, rfl⟩
  · go_enter Try.func18, Try.ntmps18
    go_wp2
    repeat (go_quiet (fail); try go_wp2)
    go_ret
    first | exact ⟨rfl, 0, rfl⟩ | exact ⟨rfl, _, rfl⟩
end
end Go.Proofs.Ytpdcppaggedbaaa
