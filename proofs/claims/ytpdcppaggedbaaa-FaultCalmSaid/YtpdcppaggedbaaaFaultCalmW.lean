/- Layer 3: FaultCalm's walk. -/
import Derived.Test.YtpdcppaggedbaaaFaultQ2
import Derived.LoopTactic
import Derived.OpenShut
import Derived.Test.YtpdcppaggedbaaaTy
set_option linter.unusedVariables false
set_option linter.unusedSimpArgs false
namespace Go.Proofs.Ytpdcppaggedbaaa
open Go.RowKit Go.Proofs.YtpdcppaggedbaaaW.PrintWords Go.Proofs.YtpdcppaggedbaaaW.PrintLast Go.Proofs.YtpdcppaggedbaaaW.PrintMore Go.Proofs.Ytpdcppaggedbaaa.PFaultActs

/-- Behind a failure, and k frames that were sent. -/
def calmU (k : Nat) : U := ⟨((8 - k : Nat) : Int), 0, false, 0⟩
theorem calm_failed (q : Bool) : U.zero.failed q = calmU 0 := by cases q <;> rfl
theorem calm_sent (k : Nat) : (calmU k).sent = calmU (k + 1) := by
  unfold calmU U.sent
  simp only [Bool.false_eq_true, if_false, U.mk.injEq, and_true, true_and]
  split <;> omega
theorem calm_end (k : Nat) (h : 8 ≤ k) : calmU k = U.zero := by
  unfold calmU U.zero
  simp only [U.mk.injEq, and_true, true_and]
  omega

set_option maxHeartbeats 400000 in
theorem calm_walk (a0a : Option Addr) (a0l : Nat) (a0c : Nat) (w : World) (h0_0 : SliceAt 1 B5 R5 w a0a a0l a0c) :
    Calls Try.prog 3 #[.slice a0a a0l a0c] w fun e w' => e = .returned (.bool true) ∧ Below w.heap.size w w' := by
  obtain ⟨hlc, hcm, _, hel⟩ := h0_0
  unfold maxLen at hcm
  have hB := Below.refl w.heap.size w
  have hlen : a0l ≤ 9223372036854775807 := by omega
  clear hcm
  go_enter Try.func3, Try.ntmps3
  go_wp2_with (first
    | (go_at_call 8; refine (cNew w _ hB).mono ?_; rintro e W1 ⟨gu, rfl, hu1, hB1, _, _⟩))
  go_loopw [4] (fun i wr => ∃ k : Nat, k ≤ a0l ∧ i = .int .i64 k ∧ PU w wr gu U.zero ∧ Below w.heap.size w wr) (fun i _ => a0l - (intOf i).toNat)
  case atStart => exact ⟨0, Nat.zero_le _, rfl, hu1, hB1⟩
  case round =>
    obtain ⟨k, hk, rfl, hu, hBr⟩ := hrel
    clear hu1 hB1 hB
    by_cases hlt : k < a0l
    · obtain ⟨ad, rfl, hc⟩ := hel (by omega)
      obtain ⟨c, _, hcc, z, rfl, hz⟩ := hc k hlt
      have hck : w.cell? (ad.add k) = some (.int .u8 z) := by have := hcc 0 (by omega); simpa using this
      obtain ⟨hz0, hz1⟩ := bounds_u8 hz
      clear hc hcc hel hz
      go_wp2_with (first
        | (go_at_call 9; refine (cFailed _ hu hBr).mono ?_; rintro e W1 ⟨rfl, hu1, hB1, hk1⟩; rw [calm_failed] at hu1)
        | (go_at_call 10; refine (cState hu1 hB1).mono ?_; rintro e W2 ⟨rfl, hu2, hB2, hk2⟩; rw [show U.state (calmU 0) = 0 from rfl]))
      clear hu1 hB1 hk1 hk2 hu hBr
      have hzi : (8 : Int) + z ≤ 263 := by omega
      obtain ⟨wo, hwo⟩ : ∃ wo : World, wo = wr := ⟨_, rfl⟩
      subst hwo
      go_loopw [5] (fun i wr => ∃ j : Nat, (j : Int) ≤ 8 + z ∧ i = .int .i64 j ∧ PU w wr gu (calmU j) ∧ Below w.heap.size w wr) (fun i _ => (8 + z).toNat - (intOf i).toNat)
      case atStart => exact ⟨0, by omega, rfl, hu2, hB2⟩
      case round =>
        obtain ⟨j, hj, rfl, hu, hBr⟩ := hrel
        clear hu2 hB2
        have hcj : wr.cell? (ad.add k) = some (.int .u8 z) := (hBr.cell (by exact World.block_lt_of_cell? w _ hck)).trans hck
        by_cases hjl : (j : Int) < 8 + z
        · go_wp2_with (go_at_call 11; refine (cSent hu hBr).mono ?_; rintro e W3 ⟨rfl, hu3, hB3, hk3⟩; rw [calm_sent] at hu3)
          go_roundw
          case rel => exact ⟨j + 1, by omega, by go_num, hu3, hB3⟩
          case measure => simp [intOf]; omega
        · go_wp2_with fail
          rw [calm_end j (by omega)] at hu
          go_roundw
          case rel => exact ⟨k + 1, by omega, by go_num, hu, hBr⟩
          case measure => simp [intOf]; omega
    · go_wp2_with (first
        | (go_at_call 12; refine (cCounts hu hBr).mono ?_; rintro e W1 ⟨rfl, hu1, hB1, hk1⟩; rw [show U.zero.s = 0 from rfl])
        | (go_at_call 13; refine (lives_true _).mono ?_; rintro e W2 ⟨rfl, hB2⟩))
      go_ret
      exact ⟨rfl, hB1.trans (hB2.mono hB1.size)⟩

end Go.Proofs.Ytpdcppaggedbaaa
