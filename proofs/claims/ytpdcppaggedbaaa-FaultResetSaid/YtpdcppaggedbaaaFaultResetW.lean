/- Layer 3: FaultReset's walk. -/
import Derived.Test.YtpdcppaggedbaaaFaultApartW
set_option linter.unusedVariables false
set_option linter.unusedSimpArgs false
namespace Go.Proofs.Ytpdcppaggedbaaa
open Go.RowKit Go.Proofs.YtpdcppaggedbaaaW.PrintWords Go.Proofs.YtpdcppaggedbaaaW.PrintLast Go.Proofs.YtpdcppaggedbaaaW.PrintMore Go.Proofs.Ytpdcppaggedbaaa.PFaultActs

set_option maxHeartbeats 1000000 in
theorem reset_walk (a0a : Option Addr) (a0l : Nat) (a0c : Nat) (a1a : Option Addr) (a1l : Nat) (a1c : Nat) (w : World) (h0_0 : SliceAt 4 B40 R40 w a0a a0l a0c) (h1_0 : SliceAt 4 B40 R40 w a1a a1l a1c) :
    Calls Try.prog 7 #[.slice a0a a0l a0c, .slice a1a a1l a1c] w fun e w' => e = .returned (.bool true) ∧ Below w.heap.size w w' := by
  have hel := fun h => h0_0.plain (by omega) h
  have hel' := fun h => h1_0.plain (by omega) h
  obtain ⟨hlc, hcm, _, _⟩ := h0_0
  obtain ⟨hlc', hcm', _, _⟩ := h1_0
  unfold maxLen at hcm hcm'
  have hB := Below.refl w.heap.size w
  have hlen : a0l ≤ 9223372036854775807 := by omega
  have hlen' : a1l ≤ 9223372036854775807 := by omega
  clear hcm hcm'
  go_enter Try.func7, Try.ntmps7
  go_wp2_with (first
    | (go_at_call 8; first
        | (refine (cNew w w hB).mono ?_; rintro e W1 ⟨gu, rfl, hu1, hB1, _, _⟩)
        | (refine (cNew w W1 hB1).mono ?_; rintro e W2 ⟨gv, rfl, hv2, hB2, hb2, hge2⟩; have hu2 := hu1.below hb2; have hne : gu ≠ gv := by have := hu1.lt; omega))
    | fail)
  go_loopw [7] (fun i wr => ∃ (k : Nat) (x : U), k ≤ a0l ∧ i = .int .i64 k ∧ PU w wr gu x ∧ PU w wr gv U.zero ∧ Below w.heap.size w wr) (fun i _ => a0l - (intOf i).toNat)
  case atStart => exact ⟨0, U.zero, Nat.zero_le _, rfl, hu2, hv2, hB2⟩
  case round =>
    obtain ⟨k, x, hk, rfl, hu, hv, hBr⟩ := hrel
    clear hu1 hB1 hB hu2 hv2 hB2 hb2 hge2
    by_cases hlt : k < a0l
    · obtain ⟨ab, ao, rfl, hab, hc⟩ := hel (by omega)
      obtain ⟨c, _, hcc, ak, an, ah, at_, rfl, _, _, hz⟩ := hc k hlt
      have e0 : w.cell? ⟨ab, ao + k * 4, none⟩ = some (.int .i64 ak) := by have := hcc 0 (by omega); simpa using this
      have e1 : w.cell? ⟨ab, ao + k * 4 + 1, none⟩ = some (.int .i64 an) := by have := hcc 1 (by omega); simpa using this
      have e2 : w.cell? ⟨ab, ao + k * 4 + 2, none⟩ = some (.bool ah) := by have := hcc 2 (by omega); simpa using this
      have e3 : w.cell? ⟨ab, ao + k * 4 + 3, none⟩ = some (.int .u8 at_) := by have := hcc 3 (by omega); simpa using this
      have c0 := (hBr.cell (by exact hab)).trans e0; have c1 := (hBr.cell (by exact hab)).trans e1; have c2 := (hBr.cell (by exact hab)).trans e2; have c3 := (hBr.cell (by exact hab)).trans e3
      have hab1 : ab < wr.heap.size := Nat.lt_of_lt_of_le hab hBr.size
      have hvl := hv.lt
      clear hc hcc hel hel' hz e0 e1 e2 e3
      go_wp2_with (go_at_call 15; refine (does_any ak an ah at_ (hu.alloc _) (zero_new w wr hBr) (hBr.alloc hBr.size _)).mono ?_; rintro e W2 ⟨rfl, hu2, _, hB2, hk2⟩; have hv2 := (hv.alloc (.cells #[.int .i64 0, .int .i64 0, .bool false, .int .i64 0] 38)).keep2 hk2 hne.symm (by omega))
      go_roundw
      case rel => exact ⟨k + 1, _, by omega, by go_num, hu2, hv2, hB2⟩
      case measure => simp [intOf]; omega
    · go_wp2_with (first
        | (go_at_call 19; refine (cReset hu hBr).mono ?_; rintro e W3 ⟨rfl, hu3, hB3, hk3⟩; have hv3 := hv.keep hk3 hne.symm))
      clear hu hv hBr hk3 hel
      go_loopw [8] (fun i wr => ∃ (k : Nat) (x : U), k ≤ a1l ∧ i = .int .i64 k ∧ PU w wr gu x ∧ PU w wr gv x ∧ Below w.heap.size w wr) (fun i _ => a1l - (intOf i).toNat)
      case atStart => exact ⟨0, U.zero, Nat.zero_le _, rfl, hu3, hv3, hB3⟩
      case round =>
        clear hu3 hv3 hB3
        obtain ⟨m, x, hm, rfl, hu, hv, hBr⟩ := hrel
        by_cases hmt : m < a1l
        · obtain ⟨ab, ao, rfl, hab, hc⟩ := hel' (by omega)
          obtain ⟨c, _, hcc, ak, an, ah, at_, rfl, _, _, hz⟩ := hc m hmt
          have e0 : w.cell? ⟨ab, ao + m * 4, none⟩ = some (.int .i64 ak) := by have := hcc 0 (by omega); simpa using this
          have e1 : w.cell? ⟨ab, ao + m * 4 + 1, none⟩ = some (.int .i64 an) := by have := hcc 1 (by omega); simpa using this
          have e2 : w.cell? ⟨ab, ao + m * 4 + 2, none⟩ = some (.bool ah) := by have := hcc 2 (by omega); simpa using this
          have e3 : w.cell? ⟨ab, ao + m * 4 + 3, none⟩ = some (.int .u8 at_) := by have := hcc 3 (by omega); simpa using this
          have c0 := (hBr.cell (by exact hab)).trans e0; have c1 := (hBr.cell (by exact hab)).trans e1; have c2 := (hBr.cell (by exact hab)).trans e2; have c3 := (hBr.cell (by exact hab)).trans e3
          have hab1 : ab < wr.heap.size := Nat.lt_of_lt_of_le hab hBr.size
          have hvl := hv.lt
          clear hc hcc hel' hz
          go_wp2_with (first
            | (go_at_call 15; first
              | ((with_reducible refine (does_any ak an ah at_ (hu.alloc _) (zero_new w wr hBr) (hBr.alloc hBr.size _)).mono ?_); rintro e W2 ⟨rfl, hu2, _, hB2, hk2⟩; have hv2 := (hv.alloc (.cells #[.int .i64 0, .int .i64 0, .bool false, .int .i64 0] 38)).keep2 hk2 hne.symm (by omega); have c0' := (hB2.cell (by exact hab)).trans e0; have c1' := (hB2.cell (by exact hab)).trans e1; have c2' := (hB2.cell (by exact hab)).trans e2; have c3' := (hB2.cell (by exact hab)).trans e3; have hab2 : ab < W2.heap.size := Nat.lt_of_lt_of_le hab hB2.size; have hul := hu2.lt)
              | ((with_reducible refine (does_any ak an ah at_ (hv2.alloc _) (zero_new w W2 hB2) (hB2.alloc hB2.size _)).mono ?_); rintro e W3 ⟨rfl, hv3, _, hB3, hk3⟩; have hu3 := (hu2.alloc (.cells #[.int .i64 0, .int .i64 0, .bool false, .int .i64 0] 38)).keep2 hk3 hne (by omega); generalize x.does ak an ah = y at hu3 hv3; obtain ⟨s, r, o, i⟩ := y; clear c0 c1 c2 c3 c0' c1' c2' c3' e0 e1 e2 e3 hu hv hBr hu2 hv2 hB2 hk2 hk3))
            | (go_at_call 12; first
              | ((with_reducible refine (cCounts hu3 hB3).mono ?_); rintro e W4 ⟨rfl, hu4, hB4, hk4⟩; have hv4 := hv3.keep hk4 hne.symm)
              | ((with_reducible refine (cCounts hv4 hB4).mono ?_); rintro e W5 ⟨rfl, hv5, hB5, hk5⟩; have hu5 := hu4.keep hk5 hne; have hgu := Lib.hid hu5.1.1; have hgv := Lib.hid hv5.1.1; have HU := Lib.hid hu5; have HV := Lib.hid hv5; have HB := Lib.hid hB5; clear hu3 hv3 hB3 hk4 hu4 hv4 hB4 hk5 hu5 hv5 hB5; dsimp only))
            | (go_at_call 10; refine (q10 (by first | exact hgu.out | exact hgv.out)).mono ?_; rintro e W6 ⟨rfl, n1, rfl⟩)
            | (go_at_call 17; refine (q17 (by first | exact hgu.out | exact hgv.out)).mono ?_; rintro e W7 ⟨rfl, n3, rfl⟩))
          go_roundw
          case rel => exact ⟨m + 1, _, by omega, by go_num, HU.out, HV.out, pw_below_drewN HB.out _⟩
          case measure => simp [intOf]; omega
        · go_wp2_with (go_at_call 13; refine (lives_true _).mono ?_; rintro e W2 ⟨rfl, hB2⟩)
          go_ret
          exact ⟨rfl, hBr.trans (hB2.mono hBr.size)⟩
end Go.Proofs.Ytpdcppaggedbaaa
