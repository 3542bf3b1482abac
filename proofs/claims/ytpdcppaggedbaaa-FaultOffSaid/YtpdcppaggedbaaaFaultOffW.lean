/- Layer 3: FaultOff's walk. -/
import Derived.Test.YtpdcppaggedbaaaFaultApartW
set_option linter.unusedVariables false
set_option linter.unusedSimpArgs false
namespace Go.Proofs.Ytpdcppaggedbaaa
open Go.RowKit Go.Proofs.YtpdcppaggedbaaaW.PrintWords Go.Proofs.YtpdcppaggedbaaaW.PrintLast Go.Proofs.YtpdcppaggedbaaaW.PrintMore Go.Proofs.Ytpdcppaggedbaaa.PFaultActs

/-- Behind k loud failures. -/
def offU (k : Nat) : U := if k < 32 then ⟨8 * (k : Int), 0, false, 0⟩ else ⟨256, 0, true, 0⟩
theorem off_failed (k : Nat) (h : k < 32) : (offU k).failed false = offU (k + 1) := by
  unfold offU U.failed
  rw [if_pos h]
  simp only [Bool.false_eq_true, false_and, if_false]
  by_cases h1 : k + 1 < 32
  · rw [if_pos h1, if_neg (by omega)]
    simp only [U.mk.injEq, and_true]
    omega
  · rw [if_neg h1, if_pos (by omega)]
theorem off_state (k : Nat) (h : k < 32) : ¬ (offU k).state = 2 := by
  unfold offU U.state
  rw [if_pos h]
  simp only [Bool.false_eq_true, if_false]
  split <;> omega
theorem off_zero : offU 0 = U.zero := rfl
/-- One that fails quietly. -/
def Qt (x : U) : Prop := x.o = false ∧ x.s ≤ 135
theorem qt_failed {x : U} (h : Qt x) : Qt (x.failed true) := by
  obtain ⟨s, r, o, i⟩ := x
  obtain ⟨h1, h2⟩ := h
  simp only at h1 h2
  subst h1
  unfold U.failed Qt
  simp only [Bool.false_eq_true, if_false, true_and]
  by_cases c : s > 127 ∨ r > 127
  · rw [if_pos c]; exact ⟨rfl, h2⟩
  · rw [if_neg c, if_neg (by omega)]
    exact ⟨rfl, by simp only; omega⟩
theorem qt_state {x : U} (h : Qt x) : ¬ x.state = 2 := by
  unfold U.state
  rw [h.1]
  simp only [Bool.false_eq_true, if_false]
  split <;> omega
/-- Off the bus, behind S idle rows. -/
def idU (S : Int) : U := if S < 128 then ⟨256, 0, true, S⟩ else U.zero
theorem id_back (S z : Int) (h : S < 128) (h0 : 0 ≤ S) (hz : 0 ≤ z) : (idU S).back z = decide (128 ≤ S + z) := by
  unfold idU U.back idles
  rw [if_pos h]
  simp only [Bool.true_and]
  rw [decide_eq_decide]
  split <;> (try split) <;> omega
theorem id_idle (S z : Int) (h : S < 128) (h0 : 0 ≤ S) (hz : 0 ≤ z) : (idU S).idle z = idU (S + z) := by
  unfold idU U.idle idles
  rw [if_pos h]
  simp only [if_true]
  by_cases c : S + z < 128
  · rw [if_pos c]
    split
    · rw [if_pos (by omega)]; simp only [U.mk.injEq, and_true, true_and]; omega
    · split
      · omega
      · rfl
  · rw [if_neg c]
    split
    · omega
    · split
      · rw [if_neg (by omega)]
      · rfl
theorem id_state (S : Int) : (idU S).state = if S < 128 then 2 else 0 := by
  unfold idU
  split <;> rfl

set_option maxHeartbeats 1000000 in
theorem off_walk (a0a : Option Addr) (a0l : Nat) (a0c : Nat) (a1 : Int) (w : World) (h0_0 : SliceAt 1 B5 R5 w a0a a0l a0c) (h1_0 : (Lit.int .u16 a1).wf = true) :
    Calls Try.prog 4 #[.slice a0a a0l a0c, .int .u16 a1] w fun e w' => e = .returned (.bool true) ∧ Below w.heap.size w w' := by
  have hel := fun h => h0_0.plain (by omega) h
  obtain ⟨hlc, hcm, _, _⟩ := h0_0
  unfold maxLen at hcm
  obtain ⟨hq0, hq1⟩ := bounds_u16 h1_0
  have hB := Below.refl w.heap.size w
  have hlen : a0l ≤ 9223372036854775807 := by omega
  clear hcm h1_0
  go_enter Try.func4, Try.ntmps4
  go_wp2_with (first
    | (go_at_call 8; first
        | ((with_reducible refine (cNew w w hB).mono ?_); rintro e W1 ⟨gu, rfl, hu1, hB1, _, _⟩)
        | ((with_reducible refine (cNew w W1 hB1).mono ?_); rintro e W2 ⟨gv, rfl, hv2, hB2, hb2, hge2⟩; have hu2 := hu1.below hb2; have hne : gu ≠ gv := by have := hu1.lt; omega))
    | fail)
  rw [← off_zero] at hu2
  go_loopw [7] (fun i wr => ∃ (k : Nat) (j : Int), k ≤ 32 ∧ j = k + 1 ∧ i = .int .i64 j ∧ PU w wr gu (offU k) ∧ PU w wr gv U.zero ∧ Below w.heap.size w wr) (fun i _ => 33 - (intOf i).toNat)
  case atStart => exact ⟨0, 1, by omega, by rfl, rfl, hu2, hv2, hB2⟩
  case round =>
    obtain ⟨k, j, hk, hjk, rfl, hu, hv, hBr⟩ := hrel
    clear hu1 hB1 hB hu2 hv2 hB2 hb2 hge2
    by_cases hlt : k < 32
    · obtain rfl : j = (k : Int) + 1 := hjk
      have hst : ((offU (k + 1)).state = 2 ↔ k + 1 = 32) := by
        constructor
        · intro h
          by_cases hh : k + 1 < 32
          · exact absurd h (off_state _ hh)
          · omega
        · intro h; rw [h]; rfl
      obtain ⟨st, hs⟩ : ∃ st, (offU (k + 1)).state = st := ⟨_, rfl⟩
      rw [hs] at hst
      have HS := Lib.hid hs
      have HF := Lib.hid (off_failed k hlt)
      clear hs
      by_cases h32 : k + 1 = 32
      · obtain rfl : k = 31 := by omega
        obtain rfl := hst.2 rfl
        clear hst
        go_wp2_with (first
          | (go_at_call 9; refine (cFailed _ hu hBr).mono ?_; rintro e W3 ⟨rfl, hu3, hB3, hk3⟩; rw [HF.out] at hu3; have hv3 := hv.keep hk3 hne.symm)
          | (go_at_call 10; refine (cState hu3 hB3).mono ?_; rintro e W4 ⟨rfl, hu4, hB4, hk4⟩; rw [HS.out]; have hv4 := hv3.keep hk4 hne.symm))
        go_roundw
        case rel => exact ⟨32, 33, by omega, by omega, by rfl, hu4, hv4, hB4⟩
        case measure => simp [intOf]
      · have s2 : (st == 2) = false := by simp; omega
        have i2 : ((k : Int) + 1 == 32) = false := by simp; omega
        clear hst
        go_wp2_with (first
          | (go_at_call 9; refine (cFailed _ hu hBr).mono ?_; rintro e W3 ⟨rfl, hu3, hB3, hk3⟩; rw [HF.out] at hu3; have hv3 := hv.keep hk3 hne.symm)
          | (go_at_call 10; refine (cState hu3 hB3).mono ?_; rintro e W4 ⟨rfl, hu4, hB4, hk4⟩; rw [HS.out]; have hv4 := hv3.keep hk4 hne.symm))
        go_roundw
        case rel => exact ⟨k + 1, k + 1 + 1, by omega, by omega, by go_num, hu4, hv4, hB4⟩
        case measure => simp [intOf]; omega
    · obtain rfl : k = 32 := by omega
      obtain rfl : j = 33 := by omega
      go_wp2_with fail
      go_loopw [8] (fun i wr => ∃ (k : Nat) (x : U), (k : Int) ≤ a1 ∧ i = .int .i64 k ∧ PU w wr gu (offU 32) ∧ PU w wr gv x ∧ Qt x ∧ Below w.heap.size w wr) (fun i _ => a1.toNat - (intOf i).toNat)
      case atStart => exact ⟨0, U.zero, by omega, rfl, hu, hv, ⟨rfl, by decide⟩, hBr⟩
      case round =>
        clear hu hv hBr
        obtain ⟨m, x, hm, rfl, hu, hv, hqt, hBr⟩ := hrel
        by_cases hmt : (m : Int) < a1
        · go_wp2_with (go_at_call 9; refine (cFailed _ hv hBr).mono ?_; rintro e W3 ⟨rfl, hv3, hB3, hk3⟩; have hu3 := hu.keep hk3 hne)
          go_roundw
          case rel => exact ⟨m + 1, _, by omega, by go_num, hu3, hv3, qt_failed hqt, hB3⟩
          case measure => simp [intOf]; omega
        · have hs := qt_state hqt
          obtain ⟨st, hst⟩ : ∃ st, x.state = st := ⟨_, rfl⟩
          rw [hst] at hs
          have s2 : (st == 2) = false := by simpa using hs
          have HS := Lib.hid hst
          clear hst hs
          go_wp2_with (go_at_call 10; refine (cState hv hBr).mono ?_; rintro e W4 ⟨rfl, hv4, hB4, hk4⟩; rw [HS.out]; have hu4 := hu.keep hk4 hne)
          clear hu hv hBr hk4 hv4
          go_loopw [9, 10] (fun s i wr => ∃ (k : Nat) (S : Int), k ≤ a0l ∧ i = .int .i64 k ∧ s = .int .i64 S ∧ 0 ≤ S ∧ S ≤ 400 ∧ PU w wr gu (idU S) ∧ Below w.heap.size w wr) (fun _ i _ => a0l - (intOf i).toNat)
          case atStart => exact ⟨0, 0, Nat.zero_le _, rfl, rfl, by omega, by omega, hu4, hB4⟩
          case round =>
            clear hu4 hB4
            obtain ⟨j, S, hj, rfl, rfl, hS0, hS1, hu, hBr⟩ := hrel
            have hst := id_state S
            by_cases hSl : S < 128
            · rw [if_pos hSl] at hst
              have HT := Lib.hid hst
              clear hst
              by_cases hjl : j < a0l
              · obtain ⟨ab, ao, rfl, hab, hc⟩ := hel (by omega)
                obtain ⟨c, _, hcc, z, rfl, hz⟩ := hc j hjl
                have e0 : w.cell? ⟨ab, ao + j, none⟩ = some (.int .u8 z) := by have := hcc 0 (by omega); simpa using this
                have c0 := (hBr.cell (by exact hab)).trans e0
                obtain ⟨hz0, hz1⟩ := bounds_u8 hz
                have H1 := Lib.hid (id_back S z hSl hS0 hz0)
                have H2 := Lib.hid (id_idle S z hSl hS0 hz0)
                clear hc hcc hel hz
                go_wp2_with (go_at_call 14; refine (cIdle z hu hBr).mono ?_; rintro e W5 ⟨rfl, hu5, hB5, hk5⟩; rw [H1.out]; rw [H2.out] at hu5)
                clear hu hBr hk5
                go_roundw
                case rel => exact ⟨j + 1, S + z, by omega, by go_num, by go_num, by omega, by omega, hu5, hB5⟩
                case measure => simp [intOf]; omega
              · have s2 : decide (S < 128) = true := decide_eq_true hSl
                go_wp2_with (first
                  | (go_at_call 10; refine (cState hu hBr).mono ?_; rintro e W6 ⟨rfl, hu6, hB6, hk6⟩; rw [HT.out])
                  | (go_at_call 13; refine (lives_true _).mono ?_; rintro e W7 ⟨rfl, hB7⟩))
                go_ret
                exact ⟨rfl, hB6.trans (hB7.mono hB6.size)⟩
            · rw [if_neg hSl] at hst
              have HT := Lib.hid hst
              clear hst
              have s2 : decide (S < 128) = false := decide_eq_false hSl
              by_cases hjl : j < a0l
              all_goals
                go_wp2_with (first
                  | (go_at_call 10; refine (cState hu hBr).mono ?_; rintro e W6 ⟨rfl, hu6, hB6, hk6⟩; rw [HT.out])
                  | (go_at_call 13; refine (lives_true _).mono ?_; rintro e W7 ⟨rfl, hB7⟩))
                go_ret
                exact ⟨rfl, hB6.trans (hB7.mono hB6.size)⟩
end Go.Proofs.Ytpdcppaggedbaaa
