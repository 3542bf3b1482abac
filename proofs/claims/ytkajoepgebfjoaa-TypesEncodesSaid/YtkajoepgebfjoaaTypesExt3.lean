/- Layer 7: the document's Plain, Encode and Order, walked by hand. -/
import Derived.Test.YtkajoepgebfjoaaTypesPure3
import Derived.BigQuiet
set_option linter.unusedVariables false
set_option linter.unusedSimpArgs false
namespace Go.Proofs.Ytkajoepgebfjoaa.Ext
open Go.RowKit Go.Proofs.YtkajoepgebfjoaaW.PrintWords Go.Proofs.YtkajoepgebfjoaaW.PrintLast Go.Proofs.YtkajoepgebfjoaaW.PrintMore Go.Proofs.Ytkajoepgebfjoaa.TM Go.Proofs.Ytkajoepgebfjoaa.Pur Go.Proofs.Ytkajoepgebfjoaa.PB

theorem rsize_calls (t : Int) (w : World) : Calls Try.prog 17 #[.int .i64 t] w fun e w' => e = .returned (.int .i64 (tk t).1) ∧ Drawn0 w w' := tramwayref07_Size.calls 3 t _ w (size_eq 3 (by omega) t)
theorem ris_calls (t : Int) (w : World) : Calls Try.prog 22 #[.int .i64 t] w fun e w' => e = .returned (.bool (tk t).2.2) ∧ Drawn0 w w' := tramwayref07_Is.calls 3 t _ w (is_eq 3 (by omega) t)
theorem rsigned_calls (t : Int) (w : World) : Calls Try.prog 29 #[.int .i64 t] w fun e w' => e = .returned (.bool (tk t).2.1) ∧ Drawn0 w w' := tramwayref07_Signed.calls t _ w (signed_eq t)
theorem rcheck_calls (t n : Int) (s : ByteArray) (w : World) (hr : Rng n s) : Calls Try.prog 14 #[.agg #[.int .i64 t, .int .u64 n, .string s]] w fun e w' => e = .returned (.int .i64 (chk t n s)) ∧ Below w.heap.size w w' :=
  tramwayref07_Check.calls (2 * s.size + 30) t n s _ w (rcheck_eq t n s hr _ (Nat.le_refl _))

section
variable (t n : Int) (s : ByteArray) (w : World)
theorem two_new (o o' : Obj) (nd : Nat) : (((w.alloc o).alloc o').drewN nd).heap[w.heap.size + 1]? = some o' := by
  have := blk_new (w.alloc o) o'
  rw [World.size_alloc] at this
  exact this
theorem rplain_num (sz : Int) (hz : (tk t).1 = sz) (h0 : decide (0 < sz) = true) :
    Calls Try.prog 16 #[.agg #[.int .i64 t, .int .u64 n, .string s]] w fun e w' => e = .returned (.agg #[.int .i64 t, .int .u64 n, .string ⟨#[]⟩]) ∧ Below w.heap.size w w' := by
  have hu25 := Try.underlying25
  have hb0 := Below.refl w.heap.size w
  go_enter Try.func16, Try.ntmps16
  go_wp2_with (first
    | (go_at_call 17; refine (rsize_calls t _).mono ?_; rintro e' W1 ⟨rfl, ⟨nd, rfl⟩⟩; rw [hz]))
  refine bodyPost_ret (results_cell_row rfl _ _ (w.heap.size + 1) 25 #[.int .i64 t, .int .u64 n, .string (⟨#[]⟩ : ByteArray)] (0, 0) _ (by simp) ?_ Try.underlying25 rfl (by kernel_rfl)) rfl ?_
  · exact blk_put (blk_put (blk_put (blk_far (two_new w _ _ nd) (by simp) _) 0 _ rfl) 1 _ rfl) 2 _ rfl
  exact ⟨rfl, by repeat (first | exact hb0 | (with_reducible first | apply below_alloc | apply pw_below_drewN | apply below_drew1 | refine below_set ?_ (by first | exact Nat.le_refl _ | exact Nat.le_succ _)))⟩
theorem rplain_text (sz : Int) (hz : (tk t).1 = sz) (h0 : decide (0 < sz) = false) (hi : (tk t).2.2 = true) :
    Calls Try.prog 16 #[.agg #[.int .i64 t, .int .u64 n, .string s]] w fun e w' => e = .returned (.agg #[.int .i64 t, .int .u64 0, .string s]) ∧ Below w.heap.size w w' := by
  have hu25 := Try.underlying25
  have hb0 := Below.refl w.heap.size w
  go_enter Try.func16, Try.ntmps16
  go_wp2_with (first
    | (go_at_call 17; refine (rsize_calls t _).mono ?_; rintro e' W1 ⟨rfl, ⟨nd, rfl⟩⟩; rw [hz])
    | (go_at_call 22; refine (ris_calls t _).mono ?_; rintro e' W1 ⟨rfl, ⟨nd2, rfl⟩⟩; rw [hi]))
  refine bodyPost_ret (results_cell_row rfl _ _ (w.heap.size + 1) 25 #[.int .i64 t, .int .u64 0, .string s] (0, 0) _ (by simp) ?_ Try.underlying25 rfl (by kernel_rfl)) rfl ?_
  · exact blk_put (blk_put (blk_put (blk_far (blk_drewN (two_new w _ _ nd) nd2) (by simp) _) 0 _ rfl) 1 _ rfl) 2 _ rfl
  exact ⟨rfl, by repeat (first | exact hb0 | (with_reducible first | apply below_alloc | apply pw_below_drewN | apply below_drew1 | refine below_set ?_ (by first | exact Nat.le_refl _ | exact Nat.le_succ _)))⟩
theorem rplain_none (sz : Int) (hz : (tk t).1 = sz) (h0 : decide (0 < sz) = false) (hi : (tk t).2.2 = false) :
    Calls Try.prog 16 #[.agg #[.int .i64 t, .int .u64 n, .string s]] w fun e w' => e = .returned (.agg #[.int .i64 t, .int .u64 n, .string s]) ∧ Below w.heap.size w w' := by
  have hu25 := Try.underlying25
  have hb0 := Below.refl w.heap.size w
  go_enter Try.func16, Try.ntmps16
  go_wp2_with (first
    | (go_at_call 17; refine (rsize_calls t _).mono ?_; rintro e' W1 ⟨rfl, ⟨nd, rfl⟩⟩; rw [hz])
    | (go_at_call 22; refine (ris_calls t _).mono ?_; rintro e' W1 ⟨rfl, ⟨nd2, rfl⟩⟩; rw [hi]))
  refine bodyPost_ret (results_cell_row rfl _ _ (w.heap.size + 1) 25 #[.int .i64 t, .int .u64 n, .string s] (0, 0) _ (by simp) ?_ Try.underlying25 rfl (by kernel_rfl)) rfl ?_
  · exact blk_put (blk_put (blk_put (blk_drewN (two_new w _ _ nd) nd2) 0 _ rfl) 1 _ rfl) 2 _ rfl
  exact ⟨rfl, by repeat (first | exact hb0 | (with_reducible first | apply below_alloc | apply pw_below_drewN | apply below_drew1 | refine below_set ?_ (by first | exact Nat.le_refl _ | exact Nat.le_succ _)))⟩
end
/-- The document's Plain, under its number. -/
def tramwayref07_Plain.f (a0_0 : Int) (a0_1 : Int) (a0_2 : ByteArray) : Option (Int × Int × ByteArray) := some (pln a0_0 a0_1 a0_2)
theorem tramwayref07_Plain.calls (a0_0 : Int) (a0_1 : Int) (a0_2 : ByteArray) (r1 : Int) (r2 : Int) (r3 : ByteArray) (w : World) (h : tramwayref07_Plain.f a0_0 a0_1 a0_2 = some (r1, r2, r3)) :
    Calls Try.prog 16 #[.agg #[.int .i64 a0_0, .int .u64 a0_1, .string a0_2]] w fun e w' => e = .returned (.agg #[.int .i64 r1, .int .u64 r2, .string r3]) ∧ Below w.heap.size w w' := by
  unfold tramwayref07_Plain.f pln at h
  by_cases h0 : 0 < (tk a0_0).1
  · rw [if_pos h0] at h
    simp only [Option.some.injEq, Prod.mk.injEq] at h
    obtain ⟨rfl, rfl, rfl⟩ := h
    exact rplain_num a0_0 a0_1 a0_2 w _ rfl (by simpa using h0)
  · rw [if_neg h0] at h
    cases hi : (tk a0_0).2.2 with
    | true =>
      rw [if_pos hi] at h
      simp only [Option.some.injEq, Prod.mk.injEq] at h
      obtain ⟨rfl, rfl, rfl⟩ := h
      exact rplain_text a0_0 a0_1 a0_2 w _ rfl (by simpa using h0) hi
    | false =>
      rw [if_neg (by simp [hi])] at h
      simp only [Option.some.injEq, Prod.mk.injEq] at h
      obtain ⟨rfl, rfl, rfl⟩ := h
      exact rplain_none a0_0 a0_1 a0_2 w _ rfl (by simpa using h0) hi

/-! ### The document's Encode -/
section
variable (t n : Int) (s : ByteArray) (w : World)
theorem renc_err (hr : Rng n s) (e : Int) (he : chk t n s = e) (h0 : (e != 0) = true) :
    Calls Try.prog 12 #[.agg #[.int .i64 t, .int .u64 n, .string s]] w fun e' w' => e' = .returned (.tuple #[.slice none 0 0, .int .i64 e]) ∧ Below w.heap.size w w' := by
  have hu25 := Try.underlying25
  have hB0 := (Below.refl w.heap.size w).alloc (Nat.le_refl _) (.cells #[.int .i64 t, .int .u64 n, .string s] 25)
  go_enter Try.func12, Try.ntmps12
  go_wp2_with (go_at_call 14; refine (rcheck_calls t n s _ hr).mono ?_; rintro e' W1 ⟨rfl, hb⟩; rw [he]; have hB1 := hB0.trans (hb.mono (by simp)))
  go_ret2
  exact ⟨rfl, hB1⟩
theorem renc_text (hr : Rng n s) (he : chk t n s = 0) (hz : (tk t).1 = 0) :
    Calls Try.prog 12 #[.agg #[.int .i64 t, .int .u64 n, .string s]] w fun e' w' => ∃ v, e' = .returned (.tuple #[v, .int .i64 0]) ∧ Kd.V (Kd.int .u8) 5 w' w.heap.size (fun k_ => w.heap.size ≤ k_) v (bnums s) ∧ Below w.heap.size w w' := by
  have hu25 := Try.underlying25
  have hs := hr.2.2
  have hB0 := (Below.refl w.heap.size w).alloc (Nat.le_refl _) (.cells #[.int .i64 t, .int .u64 n, .string s] 25)
  have hcv := fun W : World => Lib.run_convert_string_bytes (P := Try.prog) W 9 22 5 s Try.underlying9 Try.underlying22 Try.underlying5
  go_enter Try.func12, Try.ntmps12
  go_wp2_with (first
    | (go_at_call 14; refine (rcheck_calls t n s _ hr).mono ?_; rintro e' W1 ⟨rfl, hb⟩; rw [he]; obtain ⟨hl, c0, c1, c2⟩ := box_cells t n s w hb; have hB1 := hB0.trans (hb.mono (by simp)))
    | (go_at_call 17; refine (rsize_calls t _).mono ?_; rintro e' W2 ⟨rfl, ⟨nd, rfl⟩⟩; rw [hz]))
  refine bodyPost_ret (results_tmp2 rfl _ _ _) rfl ?_
  have hv := bytes_V (W1.drewN nd) s w.heap.size hs (fun k_ => w.heap.size ≤ k_) (by simp; omega)
  refine ⟨_, rfl, hv, ?_⟩
  exact (pw_below_drewN hB1 nd).trans ((bytesWorld_below _ 5 s).mono (by simp; omega))
theorem renc_num (hr : Rng n s) (he : chk t n s = 0) (m : Nat) (hm0 : 0 < m) (hm : m ≤ 8) (hz : (tk t).1 = m) :
    Calls Try.prog 12 #[.agg #[.int .i64 t, .int .u64 n, .string s]] w fun e' w' => ∃ v, e' = .returned (.tuple #[v, .int .i64 0]) ∧ Kd.V (Kd.int .u8) 5 w' w.heap.size (fun k_ => w.heap.size ≤ k_) v (lowB n m) ∧ Below w.heap.size w w' := by
  have hu25 := Try.underlying25
  have hB0 := (Below.refl w.heap.size w).alloc (Nat.le_refl _) (.cells #[.int .i64 t, .int .u64 n, .string s] 25)
  have h0 : decide (0 < (m : Int)) = true := by simp; omega
  have hL := low_eq 9 (by omega) n m hm
  go_enter Try.func12, Try.ntmps12
  go_wp2_with (first
    | (go_at_call 14; refine (rcheck_calls t n s _ hr).mono ?_; rintro e' W1 ⟨rfl, hb⟩; rw [he]; obtain ⟨hl, c0, c1, c2⟩ := box_cells t n s w hb; have hB1 := hB0.trans (hb.mono (by simp)))
    | (go_at_call 17; refine (rsize_calls t _).mono ?_; rintro e' W2 ⟨rfl, ⟨nd, rfl⟩⟩; rw [hz])
    | (go_at_call 24; refine (tramwayref07_low.calls 9 n m _ _ hL).mono ?_; rintro e' W3 ⟨v, rfl, hv, hb3⟩))
  go_ret2
  refine ⟨_, rfl, ?_, ?_⟩
  · exact Kd.V_mono (Kd.R_V (Kd.R_bound hv)) (fun k hk => by have := hk.2.1; simp at this; omega)
  · exact (pw_below_drewN hB1 nd).trans (hb3.mono (by simp; omega))
end
/-- The document's Encode, under its number. -/
def tramwayref07_Encode.f (a0_0 : Int) (a0_1 : Int) (a0_2 : ByteArray) : Option (List Int × Int) := types_Encode.f a0_0 a0_1 a0_2
theorem tramwayref07_Encode.calls (a0_0 : Int) (a0_1 : Int) (a0_2 : ByteArray) (r1 : List Int) (r2 : Int) (w : World) (h : tramwayref07_Encode.f a0_0 a0_1 a0_2 = some (r1, r2)) :
    Calls Try.prog 12 #[.agg #[.int .i64 a0_0, .int .u64 a0_1, .string a0_2]] w fun e w' => ∃ v0_ : Value, e = .returned (.tuple #[v0_, .int .i64 r2]) ∧ Kd.V (Kd.int .u8) 5 w' w.heap.size (fun k_ => w.heap.size ≤ k_) v0_ r1 ∧ Below w.heap.size w w' := by
  unfold tramwayref07_Encode.f types_Encode.f at h
  split at h
  · rename_i hr
    have hc := tk_cases a0_0
    by_cases he : chk a0_0 a0_1 a0_2 = 0
    · rw [if_pos he] at h
      by_cases hz : (tk a0_0).1 = 0
      · rw [if_pos hz] at h
        simp only [Option.some.injEq, Prod.mk.injEq] at h
        obtain ⟨rfl, rfl⟩ := h
        exact renc_text a0_0 a0_1 a0_2 w hr he hz
      · rw [if_neg hz] at h
        simp only [Option.some.injEq, Prod.mk.injEq] at h
        obtain ⟨rfl, rfl⟩ := h
        have hc' : (tk a0_0).1 = 1 ∨ (tk a0_0).1 = 2 ∨ (tk a0_0).1 = 4 ∨ (tk a0_0).1 = 8 := by rcases hc with ⟨h, _⟩ | ⟨h, _⟩; exact absurd h hz; exact h
        exact renc_num a0_0 a0_1 a0_2 w hr he (tk a0_0).1.toNat (by omega) (by omega) (by omega)
    · rw [if_neg he] at h
      simp only [Option.some.injEq, Prod.mk.injEq] at h
      obtain ⟨rfl, rfl⟩ := h
      exact (renc_err a0_0 a0_1 a0_2 w hr _ rfl (by simpa using he)).mono fun _ _ ⟨h1, h2⟩ => ⟨_, h1, Kd.V_nil _ _ _ _ _, h2⟩
  · cases h
end Go.Proofs.Ytkajoepgebfjoaa.Ext
