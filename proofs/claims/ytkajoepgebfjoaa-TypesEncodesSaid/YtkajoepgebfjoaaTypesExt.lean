/- Layer 7: the functions that hand a predicate to the library, or turn a string into bytes: each told in the form in which the print tells a function, so that the print can go on above them. -/
import Derived.Test.YtkajoepgebfjoaaPEx1
import Derived.Test.YtkajoepgebfjoaaTypesMath
import Derived.Test.YtkajoepgebfjoaaShelf
import Derived.Lib.Hide
import Derived.Outline
set_option linter.unusedVariables false
set_option linter.unusedSimpArgs false
namespace Go.Proofs.Ytkajoepgebfjoaa.Ext
open Go.RowKit Go.Proofs.YtkajoepgebfjoaaW.PrintWords Go.Proofs.YtkajoepgebfjoaaW.PrintLast Go.Proofs.YtkajoepgebfjoaaW.PrintMore Go.Proofs.Ytkajoepgebfjoaa.PE Go.Proofs.Ytkajoepgebfjoaa.TM

theorem of_eq (t : Int) : types_of.f 1 t = some (tk t) := by
  unfold types_of.f types_of.j0 tk
  by_cases h1 : t = 1
  · subst h1; rfl
  by_cases h5 : t = 5
  · subst h5; rfl
  rw [if_neg h1, if_neg (by omega)]
  simp only [beq_iff_eq, h5, if_false]
  by_cases h2 : t = 2; · simp [h2]
  by_cases h3 : t = 3; · simp [h3]
  by_cases h4 : t = 4; · simp [h4]
  by_cases h21 : t = 21; · simp [h21]
  by_cases h6 : t = 6; · simp [h6]
  by_cases h7 : t = 7; · simp [h7]
  by_cases h27 : t = 27; · simp [h27]
  simp only [h2, h3, h4, h21, h6, h7, h27, if_false]
  by_cases h9 : t = 9; · simp [h9]
  by_cases h10 : t = 10; · simp [h10]
  by_cases h15 : t = 15; · simp [h15]
  simp [h9, h10, h15]

/-- The sizes and signs that there are. -/
theorem tk_cases (t : Int) : ((tk t).1 = 0 ∧ (tk t).2.1 = false) ∨ ((tk t).1 = 1 ∨ (tk t).1 = 2 ∨ (tk t).1 = 4 ∨ (tk t).1 = 8) ∧ (tk t).2.2 = true := by
  unfold tk
  repeat' split
  all_goals simp

theorem u64_w (x : Int) : IntKind.u64.wrap x = x % 18446744073709551616 := by simp [IntKind.wrap, IntKind.signed, IntKind.bits]
theorem i64_wr (x : Int) : IntKind.i64.wrap x = (x + 9223372036854775808) % 18446744073709551616 - 9223372036854775808 := by rw [i64_w]; unfold wrap64; omega
theorem pw56 : (2 : Int) ^ min (56 : Int).toNat 64 = 72057594037927936 := by rfl
theorem pw48 : (2 : Int) ^ min (48 : Int).toNat 64 = 281474976710656 := by rfl
theorem pw32 : (2 : Int) ^ min (32 : Int).toNat 64 = 4294967296 := by rfl
theorem pw0 : (2 : Int) ^ min (0 : Int).toNat 64 = 1 := by rfl
theorem fits_u (sz sp pw n : Int) (is : Bool) (B : Bool) (hsp : wrap64 (64 - wrap64 (8 * sz)) = sp) (h0 : 0 ≤ sp) (hp : (2 : Int) ^ min sp.toNat 64 = pw) (hB : (n * pw % 18446744073709551616 / pw == n) = B) : types_kind_fits.f sz false is n = some B := by
  unfold types_kind_fits.f
  rw [if_neg (by simp), hsp, if_pos h0]
  unfold shr shl
  rw [u64_w, show IntKind.u64.bits = 64 from rfl, hp, hB]
theorem fits_s (sz sp pw n : Int) (is : Bool) (B : Bool) (hsp : wrap64 (64 - wrap64 (8 * sz)) = sp) (h0 : 0 ≤ sp) (hp : (2 : Int) ^ min sp.toNat 64 = pw)
    (hB : ((((((n + 9223372036854775808) % 18446744073709551616 - 9223372036854775808) * pw + 9223372036854775808) % 18446744073709551616 - 9223372036854775808) / pw % 18446744073709551616) == n) = B) : types_kind_fits.f sz true is n = some B := by
  have hw : wrap64 n = (n + 9223372036854775808) % 18446744073709551616 - 9223372036854775808 := by unfold wrap64; omega
  unfold types_kind_fits.f
  rw [if_pos rfl, hsp, if_pos h0]
  unfold shr shl
  rw [u64_w, i64_wr, hw, show IntKind.i64.bits = 64 from rfl, hp, hB]
theorem fits_num (sz : Int) (hs : sz = 1 ∨ sz = 2 ∨ sz = 4 ∨ sz = 8) (sg is : Bool) (n : Int) (h0 : 0 ≤ n) (h1 : n ≤ 18446744073709551615) : types_kind_fits.f sz sg is n = some (fit sz sg n) := by
  rcases hs with rfl | rfl | rfl | rfl <;> cases sg
  · exact fits_u 1 56 _ n is (fit 1 false n) (by unfold wrap64; omega) (by omega) pw56 (by rw [show fit 1 false n = decide (n < 256) from rfl, Bool.eq_iff_iff]; simp only [beq_iff_eq, decide_eq_true_eq]; omega)
  · exact fits_s 1 56 _ n is (fit 1 true n) (by unfold wrap64; omega) (by omega) pw56 (by rw [show fit 1 true n = decide (n < 128 ∨ 18446744073709551616 - 128 ≤ n) from rfl, Bool.eq_iff_iff]; simp only [beq_iff_eq, decide_eq_true_eq]; omega)
  · exact fits_u 2 48 _ n is (fit 2 false n) (by unfold wrap64; omega) (by omega) pw48 (by rw [show fit 2 false n = decide (n < 65536) from rfl, Bool.eq_iff_iff]; simp only [beq_iff_eq, decide_eq_true_eq]; omega)
  · exact fits_s 2 48 _ n is (fit 2 true n) (by unfold wrap64; omega) (by omega) pw48 (by rw [show fit 2 true n = decide (n < 32768 ∨ 18446744073709551616 - 32768 ≤ n) from rfl, Bool.eq_iff_iff]; simp only [beq_iff_eq, decide_eq_true_eq]; omega)
  · exact fits_u 4 32 _ n is (fit 4 false n) (by unfold wrap64; omega) (by omega) pw32 (by rw [show fit 4 false n = decide (n < 4294967296) from rfl, Bool.eq_iff_iff]; simp only [beq_iff_eq, decide_eq_true_eq]; omega)
  · exact fits_s 4 32 _ n is (fit 4 true n) (by unfold wrap64; omega) (by omega) pw32 (by rw [show fit 4 true n = decide (n < 2147483648 ∨ 18446744073709551616 - 2147483648 ≤ n) from rfl, Bool.eq_iff_iff]; simp only [beq_iff_eq, decide_eq_true_eq]; omega)
  · exact fits_u 8 0 _ n is (fit 8 false n) (by unfold wrap64; omega) (by omega) pw0 (by rw [show fit 8 false n = true from rfl, Bool.eq_iff_iff]; simp only [beq_iff_eq, iff_true]; omega)
  · exact fits_s 8 0 _ n is (fit 8 true n) (by unfold wrap64; omega) (by omega) pw0 (by rw [show fit 8 true n = true from rfl, Bool.eq_iff_iff]; simp only [beq_iff_eq, iff_true]; omega)

/-- The predicate that check hands over: 'r < 32 || r > 126'. -/
theorem bad_pred (w : World) : PredAt Try.prog 32 #[] encR badB w := fun W r _ => by
  unfold FnGives badB
  by_cases h1 : r < 32 <;> by_cases h2 : 126 < r
  all_goals
    have z1 : (r : Int) < 32 ↔ r < 32 := by omega
    have z2 : (126 : Int) < (r : Int) ↔ 126 < r := by omega
    go_enter Try.func32, Try.ntmps32
    go_wp2
    all_goals first | (exfalso; omega) | (go_ret; exact ⟨by simp [h1, h2], 0, rfl⟩)

theorem contains_bad (s : ByteArray) (w : World) : Calls Try.prog 31 #[.string s, .func (.func 32) #[] #[]] w fun e w' => e = .returned (.bool (badS s)) ∧ Below w.heap.size w w' :=
  (Try.strings_ContainsFunc 32 #[] (enters_of Try.func32 (by kernel_rfl) rfl) badB s w (bad_pred w)).mono fun _ _ ⟨he, hb⟩ => ⟨by rw [he, idx_badS], hb⟩

/-- types.check, under its number: what is wrong with a value whose parts are Go's own. -/
def types_check.f (a0_0 : Int) (a0_1 : Int) (a0_2 : ByteArray) : Option Int := if Rng a0_1 a0_2 then some (chk a0_0 a0_1 a0_2) else none

section
variable (t n : Int) (s : ByteArray) (w : World) (sz : Int) (sg is : Bool)

theorem box_cells {W1 : World} (hb : Below (w.alloc (.cells #[.int .i64 t, .int .u64 n, .string s] 25)).heap.size (w.alloc (.cells #[.int .i64 t, .int .u64 n, .string s] 25)) W1) :
    w.heap.size < W1.heap.size ∧ W1.cell? ⟨w.heap.size, 0, none⟩ = some (.int .i64 t) ∧ W1.cell? ⟨w.heap.size, 1, none⟩ = some (.int .u64 n) ∧ W1.cell? ⟨w.heap.size, 2, none⟩ = some (.string s) := by
  have hs := hb.size
  simp only [World.size_alloc] at hs
  refine ⟨by omega, ?_, ?_, ?_⟩
  all_goals rw [hb.cell (by simp)]; exact World.cell?_alloc_new w _ _ _

theorem check_not (hO : types_of.f 1 t = some (sz, sg, false)) :
    Calls Try.prog 21 #[.agg #[.int .i64 t, .int .u64 n, .string s]] w fun e w' => e = .returned (.int .i64 1) ∧ Below w.heap.size w w' := by
  have hB0 := (Below.refl w.heap.size w).alloc (Nat.le_refl _) (.cells #[.int .i64 t, .int .u64 n, .string s] 25)
  go_enter Try.func21, Try.ntmps21
  go_wp2_with (go_at_call 20; refine (types_of.calls 1 t sz sg false _ hO).mono ?_; rintro e W1 ⟨rfl, hb⟩; obtain ⟨hl, c0, c1, c2⟩ := box_cells t n s w hb; have hB1 := hB0.trans (hb.mono (by simp)))
  go_ret
  exact ⟨rfl, hB1.alloc (by omega) _⟩

theorem check_long (hO : types_of.f 1 t = some (0, sg, true)) (hs : decide (65536 < (s.size : Int)) = true) :
    Calls Try.prog 21 #[.agg #[.int .i64 t, .int .u64 n, .string s]] w fun e w' => e = .returned (.int .i64 2) ∧ Below w.heap.size w w' := by
  have hB0 := (Below.refl w.heap.size w).alloc (Nat.le_refl _) (.cells #[.int .i64 t, .int .u64 n, .string s] 25)
  go_enter Try.func21, Try.ntmps21
  go_wp2_with (go_at_call 20; refine (types_of.calls 1 t 0 sg true _ hO).mono ?_; rintro e W1 ⟨rfl, hb⟩; obtain ⟨hl, c0, c1, c2⟩ := box_cells t n s w hb; have hB1 := hB0.trans (hb.mono (by simp)))
  go_ret
  exact ⟨rfl, hB1.alloc (by omega) _⟩
theorem check_text (hO : types_of.f 1 9 = some (0, sg, true)) (hs : decide (65536 < (s.size : Int)) = false) (b : Bool) (hb_ : badS s = b) :
    Calls Try.prog 21 #[.agg #[.int .i64 9, .int .u64 n, .string s]] w fun e w' => e = .returned (.int .i64 (if b then 1 else 0)) ∧ Below w.heap.size w w' := by
  have hB0 := (Below.refl w.heap.size w).alloc (Nat.le_refl _) (.cells #[.int .i64 9, .int .u64 n, .string s] 25)
  cases b
  all_goals
    go_enter Try.func21, Try.ntmps21
    go_wp2_with (first
      | (go_at_call 20; refine (types_of.calls 1 9 0 sg true _ hO).mono ?_; rintro e W1 ⟨rfl, hb⟩; obtain ⟨hl, c0, c1, c2⟩ := box_cells 9 n s w hb; have hB1 := hB0.trans (hb.mono (by simp)))
      | (go_at_call 31; refine (contains_bad s _).mono ?_; rintro e W2 ⟨rfl, hb2⟩; rw [hb_]; have hB2 := (hB1.alloc (by omega) (.cells #[.int .i64 0, .bool sg, .bool true] 44)).trans (hb2.mono (by simp; omega))))
    go_ret
    exact ⟨rfl, hB2⟩

theorem check_other (hO : types_of.f 1 t = some (0, sg, true)) (hs : decide (65536 < (s.size : Int)) = false) (h1 : (t == 1) = false) (h9 : (t == 9) = false) :
    Calls Try.prog 21 #[.agg #[.int .i64 t, .int .u64 n, .string s]] w fun e w' => e = .returned (.int .i64 0) ∧ Below w.heap.size w w' := by
  have hB0 := (Below.refl w.heap.size w).alloc (Nat.le_refl _) (.cells #[.int .i64 t, .int .u64 n, .string s] 25)
  go_enter Try.func21, Try.ntmps21
  go_wp2_with (first
    | (go_at_call 20; refine (types_of.calls 1 t 0 sg true _ hO).mono ?_; rintro e W1 ⟨rfl, hb⟩; obtain ⟨hl, c0, c1, c2⟩ := box_cells t n s w hb; have hB1 := hB0.trans (hb.mono (by simp))))
  go_ret
  exact ⟨rfl, hB1.alloc (by omega) _⟩

theorem check_unfit (hO : types_of.f 1 t = some (sz, sg, true)) (h0 : (sz == 0) = false) (hp : decide (0 < sz) = true) (hF : types_kind_fits.f sz sg true n = some false) :
    Calls Try.prog 21 #[.agg #[.int .i64 t, .int .u64 n, .string s]] w fun e w' => e = .returned (.int .i64 1) ∧ Below w.heap.size w w' := by
  have hB0 := (Below.refl w.heap.size w).alloc (Nat.le_refl _) (.cells #[.int .i64 t, .int .u64 n, .string s] 25)
  go_enter Try.func21, Try.ntmps21
  go_wp2_with (first
    | (go_at_call 20; refine (types_of.calls 1 t sz sg true _ hO).mono ?_; rintro e W1 ⟨rfl, hb⟩; obtain ⟨hl, c0, c1, c2⟩ := box_cells t n s w hb; have hB1 := hB0.trans (hb.mono (by simp)))
    | (go_at_call 30; refine (types_kind_fits.calls sz sg true n false _ hF).mono ?_; rintro e W2 ⟨rfl, hb2⟩; have hs2 := hb2.size; simp only [World.size_alloc] at hs2; have d0 : W2.cell? ⟨w.heap.size, 0, none⟩ = some (.int .i64 t) := by rw [hb2.cell (by simp; omega), World.cell?_alloc_past _ _ _ hl]; exact c0
       have d1 : W2.cell? ⟨w.heap.size, 1, none⟩ = some (.int .u64 n) := by rw [hb2.cell (by simp; omega), World.cell?_alloc_past _ _ _ hl]; exact c1
       have d2 : W2.cell? ⟨W1.heap.size, 0, none⟩ = some (.int .i64 sz) := by rw [hb2.cell (by simp)]; exact World.cell?_alloc_new W1 _ _ _
       have hB2 := (hB1.alloc (by omega) (.cells #[.int .i64 sz, .bool sg, .bool true] 44)).trans (hb2.mono (by simp; omega))))
  go_ret
  exact ⟨rfl, hB2⟩

theorem check_bool (hO : types_of.f 1 t = some (sz, sg, true)) (h0 : (sz == 0) = false) (hp : decide (0 < sz) = true) (h1 : (t == 1) = true) (hn : decide (1 < n) = true) (hF : types_kind_fits.f sz sg true n = some true) :
    Calls Try.prog 21 #[.agg #[.int .i64 t, .int .u64 n, .string s]] w fun e w' => e = .returned (.int .i64 1) ∧ Below w.heap.size w w' := by
  have hB0 := (Below.refl w.heap.size w).alloc (Nat.le_refl _) (.cells #[.int .i64 t, .int .u64 n, .string s] 25)
  go_enter Try.func21, Try.ntmps21
  go_wp2_with (first
    | (go_at_call 20; refine (types_of.calls 1 t sz sg true _ hO).mono ?_; rintro e W1 ⟨rfl, hb⟩; obtain ⟨hl, c0, c1, c2⟩ := box_cells t n s w hb; have hB1 := hB0.trans (hb.mono (by simp)))
    | (go_at_call 30; refine (types_kind_fits.calls sz sg true n true _ hF).mono ?_; rintro e W2 ⟨rfl, hb2⟩; have hs2 := hb2.size; simp only [World.size_alloc] at hs2; have d0 : W2.cell? ⟨w.heap.size, 0, none⟩ = some (.int .i64 t) := by rw [hb2.cell (by simp; omega), World.cell?_alloc_past _ _ _ hl]; exact c0
       have d1 : W2.cell? ⟨w.heap.size, 1, none⟩ = some (.int .u64 n) := by rw [hb2.cell (by simp; omega), World.cell?_alloc_past _ _ _ hl]; exact c1
       have d2 : W2.cell? ⟨W1.heap.size, 0, none⟩ = some (.int .i64 sz) := by rw [hb2.cell (by simp)]; exact World.cell?_alloc_new W1 _ _ _
       have hB2 := (hB1.alloc (by omega) (.cells #[.int .i64 sz, .bool sg, .bool true] 44)).trans (hb2.mono (by simp; omega))))
  go_ret
  exact ⟨rfl, hB2⟩

theorem check_bool0 (hO : types_of.f 1 t = some (sz, sg, true)) (h0 : (sz == 0) = false) (hp : decide (0 < sz) = true) (h1 : (t == 1) = true) (h9 : (t == 9) = false) (hn : decide (1 < n) = false) (hF : types_kind_fits.f sz sg true n = some true) :
    Calls Try.prog 21 #[.agg #[.int .i64 t, .int .u64 n, .string s]] w fun e w' => e = .returned (.int .i64 0) ∧ Below w.heap.size w w' := by
  have hB0 := (Below.refl w.heap.size w).alloc (Nat.le_refl _) (.cells #[.int .i64 t, .int .u64 n, .string s] 25)
  go_enter Try.func21, Try.ntmps21
  go_wp2_with (first
    | (go_at_call 20; refine (types_of.calls 1 t sz sg true _ hO).mono ?_; rintro e W1 ⟨rfl, hb⟩; obtain ⟨hl, c0, c1, c2⟩ := box_cells t n s w hb; have hB1 := hB0.trans (hb.mono (by simp)))
    | (go_at_call 30; refine (types_kind_fits.calls sz sg true n true _ hF).mono ?_; rintro e W2 ⟨rfl, hb2⟩; have hs2 := hb2.size; simp only [World.size_alloc] at hs2; have d0 : W2.cell? ⟨w.heap.size, 0, none⟩ = some (.int .i64 t) := by rw [hb2.cell (by simp; omega), World.cell?_alloc_past _ _ _ hl]; exact c0
       have d1 : W2.cell? ⟨w.heap.size, 1, none⟩ = some (.int .u64 n) := by rw [hb2.cell (by simp; omega), World.cell?_alloc_past _ _ _ hl]; exact c1
       have d2 : W2.cell? ⟨W1.heap.size, 0, none⟩ = some (.int .i64 sz) := by rw [hb2.cell (by simp)]; exact World.cell?_alloc_new W1 _ _ _
       have hB2 := (hB1.alloc (by omega) (.cells #[.int .i64 sz, .bool sg, .bool true] 44)).trans (hb2.mono (by simp; omega))))
  go_ret
  exact ⟨rfl, hB2⟩

theorem check_num (hO : types_of.f 1 t = some (sz, sg, true)) (h0 : (sz == 0) = false) (hp : decide (0 < sz) = true) (h1 : (t == 1) = false) (h9 : (t == 9) = false) (hF : types_kind_fits.f sz sg true n = some true) :
    Calls Try.prog 21 #[.agg #[.int .i64 t, .int .u64 n, .string s]] w fun e w' => e = .returned (.int .i64 0) ∧ Below w.heap.size w w' := by
  have hB0 := (Below.refl w.heap.size w).alloc (Nat.le_refl _) (.cells #[.int .i64 t, .int .u64 n, .string s] 25)
  go_enter Try.func21, Try.ntmps21
  go_wp2_with (first
    | (go_at_call 20; refine (types_of.calls 1 t sz sg true _ hO).mono ?_; rintro e W1 ⟨rfl, hb⟩; obtain ⟨hl, c0, c1, c2⟩ := box_cells t n s w hb; have hB1 := hB0.trans (hb.mono (by simp)))
    | (go_at_call 30; refine (types_kind_fits.calls sz sg true n true _ hF).mono ?_; rintro e W2 ⟨rfl, hb2⟩; have hs2 := hb2.size; simp only [World.size_alloc] at hs2; have d0 : W2.cell? ⟨w.heap.size, 0, none⟩ = some (.int .i64 t) := by rw [hb2.cell (by simp; omega), World.cell?_alloc_past _ _ _ hl]; exact c0
       have d1 : W2.cell? ⟨w.heap.size, 1, none⟩ = some (.int .u64 n) := by rw [hb2.cell (by simp; omega), World.cell?_alloc_past _ _ _ hl]; exact c1
       have d2 : W2.cell? ⟨W1.heap.size, 0, none⟩ = some (.int .i64 sz) := by rw [hb2.cell (by simp)]; exact World.cell?_alloc_new W1 _ _ _
       have hB2 := (hB1.alloc (by omega) (.cells #[.int .i64 sz, .bool sg, .bool true] 44)).trans (hb2.mono (by simp; omega))))
  go_ret
  exact ⟨rfl, hB2⟩

end

theorem types_check.calls (a0_0 : Int) (a0_1 : Int) (a0_2 : ByteArray) (r : Int) (w : World) (h : types_check.f a0_0 a0_1 a0_2 = some r) :
    Calls Try.prog 21 #[.agg #[.int .i64 a0_0, .int .u64 a0_1, .string a0_2]] w fun e w' => e = .returned (.int .i64 r) ∧ Below w.heap.size w w' := by
  unfold types_check.f at h
  split at h
  · rename_i hr
    obtain ⟨h0, h1, h2⟩ := hr
    obtain rfl : chk a0_0 a0_1 a0_2 = r := by simpa using h
    clear h
    have hO := of_eq a0_0
    have hf := fun hz => fits_num (tk a0_0).1 hz (tk a0_0).2.1 (tk a0_0).2.2 a0_1 h0 h1
    have hc := tk_cases a0_0
    have h1' : a0_0 = 1 → (tk a0_0).1 = 1 := by rintro rfl; rfl
    have h9' : a0_0 = 9 → (tk a0_0).1 = 0 := by rintro rfl; rfl
    unfold chk
    obtain ⟨sz, sg, is, htk⟩ : ∃ sz sg is, tk a0_0 = (sz, sg, is) := ⟨_, _, _, rfl⟩
    rw [htk] at hO hf hc h1' h9'
    rw [htk]
    simp only at hO hf hc h1' h9' ⊢
    cases is with
    | false => rw [if_pos rfl]; exact check_not a0_0 a0_1 a0_2 w sz sg hO
    | true =>
      rw [if_neg (by simp)]
      by_cases hz : sz = 0
      · subst hz
        rw [if_pos rfl]
        by_cases hl : 65536 < a0_2.size
        · rw [if_pos hl]; exact check_long a0_0 a0_1 a0_2 w sg hO (by simp; omega)
        · rw [if_neg hl]
          have hl' : decide (65536 < (a0_2.size : Int)) = false := by simp; omega
          by_cases h9 : a0_0 = 9
          · subst h9
            have := check_text a0_1 a0_2 w sg hO hl' _ rfl
            simpa using this
          · rw [if_neg (by simp [h9])]
            exact check_other a0_0 a0_1 a0_2 w sg hO hl' (by simp; intro h; have := h1' h; omega) (by simpa using h9)
      · rw [if_neg hz]
        have hc' : sz = 1 ∨ sz = 2 ∨ sz = 4 ∨ sz = 8 := by rcases hc with ⟨h, _⟩ | ⟨h, _⟩; exact absurd h hz; exact h
        have hF := hf hc'
        have z0 : (sz == 0) = false := by simpa using hz
        have zp : decide (0 < sz) = true := by simp; omega
        have z9 : (a0_0 == 9) = false := by simp; intro h; exact hz (h9' h)
        cases hft : fit sz sg a0_1 with
        | false =>
          rw [hft] at hF
          rw [if_pos rfl]
          exact check_unfit a0_0 a0_1 a0_2 w sz sg hO z0 zp hF
        | true =>
          rw [hft] at hF
          rw [if_neg (by simp)]
          by_cases he : a0_0 = 1
          · by_cases hn : 1 < a0_1
            · rw [if_pos ⟨he, hn⟩]
              exact check_bool a0_0 a0_1 a0_2 w sz sg hO z0 zp (by simpa using he) (by simpa using hn) hF
            · rw [if_neg (by simp [hn])]
              exact check_bool0 a0_0 a0_1 a0_2 w sz sg hO z0 zp (by simpa using he) z9 (by simpa using hn) hF
          · rw [if_neg (by simp [he])]
            exact check_num a0_0 a0_1 a0_2 w sz sg hO z0 zp (by simpa using he) z9 hF
  · cases h
end Go.Proofs.Ytkajoepgebfjoaa.Ext
