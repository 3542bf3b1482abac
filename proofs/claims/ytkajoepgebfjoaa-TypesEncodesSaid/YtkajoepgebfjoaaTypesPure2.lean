/- Layer 7: the document's Check and Decode, and the program's Decode, are the same plain functions. -/
import Derived.Test.YtkajoepgebfjoaaTypesPure1
import Derived.Test.YtkajoepgebfjoaaPBx1
import Derived.Test.YtkajoepgebfjoaaPBx2
import Derived.Test.YtkajoepgebfjoaaPBx6
import Derived.Test.YtkajoepgebfjoaaPBx7
set_option linter.unusedVariables false
set_option linter.unusedSimpArgs false
namespace Go.Proofs.Ytkajoepgebfjoaa.Pur
open Go.RowKit Go.Proofs.YtkajoepgebfjoaaW.PrintWords Go.Proofs.YtkajoepgebfjoaaW.PrintLast Go.Proofs.YtkajoepgebfjoaaW.PrintMore Go.Proofs.Ytkajoepgebfjoaa.TM Go.Proofs.Ytkajoepgebfjoaa.Ext Go.Proofs.Ytkajoepgebfjoaa.PB

theorem nb_byt (n : Int) (j : Nat) : 0 ≤ nb n j ∧ nb n j ≤ 255 := by unfold nb; omega
theorem lowB_byt (n : Int) (m : Nat) : Byt (lowB n m) := by
  intro b hb
  obtain ⟨j, _, rfl⟩ := List.mem_map.1 hb
  exact nb_byt n j
theorem lowB_length (n : Int) (m : Nat) : (lowB n m).length = m := by simp [lowB]
theorem lowB_succ (n : Int) (m : Nat) : lowB n (m + 1) = lowB n m ++ [nb n m] := by simp [lowB, List.range_succ]
theorem uns_lowB (n : Int) (h0 : 0 ≤ n) : ∀ m, uns (lowB n m) = n % 256 ^ m
  | 0 => by simp [lowB, uns, Int.emod_one]
  | m + 1 => by
    rw [lowB_succ, uns_append, lowB_length, uns_lowB n h0 m]
    unfold nb
    rw [← pow256]
    have hp : (0 : Int) < 256 ^ m := Int.pow_pos (by omega)
    have e : (256 : Int) ^ (m + 1) = 256 ^ m * 256 := Int.pow_succ ..
    rw [e]
    generalize (256 : Int) ^ m = p at hp
    have h1 := Int.emod_add_mul_ediv n p
    have h2 := Int.emod_add_mul_ediv (n / p) 256
    have h3 := Int.emod_nonneg n (show p ≠ 0 by omega)
    have h4 := Int.emod_lt_of_pos n hp
    have h5 : 0 ≤ n / p % 256 ∧ n / p % 256 < 256 := by omega
    have h6 : n = (n % p + n / p % 256 * p) + (p * 256) * (n / p / 256) := by
      have : p * (n / p) = p * (n / p % 256) + p * (256 * (n / p / 256)) := by rw [← Int.mul_add, h2]
      rw [Int.mul_comm (n / p % 256) p, Int.mul_assoc p 256]
      omega
    conv => rhs; rw [h6]
    rw [Int.add_mul_emod_self_left]
    refine (Int.emod_eq_of_lt ?_ ?_).symm
    · have := Int.mul_nonneg h5.1 (Int.le_of_lt hp); omega
    · have : n / p % 256 * p ≤ 255 * p := Int.mul_le_mul_of_nonneg_right (by omega) (by omega)
      omega
theorem lowB_last (n : Int) (m : Nat) (hm : 0 < m) : (lowB n m).getD (m - 1) 0 = nb n (m - 1) := by
  have hl : m - 1 < (lowB n m).length := by rw [lowB_length]; omega
  rw [List.getD_eq_getElem?_getD, List.getElem?_eq_getElem hl]
  simp [lowB]

/-- A number is its own lowest bytes just if it fits. -/
theorem wide_low (sg : Bool) (n : Int) (h0 : 0 ≤ n) (h1 : n ≤ 18446744073709551615) (m : Nat) (hm : m = 1 ∨ m = 2 ∨ m = 4 ∨ m = 8) : wideM sg (lowB n m) = n ↔ fit m sg n = true := by
  have hu := uns_lowB n h0 m
  have hl := lowB_last n m (by omega)
  unfold wideM
  rw [lowB_length, hl, hu]
  rcases hm with rfl | rfl | rfl | rfl <;> cases sg
  · simp only [Bool.false_eq_true, false_and, if_false]; rw [show fit ((1 : Nat) : Int) false n = decide (n < 256) from rfl]; simp; omega
  · rw [show fit ((1 : Nat) : Int) true n = decide (n < 128 ∨ 18446744073709551616 - 128 ≤ n) from rfl]
    simp only [nb, true_and, decide_eq_true_eq, show (2 : Int) ^ (8 * (1 - 1)) = 1 by rfl, show (256 : Int) ^ 1 = 256 by rfl]
    split <;> omega
  · simp only [Bool.false_eq_true, false_and, if_false]; rw [show fit ((2 : Nat) : Int) false n = decide (n < 65536) from rfl]; simp; omega
  · rw [show fit ((2 : Nat) : Int) true n = decide (n < 32768 ∨ 18446744073709551616 - 32768 ≤ n) from rfl]
    simp only [nb, true_and, decide_eq_true_eq, show (2 : Int) ^ (8 * (2 - 1)) = 256 by rfl, show (256 : Int) ^ 2 = 65536 by rfl]
    split <;> omega
  · simp only [Bool.false_eq_true, false_and, if_false]; rw [show fit ((4 : Nat) : Int) false n = decide (n < 4294967296) from rfl]; simp; omega
  · rw [show fit ((4 : Nat) : Int) true n = decide (n < 2147483648 ∨ 18446744073709551616 - 2147483648 ≤ n) from rfl]
    simp only [nb, true_and, decide_eq_true_eq, show (2 : Int) ^ (8 * (4 - 1)) = 16777216 by rfl, show (256 : Int) ^ 4 = 4294967296 by rfl]
    split <;> omega
  · simp only [Bool.false_eq_true, false_and, if_false]; rw [show fit ((8 : Nat) : Int) false n = true from rfl]; simp; omega
  · rw [show fit ((8 : Nat) : Int) true n = true from rfl]
    simp only [nb, true_and, show (2 : Int) ^ (8 * (8 - 1)) = 72057594037927936 by rfl, show (256 : Int) ^ 8 = 18446744073709551616 by rfl, iff_true]
    split <;> omega

/-! ### Check -/
theorem bad_at (s : ByteArray) (i : Nat) (h : i < s.size) : badB (s[i]'h).toNat = true ↔ (bt s i < 32 ∨ bt s i > 126) := by
  have : bt s i = ((s[i]'h).toNat : Int) := by rw [← bt_at s i (by simpa using h)]; simp
  rw [this]
  unfold badB
  simp
  omega
theorem text_from (s : ByteArray) (hs : s.size ≤ 140737488351232) (n : Int) : ∀ (d k i : Nat), i ≤ s.size → s.size = i + d → 2 * d + 2 ≤ k →
    tramwayref07_Check.l0 k i 9 n s = some (if ((s.data.toList.drop i).any fun c => badB c.toNat) = true then 1 else 0) := by
  intro d
  induction d with
  | zero =>
    intro k i hi hd hk
    obtain ⟨k, rfl⟩ : ∃ q, k = q + 2 := ⟨k - 2, by omega⟩
    simp only [tramwayref07_Check.l0]
    rw [if_neg (by omega), List.drop_eq_nil_of_le (by simp; omega)]
    simp [tramwayref07_Check.j1]
  | succ d ih =>
    intro k i hi hd hk
    obtain ⟨k, rfl⟩ : ∃ q, k = q + 2 := ⟨k - 2, by omega⟩
    have h : i < s.size := by omega
    simp only [tramwayref07_Check.l0]
    rw [if_pos (by omega)]
    simp only [tramwayref07_Check.j1]
    rw [if_pos (by rfl), if_pos (by omega), if_pos (by omega), any_from s _ i h, show wrap64 ((i : Int) + 1) = ((i + 1 : Nat) : Int) by unfold wrap64; omega, ih k (i + 1) (by omega) (by omega) (by omega)]
    have hb := bad_at s i h
    by_cases h1 : bt s i < 32
    · rw [if_pos h1, hb.2 (.inl h1)]; simp
    · rw [if_neg h1]
      by_cases h2 : bt s i > 126
      · rw [if_pos h2, hb.2 (.inr h2)]; simp
      · rw [if_neg h2]
        have : badB (s[i]'h).toNat = false := by
          rw [Bool.eq_false_iff]; intro hh; rcases hb.1 hh with h | h
          · exact h1 h
          · exact h2 h
        rw [this, Bool.false_or]
theorem other_text (s : ByteArray) (n t : Int) (ht : ¬ t = 9) (k : Nat) (hk : 2 ≤ k) : tramwayref07_Check.l0 k 0 t n s = some 0 := by
  obtain ⟨k, rfl⟩ : ∃ q, k = q + 2 := ⟨k - 2, by omega⟩
  have : (t == 9) = false := by simpa using ht
  simp only [tramwayref07_Check.l0, tramwayref07_Check.j1, this]
  split <;> simp

theorem rcheck_eq (t n : Int) (s : ByteArray) (hr : Rng n s) (k : Nat) (hk : 2 * s.size + 30 ≤ k) : tramwayref07_Check.f k t n s = some (chk t n s) := by
  obtain ⟨h0, h1, h2⟩ := hr
  unfold tramwayref07_Check.f chk
  rw [is_eq k (by omega), size_eq k (by omega)]
  simp only [Option.bind_some]
  have hc := tk_cases t
  cases his : (tk t).2.2 with
  | false => simp
  | true =>
    rw [if_pos (show (true : Bool) = true from rfl), if_neg (show ¬ ((true : Bool) = false) by simp)]
    by_cases hz : (tk t).1 = 0
    · rw [if_neg (by omega), if_pos hz]
      by_cases hl : 65536 < s.size
      · rw [if_pos (by omega), if_pos hl]
      · rw [if_neg (by omega), if_neg hl]
        by_cases h9 : t = 9
        · subst h9
          have := text_from s h2 n s.size k 0 (by omega) (by omega) (by omega)
          rw [List.drop_zero] at this
          refine this.trans ?_
          unfold badS
          simp
        · rw [if_neg (by simp [h9])]
          exact other_text s n t h9 k (by omega)
    · rcases hc with ⟨hc, _⟩ | ⟨hc, _⟩
      · exact absurd hc hz
      rw [if_pos (by omega), if_neg hz]
      obtain ⟨m, hm⟩ : ∃ m : Nat, (tk t).1 = m := ⟨(tk t).1.toNat, by omega⟩
      have hm' : m = 1 ∨ m = 2 ∨ m = 4 ∨ m = 8 := by omega
      rw [hm, low_eq k (by omega) n m (by omega)]
      simp only [Option.bind_some]
      rw [wide_eq k (by omega) t _ (by rw [lowB_length]; omega) (lowB_byt n m)]
      simp only [Option.bind_some]
      have hw := wide_low (tk t).2.1 n h0 h1 m hm'
      cases hf : fit m (tk t).2.1 n with
      | true =>
        rw [if_pos (hw.2 hf), if_neg (show ¬ ((true : Bool) = false) by simp)]
        by_cases h1 : t = 1
        · rw [if_pos h1]
          by_cases h2 : n > 1
          · rw [if_pos h2, if_pos ⟨h1, h2⟩]
          · rw [if_neg h2, if_neg (fun h => h2 h.2)]
        · rw [if_neg h1, if_neg (fun h => h1 h.1)]
      | false =>
        rw [if_neg (fun h => by rw [hw.1 h] at hf; cases hf), if_pos rfl]

/-! ### Decode -/
theorem str_size (l : List Int) : (strOfNums l).size = l.length := by
  exact strOfNums_size l
/-- What bytes are. -/
def dec (t : Int) (l : List Int) : Int × Int × ByteArray × Int :=
  if (tk t).2.2 = false then (0, 0, ⟨#[]⟩, 1) else if (l.length : Int) < (tk t).1 then (0, 0, ⟨#[]⟩, 3) else
  if (0 < (tk t).1 ∧ (tk t).1 < l.length) ∨ 65536 < l.length then (0, 0, ⟨#[]⟩, 2) else
  if (tk t).1 = 0 then (if chk t 0 (strOfNums l) = 0 then (t, 0, strOfNums l, 0) else (0, 0, ⟨#[]⟩, 8))
  else (if chk t (wideM (tk t).2.1 l) ⟨#[]⟩ = 0 then (t, wideM (tk t).2.1 l, ⟨#[]⟩, 0) else (0, 0, ⟨#[]⟩, 8))

theorem uns_last (l : List Int) (hb : Byt l) (m : Nat) (hl : l.length = m + 1) : uns l = uns (l.take m) + l.getD m 0 * 256 ^ m ∧ 0 ≤ uns (l.take m) ∧ uns (l.take m) < 256 ^ m := by
  have h1 := uns_take l m (by omega)
  rw [List.take_of_length_le (by omega)] at h1
  have h2 := uns_bd (l.take m) (byt_take hb m)
  rw [List.length_take, Nat.min_eq_left (by omega)] at h2
  exact ⟨h1, h2⟩
theorem wide_bd (sg : Bool) (l : List Int) (hb : Byt l) (hl : l.length ≤ 8) : 0 ≤ wideM sg l ∧ wideM sg l ≤ 18446744073709551615 := by
  have hu := uns_bd l hb
  have hp : (256 : Int) ^ l.length ≤ 18446744073709551616 := by
    have h : (256 : Nat) ^ l.length ≤ 18446744073709551616 := Nat.le_trans (Nat.pow_le_pow_right (show 0 < 256 by omega) hl) (Nat.le_refl _)
    have e : (256 : Int) ^ l.length = ((256 ^ l.length : Nat) : Int) := (Int.natCast_pow 256 l.length).symm
    rw [e]; omega
  unfold wideM
  split <;> omega
/-- Shifted up and down, a number takes its sign. -/
theorem sign_ext (l : List Int) (hb : Byt l) (m : Nat) (hm : m = 1 ∨ m = 2 ∨ m = 4 ∨ m = 8) (hl : l.length = m) :
    IntKind.u64.wrap (shr .i64 (wrap64 (shl .u64 (uns l) (wrap64 (64 - wrap64 (8 * (m : Int)))))) (wrap64 (64 - wrap64 (8 * (m : Int))))) = wideM true l := by
  obtain ⟨q, hq⟩ : ∃ q, m = q + 1 := ⟨m - 1, by omega⟩
  obtain ⟨h1, h2, h3⟩ := uns_last l hb q (by omega)
  have hlast := hb (l.getD q 0) (by rw [List.getD_eq_getElem?_getD, List.getElem?_eq_getElem (show q < l.length by omega)]; simp)
  unfold wideM
  rw [hl, show m - 1 = q by omega, h1]
  have hw : ∀ n : Int, wrap64 n = (n + 9223372036854775808) % 18446744073709551616 - 9223372036854775808 := fun n => by unfold wrap64; omega
  have hs : ∃ sp pw : Int, wrap64 (64 - wrap64 (8 * (m : Int))) = sp ∧ (2 : Int) ^ min sp.toNat 64 = pw ∧ pw * 256 ^ (q + 1) = 18446744073709551616 ∧ ((q = 0 ∧ pw = 72057594037927936) ∨ (q = 1 ∧ pw = 281474976710656) ∨ (q = 3 ∧ pw = 4294967296) ∨ (q = 7 ∧ pw = 1)) := by
    rcases hm with rfl | rfl | rfl | rfl
    · exact ⟨56, _, by unfold wrap64; omega, pw56, (by have h : q = 0 := (by omega); subst h; rfl), by omega⟩
    · exact ⟨48, _, by unfold wrap64; omega, pw48, (by have h : q = 1 := (by omega); subst h; rfl), by omega⟩
    · exact ⟨32, _, by unfold wrap64; omega, pw32, (by have h : q = 3 := (by omega); subst h; rfl), by omega⟩
    · exact ⟨0, _, by unfold wrap64; omega, pw0, (by have h : q = 7 := (by omega); subst h; rfl), by omega⟩
  obtain ⟨sp, pw, hsp, hpw, hpq, hcase⟩ := hs
  rw [hsp]
  unfold shr shl
  rw [u64_w, u64_w, hw, show IntKind.u64.bits = 64 from rfl, show IntKind.i64.bits = 64 from rfl, hpw]
  have hm1 : m = q + 1 := hq
  rw [hm1]
  rcases hcase with ⟨rfl, rfl⟩ | ⟨rfl, rfl⟩ | ⟨rfl, rfl⟩ | ⟨rfl, rfl⟩
  · simp only [show (256 : Int) ^ 0 = 1 by rfl, show (256 : Int) ^ (0 + 1) = 256 by rfl, true_and] at *; split <;> omega
  · simp only [show (256 : Int) ^ 1 = 256 by rfl, show (256 : Int) ^ (1 + 1) = 65536 by rfl, true_and] at *; split <;> omega
  · simp only [show (256 : Int) ^ 3 = 16777216 by rfl, show (256 : Int) ^ (3 + 1) = 4294967296 by rfl, true_and] at *; split <;> omega
  · simp only [show (256 : Int) ^ 7 = 72057594037927936 by rfl, show (256 : Int) ^ (7 + 1) = 18446744073709551616 by rfl, true_and] at *; split <;> omega
end Go.Proofs.Ytkajoepgebfjoaa.Pur
