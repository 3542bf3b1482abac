/- Layer 7: the program's Decode and the document's are 'dec'; the orders; what plays no part. -/
import Derived.Test.YtkajoepgebfjoaaTypesPure2
import Derived.Test.YtkajoepgebfjoaaPBx3
set_option linter.unusedVariables false
set_option linter.unusedSimpArgs false
namespace Go.Proofs.Ytkajoepgebfjoaa.Pur
open Go.RowKit Go.Proofs.YtkajoepgebfjoaaW.PrintWords Go.Proofs.YtkajoepgebfjoaaW.PrintLast Go.Proofs.YtkajoepgebfjoaaW.PrintMore Go.Proofs.Ytkajoepgebfjoaa.TM Go.Proofs.Ytkajoepgebfjoaa.Ext Go.Proofs.Ytkajoepgebfjoaa.PB

theorem pof_eq (k : Nat) (hk : 1 ≤ k) (t : Int) : types_of.f k t = some (tk t) := by
  obtain ⟨k, rfl⟩ : ∃ q, k = q + 1 := ⟨k - 1, by omega⟩
  exact (show types_of.f (k + 1) t = Go.Proofs.Ytkajoepgebfjoaa.PE.types_of.f 1 t from rfl).trans (of_eq t)
theorem pcheck_eq (t n : Int) (s : ByteArray) (hr : Rng n s) : types_check.f t n s = some (chk t n s) := by
  unfold types_check.f; rw [if_pos hr]
theorem rng_num (n : Int) (h : 0 ≤ n ∧ n ≤ 18446744073709551615) : Rng n ⟨#[]⟩ := ⟨h.1, h.2, by simp [ByteArray.size]⟩
theorem rng_str (l : List Int) (h : l.length ≤ 65536) : Rng 0 (strOfNums l) := ⟨by omega, by omega, by rw [str_size]; omega⟩

/-- What a value that was read answers with. -/
def ans (t n : Int) (s : ByteArray) : Int × Int × ByteArray × Int := if chk t n s = 0 then (t, n, s, 0) else (0, 0, ⟨#[]⟩, 8)
theorem ans_p (t n : Int) (s : ByteArray) (hr : Rng n s) : ((types_check.f t n s).bind fun c => if c = 0 then some (t, n, s, (0 : Int)) else some (0, 0, (⟨#[]⟩ : ByteArray), 8)) = some (ans t n s) := by
  rw [pcheck_eq t n s hr]; unfold ans; simp only [Option.bind_some]; split <;> rfl
theorem ans_r (t n : Int) (s : ByteArray) (hr : Rng n s) (k : Nat) (hk : 2 * s.size + 30 ≤ k) : ((tramwayref07_Check.f k t n s).bind fun c => if c = 0 then some (t, n, s, (0 : Int)) else some (0, 0, (⟨#[]⟩ : ByteArray), 8)) = some (ans t n s) := by
  rw [rcheck_eq t n s hr k hk]; unfold ans; simp only [Option.bind_some]; split <;> rfl
theorem dec_ans (t : Int) (l : List Int) : dec t l = if (tk t).2.2 = false then (0, 0, ⟨#[]⟩, 1) else if (l.length : Int) < (tk t).1 then (0, 0, ⟨#[]⟩, 3) else
    if (0 < (tk t).1 ∧ (tk t).1 < l.length) ∨ 65536 < l.length then (0, 0, ⟨#[]⟩, 2) else
    if (tk t).1 = 0 then ans t 0 (strOfNums l) else ans t (wideM (tk t).2.1 l) ⟨#[]⟩ := rfl

theorem pdec_l0 (t : Int) (l : List Int) (hb : Byt l) (sg is : Bool) (hm : l.length = 1 ∨ l.length = 2 ∨ l.length = 4 ∨ l.length = 8) : ∀ (d k i : Nat), i ≤ l.length → l.length = i + d → d < k →
    types_Decode.l0 k l (l.length : Int) i (l.length : Int) sg is t (uns (l.take i)) ⟨#[]⟩ = some (ans t (wideM sg l) ⟨#[]⟩) := by
  intro d
  induction d with
  | zero =>
    intro k i hi hd hk
    obtain ⟨k, rfl⟩ : ∃ q, k = q + 1 := ⟨k - 1, by omega⟩
    obtain rfl : i = l.length := by omega
    simp only [types_Decode.l0]
    rw [if_neg (by omega), List.take_length]
    cases sg with
    | true =>
      have h0 : 0 ≤ wrap64 (64 - wrap64 (8 * (l.length : Int))) := by unfold wrap64; omega
      rw [if_pos (show (true : Bool) = true from rfl), if_pos h0, sign_ext l hb l.length hm rfl]
      exact ans_p _ _ _ (rng_num _ (wide_bd true l hb (by omega)))
    | false =>
      have h := ans_p t (wideM false l) ⟨#[]⟩ (rng_num _ (wide_bd false l hb (by omega)))
      rw [if_neg (show ¬ (false : Bool) = true by simp)]
      exact h
  | succ d ih =>
    intro k i hi hd hk
    obtain ⟨k, rfl⟩ : ∃ q, k = q + 1 := ⟨k - 1, by omega⟩
    have hi' : i < l.length := by omega
    have hbi := hb (l.getD i 0) (by rw [List.getD_eq_getElem?_getD, List.getElem?_eq_getElem hi']; simp)
    have hu := uns_bd (l.take i) (byt_take hb i)
    rw [List.length_take, Nat.min_eq_left (by omega)] at hu
    simp only [types_Decode.l0]
    rw [if_pos (by omega), if_pos (by omega), if_pos (by omega), wr8 i (by omega), if_pos (by omega)]
    simp only [rd, Int.toNat_natCast]
    rw [u64_small _ hbi.1 (by omega), shl_256 _ i (by omega) hbi.1 hbi.2, or_add _ _ i (by omega) hu.1 hu.2 hbi.1 hbi.2, ← uns_take l i hi', show wrap64 ((i : Int) + 1) = ((i + 1 : Nat) : Int) by unfold wrap64; omega]
    exact ih k (i + 1) (by omega) (by omega) (by omega)

theorem pdec_eq (t : Int) (l : List Int) (hb : Byt l) (k : Nat) (hk : 20 ≤ k) : types_Decode.f k t l = some (dec t l) := by
  obtain ⟨k, rfl⟩ : ∃ q, k = q + 2 := ⟨k - 2, by omega⟩
  unfold types_Decode.f
  rw [pof_eq _ (by omega), dec_ans]
  simp only [Option.bind_some]
  have hc := tk_cases t
  cases his : (tk t).2.2 with
  | false => rw [if_neg (by simp), if_pos rfl]
  | true =>
    rw [if_pos (show (true : Bool) = true from rfl), if_neg (show ¬ (true : Bool) = false by simp)]
    by_cases h1 : (l.length : Int) < (tk t).1
    · rw [if_pos h1, if_pos h1]
    · rw [if_neg h1, if_neg h1]
      simp only [types_Decode.j0, types_Decode.j1]
      by_cases hz : (tk t).1 = 0
      · rw [if_neg (show ¬ (tk t).1 > 0 by omega), if_neg (show ¬ (false : Bool) = true by simp)]
        by_cases h2 : 65536 < l.length
        · rw [if_pos (by simp; omega), if_pos (.inr h2)]
        · rw [if_neg (by simp; omega), if_neg (show ¬ ((0 < (tk t).1 ∧ (tk t).1 < (l.length : Int)) ∨ 65536 < l.length) by omega), if_pos hz, if_pos hz]
          exact ans_p _ _ _ (rng_str l (by omega))
      · have hm : (tk t).1 = 1 ∨ (tk t).1 = 2 ∨ (tk t).1 = 4 ∨ (tk t).1 = 8 := by rcases hc with ⟨h, _⟩ | ⟨h, _⟩; exact absurd h hz; exact h
        rw [if_pos (show (tk t).1 > 0 by omega)]
        by_cases h2 : (tk t).1 < (l.length : Int)
        · rw [if_pos (show decide ((l.length : Int) > (tk t).1) = true by simp; omega), if_pos (show decide ((l.length : Int) > (tk t).1) = true by simp; omega), if_pos (.inl ⟨by omega, h2⟩)]
        · have hl : (l.length : Int) = (tk t).1 := by omega
          rw [if_neg (show ¬ decide ((l.length : Int) > (tk t).1) = true by simp; omega), if_neg (show ¬ decide ((l.length : Int) > 65536) = true by simp; omega), if_neg (show ¬ ((0 < (tk t).1 ∧ (tk t).1 < (l.length : Int)) ∨ 65536 < l.length) by omega), if_neg hz, if_neg hz, ← hl]
          have := pdec_l0 t l hb (tk t).2.1 true (by omega) l.length k 0 (by omega) (by omega) (by omega)
          simpa [uns] using this

theorem rdec_eq (t : Int) (l : List Int) (hb : Byt l) (k : Nat) (hk : 131200 ≤ k) : tramwayref07_Decode.f k t l = some (dec t l) := by
  obtain ⟨k, rfl⟩ : ∃ q, k = q + 2 := ⟨k - 2, by omega⟩
  unfold tramwayref07_Decode.f
  rw [is_eq _ (by omega), size_eq _ (by omega), dec_ans]
  simp only [Option.bind_some]
  have hc := tk_cases t
  cases his : (tk t).2.2 with
  | false => rw [if_neg (by simp), if_pos rfl]
  | true =>
    rw [if_pos (show (true : Bool) = true from rfl), if_neg (show ¬ (true : Bool) = false by simp)]
    by_cases h1 : (l.length : Int) < (tk t).1
    · rw [if_pos h1, if_pos h1]
    · rw [if_neg h1, if_neg h1]
      simp only [tramwayref07_Decode.j0]
      by_cases hz : (tk t).1 = 0
      · rw [if_neg (show ¬ (tk t).1 > 0 by omega)]
        by_cases h2 : 65536 < l.length
        · rw [if_pos (by simp; omega), if_pos (.inr h2)]
        · rw [if_neg (by simp; omega), if_neg (show ¬ (tk t).1 > 0 by omega), if_neg (show ¬ ((0 < (tk t).1 ∧ (tk t).1 < (l.length : Int)) ∨ 65536 < l.length) by omega), if_pos hz]
          exact ans_r _ _ _ (rng_str l (by omega)) _ (by rw [str_size]; omega)
      · have hm : (tk t).1 = 1 ∨ (tk t).1 = 2 ∨ (tk t).1 = 4 ∨ (tk t).1 = 8 := by rcases hc with ⟨h, _⟩ | ⟨h, _⟩; exact absurd h hz; exact h
        rw [if_pos (show (tk t).1 > 0 by omega)]
        by_cases h2 : (tk t).1 < (l.length : Int)
        · rw [if_pos (show (l.length : Int) > (tk t).1 from h2), if_pos trivial, if_pos (.inl ⟨by omega, h2⟩)]
        · have hl : (l.length : Int) = (tk t).1 := by omega
          rw [if_neg (show ¬ (l.length : Int) > (tk t).1 by omega), if_neg (show ¬ decide ((l.length : Int) > 65536) = true by simp; omega), if_pos (show (tk t).1 > 0 by omega), if_neg (show ¬ ((0 < (tk t).1 ∧ (tk t).1 < (l.length : Int)) ∨ 65536 < l.length) by omega), if_neg hz]
          rw [wide_eq _ (by omega) t l (by omega) hb]
          simp only [Option.bind_some]
          exact ans_r _ _ _ (rng_num _ (wide_bd _ l hb (by omega))) _ (by simp [ByteArray.size]; omega)

/-! ### What plays no part -/
def pln (t n : Int) (s : ByteArray) : Int × Int × ByteArray := if 0 < (tk t).1 then (t, n, ⟨#[]⟩) else if (tk t).2.2 = true then (t, 0, s) else (t, n, s)
theorem plain_eq (t n : Int) (s : ByteArray) (k : Nat) (hk : 1 ≤ k) : types_Plain.f k t n s = some (pln t n s) := by
  unfold types_Plain.f types_plain.f pln
  rw [pof_eq k hk]
  simp only [Option.bind_some, gt_iff_lt]
  repeat' split
  all_goals rfl
theorem psize_eq (t : Int) (k : Nat) (hk : 1 ≤ k) : types_Size.f k t = some ((tk t).1, decide (0 < (tk t).1)) := by
  unfold types_Size.f
  rw [pof_eq k hk]
  rfl

end Go.Proofs.Ytkajoepgebfjoaa.Pur
