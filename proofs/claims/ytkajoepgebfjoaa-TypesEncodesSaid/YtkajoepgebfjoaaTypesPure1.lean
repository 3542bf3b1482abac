/- Layer 7: bytes put together: sums, and the bits that are put together with or. Plain. -/
import Derived.Test.YtkajoepgebfjoaaTypesExt2
import Derived.Test.YtkajoepgebfjoaaPBx4
import Derived.Test.YtkajoepgebfjoaaPBx5
import Derived.Laws.BitsAllLaws
set_option linter.unusedVariables false
set_option linter.unusedSimpArgs false
namespace Go.Proofs.Ytkajoepgebfjoaa.Pur
open Go.RowKit Go.Proofs.YtkajoepgebfjoaaW.PrintWords Go.Proofs.YtkajoepgebfjoaaW.PrintLast Go.Proofs.YtkajoepgebfjoaaW.PrintMore Go.Proofs.Ytkajoepgebfjoaa.TM Go.Proofs.Ytkajoepgebfjoaa.Ext Go.Proofs.Ytkajoepgebfjoaa.PB

/-- Bytes as a number, the lowest first. -/
def uns : List Int → Int
  | [] => 0
  | b :: r => b + 256 * uns r
def Byt (l : List Int) : Prop := ∀ b ∈ l, 0 ≤ b ∧ b ≤ 255
theorem uns_bd : ∀ (l : List Int), Byt l → 0 ≤ uns l ∧ uns l < 256 ^ l.length
  | [], _ => by simp [uns]
  | b :: r, h => by
    have hb := h b (by simp)
    have ih := uns_bd r (fun x hx => h x (by simp [hx]))
    simp only [uns, List.length_cons, Int.pow_succ]
    omega
theorem uns_append (l : List Int) (b : Int) : uns (l ++ [b]) = uns l + b * 256 ^ l.length := by
  induction l with
  | nil => simp [uns]
  | cons a r ih =>
    simp only [List.cons_append, uns, ih, List.length_cons, Int.pow_succ]
    rw [Int.mul_add, ← Int.add_assoc]
    congr 1
    rw [← Int.mul_assoc, Int.mul_comm 256 b, Int.mul_assoc, Int.mul_comm 256]
theorem uns_take (l : List Int) (i : Nat) (h : i < l.length) : uns (l.take (i + 1)) = uns (l.take i) + l.getD i 0 * 256 ^ i := by
  rw [List.take_succ_eq_append_getElem h, uns_append, List.length_take, Nat.min_eq_left (by omega)]
  simp [List.getD_eq_getElem?_getD, h]
theorem pow256 (i : Nat) : (256 : Int) ^ i = 2 ^ (8 * i) := by rw [Int.pow_mul]; rfl
theorem byt_take {l : List Int} (h : Byt l) (i : Nat) : Byt (l.take i) := fun b hb => h b (List.mem_of_mem_take hb)

/-- What lies apart is added. -/
theorem or_add (x b : Int) (i : Nat) (hi : i < 8) (hx0 : 0 ≤ x) (hx1 : x < 256 ^ i) (hb0 : 0 ≤ b) (hb1 : b ≤ 255) : Go.bits .or .u64 x (b * 256 ^ i) = x + b * 256 ^ i := by
  obtain ⟨X, rfl⟩ := Int.eq_ofNat_of_zero_le hx0
  obtain ⟨B, rfl⟩ := Int.eq_ofNat_of_zero_le hb0
  have e : ((B : Int) * 256 ^ i) = ((B * 2 ^ (8 * i) : Nat) : Int) := by rw [pow256]; simp
  have hX : X < 2 ^ (8 * i) := by rw [pow256] at hx1; exact_mod_cast hx1
  have hp : 2 ^ (8 * i) ≤ 2 ^ 56 := Nat.pow_le_pow_right (by omega) (by omega)
  have hBp : B * 2 ^ (8 * i) ≤ 255 * 2 ^ 56 := Nat.mul_le_mul (by omega) hp
  rw [e, u64_or_nat X _ (by omega) (by omega)]
  have := Nat.shiftLeft_add_eq_or_of_lt hX B
  rw [Nat.shiftLeft_eq] at this
  rw [Nat.or_comm, ← this]
  omega

theorem wr8 (i : Nat) (hi : i ≤ 8) : wrap64 (8 * (i : Int)) = 8 * i := by unfold wrap64; omega
theorem u64_small (x : Int) (h0 : 0 ≤ x) (h1 : x < 18446744073709551616) : IntKind.u64.wrap x = x := by rw [u64_w]; omega
theorem shl_256 (b : Int) (i : Nat) (hi : i < 8) (hb0 : 0 ≤ b) (hb1 : b ≤ 255) : shl .u64 b (8 * (i : Int)) = b * 256 ^ i := by
  unfold shl
  have e : min (8 * (i : Int)).toNat IntKind.u64.bits = 8 * i := by simp [IntKind.bits]; omega
  rw [e, pow256]
  have hp : (2 : Int) ^ (8 * i) ≤ 2 ^ 56 := by
    have : (2 : Nat) ^ (8 * i) ≤ 2 ^ 56 := Nat.pow_le_pow_right (by omega) (by omega)
    exact_mod_cast this
  have hp0 : (0 : Int) < 2 ^ (8 * i) := Int.pow_pos (by omega)
  have h1 : 0 ≤ b * 2 ^ (8 * i) := Int.mul_nonneg hb0 (by omega)
  have h2 : b * 2 ^ (8 * i) ≤ 255 * 2 ^ 56 := Int.mul_le_mul hb1 hp (by omega) (by omega)
  rw [u64_small _ h1 (by omega)]

/-! ### Sizes -/
theorem size_eq (k : Nat) (hk : 3 ≤ k) (t : Int) : tramwayref07_Size.f k t = some (tk t).1 := by
  obtain ⟨k, rfl⟩ : ∃ m, k = m + 3 := ⟨k - 3, by omega⟩
  unfold tk
  by_cases h1 : t = 1; · simp [tramwayref07_Size.f, tramwayref07_Size.j0, h1]
  by_cases h2 : t = 2; · simp [tramwayref07_Size.f, tramwayref07_Size.j0, h2]
  by_cases h5 : t = 5; · simp [tramwayref07_Size.f, tramwayref07_Size.j0, h5]
  by_cases h3 : t = 3; · simp [tramwayref07_Size.f, tramwayref07_Size.j0, tramwayref07_Size.j1, h3]
  by_cases h6 : t = 6; · simp [tramwayref07_Size.f, tramwayref07_Size.j0, tramwayref07_Size.j1, h6]
  by_cases h4 : t = 4; · simp [tramwayref07_Size.f, tramwayref07_Size.j0, tramwayref07_Size.j1, tramwayref07_Size.j2, h4]
  by_cases h7 : t = 7; · simp [tramwayref07_Size.f, tramwayref07_Size.j0, tramwayref07_Size.j1, tramwayref07_Size.j2, h7]
  by_cases h21 : t = 21; · simp [tramwayref07_Size.f, tramwayref07_Size.j0, tramwayref07_Size.j1, tramwayref07_Size.j2, h21]
  by_cases h27 : t = 27; · simp [tramwayref07_Size.f, tramwayref07_Size.j0, tramwayref07_Size.j1, tramwayref07_Size.j2, h27]
  simp [tramwayref07_Size.f, tramwayref07_Size.j0, tramwayref07_Size.j1, tramwayref07_Size.j2, h1, h2, h3, h4, h5, h6, h7, h21, h27]
  split <;> rfl
theorem is_eq (k : Nat) (hk : 3 ≤ k) (t : Int) : tramwayref07_Is.f k t = some (tk t).2.2 := by
  unfold tramwayref07_Is.f
  rw [size_eq k hk]
  simp only [Option.bind_some]
  unfold tk
  repeat' split
  all_goals simp_all
theorem signed_eq (t : Int) : tramwayref07_Signed.f t = some (tk t).2.1 := by
  unfold tramwayref07_Signed.f tk
  by_cases h2 : t = 2; · simp [h2]
  by_cases h3 : t = 3; · simp [h3]
  by_cases h4 : t = 4; · simp [h4]
  by_cases h21 : t = 21; · simp [h21]
  simp only [h2, h3, h4, h21, if_false]
  rw [show (t == 21) = false by simpa using h21]
  repeat' split
  all_goals rfl

theorem shr_byte (n : Int) (j : Nat) (hj : j < 8) : shr .u64 n (8 * (j : Int)) % 256 = nb n j := by
  unfold shr nb
  have e : min (8 * (j : Int)).toNat IntKind.u64.bits = 8 * j := by simp [IntKind.bits]; omega
  rw [e]
theorem low_from (n : Int) (m : Nat) (hm : m ≤ 8) : ∀ (d k j : Nat), j ≤ m → m = j + d → d < k → tramwayref07_low.l0 k n m ((List.range j).map (nb n)) j = some (lowB n m) := by
  intro d
  induction d with
  | zero =>
    intro k j hj hd hk
    obtain ⟨k, rfl⟩ : ∃ q, k = q + 1 := ⟨k - 1, by omega⟩
    obtain rfl : m = j := by omega
    simp only [tramwayref07_low.l0]
    rw [if_neg (by omega)]
    rfl
  | succ d ih =>
    intro k j hj hd hk
    obtain ⟨k, rfl⟩ : ∃ q, k = q + 1 := ⟨k - 1, by omega⟩
    simp only [tramwayref07_low.l0]
    rw [wr8 j (by omega), u64_small _ (by omega) (by omega), if_pos (by omega), if_pos (by omega), if_pos (by simp; omega), shr_byte n j (by omega), show wrap64 ((j : Int) + 1) = ((j + 1 : Nat) : Int) by unfold wrap64; omega]
    have := ih k (j + 1) (by omega) (by omega) (by omega)
    rw [List.range_succ, List.map_append] at this
    exact this
theorem low_eq (k : Nat) (hk : 9 ≤ k) (n : Int) (m : Nat) (hm : m ≤ 8) : tramwayref07_low.f k n m = some (lowB n m) := by
  unfold tramwayref07_low.f
  exact low_from n m hm m k 0 (by omega) (by omega) (by omega)

/-- A number of some bytes, of a sign or not. -/
def wideM (sg : Bool) (l : List Int) : Int := if sg = true ∧ 0 < l.length ∧ 128 ≤ l.getD (l.length - 1) 0 then uns l + (18446744073709551616 - 256 ^ l.length) else uns l

theorem wide_l1 (x : Int) : ∀ (d k i : Nat), i ≤ 8 → 8 = i + d → d < k → 0 ≤ x → ∀ y, 0 ≤ y → y < 256 ^ i → tramwayref07_Wide.l1 k y i = some (y + (18446744073709551616 - 256 ^ i)) := by
  intro d
  induction d with
  | zero =>
    intro k i hi hd hk _ y _ _
    obtain ⟨k, rfl⟩ : ∃ q, k = q + 1 := ⟨k - 1, by omega⟩
    obtain rfl : i = 8 := by omega
    simp only [tramwayref07_Wide.l1]
    rw [if_neg (by omega)]
    simp
  | succ d ih =>
    intro k i hi hd hk h0 y hy0 hy1
    obtain ⟨k, rfl⟩ : ∃ q, k = q + 1 := ⟨k - 1, by omega⟩
    simp only [tramwayref07_Wide.l1]
    rw [if_pos (by omega), wr8 i (by omega), u64_small (8 * (i : Int)) (by omega) (by omega), if_pos (by omega), shl_256 255 i (by omega) (by omega) (by omega), or_add y 255 i (by omega) hy0 hy1 (by omega) (by omega), show wrap64 ((i : Int) + 1) = ((i + 1 : Nat) : Int) by unfold wrap64; omega]
    have hp : (0 : Int) < 256 ^ i := Int.pow_pos (by omega)
    have e : (256 : Int) ^ (i + 1) = 256 * 256 ^ i := by rw [Int.pow_succ, Int.mul_comm]
    rw [ih k (i + 1) (by omega) (by omega) (by omega) h0 (y + 255 * 256 ^ i) (by omega) (by rw [e]; omega)]
    congr 1
    rw [e]; omega

theorem wide_l0 (t : Int) (l : List Int) (hl : l.length ≤ 8) (hb : Byt l) : ∀ (d k i : Nat), i ≤ l.length → l.length = i + d → d + 12 < k → tramwayref07_Wide.l0 k t l (uns (l.take i)) i = some (wideM (tk t).2.1 l) := by
  intro d
  induction d with
  | zero =>
    intro k i hi hd hk
    obtain ⟨k, rfl⟩ : ∃ q, k = q + 3 := ⟨k - 3, by omega⟩
    obtain rfl : i = l.length := by omega
    simp only [tramwayref07_Wide.l0]
    rw [if_neg (by omega), List.take_length]
    simp only [tramwayref07_Wide.j1]
    rw [signed_eq]
    simp only [Option.bind_some]
    unfold wideM
    have hu := uns_bd l hb
    cases hs : (tk t).2.1 with
    | false => rw [if_neg (by simp), if_neg (by simp)]; simp [tramwayref07_Wide.j2]
    | true =>
      rw [if_pos rfl]
      by_cases h0 : 0 < l.length
      · rw [if_pos (by omega), show wrap64 ((l.length : Int) - 1) = ((l.length - 1 : Nat) : Int) by unfold wrap64; omega, if_pos (by omega), if_pos (by omega)]
        have hrd : rd l ((l.length - 1 : Nat) : Int) = l.getD (l.length - 1) 0 := by simp [rd]
        rw [hrd]
        simp only [tramwayref07_Wide.j2, decide_eq_true_eq]
        by_cases h1 : 128 ≤ l.getD (l.length - 1) 0
        · rw [if_pos (by omega), if_pos ⟨trivial, h0, h1⟩]
          exact wide_l1 0 (8 - l.length) k l.length hl (by omega) (by omega) (by omega) _ hu.1 hu.2
        · rw [if_neg (by omega), if_neg (fun h => h1 h.2.2)]
      · rw [if_neg (by omega), if_neg (fun h => h0 h.2.1)]
        simp [tramwayref07_Wide.j2]
  | succ d ih =>
    intro k i hi hd hk
    obtain ⟨k, rfl⟩ : ∃ q, k = q + 1 := ⟨k - 1, by omega⟩
    have hi' : i < l.length := by omega
    have hbi := hb (l.getD i 0) (by rw [List.getD_eq_getElem?_getD, List.getElem?_eq_getElem hi']; simp)
    have hu := uns_bd (l.take i) (byt_take hb i)
    rw [List.length_take, Nat.min_eq_left (by omega)] at hu
    simp only [tramwayref07_Wide.l0]
    rw [if_pos (by omega), if_pos (by omega), if_pos (by omega), wr8 i (by omega), u64_small (8 * (i : Int)) (by omega) (by omega), if_pos (by omega)]
    simp only [rd, Int.toNat_natCast]
    rw [u64_small _ hbi.1 (by omega), shl_256 _ i (by omega) hbi.1 hbi.2, or_add _ _ i (by omega) hu.1 hu.2 hbi.1 hbi.2, ← uns_take l i hi', show wrap64 ((i : Int) + 1) = ((i + 1 : Nat) : Int) by unfold wrap64; omega]
    exact ih k (i + 1) (by omega) (by omega) (by omega)
theorem wide_eq (k : Nat) (hk : 24 ≤ k) (t : Int) (l : List Int) (hl : l.length ≤ 8) (hb : Byt l) : tramwayref07_Wide.f k t l = some (wideM (tk t).2.1 l) := by
  unfold tramwayref07_Wide.f
  have := wide_l0 t l hl hb l.length k 0 (by omega) (by omega) (by omega)
  simpa [uns] using this
end Go.Proofs.Ytkajoepgebfjoaa.Pur
