/- Layer 7: values and bytes, there and back; the order is one. -/
import Derived.Test.YtkajoepgebfjoaaTypesLives
set_option linter.unusedVariables false
set_option linter.unusedSimpArgs false
namespace Go.Proofs.Ytkajoepgebfjoaa.Pur
open Go.RowKit Go.Proofs.YtkajoepgebfjoaaW.PrintWords Go.Proofs.YtkajoepgebfjoaaW.PrintLast Go.Proofs.YtkajoepgebfjoaaW.PrintMore Go.Proofs.Ytkajoepgebfjoaa.TM Go.Proofs.Ytkajoepgebfjoaa.Ext

theorem str_bnums (s : ByteArray) : strOfNums (bnums s) = s := by
  obtain ⟨⟨l⟩⟩ := s
  unfold strOfNums bnums
  congr 2
  rw [List.map_map]
  conv => rhs; rw [← List.map_id l]
  apply List.map_congr_left
  intro b _
  simp
theorem bnums_str (l : List Int) (hb : Byt l) : bnums (strOfNums l) = l := by
  unfold strOfNums bnums
  simp only [List.map_map]
  conv => rhs; rw [← List.map_id l]
  apply List.map_congr_left
  intro b hm
  have h := hb b hm
  simp
  omega
theorem bnums_byt (s : ByteArray) : Byt (bnums s) := by
  intro b hb
  obtain ⟨x, _, rfl⟩ := List.mem_map.1 hb
  have := x.toNat_lt
  omega

theorem lowB1 (n : Int) : lowB n 1 = [n % 256] := by simp [lowB, nb, List.range_succ]
theorem lowB2 (n : Int) : lowB n 2 = [n % 256, n / 256 % 256] := by simp [lowB, nb, List.range_succ]
theorem lowB4 (n : Int) : lowB n 4 = [n % 256, n / 256 % 256, n / 65536 % 256, n / 16777216 % 256] := by simp [lowB, nb, List.range_succ]
theorem lowB8 (n : Int) : lowB n 8 = [n % 256, n / 256 % 256, n / 65536 % 256, n / 16777216 % 256, n / 4294967296 % 256, n / 1099511627776 % 256, n / 281474976710656 % 256, n / 72057594037927936 % 256] := by simp [lowB, nb, List.range_succ]

theorem low_wide (sg : Bool) (l : List Int) (hb : Byt l) (hm : l.length = 1 ∨ l.length = 2 ∨ l.length = 4 ∨ l.length = 8) : lowB (wideM sg l) l.length = l := by
  have e1 : (256 : Int) ^ 1 = 256 := by rfl
  have e2 : (256 : Int) ^ 2 = 65536 := by rfl
  have e4 : (256 : Int) ^ 4 = 4294967296 := by rfl
  have e8 : (256 : Int) ^ 8 = 18446744073709551616 := by rfl
  rcases hm with h | h | h | h
  · match l, h with
    | [a], _ =>
      have ha := hb a (by simp)
      simp only [List.length_cons, List.length_nil, Nat.zero_add]
      rw [lowB1]
      have : ∃ c : Int, wideM sg [a] = a + 256 * c := by
        unfold wideM
        simp only [uns, List.length_cons, List.length_nil, Nat.zero_add, e1]
        split
        · exact ⟨72057594037927935, by omega⟩
        · exact ⟨0, by omega⟩
      obtain ⟨c, hc⟩ := this
      rw [hc]
      simp only [List.cons.injEq, and_true]
      omega
  · match l, h with
    | [a, b], _ =>
      have ha := hb a (by simp)
      have hb' := hb b (by simp)
      simp only [List.length_cons, List.length_nil, Nat.zero_add, Nat.reduceAdd]
      rw [lowB2]
      have : ∃ c : Int, wideM sg [a, b] = a + 256 * b + 65536 * c := by
        unfold wideM
        simp only [uns, List.length_cons, List.length_nil, Nat.zero_add, Nat.reduceAdd, e2]
        split
        · exact ⟨281474976710655, by omega⟩
        · exact ⟨0, by omega⟩
      obtain ⟨c, hc⟩ := this
      rw [hc]
      simp only [List.cons.injEq, and_true]
      omega
  · match l, h with
    | [a, b, c, d], _ =>
      have ha := hb a (by simp)
      have hb' := hb b (by simp)
      have hc' := hb c (by simp)
      have hd' := hb d (by simp)
      simp only [List.length_cons, List.length_nil, Nat.zero_add, Nat.reduceAdd]
      rw [lowB4]
      have : ∃ q : Int, wideM sg [a, b, c, d] = a + 256 * b + 65536 * c + 16777216 * d + 4294967296 * q := by
        unfold wideM
        simp only [uns, List.length_cons, List.length_nil, Nat.zero_add, Nat.reduceAdd, e4]
        split
        · exact ⟨4294967295, by omega⟩
        · exact ⟨0, by omega⟩
      obtain ⟨q, hq⟩ := this
      rw [hq]
      simp only [List.cons.injEq, and_true]
      omega
  · match l, h with
    | [a, b, c, d, e, f, g, i], _ =>
      have ha := hb a (by simp)
      have hb' := hb b (by simp)
      have hc' := hb c (by simp)
      have hd' := hb d (by simp)
      have he' := hb e (by simp)
      have hf' := hb f (by simp)
      have hg' := hb g (by simp)
      have hi' := hb i (by simp)
      simp only [List.length_cons, List.length_nil, Nat.zero_add, Nat.reduceAdd]
      rw [lowB8]
      have : wideM sg [a, b, c, d, e, f, g, i] = a + 256 * b + 65536 * c + 16777216 * d + 4294967296 * e + 1099511627776 * f + 281474976710656 * g + 72057594037927936 * i := by
        unfold wideM
        simp only [uns, List.length_cons, List.length_nil, Nat.zero_add, Nat.reduceAdd, e8]
        split <;> omega
      rw [this]
      simp only [List.cons.injEq, and_true]
      omega

/-- A value that was read is written again as it was. -/
theorem dec_back (t : Int) (l : List Int) (hb : Byt l) (h0 : (dec t l).2.2.2 = 0) : ∃ n s, dec t l = (t, n, s, 0) ∧ types_Encode.f t n s = some (l, 0) := by
  rw [dec_ans] at h0 ⊢
  have hc := tk_cases t
  by_cases h1 : (tk t).2.2 = false
  · rw [if_pos h1] at h0; simp at h0
  rw [if_neg h1] at h0 ⊢
  by_cases h2 : (l.length : Int) < (tk t).1
  · rw [if_pos h2] at h0; simp at h0
  rw [if_neg h2] at h0 ⊢
  by_cases h3 : (0 < (tk t).1 ∧ (tk t).1 < l.length) ∨ 65536 < l.length
  · rw [if_pos h3] at h0; simp at h0
  rw [if_neg h3] at h0 ⊢
  by_cases hz : (tk t).1 = 0
  · rw [if_pos hz] at h0 ⊢
    unfold ans at h0 ⊢
    by_cases hk : chk t 0 (strOfNums l) = 0
    · rw [if_pos hk]
      refine ⟨_, _, rfl, ?_⟩
      unfold types_Encode.f
      rw [if_pos (rng_str l (by omega)), if_pos hk, if_pos hz, bnums_str l hb]
    · rw [if_neg hk] at h0; simp at h0
  · rw [if_neg hz] at h0 ⊢
    unfold ans at h0 ⊢
    have hl : (l.length : Int) = (tk t).1 := by omega
    by_cases hk : chk t (wideM (tk t).2.1 l) ⟨#[]⟩ = 0
    · rw [if_pos hk]
      refine ⟨_, _, rfl, ?_⟩
      unfold types_Encode.f
      rw [if_pos (rng_num _ (wide_bd _ l hb (by omega))), if_pos hk, if_neg hz, show (tk t).1.toNat = l.length by omega, low_wide _ l hb (by omega)]
    · rw [if_neg hk] at h0; simp at h0

/-- What a value is written as. -/
def encB (t n : Int) (s : ByteArray) : List Int := if (tk t).1 = 0 then bnums s else lowB n (tk t).1.toNat
theorem encB_byt (t n : Int) (s : ByteArray) : Byt (encB t n s) := by
  unfold encB
  split
  · exact bnums_byt s
  · exact lowB_byt _ _
theorem chk_num (t n : Int) (s r : ByteArray) (hz : ¬ (tk t).1 = 0) : chk t n s = chk t n r := by
  unfold chk; simp only [if_neg hz]
theorem chk_text (t n m : Int) (s : ByteArray) (hz : (tk t).1 = 0) : chk t n s = chk t m s := by
  unfold chk; simp only [if_pos hz]
/-- What was written is read as it was, less what plays no part. -/
theorem enc_back (t n : Int) (s : ByteArray) (hr : Rng n s) (hk : chk t n s = 0) : dec t (encB t n s) = ((pln t n s).1, (pln t n s).2.1, (pln t n s).2.2, 0) := by
  have hc := tk_cases t
  have his : (tk t).2.2 = true := by
    cases h : (tk t).2.2 with
    | true => rfl
    | false => unfold chk at hk; rw [if_pos h] at hk; simp at hk
  rw [dec_ans, if_neg (by simp [his])]
  unfold encB pln
  by_cases hz : (tk t).1 = 0
  · have hl : ¬ 65536 < s.size := by
      intro h
      unfold chk at hk
      rw [if_neg (by simp [his]), if_pos hz, if_pos h] at hk
      simp at hk
    rw [if_pos hz, if_pos hz, bnums_length, if_neg (by omega), if_neg (by omega), str_bnums, if_neg (by omega), if_pos his]
    unfold ans
    rw [if_pos (by rw [chk_text t 0 n s hz]; exact hk)]
  · have hm : (tk t).1 = 1 ∨ (tk t).1 = 2 ∨ (tk t).1 = 4 ∨ (tk t).1 = 8 := by rcases hc with ⟨h, _⟩ | ⟨h, _⟩; exact absurd h hz; exact h
    obtain ⟨m, hmm⟩ : ∃ m : Nat, (tk t).1 = m := ⟨(tk t).1.toNat, by omega⟩
    have hf : fit (tk t).1 (tk t).2.1 n = true := by
      cases h : fit (tk t).1 (tk t).2.1 n with
      | true => rfl
      | false => unfold chk at hk; rw [if_neg (by simp [his]), if_neg hz, if_pos h] at hk; simp at hk
    rw [if_neg hz, if_neg hz, lowB_length, if_neg (by omega), if_neg (by omega), if_pos (by omega)]
    rw [hmm] at hf
    rw [hmm, Int.toNat_natCast, (wide_low (tk t).2.1 n hr.1 hr.2.1 m (by omega)).2 hf]
    unfold ans
    rw [if_pos (by rw [chk_num t n _ s hz]; exact hk)]

end Go.Proofs.Ytkajoepgebfjoaa.Pur
