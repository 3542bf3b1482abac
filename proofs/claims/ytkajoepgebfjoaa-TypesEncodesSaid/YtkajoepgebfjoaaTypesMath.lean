/- Layer 7: what the document says of a type and a value: plain definitions, no program in sight. -/
import Derived.Shelf.GgClosure.StringsIndexFunc
import Derived.Laws.RangeString
import Derived.Laws.RangeAny
set_option linter.unusedVariables false
set_option linter.unusedSimpArgs false
namespace Go.Proofs.Ytkajoepgebfjoaa.TM
open Go

/-- A number's bytes (0: none), its sign, whether there is such a type. -/
def tk (t : Int) : Int × Bool × Bool :=
  if t = 1 ∨ t = 5 then (1, false, true) else if t = 2 then (1, true, true) else if t = 3 then (2, true, true) else if t = 4 then (4, true, true) else
  if t = 21 then (8, true, true) else if t = 6 then (2, false, true) else if t = 7 then (4, false, true) else if t = 27 then (8, false, true) else
  if t = 9 ∨ t = 10 ∨ t = 15 then (0, false, true) else (0, false, false)

/-- Whether a number has a type's width. -/
def fit (sz : Int) (sg : Bool) (n : Int) : Bool :=
  if sz = 1 then (if sg then decide (n < 128 ∨ 18446744073709551616 - 128 ≤ n) else decide (n < 256))
  else if sz = 2 then (if sg then decide (n < 32768 ∨ 18446744073709551616 - 32768 ≤ n) else decide (n < 65536))
  else if sz = 4 then (if sg then decide (n < 2147483648 ∨ 18446744073709551616 - 2147483648 ≤ n) else decide (n < 4294967296))
  else true

/-- A byte that no Text has. -/
def badB (c : Nat) : Bool := decide (c < 32) || decide (126 < c)
def badS (s : ByteArray) : Bool := s.data.toList.any fun c => badB c.toNat

/-- What is wrong with a value: the document's number. -/
def chk (t n : Int) (s : ByteArray) : Int :=
  if (tk t).2.2 = false then 1
  else if (tk t).1 = 0 then (if 65536 < s.size then 2 else if t = 9 ∧ badS s = true then 1 else 0)
  else if fit (tk t).1 (tk t).2.1 n = false then 1
  else if t = 1 ∧ 1 < n then 1 else 0

/-- What is asked of a value's parts: they are Go's own. -/
abbrev Rng (n : Int) (s : ByteArray) : Prop := 0 ≤ n ∧ n ≤ 18446744073709551615 ∧ s.size ≤ 140737488351232

theorem any_from (s : ByteArray) (p : UInt8 → Bool) (pos : Nat) (h : pos < s.size) :
    (s.data.toList.drop pos).any p = (p (s[pos]'h) || (s.data.toList.drop (pos + 1)).any p) := by
  rw [List.drop_eq_getElem_cons (by simpa using h)]
  rfl

theorem idx_bad (s : ByteArray) : ∀ (f pos : Nat), s.size ≤ pos + f →
    decide (0 ≤ Lib.idxFuncFrom badB true s f pos) = (s.data.toList.drop pos).any fun c => badB c.toNat
  | 0, pos, h => by
    rw [List.drop_eq_nil_of_le (by simpa using h)]
    simp [Lib.idxFuncFrom]
  | f + 1, pos, h => by
    unfold Lib.idxFuncFrom
    by_cases hp : pos < s.size
    · rw [if_pos hp, any_from s _ pos hp]
      by_cases ha : (s[pos]'hp).toNat < 128
      · rw [decode_ascii s pos hp ha]
        simp only
        by_cases hb : badB (s[pos]'hp).toNat = true
        · rw [if_pos hb, hb]; simp
        · rw [if_neg hb, idx_bad s f (pos + 1) (by omega)]
          simp [hb]
      · obtain ⟨h1, _⟩ := decode_high s pos hp (by omega)
        have hb : badB (s[pos]'hp).toNat = true := by unfold badB; simp; omega
        rw [if_pos (by unfold badB; simp; omega), hb]
        simp
    · rw [if_neg hp, List.drop_eq_nil_of_le (by simpa using hp)]
      simp

theorem idx_badS (s : ByteArray) : decide (0 ≤ Lib.idxFunc badB true s) = badS s := by
  have := idx_bad s s.size 0 (by omega)
  rw [List.drop_zero] at this
  exact this

end Go.Proofs.Ytkajoepgebfjoaa.TM
