/- Layer 20: a scan finds the least address of those without a number: a plain law. -/
import Derived.Test.YtkegkhhfbfegoaaScP
set_option linter.unusedVariables false
set_option linter.unusedSimpArgs false
set_option maxRecDepth 100000
namespace Go.Proofs.Ytkegkhhfbfegoaa
open Sx Ls
/-- An address. -/
structure Ad where
  (m0 m1 m2 m3 : Int)
def Ls.L.ad (l : L) : Ad := ⟨l.a0, l.a1, l.a2, l.a3⟩
def Ad.at (m : Ad) (p : Int) : Int := adrOf m.m0 m.m1 m.m2 m.m3 p
/-- How many parts ahead are alike. -/
def lcp (l : L) (m : Ad) : Int := if l.a0 ≠ m.m0 then 0 else if l.a1 ≠ m.m1 then 1 else if l.a2 ≠ m.m2 then 2 else if l.a3 ≠ m.m3 then 3 else 4
/-- Ahead of, or the same. -/
def Ad.le (m x : Ad) : Prop := m.m0 < x.m0 ∨ (m.m0 = x.m0 ∧ (m.m1 < x.m1 ∨ (m.m1 = x.m1 ∧ (m.m2 < x.m2 ∨ (m.m2 = x.m2 ∧ m.m3 ≤ x.m3)))))
def qB (k b p x : Int) : Q := ⟨81, k % 256, k / 256 % 256, k / 65536 % 256, k / 16777216, b, p, x⟩
theorem scans_qB (l : L) {k b p x : Int} (hl : l.Ok) (hk : 0 ≤ k ∧ k ≤ 4294967295) (hb : 0 ≤ b ∧ b ≤ 31) (hx : x < 4) :
    l.scans (qB k b p x) = if p = l.looks ∧ l.adr p / 2 ^ b.toNat = k / 2 ^ b.toNat then (if b = 0 then (if x < p then (.one 79 0, { l with looks := 0, mode := 1 }) else (.one 79 0, { l with looks := x })) else (.one 79 0, l)) else (.no, l) := by
  have ha : 0 ≤ l.adr p ∧ l.adr p ≤ 4294967295 := adrOf_bd hl p
  unfold L.scans qB
  dsimp only
  rw [numQ_of k hk, if_neg (by omega), if_neg (by omega)]
  by_cases h1 : p = l.looks
  · rw [if_neg (by simpa using h1), if_neg (by omega), shrI_of ha.1 hb, shrI_of hk.1 hb]
    by_cases h2 : l.adr p / 2 ^ b.toNat = k / 2 ^ b.toNat
    · rw [if_neg (by simpa using h2), if_pos (show p = l.looks ∧ l.adr p / 2 ^ b.toNat = k / 2 ^ b.toNat from ⟨h1, h2⟩)]
    · rw [if_pos h2, if_neg (fun e => h2 e.2)]
  · rw [if_pos h1, if_neg (fun e => h1 e.1)]
theorem lcp_ge {l : L} {m : Ad} (hm : m.le l.ad) {p : Int} (hp : p = 0 ∨ p = 1 ∨ p = 2 ∨ p = 3) (h : p ≤ lcp l m) : m.at p ≤ l.adr p := by
  unfold Ad.le L.ad at hm
  unfold lcp at h
  dsimp only at hm
  rcases hp with rfl | rfl | rfl | rfl
  · show m.m0 ≤ l.a0; omega
  · show m.m1 ≤ l.a1
    split at h
    · omega
    · omega
  · show m.m2 ≤ l.a2
    split at h
    · omega
    · split at h <;> omega
  · show m.m3 ≤ l.a3
    split at h
    · omega
    · split at h
      · omega
      · split at h <;> omega
theorem lcp_at {l : L} {m : Ad} {p : Int} (hp : p = 0 ∨ p = 1 ∨ p = 2 ∨ p = 3) (h : p ≤ lcp l m) : p < lcp l m ↔ l.adr p = m.at p := by
  unfold lcp at h ⊢
  rcases hp with rfl | rfl | rfl | rfl
  · show _ ↔ l.a0 = m.m0
    by_cases h0 : l.a0 = m.m0
    · rw [if_neg (by simpa using h0)]; constructor
      · intro _; exact h0
      · intro _; (repeat' split) <;> omega
    · rw [if_pos h0]; constructor <;> intro e <;> omega
  · show _ ↔ l.a1 = m.m1
    by_cases h0 : l.a0 = m.m0
    · rw [if_neg (by simpa using h0)]
      by_cases h1 : l.a1 = m.m1
      · rw [if_neg (by simpa using h1)]; constructor
        · intro _; exact h1
        · intro _; (repeat' split) <;> omega
      · rw [if_pos h1]; constructor <;> intro e <;> omega
    · rw [if_pos h0] at h; omega
  · show _ ↔ l.a2 = m.m2
    by_cases h0 : l.a0 = m.m0
    · rw [if_neg (by simpa using h0)] at h ⊢
      by_cases h1 : l.a1 = m.m1
      · rw [if_neg (by simpa using h1)] at h ⊢
        by_cases h2 : l.a2 = m.m2
        · rw [if_neg (by simpa using h2)]; constructor
          · intro _; exact h2
          · intro _; (repeat' split) <;> omega
        · rw [if_pos h2]; constructor <;> intro e <;> omega
      · rw [if_pos h1] at h; omega
    · rw [if_pos h0] at h; omega
  · show _ ↔ l.a3 = m.m3
    by_cases h0 : l.a0 = m.m0
    · rw [if_neg (by simpa using h0)] at h ⊢
      by_cases h1 : l.a1 = m.m1
      · rw [if_neg (by simpa using h1)] at h ⊢
        by_cases h2 : l.a2 = m.m2
        · rw [if_neg (by simpa using h2)] at h ⊢
          by_cases h3 : l.a3 = m.m3
          · rw [if_neg (by simpa using h3)]; constructor
            · intro _; exact h3
            · intro _; omega
          · rw [if_pos h3]; constructor <;> intro e <;> omega
        · rw [if_pos h2] at h; omega
      · rw [if_pos h1] at h; omega
    · rw [if_pos h0] at h; omega
theorem lcp_r (l : L) (m : Ad) : 0 ≤ lcp l m ∧ lcp l m ≤ 4 := by unfold lcp; (repeat' split) <;> omega
theorem lcp_self {l : L} {m : Ad} (h : l.ad = m) : lcp l m = 4 := by subst h; simp [lcp, L.ad]
/-- One that is asked for part p: what it looks for is the first part that is other, or p. -/
def trL (m : Ad) (p : Int) (l : L) : L := if l.Free then { l with looks := if p < lcp l m then p else lcp l m } else l
def tr (m : Ad) (p : Int) (x : PL) : PL := (x.1, trL m p x.2)
theorem trL_free (m : Ad) (p : Int) (l : L) : (trL m p l).Free ↔ l.Free := by
  unfold trL; split <;> rfl
theorem trL_ok {m : Ad} {p : Int} (hp : 0 ≤ p ∧ p ≤ 3) {l : L} (h : l.Ok) : (trL m p l).Ok := by
  obtain ⟨h1, h2, h3, h4, h5, h6, h7, h8, h9⟩ := h
  have := lcp_r l m
  unfold trL
  split
  · exact ⟨by show 0 ≤ (if p < lcp l m then p else lcp l m) ∧ (if p < lcp l m then p else lcp l m) ≤ 3; split <;> omega, h2, h3, h4, h5, h6, h7, h8, h9⟩
  · exact ⟨h1, h2, h3, h4, h5, h6, h7, h8, h9⟩
/-- What is known in part p. -/
def kq (m : Ad) (p k i : Int) : Int := if i < p then m.at i else if i = p then k else 0
def scB (m : Ad) (p b k : Int) : Sc := ⟨1, p, b, kq m p k 0, kq m p k 1, kq m p k 2, kq m p k 3, false, false, 33 * p + 32 - b⟩
def scW (m : Ad) (p k : Int) : Sc := ⟨2, p, -1, kq m p k 0, kq m p k 1, kq m p k 2, kq m p k 3, false, false, 33 * p + 33⟩
theorem scB_q {m : Ad} {p b k : Int} (hp : p = 0 ∨ p = 1 ∨ p = 2 ∨ p = 3) : (scB m p b k).q = qB k b p p := by
  rcases hp with rfl | rfl | rfl | rfl <;> rfl
theorem scW_q {m : Ad} {p k : Int} (hp : p = 0 ∨ p = 1 ∨ p = 2 ∨ p = 3) : (scW m p k).q = qB k 0 p ((p + 1) % 4) := by
  rcases hp with rfl | rfl | rfl | rfl <;> rfl
theorem ans_bits {m : Ad} {p b k : Int} (hp : p = 0 ∨ p = 1 ∨ p = 2 ∨ p = 3) (hb : 0 ≤ b) (yes : Bool) :
    (askd (scB m p b k)).ans yes = if b = 0 then scW m p (if yes = true then k else orB k b) else scB m p (b - 1) (if yes = true then k else orB k b) := by
  by_cases h0 : b = 0
  · subst h0
    rw [if_pos rfl]
    rcases hp with rfl | rfl | rfl | rfl <;> cases yes <;> rfl
  · rw [if_neg h0]
    have e1 : ¬ (b - 1 < 0) := by omega
    have e2 : 33 * p + 32 - b + 1 = 33 * p + 32 - (b - 1) := by omega
    have e3 : (askd (scB m p b k)).ans yes = { (if yes then askd (scB m p b k) else (askd (scB m p b k)).put p (orB ((scB m p b k).kn p) b)) with bi := b - 1, ph := if b - 1 < 0 then 2 else 1, asked := false, took := 33 * p + 32 - b + 1 } := rfl
    rw [e3, if_neg e1, e2]
    rcases hp with rfl | rfl | rfl | rfl <;> cases yes <;> rfl
theorem ans_whole {m : Ad} {p : Int} (hp : p = 0 ∨ p = 1 ∨ p = 2) : (askd (scW m p (m.at p))).ans true = scB m (p + 1) 31 0 := by
  rcases hp with rfl | rfl | rfl <;> rfl
def scF (m : Ad) : Sc := ⟨3, 4, 31, m.m0, m.m1, m.m2, m.m3, true, false, 133⟩
theorem ans_last {m : Ad} : (askd (scW m 3 (m.at 3))).ans true = scF m := rfl
theorem trL_adr (m : Ad) (p i : Int) (l : L) : (trL m p l).adr i = l.adr i := by unfold trL; split <;> rfl
theorem looks_self (l : L) {p : Int} (h : p = l.looks) : { l with looks := p } = l := by subst h; rfl
theorem tk_bits {m : Ad} {p : Int} (hp : 0 ≤ p ∧ p ≤ 3) {l : L} (hl : l.Ok) {b : Nat} (hb : b ≤ 31) {k : Int} (hk : 0 ≤ k ∧ k ≤ 4294967295) :
    (trL m p l).take (qB k b p p) = if l.Free ∧ p ≤ lcp l m ∧ l.adr p / 2 ^ b = k / 2 ^ b then (.one 79 0, trL m p l) else (.no, trL m p l) := by
  rw [takeL81 rfl]
  by_cases hf : l.Free
  · rw [if_pos ((trL_free m p l).2 hf), scans_qB _ (trL_ok hp hl) hk ⟨by omega, by omega⟩ (by omega), trL_adr, Int.toNat_natCast]
    have hlk : p = (trL m p l).looks ↔ p ≤ lcp l m := by
      unfold trL
      rw [if_pos hf]
      show p = (if p < lcp l m then p else lcp l m) ↔ _
      split <;> omega
    by_cases h1 : p ≤ lcp l m ∧ l.adr p / 2 ^ b = k / 2 ^ b
    · rw [if_pos ⟨hlk.2 h1.1, h1.2⟩, if_pos (show l.Free ∧ p ≤ lcp l m ∧ l.adr p / 2 ^ b = k / 2 ^ b from ⟨hf, h1⟩), if_neg (show ¬ p < p by omega), looks_self _ (hlk.2 h1.1)]
      split <;> rfl
    · rw [if_neg (fun e => h1 ⟨hlk.1 e.1, e.2⟩), if_neg (fun e => h1 e.2)]
  · rw [if_neg (fun e => hf ((trL_free m p l).1 e)), if_neg (fun e => hf e.1)]
theorem tk_whole {m : Ad} {p : Int} (hp : 0 ≤ p ∧ p ≤ 2) {l : L} (hl : l.Ok) (hm : 0 ≤ m.at p ∧ m.at p ≤ 4294967295) :
    (trL m p l).take (qB (m.at p) 0 p ((p + 1) % 4)) = (if l.Free ∧ p < lcp l m then .one 79 0 else .no, trL m (p + 1) l) := by
  have hp4 : p = 0 ∨ p = 1 ∨ p = 2 ∨ p = 3 := by omega
  rw [takeL81 rfl]
  by_cases hf : l.Free
  · rw [if_pos ((trL_free m p l).2 hf), scans_qB _ (trL_ok ⟨hp.1, by omega⟩ hl) hm (by decide) (by omega), trL_adr]
    have e : ∀ x : Int, x / 2 ^ (Int.toNat 0) = x := fun x => by simp
    rw [e, e, if_pos (rfl : (0 : Int) = 0), if_neg (show ¬ (p + 1) % 4 < p by omega)]
    have hlk : p = (trL m p l).looks ↔ p ≤ lcp l m := by
      unfold trL
      rw [if_pos hf]
      show p = (if p < lcp l m then p else lcp l m) ↔ _
      split <;> omega
    have hlk1 : (trL m p l).looks = if p < lcp l m then p else lcp l m := by unfold trL; rw [if_pos hf]
    have e2 : trL m (p + 1) l = { l with looks := if p + 1 < lcp l m then p + 1 else lcp l m } := by unfold trL; rw [if_pos hf]
    have e3 : trL m p l = { l with looks := if p < lcp l m then p else lcp l m } := by unfold trL; rw [if_pos hf]
    by_cases h1 : p < lcp l m
    · rw [if_pos ⟨hlk.2 (by omega), (lcp_at hp4 (by omega)).1 h1⟩, if_pos ⟨hf, h1⟩, e2, e3]
      show (A.one 79 0, ({ l with looks := (p + 1) % 4 } : L)) = _
      have : (if p + 1 < lcp l m then p + 1 else lcp l m) = (p + 1) % 4 := by split <;> omega
      rw [this]
    · rw [if_neg (fun e => h1 ((lcp_at hp4 (hlk.1 e.1)).2 e.2)), if_neg (fun e => h1 e.2), e2, e3, if_neg h1, if_neg (by omega)]
  · rw [if_neg (fun e => hf ((trL_free m p l).1 e)), if_neg (fun e => hf e.1)]
    have e2 : trL m (p + 1) l = l := by unfold trL; rw [if_neg hf]
    have e3 : trL m p l = l := by unfold trL; rw [if_neg hf]
    rw [e2, e3]
theorem Ad.ext_iff' {a b : Ad} : a = b ↔ a.m0 = b.m0 ∧ a.m1 = b.m1 ∧ a.m2 = b.m2 ∧ a.m3 = b.m3 := by
  obtain ⟨a0, a1, a2, a3⟩ := a
  obtain ⟨b0, b1, b2, b3⟩ := b
  simp
instance : DecidableEq Ad := fun a b => decidable_of_iff _ Ad.ext_iff'.symm
/-- Behind a scan: those of the least address are configured. -/
def finL (m : Ad) (l : L) : L := if l.Free then (if l.ad = m then { l with looks := 0, mode := 1 } else { l with looks := lcp l m }) else l
def fin (m : Ad) (x : PL) : PL := (x.1, finL m x.2)
theorem lcp_4 {l : L} {m : Ad} : 3 < lcp l m ↔ l.ad = m := by
  rw [Ad.ext_iff']
  unfold lcp L.ad
  dsimp only
  constructor
  · intro h
    split at h
    · omega
    · split at h
      · omega
      · split at h
        · omega
        · split at h
          · omega
          · exact ⟨by omega, by omega, by omega, by omega⟩
  · rintro ⟨h0, h1, h2, h3⟩
    rw [if_neg (by simpa using h0), if_neg (by simpa using h1), if_neg (by simpa using h2), if_neg (by simpa using h3)]; omega
end Go.Proofs.Ytkegkhhfbfegoaa
