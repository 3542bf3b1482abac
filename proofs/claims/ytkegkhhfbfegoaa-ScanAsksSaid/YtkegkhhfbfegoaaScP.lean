/- Layer 20: the program's slaves and the document's do the same: plain laws. -/
import Derived.Test.YtkegkhhfbfegoaaScN
set_option linter.unusedVariables false
set_option linter.unusedSimpArgs false
set_option maxRecDepth 100000
namespace Go.Proofs.Ytkegkhhfbfegoaa
open Sx Ls
/-- Shifted alike: the same bits from there on. -/
theorem bits_eq {a n : Int} (ha : 0 ≤ a ∧ a ≤ 4294967295) (hn : 0 ≤ n ∧ n ≤ 4294967295) : ∀ d k : Nat, k + d = 32 → (∀ i : Nat, i < 32 → k ≤ i → a / 2 ^ i % 2 = n / 2 ^ i % 2) → a / 2 ^ k = n / 2 ^ k
  | 0, k, hk, _ => by
    obtain rfl : k = 32 := by omega
    have : (2 : Int) ^ 32 = 4294967296 := by decide
    rw [this]; omega
  | d + 1, k, hk, h => by
    have h1 := bits_eq ha hn d (k + 1) (by omega) (fun i hi hki => h i hi (by omega))
    have h2 := h k (by omega) (Nat.le_refl _)
    rw [Int.pow_succ, ← Int.ediv_ediv_of_nonneg (Int.le_of_lt (Int.pow_pos (by decide))), ← Int.ediv_ediv_of_nonneg (Int.le_of_lt (Int.pow_pos (by decide)))] at h1
    omega
theorem eq_bits {a n : Int} {k i : Nat} (hki : k ≤ i) (h : a / 2 ^ k = n / 2 ^ k) : a / 2 ^ i % 2 = n / 2 ^ i % 2 := by
  obtain ⟨d, rfl⟩ : ∃ d, i = k + d := ⟨i - k, by omega⟩
  rw [Int.pow_add, ← Int.ediv_ediv_of_nonneg (Int.le_of_lt (Int.pow_pos (by decide))), ← Int.ediv_ediv_of_nonneg (Int.le_of_lt (Int.pow_pos (by decide))), h]
theorem shrI_of {a b : Int} (ha : 0 ≤ a) (hb : 0 ≤ b ∧ b ≤ 31) : shrI .u32 a b = a / 2 ^ b.toNat := by
  have h : min b.toNat 32 = b.toNat := by omega
  show a.fdiv (2 ^ (min b.toNat 32)) = _
  rw [h, Int.fdiv_eq_ediv_of_nonneg _ (Int.le_of_lt (Int.pow_pos (by decide)))]
theorem numQ_numR {q : Q} (hq : q.Ok) : numQ q.q1 q.q2 q.q3 q.q4 = numR q.q1 q.q2 q.q3 q.q4 := by
  obtain ⟨r0, r1, r2, r3, r4, r5, r6, r7⟩ := hq
  unfold numQ numR
  rw [bitOr_int 8 q.q1 q.q2 (by omega) (by omega) (by omega) (by omega), bitOr_int 16 _ q.q3 (by omega) (by omega) (by omega) (by omega), bitOr_int 24 _ q.q4 (by omega) (by omega) (by omega) (by omega)]
  omega
/-- The same slave. -/
structure Sim (l : L) (r : R) : Prop where
  a0 : r.a0 = l.a0
  a1 : r.a1 = l.a1
  a2 : r.a2 = l.a2
  a3 : r.a3 = l.a3
  id : r.id = l.pid
  uid : r.uid = l.uid
  mode : r.mode = l.mode
  looks : r.looks = l.looks
theorem sees_iff {l : L} {r : R} (h : Sim l r) (hl : l.Ok) {b n : Int} (hb : 0 ≤ b ∧ b ≤ 31) (hn : 0 ≤ n ∧ n ≤ 4294967295) : r.Sees b n ↔ shrI .u32 (l.adr l.looks) b = shrI .u32 n b := by
  have hadr : r.adr r.looks = l.adr l.looks := by unfold R.adr L.adr; rw [h.a0, h.a1, h.a2, h.a3, h.looks]
  have ha := adrOf_bd hl l.looks
  have ha' : 0 ≤ l.adr l.looks ∧ l.adr l.looks ≤ 4294967295 := ha
  rw [shrI_of ha'.1 hb, shrI_of hn.1 hb]
  unfold R.Sees
  rw [hadr]
  constructor
  · intro hs
    exact bits_eq ha' hn (32 - b.toNat) b.toNat (by omega) (fun i hi hki => hs i hi (by omega))
  · intro e i hi hbi
    exact eq_bits (by omega) e
def Ls.L.Free (l : L) : Prop := l.mode = 0 ∧ l.uid = 0 ∧ l.pid = 0
instance (l : L) : Decidable l.Free := inferInstanceAs (Decidable (_ ∧ _))
theorem takeL81 {l : L} {q : Q} (h0 : q.q0 = 81) : l.take q = if l.Free then l.scans q else (.no, l) := by
  unfold L.take
  rw [if_neg (by omega), if_neg (by omega), if_neg (by omega)]
  by_cases hf : l.Free
  · rw [if_pos ⟨h0, hf⟩, if_pos hf]
  · rw [if_neg (fun e => hf e.2), if_neg hf]
    split
    · unfold L.configures
      rw [if_neg (by omega), if_neg (by omega), if_neg (by omega), if_neg (by omega), if_neg (by omega), if_neg (by omega)]
    · rfl
theorem takeR81 {l : L} {r : R} (h : Sim l r) (hl : l.Ok) {q : Q} (h0 : q.q0 = 81) : r.take q = if l.Free then r.scan q (numR q.q1 q.q2 q.q3 q.q4) else (.no, r) := by
  have hm := hl.mode
  unfold R.take
  rw [if_neg (by omega), if_neg (by omega)]
  by_cases hf : l.Free
  · rw [if_pos hf, if_neg (by rw [h.mode, hf.1]; decide), if_neg (by omega), if_pos ⟨h0, by rw [h.id]; exact hf.2.2, by rw [h.uid]; exact hf.2.1⟩]
  · rw [if_neg hf]
    split
    · unfold R.set
      rw [if_neg (by omega), if_neg (by omega), if_neg (by omega), if_neg (by omega), if_neg (by omega), if_neg (by omega)]
    · rename_i hm1
      rw [h.mode] at hm1
      rw [if_neg (by omega), if_neg (by
        rintro ⟨_, f1, f2⟩
        exact hf ⟨by omega, by rw [← h.uid]; exact f2, by rw [← h.id]; exact f1⟩)]
theorem takeL17 {l : L} {q : Q} (h0 : q.q0 = 17) (h1 : 1 ≤ q.q1 ∧ q.q1 ≤ 127) : l.take q = if l.mode = 1 then (.one 17 0, { l with pid := q.q1 }) else (.no, l) := by
  unfold L.take L.configures
  rw [if_neg (by omega), if_neg (by omega), if_neg (by omega), if_neg (by omega)]
  by_cases hm : l.mode = 1
  · rw [if_pos hm, if_pos hm, if_pos h0, if_neg (by omega), if_neg (by omega), if_neg (by omega)]
  · rw [if_neg hm, if_neg hm]
theorem takeR17 {r : R} {q : Q} (h0 : q.q0 = 17) (h1 : 1 ≤ q.q1 ∧ q.q1 ≤ 127) : r.take q = if r.mode = 1 then (.one 17 0, { r with id := q.q1 }) else (.no, r) := by
  unfold R.take R.set
  rw [if_neg (by omega), if_neg (by omega)]
  by_cases hm : r.mode = 1
  · rw [if_pos hm, if_pos hm, if_pos h0, if_neg (by omega), if_neg (by omega), show q.q1 % 255 = q.q1 by omega]
  · rw [if_neg hm, if_neg hm, if_neg (by omega), if_neg (by omega)]
theorem takeL4 {l : L} {q : Q} (h0 : q.q0 = 4) (h1 : q.q1 = 0) : l.take q = (.no, if l.uid = 0 then { l with mode := 0, uid := l.pid } else { l with mode := 0 }) := by
  unfold L.take L.switches
  rw [if_pos h0, if_pos h1]
theorem takeR4 {r : R} {q : Q} (h0 : q.q0 = 4) (h1 : q.q1 = 0) : r.take q = (.no, if r.uid = 0 then { r with mode := 0, uid := r.id } else { r with mode := 0 }) := by
  unfold R.take
  rw [if_pos h0, if_pos h1]
theorem sim_scan {l : L} {r : R} (h : Sim l r) (hl : l.Ok) {q : Q} (hq : q.Ok) : (r.scan q (numR q.q1 q.q2 q.q3 q.q4)).1.is = (l.scans q).1.is ∧ Sim (l.scans q).2 (r.scan q (numR q.q1 q.q2 q.q3 q.q4)).2 := by
  have hn : 0 ≤ numR q.q1 q.q2 q.q3 q.q4 ∧ numR q.q1 q.q2 q.q3 q.q4 ≤ 4294967295 := by
    obtain ⟨r0, r1, r2, r3, r4, r5, r6, r7⟩ := hq
    unfold numR; omega
  have hlk := hl.looks
  have hq5 := hq.r5
  have hlo := h.looks
  by_cases c1 : q.q5 = 128
  · have e1 : l.scans q = (.one 79 0, { l with looks := 0 }) := by unfold L.scans; rw [if_pos c1]
    have e2 : r.scan q (numR q.q1 q.q2 q.q3 q.q4) = (.one 79 0, { r with looks := 0 }) := by unfold R.scan; rw [if_pos c1]
    rw [e1, e2]; exact ⟨rfl, ⟨h.a0, h.a1, h.a2, h.a3, h.id, h.uid, h.mode, rfl⟩⟩
  by_cases c2 : 31 < q.q5
  · have e1 : l.scans q = (.no, l) := by unfold L.scans; rw [if_neg c1, if_pos c2]
    have e2 : r.scan q (numR q.q1 q.q2 q.q3 q.q4) = (.no, r) := by unfold R.scan; rw [if_neg c1, if_pos c2]
    rw [e1, e2]; exact ⟨rfl, h⟩
  have hs := sees_iff h hl (b := q.q5) ⟨hq5.1, by omega⟩ hn
  by_cases c3 : q.q6 = l.looks ∧ q.q7 < 4 ∧ r.Sees q.q5 (numR q.q1 q.q2 q.q3 q.q4)
  · obtain ⟨c3, c4, c5⟩ := c3
    have e1 : l.scans q = if q.q5 = 0 then (if q.q7 < q.q6 then (.one 79 0, { l with looks := 0, mode := 1 }) else (.one 79 0, { l with looks := q.q7 })) else (.one 79 0, l) := by
      unfold L.scans; rw [if_neg c1, if_neg c2, if_neg (by simpa using c3), if_neg (by omega), if_neg (by rw [numQ_numR hq, c3]; simpa using hs.1 c5)]
    have e2 : r.scan q (numR q.q1 q.q2 q.q3 q.q4) = if q.q5 = 0 then (if q.q7 < q.q6 then (.one 79 0, { r with looks := 0, mode := 1 }) else (.one 79 0, { r with looks := q.q7 })) else (.one 79 0, r) := by
      unfold R.scan; rw [if_neg c1, if_neg c2, if_neg (by omega), if_neg (by omega), if_neg (by rw [hlo]; simpa using c3), if_neg (by simpa using c5)]
    rw [e1, e2]
    by_cases c6 : q.q5 = 0
    · rw [if_pos c6, if_pos c6]
      by_cases c7 : q.q7 < q.q6
      · rw [if_pos c7, if_pos c7]; exact ⟨rfl, ⟨h.a0, h.a1, h.a2, h.a3, h.id, h.uid, rfl, rfl⟩⟩
      · rw [if_neg c7, if_neg c7]; exact ⟨rfl, ⟨h.a0, h.a1, h.a2, h.a3, h.id, h.uid, h.mode, rfl⟩⟩
    · rw [if_neg c6, if_neg c6]; exact ⟨rfl, h⟩
  · have e1 : l.scans q = (.no, l) := by
      unfold L.scans
      rw [if_neg c1, if_neg c2]
      by_cases d3 : q.q6 = l.looks
      · rw [if_neg (by simpa using d3)]
        by_cases d4 : 4 ≤ q.q7
        · rw [if_pos d4]
        · rw [if_neg d4, if_pos (by rw [numQ_numR hq, d3]; exact fun e => c3 ⟨d3, by omega, hs.2 e⟩)]
      · rw [if_pos d3]
    have e2 : r.scan q (numR q.q1 q.q2 q.q3 q.q4) = (.no, r) := by
      unfold R.scan
      rw [if_neg c1, if_neg c2]
      by_cases d1 : 3 < q.q6
      · rw [if_pos d1]
      rw [if_neg d1]
      by_cases d2 : 3 < q.q7
      · rw [if_pos d2]
      rw [if_neg d2]
      by_cases d3 : q.q6 = l.looks
      · rw [if_neg (by rw [hlo]; simpa using d3), if_pos (fun e => c3 ⟨d3, by omega, e⟩)]
      · rw [if_pos (by rw [hlo]; exact d3)]
    rw [e1, e2]; exact ⟨rfl, h⟩
theorem sim_take {l : L} {r : R} (h : Sim l r) (hl : l.Ok) {q : Q} (hq : q.Ok) (h0 : q.q0 = 81 ∨ (q.q0 = 17 ∧ 1 ≤ q.q1 ∧ q.q1 ≤ 127) ∨ (q.q0 = 4 ∧ q.q1 = 0)) : (r.take q).1.is = (l.take q).1.is ∧ Sim (l.take q).2 (r.take q).2 := by
  rcases h0 with h0 | ⟨h0, h1⟩ | ⟨h0, h1⟩
  · rw [takeL81 h0, takeR81 h hl h0]
    by_cases hf : l.Free
    · rw [if_pos hf, if_pos hf]; exact sim_scan h hl hq
    · rw [if_neg hf, if_neg hf]; exact ⟨rfl, h⟩
  · rw [takeL17 h0 h1, takeR17 h0 h1]
    by_cases hm : l.mode = 1
    · rw [if_pos hm, if_pos (by rw [h.mode]; exact hm)]; exact ⟨rfl, ⟨h.a0, h.a1, h.a2, h.a3, rfl, h.uid, h.mode, h.looks⟩⟩
    · rw [if_neg hm, if_neg (by rw [h.mode]; exact hm)]; exact ⟨rfl, h⟩
  · rw [takeL4 h0 h1, takeR4 h0 h1]
    refine ⟨rfl, ?_⟩
    by_cases hu : l.uid = 0
    · rw [if_pos hu, if_pos (by rw [h.uid]; exact hu)]; exact ⟨h.a0, h.a1, h.a2, h.a3, h.id, h.id, rfl, h.looks⟩
    · rw [if_neg hu, if_neg (by rw [h.uid]; exact hu)]; exact ⟨h.a0, h.a1, h.a2, h.a3, h.id, h.uid, rfl, h.looks⟩
/-- The same slaves. -/
inductive Sims : List PL → List PR → Prop
  | nil : Sims [] []
  | cons {x : PL} {y : PR} {ms : List PL} {rs : List PR} : Sim x.2 y.2 → x.2.Ok → Sims ms rs → Sims (x :: ms) (y :: rs)
def Qs (q : Q) : Prop := q.Ok ∧ (q.q0 = 81 ∨ (q.q0 = 17 ∧ 1 ≤ q.q1 ∧ q.q1 ≤ 127) ∨ (q.q0 = 4 ∧ q.q1 = 0))
theorem Sims.take {ms : List PL} {rs : List PR} (h : Sims ms rs) {q : Q} (hq : Qs q) : rs.any (anR q) = ms.any (anL q) ∧ Sims (ms.map (tkL q)) (rs.map (tkR q)) := by
  induction h with
  | nil => exact ⟨rfl, .nil⟩
  | cons h1 h2 _ ih =>
    obtain ⟨g1, g2⟩ := sim_take h1 h2 hq.1 hq.2
    refine ⟨?_, .cons g2 (Ls.take_ok _ h2 _ hq.1) ih.2⟩
    rw [List.any_cons, List.any_cons, ih.1]
    unfold anR anL
    rw [g1]
theorem Sims.run : ∀ (n : Nat) (s : Sc) (ms : List PL) (rs : List PR), s.Ok → Sims ms rs → (runR n s rs).1 = (runL n s ms).1 ∧ Sims (runL n s ms).2 (runR n s rs).2
  | 0, _, _, _, _, h => ⟨rfl, h⟩
  | n + 1, s, ms, rs, hs, h => by
    rw [runR, runL]
    split
    · exact ⟨rfl, h⟩
    · rename_i h3
      obtain ⟨hq, h0⟩ := hs.q_ok h3
      obtain ⟨g1, g2⟩ := h.take (q := s.q) ⟨hq, .inl h0⟩
      have e : (stepR s rs).1 = (stepL s ms).1 := by unfold stepR stepL; rw [g1]
      rw [e]
      exact Sims.run n _ _ _ ((hs.ask h3).ans _) g2
theorem q17_eq {n : Int} (h : 1 ≤ n ∧ n ≤ 127) : q17 n = q17r n := by
  unfold q17 q17r
  rw [show n % 256 = n by omega, show n / 256 % 256 = 0 by omega, show n / 65536 % 256 = 0 by omega, show n / 16777216 = 0 by omega]
theorem Sims.all : ∀ (xs : List Int) (ms : List PL) (rs : List PR) (out : List Sc), (∀ x ∈ xs, 1 ≤ x ∧ x ≤ 127) → Sims ms rs → (allR xs rs out).1 = (allL xs ms out).1 ∧ (allR xs rs out).2.1 = (allL xs ms out).2.1 ∧ Sims (allL xs ms out).2.2 (allR xs rs out).2.2
  | [], ms, rs, out, _, h => by
    obtain ⟨hq, h0⟩ := Sc.Ok.new.q_ok (by show (0 : Int) ≠ 3; decide)
    obtain ⟨g1, g2⟩ := h.take (q := Sc.new.q) ⟨hq, .inl h0⟩
    exact ⟨rfl, by unfold allR allL; rw [g1], g2⟩
  | x :: xs, ms, rs, out, hx, h => by
    obtain ⟨g1, g2⟩ := Sims.run 134 Sc.new ms rs Sc.Ok.new h
    have g1 : (scanR rs).1 = (scanL ms).1 := g1
    have g2 : Sims (scanL ms).2 (scanR rs).2 := g2
    unfold allR allL
    rw [g1]
    split
    · exact ⟨rfl, rfl, g2⟩
    · refine Sims.all xs _ _ _ (fun y hy => hx y (.tail _ hy)) ?_
      have hr := hx x (.head _)
      unfold giveL giveR
      rw [q17_eq hr]
      exact ((g2.take (q := q17r x) ⟨q17r_ok hr, .inr (.inl ⟨rfl, hr⟩)⟩).2.take (q := q4) ⟨q4_ok, .inr (.inr ⟨rfl, rfl⟩)⟩).2
theorem Sims.len {ms : List PL} {rs : List PR} (h : Sims ms rs) : rs.length = ms.length := by
  induction h with
  | nil => rfl
  | cons _ _ _ ih => simp [ih]
theorem Sims.allP {xs : List Int} {ms : List PL} {rs : List PR} (h : Sims ms rs) : (allD xs rs).1 = (allP xs ms).1 ∧ (allD xs rs).2.1 = (allP xs ms).2.1 ∧ Sims (Go.Proofs.Ytkegkhhfbfegoaa.allP xs ms).2.2 (allD xs rs).2.2 := by
  unfold allD Go.Proofs.Ytkegkhhfbfegoaa.allP
  rw [h.len]
  split
  · rename_i e
    exact Sims.all xs ms rs [] (chk_range e).1 h
  · exact ⟨rfl, rfl, h⟩
end Go.Proofs.Ytkegkhhfbfegoaa
