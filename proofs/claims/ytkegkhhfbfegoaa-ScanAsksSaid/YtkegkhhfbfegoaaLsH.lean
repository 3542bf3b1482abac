/- Layer 19: what stays of a slave behind a step: plain laws; Take, with what is stored. -/
import Derived.Test.YtkegkhhfbfegoaaLsD
set_option linter.unusedVariables false
set_option linter.unusedSimpArgs false
set_option maxRecDepth 100000
set_option maxHeartbeats 4000000
namespace Go.Proofs.Ytkegkhhfbfegoaa.Ls
open Go.Proofs.Ytkegkhhfbfegoaa Go.Proofs.Ytkegkhhfbfegoaa.Sx
/-- What is stored is a number in its bounds. -/
structure L.Fit (l : L) : Prop where
  ok : l.Ok
  st : ∀ i r, l.st = some (i, r) → 0 ≤ i ∧ i ≤ 127
theorem take_st (l : L) (q : Q) (h : ¬ (q.q0 = 23 ∧ l.mode = 1 ∧ l.fails = false)) (hm : l.mode = 0 ∨ l.mode = 1) : (l.take q).2.st = l.st := by
  unfold L.take
  (repeat' split) <;> first
    | rfl
    | exact L.selects_st _ _ _
    | exact L.scans_st _ _
    | (unfold L.switches; (repeat' split) <;> rfl)
    | (unfold L.configures
       (repeat' split) <;> first | rfl | (exfalso; rename_i hf; revert hf h; cases l.fails <;> simp_all))
theorem take_stores (l : L) (q : Q) (h : q.q0 = 23 ∧ l.mode = 1 ∧ l.fails = false) : l.take q = (.one 23 0, { l with st := some (l.pid, l.pr) }) := by
  obtain ⟨h1, h2, h3⟩ := h
  unfold L.take L.configures
  rw [if_neg (by omega), if_neg (by omega), if_neg (by omega), if_neg (by omega), if_pos h2, if_neg (by omega), if_neg (by omega), if_neg (by omega), if_pos h1, if_neg (by rw [h3]; decide)]
theorem take_uid (l : L) (q : Q) : (l.take q).2.uid = l.uid ∨ (q.q0 = 4 ∧ q.q1 = 0 ∧ l.uid = 0 ∧ (l.take q).2.uid = l.pid) := by
  unfold L.take
  split
  · rename_i h4
    unfold L.switches
    split
    · split
      · exact .inr ⟨h4, by assumption, by assumption, rfl⟩
      · exact .inl rfl
    · split <;> exact .inl rfl
  · left
    (repeat' split) <;> first
      | rfl
      | (unfold L.selects; (repeat' split) <;> rfl)
      | (unfold L.scans; (repeat' split) <;> rfl)
      | (unfold L.configures; (repeat' split) <;> rfl)
theorem switches_ok (l : L) (hl : l.Ok) (x : Int) : (l.switches x).Ok := by
  obtain ⟨h1, h2, h3, h4, h5, h6, h7, h8, h9⟩ := hl
  unfold L.switches
  (repeat' split) <;> constructor <;> first | assumption | exact .inl rfl | exact .inr rfl
theorem selects_ok (l : L) (hl : l.Ok) (k n : Int) : (l.selects k n).2.Ok := by
  obtain ⟨h1, h2, h3, h4, h5, h6, h7, h8, h9⟩ := hl
  unfold L.selects
  (repeat' split) <;> constructor <;> first | assumption | exact .inl rfl | exact .inr rfl | decide | (dsimp only; omega)
theorem scans_ok (l : L) (hl : l.Ok) (q : Q) (hq : q.Ok) : (l.scans q).2.Ok := by
  obtain ⟨h1, h2, h3, h4, h5, h6, h7, h8, h9⟩ := hl
  obtain ⟨r0, r1, r2, r3, r4, r5, r6, r7⟩ := hq
  unfold L.scans
  (repeat' split) <;> constructor <;> first | assumption | exact .inl rfl | exact .inr rfl | decide | (dsimp only; omega)
theorem configures_ok (l : L) (hl : l.Ok) (q : Q) (hq : q.Ok) : (l.configures q).2.Ok := by
  obtain ⟨h1, h2, h3, h4, h5, h6, h7, h8, h9⟩ := hl
  obtain ⟨r0, r1, r2, r3, r4, r5, r6, r7⟩ := hq
  unfold L.configures
  (repeat' split) <;> constructor <;> first | assumption | exact .inl rfl | exact .inr rfl | decide | (dsimp only; omega)
theorem take_ok (l : L) (hl : l.Ok) (q : Q) (hq : q.Ok) : (l.take q).2.Ok := by
  unfold L.take
  (repeat' split) <;> first
    | exact hl
    | exact switches_ok l hl _
    | exact selects_ok l hl _ _
    | exact scans_ok l hl q hq
    | exact configures_ok l hl q hq
theorem take_fit (l : L) (hl : l.Fit) (q : Q) (hq : q.Ok) : (l.take q).2.Fit := by
  refine ⟨take_ok l hl.ok q hq, ?_⟩
  by_cases h : q.q0 = 23 ∧ l.mode = 1 ∧ l.fails = false
  · rw [take_stores l q h]
    rintro i r e
    injection e with e
    injection e with e1 e2
    rw [← e1]; exact hl.ok.pid
  · rw [take_st l q h hl.ok.mode]
    exact hl.st
theorem restart_fit (l : L) (hl : l.Fit) : l.restart.Fit := by
  obtain ⟨⟨h1, h2, h3, h4, h5, h6, h7, h8, h9⟩, hs⟩ := hl
  unfold L.restart
  split
  · rename_i e
    exact ⟨⟨⟨Int.le_refl 0, by show (0 : Int) ≤ 3; decide⟩, ⟨Int.le_refl 0, by show (0 : Int) ≤ 3; decide⟩, .inl rfl, h4, h5, h6, h7, h9, h9⟩, hs⟩
  · rename_i i r e
    have hi := hs i r e
    exact ⟨⟨⟨Int.le_refl 0, by show (0 : Int) ≤ 3; decide⟩, ⟨Int.le_refl 0, by show (0 : Int) ≤ 3; decide⟩, .inl rfl, h4, h5, h6, h7, hi, hi⟩, hs⟩
theorem restart_uid (l : L) : l.restart.uid = (match l.st with | none => l.pid | some (i, _) => i) := by
  unfold L.restart
  split <;> rename_i e <;> rw [e]
theorem c8H {K : Value → Heap → Prop} {g p : Nat} (l : L) (hl : l.Ok) (q : Q) (hq : q.Ok) (h : ∀ p', K (l.take q).1.val (L.H g p' (l.take q).2)) : SCalls Try.prog 25 [.pointer (some ⟨g, 0, none⟩), q.val] (L.H g p l) K := by
  refine SCalls.keep ?_
  refine SCalls.atList [] (c8g l hl q hq _ (fun e1 e2 e3 p' => ?_) fun hn => ?_)
  · have h := h p'
    rw [take_stores l q ⟨e1, e2, e3⟩] at h
    exact Keep.sub (L.H g p' { l with st := some (l.pid, l.pr) }) (List.sublist_append_left _ (stH p l.st)) h
  · have h := h p
    unfold L.H at h
    rw [take_st l q hn hl.mode] at h
    exact Keep.all h
end Go.Proofs.Ytkegkhhfbfegoaa.Ls
