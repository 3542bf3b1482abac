/- Sx, part O: small helps: parts of a heap glued in another order. -/
import Derived.Test.YtkegkhhfbfegoaaSxN
set_option linter.unusedVariables false
set_option linter.unusedSimpArgs false
namespace Go.Proofs.Ytkegkhhfbfegoaa.Sx
open Go.RowKit
/-- Parts, one behind the other. -/
def glue (ls : List Heap) : List Nat → Heap
  | [] => []
  | [i] => ls.getD i []
  | i :: j :: r => ls.getD i [] ++ glue ls (j :: r)
theorem glue_flat (ls : List Heap) : ∀ p : List Nat, glue ls p = p.flatMap fun i => ls.getD i []
  | [] => rfl
  | [i] => by simp [glue]
  | i :: j :: r => by rw [glue, glue_flat ls (j :: r)]; simp
/-- Kept, in another order: ls are the parts, p their order in H, q what is kept, d what is dropped. -/
theorem Keep.glue {H : Heap} {K : Heap → Prop} (ls : List Heap) (p q d : List Nat) (hp : p.Perm (q ++ d)) (hH : H = glue ls p) (h : K (glue ls q)) : Keep H K :=
  Keep.by ls p q d hp (hH.trans (glue_flat ls p)) (by rw [← glue_flat]; exact h)
theorem flat_set {α β : Type} {f : α → List β} {k : Nat} (hk : ∀ x, (f x).length = k) : ∀ {L : List α} {j i : Nat} {x x' : α} {v : β}, L[j]? = some x → i < k → f x' = (f x).set i v → (L.flatMap f).set (j * k + i) v = (L.set j x').flatMap f
  | [], j, i, x, x', v, hj, _, _ => by simp at hj
  | y :: L, 0, i, x, x', v, hj, hi, hx => by
    simp only [List.getElem?_cons_zero, Option.some.injEq] at hj
    subst hj
    rw [List.flatMap_cons, Nat.zero_mul, Nat.zero_add, List.set_append_left _ _ (by rw [hk]; exact hi), List.set_cons_zero, List.flatMap_cons, hx]
  | y :: L, j + 1, i, x, x', v, hj, hi, hx => by
    rw [List.flatMap_cons, List.set_append_right _ _ (by rw [hk, Nat.add_mul]; omega), hk, show (j + 1) * k + i - k = j * k + i by rw [Nat.add_mul]; omega, List.set_cons_succ, List.flatMap_cons]
    rw [flat_set hk (by simpa using hj) hi hx]
/-- One cell of one element is written. -/
theorem Put.flat {α : Type} {f : α → List Value} {k : Nat} (hk : ∀ x, (f x).length = k) {L : List α} {j i N : Nat} {x : α} {v : Value} {t : TypeId} {K : Blk → Prop} (x' : α) (hj : L[j]? = some x) (hi : i < k) (hx : f x' = (f x).set i v)
    (h : K (.buf t ((L.set j x').flatMap f) N)) : Put (.buf t (L.flatMap f) N) (0 + j * k + i) [v] K := by
  have hlt := (List.getElem?_eq_some_iff.1 hj).1
  have hl : j * k + i < (L.flatMap f).length := by
    rw [flat_len hk]
    have : (j + 1) * k ≤ L.length * k := Nat.mul_le_mul_right _ hlt
    rw [Nat.add_mul] at this; omega
  refine ⟨_, ⟨?_, rfl⟩, ?_⟩
  · show 0 + j * k + i + 1 ≤ _; omega
  · rw [Nat.zero_add]
    show K (.buf t ((L.flatMap f).take (j * k + i) ++ [v] ++ (L.flatMap f).drop (j * k + i + 1)) N)
    have := flat_set (f := f) hk hj hi hx
    rw [List.set_eq_take_append_cons_drop, if_pos hl] at this
    rw [List.append_assoc, List.singleton_append, this]
    exact h
/-- A cell of an element is read. -/
theorem Cell.flat {α : Type} {f : α → List Value} {k : Nat} (hk : ∀ x, (f x).length = k) {L : List α} {j i N : Nat} {x : α} {v : Value} {t : TypeId} {K : Value → Prop} (hj : L[j]? = some x) (hi : i < k) (hv : (f x)[i]? = some v) (h : K v) : Cell (.buf t (L.flatMap f) N) (0 + j * k + i) K :=
  Cell.get (by show (L.flatMap f)[0 + j * k + i]? = _; rw [Nat.zero_add, flat_nth hk hj hi]; exact hv) h
theorem Cells.flat {α : Type} {f : α → List Value} {k : Nat} (hk : ∀ x, (f x).length = k) {L : List α} {j N : Nat} {x : α} {t : TypeId} {K : List Value → Prop} (hj : L[j]? = some x) (h : K (f x)) : Cells (.buf t (L.flatMap f) N) (0 + j * k) k K :=
  Cells.get (f x) (hk x) (fun i v hv => by
    have hi := (List.getElem?_eq_some_iff.1 hv).1
    rw [hk] at hi
    show (L.flatMap f)[0 + j * k + i]? = _
    rw [Nat.zero_add, flat_nth hk hj hi]; exact hv) h
theorem list_of {α : Type} {P : Nat → α → Prop} : ∀ (n : Nat), (∀ j, j < n → ∃ x, P j x) → ∃ L : List α, L.length = n ∧ ∀ (j : Nat) x, L[j]? = some x → P j x
  | 0, _ => ⟨[], rfl, fun j x h => by simp at h⟩
  | n + 1, h => by
    obtain ⟨L, h1, h2⟩ := list_of n fun j hj => h j (by omega)
    obtain ⟨x, hx⟩ := h n (by omega)
    refine ⟨L ++ [x], by simp [h1], fun j y hj => ?_⟩
    by_cases hjn : j < L.length
    · rw [List.getElem?_append_left hjn] at hj; exact h2 j y hj
    · rw [List.getElem?_append_right (by omega)] at hj
      have hlt := (List.getElem?_eq_some_iff.1 hj).1
      simp at hlt
      have : j - L.length = 0 := by omega
      rw [this] at hj
      simp at hj
      subst hj
      have : j = n := by omega
      subst this; exact hx
end Go.Proofs.Ytkegkhhfbfegoaa.Sx
