/- Input slices: from what the row tells of one to what a walk knows of it. -/
import Derived.Test.YtkegkhhfbfegoaaRd
import Derived.Test.YtkegkhhfbfegoaaSxU
set_option linter.unusedVariables false
set_option linter.unusedSimpArgs false
namespace Go.Proofs.Ytkegkhhfbfegoaa
open Sx
theorem inS_of {α : Type} {f : α → List Value} {k B : Nat} {R : World → List Value → Prop} {Good : α → Prop} {w : World} {a : Option Addr} {n c : Nat} (h : SliceAt k B R w a n c) (hk0 : 0 < k) (hk : ∀ x, (f x).length = k) (hR : ∀ cs, R w cs → ∃ x, cs = f x ∧ Good x) :
    ∃ H L, L.length = n ∧ InS f k (.slice a L.length c) H L ∧ (∀ x ∈ L, Good x) ∧ Holds w H ∧ ∀ p ∈ H, p.2.excl = false := by
  have hml : n ≤ maxLen := Nat.le_trans h.1 h.2.1
  by_cases hl : 0 < n
  · obtain ⟨b, o, rfl, hb, hc⟩ := h.plain hk0 hl
    obtain ⟨L, h1, h2⟩ := list_of (P := fun j (m : α) => Good m ∧ ∀ i v, (f m)[i]? = some v → w.cell? ⟨b, o + j * k + i, none⟩ = some v) n fun j hj => by
      obtain ⟨cs, hlc, hcell, hr⟩ := hc j hj
      obtain ⟨x, rfl, hg⟩ := hR cs hr
      refine ⟨x, hg, fun i v hi => ?_⟩
      have hik : i < k := by rw [← hk x]; exact (List.getElem?_eq_some_iff.1 hi).1
      exact (hcell i hik).trans hi
    refine ⟨[(b, .ro fun j => w.cell? ⟨b, j, none⟩)], L, h1, ⟨_, c, rfl, by omega, .inr ⟨b, o, _, rfl, .head _, fun j x i v hj hv hi => (h2 j x hj).2 i v hv⟩⟩, fun x hx => ?_, ⟨fun p hp => ?_, List.pairwise_singleton _ _⟩, fun p hp => ?_⟩
    · obtain ⟨j, hlt, rfl⟩ := List.getElem_of_mem hx
      exact (h2 j _ (List.getElem?_eq_getElem hlt)).1
    · obtain rfl := List.mem_singleton.1 hp
      exact ⟨hb, fun _ _ h => h⟩
    · obtain rfl := List.mem_singleton.1 hp
      rfl
  · obtain rfl : n = 0 := by omega
    exact ⟨[], [], rfl, ⟨a, c, rfl, by simp, .inl rfl⟩, fun x hx => (by cases hx), Holds.empty w, fun p hp => by cases hp⟩
/-- Two inputs, side by side. -/
theorem Holds.join {w : World} {H G : Heap} (h1 : Holds w H) (h2 : Holds w G) (x1 : ∀ p ∈ H, p.2.excl = false) (x2 : ∀ p ∈ G, p.2.excl = false) : Holds w (H ++ G) := by
  refine ⟨fun p hp => ?_, List.pairwise_append.2 ⟨h1.sep, h2.sep, fun p hp q hq hx => ?_⟩⟩
  · rcases List.mem_append.1 hp with hp | hp
    · exact h1.at_ p hp
    · exact h2.at_ p hp
  · rw [x1 p hp, x2 q hq] at hx
    rcases hx with hx | hx <;> cases hx
theorem excl_join {H G : Heap} (x1 : ∀ p ∈ H, p.2.excl = false) (x2 : ∀ p ∈ G, p.2.excl = false) : ∀ p ∈ H ++ G, p.2.excl = false := fun p hp => by
  rcases List.mem_append.1 hp with hp | hp
  · exact x1 p hp
  · exact x2 p hp
end Go.Proofs.Ytkegkhhfbfegoaa
