/- Sx, part U: loops by a state of their own; slices that are only read, wherever they lie. -/
import Derived.Test.YtkegkhhfbfegoaaSxT
set_option linter.unusedVariables false
set_option linter.unusedSimpArgs false
namespace Go.Proofs.Ytkegkhhfbfegoaa.Sx
open Go.RowKit
section
variable {P : Program} {x : XCode} {Q : Post} {l : List Value} {H : Heap}
/-- A loop by what holds at the head of each round of a state (I), and a number that each round makes less. -/
theorem SLoop.invA {α : Type} (I : α → List Value → Heap → Prop) (μ : α → Nat) (a0 : α) (h0 : Keep H fun H' => I a0 l H')
    (round : ∀ a l H, I a l H → ∀ R : List Value → Heap → Prop, (∀ a' l' H', μ a' < μ a → Keep H' (fun H'' => I a' l' H'') → R l' H') → xc P x (thenQ R Q) l H) : SLoop P x Q l H := by
  refine SLoop.keep (h0.mono ?_)
  intro H' hI
  have key : ∀ n a l H, μ a = n → I a l H → SLoop P x Q l H := by
    intro n
    induction n using Nat.strongRecOn with
    | _ n ih =>
      intro a l H hn hI
      refine SLoop.round (round a l H hI _ fun a' l' H' hm hk => SLoop.keep (hk.mono ?_))
      intro H'' h1
      exact ih _ (hn ▸ hm) a' l' H'' rfl h1
  exact key _ a0 l H' rfl hI
end
/-- A slice's elements, of k cells each (f), as they lie in what is known. -/
def InS {α : Type} (f : α → List Value) (k : Nat) (sv : Value) (H : Heap) (L : List α) : Prop :=
  ∃ a c, sv = .slice a L.length c ∧ L.length ≤ maxLen ∧ (L = [] ∨ ∃ r o b, a = some ⟨r, o, none⟩ ∧ (r, b) ∈ H ∧ ∀ j x i v, L[j]? = some x → (f x)[i]? = some v → i < k → b.cell (o + j * k + i) = some v)
theorem InS.mono {α : Type} {f : α → List Value} {k : Nat} {sv : Value} {H H' : Heap} {L : List α} (h : InS f k sv H L) (hs : ∀ p ∈ H, p ∈ H') : InS f k sv H' L := by
  obtain ⟨a, c, rfl, h1, h2⟩ := h
  refine ⟨a, c, rfl, h1, ?_⟩
  rcases h2 with rfl | ⟨r, o, b, rfl, hm, hc⟩
  · exact .inl rfl
  · exact .inr ⟨r, o, b, rfl, hs _ hm, hc⟩
theorem InS.nil {α : Type} {f : α → List Value} {k : Nat} {H : Heap} {a : Option Addr} {c : Nat} : InS f k (.slice a 0 c) H ([] : List α) := ⟨a, c, rfl, Nat.zero_le _, .inl rfl⟩
/-- What is looked up, wherever it lies. -/
theorem Look.mem {r : Nat} {b : Blk} {H : Heap} {K : Heap → Blk → Heap → Prop} (hm : (r, b) ∈ H) (h : ∀ A B, H = A ++ (r, b) :: B → K A b B) : Look r H K := by
  obtain ⟨A, B, rfl⟩ := List.append_of_mem hm
  exact ⟨A, b, B, rfl, h A B rfl⟩
/-- A load of one cell of what is known. -/
theorem Look.cell {r o : Nat} {b : Blk} {H : Heap} {K : Value → Prop} {v : Value} (hm : (r, b) ∈ H) (hc : b.cell o = some v) (h : K v) : Look r H fun _ b _ => Cell b o K :=
  Look.mem hm fun _ _ _ => Cell.get hc h
theorem Look.cells {r o n : Nat} {b : Blk} {H : Heap} {K : List Value → Prop} {vs : List Value} (hm : (r, b) ∈ H) (hl : vs.length = n) (hc : ∀ j v, vs[j]? = some v → b.cell (o + j) = some v) (h : K vs) : Look r H fun _ b _ => Cells b o n K :=
  Look.mem hm fun _ _ _ => Cells.get vs hl hc h
theorem InS.at1 {α : Type} {f : α → List Value} {sv : Value} {H : Heap} {L : List α} (h : InS f 1 sv H L) {j : Nat} {x : α} {v : Value} (hj : L[j]? = some x) (hv : f x = [v]) :
    ∃ r o c b, sv = .slice (some ⟨r, o, none⟩) L.length c ∧ (r, b) ∈ H ∧ b.cell (o + j * 1) = some v := by
  obtain ⟨a, c, rfl, h1, h2⟩ := h
  rcases h2 with rfl | ⟨r, o, b, rfl, hm, hc⟩
  · simp at hj
  · exact ⟨r, o, c, b, rfl, hm, hc j x 0 v hj (by rw [hv]; rfl) (by decide)⟩
theorem InS.sv {α : Type} {f : α → List Value} {k : Nat} {sv : Value} {H : Heap} {L : List α} (h : InS f k sv H L) : ∃ a c, sv = .slice a L.length c ∧ L.length ≤ maxLen := by
  obtain ⟨a, c, rfl, h1, h2⟩ := h
  exact ⟨a, c, rfl, h1⟩
theorem InS.row {α : Type} {f : α → List Value} {k p c : Nat} {t : TypeId} {fz : Nat × Nat} {cs : List Value} {H : Heap} {L : List α} (hm : (p, .row t cs fz) ∈ H) (hcs : cs = L.flatMap f) (hk : ∀ x, (f x).length = k) (hl : L.length ≤ maxLen) : InS f k (.slice (some ⟨p, 0, none⟩) L.length c) H L := by
  subst hcs
  refine ⟨_, c, rfl, hl, .inr ⟨p, 0, _, rfl, hm, fun j x i v hj hv hi => ?_⟩⟩
  show (L.flatMap f)[0 + j * k + i]? = some v
  rw [Nat.zero_add, flat_nth hk hj hi]; exact hv
theorem InS.buf {α : Type} {f : α → List Value} {k p c N : Nat} {t : TypeId} {cs : List Value} {H : Heap} {L : List α} (hm : (p, .buf t cs N) ∈ H) (hcs : cs = L.flatMap f) (hk : ∀ x, (f x).length = k) (hl : L.length ≤ maxLen) : InS f k (.slice (some ⟨p, 0, none⟩) L.length c) H L := by
  subst hcs
  refine ⟨_, c, rfl, hl, .inr ⟨p, 0, _, rfl, hm, fun j x i v hj hv hi => ?_⟩⟩
  show (L.flatMap f)[0 + j * k + i]? = some v
  rw [Nat.zero_add, flat_nth hk hj hi]; exact hv
theorem perm_glue {ls : List Heap} {p q : List Nat} (hp : p.Perm q) : (glue ls p).Perm (glue ls q) := by
  rw [glue_flat, glue_flat]; exact hp.flatMap_right _
/-- Of a heap in another order: ls are the parts, p their order, q the order that is wanted. -/
theorem SCalls.glue {P : Program} {g : FuncId} {args : List Value} {H : Heap} {K : Value → Heap → Prop} (ls : List Heap) (p q : List Nat) (hp : p.Perm q) (hH : H = Sx.glue ls p) (h : SCalls P g args (Sx.glue ls q) K) : SCalls P g args H K := by
  subst hH
  exact h.perm (perm_glue hp)
theorem mapTy.mk' {P : Program} {t k e : TypeId} {d : TypeDesc} {zv : Value} (h1 : P.underlying t = some (.map k e)) (h2 : P.underlying k = some d) (h3 : (P.info? e).bind (·.zero) = some zv) : mapTy P t k e d zv := by
  refine ⟨h1, h2, ?_⟩
  cases hi : P.info? e with
  | none => rw [hi] at h3; cases h3
  | some i => rw [hi] at h3; exact ⟨i, rfl, h3⟩
end Go.Proofs.Ytkegkhhfbfegoaa.Sx
