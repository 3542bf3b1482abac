/- Sx, part A: memory as a list of known blocks ('Heap'), what a world that holds them is, and how a world may change beside them. Plain lemmas over any program. -/
import Derived.WalkKit
import Derived.Below
import Derived.OneCell
import Derived.Deep.Draws
import Derived.Laws.CopyRow
import Derived.Laws.StructEq
import Derived.OrdersHeld
import Derived.ChangeKeysEq
import Derived.Deep.Slices
set_option linter.unusedVariables false
set_option linter.unusedSimpArgs false
namespace Go.Proofs.Ytkegkhhfbfegoaa.Sx
open Go.RowKit

/-- What is known of a block: its cells, all of them; its first cells, and how many there are; another object; or (only read) some of its cells. -/
inductive Blk where
  | row (t : TypeId) (cs : List Value) (fz : Nat × Nat)
  | buf (t : TypeId) (cs : List Value) (n : Nat)
  | obj (o : Obj)
  | ro (f : Nat → Option Value)

/-- An object that is no row of cells. -/
def noRow : Obj → Bool
  | .cells .. => false
  | _ => true

def Blk.At (b : Blk) (w : World) (r : Nat) : Prop :=
  match b with
  | .row t cs fz => w.heap[r]? = some (.cells cs.toArray t fz)
  | .buf t cs n => ∃ sl : List Value, cs.length + sl.length = n ∧ w.heap[r]? = some (.cells (cs ++ sl).toArray t (0, 0))
  | .obj o => w.heap[r]? = some o ∧ noRow o = true
  | .ro f => r < w.heap.size ∧ ∀ j v, f j = some v → w.cell? ⟨r, j, none⟩ = some v

/-- Whether a block is nobody else's. -/
def Blk.excl : Blk → Bool
  | .ro _ => false
  | _ => true

abbrev Heap := List (Nat × Blk)
/-- The blocks that are nobody else's. -/
def E (H : Heap) (b : Nat) : Prop := ∃ p ∈ H, p.2.excl = true ∧ p.1 = b
def Sep (H : Heap) : Prop := H.Pairwise fun p q => (p.2.excl = true ∨ q.2.excl = true) → p.1 ≠ q.1
structure Holds (w : World) (H : Heap) : Prop where
  at_ : ∀ p ∈ H, p.2.At w p.1
  sep : Sep H

/-- Outside S the world w' is as w was. -/
structure Fr (S : Nat → Prop) (w w' : World) : Prop where
  os : w'.os = w.os
  tape : w'.tape = w.tape
  output : w'.output = w.output
  size : w.heap.size ≤ w'.heap.size
  block : ∀ k, k < w.heap.size → ¬ S k → w'.heap[k]? = w.heap[k]?

/-- From w, of which H is known, to w', of which H' is: nothing else was changed, and what is new is new. -/
structure Step (w : World) (H : Heap) (w' : World) (H' : Heap) : Prop where
  fr : Fr (E H) w w'
  ids : ∀ p ∈ H', E H p.1 ∨ w.heap.size ≤ p.1 ∨ (p.2.excl = false ∧ ∃ q ∈ H, q.1 = p.1)

theorem Fr.refl (S : Nat → Prop) (w : World) : Fr S w w := ⟨rfl, rfl, rfl, Nat.le_refl _, fun _ _ _ => rfl⟩
theorem Fr.mono {S T : Nat → Prop} {a b : World} (h : Fr S a b) (hs : ∀ k, k < a.heap.size → S k → T k) : Fr T a b :=
  ⟨h.os, h.tape, h.output, h.size, fun i hi hn => h.block i hi fun hS => hn (hs i hi hS)⟩
theorem Fr.trans {S T : Nat → Prop} {a b c : World} (h : Fr S a b) (k : Fr T b c) (hT : ∀ i, i < a.heap.size → T i → S i) : Fr S a c :=
  ⟨k.os.trans h.os, k.tape.trans h.tape, k.output.trans h.output, Nat.le_trans h.size k.size,
    fun i hi hn => (k.block i (Nat.lt_of_lt_of_le hi h.size) fun hk => hn (hT i hi hk)).trans (h.block i hi hn)⟩

theorem excl_of_ids {w : World} {H H' : Heap} {w' : World} (h : Step w H w' H') {b : Nat} (hb : E H' b) (hlt : b < w.heap.size) (hx : ∀ p ∈ H', p.2.excl = true → E H p.1 ∨ w.heap.size ≤ p.1) : E H b := by
  obtain ⟨p, hp, he, rfl⟩ := hb
  rcases hx p hp he with h1 | h1
  · exact h1
  · omega
theorem Step.excl {w w' : World} {H H' : Heap} (h : Step w H w' H') : ∀ p ∈ H', p.2.excl = true → E H p.1 ∨ w.heap.size ≤ p.1 := by
  intro p hp he
  rcases h.ids p hp with h1 | h1 | ⟨h1, _⟩
  · exact .inl h1
  · exact .inr h1
  · rw [he] at h1; cases h1
theorem Step.refl (w : World) (H : Heap) : Step w H w H := by
  refine ⟨Fr.refl _ _, fun p hp => ?_⟩
  cases he : p.2.excl with
  | true => exact .inl ⟨p, hp, he, rfl⟩
  | false => exact .inr (.inr ⟨rfl, p, hp, rfl⟩)
theorem Step.trans {a b c : World} {H H' H'' : Heap} (h : Step a H b H') (k : Step b H' c H'') : Step a H c H'' := by
  refine ⟨h.fr.trans k.fr fun i hi hE => excl_of_ids h hE hi h.excl, fun p hp => ?_⟩
  rcases k.ids p hp with h1 | h1 | ⟨h1, q, hq, hqp⟩
  · obtain ⟨q, hq, _, hqp⟩ := h1
    rcases h.ids q hq with h2 | h2 | h2
    · exact .inl (hqp ▸ h2)
    · exact .inr (.inl (hqp ▸ h2))
    · rename_i he
      rw [he] at h2; cases h2.1
  · exact .inr (.inl (Nat.le_trans h.fr.size h1))
  · rcases h.ids q hq with h2 | h2 | ⟨_, q2, hq2, hqq⟩
    · exact .inl (hqp ▸ h2)
    · exact .inr (.inl (hqp ▸ h2))
    · exact .inr (.inr ⟨h1, q2, hq2, hqq.trans hqp⟩)

section
variable {w w' : World} {H H' : Heap}
theorem Blk.At.lt {b : Blk} {r : Nat} (h : b.At w r) : r < w.heap.size := by
  cases b with
  | row t cs fz => exact (Array.getElem?_eq_some_iff.1 h).1
  | buf t cs n => obtain ⟨_, _, h⟩ := h; exact (Array.getElem?_eq_some_iff.1 h).1
  | obj o => exact (Array.getElem?_eq_some_iff.1 h.1).1
  | ro f => exact h.1
/-- A block that nothing happened to. -/
theorem Blk.At.same {b : Blk} {r : Nat} (h : b.At w r) (e : w'.heap[r]? = w.heap[r]?) (hs : w.heap.size ≤ w'.heap.size) : b.At w' r := by
  have hl := h.lt
  cases b with
  | row t cs fz => exact e.trans h
  | buf t cs n => obtain ⟨sl, h1, h2⟩ := h; exact ⟨sl, h1, e.trans h2⟩
  | obj o => exact ⟨e.trans h.1, h.2⟩
  | ro f =>
    refine ⟨Nat.lt_of_lt_of_le hl hs, fun j v hj => ?_⟩
    have := h.2 j v hj
    unfold World.cell? at this ⊢
    rw [e]; exact this
theorem Sep.sub (h : Sep H) (hs : H'.Sublist H) : Sep H' := List.Pairwise.sublist hs h
theorem Holds.sub (h : Holds w H) (hs : H'.Sublist H) : Holds w H' := ⟨fun p hp => h.at_ p (hs.subset hp), h.sep.sub hs⟩
theorem Sep.perm (h : Sep H) (hp : H.Perm H') : Sep H' := by
  refine (List.Perm.pairwise_iff ?_ hp).1 h
  intro p q h1 h2
  exact Ne.symm (h1 (h2.symm))
theorem Holds.perm (h : Holds w H) (hp : H.Perm H') : Holds w H' := ⟨fun p hp' => h.at_ p (hp.mem_iff.2 hp'), h.sep.perm hp⟩
theorem E.mono (hs : ∀ p ∈ H', p ∈ H) {b : Nat} (h : E H' b) : E H b := by
  obtain ⟨p, hp, h1, h2⟩ := h
  exact ⟨p, hs p hp, h1, h2⟩
/-- Known less behind it. -/
theorem Step.fewer {H'' : Heap} (h : Step w H w' H') (hs : ∀ p ∈ H'', p ∈ H') : Step w H w' H'' := ⟨h.fr, fun p hp => h.ids p (hs p hp)⟩
/-- Known more ahead of it. -/
theorem Step.more {H0 : Heap} (h : Step w H0 w' H') (hs : ∀ p ∈ H0, p ∈ H) : Step w H w' H' := by
  refine ⟨h.fr.mono fun k _ hk => E.mono hs hk, fun p hp => ?_⟩
  rcases h.ids p hp with h1 | h1 | ⟨h1, q, hq, hqp⟩
  · exact .inl (E.mono hs h1)
  · exact .inr (.inl h1)
  · exact .inr (.inr ⟨h1, q, hs q hq, hqp⟩)

theorem mem_mid {A B : Heap} {p q : Nat × Blk} : p ∈ A ++ q :: B ↔ p = q ∨ p ∈ A ++ B := by
  simp only [List.mem_append, List.mem_cons]
  constructor
  · rintro (h | h | h)
    · exact .inr (.inl h)
    · exact .inl h
    · exact .inr (.inr h)
  · rintro (h | h | h)
    · exact .inr (.inl h)
    · exact .inl h
    · exact .inr (.inr h)
theorem perm_mid {A B : Heap} {q : Nat × Blk} : (A ++ q :: B).Perm (q :: (A ++ B)) := List.perm_middle
/-- What is known beside a part of it: from a change of the part. -/
theorem Holds.frame {R : Heap} (h : Holds w (H ++ R)) (hs : Step w H w' H') (h' : Holds w' H') : Holds w' (H' ++ R) ∧ Step w (H ++ R) w' (H' ++ R) := by
  have hRlt : ∀ p ∈ R, p.1 < w.heap.size := fun p hp => (h.at_ p (List.mem_append_right _ hp)).lt
  have hpair := List.pairwise_append.1 h.sep
  have hne : ∀ q ∈ R, ¬ E H q.1 := by
    rintro q hq ⟨p, hp, he, hpq⟩
    exact hpair.2.2 p hp q hq (.inl he) hpq
  refine ⟨⟨fun p hp => ?_, ?_⟩, ⟨hs.fr.mono fun k _ hk => E.mono (fun p hp => List.mem_append_left _ hp) hk, fun p hp => ?_⟩⟩
  · rcases List.mem_append.1 hp with hp | hp
    · exact h'.at_ p hp
    · exact (h.at_ p (List.mem_append_right _ hp)).same (hs.fr.block p.1 (hRlt p hp) (hne p hp)) hs.fr.size
  · refine List.pairwise_append.2 ⟨h'.sep, hpair.2.1, fun p hp q hq hx => ?_⟩
    rcases hs.ids p hp with h1 | h1 | ⟨h1, p2, hp2, hpp⟩
    · intro e; exact hne q hq (e ▸ h1)
    · have := hRlt q hq; omega
    · intro e
      rcases hx with hx | hx
      · rw [h1] at hx; cases hx
      · exact hpair.2.2 p2 hp2 q hq (.inr hx) (hpp.trans e)
  · rcases List.mem_append.1 hp with hp | hp
    · rcases hs.ids p hp with h1 | h1 | ⟨h1, q, hq, hqp⟩
      · exact .inl (E.mono (fun p hp => List.mem_append_left _ hp) h1)
      · exact .inr (.inl h1)
      · exact .inr (.inr ⟨h1, q, List.mem_append_left _ hq, hqp⟩)
    · cases he : p.2.excl with
      | true => exact .inl ⟨p, List.mem_append_right _ hp, he, rfl⟩
      | false => exact .inr (.inr ⟨rfl, p, List.mem_append_right _ hp, rfl⟩)
theorem Step.permL {H2 : Heap} (h : Step w H w' H') (hp : H.Perm H2) : Step w H2 w' H' := h.more fun p h => hp.mem_iff.1 h
theorem Step.permR {H2 : Heap} (h : Step w H w' H') (hp : H'.Perm H2) : Step w H w' H2 := h.fewer fun p h => hp.mem_iff.2 h

/-- A new block. -/
theorem Holds.alloc (h : Holds w H) (o : Obj) (b : Blk) (hb : b.At (w.alloc o) w.heap.size) : Holds (w.alloc o) ((w.heap.size, b) :: H) ∧ Step w H (w.alloc o) ((w.heap.size, b) :: H) := by
  have hblk : ∀ k, k < w.heap.size → (w.alloc o).heap[k]? = w.heap[k]? := fun k hk => Below.heap_alloc w o k hk
  have hfr : Fr (E H) w (w.alloc o) := ⟨rfl, rfl, rfl, by simp, fun k hk _ => hblk k hk⟩
  refine ⟨⟨fun p hp => ?_, ?_⟩, hfr, fun p hp => ?_⟩
  · rcases List.mem_cons.1 hp with rfl | hp
    · exact hb
    · exact (h.at_ p hp).same (hblk _ (h.at_ p hp).lt) (by simp)
  · refine List.pairwise_cons.2 ⟨fun p hp _ => ?_, h.sep⟩
    have := (h.at_ p hp).lt
    simp only; omega
  · rcases List.mem_cons.1 hp with rfl | hp
    · exact .inr (.inl (Nat.le_refl _))
    · exact (Step.refl w H).ids p hp
theorem Holds.drew (h : Holds w H) (n : Nat) : Holds { w with drawn := n } H := ⟨fun p hp => (h.at_ p hp).same rfl (Nat.le_refl _), h.sep⟩
theorem Step.drew (w : World) (H : Heap) (n : Nat) : Step w H { w with drawn := n } H := ⟨⟨rfl, rfl, rfl, Nat.le_refl _, fun _ _ _ => rfl⟩, (Step.refl w H).ids⟩
/-- One block is another one behind it. -/
theorem Holds.put {A B : Heap} {r : Nat} {b b' : Blk} (h : Holds w (A ++ (r, b) :: B)) (he : b.excl = true) (he' : b'.excl = true) (hsz : w'.heap.size = w.heap.size)
    (hos : w'.os = w.os) (ht : w'.tape = w.tape) (ho : w'.output = w.output) (hoth : ∀ k, k ≠ r → w'.heap[k]? = w.heap[k]?) (hb : b'.At w' r) :
    Holds w' (A ++ (r, b') :: B) ∧ Step w (A ++ (r, b) :: B) w' (A ++ (r, b') :: B) := by
  have h1 := h.perm perm_mid
  have hp := List.pairwise_cons.1 h1.sep
  have hh : Holds w' ((r, b') :: (A ++ B)) := by
    refine ⟨fun p hp' => ?_, List.pairwise_cons.2 ⟨fun p hp' _ => hp.1 p hp' (.inl he), hp.2⟩⟩
    rcases List.mem_cons.1 hp' with rfl | hp'
    · exact hb
    · exact (h1.at_ p (List.mem_cons_of_mem _ hp')).same (hoth _ (Ne.symm (hp.1 p hp' (.inl he)))) (by omega)
  refine ⟨hh.perm perm_mid.symm, ⟨hos, ht, ho, by omega, fun k _ hk => hoth k ?_⟩, fun p hp' => ?_⟩
  · rintro rfl
    exact hk ⟨(k, b), mem_mid.2 (.inl rfl), he, rfl⟩
  · rcases mem_mid.1 hp' with rfl | hp'
    · exact .inl ⟨(r, b), mem_mid.2 (.inl rfl), he, rfl⟩
    · exact (Step.refl w _).ids p (mem_mid.2 (.inr hp'))
theorem Holds.mid {A B : Heap} {r : Nat} {b : Blk} (h : Holds w (A ++ (r, b) :: B)) : b.At w r := h.at_ (r, b) (mem_mid.2 (.inl rfl))
end

theorem setRow_tape (w : World) (g : Nat) (cs : Array Value) : (w.setRow g cs).tape = w.tape := rfl
theorem Holds.setRow {w : World} {A B : Heap} {r : Nat} {t : TypeId} {cs cs' : List Value} {fz : Nat × Nat} (h : Holds w (A ++ (r, .row t cs fz) :: B)) :
    Holds (w.setRow r cs'.toArray) (A ++ (r, .row t cs' fz) :: B) ∧ Step w (A ++ (r, .row t cs fz) :: B) (w.setRow r cs'.toArray) (A ++ (r, .row t cs' fz) :: B) := by
  have hm : w.heap[r]? = some (.cells cs.toArray t fz) := h.mid
  exact h.put rfl rfl (by simp) rfl rfl rfl (fun k hk => setRow_other w r k _ hk) (setRow_heap w r cs.toArray cs'.toArray t fz hm)
end Go.Proofs.Ytkegkhhfbfegoaa.Sx
