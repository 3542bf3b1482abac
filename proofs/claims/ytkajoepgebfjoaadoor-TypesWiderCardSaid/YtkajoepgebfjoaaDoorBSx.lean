/- Sx, part A: memory as a list of known blocks ('Heap'), what a world that holds them is, and how a world may change beside them. Plain lemmas over any program. -/
import Derived.WalkKit
import Derived.Below
import Derived.OneCell
import Derived.Deep.Draws
import Derived.Laws.CopyRow
import Derived.Laws.StructEq
import Derived.OrdersHeld
import Derived.ChangeKeysEq
import Derived.Deep.Slices
import Derived.Laws.AppendOwn
import Derived.Laws.Externs
import Derived.Laws.MakeOwn
import Derived.MapKept
import Derived.Laws.Small

set_option linter.unusedVariables false
set_option linter.unusedSimpArgs false
namespace Go.Proofs.YtkajoepgebfjoaaDoor.Sx
open Go.RowKit

/-- What is known of a block: its cells, all of them; its first cells, and how many there are; another object; or (only read) some of its cells. -/
inductive Blk where
  | row (t : TypeId) (cs : List Value) (fz : Nat × Nat)
  | buf (t : TypeId) (cs : List Value) (n : Nat)
  | obj (o : Obj)
  | ro (f : Nat → Option Value)

/-- An object that is no row of cells. -/
def noRow : Obj → Bool
  | .cells .. => false
  | _ => true

def Blk.At (b : Blk) (w : World) (r : Nat) : Prop :=
  match b with
  | .row t cs fz => w.heap[r]? = some (.cells cs.toArray t fz)
  | .buf t cs n => ∃ sl : List Value, cs.length + sl.length = n ∧ w.heap[r]? = some (.cells (cs ++ sl).toArray t (0, 0))
  | .obj o => w.heap[r]? = some o ∧ noRow o = true
  | .ro f => r < w.heap.size ∧ ∀ j v, f j = some v → w.cell? ⟨r, j, none⟩ = some v

/-- Whether a block is nobody else's. -/
def Blk.excl : Blk → Bool
  | .ro _ => false
  | _ => true

abbrev Heap := List (Nat × Blk)
/-- The blocks that are nobody else's. -/
def E (H : Heap) (b : Nat) : Prop := ∃ p ∈ H, p.2.excl = true ∧ p.1 = b
def Sep (H : Heap) : Prop := H.Pairwise fun p q => (p.2.excl = true ∨ q.2.excl = true) → p.1 ≠ q.1
structure Holds (w : World) (H : Heap) : Prop where
  at_ : ∀ p ∈ H, p.2.At w p.1
  sep : Sep H

/-- Outside S the world w' is as w was. -/
structure Fr (S : Nat → Prop) (w w' : World) : Prop where
  os : w'.os = w.os
  tape : w'.tape = w.tape
  output : w'.output = w.output
  size : w.heap.size ≤ w'.heap.size
  block : ∀ k, k < w.heap.size → ¬ S k → w'.heap[k]? = w.heap[k]?

/-- From w, of which H is known, to w', of which H' is: nothing else was changed, and what is new is new. -/
structure Step (w : World) (H : Heap) (w' : World) (H' : Heap) : Prop where
  fr : Fr (E H) w w'
  ids : ∀ p ∈ H', E H p.1 ∨ w.heap.size ≤ p.1 ∨ (p.2.excl = false ∧ ∃ q ∈ H, q.1 = p.1)

theorem Fr.refl (S : Nat → Prop) (w : World) : Fr S w w := ⟨rfl, rfl, rfl, Nat.le_refl _, fun _ _ _ => rfl⟩
theorem Fr.mono {S T : Nat → Prop} {a b : World} (h : Fr S a b) (hs : ∀ k, k < a.heap.size → S k → T k) : Fr T a b :=
  ⟨h.os, h.tape, h.output, h.size, fun i hi hn => h.block i hi fun hS => hn (hs i hi hS)⟩
theorem Fr.trans {S T : Nat → Prop} {a b c : World} (h : Fr S a b) (k : Fr T b c) (hT : ∀ i, i < a.heap.size → T i → S i) : Fr S a c :=
  ⟨k.os.trans h.os, k.tape.trans h.tape, k.output.trans h.output, Nat.le_trans h.size k.size,
    fun i hi hn => (k.block i (Nat.lt_of_lt_of_le hi h.size) fun hk => hn (hT i hi hk)).trans (h.block i hi hn)⟩

theorem excl_of_ids {w : World} {H H' : Heap} {w' : World} (h : Step w H w' H') {b : Nat} (hb : E H' b) (hlt : b < w.heap.size) (hx : ∀ p ∈ H', p.2.excl = true → E H p.1 ∨ w.heap.size ≤ p.1) : E H b := by
  obtain ⟨p, hp, he, rfl⟩ := hb
  rcases hx p hp he with h1 | h1
  · exact h1
  · omega
theorem Step.excl {w w' : World} {H H' : Heap} (h : Step w H w' H') : ∀ p ∈ H', p.2.excl = true → E H p.1 ∨ w.heap.size ≤ p.1 := by
  intro p hp he
  rcases h.ids p hp with h1 | h1 | ⟨h1, _⟩
  · exact .inl h1
  · exact .inr h1
  · rw [he] at h1; cases h1
theorem Step.refl (w : World) (H : Heap) : Step w H w H := by
  refine ⟨Fr.refl _ _, fun p hp => ?_⟩
  cases he : p.2.excl with
  | true => exact .inl ⟨p, hp, he, rfl⟩
  | false => exact .inr (.inr ⟨rfl, p, hp, rfl⟩)
theorem Step.trans {a b c : World} {H H' H'' : Heap} (h : Step a H b H') (k : Step b H' c H'') : Step a H c H'' := by
  refine ⟨h.fr.trans k.fr fun i hi hE => excl_of_ids h hE hi h.excl, fun p hp => ?_⟩
  rcases k.ids p hp with h1 | h1 | ⟨h1, q, hq, hqp⟩
  · obtain ⟨q, hq, _, hqp⟩ := h1
    rcases h.ids q hq with h2 | h2 | h2
    · exact .inl (hqp ▸ h2)
    · exact .inr (.inl (hqp ▸ h2))
    · rename_i he
      rw [he] at h2; cases h2.1
  · exact .inr (.inl (Nat.le_trans h.fr.size h1))
  · rcases h.ids q hq with h2 | h2 | ⟨_, q2, hq2, hqq⟩
    · exact .inl (hqp ▸ h2)
    · exact .inr (.inl (hqp ▸ h2))
    · exact .inr (.inr ⟨h1, q2, hq2, hqq.trans hqp⟩)

section
variable {w w' : World} {H H' : Heap}
theorem Blk.At.lt {b : Blk} {r : Nat} (h : b.At w r) : r < w.heap.size := by
  cases b with
  | row t cs fz => exact (Array.getElem?_eq_some_iff.1 h).1
  | buf t cs n => obtain ⟨_, _, h⟩ := h; exact (Array.getElem?_eq_some_iff.1 h).1
  | obj o => exact (Array.getElem?_eq_some_iff.1 h.1).1
  | ro f => exact h.1
/-- A block that nothing happened to. -/
theorem Blk.At.same {b : Blk} {r : Nat} (h : b.At w r) (e : w'.heap[r]? = w.heap[r]?) (hs : w.heap.size ≤ w'.heap.size) : b.At w' r := by
  have hl := h.lt
  cases b with
  | row t cs fz => exact e.trans h
  | buf t cs n => obtain ⟨sl, h1, h2⟩ := h; exact ⟨sl, h1, e.trans h2⟩
  | obj o => exact ⟨e.trans h.1, h.2⟩
  | ro f =>
    refine ⟨Nat.lt_of_lt_of_le hl hs, fun j v hj => ?_⟩
    have := h.2 j v hj
    unfold World.cell? at this ⊢
    rw [e]; exact this
theorem Sep.sub (h : Sep H) (hs : H'.Sublist H) : Sep H' := List.Pairwise.sublist hs h
theorem Holds.sub (h : Holds w H) (hs : H'.Sublist H) : Holds w H' := ⟨fun p hp => h.at_ p (hs.subset hp), h.sep.sub hs⟩
theorem Sep.perm (h : Sep H) (hp : H.Perm H') : Sep H' := by
  refine (List.Perm.pairwise_iff ?_ hp).1 h
  intro p q h1 h2
  exact Ne.symm (h1 (h2.symm))
theorem Holds.perm (h : Holds w H) (hp : H.Perm H') : Holds w H' := ⟨fun p hp' => h.at_ p (hp.mem_iff.2 hp'), h.sep.perm hp⟩
theorem E.mono (hs : ∀ p ∈ H', p ∈ H) {b : Nat} (h : E H' b) : E H b := by
  obtain ⟨p, hp, h1, h2⟩ := h
  exact ⟨p, hs p hp, h1, h2⟩
/-- Known less behind it. -/
theorem Step.fewer {H'' : Heap} (h : Step w H w' H') (hs : ∀ p ∈ H'', p ∈ H') : Step w H w' H'' := ⟨h.fr, fun p hp => h.ids p (hs p hp)⟩
/-- Known more ahead of it. -/
theorem Step.more {H0 : Heap} (h : Step w H0 w' H') (hs : ∀ p ∈ H0, p ∈ H) : Step w H w' H' := by
  refine ⟨h.fr.mono fun k _ hk => E.mono hs hk, fun p hp => ?_⟩
  rcases h.ids p hp with h1 | h1 | ⟨h1, q, hq, hqp⟩
  · exact .inl (E.mono hs h1)
  · exact .inr (.inl h1)
  · exact .inr (.inr ⟨h1, q, hs q hq, hqp⟩)

theorem mem_mid {A B : Heap} {p q : Nat × Blk} : p ∈ A ++ q :: B ↔ p = q ∨ p ∈ A ++ B := by
  simp only [List.mem_append, List.mem_cons]
  constructor
  · rintro (h | h | h)
    · exact .inr (.inl h)
    · exact .inl h
    · exact .inr (.inr h)
  · rintro (h | h | h)
    · exact .inr (.inl h)
    · exact .inl h
    · exact .inr (.inr h)
theorem perm_mid {A B : Heap} {q : Nat × Blk} : (A ++ q :: B).Perm (q :: (A ++ B)) := List.perm_middle
/-- What is known beside a part of it: from a change of the part. -/
theorem Holds.frame {R : Heap} (h : Holds w (H ++ R)) (hs : Step w H w' H') (h' : Holds w' H') : Holds w' (H' ++ R) ∧ Step w (H ++ R) w' (H' ++ R) := by
  have hRlt : ∀ p ∈ R, p.1 < w.heap.size := fun p hp => (h.at_ p (List.mem_append_right _ hp)).lt
  have hpair := List.pairwise_append.1 h.sep
  have hne : ∀ q ∈ R, ¬ E H q.1 := by
    rintro q hq ⟨p, hp, he, hpq⟩
    exact hpair.2.2 p hp q hq (.inl he) hpq
  refine ⟨⟨fun p hp => ?_, ?_⟩, ⟨hs.fr.mono fun k _ hk => E.mono (fun p hp => List.mem_append_left _ hp) hk, fun p hp => ?_⟩⟩
  · rcases List.mem_append.1 hp with hp | hp
    · exact h'.at_ p hp
    · exact (h.at_ p (List.mem_append_right _ hp)).same (hs.fr.block p.1 (hRlt p hp) (hne p hp)) hs.fr.size
  · refine List.pairwise_append.2 ⟨h'.sep, hpair.2.1, fun p hp q hq hx => ?_⟩
    rcases hs.ids p hp with h1 | h1 | ⟨h1, p2, hp2, hpp⟩
    · intro e; exact hne q hq (e ▸ h1)
    · have := hRlt q hq; omega
    · intro e
      rcases hx with hx | hx
      · rw [h1] at hx; cases hx
      · exact hpair.2.2 p2 hp2 q hq (.inr hx) (hpp.trans e)
  · rcases List.mem_append.1 hp with hp | hp
    · rcases hs.ids p hp with h1 | h1 | ⟨h1, q, hq, hqp⟩
      · exact .inl (E.mono (fun p hp => List.mem_append_left _ hp) h1)
      · exact .inr (.inl h1)
      · exact .inr (.inr ⟨h1, q, List.mem_append_left _ hq, hqp⟩)
    · cases he : p.2.excl with
      | true => exact .inl ⟨p, List.mem_append_right _ hp, he, rfl⟩
      | false => exact .inr (.inr ⟨rfl, p, List.mem_append_right _ hp, rfl⟩)
theorem Step.permL {H2 : Heap} (h : Step w H w' H') (hp : H.Perm H2) : Step w H2 w' H' := h.more fun p h => hp.mem_iff.1 h
theorem Step.permR {H2 : Heap} (h : Step w H w' H') (hp : H'.Perm H2) : Step w H w' H2 := h.fewer fun p h => hp.mem_iff.2 h

/-- A new block. -/
theorem Holds.alloc (h : Holds w H) (o : Obj) (b : Blk) (hb : b.At (w.alloc o) w.heap.size) : Holds (w.alloc o) ((w.heap.size, b) :: H) ∧ Step w H (w.alloc o) ((w.heap.size, b) :: H) := by
  have hblk : ∀ k, k < w.heap.size → (w.alloc o).heap[k]? = w.heap[k]? := fun k hk => Below.heap_alloc w o k hk
  have hfr : Fr (E H) w (w.alloc o) := ⟨rfl, rfl, rfl, by simp, fun k hk _ => hblk k hk⟩
  refine ⟨⟨fun p hp => ?_, ?_⟩, hfr, fun p hp => ?_⟩
  · rcases List.mem_cons.1 hp with rfl | hp
    · exact hb
    · exact (h.at_ p hp).same (hblk _ (h.at_ p hp).lt) (by simp)
  · refine List.pairwise_cons.2 ⟨fun p hp _ => ?_, h.sep⟩
    have := (h.at_ p hp).lt
    simp only; omega
  · rcases List.mem_cons.1 hp with rfl | hp
    · exact .inr (.inl (Nat.le_refl _))
    · exact (Step.refl w H).ids p hp
theorem Holds.drew (h : Holds w H) (n : Nat) : Holds { w with drawn := n } H := ⟨fun p hp => (h.at_ p hp).same rfl (Nat.le_refl _), h.sep⟩
theorem Step.drew (w : World) (H : Heap) (n : Nat) : Step w H { w with drawn := n } H := ⟨⟨rfl, rfl, rfl, Nat.le_refl _, fun _ _ _ => rfl⟩, (Step.refl w H).ids⟩
/-- One block is another one behind it. -/
theorem Holds.put {A B : Heap} {r : Nat} {b b' : Blk} (h : Holds w (A ++ (r, b) :: B)) (he : b.excl = true) (he' : b'.excl = true) (hsz : w'.heap.size = w.heap.size)
    (hos : w'.os = w.os) (ht : w'.tape = w.tape) (ho : w'.output = w.output) (hoth : ∀ k, k ≠ r → w'.heap[k]? = w.heap[k]?) (hb : b'.At w' r) :
    Holds w' (A ++ (r, b') :: B) ∧ Step w (A ++ (r, b) :: B) w' (A ++ (r, b') :: B) := by
  have h1 := h.perm perm_mid
  have hp := List.pairwise_cons.1 h1.sep
  have hh : Holds w' ((r, b') :: (A ++ B)) := by
    refine ⟨fun p hp' => ?_, List.pairwise_cons.2 ⟨fun p hp' _ => hp.1 p hp' (.inl he), hp.2⟩⟩
    rcases List.mem_cons.1 hp' with rfl | hp'
    · exact hb
    · exact (h1.at_ p (List.mem_cons_of_mem _ hp')).same (hoth _ (Ne.symm (hp.1 p hp' (.inl he)))) (by omega)
  refine ⟨hh.perm perm_mid.symm, ⟨hos, ht, ho, by omega, fun k _ hk => hoth k ?_⟩, fun p hp' => ?_⟩
  · rintro rfl
    exact hk ⟨(k, b), mem_mid.2 (.inl rfl), he, rfl⟩
  · rcases mem_mid.1 hp' with rfl | hp'
    · exact .inl ⟨(r, b), mem_mid.2 (.inl rfl), he, rfl⟩
    · exact (Step.refl w _).ids p (mem_mid.2 (.inr hp'))
theorem Holds.mid {A B : Heap} {r : Nat} {b : Blk} (h : Holds w (A ++ (r, b) :: B)) : b.At w r := h.at_ (r, b) (mem_mid.2 (.inl rfl))
end

theorem Holds.setRow {w : World} {A B : Heap} {r : Nat} {t : TypeId} {cs cs' : List Value} {fz : Nat × Nat} (h : Holds w (A ++ (r, .row t cs fz) :: B)) :
    Holds (w.setRow r cs'.toArray) (A ++ (r, .row t cs' fz) :: B) ∧ Step w (A ++ (r, .row t cs fz) :: B) (w.setRow r cs'.toArray) (A ++ (r, .row t cs' fz) :: B) := by
  have hm : w.heap[r]? = some (.cells cs.toArray t fz) := h.mid
  exact h.put rfl rfl (by simp) rfl rfl rfl (fun k hk => setRow_other w r k _ hk) (setRow_heap w r cs.toArray cs'.toArray t fz hm)
end Go.Proofs.YtkajoepgebfjoaaDoor.Sx


/- Sx, part B: a function's text with its types looked up ('XCode', made by 'compile'), and what is to be shown so that it runs as wanted ('xc'): reckoned by Lean itself, step by step, from the slots and the known blocks; it stops at the words below (Need, Val, Branch, Idx, Look, Cells, Put, New, SCalls ..). -/
set_option linter.unusedVariables false
set_option linter.unusedSimpArgs false
namespace Go.Proofs.YtkajoepgebfjoaaDoor.Sx
open Go.RowKit

/- WHAT A WALK STOPS AT -/
inductive Need (p K : Prop) : Prop
  | mk : p → K → Need p K
inductive Val (n : Int) (K : Int → Prop) : Prop
  | mk (m : Int) : n = m → K m → Val n K
inductive Branch (b : Bool) (K1 K2 : Prop) : Prop
  | mk : (b = true → K1) → (b = false → K2) → Branch b K1 K2
inductive Idx (i : Int) (n : Nat) (K : Nat → Prop) : Prop
  | mk (j : Nat) : i = (j : Int) → j < n → K j → Idx i n K
inductive Look (r : Nat) (H : Heap) (K : Heap → Blk → Heap → Prop) : Prop
  | mk (A : Heap) (b : Blk) (B : Heap) : H = A ++ (r, b) :: B → K A b B → Look r H K
inductive New (K : Nat → Prop) : Prop
  | mk : (∀ r, K r) → New K
def Blk.cell : Blk → Nat → Option Value
  | .row _ cs _, i | .buf _ cs _, i => cs[i]?
  | .ro f, i => f i
  | .obj _, _ => none
inductive Cell (b : Blk) (o : Nat) (K : Value → Prop) : Prop
  | mk (v : Value) : b.cell o = some v → K v → Cell b o K
inductive Cells (b : Blk) (o n : Nat) (K : List Value → Prop) : Prop
  | mk (vs : List Value) : vs.length = n → (∀ j v, vs[j]? = some v → b.cell (o + j) = some v) → K vs → Cells b o n K
/-- b' is b with vs written from o on. -/
def PutOk (b : Blk) (o : Nat) (vs : List Value) (b' : Blk) : Prop :=
  match b with
  | .row t cs fz => o + vs.length ≤ cs.length ∧ (fz = (0, 0) ∨ o + vs.length ≤ fz.1) ∧ b' = .row t (cs.take o ++ vs ++ cs.drop (o + vs.length)) fz
  | .buf t cs n => o + vs.length ≤ cs.length ∧ b' = .buf t (cs.take o ++ vs ++ cs.drop (o + vs.length)) n
  | _ => False
inductive Put (b : Blk) (o : Nat) (vs : List Value) (K : Blk → Prop) : Prop
  | mk (b' : Blk) : PutOk b o vs b' → K b' → Put b o vs K
/-- A block that is a row of variables, none of them frozen. -/
def plainAt (H : Heap) (r : Nat) : Prop := ∃ b, (r, b) ∈ H ∧ match b with | .row _ _ fz => fz = (0, 0) | .buf .. => True | _ => False
inductive PEq (H : Heap) (a b : Addr) (K : Bool → Prop) : Prop
  | same : a.block = b.block → K (decide (a = b)) → PEq H a b K
  | other : a.block ≠ b.block → plainAt H a.block → plainAt H b.block → K false → PEq H a b K

/- CALLS -/
/-- What a function may give up with, ahead of its end, beside what it comes back with: nothing, where no text says otherwise. -/
class Dies where
  D : List PanicEntry → Prop
instance (priority := low) noDies : Dies := ⟨fun _ => False⟩
/-- How a call ends: it comes back with v, and H' known, as K tells; or it gives up. -/
def Back [Dies] (w : World) (H : Heap) (K : Value → Heap → Prop) (e : Ending) (w' : World) : Prop :=
  (∃ v H', e = .returned v ∧ Holds w' H' ∧ Step w H w' H' ∧ K v H') ∨ (∃ ch H', e = .panicked ch ∧ Holds w' H' ∧ Step w H w' H' ∧ Dies.D ch)
theorem Back.ret [Dies] {w w' : World} {H H' : Heap} {K : Value → Heap → Prop} {v : Value} (h1 : Holds w' H') (h2 : Step w H w' H') (h3 : K v H') : Back w H K (.returned v) w' :=
  .inl ⟨v, H', rfl, h1, h2, h3⟩
theorem Back.map [Dies] {w w' : World} {H H2 : Heap} {K K' : Value → Heap → Prop} {e : Ending} (h : Back w H K e w') (h1 : ∀ v H', Holds w' H' → Step w H w' H' → K v H' → ∃ H'', Holds w' H'' ∧ Step w H2 w' H'' ∧ K' v H'')
    (h2 : ∀ H', Holds w' H' → Step w H w' H' → ∃ H'', Holds w' H'' ∧ Step w H2 w' H'') : Back w H2 K' e w' := by
  rcases h with ⟨v, H', rfl, g1, g2, g3⟩ | ⟨ch, H', rfl, g1, g2, g3⟩
  · obtain ⟨H'', k1, k2, k3⟩ := h1 v H' g1 g2 g3
    exact .inl ⟨v, H'', rfl, k1, k2, k3⟩
  · obtain ⟨H'', k1, k2⟩ := h2 H' g1 g2
    exact .inr ⟨ch, H'', rfl, k1, k2, g3⟩
/-- A call of function f comes back, whatever else memory holds: with v, and H' known, as K tells. -/
structure SCalls [Dies] (P : Program) (f : FuncId) (args : List Value) (H : Heap) (K : Value → Heap → Prop) : Prop where
  enter : ∀ w, (callFunc f args.toArray).run P w = .ok (.enter f args.toArray) w
  run : ∀ w, Holds w H → Calls P f args.toArray w (Back w H K)
/-- What one operation comes to. -/
def OpOk [Dies] (P : Program) (r : Result Next) (w : World) (H : Heap) (K : Value → Heap → Prop) : Prop :=
  (∃ v w' H', (r = .ok (.value v) w' ∨ (r = .ok .skip w' ∧ v = undef)) ∧ Holds w' H' ∧ Step w H w' H' ∧ K v H') ∨
  (∃ f args, r = .ok (.enter f args) w ∧ Calls P f args w (Back w H K)) ∨
  (∃ v, r = .halt (.panic v) w ∧ Dies.D [{ v := v, recovered := false }])
/-- An operation that 'compile' leaves as it is, its operands' values told. -/
structure RawV [Dies] (P : Program) (o : Oper) (vs : List Value) (H : Heap) (K : Value → Heap → Prop) : Prop where
  run : ∀ (ρ : Operand → Value) (w : World), o.op.operands.toList.map ρ = vs → Holds w H → OpOk P ((execOp ρ o).run P w) w H K

/- LISTS, ONE AFTER THE OTHER -/
noncomputable def getL (l : List Value) : Nat → Value :=
  List.rec (motive := fun _ => Nat → Value) (fun _ => undef) (fun x _ ih i => Nat.casesOn (motive := fun _ => Value) i x fun i => ih i) l
def setK (l : List Value) : Nat → Value → (List Value → Prop) → Prop :=
  List.rec (motive := fun _ => Nat → Value → (List Value → Prop) → Prop) (fun _ _ K => K [])
    (fun x l ih i => Nat.casesOn (motive := fun _ => Value → (List Value → Prop) → Prop) i (fun v K => K (v :: l)) fun i v K => ih i v fun l' => K (x :: l')) l
def forceV (v : Value) (K : Value → Prop) : Prop :=
  match v with
  | .bool b => K (.bool b)
  | .int k n => K (.int k n)
  | .float k b => K (.float k b)
  | .complex k a b => K (.complex k a b)
  | .string s => K (.string s)
  | .pointer a => K (.pointer a)
  | .slice a n c => K (.slice a n c)
  | .map r => K (.map r)
  | .chan r => K (.chan r)
  | .func f x y => K (.func f x y)
  | .nilFunc => K .nilFunc
  | .iface t v => K (.iface t v)
  | .nilIface => K .nilIface
  | .agg cs => K (.agg cs)
  | .tuple vs => K (.tuple vs)
def cellK (l : List Value) : Nat → (Value → Prop) → Prop :=
  List.rec (motive := fun _ => Nat → (Value → Prop) → Prop) (fun _ _ => False)
    (fun x _ ih i => Nat.casesOn (motive := fun _ => (Value → Prop) → Prop) i (fun K => forceV x K) fun i K => ih i K) l
def takeK (l : List Value) : Nat → (List Value → Prop) → Prop :=
  List.rec (motive := fun _ => Nat → (List Value → Prop) → Prop) (fun _ K => K [])
    (fun x _ ih n => Nat.casesOn (motive := fun _ => (List Value → Prop) → Prop) n (fun K => K []) fun n K => ih n fun l' => K (x :: l')) l
def sliceK (l : List Value) : Nat → Nat → (List Value → Prop) → Prop :=
  List.rec (motive := fun _ => Nat → Nat → (List Value → Prop) → Prop) (fun _ _ K => K [])
    (fun x l ih o => Nat.casesOn (motive := fun _ => Nat → (List Value → Prop) → Prop) o (fun n K => takeK (x :: l) n K) fun o n K => ih o n K) l
/-- vs over l, from the head on. -/
def overK (vs : List Value) : List Value → (List Value → Prop) → Prop :=
  List.rec (motive := fun _ => List Value → (List Value → Prop) → Prop) (fun l K => K l)
    (fun v _ ih l => List.casesOn (motive := fun _ => (List Value → Prop) → Prop) l (fun _ => False) fun _ l K => ih l fun l' => K (v :: l')) vs
def putsK (l : List Value) : Nat → List Value → (List Value → Prop) → Prop :=
  List.rec (motive := fun _ => Nat → List Value → (List Value → Prop) → Prop)
    (fun o vs K => Nat.casesOn (motive := fun _ => Prop) o (overK vs [] K) fun _ => List.casesOn (motive := fun _ => Prop) vs (K []) fun _ _ => False)
    (fun x l ih o => Nat.casesOn (motive := fun _ => List Value → (List Value → Prop) → Prop) o (fun vs K => overK vs (x :: l) K) fun o vs K => ih o vs fun l' => K (x :: l')) l
def appK {α : Type} (k : List α) : List α → (List α → Prop) → Prop :=
  List.rec (motive := fun _ => List α → (List α → Prop) → Prop) (fun l K => K l) (fun x _ ih l K => ih l fun l' => K (x :: l')) k
def cellsK (v : Value) (K : List Value → Prop) : Prop :=
  match v with
  | .agg ⟨cs⟩ => K cs
  | v => forceV v fun v => K [v]
def oneB : Value → Bool
  | .agg _ => false
  | .tuple _ => false
  | _ => true
noncomputable def allOne (l : List Value) : Bool :=
  List.rec (motive := fun _ => Bool) true (fun v _ ih => Bool.casesOn (motive := fun _ => Bool) (oneB v) false ih) l
noncomputable def ev (l : List Value) : Operand → Value
  | .tmp i => getL l i
  | .const v => v
  | .global g => .pointer (some ⟨g, 0, none⟩)
  | .func f => .func (.func f) #[] #[]
def evsK (l : List Value) (xs : List Operand) : (List Value → Prop) → Prop :=
  List.rec (motive := fun _ => (List Value → Prop) → Prop) (fun K => K []) (fun x _ ih K => forceV (ev l x) fun v => ih fun vs => K (v :: vs)) xs
def keq : IntKind → IntKind → Bool
  | .i8, .i8 | .i16, .i16 | .i32, .i32 | .i64, .i64 | .u8, .u8 | .u16, .u16 | .u32, .u32 | .u64, .u64 => true
  | _, _ => false
def same (k k' : IntKind) (K : Prop) : Prop := match keq k k' with | true => K | false => False
def bitAnd (k : IntKind) (a b : Int) : Int := k.wrap ((BitVec.ofInt k.bits a &&& BitVec.ofInt k.bits b).toNat)
def bitOr (k : IntKind) (a b : Int) : Int := k.wrap ((BitVec.ofInt k.bits a ||| BitVec.ofInt k.bits b).toNat)
def bitXor (k : IntKind) (a b : Int) : Int := k.wrap ((BitVec.ofInt k.bits a ^^^ BitVec.ofInt k.bits b).toNat)
def bitNot (k : IntKind) (a b : Int) : Int := k.wrap ((BitVec.ofInt k.bits a &&& ~~~(BitVec.ofInt k.bits b)).toNat)
def shlI (k : IntKind) (a b : Int) : Int := k.wrap (a * 2 ^ (min b.toNat k.bits))
def shrI (k : IntKind) (a b : Int) : Int := a.fdiv (2 ^ (min b.toNat k.bits))
def strLt (a b : ByteArray) : Bool := Op.bytesLess a.toList b.toList
def byteAt (s : ByteArray) (i : Nat) : Int := ((s.data.toList.getD i 0).toNat : Int)

def binK (op : BinOp) (k k' : IntKind) (a b : Int) (K : Value → Prop) : Prop :=
  match op with
  | .add => same k k' (Val (k.wrap (a + b)) fun n => K (.int k n))
  | .sub => same k k' (Val (k.wrap (a - b)) fun n => K (.int k n))
  | .mul => same k k' (Val (k.wrap (a * b)) fun n => K (.int k n))
  | .quo => same k k' (Need (b ≠ 0) (Val (k.wrap (a.tdiv b)) fun n => K (.int k n)))
  | .rem => same k k' (Need (b ≠ 0) (Val (a.tmod b) fun n => K (.int k n)))
  | .and => same k k' (Val (bitAnd k a b) fun n => K (.int k n))
  | .or => same k k' (Val (bitOr k a b) fun n => K (.int k n))
  | .xor => same k k' (Val (bitXor k a b) fun n => K (.int k n))
  | .andNot => same k k' (Val (bitNot k a b) fun n => K (.int k n))
  | .shl => Need (0 ≤ b) (Val (shlI k a b) fun n => K (.int k n))
  | .shr => Need (0 ≤ b) (Val (shrI k a b) fun n => K (.int k n))
  | .eql => same k k' (K (.bool (decide (a = b))))
  | .neq => same k k' (K (.bool (!decide (a = b))))
  | .lss => same k k' (K (.bool (decide (a < b))))
  | .leq => same k k' (K (.bool (decide (a ≤ b))))
  | .gtr => same k k' (K (.bool (decide (b < a))))
  | .geq => same k k' (K (.bool (decide (b ≤ a))))
def strK (op : BinOp) (a b : ByteArray) (K : Value → Prop) : Prop :=
  match op with
  | .add => Need (a.size + b.size ≤ 9223372036854775807) (K (.string (a ++ b)))
  | .eql => K (.bool (decide (a = b)))
  | .neq => K (.bool (!decide (a = b)))
  | .lss => K (.bool (strLt a b))
  | .leq => K (.bool (strLt a b || decide (a = b)))
  | .gtr => K (.bool (!(strLt a b || decide (a = b))))
  | .geq => K (.bool (!strLt a b))
  | _ => False

def negB (neg b : Bool) : Bool := match neg with | true => !b | false => b
/-- Whether, or not. -/
def negK (neg b : Bool) (K : Value → Prop) : Prop := match neg with | true => K (.bool (!b)) | false => K (.bool b)

inductive Lf where
  | int
  | bool
  | str
/-- Two cells, compared. -/
def leafK (k : Lf) (x y : Value) (K : Bool → Prop) : Prop :=
  match k, x, y with
  | .int, .int k a, .int k' b => same k k' (K (decide (a = b)))
  | .bool, .bool a, .bool b => K (a == b)
  | .str, .string a, .string b => K (decide (a = b))
  | _, _, _ => False
/-- What a comparison of two structs or arrays compares, one after the other. -/
inductive EqT where
  | nil
  | leaf (off : Nat) (k : Lf) (rest : EqT)
  | sub (off n : Nat) (inner rest : EqT)
def andK (a : Bool) (rest : EqT) (f : (Bool → Prop) → Prop) (K : Bool → Prop) : Prop :=
  match rest with
  | .nil => K a
  | _ => f fun b => K (a && b)
def eqTK (T : EqT) : List Value → List Value → (Bool → Prop) → Prop :=
  EqT.rec (motive := fun _ => List Value → List Value → (Bool → Prop) → Prop) (fun _ _ K => K true)
    (fun off k rest ih xs ys K => leafK k (getL xs off) (getL ys off) fun a => andK a rest (ih xs ys) K)
    (fun off n _ rest ih1 ih2 xs ys K => sliceK xs off n fun xs' => sliceK ys off n fun ys' => ih1 xs' ys' fun a => andK a rest (ih2 xs ys) K) T
/- OPERATIONS THAT TOUCH NO MEMORY -/
inductive PX where
  | mov (x : Operand)
  | pick (c a b : Operand)
  | build (zero : List Value) (parts : List (Nat × Nat × Operand))
  | nilCheck (x : Operand)
  | bin (op : BinOp) (x y : Operand)
  | str (op : BinOp) (x y : Operand)
  | eqBool (neg : Bool) (x y : Operand)
  | eqSl (neg : Bool) (x y : Operand)
  | eqNilPtr (neg : Bool) (x y : Operand)
  | eqAgg (neg : Bool) (T : EqT) (x y : Operand)
  | not (x : Operand)
  | neg (x : Operand)
  | compl (x : Operand)
  | conv (k : IntKind) (x : Operand)
  | iface (t : TypeId) (x : Operand)
  | mkfunc (fn : Fn) (first captured : List Operand)
  | fieldAddr (off : Nat) (x : Operand)
  | field (off : Nat) (agg : Option Nat) (x : Operand)
  | idxAddrArr (len size : Nat) (x i : Operand)
  | idxAddrSl (size : Nat) (x i : Operand)
  | idxArr (len size : Nat) (agg : Bool) (x i : Operand)
  | idxStr (x i : Operand)
  | extract (x : Operand) (i : Nat)
  | lenStr (x : Operand)
  | lenSl (x : Operand)
  | capSl (x : Operand)
  | lenArr (n : Nat)
  | sliceStr (x : Operand) (lo hi : Option Operand)
  | sliceSl (size : Nat) (x : Operand) (lo hi : Option Operand)
  | assertTo (t : TypeId) (ok : Bool) (zero : Value) (x : Operand)

def buildK (l : List Value) (ps : List (Nat × Nat × Operand)) : List Value → (List Value → Prop) → Prop :=
  List.rec (motive := fun _ => List Value → (List Value → Prop) → Prop) (fun cs K => K cs)
    (fun p _ ih cs K => cellsK (ev l p.2.2) fun vs =>
      match Nat.beq vs.length p.2.1 && Nat.ble (p.1 + p.2.1) cs.length with
      | true => putsK cs p.1 vs fun cs' => ih cs' K
      | false => False) ps
/-- A bound of a slice expression: at most y. -/
def bndK (l : List Value) (y : Nat) (d : Nat) : Option Operand → (Nat → Prop) → Prop
  | none, K => K d
  | some x, K => match ev l x with
    | .int _ n => Idx n (y + 1) K
    | _ => False
def xpure : PX → List Value → (Value → Prop) → Prop
  | .mov x, l, K => forceV (ev l x) K
  | .pick c a b, l, K => match ev l c with
    | .bool t => Branch t (forceV (ev l a) K) (forceV (ev l b) K)
    | _ => False
  | .build zero parts, l, K => buildK l parts zero fun cs => K (.agg ⟨cs⟩)
  | .nilCheck x, l, K => match ev l x with
    | .pointer (some a) => K (.pointer (some a))
    | .func (.func f) a b => K (.func (.func f) a b)
    | .iface t v => K (.iface t v)
    | _ => False
  | .bin op x y, l, K => match ev l x, ev l y with
    | .int k a, .int k' b => binK op k k' a b K
    | _, _ => False
  | .str op x y, l, K => match ev l x, ev l y with
    | .string a, .string b => strK op a b K
    | _, _ => False
  | .eqBool neg x y, l, K => match ev l x, ev l y with
    | .bool a, .bool b => negK neg (a == b) K
    | _, _ => False
  | .eqSl neg x y, l, K => match ev l x, ev l y with
    | .slice none _ _, .slice b _ _ => negK neg b.isNone K
    | .slice (some _) _ _, .slice none _ _ => K (.bool neg)
    | _, _ => False
  | .eqNilPtr neg x y, l, K => match ev l x, ev l y with
    | .pointer none, .pointer b => negK neg b.isNone K
    | .pointer (some _), .pointer none => K (.bool neg)
    | _, _ => False
  | .eqAgg neg T x y, l, K => match ev l x, ev l y with
    | .agg ⟨xs⟩, .agg ⟨ys⟩ => eqTK T xs ys fun b => negK neg b K
    | _, _ => False
  | .not x, l, K => match ev l x with
    | .bool b => K (.bool (!b))
    | _ => False
  | .neg x, l, K => match ev l x with
    | .int k n => Val (k.wrap (0 - n)) fun m => K (.int k m)
    | _ => False
  | .compl x, l, K => match ev l x with
    | .int k n => Val (bitXor k (match k.signed with | true => -1 | false => k.max) n) fun m => K (.int k m)
    | _ => False
  | .conv k x, l, K => match ev l x with
    | .int _ n => Val (k.wrap n) fun m => K (.int k m)
    | _ => False
  | .iface t x, l, K => forceV (ev l x) fun v => K (.iface t v)
  | .mkfunc fn first captured, l, K => evsK l first fun a => evsK l captured fun b => K (.func fn ⟨a⟩ ⟨b⟩)
  | .fieldAddr off x, l, K => match ev l x with
    | .pointer (some ⟨r, o, none⟩) => K (.pointer (some ⟨r, o + off, none⟩))
    | _ => False
  | .field off agg x, l, K => match ev l x with
    | .agg ⟨cs⟩ => match agg with
      | some n => sliceK cs off n fun vs => K (.agg ⟨vs⟩)
      | none => cellK cs off K
    | _ => False
  | .idxAddrArr len size x i, l, K => match ev l x, ev l i with
    | .pointer (some ⟨r, o, none⟩), .int _ n => Idx n len fun j => K (.pointer (some ⟨r, o + j * size, none⟩))
    | _, _ => False
  | .idxAddrSl size x i, l, K => match ev l x, ev l i with
    | .slice (some ⟨r, o, none⟩) len _, .int _ n => Idx n len fun j => K (.pointer (some ⟨r, o + j * size, none⟩))
    | _, _ => False
  | .idxArr len size agg x i, l, K => match ev l x, ev l i with
    | .agg ⟨cs⟩, .int _ n => Idx n len fun j => match agg with
      | true => sliceK cs (j * size) size fun vs => K (.agg ⟨vs⟩)
      | false => cellK cs (j * size) K
    | _, _ => False
  | .idxStr x i, l, K => match ev l x, ev l i with
    | .string s, .int _ n => Idx n s.size fun j => K (.int .u8 (byteAt s j))
    | _, _ => False
  | .extract x i, l, K => match ev l x with
    | .tuple ⟨vs⟩ => cellK vs i K
    | _ => False
  | .lenStr x, l, K => match ev l x with
    | .string s => K (.int .i64 (s.size : Int))
    | _ => False
  | .lenSl x, l, K => match ev l x with
    | .slice _ n _ => K (.int .i64 (n : Int))
    | _ => False
  | .capSl x, l, K => match ev l x with
    | .slice _ _ c => K (.int .i64 (c : Int))
    | _ => False
  | .lenArr n, l, K => K (.int .i64 (n : Int))
  | .sliceStr x lo hi, l, K => match ev l x with
    | .string s => bndK l s.size s.size hi fun h => bndK l h 0 lo fun k => K (.string (s.extract k h))
    | _ => False
  | .sliceSl size x lo hi, l, K => match ev l x with
    | .slice a len cap => bndK l cap len hi fun h => match lo with
      | none => K (.slice a h cap)
      | some _ => bndK l h 0 lo fun k => Branch (decide (cap = k)) (K (.slice a (h - k) (cap - k)))
        (match a with
          | some ⟨r, o, none⟩ => K (.slice (some ⟨r, o + k * size, none⟩) (h - k) (cap - k))
          | some ⟨_, _, some _⟩ => False
          | none => K (.slice none (h - k) (cap - k)))
    | _ => False
  | .assertTo t ok zero x, l, K => match ev l x with
    | .iface t' v => match Nat.beq t' t, ok with
      | true, true => forceV v fun v => K (.tuple ⟨[v, .bool true]⟩)
      | true, false => forceV v K
      | false, true => K (.tuple ⟨[zero, .bool false]⟩)
      | false, false => False
    | .nilIface => match ok with
      | true => K (.tuple ⟨[zero, .bool false]⟩)
      | false => False
    | _ => False

/- ALL OPERATIONS -/
inductive XOp where
  | pure (p : PX)
  | alloc (t : TypeId) (zero : List Value)
  | box (t : TypeId) (x : Operand)
  | load (agg : Bool) (n : Nat) (x : Operand)
  | store (n : Nat) (x v : Operand)
  | buildSlice (t : TypeId) (len : Nat) (zeros : List Value) (parts : List (Nat × Nat × Operand))
  | eqPtr (neg : Bool) (x y : Operand)
  | call (f : FuncId) (args : List Operand)
  | callV (x : Operand) (args : List Operand)
  | raw (o : Oper)
structure XO where
  dst : Option Nat
  guard : Option (Nat × Bool)
  op : XOp

/-- What a load reads. -/
def loadK (agg : Bool) (n : Nat) (v : Value) (H : Heap) (K : Value → Prop) : Prop :=
  match v with
  | .pointer (some ⟨r, o, none⟩) => Look r H fun _ b _ => match agg with
    | true => Cells b o n fun vs => K (.agg ⟨vs⟩)
    | false => Cell b o K
  | _ => False
def xop [Dies] (P : Program) : XOp → List Value → Heap → (Value → Heap → Prop) → Prop
  | .pure p, l, H, K => xpure p l fun v => K v H
  | .alloc t zero, l, H, K => New fun r => K (.pointer (some ⟨r, 0, none⟩)) ((r, .row t zero (0, 0)) :: H)
  | .box t x, l, H, K => cellsK (ev l x) fun cs => New fun r => K (.pointer (some ⟨r, 0, none⟩)) ((r, .row t cs (0, 0)) :: H)
  | .load agg n x, l, H, K => loadK agg n (ev l x) H fun v => K v H
  | .store n x v, l, H, K => match ev l x with
    | .pointer (some ⟨r, o, none⟩) => cellsK (ev l v) fun vs => match Nat.beq vs.length n && allOne vs with
      | true => Look r H fun A b B => Put b o vs fun b' => appK A ((r, b') :: B) fun H' => K undef H'
      | false => False
    | _ => False
  | .buildSlice t len zeros parts, l, H, K => buildK l parts zeros fun cs => New fun r => K (.slice (some ⟨r, 0, none⟩) len len) ((r, .row t cs (0, 0)) :: H)
  | .eqPtr neg x y, l, H, K => match ev l x, ev l y with
    | .pointer none, .pointer b => negK neg b.isNone fun v => K v H
    | .pointer (some _), .pointer none => K (.bool neg) H
    | .pointer (some a), .pointer (some b) => PEq H a b fun t => negK neg t fun v => K v H
    | _, _ => False
  | .call f args, l, H, K => evsK l args fun vs => SCalls P f vs H K
  | .callV x args, l, H, K => match ev l x with
    | .func (.func f) ⟨fs⟩ ⟨cs⟩ => evsK l args fun vs => appK vs cs fun vs => appK fs vs fun vs => SCalls P f vs H K
    | _ => False
  | .raw o, l, H, K => evsK l o.op.operands.toList fun vs => RawV P o vs H K
def dstK (d : Option Nat) (l : List Value) (v : Value) (K : List Value → Prop) : Prop :=
  match d with
  | none => K l
  | some d => setK l d v K
/-- An operation, if it is wanted. -/
def xo [Dies] (P : Program) (x : XO) (l : List Value) (H : Heap) (K : List Value → Heap → Prop) : Prop :=
  match x.guard with
  | none => xop P x.op l H fun v H' => dstK x.dst l v fun l' => K l' H'
  | some (g, want) => match getL l g with
    | .bool b => Branch b
      (match want with | true => xop P x.op l H fun v H' => dstK x.dst l v fun l' => K l' H' | false => dstK x.dst l undef fun l' => K l' H)
      (match want with | false => xop P x.op l H fun v H' => dstK x.dst l v fun l' => K l' H' | true => dstK x.dst l undef fun l' => K l' H)
    | _ => dstK x.dst l undef fun l' => K l' H
def xops [Dies] (P : Program) (xs : List XO) : List Value → Heap → (List Value → Heap → Prop) → Prop :=
  List.rec (motive := fun _ => List Value → Heap → (List Value → Heap → Prop) → Prop) (fun l H K => K l H)
    (fun x _ ih l H K => xo P x l H fun l' H' => ih l' H' K) xs
/-- Operations whose order is open: one that is taken first; those of which any may come up. -/
inductive Scr where
  | done
  | take (x : XO) (r : Scr)
  | alt (x : XO) (r rest : Scr)
  | off
  | bad
inductive XCode where
  | skip
  | region (ops : List XO)
  | draw (s : Scr) (tail : List XO)
  | seq (a b : XCode)
  | cond (c : Operand) (a b : XCode)
  | block (id : Nat) (c : XCode)
  | loop (c : XCode)
  | exit (id : Nat)
  | ret
  | bad
end Go.Proofs.YtkajoepgebfjoaaDoor.Sx


/- Sx, part C: the types looked up ('cOp'), and that an operation that touches no memory does what 'xpure' says. -/
set_option linter.unusedVariables false
set_option linter.unusedSimpArgs false
namespace Go.Proofs.YtkajoepgebfjoaaDoor.Sx
open Go.RowKit

/-- Whether a variable of a type is several cells; how many. -/
def aggOf (P : Program) (t : TypeId) : Option (Bool × Nat) :=
  match P.underlying t, P.info? t with
  | some (.struct _), some i => some (true, i.size)
  | some (.array _ _), some i => some (true, i.size)
  | some _, some i => some (false, i.size)
  | _, _ => none
def zeroOf (P : Program) (t : TypeId) : Option Value := (P.info? t).bind (·.zero)
/-- Where the fields lie, if all have sizes. -/
def placesOf (P : Program) (fs : List Field) : Option (List (Nat × Nat)) :=
  match fs with
  | [] => some []
  | f :: r => match P.info? f.type, placesOf P r with
    | some i, some l => some ((f.offset, i.size) :: l)
    | _, _ => none
def partsAt (places : Nat → Option (Nat × Nat)) : List (Nat × Operand) → Option (List (Nat × Nat × Operand))
  | [] => some []
  | (i, x) :: r => match places i, partsAt places r with
    | some (o, s), some l => some ((o, s, x) :: l)
    | _, _ => none
/-- So many cells of zero values. -/
def zerosOf (z : List Value) (n : Nat) : List Value := (List.range n).map fun j => z.getD (j % z.length) undef
def isNilPtr : Operand → Bool
  | .const (.pointer none) => true
  | _ => false

/-- Functions without a body (of this seat): a call of one is left as it is. -/
def bodyless (P : Program) (f : FuncId) : Bool := ([53, 68, 75, 82, 91, 92, 97, 98, 99, 100, 101, 102, 103, 104, 105, 106, 107, 108, 109, 110, 111, 112, 113, 114, 115, 116, 117, 118, 119, 120, 121, 122, 123, 124, 125, 126] : List Nat).any (Nat.beq f)
def cCall (P : Program) (o : Oper) (c : Call) : XOp :=
  match c.callee with
  | .value (.func f) => match bodyless P f with
    | true => .raw o
    | false => .call f c.args.toList
  | .value x => .callV x c.args.toList
  | .builtin .len => match c.args.toList, c.argTypes[0]? with
    | [x], some t => match P.underlying t with
      | some .string => .pure (.lenStr x)
      | some (.slice _) => .pure (.lenSl x)
      | some (.array n _) => .pure (.lenArr n)
      | _ => .raw o
    | _, _ => .raw o
  | _ => .raw o
def partOf (g : TypeId → Option EqT) (P : Program) (t : TypeId) (off : Nat) (rest : EqT) : Option EqT :=
  match P.underlying t, aggOf P t with
  | some (.int _), _ => some (.leaf off .int rest)
  | some .bool, _ => some (.leaf off .bool rest)
  | some .string, _ => some (.leaf off .str rest)
  | _, some (true, n) => match g t with
    | some T => some (.sub off n T rest)
    | none => none
  | _, _ => none
def fieldsT (g : TypeId → Option EqT) (P : Program) : List Field → Option EqT
  | [] => some .nil
  | f :: r => match fieldsT g P r with
    | some rest => if f.name ≠ "_" then partOf g P f.type f.offset rest else some rest
    | none => none
def itemsT (g : TypeId → Option EqT) (P : Program) (e : TypeId) (size : Nat) : List Nat → Option EqT
  | [] => some .nil
  | j :: r => match itemsT g P e size r with
    | some rest => partOf g P e (j * size) rest
    | none => none
def eqTOf (P : Program) : Nat → TypeId → Option EqT
  | 0, _ => none
  | d + 1, t => match P.underlying t with
    | some (.struct fs) => match P.stoodInHeld t with
      | true => none
      | false => fieldsT (eqTOf P d) P fs.toList
    | some (.array n e) => match P.info? e with
      | some i => itemsT (eqTOf P d) P e i.size (List.range n)
      | none => none
    | _ => none
def eqAggOf (P : Program) (o : Oper) (op : BinOp) (t : TypeId) (x y : Operand) : XOp :=
  match eqTOf P 20 t, P.eqGuardType P.depth t, op with
  | some ls, false, .eql => .pure (.eqAgg false ls x y)
  | some ls, false, .neq => .pure (.eqAgg true ls x y)
  | _, _, _ => .raw o
def cBin (P : Program) (o : Oper) (op : BinOp) (t : TypeId) (x y : Operand) : XOp :=
  match P.underlying t with
  | some (.int _) => .pure (.bin op x y)
  | some .string => .pure (.str op x y)
  | some .bool => match op with
    | .eql => .pure (.eqBool false x y)
    | .neq => .pure (.eqBool true x y)
    | _ => .raw o
  | some (.slice _) => match op with
    | .eql => .pure (.eqSl false x y)
    | .neq => .pure (.eqSl true x y)
    | _ => .raw o
  | some (.pointer e) => match P.info? e, op with
    | some i, .eql => match Nat.beq i.size 0, isNilPtr x || isNilPtr y with
      | false, true => .pure (.eqNilPtr false x y)
      | false, false => .eqPtr false x y
      | _, _ => .raw o
    | some i, .neq => match Nat.beq i.size 0, isNilPtr x || isNilPtr y with
      | false, true => .pure (.eqNilPtr true x y)
      | false, false => .eqPtr true x y
      | _, _ => .raw o
    | _, _ => .raw o
  | some (.struct _) => eqAggOf P o op t x y
  | some (.array _ _) => eqAggOf P o op t x y
  | _ => .raw o
def cOp (P : Program) (o : Oper) : XOp :=
  match o.op with
  | .move x => .pure (.mov x)
  | .assign x => .pure (.mov x)
  | .pick c a b => .pure (.pick c a b)
  | .alloc e => match zeroOf P e with
    | some z => .alloc e z.cells.toList
    | none => .raw o
  | .box e x => .box e x
  | .build t parts => match zeroOf P t, P.underlying t with
    | some z, some (.struct fs) => match placesOf P fs.toList with
      | some pl => match partsAt (pl[·]?) parts.toList with
        | some ps => .pure (.build z.cells.toList ps)
        | none => .raw o
      | none => .raw o
    | some z, some (.array _ e) => match P.info? e with
      | some i => match partsAt (fun j => some (j * i.size, i.size)) parts.toList with
        | some ps => .pure (.build z.cells.toList ps)
        | none => .raw o
      | none => .raw o
    | _, _ => .raw o
  | .buildSlice t len parts => match P.underlying t with
    | some (.slice e) => match P.info? e, zeroOf P e with
      | some i, some z => match partsAt (fun j => some (j * i.size, i.size)) parts.toList, Nat.ble (len * i.size) 16777216, Nat.beq i.size z.cells.size with
        | some ps, true, true => .buildSlice e len (zerosOf z.cells.toList (len * i.size)) ps
        | _, _, _ => .raw o
      | _, _ => .raw o
    | _ => .raw o
  | .load t a => match aggOf P t with
    | some (b, n) => .load b n a
    | none => .raw o
  | .store t a v => match aggOf P t with
    | some (_, n) => .store n a v
    | none => .raw o
  | .nilCheck x => .pure (.nilCheck x)
  | .binOp op t x y _ => cBin P o op t x y
  | .unOp op _ x => match op with
    | .not => .pure (.not x)
    | .neg => .pure (.neg x)
    | .xor => .pure (.compl x)
    | _ => .raw o
  | .convert s d x => match P.underlying s, P.underlying d with
    | some (.int _), some (.int k) => .pure (.conv k x)
    | _, _ => .raw o
  | .makeInterface t x => match P.underlying t with
    | some (.interface _) => .raw o
    | some _ => .pure (.iface t x)
    | none => .raw o
  | .makeFunc fn a b => .pure (.mkfunc fn a.toList b.toList)
  | .fieldAddr s x f => match P.underlying s with
    | some (.struct fs) => match fs[f]? with
      | some fl => match P.info? fl.type with
        | some i => match Nat.beq i.size 0 with
          | false => .pure (.fieldAddr fl.offset x)
          | true => .raw o
        | none => .raw o
      | none => .raw o
    | _ => .raw o
  | .field s x f => match P.underlying s with
    | some (.struct fs) => match fs[f]? with
      | some fl => match aggOf P fl.type with
        | some (true, n) => .pure (.field fl.offset (some n) x)
        | some (false, _) => .pure (.field fl.offset none x)
        | none => .raw o
      | none => .raw o
    | _ => .raw o
  | .indexAddr t x i => match P.underlying t with
    | some (.array n e) => match P.info? e with
      | some inf => .pure (.idxAddrArr n inf.size x i)
      | none => .raw o
    | some (.slice e) => match P.info? e with
      | some inf => .pure (.idxAddrSl inf.size x i)
      | none => .raw o
    | _ => .raw o
  | .index t x i => match P.underlying t with
    | some (.array n e) => match aggOf P e with
      | some (b, s) => .pure (.idxArr n s b x i)
      | none => .raw o
    | some .string => .pure (.idxStr x i)
    | _ => .raw o
  | .extract x i => .pure (.extract x i)
  | .slice t x lo hi mx => match mx with
    | some _ => .raw o
    | none => match P.underlying t with
      | some .string => .pure (.sliceStr x lo hi)
      | some (.slice e) => match P.info? e with
        | some inf => .pure (.sliceSl inf.size x lo hi)
        | none => .raw o
      | _ => .raw o
  | .typeAssert x _ t ok => match P.underlying t, zeroOf P t with
    | some (.interface _), _ => .raw o
    | some _, some z => .pure (.assertTo t ok z x)
    | _, _ => .raw o
  | .call c => cCall P o c
  | _ => .raw o

abbrev act (l : List Value) : Act := ⟨l.toArray, []⟩
theorem getL_eq : ∀ (l : List Value) (i : Nat), l.toArray.getD i undef = getL l i
  | [], i => by simp [show getL [] i = undef from rfl]
  | x :: l, 0 => by simp [show getL (x :: l) 0 = x from rfl]
  | x :: l, i + 1 => by
    have := getL_eq l i
    rw [show getL (x :: l) (i + 1) = getL l i from rfl, ← this]
    simp
theorem ev_eq (l : List Value) (x : Operand) : (act l).eval x = ev l x := by
  cases x with
  | tmp t => exact getL_eq l t
  | _ => rfl
theorem setK_ok : ∀ (l : List Value) (i : Nat) (v : Value) (K : List Value → Prop), setK l i v K → K (l.set i v)
  | [], i, v, K, h => h
  | x :: l, 0, v, K, h => h
  | x :: l, i + 1, v, K, h => by simpa using setK_ok l i v _ h
theorem forceV_ok {v : Value} {K : Value → Prop} (h : forceV v K) : K v := by cases v <;> exact h
theorem cellK_ok : ∀ {l : List Value} {i : Nat} {K : Value → Prop}, cellK l i K → ∃ v, l[i]? = some v ∧ K v
  | [], _, _, h => False.elim h
  | x :: l, 0, K, h => ⟨x, rfl, forceV_ok h⟩
  | x :: l, i + 1, K, h => by simpa using cellK_ok (l := l) (i := i) h
theorem takeK_ok : ∀ {l : List Value} {n : Nat} {K : List Value → Prop}, takeK l n K → K (l.take n)
  | [], n, K, h => by have h' : K [] := h; simpa using h'
  | x :: l, 0, K, h => by have h' : K [] := h; simpa using h'
  | x :: l, n + 1, K, h => by simpa using takeK_ok (l := l) (n := n) h
theorem sliceK_ok : ∀ {l : List Value} {o n : Nat} {K : List Value → Prop}, sliceK l o n K → K ((l.drop o).take n)
  | [], o, n, K, h => by have h' : K [] := h; simpa using h'
  | x :: l, 0, n, K, h => by simpa using takeK_ok (l := x :: l) (n := n) h
  | x :: l, o + 1, n, K, h => by simpa using sliceK_ok (l := l) (o := o) h
theorem overK_ok : ∀ {vs l : List Value} {K : List Value → Prop}, overK vs l K → vs.length ≤ l.length ∧ K (vs ++ l.drop vs.length)
  | [], l, K, h => by have h' : K l := h; simpa using h'
  | _ :: _, [], _, h => False.elim h
  | v :: vs, x :: l, K, h => by simpa using overK_ok (vs := vs) (l := l) h
theorem putsK_ok : ∀ {l : List Value} {o : Nat} {vs : List Value} {K : List Value → Prop}, o + vs.length ≤ l.length → putsK l o vs K → K (l.take o ++ vs ++ l.drop (o + vs.length))
  | [], 0, vs, K, _, h => by
    have := (overK_ok (show overK vs [] K from h)).2
    simpa using this
  | x :: l, 0, vs, K, _, h => by
    have := (overK_ok (show overK vs (x :: l) K from h)).2
    simpa using this
  | [], o + 1, vs, K, hl, h => by simp at hl
  | x :: l, o + 1, vs, K, hl, h => by
    have := putsK_ok (l := l) (o := o) (vs := vs) (by simp at hl; omega) h
    have e : o + 1 + vs.length = (o + vs.length) + 1 := by omega
    rw [e]
    simpa using this
theorem appK_ok {α : Type} : ∀ {k l : List α} {K : List α → Prop}, appK k l K → K (k ++ l)
  | [], l, K, h => h
  | x :: k, l, K, h => by simpa using appK_ok (k := k) (l := l) h
theorem cellsK_ok {v : Value} {K : List Value → Prop} (h : cellsK v K) : K v.cells.toList := by
  cases v <;> exact h
theorem allOne_ok : ∀ {l : List Value}, allOne l = true → ∀ v ∈ l, v.oneCell' = true
  | [], _, v, hv => by cases hv
  | x :: l, h, v, hv => by
    have h0 : (Bool.casesOn (motive := fun _ => Bool) (oneB x) false (allOne l)) = true := h
    have h2 : x.oneCell' = true ∧ allOne l = true := by cases x <;> simp_all [oneB, Value.oneCell']
    rcases List.mem_cons.1 hv with rfl | hv
    · exact h2.1
    · exact allOne_ok h2.2 v hv
theorem evsK_ok (l : List Value) : ∀ {xs : List Operand} {K : List Value → Prop}, evsK l xs K → K (xs.map (ev l))
  | [], K, h => h
  | x :: r, K, h => by simpa using evsK_ok l (xs := r) (forceV_ok (K := fun v => evsK l r fun vs => K (v :: vs)) h)
theorem keq_ok {k k' : IntKind} (h : keq k k' = true) : k = k' := by cases k <;> cases k' <;> first | rfl | (exact absurd h (by decide))
theorem same_ok {k k' : IntKind} {K : Prop} (h : same k k' K) : k = k' ∧ K := by
  unfold same at h
  split at h
  · rename_i e; exact ⟨keq_ok e, h⟩
  · exact h.elim
theorem map_ev (l : List Value) (xs : Array Operand) : xs.map (act l).eval = (xs.toList.map (ev l)).toArray := by
  apply Array.ext'
  simp only [Array.toList_map]
  exact List.map_congr_left fun x _ => ev_eq l x

section
variable {P : Program} {w : World}
theorem aggOf_spec {t : TypeId} {b : Bool} {n : Nat} (h : aggOf P t = some (b, n)) : (∀ w, (isAgg t).run P w = .ok b w) ∧ (∀ w, (sizeOf t).run P w = .ok n w) := by
  unfold aggOf at h
  cases hu : P.underlying t with
  | none => simp [hu] at h
  | some d =>
    cases hi : P.info? t with
    | none => rw [hu, hi] at h; cases d <;> simp at h
    | some i =>
      rw [hu, hi] at h
      have h1 : ∀ w, (sizeOf t).run P w = .ok i.size w := fun w => by simp [sizeOf, typeInfo, hi]
      cases d <;> simp only [Option.some.injEq, Prod.mk.injEq] at h <;> obtain ⟨rfl, rfl⟩ := h <;> exact ⟨fun w => by simp [isAgg, run_underlying hu], h1⟩
theorem zeroOf_spec {t : TypeId} {z : Value} (h : zeroOf P t = some z) (w : World) : (zeroValue t).run P w = .ok z w := by
  unfold zeroOf at h
  cases hi : P.info? t with
  | none => simp [hi] at h
  | some i =>
    have hz : i.zero = some z := by simpa [hi] using h
    simp [zeroValue, typeInfo, hi, hz]
theorem size_spec {t : TypeId} {i : TypeInfo} (hi : P.info? t = some i) (w : World) : (sizeOf t).run P w = .ok i.size w := by simp [sizeOf, typeInfo, hi]
theorem run_part_agg {t : TypeId} {n : Nat} (h : aggOf P t = some (true, n)) (cs : List Value) (off : Nat) (w : World) :
    (part t cs.toArray off).run P w = .ok (.agg ((cs.drop off).take n).toArray) w := by
  obtain ⟨h1, h2⟩ := aggOf_spec h
  simp only [part, Sem.run_bind, h1, Result.andThen_ok, if_true, h2, Sem.run_pure]
  congr 2
  apply Array.ext'
  simp [List.extract_eq_take_drop]
theorem run_part_one {t : TypeId} {n : Nat} (h : aggOf P t = some (false, n)) (cs : List Value) (off : Nat) (v : Value) (hv : cs[off]? = some v) (w : World) :
    (part t cs.toArray off).run P w = .ok v w := by
  obtain ⟨h1, h2⟩ := aggOf_spec h
  simp [part, Sem.run_bind, h1, hv]
theorem addr_add (r o n : Nat) : (⟨r, o, none⟩ : Addr).add n = ⟨r, o + n, none⟩ := by
  unfold Addr.add; split <;> simp_all

/-- What an operation yields that touches no memory. -/
abbrev Yld (P : Program) (s : Sem Value) (K : Value → Prop) : Prop := ∃ v, (∀ w, s.run P w = .ok v w) ∧ K v

theorem bin_ok {op : BinOp} {k k' : IntKind} {a b : Int} {K : Value → Prop} (t : TypeId) (h : binK op k k' a b K) : Yld P (binOp op t (.int k a) (.int k' b)) K := by
  cases op <;> simp only [binK] at h
  case add => obtain ⟨rfl, m, rfl, hK⟩ := same_ok h; exact ⟨_, fun w => by simp [binOp, Op.intArith], hK⟩
  case sub => obtain ⟨rfl, m, rfl, hK⟩ := same_ok h; exact ⟨_, fun w => by simp [binOp, Op.intArith], hK⟩
  case mul => obtain ⟨rfl, m, rfl, hK⟩ := same_ok h; exact ⟨_, fun w => by simp [binOp, Op.intArith], hK⟩
  case quo => obtain ⟨rfl, hb, m, rfl, hK⟩ := same_ok h; exact ⟨_, fun w => by simp [binOp, Op.intDiv, hb], hK⟩
  case rem => obtain ⟨rfl, hb, m, rfl, hK⟩ := same_ok h; exact ⟨_, fun w => by simp [binOp, Op.intDiv, hb], hK⟩
  case and => obtain ⟨rfl, m, rfl, hK⟩ := same_ok h; exact ⟨_, fun w => by simp [binOp, Op.intBits, bitAnd], hK⟩
  case or => obtain ⟨rfl, m, rfl, hK⟩ := same_ok h; exact ⟨_, fun w => by simp [binOp, Op.intBits, bitOr], hK⟩
  case xor => obtain ⟨rfl, m, rfl, hK⟩ := same_ok h; exact ⟨_, fun w => by simp [binOp, Op.intBits, bitXor], hK⟩
  case andNot => obtain ⟨rfl, m, rfl, hK⟩ := same_ok h; exact ⟨_, fun w => by simp [binOp, Op.intBits, bitNot], hK⟩
  case shl => obtain ⟨hb, m, rfl, hK⟩ := h; exact ⟨_, fun w => by simp [binOp, Op.shift, shlI, show ¬ b < 0 by omega], hK⟩
  case shr => obtain ⟨hb, m, rfl, hK⟩ := h; exact ⟨_, fun w => by simp [binOp, Op.shift, shrI, show ¬ b < 0 by omega], hK⟩
  case eql => obtain ⟨rfl, hK⟩ := same_ok h; exact ⟨_, fun w => by simp [binOp, Op.intCmp]; rfl, hK⟩
  case neq => obtain ⟨rfl, hK⟩ := same_ok h; exact ⟨_, fun w => by simp [binOp, Op.intCmp]; rfl, hK⟩
  case lss => obtain ⟨rfl, hK⟩ := same_ok h; exact ⟨_, fun w => by simp [binOp, Op.intCmp], hK⟩
  case leq => obtain ⟨rfl, hK⟩ := same_ok h; exact ⟨_, fun w => by simp [binOp, Op.intCmp], hK⟩
  case gtr => obtain ⟨rfl, hK⟩ := same_ok h; exact ⟨_, fun w => by simp [binOp, Op.intCmp], hK⟩
  case geq => obtain ⟨rfl, hK⟩ := same_ok h; exact ⟨_, fun w => by simp [binOp, Op.intCmp], hK⟩
theorem beq_lists (a b : ByteArray) : (a.toList == b.toList) = decide (a = b) := by
  rw [ByteArray.toList_eq, ByteArray.toList_eq]
  by_cases h : a = b
  · subst h; simp
  · have : ¬ a.data = b.data := fun e => h (by cases a; cases b; simp_all)
    simp [h, this]
theorem str_ok {op : BinOp} {a b : ByteArray} {K : Value → Prop} (t : TypeId) (h : strK op a b K) : Yld P (binOp op t (.string a) (.string b)) K := by
  cases op <;> simp only [strK] at h
  case add => obtain ⟨hb, hK⟩ := h; exact ⟨_, fun w => by simp [binOp, Op.stringOp, IntKind.max, IntKind.signed, IntKind.bits]; omega, hK⟩
  case eql => exact ⟨_, fun w => by simp only [binOp, Op.stringOp, beq_lists, Sem.run_pure], h⟩
  case neq => exact ⟨_, fun w => by simp only [binOp, Op.stringOp, beq_lists, Sem.run_pure], h⟩
  case lss => exact ⟨_, fun w => by simp only [binOp, Op.stringOp, beq_lists, Sem.run_pure]; rfl, h⟩
  case leq => exact ⟨_, fun w => by simp only [binOp, Op.stringOp, beq_lists, Sem.run_pure]; rfl, h⟩
  case gtr => exact ⟨_, fun w => by simp only [binOp, Op.stringOp, beq_lists, Sem.run_pure]; rfl, h⟩
  case geq => exact ⟨_, fun w => by simp only [binOp, Op.stringOp, beq_lists, Sem.run_pure]; rfl, h⟩
  all_goals exact h.elim
end
end Go.Proofs.YtkajoepgebfjoaaDoor.Sx


/- Sx, part D: an operation that touches no memory yields what 'xpure' says, whatever the world. -/
set_option linter.unusedVariables false
set_option linter.unusedSimpArgs false
namespace Go.Proofs.YtkajoepgebfjoaaDoor.Sx
open Go.RowKit

/-- It yields a value, and K holds of that. -/
def Yields1 (P : Program) (s : Sem Next) (K : Value → Prop) : Prop := ∃ v, (∀ w, s.run P w = .ok (.value v) w) ∧ K v
section
variable {P : Program} {l : List Value} {K : Value → Prop}
theorem placesOf_spec : ∀ {fs : List Field} {pl : List (Nat × Nat)} (h : placesOf P fs = some pl) (w : World),
    (fs.mapM (m := Sem) fun f => do pure (f.offset, ← sizeOf f.type)).run P w = .ok pl w
  | [], pl, h, w => by simp [placesOf] at h; subst h; simp
  | f :: r, pl, h, w => by
    unfold placesOf at h
    cases hi : P.info? f.type with
    | none => simp [hi] at h
    | some i =>
      cases hp : placesOf P r with
      | none => simp [hi, hp] at h
      | some l =>
        simp only [hi, hp, Option.some.injEq] at h
        subst h
        have ih := placesOf_spec hp w
        simp only [List.mapM_cons, Sem.run_bind, size_spec hi, Result.andThen_ok, Sem.run_pure, ih]
theorem fill_ok : ∀ (place : Nat → Option (Nat × Nat)) (parts : List (Nat × Operand)) (ps : List (Nat × Nat × Operand)) (cs : List Value) (K : List Value → Prop),
    partsAt place parts = some ps → buildK l ps cs K → ∃ cs', Instr.fill place cs.toArray (parts.map fun p => (p.1, ev l p.2)) = some cs'.toArray ∧ K cs'
  | place, [], ps, cs, K, h, hb => by
    simp [partsAt] at h; subst h
    exact ⟨cs, rfl, hb⟩
  | place, (i, x) :: r, ps, cs, K, h, hb => by
    unfold partsAt at h
    cases hp : place i with
    | none => simp [hp] at h
    | some os =>
      obtain ⟨o, s⟩ := os
      cases hr : partsAt place r with
      | none => simp [hp, hr] at h
      | some ps' =>
        simp only [hp, hr, Option.some.injEq] at h
        subst h
        have hb1 := cellsK_ok (v := ev l x) (K := fun vs => match Nat.beq vs.length s && Nat.ble (o + s) cs.length with
          | true => putsK cs o vs fun cs' => buildK l ps' cs' K
          | false => False) hb
        split at hb1
        · rename_i hc
          simp only [Bool.and_eq_true] at hc
          have h1 : (ev l x).cells.toList.length = s := Nat.eq_of_beq_eq_true hc.1
          have h2 : o + s ≤ cs.length := Nat.le_of_ble_eq_true hc.2
          have h3 := putsK_ok (by omega) hb1
          obtain ⟨cs', h4, h5⟩ := fill_ok place r ps' _ K hr h3
          refine ⟨cs', ?_, h5⟩
          have hsz : (ev l x).cells.size = s := by simpa using h1
          simp only [List.map_cons, Instr.fill, hp]
          have hc1 : (decide ((ev l x).cells.size ≠ s) || decide (o + (ev l x).cells.size > cs.toArray.size)) = false := by simp [hsz]; omega
          rw [if_neg (by simp [hsz]; omega)]
          rw [← h4]
          congr 1
          exact foldl_puts (ev l x).cells cs o (by omega)
        · exact hb1.elim
where
  foldl_puts (vs : Array Value) (cs : List Value) (o : Nat) (h : o + vs.size ≤ cs.length) :
      Array.foldl (fun (cs : Array Value) (c : Value × Nat) => cs.setIfInBounds (o + c.2) c.1) cs.toArray vs.zipIdx = (cs.take o ++ vs.toList ++ cs.drop (o + vs.toList.length)).toArray := by
    have key : ∀ (vs : List Value) (k : Nat) (cs : List Value), o + k + vs.length ≤ cs.length →
        List.foldl (fun (cs : Array Value) (c : Value × Nat) => cs.setIfInBounds (o + c.2) c.1) cs.toArray (vs.zipIdx k) = (cs.take (o + k) ++ vs ++ cs.drop (o + k + vs.length)).toArray := by
      intro vs
      induction vs with
      | nil => intro k cs _; simp
      | cons v r ih =>
        intro k cs hl
        simp only [List.zipIdx_cons, List.foldl_cons, List.setIfInBounds_toArray]
        rw [ih (k + 1) _ (by simp at hl ⊢; omega)]
        congr 1
        have := list_seg_step cs (o + k) v r (by simp at hl ⊢; omega)
        simpa [Nat.add_assoc] using this
    have := key vs.toList 0 cs (by simpa using h)
    rw [← Array.foldl_toList, Array.toList_zipIdx]
    simpa using this

theorem bnd_ok {y d : Nat} {x : Option Operand} {K : Nat → Prop} (code : BoundsCode) (h : bndK l y d x K) :
    ∃ n, (∀ w, (match x.map (ev l) with | some v => Instr.sliceBound v y code | none => pure d : Sem Nat).run P w = .ok n w) ∧ (∀ z, x = some z → n ≤ y) ∧ (x = none → n = d) ∧ K n := by
  cases x with
  | none => exact ⟨d, fun w => rfl, fun z hz => (by cases hz), fun _ => rfl, h⟩
  | some z =>
    simp only [bndK] at h
    split at h
    · rename_i k n hz
      obtain ⟨j, rfl, hj, hK⟩ := h
      refine ⟨j, fun w => ?_, fun _ _ => by omega, fun h => (by cases h), hK⟩
      simp only [Option.map_some, hz]
      simp only [Instr.sliceBound, asIntOf, Sem.run_bind, Sem.run_pure, Result.andThen_ok, Sem.run_ite]
      rw [if_pos ⟨by omega, by omega⟩]
      simp
    · exact h.elim

theorem Yld.up {s : Sem Value} (h : Yld P s K) : Yields1 P (do pure (Next.value (← s))) K := by
  obtain ⟨v, h1, h2⟩ := h
  exact ⟨v, fun w => by simp [h1], h2⟩
theorem eqGuard_int (op : BinOp) (t : TypeId) (x y : Operand) (k k' : IntKind) (a b : Int) (w : World) : (eqGuard op t x y (.int k a) (.int k' b)).run P w = .ok () w := by
  unfold eqGuard; split <;> rfl
theorem eqGuard_str (op : BinOp) (t : TypeId) (x y : Operand) (a b : ByteArray) (w : World) : (eqGuard op t x y (.string a) (.string b)).run P w = .ok () w := by
  unfold eqGuard; split <;> rfl
theorem eqGuard_bool (op : BinOp) (t : TypeId) (x y : Operand) (a b : Bool) (w : World) : (eqGuard op t x y (.bool a) (.bool b)).run P w = .ok () w := by
  unfold eqGuard; split <;> rfl
theorem eqGuard_sl (op : BinOp) (t : TypeId) (x y : Operand) (a b : Option Addr) (n m c d : Nat) (w : World) : (eqGuard op t x y (.slice a n c) (.slice b m d)).run P w = .ok () w := by
  unfold eqGuard; split <;> rfl
theorem eqGuard_ptr (op : BinOp) (t : TypeId) (x y : Operand) (a b : Option Addr) (w : World) : (eqGuard op t x y (.pointer a) (.pointer b)).run P w = .ok () w := by
  unfold eqGuard; split <;> rfl

section
variable (w : World) {t : TypeId}
theorem equal_run {x y : Value} {r : Result Bool} (h : (Op.equalIn (9999 + 1) t x y).run P w = r) : (Op.equal t x y).run P w = r := h
theorem eqIn_slnil {e : TypeId} (hu : P.underlying t = some (.slice e)) (d n c m k : Nat) (b : Option Addr) : (Op.equalIn (d + 1) t (.slice none n c) (.slice b m k)).run P w = .ok b.isNone w := by
  simp only [Op.equalIn, Sem.run_bind, run_underlying hu, Result.andThen_ok]; rfl
theorem eqIn_slsome {e : TypeId} (hu : P.underlying t = some (.slice e)) (d n c m k : Nat) (a : Addr) : (Op.equalIn (d + 1) t (.slice (some a) n c) (.slice none m k)).run P w = .ok false w := by
  simp only [Op.equalIn, Sem.run_bind, run_underlying hu, Result.andThen_ok]; rfl
theorem eqIn_ptrnil {e : TypeId} (hu : P.underlying t = some (.pointer e)) (d : Nat) (b : Option Addr) : (Op.equalIn (d + 1) t (.pointer none) (.pointer b)).run P w = .ok b.isNone w := by
  simp only [Op.equalIn, Sem.run_bind, run_underlying hu, Result.andThen_ok]; rfl
theorem eqIn_ptrsome {e : TypeId} (hu : P.underlying t = some (.pointer e)) (d : Nat) (a : Addr) : (Op.equalIn (d + 1) t (.pointer (some a)) (.pointer none)).run P w = .ok false w := by
  simp only [Op.equalIn, Sem.run_bind, run_underlying hu, Result.andThen_ok]; rfl
theorem eql_sl (a b : Option Addr) (n c m k : Nat) : binOp .eql t (.slice a n c) (.slice b m k) = (do pure (.bool (← Op.equal t (.slice a n c) (.slice b m k)))) := rfl
theorem neq_sl (a b : Option Addr) (n c m k : Nat) : binOp .neq t (.slice a n c) (.slice b m k) = (do pure (.bool (!(← Op.equal t (.slice a n c) (.slice b m k))))) := rfl
theorem eql_ptr (a b : Option Addr) : binOp .eql t (.pointer a) (.pointer b) = (do pure (.bool (← Op.equal t (.pointer a) (.pointer b)))) := rfl
theorem neq_ptr (a b : Option Addr) : binOp .neq t (.pointer a) (.pointer b) = (do pure (.bool (!(← Op.equal t (.pointer a) (.pointer b))))) := rfl
theorem eql_bool (a b : Bool) : binOp .eql t (.bool a) (.bool b) = (do pure (.bool (← Op.equal t (.bool a) (.bool b)))) := rfl
theorem neq_bool (a b : Bool) : binOp .neq t (.bool a) (.bool b) = (do pure (.bool (!(← Op.equal t (.bool a) (.bool b))))) := rfl
end

def eqOp (neg : Bool) : BinOp := match neg with | true => .neq | false => .eql
theorem negK_ok {neg b : Bool} (h : negK neg b K) : K (.bool (negB neg b)) := by cases neg <;> exact h
theorem eqBool_ok {t : TypeId} (hu : P.underlying t = some .bool) (neg : Bool) (x y : Operand) (a b : Bool) (h : negK neg (a == b) K) (op : BinOp) (ho : op = eqOp neg) :
    Yld P (do eqGuard op t x y (.bool a) (.bool b); binOp op t (.bool a) (.bool b)) K := by
  have hr : ∀ w, (Op.equal t (.bool a) (.bool b)).run P w = .ok (a == b) w := fun w => equal_run w (run_equalIn_bool' w 9999 t a b hu)
  refine ⟨_, fun w => ?_, negK_ok h⟩
  subst ho
  cases neg <;> simp only [eqOp, negB, Sem.run_bind, eqGuard_bool, Result.andThen_ok, eql_bool, neq_bool, hr, Sem.run_pure]
theorem eqSl_ok {t : TypeId} (neg : Bool) (x y : Operand) (a b : Option Addr) (n c m k : Nat) (r : Bool) (hr : ∀ w, (Op.equalIn (9999 + 1) t (.slice a n c) (.slice b m k)).run P w = .ok r w) (h : negK neg r K) (op : BinOp) (ho : op = eqOp neg) :
    Yld P (do eqGuard op t x y (.slice a n c) (.slice b m k); binOp op t (.slice a n c) (.slice b m k)) K := by
  have hr : ∀ w, (Op.equal t (.slice a n c) (.slice b m k)).run P w = .ok r w := hr
  refine ⟨_, fun w => ?_, negK_ok h⟩
  subst ho
  cases neg <;> simp only [eqOp, negB, Sem.run_bind, eqGuard_sl, Result.andThen_ok, eql_sl, neq_sl, hr, Sem.run_pure]
theorem eqPtr_ok {t : TypeId} (neg : Bool) (x y : Operand) (a b : Option Addr) (r : Bool) (w w' : World) (hr : (Op.equalIn (9999 + 1) t (.pointer a) (.pointer b)).run P w = .ok r w') (op : BinOp) (ho : op = eqOp neg) :
    (do eqGuard op t x y (.pointer a) (.pointer b); binOp op t (.pointer a) (.pointer b)).run P w = .ok (.bool (negB neg r)) w' := by
  have hr : (Op.equal t (.pointer a) (.pointer b)).run P w = .ok r w' := hr
  subst ho
  cases neg <;> simp only [eqOp, negB, Sem.run_bind, eqGuard_ptr, Result.andThen_ok, eql_ptr, neq_ptr, hr, Sem.run_pure]

/- STRUCTS AND ARRAYS, COMPARED -/
def leafB : Lf → Value → Value → Option Bool
  | .int, .int k a, .int k' b => if k = k' then some (decide (a = b)) else none
  | .bool, .bool a, .bool b => some (a == b)
  | .str, .string a, .string b => some (decide (a = b))
  | _, _, _ => none
theorem leafK_ok {k : Lf} {x y : Value} {K : Bool → Prop} (h : leafK k x y K) : ∃ b, leafB k x y = some b ∧ K b := by
  unfold leafK at h
  split at h
  · obtain ⟨rfl, h'⟩ := same_ok h; exact ⟨_, by simp [leafB], h'⟩
  · exact ⟨_, rfl, h⟩
  · exact ⟨_, rfl, h⟩
  · exact h.elim
noncomputable def eqTB : EqT → List Value → List Value → Option Bool
  | .nil, _, _ => some true
  | .leaf off k rest, xs, ys => match leafB k (getL xs off) (getL ys off), eqTB rest xs ys with
    | some a, some b => some (a && b)
    | _, _ => none
  | .sub off n inner rest, xs, ys => match eqTB inner ((xs.drop off).take n) ((ys.drop off).take n), eqTB rest xs ys with
    | some a, some b => some (a && b)
    | _, _ => none
theorem andK_ok {a : Bool} {rest : EqT} {xs ys : List Value} {K : Bool → Prop} (ih : ∀ {K : Bool → Prop}, eqTK rest xs ys K → ∃ b, eqTB rest xs ys = some b ∧ K b) (h : andK a rest (eqTK rest xs ys) K) : ∃ b, eqTB rest xs ys = some b ∧ K (a && b) := by
  unfold andK at h
  split at h
  · exact ⟨true, rfl, by simpa using h⟩
  · exact ih h
theorem eqTK_ok : ∀ (T : EqT) {xs ys : List Value} {K : Bool → Prop}, eqTK T xs ys K → ∃ b, eqTB T xs ys = some b ∧ K b
  | .nil, xs, ys, K, h => ⟨true, rfl, h⟩
  | .leaf off k rest, xs, ys, K, h => by
    obtain ⟨a, h1, h2⟩ := leafK_ok (show leafK k (getL xs off) (getL ys off) (fun a => andK a rest (eqTK rest xs ys) K) from h)
    obtain ⟨b, h3, h4⟩ := andK_ok (fun h => eqTK_ok rest h) h2
    exact ⟨a && b, by simp [eqTB, h1, h3], h4⟩
  | .sub off n inner rest, xs, ys, K, h => by
    have h := sliceK_ok (sliceK_ok (show sliceK xs off n (fun xs' => sliceK ys off n fun ys' => eqTK inner xs' ys' fun a => andK a rest (eqTK rest xs ys) K) from h))
    obtain ⟨a, h1, h2⟩ := eqTK_ok inner h
    obtain ⟨b, h3, h4⟩ := andK_ok (fun h => eqTK_ok rest h) h2
    exact ⟨a && b, by simp [eqTB, h1, h3], h4⟩
theorem getL_get {l : List Value} {i : Nat} (h : getL l i ≠ undef) : l[i]? = some (getL l i) := by
  have e := getL_eq l i
  cases hi : l[i]? with
  | some u => rw [← e]; simp [hi]
  | none => exact absurd (by rw [← e]; simp [hi]) h
theorem leafB_ne {k : Lf} {x y : Value} {b : Bool} (h : leafB k x y = some b) : x ≠ undef ∧ y ≠ undef := by
  constructor <;> (rintro rfl; cases k <;> (first | (cases x <;> cases h) | (cases y <;> cases h) | cases h))
theorem leafB_int {x y : Value} {a : Bool} (h : leafB .int x y = some a) : ∃ k p q, x = .int k p ∧ y = .int k q ∧ a = decide (p = q) := by
  cases x <;> cases y <;> first | (cases h; done) | skip
  rename_i k p k' q
  have h' : (if k = k' then some (decide (p = q)) else none) = some a := h
  split at h'
  · rename_i e
    subst e
    injection h' with h'
    exact ⟨k, p, q, rfl, rfl, h'.symm⟩
  · cases h'
theorem leafB_bool {x y : Value} {a : Bool} (h : leafB .bool x y = some a) : ∃ p q, x = .bool p ∧ y = .bool q ∧ a = (p == q) := by
  cases x <;> cases y <;> first | (cases h; done) | skip
  rename_i p q
  have h' : some (p == q) = some a := h
  injection h' with h'
  exact ⟨p, q, rfl, rfl, h'.symm⟩
theorem leafB_str {x y : Value} {a : Bool} (h : leafB .str x y = some a) : ∃ p q, x = .string p ∧ y = .string q ∧ a = decide (p = q) := by
  cases x <;> cases y <;> first | (cases h; done) | skip
  rename_i p q
  have h' : some (decide (p = q)) = some a := h
  injection h' with h'
  exact ⟨p, q, rfl, rfl, h'.symm⟩
/-- One step of a comparison. -/
theorem part_step {g : TypeId → Option EqT} {t : TypeId} {off d : Nat} {rest T : EqT} {xs ys : List Value} {r : Bool} (hp : partOf g P t off rest = some T) (hT : eqTB T xs ys = some r) (w : World)
    (hg : ∀ T0 xs ys b, g t = some T0 → eqTB T0 xs ys = some b → (Op.equalIn (d + 1) t (.agg xs.toArray) (.agg ys.toArray)).run P w = .ok b w) :
    ∃ x y a b, (part t xs.toArray off).run P w = .ok x w ∧ (part t ys.toArray off).run P w = .ok y w ∧ (Op.equalIn (d + 1) t x y).run P w = .ok a w ∧ eqTB rest xs ys = some b ∧ r = (a && b) := by
  have leaf : ∀ k, T = .leaf off k rest → (∃ n, aggOf P t = some (false, n)) → (∀ x y a, leafB k x y = some a → (Op.equalIn (d + 1) t x y).run P w = .ok a w) →
      ∃ x y a b, (part t xs.toArray off).run P w = .ok x w ∧ (part t ys.toArray off).run P w = .ok y w ∧ (Op.equalIn (d + 1) t x y).run P w = .ok a w ∧ eqTB rest xs ys = some b ∧ r = (a && b) := by
    rintro k rfl ⟨n, ha⟩ hl
    simp only [eqTB] at hT
    split at hT
    · rename_i a b h1 h2
      injection hT with hT
      obtain ⟨n1, n2⟩ := leafB_ne h1
      exact ⟨_, _, a, b, run_part_one ha xs off _ (getL_get n1) w, run_part_one ha ys off _ (getL_get n2) w, hl _ _ _ h1, h2, hT.symm⟩
    · cases hT
  unfold partOf at hp
  split at hp
  · rename_i k hu
    injection hp with hp
    refine leaf .int hp.symm ?_ ?_
    · have hi : ∃ i, P.info? t = some i := by
        unfold Program.underlying at hu
        cases hi : P.info? t with
        | some i => exact ⟨i, rfl⟩
        | none => rw [hi] at hu; cases hu
      obtain ⟨i, hi⟩ := hi
      exact ⟨i.size, by simp [aggOf, hu, hi]⟩
    · intro x y a hl
      obtain ⟨k1, p, q, rfl, rfl, rfl⟩ := leafB_int hl
      rw [run_equalIn_int w d t k1 k p q hu]
      rfl
  · rename_i hu
    injection hp with hp
    refine leaf .bool hp.symm ?_ ?_
    · have hi : ∃ i, P.info? t = some i := by
        unfold Program.underlying at hu
        cases hi : P.info? t with
        | some i => exact ⟨i, rfl⟩
        | none => rw [hi] at hu; cases hu
      obtain ⟨i, hi⟩ := hi
      exact ⟨i.size, by simp [aggOf, hu, hi]⟩
    · intro x y a hl
      obtain ⟨p, q, rfl, rfl, rfl⟩ := leafB_bool hl
      rw [run_equalIn_bool' w d t _ _ hu]
  · rename_i hu
    injection hp with hp
    refine leaf .str hp.symm ?_ ?_
    · have hi : ∃ i, P.info? t = some i := by
        unfold Program.underlying at hu
        cases hi : P.info? t with
        | some i => exact ⟨i, rfl⟩
        | none => rw [hi] at hu; cases hu
      obtain ⟨i, hi⟩ := hi
      exact ⟨i.size, by simp [aggOf, hu, hi]⟩
    · intro x y a hl
      obtain ⟨p, q, rfl, rfl, rfl⟩ := leafB_str hl
      rw [run_equalIn_string w d t _ _ hu, beq_lists]
  · rename_i n ha _ _ _
    split at hp
    · rename_i T0 hg0
      injection hp with hp
      subst hp
      simp only [eqTB] at hT
      split at hT
      · rename_i a b h1 h2
        injection hT with hT
        exact ⟨_, _, a, b, run_part_agg ha xs off w, run_part_agg ha ys off w, hg _ _ _ _ hg0 h1, h2, hT.symm⟩
      · cases hT
    · cases hp
  · cases hp
theorem eqTOf_ok : ∀ (d : Nat) (t : TypeId) (T : EqT) (xs ys : List Value) (b : Bool) (k : Nat) (w : World), eqTOf P d t = some T → eqTB T xs ys = some b → (Op.equalIn (d + k + 1) t (.agg xs.toArray) (.agg ys.toArray)).run P w = .ok b w
  | 0, t, T, xs, ys, b, k, w, h, hb => by cases h
  | d + 1, t, T, xs, ys, b, k, w, h, hb => by
    have ih := fun t T0 xs ys b => eqTOf_ok d t T0 xs ys b k w
    rw [show d + 1 + k + 1 = (d + k + 1) + 1 by omega]
    unfold eqTOf at h
    split at h
    · rename_i fs hu
      split at h
      · cases h
      · rename_i hst
        have hf : P.fieldsOf t = fs := by simp [Program.fieldsOf, hu]
        rw [run_equalIn_struct w (d + k + 1) t xs.toArray ys.toArray (by rw [hf]; exact hu) hst, hf]
        generalize fs.toList = l at h ⊢
        induction l generalizing T b with
        | nil =>
          simp only [fieldsT, Option.some.injEq] at h
          subst h
          simp only [eqTB, Option.some.injEq] at hb
          subst hb
          rfl
        | cons f r ih2 =>
          unfold fieldsT at h
          split at h
          · rename_i rest hrest
            split at h
            · rename_i hname
              obtain ⟨x, y, a, b', p1, p2, p3, p4, rfl⟩ := part_step h hb w (fun T0 xs ys b hg hb => ih f.type T0 xs ys b hg hb)
              have := ih2 rest b' p4 hrest
              simp only [Op.eqFields, if_pos hname, Sem.run_bind, p1, p2, p3, Result.andThen_ok, Sem.run_ite]
              cases a
              · simp
              · simpa using this
            · rename_i hname
              injection h with h
              subst h
              simp only [Op.eqFields, if_neg hname]
              exact ih2 rest b hb hrest
          · cases h
    · rename_i n e hu
      split at h
      · rename_i i hi
        rw [run_equalIn_array w (d + k + 1) xs.toArray ys.toArray hu hi]
        have hc : P.cellsOf e = i.size := by simp [Program.cellsOf, hi]
        rw [hc]
        generalize List.range n = l at h ⊢
        induction l generalizing T b with
        | nil =>
          simp only [itemsT, Option.some.injEq] at h
          subst h
          simp only [eqTB, Option.some.injEq] at hb
          subst hb
          rfl
        | cons j r ih2 =>
          unfold itemsT at h
          split at h
          · rename_i rest hrest
            obtain ⟨x, y, a, b', p1, p2, p3, p4, rfl⟩ := part_step h hb w (fun T0 xs ys b hg hb => ih e T0 xs ys b hg hb)
            have := ih2 rest b' p4 hrest
            simp only [Op.eqItems, Sem.run_bind, p1, p2, p3, Result.andThen_ok, Sem.run_ite]
            cases a
            · simp
            · simpa using this
          · cases h
      · cases h
    · cases h

/-- A binary operation that touches no memory. -/
theorem cBin_ok {o : Oper} {op : BinOp} {t : TypeId} {x y : Operand} {p : PX} (hc : cBin P o op t x y = .pure p) (h : xpure p l K) :
    Yld P (do eqGuard op t x y (ev l x) (ev l y); binOp op t (ev l x) (ev l y)) K := by
  have SL : ∀ (neg : Bool) (e : TypeId), P.underlying t = some (.slice e) → xpure (.eqSl neg x y) l K → op = eqOp neg → Yld P (do eqGuard op t x y (ev l x) (ev l y); binOp op t (ev l x) (ev l y)) K := by
    intro neg e hu h ho
    simp only [xpure] at h
    split at h
    · rename_i hx hy
      rw [hx, hy]
      exact eqSl_ok neg x y _ _ _ _ _ _ _ (fun w => eqIn_slnil w hu _ _ _ _ _ _) h op ho
    · rename_i hx hy
      rw [hx, hy]
      exact eqSl_ok neg x y _ _ _ _ _ _ _ (fun w => eqIn_slsome w hu _ _ _ _ _ _) (by cases neg <;> exact h) op ho
    · exact h.elim
  have PT : ∀ (neg : Bool) (e : TypeId), P.underlying t = some (.pointer e) → xpure (.eqNilPtr neg x y) l K → op = eqOp neg → Yld P (do eqGuard op t x y (ev l x) (ev l y); binOp op t (ev l x) (ev l y)) K := by
    intro neg e hu h ho
    simp only [xpure] at h
    split at h
    · rename_i hx hy
      rw [hx, hy]
      exact ⟨_, fun w => eqPtr_ok neg x y _ _ _ w w (eqIn_ptrnil w hu _ _) op ho, negK_ok h⟩
    · rename_i hx hy
      rw [hx, hy]
      exact ⟨_, fun w => eqPtr_ok neg x y _ _ _ w w (eqIn_ptrsome w hu _ _) op ho, by cases neg <;> exact h⟩
    · exact h.elim
  have BO : ∀ (neg : Bool), P.underlying t = some .bool → xpure (.eqBool neg x y) l K → op = eqOp neg → Yld P (do eqGuard op t x y (ev l x) (ev l y); binOp op t (ev l x) (ev l y)) K := by
    intro neg hu h ho
    simp only [xpure] at h
    split at h
    · rename_i hx hy
      rw [hx, hy]
      exact eqBool_ok hu neg x y _ _ h op ho
    · exact h.elim
  have AG : eqAggOf P o op t x y = .pure p → Yld P (do eqGuard op t x y (ev l x) (ev l y); binOp op t (ev l x) (ev l y)) K := by
    intro hc
    have go : ∀ (neg : Bool) (T : EqT), eqTOf P 20 t = some T → P.eqGuardType P.depth t = false → xpure (.eqAgg neg T x y) l K → op = eqOp neg → Yld P (do eqGuard op t x y (ev l x) (ev l y); binOp op t (ev l x) (ev l y)) K := by
      intro neg T hT hG h ho
      simp only [xpure] at h
      split at h
      · rename_i xs ys hx hy
        obtain ⟨b, h1, h2⟩ := eqTK_ok T h
        rw [hx, hy]
        refine ⟨_, fun w => ?_, negK_ok h2⟩
        have hr : (Op.equalIn 10000 t (.agg xs.toArray) (.agg ys.toArray)).run P w = .ok b w := eqTOf_ok (P := P) 20 t T xs ys b 9979 w hT h1
        subst ho
        cases neg
        · simp only [eqOp, negB, Sem.run_bind, run_eqGuard_agg w .eql t x y xs.toArray ys.toArray hG, Result.andThen_ok]
          rw [run_eql_struct w t, hr]; rfl
        · simp only [eqOp, negB, Sem.run_bind, run_eqGuard_agg w .neq t x y xs.toArray ys.toArray hG, Result.andThen_ok]
          rw [run_neq_struct w t, hr]; rfl
      · exact h.elim
    unfold eqAggOf at hc
    split at hc
    · rename_i T hT hG _
      injection hc with hc; subst hc; exact go false T hT hG h rfl
    · rename_i T hT hG _
      injection hc with hc; subst hc; exact go true T hT hG h rfl
    · cases hc
  unfold cBin at hc
  split at hc
  · injection hc with hc; subst hc
    simp only [xpure] at h
    split at h
    · rename_i k a k' b hx hy
      obtain ⟨v, h1, h2⟩ := bin_ok (P := P) t h
      exact ⟨v, fun w => by simp only [hx, hy, Sem.run_bind, eqGuard_int, Result.andThen_ok, h1], h2⟩
    · exact h.elim
  · injection hc with hc; subst hc
    simp only [xpure] at h
    split at h
    · rename_i a b hx hy
      obtain ⟨v, h1, h2⟩ := str_ok (P := P) t h
      exact ⟨v, fun w => by simp only [hx, hy, Sem.run_bind, eqGuard_str, Result.andThen_ok, h1], h2⟩
    · exact h.elim
  · rename_i hu
    split at hc
    · injection hc with hc; subst hc; exact BO false hu h rfl
    · injection hc with hc; subst hc; exact BO true hu h rfl
    · cases hc
  · rename_i e hu
    split at hc
    · injection hc with hc; subst hc; exact SL false e hu h rfl
    · injection hc with hc; subst hc; exact SL true e hu h rfl
    · cases hc
  · rename_i e hu
    split at hc
    · split at hc
      · injection hc with hc; subst hc; exact PT false e hu h rfl
      · cases hc
      · cases hc
    · split at hc
      · injection hc with hc; subst hc; exact PT true e hu h rfl
      · cases hc
      · cases hc
    · cases hc
  · exact AG hc
  · exact AG hc
  · cases hc
end
end Go.Proofs.YtkajoepgebfjoaaDoor.Sx


/- Sx, part E: 'xpure' tells what an operation yields. -/
set_option linter.unusedVariables false
set_option linter.unusedSimpArgs false
namespace Go.Proofs.YtkajoepgebfjoaaDoor.Sx
open Go.RowKit
section
variable {P : Program} {l : List Value} {K : Value → Prop}
theorem idx_bounds {i : Int} {n : Nat} {K : Nat → Prop} (h : Idx i n K) : ∃ j : Nat, i = (j : Int) ∧ (0 ≤ i ∧ i < (n : Int)) ∧ i.toNat = j ∧ j < n ∧ K j := by
  obtain ⟨j, rfl, hj, hK⟩ := h
  exact ⟨j, rfl, ⟨by omega, by omega⟩, by simp, hj, hK⟩

theorem y_fieldAddr {s : TypeId} {fs : Array Field} {f : Nat} {fl : Field} {i : TypeInfo} (hu : P.underlying s = some (.struct fs)) (hf : fs[f]? = some fl) (hi : P.info? fl.type = some i) (hz : Nat.beq i.size 0 = false) {x : Value} (h : match x with
    | .pointer (some ⟨r, o, none⟩) => K (.pointer (some ⟨r, o + fl.offset, none⟩))
    | _ => False) : Yld P (Instr.fieldAt s x f) K := by
  split at h
  · rename_i r o
    have hne : i.size ≠ 0 := Nat.ne_of_beq_eq_false hz
    refine ⟨_, fun w => ?_, h⟩
    simp only [Instr.fieldAt, Sem.run_bind, run_underlying hu, Result.andThen_ok, hf, Instr.sureAddr, Sem.run_pure, fieldPlace, size_spec hi, Sem.run_ite, if_neg hne, addr_add]
  · exact h.elim
theorem y_idxArr {t e : TypeId} {n : Nat} {i : TypeInfo} (hu : P.underlying t = some (.array n e)) (hi : P.info? e = some i) {x ix : Value} (h : match x, ix with
    | .pointer (some ⟨r, o, none⟩), .int _ m => Idx m n fun j => K (.pointer (some ⟨r, o + j * i.size, none⟩))
    | _, _ => False) : Yld P (Instr.indexAt t x ix) K := by
  split at h
  · rename_i r o k m
    obtain ⟨j, rfl, hb, hj, hlt, hK⟩ := idx_bounds h
    refine ⟨_, fun w => ?_, hK⟩
    simp only [Instr.indexAt, asIntOf, Sem.run_bind, Sem.run_pure, run_underlying hu, Result.andThen_ok, Instr.sureAddr, if_pos hb, Sem.run_ite, size_spec hi, hj, addr_add]
  · exact h.elim
theorem y_idxSl {t e : TypeId} {i : TypeInfo} (hu : P.underlying t = some (.slice e)) (hi : P.info? e = some i) {x ix : Value} (h : match x, ix with
    | .slice (some ⟨r, o, none⟩) len _, .int _ m => Idx m len fun j => K (.pointer (some ⟨r, o + j * i.size, none⟩))
    | _, _ => False) : Yld P (Instr.indexAt t x ix) K := by
  split at h
  · rename_i r o len c k m
    obtain ⟨j, rfl, hb, hj, hlt, hK⟩ := idx_bounds h
    refine ⟨_, fun w => ?_, hK⟩
    simp only [Instr.indexAt, asIntOf, Sem.run_bind, Sem.run_pure, run_underlying hu, Result.andThen_ok, if_pos hb, Sem.run_ite, size_spec hi, hj, addr_add]
  · exact h.elim
theorem y_index {t e : TypeId} {n s : Nat} {b : Bool} (hu : P.underlying t = some (.array n e)) (ha : aggOf P e = some (b, s)) {x ix : Value} (h : xpure (.idxArr n s b (.const x) (.const ix)) l K) : Yld P (Instr.index t x ix) K := by
  simp only [xpure, ev] at h
  split at h
  · rename_i cs k m
    obtain ⟨j, rfl, hb, hj, hlt, hK⟩ := idx_bounds h
    obtain ⟨_, hs⟩ := aggOf_spec ha
    cases b
    case true =>
      refine ⟨_, fun w => ?_, sliceK_ok hK⟩
      simp only [Instr.index, asIntOf, Sem.run_bind, Sem.run_pure, run_underlying hu, Result.andThen_ok, if_pos hb, Sem.run_ite, hs, hj]
      exact run_part_agg ha cs (j * s) w
    case false =>
      obtain ⟨v, hv, hK⟩ := cellK_ok hK
      refine ⟨v, fun w => ?_, hK⟩
      simp only [Instr.index, asIntOf, Sem.run_bind, Sem.run_pure, run_underlying hu, Result.andThen_ok, if_pos hb, Sem.run_ite, hs, hj]
      exact run_part_one ha cs (j * s) v hv w
  · exact h.elim
theorem y_idxStr {t : TypeId} (hu : P.underlying t = some .string) {x ix : Value} (h : match x, ix with
    | .string s, .int _ n => Idx n s.size fun j => K (.int .u8 (byteAt s j))
    | _, _ => False) : Yld P (Instr.index t x ix) K := by
  split at h
  · rename_i s k m
    obtain ⟨j, rfl, hb, hj, hlt, hK⟩ := idx_bounds h
    refine ⟨_, fun w => ?_, hK⟩
    have hg : s[j]? = some s[j] := getElem?_pos s j hlt
    simp only [Instr.index, asIntOf, Sem.run_bind, Sem.run_pure, run_underlying hu, Result.andThen_ok, if_pos (show (0 : Int) ≤ (j : Int) by omega), hj, hg, byteAt]
    congr 3
    have h2 : j < s.data.toList.length := by simpa using hlt
    simp [List.getD, List.getElem?_eq_getElem h2]
    rfl
  · exact h.elim
theorem y_field {s : TypeId} {fs : Array Field} {f : Nat} {fl : Field} {b : Bool} {n : Nat} (hu : P.underlying s = some (.struct fs)) (hf : fs[f]? = some fl) (ha : aggOf P fl.type = some (b, n)) {x : Value} (h : match x with
    | .agg ⟨cs⟩ => match b with
      | true => sliceK cs fl.offset n fun vs => K (.agg ⟨vs⟩)
      | false => cellK cs fl.offset K
    | _ => False) : Yld P (Instr.field s x f) K := by
  split at h
  · rename_i cs
    cases b
    case true =>
      refine ⟨_, fun w => ?_, sliceK_ok h⟩
      simp only [Instr.field, Sem.run_bind, run_underlying hu, Result.andThen_ok, hf, asAgg, Sem.run_pure]
      exact run_part_agg ha cs _ w
    case false =>
      obtain ⟨v, hv, hK⟩ := cellK_ok h
      refine ⟨v, fun w => ?_, hK⟩
      simp only [Instr.field, Sem.run_bind, run_underlying hu, Result.andThen_ok, hf, asAgg, Sem.run_pure]
      exact run_part_one ha cs _ v hv w
  · exact h.elim
theorem y_build {t : TypeId} {z : Value} {parts : Array (Nat × Operand)} {ps : List (Nat × Nat × Operand)} (hz : zeroOf P t = some z) (place : Nat → Option (Nat × Nat))
    (hp : partsAt place parts.toList = some ps) (hu : (∃ fs : Array Field, ∃ pl, P.underlying t = some (.struct fs) ∧ placesOf P fs.toList = some pl ∧ place = (pl[·]?)) ∨ (∃ n e i, P.underlying t = some (.array n e) ∧ P.info? e = some i ∧ place = fun j => some (j * i.size, i.size)))
    (h : buildK l ps z.cells.toList fun cs => K (.agg ⟨cs⟩)) : Yld P (Instr.build t (parts.map fun (i, x) => (i, ev l x))) K := by
  obtain ⟨cs', h1, h2⟩ := fill_ok place parts.toList ps z.cells.toList _ hp h
  refine ⟨_, fun w => ?_, h2⟩
  have h1' : Instr.fill place z.cells (List.map (fun p => (p.fst, ev l p.snd)) parts.toList) = some cs'.toArray := by simpa using h1
  rcases hu with ⟨fs, pl, hu, hpl, rfl⟩ | ⟨n, e, i, hu, hi, rfl⟩
  · have hm : (fs.mapM (m := Sem) fun f => do pure (f.offset, ← sizeOf f.type)).run P w = .ok pl.toArray w := by
      rw [Array.mapM_eq_mapM_toList]
      simp only [Sem.run_map, placesOf_spec hpl w, Result.andThen_ok]
    simp only [Instr.build, Sem.run_bind, zeroOf_spec hz, Result.andThen_ok, run_underlying hu, Array.toList_map]
    erw [hm]
    simp only [Result.andThen_ok, List.getElem?_toArray]
    rw [h1']
    rfl
  · simp only [Instr.build, Sem.run_bind, zeroOf_spec hz, Result.andThen_ok, run_underlying hu, size_spec hi, Array.toList_map]
    rw [h1']
    rfl
theorem y_sliceStr {t : TypeId} (hu : P.underlying t = some .string) {x : Value} {lo hi : Option Operand} (h : match x with
    | .string s => bndK l s.size s.size hi fun h => bndK l h 0 lo fun k => K (.string (s.extract k h))
    | _ => False) : Yld P (Instr.slice t x (lo.map (ev l)) (hi.map (ev l)) none) K := by
  split at h
  · rename_i s
    obtain ⟨n, h1, h2, h3, h4⟩ := bnd_ok (P := P) .sliceAlen h
    obtain ⟨m, g1, g2, g3, g4⟩ := bnd_ok (P := P) .sliceB h4
    refine ⟨_, fun w => ?_, g4⟩
    simp only [Instr.slice, Instr.sliceBounds, Sem.run_bind, run_underlying hu, Result.andThen_ok, Sem.run_pure, Option.isSome_none, Bool.false_eq_true, if_false]
    have e1 := h1 w
    have e2 := g1 w
    cases hi <;> cases lo <;> simp only [Option.map_none, Option.map_some, Sem.run_pure] at e1 e2 ⊢ <;> simp_all
  · exact h.elim
theorem y_sliceSl {t e : TypeId} {i : TypeInfo} (hu : P.underlying t = some (.slice e)) (hi : P.info? e = some i) {x : Value} {lo hi : Option Operand} (h : xpure (.sliceSl i.size (.const x) lo hi) l K) :
    Yld P (Instr.slice t x (lo.map (ev l)) (hi.map (ev l)) none) K := by
  simp only [xpure, ev] at h
  split at h
  · rename_i a len cap
    obtain ⟨n, h1, h2, h3, h4⟩ := bnd_ok (P := P) .sliceAcap h
    cases lo with
    | none =>
      simp only at h4
      refine ⟨_, fun w => ?_, h4⟩
      have e1 := h1 w
      have hadd : ∀ ad : Addr, ad.add 0 = ad := fun ad => rfl
      cases hi <;> simp only [Option.map_none, Option.map_some, Sem.run_pure] at e1 ⊢ <;>
        simp_all [Instr.slice, Instr.sliceBounds, run_underlying hu, size_spec hi] <;> cases a <;> simp_all
    | some lo =>
      simp only at h4
      obtain ⟨m, g1, g2, g3, g4⟩ := bnd_ok (P := P) .sliceB h4
      have hrun : ∀ w, (Instr.slice t (.slice a len cap) ((some lo).map (ev l)) (hi.map (ev l)) none).run P w = .ok (.slice (if cap = m then a else a.map (·.add (m * i.size))) (n - m) (cap - m)) w := by
        intro w
        have e1 := h1 w
        have e2 := g1 w
        cases hi <;> simp only [Option.map_none, Option.map_some, Sem.run_pure] at e1 e2 ⊢ <;>
          simp_all [Instr.slice, Instr.sliceBounds, run_underlying hu, size_spec hi]
      obtain ⟨b1, b2⟩ := g4
      by_cases hc : cap = m
      · refine ⟨_, hrun, ?_⟩
        rw [if_pos hc]; exact b1 (by simpa using hc)
      · have b2 := b2 (by simpa using hc)
        refine ⟨_, hrun, ?_⟩
        rw [if_neg hc]
        split at b2
        · simpa [addr_add] using b2
        · exact b2.elim
        · exact b2
  · exact h.elim
end
end Go.Proofs.YtkajoepgebfjoaaDoor.Sx


/- Sx, part F: an operation does what 'xop' says. -/
set_option linter.unusedVariables false
set_option linter.unusedSimpArgs false
namespace Go.Proofs.YtkajoepgebfjoaaDoor.Sx
open Go.RowKit
section
variable {P : Program} {l : List Value} {K : Value → Prop}
theorem Yld.val {v : Value} (h : K v) : Yld P (pure v) K := ⟨v, fun _ => rfl, h⟩
theorem ev_map (o : Option Operand) : o.map (act l).eval = o.map (ev l) := by cases o <;> simp [ev_eq]

theorem cOp_pure_call {o : Oper} {c : Call} {p : PX} (hc : cCall P o c = .pure p) (ho : o.op = .call c) (h : xpure p l K) : Yields1 P (execOp (act l).eval o) K := by
  obtain ⟨callee, args, argTypes⟩ := c
  unfold cCall at hc
  split at hc
  · split at hc <;> cases hc
  · cases hc
  · rename_i hcal
    simp only at hcal
    subst hcal
    split at hc
    · rename_i x t hargs ht
      simp only at hargs ht
      have ha : args = #[x] := by apply Array.ext'; simpa using hargs
      subst ha
      have hrun : ∀ (v : Value) (w : World), (Builtin.len_ argTypes o.type #[ev l x]).run P w = .ok v w → (execOp (act l).eval o).run P w = .ok (.value v) w := by
        intro v w hv
        simp only [execOp, ho, resolve, Sem.run_bind, Sem.run_pure, Result.andThen_ok, invoke, builtin, map_ev, List.map_cons, List.map_nil]
        rw [hv]; rfl
      split at hc
      · rename_i hu
        injection hc with hc; subst hc
        simp only [xpure] at h
        split at h
        · rename_i s hx
          refine ⟨_, fun w => hrun _ w ?_, h⟩
          simp [Builtin.len_, ht, hx, run_underlying hu, goInt]
        · exact h.elim
      · rename_i hu
        injection hc with hc; subst hc
        simp only [xpure] at h
        split at h
        · rename_i s hx
          refine ⟨_, fun w => hrun _ w ?_, h⟩
          simp [Builtin.len_, ht, hx, run_underlying hu, goInt]
        · exact h.elim
      · rename_i hu
        injection hc with hc; subst hc
        refine ⟨_, fun w => hrun _ w ?_, h⟩
        simp [Builtin.len_, ht, run_underlying hu, goInt]
      · cases hc
    · cases hc
  · cases hc

theorem xpure_ok {o : Oper} {p : PX} (hc : cOp P o = .pure p) (h : xpure p l K) : Yields1 P (execOp (act l).eval o) K := by
  obtain ⟨dst, op, type, pos, after, guard⟩ := o
  cases op
  case move x =>
    simp only [cOp] at hc; injection hc with hc; subst hc
    exact ⟨_, fun w => by simp only [execOp, ev_eq]; rfl, forceV_ok h⟩
  case assign x =>
    simp only [cOp] at hc; injection hc with hc; subst hc
    exact ⟨_, fun w => by simp only [execOp, ev_eq]; rfl, forceV_ok h⟩
  case pick c a b =>
    simp only [cOp] at hc; injection hc with hc; subst hc
    simp only [xpure] at h
    split at h
    · rename_i t ht
      obtain ⟨h1, h2⟩ := h
      cases t
      · exact ⟨_, fun w => by simp only [execOp, ev_eq, ht, asBool]; rfl, forceV_ok (h2 rfl)⟩
      · exact ⟨_, fun w => by simp only [execOp, ev_eq, ht, asBool]; rfl, forceV_ok (h1 rfl)⟩
    · exact h.elim
  case build t parts =>
    simp only [cOp] at hc
    have goal : ∀ {z : Value} {ps}, zeroOf P t = some z → ∀ (place : Nat → Option (Nat × Nat)), partsAt place parts.toList = some ps → ((∃ fs : Array Field, ∃ pl, P.underlying t = some (.struct fs) ∧ placesOf P fs.toList = some pl ∧ place = (pl[·]?)) ∨ (∃ n e i, P.underlying t = some (.array n e) ∧ P.info? e = some i ∧ place = fun j => some (j * i.size, i.size))) →
        p = .build z.cells.toList ps → Yields1 P (execOp (act l).eval ⟨dst, .build t parts, type, pos, after, guard⟩) K := by
      intro z ps hz place hp hu e
      subst e
      have := (y_build (P := P) (l := l) (K := K) (t := t) hz place hp hu h).up
      simpa only [execOp, ev_eq] using this
    split at hc
    · rename_i z fs hz hu
      split at hc
      · rename_i pl hpl
        split at hc
        · rename_i ps hps
          injection hc with hc
          exact goal hz _ hps (.inl ⟨fs, pl, hu, hpl, rfl⟩) hc.symm
        · cases hc
      · cases hc
    · rename_i z n e hz hu
      split at hc
      · rename_i i hi
        split at hc
        · rename_i ps hps
          injection hc with hc
          exact goal hz _ hps (.inr ⟨n, e, i, hu, hi, rfl⟩) hc.symm
        · cases hc
      · cases hc
    · cases hc
  case nilCheck x =>
    simp only [cOp] at hc; injection hc with hc; subst hc
    simp only [xpure] at h
    split at h
    · rename_i a hx; exact ⟨_, fun w => by simp only [execOp, ev_eq, hx]; rfl, h⟩
    · rename_i f a b hx; exact ⟨_, fun w => by simp only [execOp, ev_eq, hx]; rfl, h⟩
    · rename_i t v hx; exact ⟨_, fun w => by simp only [execOp, ev_eq, hx]; rfl, h⟩
    · exact h.elim
  case binOp op t x y yt =>
    simp only [cOp] at hc
    have := (cBin_ok hc h).up
    simpa only [execOp, ev_eq] using this
  case unOp op t x =>
    simp only [cOp] at hc
    split at hc
    · injection hc with hc; subst hc
      simp only [xpure] at h
      split at h
      · rename_i b hx; exact ⟨_, fun w => by simp only [execOp, ev_eq, hx, Op.unary]; rfl, h⟩
      · exact h.elim
    · injection hc with hc; subst hc
      simp only [xpure] at h
      split at h
      · rename_i k n hx
        obtain ⟨m, rfl, hK⟩ := h
        exact ⟨_, fun w => by simp only [execOp, ev_eq, hx, Op.unary, Op.intArith]; rfl, hK⟩
      · exact h.elim
    · injection hc with hc; subst hc
      simp only [xpure] at h
      split at h
      · rename_i k n hx
        obtain ⟨m, rfl, hK⟩ := h
        refine ⟨_, fun w => ?_, hK⟩
        simp only [execOp, ev_eq, hx, Op.unary, Op.intBits, bitXor, Sem.run_bind, Sem.run_pure, Result.andThen_ok]
        cases k.signed <;> rfl
      · exact h.elim
    · cases hc
  case convert s d x =>
    simp only [cOp] at hc
    split at hc
    · rename_i k k' hs hd
      injection hc with hc; subst hc
      simp only [xpure] at h
      split at h
      · rename_i k2 n hx
        obtain ⟨m, rfl, hK⟩ := h
        refine ⟨_, fun w => ?_, hK⟩
        simp only [execOp, ev_eq, hx, convert, Sem.run_bind, run_underlying hs, run_underlying hd, Result.andThen_ok, Conv.intToInt, Sem.run_pure]
      · exact h.elim
    · cases hc
  case makeInterface t x =>
    simp only [cOp] at hc
    split at hc
    · cases hc
    · rename_i d hne hu
      injection hc with hc; subst hc
      refine ⟨_, fun w => ?_, forceV_ok (K := fun v => K (.iface t v)) h⟩
      simp only [execOp, ev_eq, Instr.makeInterface, Sem.run_bind, run_underlying hu, Result.andThen_ok]
      cases d <;> first | rfl | exact absurd rfl (hne _)
    · cases hc
  case makeFunc fn a b =>
    simp only [cOp] at hc; injection hc with hc; subst hc
    have := evsK_ok l (evsK_ok l h)
    refine ⟨_, fun w => ?_, this⟩
    simp only [execOp, Instr.makeFunc, map_ev]; rfl
  case fieldAddr s x f =>
    simp only [cOp] at hc
    split at hc
    · rename_i fs hu
      split at hc
      · rename_i fl hf
        split at hc
        · rename_i i hi
          split at hc
          · rename_i hz
            injection hc with hc; subst hc
            have := (y_fieldAddr (P := P) hu hf hi hz h).up
            simpa only [execOp, ev_eq] using this
          · cases hc
        · cases hc
      · cases hc
    · cases hc
  case field s x f =>
    simp only [cOp] at hc
    split at hc
    · rename_i fs hu
      split at hc
      · rename_i fl hf
        split at hc
        · rename_i n ha
          injection hc with hc; subst hc
          have := (y_field (P := P) (x := ev l x) hu hf ha h).up
          simpa only [execOp, ev_eq] using this
        · rename_i n ha
          injection hc with hc; subst hc
          have := (y_field (P := P) (x := ev l x) hu hf ha h).up
          simpa only [execOp, ev_eq] using this
        · cases hc
      · cases hc
    · cases hc
  case indexAddr t x i =>
    simp only [cOp] at hc
    split at hc
    · rename_i n e hu
      split at hc
      · rename_i inf hi
        injection hc with hc; subst hc
        have := (y_idxArr (P := P) (x := ev l x) (ix := ev l i) hu hi h).up
        simpa only [execOp, ev_eq] using this
      · cases hc
    · rename_i e hu
      split at hc
      · rename_i inf hi
        injection hc with hc; subst hc
        have := (y_idxSl (P := P) (x := ev l x) (ix := ev l i) hu hi h).up
        simpa only [execOp, ev_eq] using this
      · cases hc
    · cases hc
  case index t x i =>
    simp only [cOp] at hc
    split at hc
    · rename_i n e hu
      split at hc
      · rename_i b s ha
        injection hc with hc; subst hc
        have := (y_index (P := P) (x := ev l x) (ix := ev l i) (l := l) hu ha (by simpa only [xpure, ev] using h)).up
        simpa only [execOp, ev_eq] using this
      · cases hc
    · rename_i hu
      injection hc with hc; subst hc
      have := (y_idxStr (P := P) (x := ev l x) (ix := ev l i) hu h).up
      simpa only [execOp, ev_eq] using this
    · cases hc
  case extract x i =>
    simp only [cOp] at hc; injection hc with hc; subst hc
    simp only [xpure] at h
    split at h
    · rename_i vs hx
      obtain ⟨v, hv, hK⟩ := cellK_ok h
      refine ⟨v, fun w => ?_, hK⟩
      simp only [execOp, ev_eq, hx, Instr.extract, List.getElem?_toArray, hv]
      rfl
    · exact h.elim
  case slice t x lo hi mx =>
    cases mx with
    | some mx => simp [cOp] at hc
    | none =>
      simp only [cOp] at hc
      split at hc
      · rename_i hu
        injection hc with hc; subst hc
        have := (y_sliceStr (P := P) (x := ev l x) hu h).up
        obtain ⟨v, h1, h2⟩ := this
        refine ⟨v, fun w => ?_, h2⟩
        have h1 := h1 w
        simp only [execOp, ev_eq, ev_map, Option.map_none, Instr.sliceAt, Sem.run_bind, run_underlying hu, Result.andThen_ok] at h1 ⊢
        exact h1
      · rename_i e hu
        split at hc
        · rename_i inf hi'
          injection hc with hc; subst hc
          have := (y_sliceSl (P := P) (x := ev l x) hu hi' (by simpa only [xpure, ev] using h)).up
          obtain ⟨v, h1, h2⟩ := this
          refine ⟨v, fun w => ?_, h2⟩
          have h1 := h1 w
          simp only [execOp, ev_eq, ev_map, Option.map_none, Instr.sliceAt, Sem.run_bind, run_underlying hu, Result.andThen_ok] at h1 ⊢
          exact h1
        · cases hc
      · cases hc
  case typeAssert x xt t ok =>
    simp only [cOp] at hc
    split at hc
    · cases hc
    · rename_i d z hu hz hne
      injection hc with hc; subst hc
      simp only [xpure] at h
      have hrun : ∀ (w : World), (execOp (act l).eval ⟨dst, .typeAssert x xt t ok, type, pos, after, guard⟩).run P w = ((Instr.typeAssert (ev l x) xt t ok).run P w).andThen fun v w => .ok (.value v) w := fun w => by
        simp only [execOp, ev_eq]
        rw [Sem.run_bind]; rfl
      split at h
      · rename_i t' v hx
        split at h
        · rename_i hb
          have ht : t' = t := Nat.eq_of_beq_eq_true hb
          refine ⟨_, fun w => ?_, forceV_ok (K := fun v => K (.tuple ⟨[v, .bool true]⟩)) h⟩
          rw [hrun, hx]
          simp only [Instr.typeAssert, Sem.run_bind, run_underlying hz, Result.andThen_ok]
          cases d <;> first | (exact absurd rfl (hu _)) | (simp only [Sem.run_ite, if_pos ht]; rfl)
        · rename_i hb
          have ht : t' = t := Nat.eq_of_beq_eq_true hb
          refine ⟨_, fun w => ?_, forceV_ok h⟩
          rw [hrun, hx]
          simp only [Instr.typeAssert, Sem.run_bind, run_underlying hz, Result.andThen_ok]
          cases d <;> first | (exact absurd rfl (hu _)) | (simp only [Sem.run_ite, if_pos ht]; rfl)
        · rename_i hb
          have ht : t' ≠ t := Nat.ne_of_beq_eq_false hb
          refine ⟨_, fun w => ?_, h⟩
          rw [hrun, hx]
          simp only [Instr.typeAssert, Sem.run_bind, run_underlying hz, Result.andThen_ok]
          cases d <;> first | (exact absurd rfl (hu _)) | (simp [if_neg ht, zeroOf_spec hne])
        · exact h.elim
      · rename_i hx
        split at h
        · refine ⟨_, fun w => ?_, h⟩
          rw [hrun, hx]
          simp only [Instr.typeAssert, Sem.run_bind, run_underlying hz, Result.andThen_ok]
          cases d <;> first | (exact absurd rfl (hu _)) | (simp [zeroOf_spec hne])
        · exact h.elim
      · exact h.elim
    · cases hc
  case call c =>
    simp only [cOp] at hc
    exact cOp_pure_call hc rfl h
  all_goals (simp only [cOp] at hc; (repeat' (split at hc)) <;> cases hc)
end
end Go.Proofs.YtkajoepgebfjoaaDoor.Sx


/- Sx, part G: an operation does what 'xop' says, memory and calls as well. -/
set_option linter.unusedVariables false
set_option linter.unusedSectionVars false
set_option linter.unusedSimpArgs false
namespace Go.Proofs.YtkajoepgebfjoaaDoor.Sx
open Go.RowKit
section
variable [Dies] {P : Program} {l : List Value} {H : Heap} {K : Value → Heap → Prop} {w : World}
theorem OpOk.val {r : Result Next} {v : Value} {w' : World} {H' : Heap} (hr : r = .ok (.value v) w') (h : Holds w' H') (hs : Step w H w' H') (hK : K v H') : OpOk P r w H K :=
  .inl ⟨v, w', H', .inl hr, h, hs, hK⟩

theorem cOp_raw {o o' : Oper} (h : cOp P o = .raw o') : o' = o := by
  obtain ⟨dst, op, type, pos, after, guard⟩ := o
  cases op <;> simp only [cOp, cBin, cCall, eqAggOf] at h <;> (repeat' (split at h)) <;> first | (cases h; rfl) | cases h

theorem run_storeCells_fz (P : Program) (g o : Nat) (t : TypeId) (fz : Nat × Nat) : ∀ (vs : List Value) (i : Nat) (cur : Array Value) (w : World), w.heap[g]? = some (.cells cur t fz) → o + i + vs.length ≤ cur.size → (fz = (0, 0) ∨ o + i + vs.length ≤ fz.1) → (∀ v ∈ vs, v.oneCell' = true) →
    (storeCells ⟨g, o, none⟩ vs i).run P w = .ok () (w.setRow g (cur.toList.take (o + i) ++ vs ++ cur.toList.drop (o + i + vs.length)).toArray)
  | [], i, cur, w, hg, _, _, _ => by
    simp only [storeCells, List.append_nil, List.length_nil, Nat.add_zero, List.take_append_drop, Array.toArray_toList]
    rw [setRow_self w g cur t fz hg]
    rfl
  | v :: rest, i, cur, w, hg, hl, hz, h1 => by
    have hi : o + i < cur.size := by simp at hl; omega
    have hadd : (⟨g, o, none⟩ : Addr).add i = ⟨g, o + i, none⟩ := addr_add g o i
    have hcell : w.cell? ⟨g, o + i, none⟩ = some cur[o + i] := by simp [World.cell?, hg, hi]
    have hfro : w.frozen? ⟨g, o + i, none⟩ = false := by
      simp only [World.frozen?, hg]
      rcases hz with rfl | hz
      · simp
      · have : ¬ fz.1 ≤ o + i := by simp at hz; omega
        simp [this]
    have hst : (store ((⟨g, o, none⟩ : Addr).add i) v).run P w = .ok () (w.setRow g (cur.setIfInBounds (o + i) v)) := by
      rw [hadd, run_store P w _ v _ (h1 v (by simp)), hcell]
      simp [hfro, setCell_eq_setRow w g (o + i) cur t fz v hg]
    have ih := run_storeCells_fz P g o t fz rest (i + 1) (cur.setIfInBounds (o + i) v) (w.setRow g (cur.setIfInBounds (o + i) v)) (setRow_heap w g cur _ t _ hg) (by simp at hl ⊢; omega) (by rcases hz with hz | hz; exact .inl hz; right; simp at hz; omega) (fun x hx => h1 x (by simp [hx]))
    simp only [storeCells, Sem.run_bind, hst, Result.andThen_ok, ih, setRow_setRow]
    congr 3
    have e := list_seg_step cur.toList (o + i) v rest (by simp at hl ⊢; omega)
    simpa [Array.toList_setIfInBounds, Nat.add_assoc] using e

theorem putOk_excl {b b' : Blk} {o : Nat} {vs : List Value} (h : PutOk b o vs b') : b.excl = true ∧ b'.excl = true := by
  cases b with
  | row t cs fz => obtain ⟨_, _, rfl⟩ := h; exact ⟨rfl, rfl⟩
  | buf t cs n => obtain ⟨_, rfl⟩ := h; exact ⟨rfl, rfl⟩
  | obj o => exact h.elim
  | ro f => exact h.elim
/-- A store into a block that is known. -/
theorem store_ok {A B : Heap} {r o : Nat} {b b' : Blk} {vs : List Value} (hw : Holds w (A ++ (r, b) :: B)) (hp : PutOk b o vs b') (h1 : ∀ v ∈ vs, v.oneCell' = true) :
    ∃ w', (storeCells ⟨r, o, none⟩ vs).run P w = .ok () w' ∧ Holds w' (A ++ (r, b') :: B) ∧ Step w (A ++ (r, b) :: B) w' (A ++ (r, b') :: B) := by
  have hm := hw.mid
  obtain ⟨e1, e2⟩ := putOk_excl hp
  cases b with
  | row t cs fz =>
    obtain ⟨hl, hz, rfl⟩ := hp
    have hm' : w.heap[r]? = some (.cells cs.toArray t fz) := hm
    have := run_storeCells_fz P r o t fz vs 0 cs.toArray w hm' (by simpa using hl) (by simpa using hz) h1
    refine ⟨_, this, ?_⟩
    simpa using hw.setRow (cs' := cs.take o ++ vs ++ cs.drop (o + vs.length))
  | buf t cs n =>
    obtain ⟨hl, rfl⟩ := hp
    obtain ⟨sl, hn, hm'⟩ := hm
    have := run_storeCells_fz P r o t (0, 0) vs 0 (cs ++ sl).toArray w hm' (by simp; omega) (.inl rfl) h1
    refine ⟨_, this, ?_⟩
    have e : (cs ++ sl).take o ++ vs ++ (cs ++ sl).drop (o + vs.length) = (cs.take o ++ vs ++ cs.drop (o + vs.length)) ++ sl := by
      rw [List.take_append_of_le_length (by omega), List.drop_append_of_le_length (by omega)]
      simp [List.append_assoc]
    refine hw.put rfl rfl (by simp) rfl rfl rfl (fun k hk => setRow_other w r k _ hk) ?_
    refine ⟨sl, by simp; omega, ?_⟩
    have := setRow_heap w r (cs ++ sl).toArray ((cs ++ sl).take o ++ vs ++ (cs ++ sl).drop (o + vs.length)).toArray t (0, 0) hm'
    simpa [e] using this
  | obj o => exact hp.elim
  | ro f => exact hp.elim

/-- A cell that is known. -/
theorem cell_at {b : Blk} {r j : Nat} {v : Value} (hb : b.At w r) (h : b.cell j = some v) : w.cell? ⟨r, j, none⟩ = some v := by
  cases b with
  | row t cs fz =>
    have hb' : w.heap[r]? = some (.cells cs.toArray t fz) := hb
    have h' : cs[j]? = some v := h
    simp [World.cell?, hb', h']
  | buf t cs n =>
    obtain ⟨sl, _, hb'⟩ := hb
    have h' : cs[j]? = some v := h
    have hj : j < cs.length := (List.getElem?_eq_some_iff.1 h').1
    simp [World.cell?, hb', List.getElem?_append_left hj, h']
  | obj o => cases h
  | ro f => exact hb.2 j v h
theorem load_ok {agg : Bool} {n : Nat} {v : Value} {K : Value → Prop} {t : TypeId} (ha : aggOf P t = some (agg, n)) (h : loadK agg n v H K) : ∃ u, (∀ w, (∀ p ∈ H, p.2.At w p.1) → (Instr.loadAt t v).run P w = .ok u w) ∧ K u := by
  unfold loadK at h
  split at h
  · rename_i r o
    obtain ⟨A, b, B, rfl, h⟩ := h
    obtain ⟨h1, h2⟩ := aggOf_spec ha
    cases agg with
    | true =>
      obtain ⟨vs, hl, hc, hK⟩ := h
      refine ⟨_, fun w hw => ?_, hK⟩
      have := run_loadCells_list (P := P) w ⟨r, o, none⟩ vs (fun j v hj => by rw [addr_add]; exact cell_at (hw (r, b) (mem_mid.2 (.inl rfl))) (hc j v hj))
      rw [hl] at this
      simp only [Instr.loadAt, Instr.sureAddr, Sem.run_bind, Sem.run_pure, Result.andThen_ok, loadVar, h1, if_true, h2, this]
    | false =>
      obtain ⟨u, hc, hK⟩ := h
      refine ⟨u, fun w hw => ?_, hK⟩
      have := cell_at (hw (r, b) (mem_mid.2 (.inl rfl))) hc
      simp only [Instr.loadAt, Instr.sureAddr, Sem.run_bind, Sem.run_pure, Result.andThen_ok, loadVar, h1, Bool.false_eq_true, if_false, run_load, this]
  · exact h.elim

theorem plain_frozen {a : Addr} (hw : Holds w H) (h : plainAt H a.block) : (∀ i s, w.frozen? ⟨a.block, i, s⟩ = false) ∧ (w.shape? a.block).isSome = true := by
  obtain ⟨b, hb, hp⟩ := h
  have := hw.at_ _ hb
  cases b with
  | row t cs fz =>
    simp only at hp
    subst hp
    have hb' : w.heap[a.block]? = some (.cells cs.toArray t (0, 0)) := this
    exact ⟨fun i s => by simp [World.frozen?, hb'], by simp [World.shape?, hb']⟩
  | buf t cs n =>
    obtain ⟨sl, _, hb'⟩ := this
    exact ⟨fun i s => by simp [World.frozen?, hb'], by simp [World.shape?, hb']⟩
  | obj o => exact hp.elim
  | ro f => exact hp.elim
theorem peq_ok {a b : Addr} {K : Bool → Prop} (h : PEq H a b K) : ∃ r, (∀ w, Holds w H → (sameAddr a b).run P w = .ok r w) ∧ K r := by
  rcases h with ⟨h1, h2⟩ | ⟨h1, h2, h3, h4⟩
  · refine ⟨_, fun w hw => ?_, h2⟩
    unfold sameAddr
    simp only [Sem.run_ite, beq_iff_eq, h1, if_true, Sem.run_pure]
    congr 1
  · refine ⟨_, fun w hw => ?_, h4⟩
    obtain ⟨fa, sa⟩ := plain_frozen hw h2
    obtain ⟨fb, sb⟩ := plain_frozen hw h3
    obtain ⟨x, hx⟩ := Option.isSome_iff_exists.1 sa
    obtain ⟨y, hy⟩ := Option.isSome_iff_exists.1 sb
    have fa' : w.frozen? a = false := fa _ _
    have fb' : w.frozen? b = false := fb _ _
    have fa2 : ∀ n, w.frozen? ⟨a.block, n, none⟩ = false := fun n => fa n none
    have fb2 : ∀ n, w.frozen? ⟨b.block, n, none⟩ = false := fun n => fb n none
    obtain ⟨x1, x2⟩ := x
    obtain ⟨y1, y2⟩ := y
    unfold sameAddr
    simp only [Sem.run_ite, beq_iff_eq, h1, if_false, Sem.run_bind, run_frozen, fa', fb', Result.andThen_ok, Bool.and_false, Bool.false_eq_true, noView, viewAt, run_shape, hx, hy, Option.isSome_some, if_true, Sem.run_pure, Option.isSome_none, mayBeOne, stringish, fa2, fb2, Bool.false_and, Bool.and_self, Bool.or_self]
theorem eqIn_ptrs {t e : TypeId} {i : TypeInfo} {a b : Addr} {r : Bool} (hu : P.underlying t = some (.pointer e)) (hi : P.info? e = some i) (hne : i.size ≠ 0) (d : Nat) (hr : (sameAddr a b).run P w = .ok r w) :
    (Op.equalIn (d + 1) t (.pointer (some a)) (.pointer (some b))).run P w = .ok r w := by
  simp only [Op.equalIn, Sem.run_bind, run_underlying hu, Result.andThen_ok, size_spec hi, Sem.run_ite, if_pos hne, hr]
theorem cBin_eqPtr {o : Oper} {op : BinOp} {t : TypeId} {x y a b : Operand} {neg : Bool} (hc : cBin P o op t x y = .eqPtr neg a b) : a = x ∧ b = y ∧ op = eqOp neg ∧ ∃ e i, P.underlying t = some (.pointer e) ∧ P.info? e = some i ∧ i.size ≠ 0 := by
  unfold cBin at hc
  split at hc
  · cases hc
  · cases hc
  · split at hc <;> cases hc
  · split at hc <;> cases hc
  · rename_i e hu
    split at hc
    · rename_i i hi
      split at hc
      · cases hc
      · rename_i hz _
        injection hc with h1 h2 h3
        subst h1; subst h2; subst h3
        exact ⟨rfl, rfl, rfl, e, i, hu, hi, Nat.ne_of_beq_eq_false hz⟩
      · cases hc
    · rename_i i hi
      split at hc
      · cases hc
      · rename_i hz _
        injection hc with h1 h2 h3
        subst h1; subst h2; subst h3
        exact ⟨rfl, rfl, rfl, e, i, hu, hi, Nat.ne_of_beq_eq_false hz⟩
      · cases hc
    · cases hc
  all_goals (try simp only [eqAggOf] at hc) <;> (repeat' (split at hc)) <;> cases hc

theorem run_value {s : Sem Value} {v : Value} {w w' : World} (h : s.run P w = .ok v w') : (do pure (Next.value (← s)) : Sem Next).run P w = .ok (.value v) w' := by simp [h]
theorem call_ok {f : FuncId} {args : List Value} {K : Value → Heap → Prop} {r : Result Next} (hr : r = (callFunc f args.toArray).run P w) (h : SCalls P f args H K) (hw : Holds w H) : OpOk P r w H K :=
  .inr (.inl ⟨f, args.toArray, by rw [hr, h.enter], h.run w hw⟩)
theorem cCall_call {o : Oper} {c : Call} {f : FuncId} {args : List Operand} (hc : cCall P o c = .call f args) : c.callee = .value (.func f) ∧ args = c.args.toList := by
  obtain ⟨callee, as, ts⟩ := c
  unfold cCall at hc
  split at hc
  · rename_i g hg
    split at hc
    · cases hc
    · injection hc with h1 h2
      exact ⟨by rw [hg, h1], h2.symm⟩
  · cases hc
  · (repeat' (split at hc)) <;> cases hc
  · cases hc
theorem cCall_callV {o : Oper} {c : Call} {x : Operand} {args : List Operand} (hc : cCall P o c = .callV x args) : c.callee = .value x ∧ args = c.args.toList := by
  obtain ⟨callee, as, ts⟩ := c
  unfold cCall at hc
  split at hc
  · split at hc <;> cases hc
  · rename_i g _ hg
    injection hc with h1 h2
    exact ⟨by rw [hg, h1], h2.symm⟩
  · (repeat' (split at hc)) <;> cases hc
  · cases hc
theorem zerosOf_spec (z : Array Value) (n : Nat) (hz : n ≠ 0 → z.size ≠ 0) : (Array.range n).map (z[· % z.size]!) = (zerosOf z.toList n).toArray := by
  apply Array.ext'
  simp only [Array.toList_map, Array.toList_range, zerosOf]
  apply List.map_congr_left
  intro j hj
  have hn : n ≠ 0 := by rintro rfl; simp at hj
  have hlt : j % z.size < z.size := Nat.mod_lt _ (Nat.pos_of_ne_zero (hz hn))
  simp [getElem!_def, hlt, List.getD]

theorem xop_ok {o : Oper} {x : XOp} (hc : cOp P o = x) (h : xop P x l H K) (hw : Holds w H) : OpOk P ((execOp (act l).eval o).run P w) w H K := by
  cases x with
  | pure p =>
    obtain ⟨v, h1, h2⟩ := xpure_ok hc h
    exact .val (h1 w) hw (Step.refl _ _) h2
  | raw o' =>
    have := cOp_raw hc
    subst this
    have h' := evsK_ok l h
    exact h'.run (act l).eval w (by exact List.map_congr_left fun x _ => ev_eq l x) hw
  | alloc t zero =>
    obtain ⟨dst, op, type, pos, after, guard⟩ := o
    cases op <;> simp only [cOp, cBin, cCall, eqAggOf] at hc
    case alloc e =>
      split at hc
      · rename_i z hz
        injection hc with h1 h2
        subst h1; subst h2
        obtain ⟨h⟩ := h
        obtain ⟨h3, h4⟩ := hw.alloc (.cells z.cells e) (.row e z.cells.toList (0, 0)) (by show (w.heap.push _)[w.heap.size]? = _; simp)
        refine .val (run_value ?_) h3 h4 (h _)
        simp only [Instr.alloc, Sem.run_bind, zeroOf_spec hz, Result.andThen_ok, newVar, newRow, run_newObj, Sem.run_pure]
        rfl
      · cases hc
    all_goals ((repeat' (split at hc)) <;> cases hc)
  | box t x =>
    obtain ⟨dst, op, type, pos, after, guard⟩ := o
    cases op <;> simp only [cOp, cBin, cCall, eqAggOf] at hc
    case box e y =>
      injection hc with h1 h2
      subst h1; subst h2
      obtain ⟨h⟩ := cellsK_ok h
      obtain ⟨h3, h4⟩ := hw.alloc (.cells (ev l y).cells e) (.row e (ev l y).cells.toList (0, 0)) (by show (w.heap.push _)[w.heap.size]? = _; simp)
      refine .val (run_value ?_) h3 h4 (h _)
      simp only [Instr.box, ev_eq, newVar, newRow, Sem.run_bind, run_newObj, Result.andThen_ok, Sem.run_pure]
      rfl
    all_goals ((repeat' (split at hc)) <;> cases hc)
  | load agg n x =>
    obtain ⟨dst, op, type, pos, after, guard⟩ := o
    cases op <;> simp only [cOp, cBin, cCall, eqAggOf] at hc
    case load t y =>
      split at hc
      · rename_i b m ha
        injection hc with h1 h2 h3
        subst h1; subst h2; subst h3
        obtain ⟨u, h1, h2⟩ := load_ok (H := H) (K := fun u => K u H) ha h
        refine .val (run_value ?_) hw (Step.refl _ _) h2
        simp only [ev_eq, h1 w hw.at_]
      · cases hc
    all_goals ((repeat' (split at hc)) <;> cases hc)
  | store n x v =>
    obtain ⟨dst, op, type, pos, after, guard⟩ := o
    cases op <;> simp only [cOp, cBin, cCall, eqAggOf] at hc
    case store t y u =>
      split at hc
      · rename_i b m ha
        injection hc with h1 h2 h3
        subst h1; subst h2; subst h3
        simp only [xop] at h
        split at h
        · rename_i r off hx
          have h := cellsK_ok h
          split at h
          · rename_i hb
            simp only [Bool.and_eq_true] at hb
            have hn : (ev l u).cells.toList.length = m := Nat.eq_of_beq_eq_true hb.1
            obtain ⟨A, b, B, rfl, b', hp, hK⟩ := h
            have hK := appK_ok hK
            obtain ⟨w', hr, h3, h4⟩ := store_ok (P := P) hw hp (allOne_ok hb.2)
            obtain ⟨_, hs⟩ := aggOf_spec ha
            refine .inl ⟨undef, w', _, .inr ⟨?_, rfl⟩, h3, h4, hK⟩
            have hn' : (ev l u).cells.size = m := by simpa using hn
            simp only [execOp, ev_eq, hx, Instr.storeAt, Instr.sureAddr, Sem.run_bind, Sem.run_pure, Result.andThen_ok, storeVar, hs, Sem.run_ite]
            rw [if_neg (by simp [hn'])]
            simp only [hr, Result.andThen_ok]
          · exact h.elim
        · exact h.elim
      · cases hc
    all_goals ((repeat' (split at hc)) <;> cases hc)
  | buildSlice t len zeros parts =>
    obtain ⟨dst, op, type, pos, after, guard⟩ := o
    cases op <;> simp only [cOp, cBin, cCall, eqAggOf] at hc
    case buildSlice t' len' parts' =>
      split at hc
      · rename_i e hu
        split at hc
        · rename_i i z hi hz
          split at hc
          · rename_i ps hps hle hsz
            injection hc with h1 h2 h3 h4
            subst h1; subst h2; subst h3; subst h4
            have hsz : i.size = z.cells.size := Nat.eq_of_beq_eq_true hsz
            have hle : len' * i.size ≤ 16777216 := Nat.le_of_ble_eq_true hle
            obtain ⟨cs', h1, h⟩ := fill_ok (l := l) _ _ _ _ _ hps h
            obtain ⟨h⟩ := h
            obtain ⟨h3, h4⟩ := hw.alloc (.cells cs'.toArray e) (.row e cs' (0, 0)) (by show (w.heap.push _)[w.heap.size]? = _; simp)
            refine .val (run_value ?_) h3 h4 (h _)
            have hzz : ∀ zz : Array Value, (len' * i.size ≠ 0 → zz = z.cells) → (Array.range (len' * i.size)).map (zz[· % zz.size]!) = (zerosOf z.cells.toList (len' * i.size)).toArray := by
              intro zz hzz
              by_cases hn : len' * i.size = 0
              · rw [hn]; simp [zerosOf]
              · rw [hzz hn]
                exact zerosOf_spec z.cells _ fun _ h0 => hn (by rw [hsz, h0]; simp)
            have hfill : Instr.fill (fun j => some (j * i.size, i.size)) ((zerosOf z.cells.toList (len' * i.size)).toArray) (List.map (fun p => (p.1, ev l p.2)) parts'.toList) = some cs'.toArray := h1
            simp only [Instr.buildSlice, Sem.run_bind, run_underlying hu, size_spec hi, Result.andThen_ok, Sem.run_ite]
            rw [if_neg (by simpa using hle)]
            by_cases hn : len' * i.size = 0
            · rw [if_pos hn]
              simp only [Sem.run_pure, Result.andThen_ok]
              rw [hzz #[] (fun h => absurd hn h)]
              simp only [Array.toList_map, ev_eq]
              rw [hfill]
              simp only [newRow, Sem.run_bind, run_newObj, Result.andThen_ok, Sem.run_pure]
              rfl
            · rw [if_neg hn]
              simp only [Sem.run_bind, zeroOf_spec hz, Sem.run_pure, Result.andThen_ok]
              rw [hzz z.cells (fun h => rfl)]
              simp only [Array.toList_map, ev_eq]
              rw [hfill]
              simp only [newRow, Sem.run_bind, run_newObj, Result.andThen_ok, Sem.run_pure]
              rfl
          · cases hc
        · cases hc
      · cases hc
    all_goals ((repeat' (split at hc)) <;> cases hc)
  | eqPtr neg a b =>
    obtain ⟨dst, op, type, pos, after, guard⟩ := o
    cases op <;> simp only [cOp, cCall] at hc
    case binOp op t x y yt =>
      obtain ⟨rfl, rfl, ho, e, i, hu, hi, hne⟩ := cBin_eqPtr hc
      have fin : ∀ (p q : Option Addr) (r : Bool), ev l a = .pointer p → ev l b = .pointer q → (Op.equalIn (9999 + 1) t (.pointer p) (.pointer q)).run P w = .ok r w → negK neg r (fun v => K v H) → OpOk P ((execOp (act l).eval ⟨dst, .binOp op t a b yt, type, pos, after, guard⟩).run P w) w H K := by
        intro p q r hp hq hr hK
        refine .val (run_value ?_) hw (Step.refl _ _) (negK_ok hK)
        rw [ev_eq, ev_eq, hp, hq]
        exact eqPtr_ok neg a b p q r w w hr op ho
      simp only [xop] at h
      split at h
      · rename_i p hx hy
        exact fin _ _ _ hx hy (eqIn_ptrnil w hu _ _) h
      · rename_i p hx hy
        exact fin _ _ _ hx hy (eqIn_ptrsome w hu _ _) (by cases neg <;> exact h)
      · rename_i p q hx hy
        obtain ⟨r, hr, hK⟩ := peq_ok (P := P) h
        exact fin _ _ _ hx hy (eqIn_ptrs hu hi hne _ (hr w hw)) hK
      · exact h.elim
    all_goals ((repeat' (split at hc)) <;> cases hc)
  | call f args =>
    obtain ⟨dst, op, type, pos, after, guard⟩ := o
    cases op <;> simp only [cOp, cBin, eqAggOf] at hc
    case call c =>
      obtain ⟨h1, rfl⟩ := cCall_call hc
      have h := evsK_ok l h
      refine call_ok ?_ h hw
      have e : (act l).eval (.func f) = .func (.func f) #[] #[] := rfl
      simp only [execOp, resolve, h1, e, Deferred.ofValue, Sem.run_bind, Sem.run_pure, Result.andThen_ok, invoke, map_ev, Array.empty_append, Array.append_empty]
    all_goals ((repeat' (split at hc)) <;> cases hc)
  | callV y args =>
    obtain ⟨dst, op, type, pos, after, guard⟩ := o
    cases op <;> simp only [cOp, cBin, eqAggOf] at hc
    case call c =>
      obtain ⟨h1, rfl⟩ := cCall_callV hc
      simp only [xop] at h
      split at h
      · rename_i f fs cs hf
        have h := appK_ok (appK_ok (evsK_ok l h))
        refine call_ok ?_ h hw
        simp only [execOp, resolve, h1, ev_eq, hf, Deferred.ofValue, Sem.run_bind, Sem.run_pure, Result.andThen_ok, invoke, map_ev]
        simp
      · exact h.elim
    all_goals ((repeat' (split at hc)) <;> cases hc)
end
end Go.Proofs.YtkajoepgebfjoaaDoor.Sx


/- Sx, part H: a function's text ('compile'), what is to be shown of it ('xc'), and that this is enough ('xc_ok', 'SCalls.enter'). -/
set_option linter.unusedVariables false
set_option linter.unusedSectionVars false
set_option linter.unusedSimpArgs false
namespace Go.Proofs.YtkajoepgebfjoaaDoor.Sx
open Go.RowKit

abbrev Post := Exit → List Value → Heap → Prop
/-- A frame's slots, and what is put off to its end. -/
abbrev actD (ds : List Deferred) (l : List Value) : Act := ⟨l.toArray, ds⟩
/-- What is known behind a piece of text. -/
def After (ds : List Deferred) (w : World) (H : Heap) (Q : Post) (e : Exit) (a : Act) (w' : World) : Prop := ∃ l' H', a = actD ds l' ∧ Holds w' H' ∧ Step w H w' H' ∧ Q e l' H'
/-- Text c, begun with slots l in whatever world that holds H, ends as Q tells. -/
def SWp (ds : List Deferred) (P : Program) (c : Code) (Q : Post) (l : List Value) (H : Heap) : Prop := ∀ w, Holds w H → c.wp P (After ds w H Q) (actD ds l) w

def cGuard (ops : Array Oper) : Option (Nat × Bool) → Option (Option (Nat × Bool))
  | none => some none
  | some (j, want) => match (ops[j]?).bind (·.dst) with
    | some g => some (some (g, want))
    | none => none
def cOper (P : Program) (ops : Array Oper) (o : Oper) : Option XO := match cGuard ops o.guard with
  | some g => some ⟨o.dst, g, cOp P o⟩
  | none => none
def cOpers (P : Program) (ops : Array Oper) : List Oper → Option (List XO)
  | [] => some []
  | o :: r => match cOper P ops o, cOpers P ops r with
    | some x, some xs => some (x :: xs)
    | _, _ => none
def directOf (o : Oper) : List Nat := (o.after.toList.filter (Region.binds .any)).map (·.on)
/-- Who waits for whom, also by way of others. -/
def beforeOf : List Oper → List (List Nat) → List (List Nat)
  | [], acc => acc
  | o :: r, acc => beforeOf r (acc ++ [((directOf o).flatMap fun j => j :: acc.getD j []).eraseDups])
/-- How many operations do not come behind all that stand ahead of them: from there on the order is fixed. -/
def floatN (ops : List Oper) : Nat :=
  let b := beforeOf ops []
  let n := ops.length
  (List.range n).foldr (fun j m => if m = j + 1 ∧ (List.range j).all (fun i => (b.getD j []).contains i) then j else m) n
def XOp.takes : XOp → Bool
  | .pure _ => true
  | .load .. => true
  | _ => false
def XOp.reads : XOp → Bool
  | .load .. => true
  | _ => false
def XOp.stores : XOp → Bool
  | .store .. => true
  | _ => false
/-- Of those whose order is open one stores: then no load counts as taken whenever. -/
def hasStore (xs : List XO) (m : Nat) : Bool := (xs.take m).any (·.op.stores)
def doneTo (m : Nat) (listed : Array Bool) : Bool := (List.range m).all (listed.getD · false)
/-- The first that may be taken: it only reads, and nobody else touches its slots. -/
def pickTake (ops : Array Oper) (xs : List XO) (st : Bool) (listed : Array Bool) : List Nat → Option (Nat × XO)
  | [] => none
  | i :: r => match xs[i]? with
    | some x => match x.op.takes && !(st && x.op.reads) && Region.free .any ops listed i with
      | true => some (i, x)
      | false => pickTake ops xs st listed r
    | none => pickTake ops xs st listed r
def scrOf (ops : Array Oper) (xs : List XO) (m : Nat) : Nat → Array Bool → Scr
  | 0, listed => match doneTo m listed with
    | true => .done
    | false => .bad
  | fuel + 1, listed => match doneTo m listed with
    | true => .done
    | false => match pickTake ops xs (hasStore xs m) listed (Region.ready .any ops listed) with
      | some (i, x) => .take x (scrOf ops xs m fuel (listed.setIfInBounds i true))
      | none => match Region.ready .any ops listed with
        | [] => .bad
        | j :: r => (j :: r).foldr (fun i rest => match xs[i]? with
          | some x => .alt x (scrOf ops xs m fuel (listed.setIfInBounds i true)) rest
          | none => rest) .off
def depsOk (ops : List Oper) : Bool := (List.range ops.length).all fun j => match ops[j]? with
  | some o => (directOf o).all (· < j)
  | none => true
def cDraw (P : Program) (ops : Array Oper) : Option (Scr × List XO) := match cOpers P ops ops.toList with
  | some xs => match Region.noSelect ops && depsOk ops.toList with
    | true => some (scrOf ops xs (floatN ops.toList) (floatN ops.toList) (Array.replicate ops.size false), xs.drop (floatN ops.toList))
    | false => none
  | none => none
def compile (P : Program) : Code → XCode
  | .skip => .skip
  | .region _ ops false => match cOpers P ops ops.toList with
    | some xs => .region xs
    | none => .bad
  | .region _ ops true => match cDraw P ops with
    | some (s, tail) => .draw s tail
    | none => .bad
  | .seq a b => .seq (compile P a) (compile P b)
  | .cond c x y => .cond c (compile P x) (compile P y)
  | .block id c => .block id (compile P c)
  | .loop c => .loop (compile P c)
  | .exit id => .exit id
  | .ret => .ret
  | .label _ => .skip
  | _ => .bad

/-- At the head of a round. -/
def LoopAt (P : Program) (c : Code) (Q : Exit → Act → World → Prop) (a : Act) (w : World) : Prop :=
  ∀ (b : Frame) (k : List Item) (cs : List Frame), ∃ e a' w', Q e a' w' ∧ Arrives P (lone (b.at a (.code c :: .inLoop c :: k)) cs w) b k cs e a' w'
theorem LoopAt.wp {P : Program} {c : Code} {Q : Exit → Act → World → Prop} {a : Act} {w : World} (h : LoopAt P c Q a w) : (Code.loop c).wp P Q a w :=
  fun b k cs => let ⟨e, a', w', hq, harr⟩ := h b k cs; ⟨e, a', w', hq, .of_steps (.one step_loop) harr⟩
theorem LoopAt.mono {P : Program} {c : Code} {Q Q' : Exit → Act → World → Prop} {a : Act} {w : World} (h : LoopAt P c Q a w) (hq : ∀ e a w, Q e a w → Q' e a w) : LoopAt P c Q' a w :=
  fun b k cs => let ⟨e, a', w', q, harr⟩ := h b k cs; ⟨e, a', w', hq _ _ _ q, harr⟩
theorem LoopAt.round {P : Program} {c : Code} {Q : Exit → Act → World → Prop} {a : Act} {w : World} (h : c.wp P (Exit.then (LoopAt P c Q) Q) a w) : LoopAt P c Q a w := by
  intro b k cs
  obtain ⟨e, a₁, w₁, hq, harr⟩ := h b (.inLoop c :: k) cs
  cases e with
  | normal =>
    obtain ⟨e₂, a₂, w₂, hq₂, harr₂⟩ := hq b k cs
    exact ⟨e₂, a₂, w₂, hq₂, .of_steps (Steps.trans harr (.one step_inLoop)) harr₂⟩
  | exit id => exact ⟨_, a₁, w₁, hq, .pass (x := .inLoop c) rfl (fun _ _ => .inl (by simp)) harr⟩
  | goto l => exact ⟨_, a₁, w₁, hq, .pass (x := .inLoop c) rfl (fun _ _ => .inl (by simp)) harr⟩
  | ret => exact ⟨_, a₁, w₁, hq, .pass (x := .inLoop c) rfl (fun _ _ => .inl (by simp)) harr⟩
  | panic ch => exact ⟨_, a₁, w₁, hq, .pass (x := .inLoop c) rfl (fun _ _ => .inl (by simp)) harr⟩
  | outgrown => exact ⟨_, a₁, w₁, hq, .pass (x := .inLoop c) rfl (fun _ _ => .inl (by simp)) harr⟩
/-- Whatever a piece of text gives up with goes on to what follows. -/
def QD [Dies] (Q : Post) : Prop := ∀ ch l H, Dies.D ch → Q (.panic ch) l H
/-- A loop, from here on. -/
structure SLoop [Dies] (P : Program) (x : XCode) (Q : Post) (l : List Value) (H : Heap) : Prop where
  run : QD Q → ∀ ds c, compile P c = x → ∀ w, Holds w H → LoopAt P c (After ds w H Q) (actD ds l) w
/-- Operations in whatever order. -/
structure SDraw [Dies] (P : Program) (s : Scr) (tail : List XO) (K : List Value → Heap → Prop) (l : List Value) (H : Heap) : Prop where
  run : ∀ (ds : List Deferred) (id : Nat) (ops : Array Oper) (Q : Post), cDraw P ops = some (s, tail) → (∀ l H, K l H → Q .normal l H) → QD Q → SWp ds P (.region id ops true) Q l H

/-- What follows a piece of text that came to its end; a block's end. -/
def thenQ (K : List Value → Heap → Prop) (Q : Post) : Post := fun e l H => match e with
  | .normal => K l H
  | e => Q e l H
def blockQ (id : Nat) (Q : Post) : Post := fun e l H => match e with
  | .exit i => match Nat.beq i id with
    | true => Q .normal l H
    | false => Q (.exit i) l H
  | e => Q e l H
def condK (v : Value) (K1 K2 : Prop) : Prop := match v with
  | .bool t => Branch t K1 K2
  | _ => False
def xc [Dies] (P : Program) (x : XCode) : Post → List Value → Heap → Prop :=
  XCode.rec (motive := fun _ => Post → List Value → Heap → Prop)
    (fun Q l H => Q .normal l H)
    (fun ops Q l H => xops P ops l H (Q .normal))
    (fun s tail Q l H => SDraw P s tail (Q .normal) l H)
    (fun _ _ iha ihb Q l H => iha (thenQ (ihb Q) Q) l H)
    (fun c _ _ iha ihb Q l H => condK (ev l c) (iha Q l H) (ihb Q l H))
    (fun id _ ih Q l H => ih (blockQ id Q) l H)
    (fun c _ Q l H => SLoop P c Q l H)
    (fun id Q l H => Q (.exit id) l H)
    (fun Q l H => Q .ret l H)
    (fun _ _ _ => False) x

section
variable [Dies] {ds : List Deferred} {P : Program} {l : List Value} {H : Heap} {w : World} {Q : Post}
theorem act_put (l : List Value) (d : Option Nat) (v : Value) : (actD ds l).put d v = actD ds (match d with | none => l | some d => l.set d v) := by
  cases d <;> simp [Act.put, actD]
theorem dstK_ok {d : Option Nat} {v : Value} {K : List Value → Prop} (h : dstK d l v K) : ∃ l', (actD ds l).put d v = actD ds l' ∧ K l' := by
  cases d with
  | none => exact ⟨l, rfl, h⟩
  | some d => exact ⟨_, act_put l (some d) v, setK_ok l d v K h⟩
theorem getL_yield {ops : Array Oper} {j g : Nat} (hg : (ops[j]?).bind (·.dst) = some g) : yielded ops l.toArray j = match getL l g with | .bool b => some b | _ => none := by
  unfold yielded
  rw [hg]
  have := getL_eq l g
  simp only [Option.bind_some, List.getElem?_toArray]
  cases hi : l[g]? with
  | none =>
    have : getL l g = undef := by rw [← this]; simp [hi]
    rw [this]
    rfl
  | some v =>
    have : getL l g = v := by rw [← this]; simp [hi]
    rw [this]
    cases v <;> rfl

/-- What follows an operation. -/
def Next1 (ds : List Deferred) (w : World) (H : Heap) (K : List Value → Heap → Prop) (a : Act) (w' : World) : Prop := ∃ l' H', a = actD ds l' ∧ Holds w' H' ∧ Step w H w' H' ∧ K l' H'
/-- What is given up with goes on, from (w, H) on. -/
def DeadOk (ds : List Deferred) (w : World) (H : Heap) (Qx : Exit → Act → World → Prop) : Prop := ∀ ch l' H' w', Dies.D ch → Holds w' H' → Step w H w' H' → Qx (.panic ch) (actD ds l') w'
theorem DeadOk.step {Qx : Exit → Act → World → Prop} {w1 : World} {H1 : Heap} (h : DeadOk ds w H Qx) (hs : Step w H w1 H1) : DeadOk ds w1 H1 Qx :=
  fun ch l' H' w' g1 g2 g3 => h ch l' H' w' g1 g2 (hs.trans g3)
theorem op_wp {o : Oper} {x : XOp} (hc : cOp P o = x) {K : List Value → Heap → Prop} (h : xop P x l H fun v H' => dstK o.dst l v fun l' => K l' H') (hw : Holds w H) (Qx : Exit → Act → World → Prop) (hd : DeadOk ds w H Qx) : o.wp P (actD ds l) w (Next1 ds w H K) Qx := by
  have : OpOk P ((execOp (actD ds l).eval o).run P w) w H _ := xop_ok hc h hw
  unfold Oper.wp
  rcases this with ⟨v, w', H', hr, h1, h2, hK⟩ | ⟨f, args, hr, hcall⟩ | ⟨v, hr, hv⟩
  · rcases hr with hr | ⟨hr, rfl⟩
    · obtain ⟨l', e, hK⟩ := dstK_ok hK
      rw [hr]; exact ⟨l', H', e, h1, h2, hK⟩
    · obtain ⟨l', e, hK⟩ := dstK_ok hK
      rw [hr]; exact ⟨l', H', e, h1, h2, hK⟩
  · rw [hr]
    refine hcall.mono fun e w' he => ?_
    rcases he with ⟨v, H', rfl, h1, h2, hK⟩ | ⟨ch, H', rfl, h1, h2, hK⟩
    · obtain ⟨l', e, hK⟩ := dstK_ok hK
      exact ⟨l', H', e, h1, h2, hK⟩
    · exact hd ch l H' w' hK h1 h2
  · rw [hr]
    exact hd _ l H w hv hw (Step.refl _ _)
theorem xo_ok {ops : Array Oper} {i : Nat} {o : Oper} {x : XO} (ho : ops[i]? = some o) (hx : cOper P ops o = some x) {K : List Value → Heap → Prop} (h : xo P x l H K) (hw : Holds w H) (Qx : Exit → Act → World → Prop) (hdead : DeadOk ds w H Qx) :
    wpOp P ops Qx i (Next1 ds w H K) (actD ds l) w := by
  unfold cOper at hx
  cases hg : cGuard ops o.guard with
  | none => rw [hg] at hx; cases hx
  | some g =>
    rw [hg] at hx
    injection hx with hx
    subst hx
    unfold wpOp
    simp only [ho]
    have skip : (dstK o.dst l undef fun l' => K l' H) → Next1 ds w H K ((actD ds l).put o.dst undef) w := fun h => by
      obtain ⟨l', e, hK⟩ := dstK_ok h
      exact ⟨l', H, e, hw, Step.refl _ _, hK⟩
    unfold xo at h
    cases hgo : o.guard with
    | none =>
      rw [hgo] at hg
      simp only [cGuard, Option.some.injEq] at hg
      subst hg
      have : Region.wanted o (yielded ops (actD ds l).tmps) = true := by simp [Region.wanted, hgo]
      rw [if_pos this]
      exact .inl (op_wp rfl h hw Qx hdead)
    | some jw =>
      obtain ⟨j, want⟩ := jw
      rw [hgo] at hg
      unfold cGuard at hg
      cases hd : (ops[j]?).bind (·.dst) with
      | none => simp [hd] at hg
      | some gs =>
        simp only [hd, Option.some.injEq] at hg
        subst hg
        have hy : yielded ops (actD ds l).tmps j = _ := getL_yield hd
        simp only at h
        split at h
        · rename_i b hb
          rw [hb] at hy
          have hwant : Region.wanted o (yielded ops (actD ds l).tmps) = (b == want) := by
            simp only [Region.wanted, hgo, hy]
            cases b <;> cases want <;> rfl
          rw [hwant]
          obtain ⟨h1, h2⟩ := h
          cases b <;> cases want <;> simp only [if_true, Bool.false_eq_true, if_false, beq_self_eq_true, reduceCtorEq, Bool.false_beq, Bool.true_beq, Bool.not_true, Bool.not_false]
          · exact .inl (op_wp rfl (h2 rfl) hw Qx hdead)
          · exact skip (h2 rfl)
          · exact skip (h1 rfl)
          · exact .inl (op_wp rfl (h1 rfl) hw Qx hdead)
        · rename_i hnb
          have hwant : Region.wanted o (yielded ops (actD ds l).tmps) = false := by
            simp only [Region.wanted, hgo, hy]
            cases hv : getL l gs <;> first | rfl | exact absurd hv (hnb _)
          rw [hwant]
          simp only [Bool.false_eq_true, if_false]
          exact skip h
theorem cOpers_get {ops : Array Oper} : ∀ {os : List Oper} {xs : List XO}, cOpers P ops os = some xs → ∀ (i : Nat) (o : Oper), os[i]? = some o → ∃ x, xs[i]? = some x ∧ cOper P ops o = some x
  | [], xs, h, i, o, hi => by simp at hi
  | o' :: r, xs, h, i, o, hi => by
    unfold cOpers at h
    split at h
    · rename_i x xs' hx hxs
      injection h with h
      subst h
      cases i with
      | zero => simp at hi; subst hi; exact ⟨x, rfl, hx⟩
      | succ i => simpa using cOpers_get hxs i o (by simpa using hi)
    · cases h
theorem cOpers_length {ops : Array Oper} : ∀ {os : List Oper} {xs : List XO}, cOpers P ops os = some xs → xs.length = os.length
  | [], xs, h => by simp [cOpers] at h; subst h; rfl
  | o' :: r, xs, h => by
    unfold cOpers at h
    split at h
    · rename_i x xs' hx hxs
      injection h with h
      subst h
      simp [cOpers_length hxs]
    · cases h
/-- Operations in the text's order, from number k on. -/
theorem xops_ok {ops : Array Oper} {w0 : World} {H0 : Heap} {K : List Value → Heap → Prop} {Qx : Exit → Act → World → Prop} (hq : ∀ a w, Next1 ds w0 H0 K a w → Qx .normal a w) (hd : DeadOk ds w0 H0 Qx) :
    ∀ (xs : List XO) (k : Nat) (l : List Value) (H : Heap) (w : World), k + xs.length = ops.size → (∀ i x, xs[i]? = some x → ∃ o, ops[k + i]? = some o ∧ cOper P ops o = some x) →
      xops P xs l H K → Holds w H → Step w0 H0 w H → wpOps P ops Qx (List.range' k xs.length) (actD ds l) w
  | [], k, l, H, w, _, _, h, hw, hs => hq _ _ ⟨l, H, rfl, hw, hs, h⟩
  | x :: xs, k, l, H, w, hl, hx, h, hw, hs => by
    obtain ⟨o, ho, hox⟩ := hx 0 x rfl
    simp only [List.length_cons, List.range'_succ]
    rw [wpOps_cons]
    refine wpOp_mono ?_ (xo_ok (by simpa using ho) hox h hw Qx (hd.step hs))
    rintro a w' ⟨l', H', rfl, h1, h2, h3⟩
    refine xops_ok hq hd xs (k + 1) l' H' w' (by simp at hl; omega) ?_ h3 h1 (hs.trans h2)
    intro i x' hi
    have := hx (i + 1) x' (by simpa using hi)
    rwa [show k + (i + 1) = k + 1 + i by omega] at this
theorem xops_all {ops : Array Oper} {xs : List XO} (hx : cOpers P ops ops.toList = some xs) {K : List Value → Heap → Prop} {Qx : Exit → Act → World → Prop} (hq : ∀ a w', Next1 ds w H K a w' → Qx .normal a w') (hd : DeadOk ds w H Qx)
    (h : xops P xs l H K) (hw : Holds w H) : wpOps P ops Qx (List.range ops.size) (actD ds l) w := by
  have hl := cOpers_length hx
  have := xops_ok (P := P) (ops := ops) hq hd xs 0 l H w (by simp [hl]) (fun i x hi => by
    have hlt : i < ops.toList.length := by rw [← hl]; exact (List.getElem?_eq_some_iff.1 hi).1
    obtain ⟨x', h1, h2⟩ := cOpers_get hx i ops.toList[i] (List.getElem?_eq_getElem hlt)
    rw [hi] at h1
    injection h1 with h1
    subst h1
    refine ⟨_, ?_, h2⟩
    simp at hlt
    simp [hlt]) h hw (Step.refl _ _)
  rw [hl] at this
  simpa [List.range_eq_range'] using this
theorem After.mono {Q' : Post} {e : Exit} {a : Act} {w' : World} (h : After ds w H Q e a w') (hq : ∀ e l H, Q e l H → Q' e l H) : After ds w H Q' e a w' := by
  obtain ⟨l', H', h1, h2, h3, h4⟩ := h
  exact ⟨l', H', h1, h2, h3, hq _ _ _ h4⟩

theorem QD.dead {w : World} {H : Heap} {Q : Post} (h : QD Q) : DeadOk ds w H (After ds w H Q) := fun ch l' H' w' h1 h2 h3 => ⟨l', H', rfl, h2, h3, h ch l' H' h1⟩
theorem QD.then_ {K : List Value → Heap → Prop} {Q : Post} (h : QD Q) : QD (thenQ K Q) := fun ch l H g => h ch l H g
theorem QD.block {id : Nat} {Q : Post} (h : QD Q) : QD (blockQ id Q) := fun ch l H g => h ch l H g
theorem xc_ok : ∀ (c : Code) (Q : Post) (l : List Value) (H : Heap), QD Q → xc P (compile P c) Q l H → SWp ds P c Q l H
  | .skip, Q, l, H, hd, h, w, hw => wp_skip ⟨l, H, rfl, hw, Step.refl _ _, h⟩
  | .label n, Q, l, H, hd, h, w, hw => wp_label ⟨l, H, rfl, hw, Step.refl _ _, h⟩
  | .exit id, Q, l, H, hd, h, w, hw => wp_exit ⟨l, H, rfl, hw, Step.refl _ _, h⟩
  | .ret, Q, l, H, hd, h, w, hw => wp_ret ⟨l, H, rfl, hw, Step.refl _ _, h⟩
  | .goto _, Q, l, H, hd, h, w, hw => False.elim h
  | .scope _, Q, l, H, hd, h, w, hw => False.elim h
  | .rangeFunc .., Q, l, H, hd, h, w, hw => False.elim h
  | .refuse _, Q, l, H, hd, h, w, hw => False.elim h
  | .loop c, Q, l, H, hd, h, w, hw => by
    have h : SLoop P (compile P c) Q l H := h
    exact (h.run hd ds c rfl w hw).wp
  | .cond c x y, Q, l, H, hd, h, w, hw => by
    have h : condK (ev l c) (xc P (compile P x) Q l H) (xc P (compile P y) Q l H) := h
    unfold condK at h
    split at h
    · rename_i t ht
      obtain ⟨h1, h2⟩ := h
      refine wp_cond_split (t := t) (by show (act l).eval c = _; rw [ev_eq]; exact ht) (fun e => xc_ok x Q l H hd (h1 e) w hw) (fun e => xc_ok y Q l H hd (h2 e) w hw)
    · exact h.elim
  | .seq a b, Q, l, H, hd, h, w, hw => by
    have h : xc P (compile P a) (thenQ (xc P (compile P b) Q) Q) l H := h
    refine wp_seq (wp_mono (xc_ok a _ l H hd.then_ h w hw) ?_)
    rintro e a' w' ⟨l', H', rfl, h1, h2, h3⟩
    cases e with
    | normal =>
      refine wp_mono (xc_ok b Q l' H' hd h3 w' h1) ?_
      rintro e a2 w2 ⟨l2, H2, rfl, g1, g2, g3⟩
      exact ⟨l2, H2, rfl, g1, h2.trans g2, g3⟩
    | exit id => exact ⟨l', H', rfl, h1, h2, h3⟩
    | goto id => exact ⟨l', H', rfl, h1, h2, h3⟩
    | ret => exact ⟨l', H', rfl, h1, h2, h3⟩
    | panic id => exact ⟨l', H', rfl, h1, h2, h3⟩
    | outgrown => exact ⟨l', H', rfl, h1, h2, h3⟩
  | .block id c, Q, l, H, hd, h, w, hw => by
    have h : xc P (compile P c) (blockQ id Q) l H := h
    refine wp_block (wp_mono (xc_ok c _ l H hd.block h w hw) ?_)
    rintro e a' w' ⟨l', H', rfl, h1, h2, h3⟩
    cases e with
    | exit i =>
      simp only [Exit.inBlock]
      simp only [blockQ] at h3
      split at h3
      · rename_i hb
        rw [if_pos (Nat.eq_of_beq_eq_true hb)]
        exact ⟨l', H', rfl, h1, h2, h3⟩
      · rename_i hb
        rw [if_neg (Nat.ne_of_beq_eq_false hb)]
        exact ⟨l', H', rfl, h1, h2, h3⟩
    | normal => exact ⟨l', H', rfl, h1, h2, h3⟩
    | goto id => exact ⟨l', H', rfl, h1, h2, h3⟩
    | ret => exact ⟨l', H', rfl, h1, h2, h3⟩
    | panic id => exact ⟨l', H', rfl, h1, h2, h3⟩
    | outgrown => exact ⟨l', H', rfl, h1, h2, h3⟩
  | .region id ops false, Q, l, H, hd, h, w, hw => by
    simp only [compile] at h
    split at h
    · rename_i xs hxs
      exact wp_region (xops_all hxs (fun a w' h => h) hd.dead h hw)
    · exact h.elim
  | .region id ops true, Q, l, H, hd, h, w, hw => by
    simp only [compile] at h
    split at h
    · rename_i s tail hxs
      have h : SDraw P s tail (Q .normal) l H := h
      exact h.run ds id ops Q hxs (fun _ _ h => h) hd w hw
    · exact h.elim
end
end Go.Proofs.YtkajoepgebfjoaaDoor.Sx


/- Sx, part I: loops, calls, what is left behind. -/
set_option linter.unusedVariables false
set_option linter.unusedSectionVars false
set_option linter.unusedSimpArgs false
namespace Go.Proofs.YtkajoepgebfjoaaDoor.Sx
open Go.RowKit

/-- Part of what is known is kept. -/
inductive Keep (H : Heap) (K : Heap → Prop) : Prop
  | mk (H1 H' : Heap) : H.Perm H1 → H'.Sublist H1 → K H' → Keep H K
theorem Keep.sub {H : Heap} {K : Heap → Prop} (H' : Heap) (hs : H'.Sublist H) (h : K H') : Keep H K := ⟨H, H', .refl _, hs, h⟩
theorem Keep.all {H : Heap} {K : Heap → Prop} (h : K H) : Keep H K := ⟨H, H, .refl _, .refl _, h⟩
theorem Keep.perm {H : Heap} {K : Heap → Prop} (H' : Heap) (hp : H.Perm H') (h : K H') : Keep H K := ⟨H', H', hp, .refl _, h⟩
theorem Keep.ok {H : Heap} {K : Heap → Prop} {w0 w : World} {H0 : Heap} (h : Keep H K) (hw : Holds w H) (hs : Step w0 H0 w H) : ∃ H', Holds w H' ∧ Step w0 H0 w H' ∧ K H' := by
  obtain ⟨H1, H', hp, hsub, hK⟩ := h
  exact ⟨H', (hw.perm hp).sub hsub, (hs.permR hp).fewer (fun p hp => hsub.subset hp), hK⟩
theorem Keep.mono {H : Heap} {K K' : Heap → Prop} (h : Keep H K) (hk : ∀ H', K H' → K' H') : Keep H K' := by
  obtain ⟨H1, H', hp, hsub, hK⟩ := h
  exact ⟨H1, H', hp, hsub, hk _ hK⟩

section
variable [Dies] {P : Program} {ds : List Deferred} {x : XCode} {Q : Post} {l : List Value} {H : Heap}
theorem After.trans {w w1 w2 : World} {H1 : Heap} {e : Exit} {a : Act} (hs : Step w H w1 H1) (h : After ds w1 H1 Q e a w2) : After ds w H Q e a w2 := by
  obtain ⟨l', H', h1, h2, h3, h4⟩ := h
  exact ⟨l', H', h1, h2, hs.trans h3, h4⟩
theorem SLoop.keep (h : Keep H fun H' => SLoop P x Q l H') : SLoop P x Q l H := by
  refine ⟨fun hd ds c hc w hw => ?_⟩
  obtain ⟨H', h1, h2, h3⟩ := h.ok hw (Step.refl _ _)
  exact (h3.run hd ds c hc w h1).mono fun e a w' h => h.trans h2
theorem SLoop.round (h : xc P x (thenQ (SLoop P x Q) Q) l H) : SLoop P x Q l H := by
  refine ⟨fun hd ds c hc w hw => LoopAt.round ?_⟩
  subst hc
  refine wp_mono (xc_ok c _ l H hd.then_ h w hw) ?_
  rintro e a' w' ⟨l', H', rfl, h1, h2, h3⟩
  cases e with
  | normal => exact (h3.run hd ds c rfl w' h1).mono fun e a w2 h => h.trans h2
  | exit id => exact ⟨l', H', rfl, h1, h2, h3⟩
  | goto id => exact ⟨l', H', rfl, h1, h2, h3⟩
  | ret => exact ⟨l', H', rfl, h1, h2, h3⟩
  | panic id => exact ⟨l', H', rfl, h1, h2, h3⟩
  | outgrown => exact ⟨l', H', rfl, h1, h2, h3⟩
/- RESULTS -/
inductive RV where
  | tmp (t : Nat)
  | cell (a : Nat) (agg : Bool) (n : Nat)
def cRes (P : Program) : List ResultVar → Option (List RV)
  | [] => some []
  | .tmp t :: r => match cRes P r with
    | some l => some (.tmp t :: l)
    | none => none
  | .cell a t :: r => match aggOf P t, cRes P r with
    | some (b, n), some l => some (.cell a b n :: l)
    | _, _ => none
def resK (rs : List RV) : List Value → Heap → (List Value → Prop) → Prop :=
  List.rec (motive := fun _ => List Value → Heap → (List Value → Prop) → Prop) (fun _ _ K => K [])
    (fun r _ ih l H K => RV.casesOn (motive := fun _ => Prop) r (fun t => forceV (getL l t) fun v => ih l H fun vs => K (v :: vs)) fun a agg n => loadK agg n (getL l a) H fun v => ih l H fun vs => K (v :: vs)) rs
def oneK (vs : List Value) (K : Value → Prop) : Prop := match vs with
  | [v] => K v
  | vs => K (.tuple ⟨vs⟩)
/-- What is to be shown at a function's end. -/
def retQ [Dies] (rs : List RV) (K : Value → Heap → Prop) : Post := fun e l H => match e with
  | .normal => resK rs l H fun vs => oneK vs fun v => Keep H fun H' => K v H'
  | .ret => resK rs l H fun vs => oneK vs fun v => Keep H fun H' => K v H'
  | .panic ch => Dies.D ch
  | _ => False

theorem resK_ok {w : World} (hw : Holds w H) : ∀ {rvs : List ResultVar} {rs : List RV} {K : List Value → Prop}, cRes P rvs = some rs → resK rs l H K →
    ∃ vs, (rvs.mapM (m := Sem) fun
      | .tmp t => pure (l.toArray.getD t undef)
      | .cell a t => do loadVar t (← asAddr (l.toArray.getD a undef))).run P w = .ok vs w ∧ vs.length = rvs.length ∧ K vs
  | [], rs, K, h, hK => by simp [cRes] at h; subst h; exact ⟨[], rfl, rfl, hK⟩
  | .tmp t :: r, rs, K, h, hK => by
    unfold cRes at h
    split at h
    · rename_i l' hl
      injection h with h
      subst h
      obtain ⟨vs, h1, h2, h3⟩ := resK_ok hw hl (forceV_ok (K := fun v => resK l' l H fun vs => K (v :: vs)) hK)
      refine ⟨getL l t :: vs, ?_, by simp [h2], h3⟩
      simp only [List.mapM_cons, Sem.run_bind, Sem.run_pure, Result.andThen_ok, getL_eq]
      simp only [getL_eq] at h1
      erw [h1]
      rfl
    · cases h
  | .cell a t :: r, rs, K, h, hK => by
    unfold cRes at h
    split at h
    · rename_i b n l' ha hl
      injection h with h
      subst h
      obtain ⟨u, g1, g2⟩ := load_ok (H := H) (K := fun v => resK l' l H fun vs => K (v :: vs)) ha hK
      obtain ⟨vs, h1, h2, h3⟩ := resK_ok hw hl g2
      refine ⟨u :: vs, ?_, by simp [h2], h3⟩
      have g := g1 w hw.at_
      have e : getL l a = getL l a := rfl
      simp only [List.mapM_cons, Sem.run_bind, getL_eq]
      have hload : ∃ ad, getL l a = .pointer (some ad) := by
        have hK' : loadK b n (getL l a) H (fun v => resK l' l H fun vs => K (v :: vs)) := hK
        unfold loadK at hK'
        split at hK'
        · rename_i r o he; exact ⟨_, he⟩
        · exact hK'.elim
      obtain ⟨ad, had⟩ := hload
      rw [had] at g ⊢
      simp only [Instr.loadAt, Instr.sureAddr, Sem.run_bind, Sem.run_pure, Result.andThen_ok] at g
      simp only [asAddr, Sem.run_pure, Result.andThen_ok, g]
      simp only [getL_eq] at h1
      erw [h1]
      rfl
    · cases h

/-- A call, by the callee's text. -/
theorem SCalls.enterBy {f : FuncId} {fn : Func} {c : Code} {rs : List RV} {args : List Value} {K : Value → Heap → Prop} (hf : P.funcs[f]? = some fn) (hent : ∀ args w, (callFunc f args).run P w = .ok (.enter f args) w) (hb : fn.body = some c)
    (hx : compile P c = x) (hr : cRes P fn.results.toList = some rs) (h : xc P x (retQ rs K) (args ++ List.replicate (fn.ntmps - args.length) undef) H) : SCalls P f args H K := by
  refine ⟨fun w => hent _ w, fun w hw => calls_of_wp hf hb ?_⟩
  subst hx
  have h1 := xc_ok (ds := []) c _ _ H (fun ch l H g => g) h w hw
  have e : (actD [] (args ++ List.replicate (fn.ntmps - args.length) undef)) = { tmps := args.toArray ++ Array.replicate (fn.ntmps - args.toArray.size) undef, defers := [] } := by
    simp [actD]
  rw [← e]
  refine wp_mono h1 ?_
  rintro e a' w' ⟨l', H', rfl, h2, h3, h4⟩
  have fin : (resK rs l' H' fun vs => oneK vs fun v => Keep H' fun H' => K v H') → ∃ v, (results fn l'.toArray).run P w' = .ok v w' ∧ Back w H K (.returned v) w' := by
    intro h4
    obtain ⟨vs, g1, g2, g3⟩ := resK_ok h2 hr h4
    have hres : (results fn l'.toArray).run P w' = .ok (if h : vs.toArray.size = 1 then vs.toArray[0] else .tuple vs.toArray) w' := by
      unfold results
      rw [Array.mapM_eq_mapM_toList]
      simp only [Sem.run_bind, Sem.run_map]
      erw [g1]
      simp only [Result.andThen_ok, Sem.run_pure]
    refine ⟨_, hres, ?_⟩
    have g4 : Keep H' fun H' => K (if h : vs.toArray.size = 1 then vs.toArray[0] else .tuple vs.toArray) H' := by
      match vs, g3 with
      | [v], g3 => exact g3
      | [], g3 => exact g3
      | a :: b :: r, g3 => simpa [oneK] using g3
    obtain ⟨H'', k1, k2, k3⟩ := g4.ok h2 h3
    exact .ret k1 k2 k3
  cases e with
  | normal =>
    obtain ⟨v, k1, k2⟩ := fin h4
    exact ⟨rfl, v, k1, k2⟩
  | ret =>
    obtain ⟨v, k1, k2⟩ := fin h4
    exact ⟨rfl, v, k1, k2⟩
  | exit id => exact h4.elim
  | goto id => exact h4.elim
  | panic ch => exact ⟨rfl, .inr ⟨ch, H', rfl, h2, h3, h4⟩⟩
  | outgrown => exact h4.elim

variable {f : FuncId} {args : List Value} {K K' : Value → Heap → Prop}
theorem SCalls.mono (h : SCalls P f args H K) (hk : ∀ v H', K v H' → K' v H') : SCalls P f args H K' :=
  ⟨h.enter, fun w hw => (h.run w hw).mono fun e w' h => h.map (fun v H' g1 g2 g3 => ⟨H', g1, g2, hk _ _ g3⟩) fun H' g1 g2 => ⟨H', g1, g2⟩⟩
/-- The same beside whatever else is known. -/
theorem SCalls.frame {R : Heap} (h : SCalls P f args H K) : SCalls P f args (H ++ R) fun v H' => ∃ H1, H' = H1 ++ R ∧ K v H1 := by
  refine ⟨h.enter, fun w hw => (h.run w (hw.sub (List.sublist_append_left _ _))).mono fun e w' h => h.map (fun v H' h2 h3 h4 => ?_) fun H' h2 h3 => ?_⟩
  · obtain ⟨g1, g2⟩ := hw.frame h3 h2
    exact ⟨_, g1, g2, H', rfl, h4⟩
  · obtain ⟨g1, g2⟩ := hw.frame h3 h2
    exact ⟨_, g1, g2⟩
theorem SCalls.perm {H2 : Heap} (h : SCalls P f args H2 K) (hp : H.Perm H2) : SCalls P f args H K :=
  ⟨h.enter, fun w hw => (h.run w (hw.perm hp)).mono fun e w' h => h.map (fun v H' h2 h3 h4 => ⟨H', h2, h3.permL hp.symm, h4⟩) fun H' h2 h3 => ⟨H', h2, h3.permL hp.symm⟩⟩
theorem SCalls.keep (h : SCalls P f args H fun v H' => Keep H' fun H'' => K v H'') : SCalls P f args H K :=
  ⟨h.enter, fun w hw => (h.run w hw).mono fun e w' h => h.map (fun v H' h2 h3 h4 => h4.ok h2 h3) fun H' h2 h3 => ⟨H', h2, h3⟩⟩
/-- A contract for nothing that is known, anywhere. -/
theorem SCalls.any (h : SCalls P f args [] K) (hk : ∀ v N, K v N → K' v (N ++ H)) : SCalls P f args H K' := by
  have := h.frame (R := H)
  refine SCalls.mono (by simpa using this) ?_
  rintro v H' ⟨N, rfl, h⟩
  exact hk v N h
/-- Of a contract in the kit's own words: it makes memory only. -/
theorem SCalls.ofBelow {v : Value} (hent : ∀ w, (callFunc f args.toArray).run P w = .ok (.enter f args.toArray) w) (h : ∀ w, Holds w H → Calls P f args.toArray w fun e w' => e = .returned v ∧ Below w.heap.size w w') (hK : K v H) : SCalls P f args H K := by
  refine ⟨hent, fun w hw => (h w hw).mono ?_⟩
  rintro e w' ⟨rfl, hb⟩
  have hfr : Fr (E H) w w' := ⟨hb.os, hb.tape, hb.output, hb.size, fun k hk _ => hb.block k hk⟩
  exact .ret ⟨fun p hp => (hw.at_ p hp).same (hb.block _ (hw.at_ p hp).lt) hb.size, hw.sep⟩ ⟨hfr, (Step.refl w H).ids⟩ hK
end
/-- To a contract in the kit's own words. -/
theorem SCalls.toBelow {P : Program} {f : FuncId} {args : List Value} {H : Heap} {K : Value → Heap → Prop} (h : SCalls P f args H K) {w : World} (hw : Holds w H) (hx : ∀ p ∈ H, p.2.excl = false) : Calls P f args.toArray w fun e w' => ∃ v H', e = .returned v ∧ K v H' ∧ Below w.heap.size w w' := by
  refine (h.run w hw).mono ?_
  rintro e w' (⟨v, H', h1, h2, h3, h4⟩ | ⟨_, _, _, _, _, hf⟩)
  case inr => exact hf.elim
  refine ⟨v, H', h1, h4, h3.fr.os, h3.fr.tape, h3.fr.output, h3.fr.size, fun k hk => h3.fr.block k hk ?_⟩
  rintro ⟨p, hp, he, _⟩
  rw [hx p hp] at he
  cases he
end Go.Proofs.YtkajoepgebfjoaaDoor.Sx


/- Sx, part J: operations in whatever order: those that only read may be taken first, if what they read is kept by all that acts ('Hs'); what comes behind all of them goes in the text's order. -/
set_option linter.unusedVariables false
set_option linter.unusedSimpArgs false
namespace Go.Proofs.YtkajoepgebfjoaaDoor.Sx
open Go.RowKit

/- WHO COMES BEHIND WHOM -/
section
variable {P : Program} {ops : Array Oper}
/-- Operation j waits for i, maybe by way of others. -/
inductive Bef (ops : Array Oper) : Nat → Nat → Prop
  | one {j i : Nat} {o : Oper} : ops[j]? = some o → i ∈ directOf o → Bef ops j i
  | more {j k i : Nat} : Bef ops j k → Bef ops k i → Bef ops j i
theorem mem_directOf {o : Oper} {i : Nat} : i ∈ directOf o ↔ ∃ e ∈ o.after, Region.binds .any e = true ∧ e.on = i := by
  simp only [directOf, List.mem_map, List.mem_filter]
  constructor
  · rintro ⟨e, ⟨h1, h2⟩, h3⟩; exact ⟨e, by simpa using h1, h2, h3⟩
  · rintro ⟨e, h1, h2, h3⟩; exact ⟨e, ⟨by simpa using h1, h2⟩, h3⟩
def Closed (ops : Array Oper) (D : Nat → Prop) : Prop := ∀ k, D k → ∀ o, ops[k]? = some o → ∀ i ∈ directOf o, D i
theorem Bef.closed {D : Nat → Prop} (hc : Closed ops D) {j i : Nat} (h : Bef ops j i) : (∀ o, ops[j]? = some o → ∀ i ∈ directOf o, D i) → D i := by
  induction h with
  | one ho hi => exact fun h => h _ ho _ hi
  | more h1 h2 ih1 ih2 => exact fun h => ih2 (fun o ho i hi => hc _ (ih1 h) o ho i hi)
theorem beforeOf_spec : ∀ (os : List Oper) (acc : List (List Nat)), (∀ k o, os[k]? = some o → ops[acc.length + k]? = some o) → (∀ j i, i ∈ acc.getD j [] → Bef ops j i) →
    ∀ j i, i ∈ (beforeOf os acc).getD j [] → Bef ops j i
  | [], acc, _, ha, j, i, h => ha j i h
  | o :: r, acc, ho, ha, j, i, h => by
    refine beforeOf_spec r _ ?_ ?_ j i h
    · intro k o' hk
      have := ho (k + 1) o' (by simpa using hk)
      simpa [Nat.add_assoc, Nat.add_comm 1 k] using this
    · intro j i hi
      by_cases hj : j = acc.length
      · subst hj
        have h0 := ho 0 o rfl
        simp only [Nat.add_zero] at h0
        simp only [List.getD, List.getElem?_append_right (Nat.le_refl _), Nat.sub_self, List.getElem?_cons_zero, Option.getD_some] at hi
        have hi := List.mem_eraseDups.1 hi
        obtain ⟨k, hk, hi⟩ := List.mem_flatMap.1 hi
        rcases List.mem_cons.1 hi with rfl | hi
        · exact .one h0 hk
        · exact .more (.one h0 hk) (ha _ _ hi)
      · rcases Nat.lt_or_ge j acc.length with hlt | hge
        · refine ha j i ?_
          simpa [List.getD, List.getElem?_append_left hlt] using hi
        · have : (acc ++ [((directOf o).flatMap fun j => j :: acc.getD j []).eraseDups])[j]? = none := List.getElem?_eq_none (by simp; omega)
          rw [List.getD_eq_getElem?_getD, this] at hi
          cases hi
theorem floatN_spec {j i : Nat} (hj : floatN ops.toList ≤ j) (hlt : j < ops.size) (hi : i < j) : Bef ops j i := by
  have hb := beforeOf_spec (ops := ops) ops.toList [] (by intro k o hk; simpa using hk) (by intro j i hi; simp at hi)
  have key : ∀ (n : Nat) (l : List Nat) (m0 : Nat), (∀ j, m0 ≤ j → j < n → (List.range j).all (fun i => ((beforeOf ops.toList []).getD j []).contains i) = true) →
      ∀ j, l.foldr (fun j m => if m = j + 1 ∧ (List.range j).all (fun i => ((beforeOf ops.toList []).getD j []).contains i) then j else m) m0 ≤ j → j < n →
        (List.range j).all (fun i => ((beforeOf ops.toList []).getD j []).contains i) = true := by
    intro n l
    induction l with
    | nil => intro m0 h j hj hn; exact h j hj hn
    | cons a l ih =>
      intro m0 h j hj hn
      simp only [List.foldr_cons] at hj
      split at hj
      · rename_i hc
        by_cases hja : j = a
        · subst hja; exact hc.2
        · exact ih m0 h j (by omega) hn
      · exact ih m0 h j hj hn
  have := key ops.size (List.range ops.toList.length) ops.toList.length (by intro j h1 h2; simp at h1; omega) j (by simpa [floatN] using hj) hlt
  rw [List.all_eq_true] at this
  have h1 := this i (List.mem_range.2 hi)
  exact hb j i (by simpa using h1)
end

/- THE ORDER IS OPEN UP TO m -/
section
variable {P : Program} {ops : Array Oper} {Q : Exit → Act → World → Prop} {S : World → Prop} {m : Nat}
theorem doneTo_spec {listed : Array Bool} : doneTo m listed = true ↔ ∀ i, i < m → listed.getD i false = true := by
  simp [doneTo, List.all_eq_true]
def wpF (P : Program) (ops : Array Oper) (Q : Exit → Act → World → Prop) (S : World → Prop) (m : Nat) : Nat → Array Bool → Act → World → Prop
  | 0, listed, a, w => wpAny P .any ops Q 0 listed a w
  | fuel + 1, listed, a, w => match doneTo m listed with
    | true => wpAny P .any ops Q (fuel + 1) listed a w
    | false => (Region.ready .any ops listed = [] → Q .normal a w) ∧ ∀ i ∈ Region.ready .any ops listed, wpOp P ops Q i (fun a' w' => S w' ∧ wpF P ops Q S m fuel (listed.setIfInBounds i true) a' w') a w
theorem wpAny_of_F : ∀ (fuel : Nat) (listed : Array Bool) (a : Act) (w : World), wpF P ops Q S m fuel listed a w → wpAny P .any ops Q fuel listed a w
  | 0, _, _, _, h => h
  | fuel + 1, listed, a, w, h => by
    unfold wpF at h
    split at h
    · exact h
    · exact ⟨h.1, fun i hi => wpOp_mono (fun a' w' h' => wpAny_of_F fuel _ a' w' h'.2) (h.2 i hi)⟩
abbrev Dn (listed : Array Bool) (k : Nat) : Prop := listed.getD k false = true
theorem ready_direct {listed : Array Bool} {j : Nat} (h : j ∈ Region.ready .any ops listed) : ∀ o, ops[j]? = some o → ∀ i ∈ directOf o, Dn listed i := by
  intro o ho i hi
  obtain ⟨_, o', ho', hall⟩ := mem_ready.1 h
  rw [ho] at ho'
  injection ho' with ho'
  subst ho'
  obtain ⟨e, he, hb, rfl⟩ := mem_directOf.1 hi
  exact hall e he hb
theorem closed_set {listed : Array Bool} {j : Nat} (hc : Closed ops (Dn listed)) (h : j ∈ Region.ready .any ops listed) : Closed ops (Dn (listed.setIfInBounds j true)) := by
  intro k hk o ho i hi
  by_cases hkj : k = j
  · subst hkj; exact getD_set_true (ready_direct h o ho i hi)
  · have : Dn listed k := by
      unfold Dn at hk ⊢
      rwa [getD_set_ne false (Ne.symm hkj)] at hk
    exact getD_set_true (hc k this o ho i hi)
theorem ready_lt {listed : Array Bool} {j : Nat} (h : j ∈ Region.ready .any ops listed) : j < ops.size := by
  obtain ⟨_, o, ho, _⟩ := mem_ready.1 h
  exact (Array.getElem?_eq_some_iff.1 ho).1
theorem ready_not {listed : Array Bool} {j : Nat} (h : j ∈ Region.ready .any ops listed) : ¬ Dn listed j := by
  have h1 := (mem_ready.1 h).1
  intro h2
  unfold Dn at h2
  rcases Nat.lt_or_ge j listed.size with h' | h'
  · simp [h'] at h1 h2; rw [h1] at h2; cases h2
  · simp [Array.getElem?_eq_none h'] at h1
/-- Nothing behind m comes up while one ahead of it is left. -/
theorem ready_below (hm : floatN ops.toList = m) {listed : Array Bool} (hc : Closed ops (Dn listed)) {i j : Nat} (hi : i < m) (hn : ¬ Dn listed i) (h : j ∈ Region.ready .any ops listed) : j < m := by
  rcases Nat.lt_or_ge j m with hlt | hge
  · exact hlt
  · have hb := floatN_spec (ops := ops) (j := j) (i := i) (by omega) (ready_lt h) (by omega)
    exact absurd (hb.closed hc (ready_direct h)) hn

theorem wpF_first (hm : floatN ops.toList = m) {i : Nat} {oi : Oper} {v : Value} (him : i < m) (hi : ops[i]? = some oi) (hsel : ∀ (j : Nat) (o : Oper) cs b, ops[j]? = some o → o.op ≠ .select cs b)
    (hQ : ∀ c a w, Q (.panic c) (a.put oi.dst v) w → Q (.panic c) a w) :
    ∀ (fuel : Nat) (listed : Array Bool) (a : Act) (w : World), Closed ops (Dn listed) →
      (∀ j oj, ops[j]? = some oj → j ≠ i → listed.getD j true = false → (∀ e ∈ oj.after, Region.binds .any e = true → e.on ≠ i) → oi.apart ops oj = true) →
      i ∈ Region.ready .any ops listed → YieldsIf P ops S oi v a → S w →
      wpF P ops Q S m fuel (listed.setIfInBounds i true) (a.put oi.dst v) w → wpF P ops Q S m (fuel + 1) listed a w := by
  intro fuel
  induction fuel with
  | zero =>
    intro listed a w hcl hfree hr hy hS H
    have hnd : doneTo m listed = false := by
      cases hd : doneTo m listed with
      | false => rfl
      | true => exact absurd (doneTo_spec.1 hd i him) (ready_not hr)
    unfold wpF
    rw [hnd]
    refine ⟨fun h => (by rw [h] at hr; cases hr), fun j hj => ?_⟩
    by_cases hji : j = i
    · subst hji; exact hy.wpOp hi hS ⟨hS, H⟩
    · have := ready_mono hj hji
      rw [H.1] at this
      cases this
  | succ fuel ih =>
    intro listed a w hcl hfree hr hy hS H
    have hnd : doneTo m listed = false := by
      cases hd : doneTo m listed with
      | false => rfl
      | true => exact absurd (doneTo_spec.1 hd i him) (ready_not hr)
    unfold wpF
    rw [hnd]
    refine ⟨fun h => (by rw [h] at hr; cases hr), fun j hj => ?_⟩
    by_cases hji : j = i
    · subst hji; exact hy.wpOp hi hS ⟨hS, H⟩
    · have hjm := ready_below hm hcl him (ready_not hr) hj
      have hnd2 : doneTo m (listed.setIfInBounds i true) = false := by
        cases hd : doneTo m (listed.setIfInBounds i true) with
        | false => rfl
        | true =>
          have h1 := doneTo_spec.1 hd j hjm
          rw [getD_set_ne false (Ne.symm hji)] at h1
          exact absurd h1 (ready_not hj)
      unfold wpF at H
      rw [hnd2] at H
      have h1 := H.2 j (ready_mono hj hji)
      obtain ⟨hjun, oj, hoj, hall⟩ := mem_ready.1 hj
      have hnot : ∀ e ∈ oj.after, Region.binds .any e = true → e.on ≠ i := fun e he hb heq => ready_not hr (heq ▸ hall e he hb)
      have h2 := wpOp_putIf hoj (hfree j oj hoj hji hjun hnot) (fun cs b => hsel i oi cs b hi) (fun cs b => hsel j oj cs b hoj) hQ hy h1
      have hfree' : ∀ k ok, ops[k]? = some ok → k ≠ i → (listed.setIfInBounds j true).getD k true = false →
          (∀ e ∈ ok.after, Region.binds .any e = true → e.on ≠ i) → oi.apart ops ok = true := fun k ok hk hki hun hno => by
        refine hfree k ok hk hki ?_ hno
        by_cases hjk : j = k
        · subst hjk; exact hjun
        · rw [getD_set_ne true hjk] at hun; exact hun
      refine wpOp_mono (fun a' w' h3 => ⟨h3.2.1, ih (listed.setIfInBounds j true) a' w' (closed_set hcl hj) hfree' (ready_mono hr (Ne.symm hji)) h3.1 h3.2.1 ?_⟩) h2
      rw [Array.setIfInBounds_comm _ _ hji]
      exact h3.2.2
end
end Go.Proofs.YtkajoepgebfjoaaDoor.Sx


/- Sx, part K: the walk through operations whose order is open ('SDraw.held'). -/
set_option linter.unusedVariables false
set_option linter.unusedSectionVars false
set_option linter.unusedSimpArgs false
namespace Go.Proofs.YtkajoepgebfjoaaDoor.Sx
open Go.RowKit

/-- All that Hs tells is known by H. -/
inductive Seen (H : Heap) : Heap → Prop
  | nil : Seen H []
  | same {p : Nat × Blk} {Hs : Heap} : p ∈ H → Seen H Hs → Seen H (p :: Hs)
  | part {r : Nat} {b : Blk} {f : Nat → Option Value} {Hs : Heap} : (r, b) ∈ H → (∀ j v, f j = some v → b.cell j = some v) → Seen H Hs → Seen H ((r, .ro f) :: Hs)
/-- All of Hs is known still. -/
inductive Kept (Hs H : Heap) (K : Prop) : Prop
  | mk : Seen H Hs → K → Kept Hs H K
/-- An operation that only reads, from what is kept. -/
def xread (x : XOp) (l : List Value) (Hs : Heap) (K : Value → Prop) : Prop :=
  match x with
  | .pure p => xpure p l K
  | .load agg n a => loadK agg n (ev l a) Hs K
  | _ => False
def xtake (x : XO) (l : List Value) (Hs : Heap) (K : List Value → Prop) : Prop :=
  match x.guard with
  | none => xread x.op l Hs fun v => dstK x.dst l v K
  | some (g, want) => match getL l g with
    | .bool b => Branch b
      (match want with | true => xread x.op l Hs fun v => dstK x.dst l v K | false => dstK x.dst l undef K)
      (match want with | false => xread x.op l Hs fun v => dstK x.dst l v K | true => dstK x.dst l undef K)
    | _ => dstK x.dst l undef K
def xscr [Dies] (P : Program) (Hs : Heap) (s : Scr) : List Value → Heap → (List Value → Heap → Prop) → Prop :=
  Scr.rec (motive := fun _ => List Value → Heap → (List Value → Heap → Prop) → Prop)
    (fun l H K => K l H)
    (fun x _ ih l H K => xtake x l Hs fun l' => ih l' H K)
    (fun x _ rest ih1 ih2 l H K => Scr.casesOn (motive := fun _ => Prop) rest
      ((xo P x l H fun l' H' => Kept Hs H' (ih1 l' H' K)) ∧ ih2 l H K)
      (fun _ _ => (xo P x l H fun l' H' => Kept Hs H' (ih1 l' H' K)) ∧ ih2 l H K)
      (fun _ _ _ => (xo P x l H fun l' H' => Kept Hs H' (ih1 l' H' K)) ∧ ih2 l H K)
      (xo P x l H fun l' H' => Kept Hs H' (ih1 l' H' K))
      ((xo P x l H fun l' H' => Kept Hs H' (ih1 l' H' K)) ∧ ih2 l H K))
    (fun _ _ _ => True) (fun _ _ _ => False) s
section
variable [Dies] {ds : List Deferred} {P : Program} {ops : Array Oper} {l : List Value} {H Hs : Heap} {w : World}
abbrev SH (Hs : Heap) (w : World) : Prop := ∀ p ∈ Hs, p.2.At w p.1
theorem Seen.ok (hw : Holds w H) (h : Seen H Hs) : SH Hs w := by
  induction h with
  | nil => intro p hp; cases hp
  | same hp _ ih =>
    intro q hq
    rcases List.mem_cons.1 hq with rfl | hq
    · exact hw.at_ _ hp
    · exact ih q hq
  | part hp hf _ ih =>
    intro q hq
    rcases List.mem_cons.1 hq with rfl | hq
    · have := hw.at_ _ hp
      exact ⟨this.lt, fun j v hj => cell_at this (hf j v hj)⟩
    · exact ih q hq
theorem xread_ok {o : Oper} {x : XOp} (hc : cOp P o = x) {K : Value → Prop} (h : xread x l Hs K) : ∃ v, (∀ w, SH Hs w → (execOp (act l).eval o).run P w = .ok (.value v) w) ∧ K v := by
  cases x with
  | pure p =>
    obtain ⟨v, h1, h2⟩ := xpure_ok hc h
    exact ⟨v, fun w _ => h1 w, h2⟩
  | load agg n a =>
    obtain ⟨dst, op, type, pos, after, guard⟩ := o
    cases op <;> simp only [cOp, cBin, cCall, eqAggOf] at hc
    case load t y =>
      split at hc
      · rename_i b m ha
        injection hc with h1 h2 h3
        subst h1; subst h2; subst h3
        obtain ⟨u, h1, h2⟩ := load_ok (H := Hs) (K := K) ha h
        refine ⟨u, fun w hw => run_value ?_, h2⟩
        simp only [ev_eq, h1 w hw]
      · cases hc
    all_goals ((repeat' (split at hc)) <;> cases hc)
  | _ => exact h.elim
theorem xtake_ok {o : Oper} {x : XO} (hx : cOper P ops o = some x) {K : List Value → Prop} (h : xtake x l Hs K) :
    ∃ v, YieldsIf P ops (SH Hs) o v (actD ds l) ∧ ∃ l', (actD ds l).put o.dst v = actD ds l' ∧ K l' := by
  unfold cOper at hx
  cases hg : cGuard ops o.guard with
  | none => rw [hg] at hx; cases hx
  | some g =>
    rw [hg] at hx
    injection hx with hx
    subst hx
    unfold xtake at h
    have yes : Region.wanted o (yielded ops (actD ds l).tmps) = true → xread (cOp P o) l Hs (fun v => dstK o.dst l v K) → ∃ v, YieldsIf P ops (SH Hs) o v (actD ds l) ∧ ∃ l', (actD ds l).put o.dst v = actD ds l' ∧ K l' := fun hw h => by
      obtain ⟨v, h1, h2⟩ := xread_ok rfl h
      exact ⟨v, .inl ⟨hw, h1⟩, dstK_ok h2⟩
    have no : Region.wanted o (yielded ops (actD ds l).tmps) = false → dstK o.dst l undef K → ∃ v, YieldsIf P ops (SH Hs) o v (actD ds l) ∧ ∃ l', (actD ds l).put o.dst v = actD ds l' ∧ K l' := fun hw h =>
      ⟨undef, .inr ⟨hw, rfl⟩, dstK_ok h⟩
    cases hgo : o.guard with
    | none =>
      rw [hgo] at hg
      simp only [cGuard, Option.some.injEq] at hg
      subst hg
      exact yes (by simp [Region.wanted, hgo]) h
    | some jw =>
      obtain ⟨j, want⟩ := jw
      rw [hgo] at hg
      unfold cGuard at hg
      cases hd : (ops[j]?).bind (·.dst) with
      | none => simp [hd] at hg
      | some gs =>
        simp only [hd, Option.some.injEq] at hg
        subst hg
        have hy : yielded ops (actD ds l).tmps j = _ := getL_yield hd
        simp only at h
        split at h
        · rename_i b hb
          rw [hb] at hy
          have hwant : Region.wanted o (yielded ops (actD ds l).tmps) = (b == want) := by
            simp only [Region.wanted, hgo, hy]
            cases b <;> cases want <;> rfl
          obtain ⟨h1, h2⟩ := h
          cases b <;> cases want
          · exact yes hwant (h2 rfl)
          · exact no hwant (h2 rfl)
          · exact no hwant (h1 rfl)
          · exact yes hwant (h1 rfl)
        · rename_i hnb
          have hwant : Region.wanted o (yielded ops (actD ds l).tmps) = false := by
            simp only [Region.wanted, hgo, hy]
            cases hv : getL l gs <;> first | rfl | exact absurd hv (hnb _)
          exact no hwant h

/-- The first k have come up. -/
def upTo (k n : Nat) : Array Bool := (List.replicate k true ++ List.replicate (n - k) false).toArray
theorem upTo_getD (k n i : Nat) : (upTo k n).getD i false = decide (i < k) := by
  unfold upTo
  simp only [Array.getD_eq_getD_getElem?, List.getElem?_toArray]
  rcases Nat.lt_or_ge i k with h | h
  · rw [List.getElem?_append_left (by simpa using h)]; simp [h]
  · rw [List.getElem?_append_right (by simpa using h)]
    simp only [List.length_replicate, List.getElem?_replicate]
    have : ¬ i < k := by omega
    split <;> simp [this]
theorem upTo_getT (k n i : Nat) (hi : i < n) : (upTo k n).getD i true = decide (i < k) := by
  unfold upTo
  simp only [Array.getD_eq_getD_getElem?, List.getElem?_toArray]
  rcases Nat.lt_or_ge i k with h | h
  · rw [List.getElem?_append_left (by simpa using h)]; simp [h]
  · rw [List.getElem?_append_right (by simpa using h)]
    simp only [List.length_replicate, List.getElem?_replicate]
    have : ¬ i < k := by omega
    rw [if_pos (by omega)]
    simp [this]
theorem upTo_set (k n : Nat) (h : k < n) : (upTo k n).setIfInBounds k true = upTo (k + 1) n := by
  unfold upTo
  simp only [List.setIfInBounds_toArray]
  congr 1
  apply List.ext_getElem?
  intro i
  rw [List.getElem?_set]
  simp only [List.length_append, List.length_replicate]
  split
  · rename_i e
    subst e
    rw [if_pos (by omega), List.getElem?_append_left (by simp)]
    simp
  · rename_i e
    rcases Nat.lt_or_ge i k with h1 | h1
    · rw [List.getElem?_append_left (by simpa using h1), List.getElem?_append_left (by simp; omega)]
      simp only [List.getElem?_replicate]
      rw [if_pos h1, if_pos (by omega)]
    · rw [List.getElem?_append_right (by simpa using h1), List.getElem?_append_right (by simp; omega)]
      simp only [List.length_replicate, List.getElem?_replicate]
      by_cases h2 : i < n
      · rw [if_pos (by omega), if_pos (by omega)]
      · rw [if_neg (by omega), if_neg (by omega)]

variable {w0 : World} {H0 : Heap} {K : List Value → Heap → Prop} {xs : List XO}
/-- What goes on nowhere but ahead. -/
def Qn (ds : List Deferred) (w0 : World) (H0 : Heap) (K : List Value → Heap → Prop) : Exit → Act → World → Prop
  | .normal, a, w => Next1 ds w0 H0 K a w
  | .panic ch, a, w => Dies.D ch ∧ a.defers = ds ∧ ∃ H', Holds w H' ∧ Step w0 H0 w H'
  | _, _, _ => False
theorem Qn.dead {w : World} {H : Heap} (hs : Step w0 H0 w H) : DeadOk ds w H (Qn ds w0 H0 K) := fun ch l' H' w' h1 h2 h3 => ⟨h1, rfl, H', h2, hs.trans h3⟩
theorem xs_get (hxs : cOpers P ops ops.toList = some xs) {i : Nat} {x : XO} (hi : xs[i]? = some x) : ∃ o, ops[i]? = some o ∧ cOper P ops o = some x := by
  have hl := cOpers_length hxs
  have hlt : i < ops.toList.length := by rw [← hl]; exact (List.getElem?_eq_some_iff.1 hi).1
  obtain ⟨x', h1, h2⟩ := cOpers_get hxs i ops.toList[i] (List.getElem?_eq_getElem hlt)
  rw [hi] at h1
  injection h1 with h1
  subst h1
  refine ⟨_, ?_, h2⟩
  simp at hlt
  simp [hlt]
theorem depsOk_spec (hd : depsOk ops.toList = true) {j i : Nat} {o : Oper} (ho : ops[j]? = some o) (hi : i ∈ directOf o) : i < j := by
  unfold depsOk at hd
  rw [List.all_eq_true] at hd
  have hlt : j < ops.toList.length := by simpa using (Array.getElem?_eq_some_iff.1 ho).1
  have := hd j (List.mem_range.2 hlt)
  have ho' : ops.toList[j]? = some o := by simpa using ho
  rw [ho'] at this
  simp only [List.all_eq_true, decide_eq_true_eq] at this
  exact this i hi
/-- What comes behind all that is open. -/
theorem tail_ok (hxs : cOpers P ops ops.toList = some xs) (hd : depsOk ops.toList = true) : ∀ (r k : Nat) (l : List Value) (H : Heap) (w : World) (fuel : Nat), k + r = ops.size → floatN ops.toList ≤ k → r ≤ fuel →
    xops P (xs.drop k) l H K → Holds w H → Step w0 H0 w H → wpAny P .any ops (Qn ds w0 H0 K) fuel (upTo k ops.size) (actD ds l) w
  | 0, k, l, H, w, fuel, hk, hm, hf, h, hw, hs => by
    have hl := cOpers_length hxs
    have hdrop : xs.drop k = [] := List.drop_eq_nil_of_le (by rw [hl]; simp; omega)
    rw [hdrop] at h
    refine wpAny_done ?_ ⟨l, H, rfl, hw, hs, h⟩ fuel
    apply List.eq_nil_iff_forall_not_mem.2
    intro j hj
    have h1 := ready_lt hj
    have h2 := ready_not hj
    unfold Dn at h2
    rw [upTo_getD] at h2
    simp at h2
    omega
  | r + 1, k, l, H, w, 0, hk, hm, hf, h, hw, hs => by omega
  | r + 1, k, l, H, w, fuel + 1, hk, hm, hf, h, hw, hs => by
    have hl := cOpers_length hxs
    have hkl : k < xs.length := by rw [hl]; simp; omega
    have hclosed : Closed ops (Dn (upTo k ops.size)) := by
      intro j hj o ho i hi
      have := depsOk_spec hd ho hi
      unfold Dn at hj ⊢
      rw [upTo_getD] at hj ⊢
      simp at hj ⊢
      omega
    obtain ⟨o, ho, hox⟩ := xs_get hxs (List.getElem?_eq_getElem hkl)
    have hready : k ∈ Region.ready .any ops (upTo k ops.size) := by
      rw [mem_ready]
      refine ⟨by rw [upTo_getT _ _ _ (by omega)]; simp, o, ho, fun e he hb => ?_⟩
      have := depsOk_spec hd ho (mem_directOf.2 ⟨e, he, hb, rfl⟩)
      rw [upTo_getD]; simpa using this
    refine ⟨fun h0 => (by rw [h0] at hready; cases hready), fun j hj => ?_⟩
    have hjk : j = k := by
      have h2 := ready_not hj
      unfold Dn at h2
      rw [upTo_getD] at h2
      simp at h2
      rcases Nat.lt_or_ge k j with h3 | h3
      · have hb := floatN_spec (ops := ops) (j := j) (i := k) (by omega) (ready_lt hj) h3
        have := hb.closed hclosed (ready_direct hj)
        unfold Dn at this
        rw [upTo_getD] at this
        simp at this
      · omega
    subst hjk
    rw [List.drop_eq_getElem_cons hkl] at h
    refine wpOp_mono ?_ (xo_ok ho hox h hw _ (Qn.dead hs))
    rintro a w' ⟨l', H', rfl, h1, h2, h3⟩
    rw [upTo_set _ _ (by omega)]
    exact tail_ok hxs hd r (j + 1) l' H' w' fuel (by omega) (by omega) (by omega) h3 h1 (hs.trans h2)
theorem pickTake_spec {st : Bool} {listed : Array Bool} {r : List Nat} {i : Nat} {x : XO} (h : pickTake ops xs st listed r = some (i, x)) : i ∈ r ∧ xs[i]? = some x ∧ x.op.takes = true ∧ Region.free .any ops listed i = true := by
  induction r with
  | nil => simp [pickTake] at h
  | cons j r ih =>
    unfold pickTake at h
    split at h
    · rename_i y hy
      split at h
      · rename_i hc
        simp only [Option.some.injEq, Prod.mk.injEq] at h
        obtain ⟨rfl, rfl⟩ := h
        simp only [Bool.and_eq_true] at hc
        exact ⟨List.mem_cons_self, hy, hc.1.1, hc.2⟩
      · obtain ⟨h1, h2⟩ := ih h
        exact ⟨List.mem_cons_of_mem _ h1, h2⟩
    · obtain ⟨h1, h2⟩ := ih h
      exact ⟨List.mem_cons_of_mem _ h1, h2⟩
theorem alt_spec {C : Nat → Scr} (rs : List Nat) (hin : ∀ i ∈ rs, ∃ x, xs[i]? = some x) : xscr P Hs (rs.foldr (fun i rest => match xs[i]? with
        | some x => Scr.alt x (C i) rest
        | none => rest) .off) l H K → ∀ i ∈ rs, ∃ x, xs[i]? = some x ∧ xo P x l H fun l' H' => Kept Hs H' (xscr P Hs (C i) l' H' K) := by
  induction rs with
  | nil => intro _ i hi; cases hi
  | cons j r ih =>
    intro h i hi
    obtain ⟨x, hx⟩ := hin j List.mem_cons_self
    simp only [List.foldr_cons, hx] at h
    have two : (xo P x l H fun l' H' => Kept Hs H' (xscr P Hs (C j) l' H' K)) ∧ xscr P Hs (r.foldr (fun i rest => match xs[i]? with
        | some x => Scr.alt x (C i) rest
        | none => rest) .off) l H K := by
      generalize r.foldr (fun i rest => match xs[i]? with
        | some x => Scr.alt x (C i) rest
        | none => rest) .off = rest at h
      cases rest with
      | off => exact ⟨h, trivial⟩
      | bad => exact h
      | done => exact h
      | take _ _ => exact h
      | alt _ _ _ => exact h
    rcases List.mem_cons.1 hi with rfl | hi
    · exact ⟨x, hx, two.1⟩
    · exact ih (fun i hi => hin i (List.mem_cons_of_mem _ hi)) two.2 i hi
theorem upTo_done {m n : Nat} {listed : Array Bool} (hs : listed.size = n) (hm : m ≤ n) (hlow : ∀ i, m ≤ i → listed.getD i false = false) (hd : doneTo m listed = true) : listed = upTo m n := by
  apply Array.ext
  · simp [upTo, hs]; omega
  · intro i h1 h2
    have h3 := upTo_getD m n i
    have h4 : listed.getD i false = decide (i < m) := by
      rcases Nat.lt_or_ge i m with h | h
      · rw [doneTo_spec.1 hd i h]; simp [h]
      · rw [hlow i h]; simp; omega
    rw [← h4] at h3
    simpa [Array.getD_eq_getD_getElem?, h1, h2] using h3.symm
/-- The walk does what it says. -/
theorem xscr_ok (hxs : cOpers P ops ops.toList = some xs) (hsel : Region.noSelect ops = true) (hd : depsOk ops.toList = true) (hmn : floatN ops.toList ≤ ops.size) :
    ∀ (fuel : Nat) (listed : Array Bool) (l : List Value) (H : Heap) (w : World) (k : Nat), listed.size = ops.size → (∀ i, floatN ops.toList ≤ i → listed.getD i false = false) → Closed ops (Dn listed) → ops.size - floatN ops.toList ≤ k →
      Holds w H → SH Hs w → Step w0 H0 w H → xscr P Hs (scrOf ops xs (floatN ops.toList) fuel listed) l H (fun l' H' => xops P (xs.drop (floatN ops.toList)) l' H' K) → wpF P ops (Qn ds w0 H0 K) (SH Hs) (floatN ops.toList) (fuel + k) listed (actD ds l) w := by
  have fin : ∀ (fuel : Nat) (listed : Array Bool) (l : List Value) (H : Heap) (w : World), listed.size = ops.size → (∀ i, floatN ops.toList ≤ i → listed.getD i false = false) → ops.size - floatN ops.toList ≤ fuel →
      Holds w H → Step w0 H0 w H → doneTo (floatN ops.toList) listed = true → xops P (xs.drop (floatN ops.toList)) l H K → wpF P ops (Qn ds w0 H0 K) (SH Hs) (floatN ops.toList) fuel listed (actD ds l) w := by
    intro fuel listed l H w hsz hlow hk hw hs hdn h
    have e := upTo_done hsz hmn hlow hdn
    have ht := tail_ok (ds := ds) (w0 := w0) (H0 := H0) (K := K) hxs hd (ops.size - floatN ops.toList) (floatN ops.toList) l H w fuel (by omega) (Nat.le_refl _) hk h hw hs
    rw [← e] at ht
    cases fuel with
    | zero => exact ht
    | succ f =>
      unfold wpF
      rw [hdn]
      exact ht
  intro fuel
  induction fuel with
  | zero =>
    intro listed l H w k hsz hlow hcl hk hw hSH hs h
    unfold scrOf at h
    cases hdn : doneTo (floatN ops.toList) listed with
    | true =>
      rw [hdn] at h
      exact fin _ listed l H w hsz hlow (by omega) hw hs hdn h
    | false => rw [hdn] at h; exact h.elim
  | succ fuel ih =>
    intro listed l H w k hsz hlow hcl hk hw hSH hs h
    have hl := cOpers_length hxs
    unfold scrOf at h
    cases hdn : doneTo (floatN ops.toList) listed with
    | true =>
      rw [hdn] at h
      exact fin _ listed l H w hsz hlow (by omega) hw hs hdn h
    | false =>
      rw [hdn] at h
      simp only at h
      have hnd : ∃ i, i < floatN ops.toList ∧ ¬ Dn listed i := by
        by_cases hex : ∃ i, i < floatN ops.toList ∧ ¬ Dn listed i
        · exact hex
        · have : doneTo (floatN ops.toList) listed = true := doneTo_spec.2 fun i hi => by
            cases hv : listed.getD i false with
            | true => rfl
            | false => exact absurd ⟨i, hi, by unfold Dn; rw [hv]; simp⟩ hex
          rw [this] at hdn; cases hdn
      obtain ⟨i0, hi0, hni0⟩ := hnd
      have hset : ∀ j, j ∈ Region.ready .any ops listed → (listed.setIfInBounds j true).size = ops.size ∧ (∀ i, floatN ops.toList ≤ i → (listed.setIfInBounds j true).getD i false = false) ∧ Closed ops (Dn (listed.setIfInBounds j true)) := by
        intro j hj
        have hjm := ready_below rfl hcl hi0 hni0 hj
        refine ⟨by simpa using hsz, fun i hi => ?_, closed_set hcl hj⟩
        rw [getD_set_ne false (by omega)]
        exact hlow i hi
      have hfk : fuel + 1 + k = (fuel + k) + 1 := by omega
      rw [hfk]
      split at h
      · rename_i i x hp
        obtain ⟨h1, h2, h3, h4⟩ := pickTake_spec hp
        obtain ⟨o, ho, hox⟩ := xs_get hxs h2
        obtain ⟨v, hy, l', hl', hnext⟩ := xtake_ok (K := fun l' => xscr P Hs (scrOf ops xs (floatN ops.toList) fuel (listed.setIfInBounds i true)) l' H fun l' H' => xops P (xs.drop (floatN ops.toList)) l' H' K) hox h
        obtain ⟨g1, g2, g3⟩ := hset i h1
        refine wpF_first rfl (ready_below rfl hcl hi0 hni0 h1) ho (Region.noSelect_spec hsel) (fun _ a _ ⟨h1, h2, h3⟩ => ⟨h1, by rw [← h2]; cases o.dst <;> rfl, h3⟩) (fuel + k) listed (actD ds l) w hcl ?_ h1 hy hSH ?_
        · exact fun j oj hj hne hun hno => Region.free_spec ho h4 j oj hj hne hun hno
        · rw [hl']
          exact ih (listed.setIfInBounds i true) l' H w k g1 g2 g3 hk hw hSH hs hnext
      · unfold wpF
        rw [hdn]
        split at h
        · exact h.elim
        · rename_i j r hr
          refine ⟨fun h0 => (by rw [h0] at hr; cases hr), fun i hi => ?_⟩
          obtain ⟨x, hx, h'⟩ := alt_spec (P := P) (Hs := Hs) (l := l) (H := H) (C := fun i => scrOf ops xs (floatN ops.toList) fuel (listed.setIfInBounds i true)) (j :: r) (fun i hi => by
            rw [← hr] at hi
            exact ⟨xs[i]'(by rw [hl]; simpa using ready_lt hi), List.getElem?_eq_getElem _⟩) h i (by rw [← hr]; exact hi)
          obtain ⟨o, ho, hox⟩ := xs_get hxs hx
          obtain ⟨g1, g2, g3⟩ := hset i hi
          refine wpOp_mono ?_ (xo_ok ho hox h' hw _ (Qn.dead hs))
          rintro a w' ⟨l', H', rfl, k1, k2, ⟨k3, k4⟩⟩
          have hS' : SH Hs w' := k3.ok k1
          exact ⟨hS', ih (listed.setIfInBounds i true) l' H' w' k g1 g2 g3 hk k1 hS' (hs.trans k2) k4⟩
end
/-- Operations in whatever order: what is read in between is kept by all that acts. -/
theorem SDraw.held [Dies] {P : Program} {s : Scr} {tail : List XO} {K : List Value → Heap → Prop} {l : List Value} {H : Heap} (hm : P.follows .mixedOrders = true) (Hs : Heap) (hsub : Seen H Hs)
    (h : xscr P Hs s l H fun l' H' => xops P tail l' H' K) : SDraw P s tail K l H := by
  refine ⟨fun ds id ops Q hc hQ hD w hw => ?_⟩
  unfold cDraw at hc
  split at hc
  · rename_i xs hxs
    split at hc
    · rename_i hb
      simp only [Bool.and_eq_true] at hb
      simp only [Option.some.injEq, Prod.mk.injEq] at hc
      obtain ⟨rfl, rfl⟩ := hc
      have hmn : floatN ops.toList ≤ ops.size := by
        have : ∀ (l : List Nat) (m0 n : Nat), (∀ j ∈ l, j < n) → m0 ≤ n → l.foldr (fun j m => if m = j + 1 ∧ (List.range j).all (fun i => ((beforeOf ops.toList []).getD j []).contains i) then j else m) m0 ≤ n := by
          intro l
          induction l with
          | nil => intro m0 n _ h; exact h
          | cons a l ih =>
            intro m0 n ha h
            simp only [List.foldr_cons]
            split
            · have := ha a List.mem_cons_self; omega
            · exact ih m0 n (fun j hj => ha j (List.mem_cons_of_mem _ hj)) h
        have := this (List.range ops.toList.length) ops.toList.length ops.toList.length (fun j hj => List.mem_range.1 hj) (Nat.le_refl _)
        simpa [floatN] using this
      have h0 := xscr_ok (ds := ds) (w0 := w) (H0 := H) (K := K) hxs hb.1 hb.2 hmn (floatN ops.toList) (Array.replicate ops.size false) l H { w with drawn := w.drawn + 1 } (ops.size - floatN ops.toList)
        (by simp) (by intro i _; simp [Array.getD_eq_getD_getElem?, Array.getElem?_replicate]; split <;> rfl) (by intro k hk; exfalso; unfold Dn at hk; simp [Array.getD_eq_getD_getElem?, Array.getElem?_replicate] at hk; split at hk <;> cases hk) (Nat.le_refl _)
        (hw.drew _) (hsub.ok (hw.drew _)) (Step.drew _ _ _) h
      have h1 := wpAny_of_F _ _ _ _ h0
      have e : floatN ops.toList + (ops.size - floatN ops.toList) = ops.size := by omega
      rw [e] at h1
      have h2 := wp_region_any (id := id) hm h1
      refine wp_mono h2 ?_
      intro e a w' hq
      cases e with
      | normal =>
        obtain ⟨l', H', h1, h2, h3, h4⟩ := hq
        exact ⟨l', H', h1, h2, h3, hQ _ _ h4⟩
      | panic ch =>
        obtain ⟨h0, h1, H', h2, h3⟩ := hq
        exact ⟨a.tmps.toList, H', by obtain ⟨t, d⟩ := a; simp only at h1; subst h1; simp [actD], h2, h3, hD _ _ _ h0⟩
      | _ => exact hq.elim
    · cases hc
  · cases hc
end Go.Proofs.YtkajoepgebfjoaaDoor.Sx


/- Sx, part L: the words that a walk stops at, one law for each way on. -/
set_option linter.unusedVariables false
set_option linter.unusedSectionVars false
set_option linter.unusedSimpArgs false
namespace Go.Proofs.YtkajoepgebfjoaaDoor.Sx
open Go.RowKit

theorem Val.raw {n : Int} {K : Int → Prop} (h : K n) : Val n K := ⟨n, rfl, h⟩
theorem Val.to {n : Int} {K : Int → Prop} (m : Int) (e : n = m) (h : K m) : Val n K := ⟨m, e, h⟩
section
variable {n : Int} {K : Int → Prop}
theorem wrap_i64 (h1 : -9223372036854775808 ≤ n) (h2 : n ≤ 9223372036854775807) : IntKind.i64.wrap n = n := by
  unfold IntKind.wrap
  by_cases h : n % 18446744073709551616 ≥ 9223372036854775808
  · rw [if_pos (by simpa [IntKind.bits, IntKind.signed] using h)]
    simp only [IntKind.bits]
    omega
  · rw [if_neg (by simpa [IntKind.bits, IntKind.signed] using h)]
    simp only [IntKind.bits]
    omega
theorem wrap_u64 : IntKind.u64.wrap n = n % 18446744073709551616 := by simp [IntKind.wrap, IntKind.bits, IntKind.signed]
theorem wrap_u32 : IntKind.u32.wrap n = n % 4294967296 := by simp [IntKind.wrap, IntKind.bits, IntKind.signed]
theorem wrap_u16 : IntKind.u16.wrap n = n % 65536 := by simp [IntKind.wrap, IntKind.bits, IntKind.signed]
theorem wrap_u8 : IntKind.u8.wrap n = n % 256 := by simp [IntKind.wrap, IntKind.bits, IntKind.signed]
theorem wrap_i32 (h1 : -2147483648 ≤ n) (h2 : n ≤ 2147483647) : IntKind.i32.wrap n = n := by
  unfold IntKind.wrap
  by_cases h : n % 4294967296 ≥ 2147483648
  · rw [if_pos (by simpa [IntKind.bits, IntKind.signed] using h)]
    simp only [IntKind.bits]
    omega
  · rw [if_neg (by simpa [IntKind.bits, IntKind.signed] using h)]
    simp only [IntKind.bits]
    omega
theorem Val.i64 (h1 : -9223372036854775808 ≤ n) (h2 : n ≤ 9223372036854775807) (h : K n) : Val (IntKind.i64.wrap n) K := ⟨n, wrap_i64 h1 h2, h⟩
theorem Val.i32 (h1 : -2147483648 ≤ n) (h2 : n ≤ 2147483647) (h : K n) : Val (IntKind.i32.wrap n) K := ⟨n, wrap_i32 h1 h2, h⟩
theorem Val.u64 (h1 : 0 ≤ n) (h2 : n ≤ 18446744073709551615) (h : K n) : Val (IntKind.u64.wrap n) K := ⟨n, by rw [wrap_u64]; omega, h⟩
theorem Val.u32 (h1 : 0 ≤ n) (h2 : n ≤ 4294967295) (h : K n) : Val (IntKind.u32.wrap n) K := ⟨n, by rw [wrap_u32]; omega, h⟩
theorem Val.u16 (h1 : 0 ≤ n) (h2 : n ≤ 65535) (h : K n) : Val (IntKind.u16.wrap n) K := ⟨n, by rw [wrap_u16]; omega, h⟩
theorem Val.u8 (h1 : 0 ≤ n) (h2 : n ≤ 255) (h : K n) : Val (IntKind.u8.wrap n) K := ⟨n, by rw [wrap_u8]; omega, h⟩
theorem Val.u64m (h : K (n % 18446744073709551616)) : Val (IntKind.u64.wrap n) K := ⟨_, wrap_u64, h⟩
theorem Val.u32m (h : K (n % 4294967296)) : Val (IntKind.u32.wrap n) K := ⟨_, wrap_u32, h⟩
theorem Val.u8m (h : K (n % 256)) : Val (IntKind.u8.wrap n) K := ⟨_, wrap_u8, h⟩
theorem Val.tdiv {a b : Int} (ha : 0 ≤ a) (hb : 0 ≤ b) (h : Val (a / b) K) : Val (a.tdiv b) K := by rwa [Int.tdiv_eq_ediv_of_nonneg ha]
theorem Val.tmod {a b : Int} (ha : 0 ≤ a) (h : K (a % b)) : Val (a.tmod b) K := ⟨_, Int.tmod_eq_emod_of_nonneg ha, h⟩
/-- A shift to the right by a number that is known. -/
theorem Val.shr {k : IntKind} {a : Int} {b : Int} (j : Nat) (hb : b = (j : Int)) (hj : j ≤ k.bits) (h : K (a / 2 ^ j)) : Val (shrI k a b) K := by
  refine ⟨_, ?_, h⟩
  subst hb
  unfold shrI
  rw [Int.toNat_natCast, Nat.min_eq_left hj, Int.fdiv_eq_ediv_of_nonneg _ (by exact Int.le_of_lt (Int.pow_pos (by decide)))]
theorem Val.shr8 {k : IntKind} {a : Int} (h : K (a / 256)) : Val (shrI k a 8) K := Val.shr 8 rfl (by cases k <;> decide) h
theorem Val.shr16 {k : IntKind} {a : Int} (hk : 16 ≤ k.bits) (h : K (a / 65536)) : Val (shrI k a 16) K := Val.shr 16 rfl hk h
theorem Val.shr24 {k : IntKind} {a : Int} (hk : 24 ≤ k.bits) (h : K (a / 16777216)) : Val (shrI k a 24) K := Val.shr 24 rfl hk h
theorem Val.shl {k : IntKind} {a : Int} {b : Int} (j : Nat) (hb : b = (j : Int)) (hj : j ≤ k.bits) (h : Val (k.wrap (a * 2 ^ j)) K) : Val (shlI k a b) K := by
  subst hb
  unfold shlI
  rwa [Int.toNat_natCast, Nat.min_eq_left hj]
end
section
variable {b b1 b2 : Bool} {K1 K2 : Prop}
theorem Branch.t (hb : b = true) (h : K1) : Branch b K1 K2 := ⟨fun _ => h, fun e => by rw [hb] at e; cases e⟩
theorem Branch.f (hb : b = false) (h : K2) : Branch b K1 K2 := ⟨fun e => (by rw [hb] at e; cases e), fun _ => h⟩
theorem Branch.dt {p : Prop} [Decidable p] (hp : p) (h : K1) : Branch (decide p) K1 K2 := Branch.t (by simpa using hp) h
theorem Branch.df {p : Prop} [Decidable p] (hp : ¬ p) (h : K2) : Branch (decide p) K1 K2 := Branch.f (by simpa using hp) h
theorem Branch.d {p : Prop} [Decidable p] (h1 : p → K1) (h2 : ¬ p → K2) : Branch (decide p) K1 K2 := ⟨fun e => h1 (by simpa using e), fun e => h2 (by simpa using e)⟩
theorem Branch.not (h : Branch b K2 K1) : Branch (!b) K1 K2 := by
  obtain ⟨h1, h2⟩ := h
  cases b
  · exact ⟨fun _ => h2 rfl, fun e => by cases e⟩
  · exact ⟨fun e => (by cases e), fun _ => h1 rfl⟩
theorem Branch.and (h : Branch b1 (Branch b2 K1 K2) K2) : Branch (b1 && b2) K1 K2 := by
  obtain ⟨h1, h2⟩ := h
  cases b1
  · exact ⟨fun e => (by cases e), fun _ => h2 rfl⟩
  · obtain ⟨h3, h4⟩ := h1 rfl
    exact ⟨fun e => h3 (by simpa using e), fun e => h4 (by simpa using e)⟩
theorem Branch.or (h : Branch b1 K1 (Branch b2 K1 K2)) : Branch (b1 || b2) K1 K2 := by
  obtain ⟨h1, h2⟩ := h
  cases b1
  · obtain ⟨h3, h4⟩ := h2 rfl
    exact ⟨fun e => h3 (by simpa using e), fun e => h4 (by simpa using e)⟩
  · exact ⟨fun _ => h1 rfl, fun e => by cases e⟩
end
theorem Idx.auto {i : Int} {n : Nat} {K : Nat → Prop} (h0 : 0 ≤ i) (h1 : i < (n : Int)) (h : K i.toNat) : Idx i n K := ⟨i.toNat, by omega, by omega, h⟩
theorem Idx.nat {j n : Nat} {K : Nat → Prop} (hj : j < n) (h : K j) : Idx (j : Int) n K := ⟨j, rfl, hj, h⟩
theorem Idx.of {i : Int} {n : Nat} {K : Nat → Prop} (j : Nat) (e : i = (j : Int)) (hj : j < n) (h : K j) : Idx i n K := ⟨j, e, hj, h⟩
section
variable {r : Nat} {b : Blk} {B : Heap} {K : Heap → Blk → Heap → Prop} {x0 x1 x2 x3 x4 x5 x6 x7 x8 x9 x10 x11 : Nat × Blk}
theorem Look.at0 (h : K [] b B) : Look r ((r, b) :: B) K := ⟨[], b, B, rfl, h⟩
theorem Look.at1 (h : K [x0] b B) : Look r (x0 :: (r, b) :: B) K := ⟨[x0], b, B, rfl, h⟩
theorem Look.at2 (h : K [x0, x1] b B) : Look r (x0 :: x1 :: (r, b) :: B) K := ⟨[x0, x1], b, B, rfl, h⟩
theorem Look.at3 (h : K [x0, x1, x2] b B) : Look r (x0 :: x1 :: x2 :: (r, b) :: B) K := ⟨[x0, x1, x2], b, B, rfl, h⟩
theorem Look.at4 (h : K [x0, x1, x2, x3] b B) : Look r (x0 :: x1 :: x2 :: x3 :: (r, b) :: B) K := ⟨[x0, x1, x2, x3], b, B, rfl, h⟩
theorem Look.at5 (h : K [x0, x1, x2, x3, x4] b B) : Look r (x0 :: x1 :: x2 :: x3 :: x4 :: (r, b) :: B) K := ⟨[x0, x1, x2, x3, x4], b, B, rfl, h⟩
theorem Look.at6 (h : K [x0, x1, x2, x3, x4, x5] b B) : Look r (x0 :: x1 :: x2 :: x3 :: x4 :: x5 :: (r, b) :: B) K := ⟨[x0, x1, x2, x3, x4, x5], b, B, rfl, h⟩
theorem Look.at7 (h : K [x0, x1, x2, x3, x4, x5, x6] b B) : Look r (x0 :: x1 :: x2 :: x3 :: x4 :: x5 :: x6 :: (r, b) :: B) K := ⟨[x0, x1, x2, x3, x4, x5, x6], b, B, rfl, h⟩
theorem Look.at8 (h : K [x0, x1, x2, x3, x4, x5, x6, x7] b B) : Look r (x0 :: x1 :: x2 :: x3 :: x4 :: x5 :: x6 :: x7 :: (r, b) :: B) K := ⟨[x0, x1, x2, x3, x4, x5, x6, x7], b, B, rfl, h⟩
end
section
variable {t : TypeId} {cs vs : List Value} {fz : Nat × Nat} {o n N : Nat} {f : Nat → Option Value}
theorem Cell.row {K : Value → Prop} (h : cellK cs o K) : Cell (.row t cs fz) o K := by obtain ⟨v, h1, h2⟩ := cellK_ok h; exact ⟨v, h1, h2⟩
theorem Cell.buf {K : Value → Prop} (h : cellK cs o K) : Cell (.buf t cs N) o K := by obtain ⟨v, h1, h2⟩ := cellK_ok h; exact ⟨v, h1, h2⟩
theorem Cell.ro {K : Value → Prop} {v : Value} (hv : f o = some v) (h : K v) : Cell (.ro f) o K := ⟨v, hv, h⟩
theorem Cell.get {b : Blk} {K : Value → Prop} {v : Value} (hv : b.cell o = some v) (h : K v) : Cell b o K := ⟨v, hv, h⟩
theorem Cells.row {K : List Value → Prop} (hl : Nat.ble (o + n) cs.length = true) (h : sliceK cs o n K) : Cells (.row t cs fz) o n K := by
  have hl := Nat.le_of_ble_eq_true hl
  refine ⟨(cs.drop o).take n, by simp; omega, fun j v hj => ?_, sliceK_ok h⟩
  show cs[o + j]? = some v
  rw [List.getElem?_take] at hj
  split at hj
  · simpa using hj
  · cases hj
theorem Cells.get {b : Blk} {K : List Value → Prop} (vs : List Value) (hl : vs.length = n) (hc : ∀ j v, vs[j]? = some v → b.cell (o + j) = some v) (h : K vs) : Cells b o n K := ⟨vs, hl, hc, h⟩
theorem Put.row {K : Blk → Prop} (hl : Nat.ble (o + vs.length) cs.length = true) (h : putsK cs o vs fun cs' => K (.row t cs' (0, 0))) : Put (.row t cs (0, 0)) o vs K := by
  have hl := Nat.le_of_ble_eq_true hl
  exact ⟨_, ⟨hl, .inl rfl, rfl⟩, putsK_ok hl h⟩
theorem Put.buf {K : Blk → Prop} (hl : Nat.ble (o + vs.length) cs.length = true) (h : putsK cs o vs fun cs' => K (.buf t cs' N)) : Put (.buf t cs N) o vs K := by
  have hl := Nat.le_of_ble_eq_true hl
  exact ⟨_, ⟨hl, rfl⟩, putsK_ok hl h⟩
end
section
variable [Dies] {P : Program} {s : Scr} {tail : List XO} {K : List Value → Heap → Prop} {l : List Value} {H Hs : Heap} {KP : Prop}
theorem Seen.of : ∀ {Hs H : Heap}, (∀ p ∈ Hs, p ∈ H) → Seen H Hs
  | [], _, _ => .nil
  | p :: Hs, _, h => .same (h p (.head _)) (Seen.of fun q hq => h q (.tail _ hq))
theorem SDraw.all (hm : P.follows .mixedOrders = true) (h : xscr P H s l H fun l' H' => xops P tail l' H' K) : SDraw P s tail K l H := SDraw.held hm H (Seen.of fun _ h => h) h
theorem Kept.k0 (h : KP) : Kept Hs Hs KP := ⟨Seen.of fun _ h => h, h⟩
theorem Kept.k1 {p : Nat × Blk} (h : KP) : Kept Hs (p :: Hs) KP := ⟨Seen.of fun _ h => .tail _ h, h⟩
theorem Kept.k2 {p q : Nat × Blk} (h : KP) : Kept Hs (p :: q :: Hs) KP := ⟨Seen.of fun _ h => .tail _ (.tail _ h), h⟩
theorem Kept.k3 {p q r : Nat × Blk} (h : KP) : Kept Hs (p :: q :: r :: Hs) KP := ⟨Seen.of fun _ h => .tail _ (.tail _ (.tail _ h)), h⟩
theorem Kept.k4 {p q r s : Nat × Blk} (h : KP) : Kept Hs (p :: q :: r :: s :: Hs) KP := ⟨Seen.of fun _ h => .tail _ (.tail _ (.tail _ (.tail _ h))), h⟩
theorem Kept.sub (hs : Hs.Sublist H) (h : KP) : Kept Hs H KP := ⟨Seen.of fun _ hp => hs.subset hp, h⟩
/-- Some cells of a block, by their numbers. -/
def partF : List (Nat × Value) → Nat → Option Value
  | [], _ => none
  | (i, v) :: r, j => match Nat.beq i j with
    | true => some v
    | false => partF r j
def PartOf (b : Blk) : List (Nat × Value) → Prop
  | [] => True
  | (i, v) :: r => b.cell i = some v ∧ PartOf b r
theorem partF_ok {b : Blk} : ∀ {l : List (Nat × Value)}, PartOf b l → ∀ j v, partF l j = some v → b.cell j = some v
  | [], _, j, v, h => by cases h
  | (i, u) :: r, ⟨h1, h2⟩, j, v, h => by
    unfold partF at h
    split at h
    · rename_i e
      injection h with h
      rw [← Nat.eq_of_beq_eq_true e, ← h]; exact h1
    · exact partF_ok h2 j v h
theorem Seen.cells {H Hs : Heap} {r : Nat} {b : Blk} {l : List (Nat × Value)} (hm : (r, b) ∈ H) (hp : PartOf b l) (h : Seen H Hs) : Seen H ((r, .ro (partF l)) :: Hs) := .part hm (partF_ok hp) h
end
section
variable [Dies] {P : Program} {f : FuncId} {args : List Value} {H : Heap} {K : Value → Heap → Prop}
end
section
variable [Dies] {P : Program} {f : FuncId} {args : List Value} {g : Nat} {b : Blk} {B : Heap} {K : Value → Heap → Prop} {x0 x1 x2 x3 x4 x5 x6 x7 x8 x9 x10 x11 : Nat × Blk}
/-- A contract that knows one block, where more is known. -/
theorem SCalls.atList (A : Heap) (h : SCalls P f args [(g, b)] fun v H' => K v (A ++ (H' ++ B))) : SCalls P f args (A ++ (g, b) :: B) K := by
  have h1 := h.frame (R := A ++ B)
  have hp : (A ++ (g, b) :: B).Perm ([(g, b)] ++ (A ++ B)) := List.perm_middle
  refine (h1.perm hp).mono ?_ |>.keep
  rintro v H' ⟨H1, rfl, hK⟩
  refine Keep.perm _ ?_ hK
  exact (List.append_assoc H1 A B ▸ (List.perm_append_comm.append_right B).trans (by rw [List.append_assoc]) : (H1 ++ (A ++ B)).Perm (A ++ (H1 ++ B)))
theorem SCalls.at0 (h : SCalls P f args [(g, b)] fun v H' => appK H' B fun H2 => K v (H2)) : SCalls P f args ((g, b) :: B) K :=
  SCalls.atList [] (h.mono fun v H' h => (appK_ok (K := fun H2 => K v (H2)) h : K v ((H' ++ B))))
theorem SCalls.at1 (h : SCalls P f args [(g, b)] fun v H' => appK H' B fun H2 => K v (x0 :: H2)) : SCalls P f args (x0 :: (g, b) :: B) K :=
  SCalls.atList [x0] (h.mono fun v H' h => (appK_ok (K := fun H2 => K v (x0 :: H2)) h : K v (x0 :: (H' ++ B))))
theorem SCalls.at2 (h : SCalls P f args [(g, b)] fun v H' => appK H' B fun H2 => K v (x0 :: x1 :: H2)) : SCalls P f args (x0 :: x1 :: (g, b) :: B) K :=
  SCalls.atList [x0, x1] (h.mono fun v H' h => (appK_ok (K := fun H2 => K v (x0 :: x1 :: H2)) h : K v (x0 :: x1 :: (H' ++ B))))
theorem SCalls.at3 (h : SCalls P f args [(g, b)] fun v H' => appK H' B fun H2 => K v (x0 :: x1 :: x2 :: H2)) : SCalls P f args (x0 :: x1 :: x2 :: (g, b) :: B) K :=
  SCalls.atList [x0, x1, x2] (h.mono fun v H' h => (appK_ok (K := fun H2 => K v (x0 :: x1 :: x2 :: H2)) h : K v (x0 :: x1 :: x2 :: (H' ++ B))))
theorem SCalls.at4 (h : SCalls P f args [(g, b)] fun v H' => appK H' B fun H2 => K v (x0 :: x1 :: x2 :: x3 :: H2)) : SCalls P f args (x0 :: x1 :: x2 :: x3 :: (g, b) :: B) K :=
  SCalls.atList [x0, x1, x2, x3] (h.mono fun v H' h => (appK_ok (K := fun H2 => K v (x0 :: x1 :: x2 :: x3 :: H2)) h : K v (x0 :: x1 :: x2 :: x3 :: (H' ++ B))))
theorem SCalls.at5 (h : SCalls P f args [(g, b)] fun v H' => appK H' B fun H2 => K v (x0 :: x1 :: x2 :: x3 :: x4 :: H2)) : SCalls P f args (x0 :: x1 :: x2 :: x3 :: x4 :: (g, b) :: B) K :=
  SCalls.atList [x0, x1, x2, x3, x4] (h.mono fun v H' h => (appK_ok (K := fun H2 => K v (x0 :: x1 :: x2 :: x3 :: x4 :: H2)) h : K v (x0 :: x1 :: x2 :: x3 :: x4 :: (H' ++ B))))
theorem SCalls.at6 (h : SCalls P f args [(g, b)] fun v H' => appK H' B fun H2 => K v (x0 :: x1 :: x2 :: x3 :: x4 :: x5 :: H2)) : SCalls P f args (x0 :: x1 :: x2 :: x3 :: x4 :: x5 :: (g, b) :: B) K :=
  SCalls.atList [x0, x1, x2, x3, x4, x5] (h.mono fun v H' h => (appK_ok (K := fun H2 => K v (x0 :: x1 :: x2 :: x3 :: x4 :: x5 :: H2)) h : K v (x0 :: x1 :: x2 :: x3 :: x4 :: x5 :: (H' ++ B))))
theorem SCalls.at7 (h : SCalls P f args [(g, b)] fun v H' => appK H' B fun H2 => K v (x0 :: x1 :: x2 :: x3 :: x4 :: x5 :: x6 :: H2)) : SCalls P f args (x0 :: x1 :: x2 :: x3 :: x4 :: x5 :: x6 :: (g, b) :: B) K :=
  SCalls.atList [x0, x1, x2, x3, x4, x5, x6] (h.mono fun v H' h => (appK_ok (K := fun H2 => K v (x0 :: x1 :: x2 :: x3 :: x4 :: x5 :: x6 :: H2)) h : K v (x0 :: x1 :: x2 :: x3 :: x4 :: x5 :: x6 :: (H' ++ B))))
theorem SCalls.at8 (h : SCalls P f args [(g, b)] fun v H' => appK H' B fun H2 => K v (x0 :: x1 :: x2 :: x3 :: x4 :: x5 :: x6 :: x7 :: H2)) : SCalls P f args (x0 :: x1 :: x2 :: x3 :: x4 :: x5 :: x6 :: x7 :: (g, b) :: B) K :=
  SCalls.atList [x0, x1, x2, x3, x4, x5, x6, x7] (h.mono fun v H' h => (appK_ok (K := fun H2 => K v (x0 :: x1 :: x2 :: x3 :: x4 :: x5 :: x6 :: x7 :: H2)) h : K v (x0 :: x1 :: x2 :: x3 :: x4 :: x5 :: x6 :: x7 :: (H' ++ B))))
end
section
variable {H : Heap} {K : Heap → Prop} {x0 x1 x2 x3 x4 x5 x6 x7 x8 x9 x10 x11 : Nat × Blk}
theorem Keep.d0 (h : K H) : Keep (H) K := .sub H (.refl _) h
theorem Keep.d1 (h : K H) : Keep (x0 :: H) K := .sub H ((List.sublist_append_right [x0] H)) h
theorem Keep.d2 (h : K H) : Keep (x0 :: x1 :: H) K := .sub H ((List.sublist_append_right [x0, x1] H)) h
end
/-- A law that holds of whatever is not known. -/
theorem SCalls.fin {P : Program} {f : FuncId} {args : List Value} {H : Heap} (h : SCalls P f args H fun v _ => v = .bool true) (w : World) (hw : Holds w H) (hx : ∀ p ∈ H, p.2.excl = false) :
    Calls P f args.toArray w fun e w' => e = .returned (.bool true) ∧ Below w.heap.size w w' := by
  refine (h.toBelow hw hx).mono ?_
  rintro e w' ⟨v, H', rfl, rfl, hb⟩
  exact ⟨rfl, hb⟩
theorem wf_u64 {n : Int} (h : (Lit.int .u64 n).wf = true) : 0 ≤ n ∧ n ≤ 18446744073709551615 := by simp [Lit.wf, IntKind.min, IntKind.max, IntKind.signed, IntKind.bits] at h; omega
end Go.Proofs.YtkajoepgebfjoaaDoor.Sx


/- Sx, part M: append on a slice of the call's own (a 'buf'), or on none. -/
set_option linter.unusedVariables false
set_option linter.unusedSectionVars false
set_option linter.unusedSimpArgs false
namespace Go.Proofs.YtkajoepgebfjoaaDoor.Sx
open Go.RowKit

section
variable [Dies] {P : Program} {o : Oper} {t e : TypeId} {i : TypeInfo} {z : Value} {xs xx : Operand} {A B H : Heap} {r n cap m c : Nat} {cs news : List Value} {r2 o2 : Nat} {b2 : Blk} {K : Value → Heap → Prop}
end
end Go.Proofs.YtkajoepgebfjoaaDoor.Sx


/- Sx, part N: blocks that stand in a list of whatever length ('ms.map f'): looked up, and written, by their place; what is apart. -/
set_option linter.unusedVariables false
set_option linter.unusedSectionVars false
set_option linter.unusedSimpArgs false
namespace Go.Proofs.YtkajoepgebfjoaaDoor.Sx
open Go.RowKit

section
variable {α : Type} {f : α → Nat × Blk} {ms : List α} {j : Nat} {x x' : α} {r : Nat} {b b' : Blk} {x0 : Nat × Blk} {H : Heap}
theorem Look.skip {K : Heap → Blk → Heap → Prop} (h : Look r H fun A b B => K (x0 :: A) b B) : Look r (x0 :: H) K := by
  obtain ⟨A, b, B, rfl, h⟩ := h
  exact ⟨x0 :: A, b, B, rfl, h⟩
theorem appK_to {α : Type} {k l : List α} {K : List α → Prop} (h : K (k ++ l)) : appK k l K := by
  induction k generalizing K with
  | nil => exact h
  | cons a k ih => exact ih (K := fun l' => K (a :: l')) h
theorem SLoop.sep [Dies] {P : Program} {c : XCode} {Q : Post} {l : List Value} (h : Sep H → SLoop P c Q l H) : SLoop P c Q l H :=
  ⟨fun hd ds c hc w hw => (h hw.sep).run hd ds c hc w hw⟩
theorem SCalls.sep [Dies] {P : Program} {g : FuncId} {args : List Value} {K : Value → Heap → Prop} (he : ∀ w, (callFunc g args.toArray).run P w = .ok (.enter g args.toArray) w) (h : Sep H → SCalls P g args H K) : SCalls P g args H K :=
  ⟨he, fun w hw => (h hw.sep).run w hw⟩
end
/-- A contract that reads alone, where more is known. -/
theorem SCalls.seen [Dies] {P : Program} {g : FuncId} {args : List Value} {H H1 R : Heap} {v : Value} {K : Value → Heap → Prop} (hp : H.Perm (H1 ++ R)) (h : ∀ K : Value → Heap → Prop, K v H1 → SCalls P g args H1 K) (hk : K v H) : SCalls P g args H K := by
  refine SCalls.keep (((h (fun u H' => u = v ∧ H' = H1) ⟨rfl, rfl⟩).frame (R := R) |>.perm hp).mono ?_)
  rintro u H' ⟨H2, rfl, rfl, rfl⟩
  exact Keep.perm _ hp.symm hk
/-- A row is a buffer without room. -/
theorem Blk.At.buf {t : TypeId} {cs : List Value} {w : World} {r : Nat} (h : (Blk.row t cs (0, 0)).At w r) : (Blk.buf t cs cs.length).At w r := ⟨[], by simp, by rw [List.append_nil]; exact h⟩
/-- A contract that changes a part, where more is known. -/
theorem SCalls.upd [Dies] {P : Program} {g : FuncId} {args : List Value} {H H1 H1' H' R : Heap} {v : Value} {K : Value → Heap → Prop} (hp : H.Perm (H1 ++ R)) (hp' : (H1' ++ R).Perm H') (h : ∀ K : Value → Heap → Prop, K v H1' → SCalls P g args H1 K) (hk : K v H') : SCalls P g args H K := by
  refine SCalls.keep (((h (fun u H' => u = v ∧ H' = H1') ⟨rfl, rfl⟩).frame (R := R) |>.perm hp).mono ?_)
  rintro u H' ⟨H2, rfl, rfl, rfl⟩
  exact Keep.perm _ hp' hk
section
variable {α : Type} {f : α → α} {ms : List α} {j : Nat} {x : α}
end
/-- What append asks of a slice's type and its element's. -/
noncomputable def tyOk (P : Program) (t e : TypeId) (size bytes : Nat) : Bool :=
  match P.underlying t, P.info? e with
  | some (.slice e'), some i => Nat.beq e' e && Nat.beq i.size size && Nat.beq i.bytes bytes && (match i.zero with | some z => Nat.beq z.cells.size size | none => false)
  | _, _ => false
theorem tyOk_spec {P : Program} {t e : TypeId} {size bytes : Nat} (h : tyOk P t e size bytes = true) : P.underlying t = some (.slice e) ∧ ∃ i z, P.info? e = some i ∧ i.zero = some z ∧ z.cells.size = i.size ∧ i.size = size ∧ i.bytes = bytes := by
  unfold tyOk at h
  split at h
  · rename_i e' i h1 h2
    simp only [Bool.and_eq_true] at h
    obtain ⟨⟨⟨h3, h4⟩, h5⟩, h6⟩ := h
    have h3 := Nat.eq_of_beq_eq_true h3
    subst h3
    have h4 := Nat.eq_of_beq_eq_true h4
    have h5 := Nat.eq_of_beq_eq_true h5
    split at h6
    · rename_i z hz
      exact ⟨h1, i, z, h2, hz, by rw [h4]; exact Nat.eq_of_beq_eq_true h6, h4, h5⟩
    · cases h6
  · cases h
section
variable [Dies] {P : Program} {o : Oper} {t e : TypeId} {xs xx : Operand} {A B H : Heap} {r n cap m c size bytes N : Nat} {cs news : List Value} {r2 o2 : Nat} {b2 : Blk} {K : Value → Heap → Prop}
end
/-- Kept, in another order: ls are the parts, p their order in H, q what is kept, d what is dropped. -/
theorem Keep.by {H : Heap} {K : Heap → Prop} (ls : List Heap) (p q d : List Nat) (hp : p.Perm (q ++ d)) (hH : H = p.flatMap fun i => ls.getD i []) (h : K (q.flatMap fun i => ls.getD i [])) : Keep H K := by
  subst hH
  refine ⟨(q ++ d).flatMap fun i => ls.getD i [], q.flatMap fun i => ls.getD i [], hp.flatMap_right _, ?_, h⟩
  rw [List.flatMap_append]
  exact List.sublist_append_left _ _
section
variable [Dies] {P : Program} {o : Oper} {t e : TypeId} {xs xx : Operand} {H : Heap} {n cap c size bytes : Nat} {K : Value → Heap → Prop}
end
theorem flat_nth {α β : Type} {f : α → List β} {k : Nat} (hk : ∀ x, (f x).length = k) : ∀ {L : List α} {j i : Nat} {x : α}, L[j]? = some x → i < k → (L.flatMap f)[j * k + i]? = (f x)[i]?
  | [], j, i, x, hj, _ => by simp at hj
  | y :: L, 0, i, x, hj, hi => by
    simp only [List.getElem?_cons_zero, Option.some.injEq] at hj
    subst hj
    rw [List.flatMap_cons, Nat.zero_mul, Nat.zero_add, List.getElem?_append_left (by rw [hk]; exact hi)]
  | y :: L, j + 1, i, x, hj, hi => by
    rw [List.flatMap_cons, List.getElem?_append_right (by rw [hk, Nat.add_mul]; omega), hk, show (j + 1) * k + i - k = j * k + i by rw [Nat.add_mul]; omega]
    exact flat_nth hk (by simpa using hj) hi
end Go.Proofs.YtkajoepgebfjoaaDoor.Sx


/- Sx, part O: small helps: parts of a heap glued in another order. -/
set_option linter.unusedVariables false
set_option linter.unusedSimpArgs false
namespace Go.Proofs.YtkajoepgebfjoaaDoor.Sx
open Go.RowKit
end Go.Proofs.YtkajoepgebfjoaaDoor.Sx


/- Sx, part P: functions without a body; clear. -/
set_option linter.unusedVariables false
set_option linter.unusedSectionVars false
set_option linter.unusedSimpArgs false
namespace Go.Proofs.YtkajoepgebfjoaaDoor.Sx
open Go.RowKit
section
variable [Dies] {P : Program} {o : Oper} {H : Heap} {K : Value → Heap → Prop} {f : FuncId} {as : Array Operand} {ts : Array TypeId} {vs : List Value}
theorem map_tail {ρ : Operand → Value} {l : List Operand} {x : Operand} {u : Value} {vs : List Value} (h : (x :: l).map ρ = u :: vs) : l.map ρ = vs := by
  injection h
/-- A slice of the call's own is cleared (from cell o on). -/
theorem RawV.clear {t e : TypeId} {x : Operand} {A B : Heap} {r n c N o' size bytes : Nat} {cs : List Value} (ho : o.op = .call { callee := .builtin .clear, args := #[x], argTypes := #[t] })
    (ht : tyOk P t e size bytes = true) (h0 : ∀ i z, P.info? e = some i → i.zero = some z → ∀ u ∈ z.cells.toList, u.oneCell' = true) (hsz : 0 < size) (hl : o' + n * size ≤ cs.length)
    (h : ∀ ys : List Value, ys.length = n * size → K (.tuple ⟨[]⟩) (A ++ (r, .buf e (cs.take o' ++ ys ++ cs.drop (o' + n * size)) N) :: B)) :
    RawV P o [.slice (some ⟨r, o', none⟩) n c] (A ++ (r, .buf e cs N) :: B) K := by
  obtain ⟨h3, i, z, h4, h5, h6, rfl, rfl⟩ := tyOk_spec ht
  have hone := h0 i z h4 h5
  refine ⟨fun ρ w hm hw => .inl ?_⟩
  have hm' : [ρ x] = [.slice (some ⟨r, o', none⟩) n c] := by
    rw [ho] at hm
    exact hm
  have e1 : ρ x = .slice (some ⟨r, o', none⟩) n c := by injection hm'
  have hex : execOp ρ o = (Builtin.clear_ #[t] o.type #[.slice (some ⟨r, o', none⟩) n c] >>= fun v => pure (.value v)) := by
    simp only [execOp, ho, resolve, invoke, builtin, List.map_toArray, List.map_cons, List.map_nil, e1]
    rfl
  rw [hex]
  rcases Nat.eq_zero_or_pos n with rfl | hn
  · have hr : (Builtin.clear_ #[t] o.type #[.slice (some ⟨r, o', none⟩) 0 c]).run P w = .ok (.tuple #[]) w := by
      simp [Builtin.clear_, run_underlying h3]
    have h := h [] (by simp)
    simp only [Nat.zero_mul, Nat.add_zero, List.append_nil, List.take_append_drop] at h
    exact ⟨_, w, _, .inl (by rw [Sem.run_bind, hr]; rfl), hw, Step.refl _ _, h⟩
  · obtain ⟨sl, hsl, hg⟩ := (hw.mid : (Blk.buf e cs N).At w r)
    have hz : Builtin.zeroCells z.cells n = (zerosOf z.cells.toList (n * z.cells.size)).toArray := zerosOf_spec z.cells (n * z.cells.size) (fun _ => by omega)
    have hzl : (zerosOf z.cells.toList (n * z.cells.size)).length = n * i.size := by simp [zerosOf, h6]
    have hz1 : ∀ u ∈ zerosOf z.cells.toList (n * z.cells.size), u.oneCell' = true := by
      intro u hu
      simp only [zerosOf, List.mem_map, List.mem_range] at hu
      obtain ⟨j, hj, rfl⟩ := hu
      have hlt : j % z.cells.toList.length < z.cells.toList.length := Nat.mod_lt _ (by simp; omega)
      refine hone _ ?_
      rw [List.getD_eq_getElem?_getD, List.getElem?_eq_getElem hlt]
      exact List.getElem_mem hlt
    generalize zerosOf z.cells.toList (n * z.cells.size) = ys at hz hzl hz1
    have hst := run_storeCells_fz P r o' e (0, 0) ys 0 _ w hg (by simp; omega) (.inl rfl) hz1
    have hr : (Builtin.clear_ #[t] o.type #[.slice (some ⟨r, o', none⟩) n c]).run P w = .ok (.tuple #[]) (w.setRow r ((cs ++ sl).toArray.toList.take (o' + 0) ++ ys ++ (cs ++ sl).toArray.toList.drop (o' + 0 + ys.length)).toArray) := by
      have hn0 : n ≠ 0 := by omega
      obtain ⟨m, rfl⟩ : ∃ m, n = m + 1 := ⟨n - 1, by omega⟩
      simp [Builtin.clear_, run_underlying h3, zeroValue, typeInfo, h4, h5, hz, hst]
    have hcur : (cs ++ sl).toArray.toList.take (o' + 0) ++ ys ++ (cs ++ sl).toArray.toList.drop (o' + 0 + ys.length) = (cs.take o' ++ ys ++ cs.drop (o' + n * i.size)) ++ sl := by
      rw [Nat.add_zero, hzl]
      have : o' ≤ cs.length := by omega
      rw [List.take_append_of_le_length (by omega), List.drop_append_of_le_length hl]
      simp [List.append_assoc]
    rw [hcur] at hr
    have hput := hw.put (w' := w.setRow r ((cs.take o' ++ ys ++ cs.drop (o' + n * i.size)) ++ sl).toArray) (b' := .buf e (cs.take o' ++ ys ++ cs.drop (o' + n * i.size)) N) rfl rfl (by simp) rfl rfl rfl (fun k hk => setRow_other w r k _ hk)
      ⟨sl, by simp only [List.length_append, List.length_take, List.length_drop, hzl]; omega, setRow_heap w r _ _ e (0, 0) hg⟩
    exact ⟨_, _, _, .inl (by rw [Sem.run_bind, hr]; rfl), hput.1, hput.2, h ys hzl⟩
end
end Go.Proofs.YtkajoepgebfjoaaDoor.Sx


/- Sx, part Q: make; lists of whole numbers in a buffer. -/
set_option linter.unusedVariables false
set_option linter.unusedSectionVars false
set_option linter.unusedSimpArgs false
namespace Go.Proofs.YtkajoepgebfjoaaDoor.Sx
open Go.RowKit
section
variable [Dies] {P : Program} {o : Oper} {t e : TypeId} {xl xc : Operand} {H : Heap} {n bytes : Nat} {K : Value → Heap → Prop} {zv : Value}
theorem made_one (n : Nat) : madeCells #[zv] n = (List.replicate n zv).toArray := by
  apply Array.ext'
  simp only [madeCells, Array.toList_map, Array.toList_range]
  refine List.ext_getElem (by simp) fun i h1 h2 => ?_
  simp [Nat.mod_one]
/-- A slice of n elements of one cell each. -/
theorem RawV.make1 {k : IntKind} (ho : o.op = .makeSlice t xl xc) (ht : tyOk P t e 1 bytes = true) (hz : (P.info? e).bind (·.zero) = some zv) (hc : zv.cells = #[zv]) (hb : bytes * n ≤ 281474976710656) (hn : n ≤ maxLen)
    (h : ∀ r, K (.slice (some ⟨r, 0, none⟩) n n) ((r, .buf e (List.replicate n zv) n) :: H)) : RawV P o [.int k (n : Int), .int k (n : Int)] H K := by
  obtain ⟨h3, i, z, h4, h5, h6, h7, rfl⟩ := tyOk_spec ht
  rw [h4] at hz
  simp only [Option.bind_some] at hz
  rw [h5] at hz
  injection hz with hz
  subst hz
  refine ⟨fun ρ w hm hw => .inl ?_⟩
  rw [ho] at hm
  have hm : [ρ xl, ρ xc] = [.int k (n : Int), .int k (n : Int)] := hm
  injection hm with e1 hm
  injection hm with e2 hm
  have hex : execOp ρ o = (Instr.makeSlice t (.int k (n : Int)) (.int k (n : Int)) >>= fun v => pure (.value v)) := by
    simp only [execOp, ho, e1, e2]
  have hn63 : (n : Int) ≤ 9223372036854775807 := by simp only [maxLen] at hn; omega
  have hb' : (i.bytes : Int) * (n : Int) ≤ 281474976710656 := by
    have h : ((i.bytes * n : Nat) : Int) ≤ 281474976710656 := by omega
    rwa [Int.natCast_mul] at h
  have hr := run_make (P := P) w t e i z h3 h4 h5 k k (n : Int) (n : Int) (by omega) (Int.le_refl _) hb' hn63
  rw [hc, h7, Int.toNat_natCast, Nat.mul_one, made_one] at hr
  have hal := hw.alloc (.cells (List.replicate n z).toArray e) (.buf e (List.replicate n z) n) ⟨[], by simp, by rw [heap_alloc_new, List.append_nil]⟩
  exact ⟨_, _, _, .inl (by rw [hex, Sem.run_bind, hr]; rfl), hal.1, hal.2, h _⟩
end
section
variable {t : TypeId} {N j : Nat} {xs : List Int} {k : IntKind} {v : Int}
end
end Go.Proofs.YtkajoepgebfjoaaDoor.Sx


/- Sx, part R: maps: made, looked up, written. -/
set_option linter.unusedVariables false
set_option linter.unusedSectionVars false
set_option linter.unusedSimpArgs false
namespace Go.Proofs.YtkajoepgebfjoaaDoor.Sx
open Go.RowKit Go.MapKept
/-- One entry of a map: its key, its value, when it came. -/
structure Ent (κ : Type) where
  key : κ
  val : Value
  born : Nat
def Ent.of {κ : Type} (f : κ → Value) (x : Ent κ) : MapEntry := { key := f x.key, val := x.val, born := x.born }
/-- A map in memory. -/
def mapB {κ : Type} (f : κ → Value) (l : List (Ent κ)) (c : Nat) : Blk := .obj (.map (l.map (Ent.of f)).toArray c)
/-- Keys of a kind. -/
structure Keys {κ : Type} (d : TypeDesc) (f : κ → Value) : Prop where
  is : ∀ a, IsKey d (f a)
  inj : ∀ a b, f a = f b → a = b
/-- What a map's type says. -/
noncomputable def mapTy (P : Program) (t k e : TypeId) (d : TypeDesc) (zv : Value) : Prop :=
  P.underlying t = some (.map k e) ∧ P.underlying k = some d ∧ ∃ i, P.info? e = some i ∧ i.zero = some zv
theorem run_zero_of {P : Program} {w : World} {e : TypeId} {i : TypeInfo} {zv : Value} (hi : P.info? e = some i) (hz : i.zero = some zv) : (zeroValue e).run P w = .ok zv w := by
  simp [zeroValue, typeInfo, hi, hz, Result.andThen]
section
variable [Dies] {P : Program} {o : Oper} {t k e : TypeId} {d : TypeDesc} {H A B : Heap} {K : Value → Heap → Prop} {zv : Value} {κ : Type} {f : κ → Value} {l : List (Ent κ)} {c r : Nat} {a : κ} {xm xk xv : Operand}
theorem mapTy.of {i : TypeInfo} (h1 : P.underlying t = some (.map k e)) (h2 : P.underlying k = some d) (h3 : (P.info? e).bind (·.zero) = some zv) : mapTy P t k e d zv := by
  refine ⟨h1, h2, ?_⟩
  cases hi : P.info? e with
  | none => rw [hi] at h3; cases h3
  | some i => rw [hi] at h3; exact ⟨i, rfl, h3⟩
theorem ents_keys (hk : Keys d f) (l : List (Ent κ)) : ∀ x ∈ l.map (Ent.of f), IsKey d x.key := by
  intro x hx
  obtain ⟨y, _, rfl⟩ := List.mem_map.1 hx
  exact hk.is y.key
/-- What a look-up finds. -/
theorem find_ents (hk : Keys d f) (l : List (Ent κ)) (a : κ) :
    (Instr.findNow d (f a) (l.map (Ent.of f)) 0 = some none ∧ ∀ x ∈ l, x.key ≠ a) ∨ ∃ j x, Instr.findNow d (f a) (l.map (Ent.of f)) 0 = some (some (j, x.val)) ∧ l[j]? = some x ∧ x.key = a := by
  rcases findNow_spec (hk.is a) (l.map (Ent.of f)) 0 (ents_keys hk l) with ⟨h1, h2⟩ | ⟨j, e', h1, h2, h3⟩
  · exact .inl ⟨h1, fun x hx e => h2 _ (List.mem_map_of_mem hx) (by show f x.key = f a; rw [e])⟩
  · rw [List.getElem?_map] at h2
    cases hx : l[j]? with
    | none => rw [hx] at h2; cases h2
    | some x =>
      rw [hx] at h2
      injection h2 with h2
      subst h2
      exact .inr ⟨j, x, by rw [h1, Nat.zero_add]; rfl, hx, hk.inj _ _ h3⟩
theorem map_at {w : World} (hw : Holds w H) (hm : (r, mapB f l c) ∈ H) : w.heap[r]? = some (.map (l.map (Ent.of f)).toArray c) := (hw.at_ _ hm).1
theorem RawV.look (ho : o.op = .lookup t xm xk false) (ht : mapTy P t k e d zv) (hk : Keys d f) (hm : (r, mapB f l c) ∈ H)
    (h0 : (∀ x ∈ l, x.key ≠ a) → K zv H) (h1 : ∀ (j : Nat) (x : Ent κ), l[j]? = some x → x.key = a → K x.val H) : RawV P o [.map (some r), f a] H K := by
  obtain ⟨t1, t2, i, t3, t4⟩ := ht
  refine ⟨fun ρ w hmm hw => .inl ?_⟩
  rw [ho] at hmm
  have hmm : [ρ xm, ρ xk] = [.map (some r), f a] := hmm
  injection hmm with e1 hmm
  injection hmm with e2 hmm
  have hb := map_at hw hm
  have hex : execOp ρ o = (Instr.lookup t (.map (some r)) (f a) false >>= fun v => pure (.value v)) := by
    simp only [execOp, ho, e1, e2]
  rcases find_ents hk l a with ⟨g1, g2⟩ | ⟨j, x, g1, g2, g3⟩
  · have hr : (Instr.lookup t (.map (some r)) (f a) false).run P w = .ok zv w := by
      simp [Instr.lookup, run_underlying t1, MapKept.run_getObj_map hb, run_checkKey t2 (hk.is a), run_findKey t2 g1, run_zero_of t3 t4, Result.andThen]
    exact ⟨_, _, _, .inl (by rw [hex, Sem.run_bind, hr]; rfl), hw, Step.refl _ _, h0 g2⟩
  · have hr : (Instr.lookup t (.map (some r)) (f a) false).run P w = .ok x.val w := by
      simp [Instr.lookup, run_underlying t1, MapKept.run_getObj_map hb, run_checkKey t2 (hk.is a), run_findKey t2 g1, Result.andThen]
    exact ⟨_, _, _, .inl (by rw [hex, Sem.run_bind, hr]; rfl), hw, Step.refl _ _, h1 j x g2 g3⟩
theorem Holds.mapPut {w : World} {l' : List (Ent κ)} {c' : Nat} (hw : Holds w (A ++ (r, mapB f l c) :: B)) :
    Holds { w with heap := w.heap.setIfInBounds r (.map (l'.map (Ent.of f)).toArray c') } (A ++ (r, mapB f l' c') :: B) ∧ Step w (A ++ (r, mapB f l c) :: B) { w with heap := w.heap.setIfInBounds r (.map (l'.map (Ent.of f)).toArray c') } (A ++ (r, mapB f l' c') :: B) := by
  have hb : w.heap[r]? = some (.map (l.map (Ent.of f)).toArray c) := hw.mid.1
  obtain ⟨g1, g2⟩ := heap_set (o' := .map (l'.map (Ent.of f)).toArray c') hb
  exact hw.put rfl rfl (by simp) rfl rfl rfl g2 ⟨g1, rfl⟩
theorem RawV.upd (ho : o.op = .mapUpdate t xm xk xv) (ht : mapTy P t k e d zv) (hk : Keys d f) {v : Value}
    (h0 : (∀ x ∈ l, x.key ≠ a) → K undef (A ++ (r, mapB f (l ++ [⟨a, v, c⟩]) (c + 1)) :: B)) (h1 : ∀ (j : Nat) (x : Ent κ), l[j]? = some x → x.key = a → K undef (A ++ (r, mapB f (l.set j ⟨a, v, x.born⟩) c) :: B)) :
    RawV P o [.map (some r), f a, v] (A ++ (r, mapB f l c) :: B) K := by
  obtain ⟨t1, t2, i, t3, t4⟩ := ht
  refine ⟨fun ρ w hmm hw => .inl ?_⟩
  rw [ho] at hmm
  have hmm : [ρ xm, ρ xk, ρ xv] = [.map (some r), f a, v] := hmm
  injection hmm with e1 hmm
  injection hmm with e2 hmm
  injection hmm with e3 hmm
  have hb : w.heap[r]? = some (.map (l.map (Ent.of f)).toArray c) := hw.mid.1
  have hex : execOp ρ o = (Instr.mapUpdate t (.map (some r)) (f a) v >>= fun _ => pure .skip) := by
    simp only [execOp, ho, e1, e2, e3]
  rcases find_ents hk l a with ⟨g1, g2⟩ | ⟨j, x, g1, g2, g3⟩
  · have hr : (Instr.mapUpdate t (.map (some r)) (f a) v).run P w = .ok () { w with heap := w.heap.setIfInBounds r (.map ((l ++ [(⟨a, v, c⟩ : Ent κ)]).map (Ent.of f)).toArray (c + 1)) } := by
      have e : (l.map (Ent.of f)).toArray.push { key := f a, val := v, born := c } = ((l ++ [(⟨a, v, c⟩ : Ent κ)]).map (Ent.of f)).toArray := by
        simp [Ent.of]
      simp only [Instr.mapUpdate, Sem.run_bind, run_underlying t1, MapKept.run_getObj_map hb, run_checkKey t2 (hk.is a), run_findKey t2 g1, Result.andThen]
      rw [e]
      exact MapKept.run_setObj_map _ hb
    obtain ⟨q1, q2⟩ := hw.mapPut (l' := l ++ [⟨a, v, c⟩]) (c' := c + 1)
    exact ⟨_, _, _, .inr ⟨by rw [hex, Sem.run_bind, hr]; rfl, rfl⟩, q1, q2, h0 g2⟩
  · have hr : (Instr.mapUpdate t (.map (some r)) (f a) v).run P w = .ok () { w with heap := w.heap.setIfInBounds r (.map ((l.set j (⟨a, v, x.born⟩ : Ent κ)).map (Ent.of f)).toArray c) } := by
      have hj : (l.map (Ent.of f)).toArray[j]? = some (Ent.of f x) := by simp [g2]
      have e : ((l.map (Ent.of f)).toArray.modify j fun e => { e with key := f a, val := v }) = ((l.set j (⟨a, v, x.born⟩ : Ent κ)).map (Ent.of f)).toArray := by
        apply Array.ext_getElem?
        intro m
        rw [Array.getElem?_modify]
        simp only [List.getElem?_toArray, List.getElem?_map, List.getElem?_set]
        by_cases hm : j = m
        · subst hm
          obtain ⟨hlt, hg⟩ := List.getElem?_eq_some_iff.1 g2
          simp [hlt, Ent.of, hg]
        · simp [hm]
      have hx : (Ent.of f x).key = f a := by show f x.key = f a; rw [g3]
      simp only [Instr.mapUpdate, Sem.run_bind, run_underlying t1, MapKept.run_getObj_map hb, run_checkKey t2 (hk.is a), run_findKey t2 g1, hj, Option.map_some, Option.getD_some, hx, run_keyThatStays (hk.is a), Result.andThen]
      rw [e]
      exact MapKept.run_setObj_map _ hb
    obtain ⟨q1, q2⟩ := hw.mapPut (l' := l.set j ⟨a, v, x.born⟩) (c' := c)
    exact ⟨_, _, _, .inr ⟨by rw [hex, Sem.run_bind, hr]; rfl, rfl⟩, q1, q2, h1 j x g2 g3⟩
end
end Go.Proofs.YtkajoepgebfjoaaDoor.Sx


/- Sx, part S: ranging over a map. -/
set_option linter.unusedVariables false
set_option linter.unusedSectionVars false
set_option linter.unusedSimpArgs false
namespace Go.Proofs.YtkajoepgebfjoaaDoor.Sx
open Go.RowKit Go.MapKept
section
variable [Dies] {P : Program} {o : Oper} {t k e : TypeId} {d : TypeDesc} {H A B : Heap} {K : Value → Heap → Prop} {κ : Type} {f : κ → Value} {l : List (Ent κ)} {c r q : Nat} {xm : Operand} {since last : Nat} {seen : List Nat}
/-- An iterator in memory: over the map at r, what it saw. -/
def iterB (r since : Nat) (seen : List Nat) (last : Nat) : Blk := .obj (.mapIter (some r) since seen.toArray last)
theorem RawV.range (ho : o.op = .range t xm) (ht : P.underlying t = some (.map k e)) (hm : (r, mapB f l c) ∈ H) (h : ∀ q, K (.pointer (some ⟨q, 0, none⟩)) ((q, iterB r c [] c) :: H)) : RawV P o [.map (some r)] H K := by
  refine ⟨fun ρ w hmm hw => .inl ?_⟩
  rw [ho] at hmm
  have hmm : [ρ xm] = [.map (some r)] := hmm
  injection hmm with e1 hmm
  have hb := map_at hw hm
  have hex : execOp ρ o = (Instr.range t (.map (some r)) >>= fun v => pure (.value v)) := by
    simp only [execOp, ho, e1]
  have hr : (Instr.range t (.map (some r))).run P w = .ok (.pointer (some ⟨w.heap.size, 0, none⟩)) (w.alloc (.mapIter (some r) c #[] c)) := by
    simp [Instr.range, run_underlying ht, MapKept.run_getObj_map hb, Result.andThen]
  have hal := hw.alloc (.mapIter (some r) c #[] c) (iterB r c [] c) ⟨by rw [heap_alloc_new], rfl⟩
  exact ⟨_, _, _, .inl (by rw [hex, Sem.run_bind, hr]; rfl), hal.1, hal.2, h _⟩
end
end Go.Proofs.YtkajoepgebfjoaaDoor.Sx


/- Sx, part T: the smaller of two; a call on one of a list of objects. -/
set_option linter.unusedVariables false
set_option linter.unusedSectionVars false
set_option linter.unusedSimpArgs false
namespace Go.Proofs.YtkajoepgebfjoaaDoor.Sx
open Go.RowKit
section
variable [Dies] {P : Program} {o : Oper} {t t1 t2 : TypeId} {H A B : Heap} {K : Value → Heap → Prop} {xs xx : Operand} {k k' : IntKind} {a b m : Int}
/-- A call on one of a list's objects. -/
theorem SCalls.elem {α : Type} {rw : α → Nat × Blk} {ms : List α} {j : Nat} {x x' : α} {f : FuncId} {args : List Value} {v : Value} (hj : ms[j]? = some x) (hc : ∀ K : Value → Heap → Prop, K v [rw x'] → SCalls P f args [rw x] K) (A : Heap) (hk : K v (A ++ (ms.set j x').map rw)) : SCalls P f args (A ++ ms.map rw) K := by
  obtain ⟨hlt, rfl⟩ := List.getElem?_eq_some_iff.1 hj
  have e1 : ms.map rw = (ms.take j).map rw ++ rw ms[j] :: (ms.drop (j + 1)).map rw := by
    conv => lhs; rw [← List.take_append_drop j ms, List.drop_eq_getElem_cons hlt, List.map_append, List.map_cons]
  have e2 : (ms.set j x').map rw = (ms.take j).map rw ++ rw x' :: (ms.drop (j + 1)).map rw := by
    rw [List.set_eq_take_append_cons_drop, if_pos hlt, List.map_append, List.map_cons]
  rw [e1]
  rw [e2] at hk
  refine SCalls.upd (H1 := [rw ms[j]]) (H1' := [rw x']) (R := A ++ ((ms.take j).map rw ++ (ms.drop (j + 1)).map rw)) (H' := A ++ ((ms.take j).map rw ++ rw x' :: (ms.drop (j + 1)).map rw)) ?_ ?_ hc hk
  · rw [← List.append_assoc]
    refine List.perm_middle.trans ?_
    rw [List.append_assoc]; exact .refl _
  · rw [← List.append_assoc A, ← List.append_assoc A]
    show List.Perm (rw x' :: (A ++ (ms.take j).map rw ++ (ms.drop (j + 1)).map rw)) _
    exact List.perm_middle.symm
end
end Go.Proofs.YtkajoepgebfjoaaDoor.Sx


