/- Sx, part S: ranging over a map. -/
import Derived.Test.YtijnjklofdmelaaDoorBSx
import Derived.Laws.Small
import Derived.Laws.IdiomCopy
import Derived.Laws.RangeString
import Derived.Laws.BytesString
import Derived.Laws.IdiomStrings
import Derived.Lib.FrozenHead
import Derived.Laws.AppendOwn
import Derived.Lib.UnsafeStr
import Derived.Lib.Builder

set_option linter.unusedVariables false
set_option linter.unusedSectionVars false
set_option linter.unusedSimpArgs false
namespace Go.Proofs.YtijnjklofdmelaaDoor.Sx
open Go.RowKit Go.MapKept
section
variable [Dies] {P : Program} {o : Oper} {t k e : TypeId} {d : TypeDesc} {H A B : Heap} {K : Value → Heap → Prop} {κ : Type} {f : κ → Value} {l : List (Ent κ)} {c r q : Nat} {xm : Operand} {since last : Nat} {seen : List Nat}
/-- An iterator in memory: over the map at r, what it saw. -/
def iterB (r since : Nat) (seen : List Nat) (last : Nat) : Blk := .obj (.mapIter (some r) since seen.toArray last)
theorem RawV.range (ho : o.op = .range t xm) (ht : P.underlying t = some (.map k e)) (hm : (r, mapB f l c) ∈ H) (h : ∀ q, K (.pointer (some ⟨q, 0, none⟩)) ((q, iterB r c [] c) :: H)) : RawV P o [.map (some r)] H K := by
  refine ⟨fun ρ w hmm hw => .inl ?_⟩
  rw [ho] at hmm
  have hmm : [ρ xm] = [.map (some r)] := hmm
  injection hmm with e1 hmm
  have hb := map_at hw hm
  have hex : execOp ρ o = (Instr.range t (.map (some r)) >>= fun v => pure (.value v)) := by
    simp only [execOp, ho, e1]
  have hr : (Instr.range t (.map (some r))).run P w = .ok (.pointer (some ⟨w.heap.size, 0, none⟩)) (w.alloc (.mapIter (some r) c #[] c)) := by
    simp [Instr.range, run_underlying ht, MapKept.run_getObj_map hb, Result.andThen]
  have hal := hw.alloc (.mapIter (some r) c #[] c) (iterB r c [] c) ⟨by rw [heap_alloc_new], rfl⟩
  exact ⟨_, _, _, .inl (by rw [hex, Sem.run_bind, hr]; rfl), hal.1, hal.2, h _⟩
theorem RawV.next (ho : o.op = .next xm false) (hm : (r, mapB f l c) ∈ A ++ (q, iterB r since seen last) :: B) (hold : ∀ x ∈ l, x.born < since) (hs : since ≤ last)
    (h0 : (∀ x ∈ l, x.born ∈ seen) → K (.tuple ⟨[.bool false]⟩) (A ++ (q, iterB r since seen last) :: B))
    (h1 : ∀ x ∈ l, x.born ∉ seen → K (.tuple ⟨[.bool true, f x.key, x.val]⟩) (A ++ (q, iterB r since (seen ++ [x.born]) c) :: B)) :
    RawV P o [.pointer (some ⟨q, 0, none⟩)] (A ++ (q, iterB r since seen last) :: B) K := by
  refine ⟨fun ρ w hmm hw => .inl ?_⟩
  rw [ho] at hmm
  have hmm : [ρ xm] = [.pointer (some ⟨q, 0, none⟩)] := hmm
  injection hmm with e1 hmm
  have hb := map_at hw hm
  have hq : w.heap[q]? = some (.mapIter (some r) since seen.toArray last) := hw.mid.1
  have hex : execOp ρ o = (Instr.next (.pointer (some ⟨q, 0, none⟩)) false o.type >>= fun v => pure (.value v)) := by
    simp only [execOp, ho, e1]
  -- what is left
  have htest : (!seen.toArray.isEmpty && !(l.map (Ent.of f)).toArray.isEmpty && (l.map (Ent.of f)).toArray.all (fun x => decide (x.born ≥ last))) = false := by
    cases l with
    | nil => simp
    | cons x l =>
      have : ¬ x.born ≥ last := by have := hold x (.head _); omega
      simp [Ent.of, this]
  have hold2 : ∀ x ∈ (l.map (Ent.of f)).filter (fun e => !seen.toArray.contains e.born), x.born < since := fun x hx => by
    obtain ⟨hx, _⟩ := List.mem_filter.1 hx
    obtain ⟨y, hy, rfl⟩ := List.mem_map.1 hx
    exact hold y hy
  obtain ⟨Lf, hLf⟩ : ∃ Lf, Lf = (l.map (Ent.of f)).filter (fun e => !seen.toArray.contains e.born) := ⟨_, rfl⟩
  rw [← hLf] at hold2
  have f1 : Lf.toArray.filter (fun x => decide (x.born < since)) = Lf.toArray := by
    rw [List.filter_toArray, List.filter_eq_self.2 fun x hx => by simpa using hold2 x hx]
  have f2 : Lf.toArray.filter (fun x => decide (x.born ≥ since)) = #[] := by
    rw [List.filter_toArray, List.filter_eq_nil_iff.2 fun x hx => by have := hold2 x hx; simp; omega]
  have hmemL : ∀ x, x ∈ Lf → ∃ y ∈ l, x = Ent.of f y ∧ y.born ∉ seen := fun x hx => by
    rw [hLf] at hx
    obtain ⟨hx, hn⟩ := List.mem_filter.1 hx
    obtain ⟨y, hy, rfl⟩ := List.mem_map.1 hx
    exact ⟨y, hy, rfl, by simpa [Ent.of] using hn⟩
  have hrun : ∀ (cand : Array (Option MapEntry)), cand = (if Lf.toArray.isEmpty then #[none] else #[]) ++ Lf.toArray.map some →
      (Instr.next (.pointer (some ⟨q, 0, none⟩)) false o.type).run P w = ((choose (.mapNext cand.size)).run P w).andThen fun i w' => (match cand[i]? with
        | some (some e) => (do setObj q (.mapIter (some r) since (seen.toArray.push e.born) c); pure (.tuple #[.bool true, e.key, e.val]) : Sem Value)
        | some none => pure (.tuple #[.bool false])
        | none => stuck "Next: no such candidate").run P w' := by
    rintro cand rfl
    simp only [Instr.next, Sem.run_bind, getObj, Sem.run, hq, hb, Result.andThen]
    rw [htest]
    simp only [Bool.false_eq_true, if_false, List.filter_toArray, ← hLf]
    rw [show List.filter (fun x => decide (x.born < since)) Lf = Lf from List.filter_eq_self.2 fun x hx => by simpa using hold2 x hx,
      show List.filter (fun x => decide (x.born ≥ since)) Lf = [] from List.filter_eq_nil_iff.2 fun x hx => by have := hold2 x hx; simp; omega]
    simp only [Array.append_empty, List.append_toArray, List.append_nil]
    rw [Sem.run_bind]
    rfl
  cases hcase : Lf with
  | nil =>
    have hr := hrun _ rfl
    rw [hcase] at hr
    have hr2 : (Instr.next (.pointer (some ⟨q, 0, none⟩)) false o.type).run P w = .ok (.tuple #[.bool false]) w := by
      rw [hr]
      simp [choose, Sem.run, Question.forced, Result.andThen]
    refine ⟨_, _, _, .inl (by rw [hex, Sem.run_bind, hr2]; rfl), hw, Step.refl _ _, h0 fun x hx => ?_⟩
    rw [hLf, List.filter_eq_nil_iff] at hcase
    have := hcase _ (List.mem_map_of_mem hx)
    simpa [Ent.of] using this
  | cons y ys =>
    have hr := hrun _ rfl
    have hne : Lf.toArray.isEmpty = false := by rw [hcase]; rfl
    rw [hne] at hr
    simp only [Bool.false_eq_true, if_false, Array.empty_append, Array.size_map] at hr
    have hch : ∃ (j : Nat) (w1 : World), j < Lf.length ∧ (w1 = w ∨ w1 = { w with drawn := w.drawn + 1 }) ∧ (choose (Question.mapNext Lf.toArray.size)).run P w = .ok j w1 := by
      by_cases hf : Lf.length ≤ 1
      · exact ⟨0, w, by rw [hcase]; simp, .inl rfl, by simp [choose, Sem.run, Question.forced, hf]⟩
      · exact ⟨_, _, Nat.mod_lt (w.tape w.drawn (Question.mapNext Lf.length)) (by omega), .inr rfl, by
          simp only [choose, Sem.run, Question.forced, List.size_toArray, decide_eq_true_eq, hf, if_false, Question.cut]⟩
    obtain ⟨j, w1, hj, hw1, hchr⟩ := hch
    rw [hchr] at hr
    obtain ⟨x, hxl, hxe, hxs⟩ := hmemL Lf[j] (List.getElem_mem hj)
    have hq1 : w1.heap = w.heap := by rcases hw1 with rfl | rfl <;> rfl
    have hqq : w1.heap[q]? = some (.mapIter (some r) since seen.toArray last) := by rw [hq1]; exact hq
    have hset : (setObj q (.mapIter (some r) since ((seen ++ [x.born]).toArray) c)).run P w1 = .ok () { w1 with heap := w1.heap.setIfInBounds q (.mapIter (some r) since ((seen ++ [x.born]).toArray) c) } := by
      simp [setObj, Sem.run, hqq]
    have hr2 : (Instr.next (.pointer (some ⟨q, 0, none⟩)) false o.type).run P w = .ok (.tuple #[.bool true, f x.key, x.val]) { w1 with heap := w1.heap.setIfInBounds q (.mapIter (some r) since ((seen ++ [x.born]).toArray) c) } := by
      rw [hr]
      simp only [Result.andThen, Array.getElem?_map, List.getElem?_toArray, List.getElem?_eq_getElem hj, Option.map_some, Sem.run_bind, hxe]
      have e2 : seen.toArray.push (Ent.of f x).born = (seen ++ [x.born]).toArray := by simp [Ent.of]
      rw [e2, hset]
      rfl
    obtain ⟨g1, g2⟩ := heap_set (o' := .mapIter (some r) since ((seen ++ [x.born]).toArray) c) hqq
    have hp := hw.put (b' := iterB r since (seen ++ [x.born]) c) (w' := { w1 with heap := w1.heap.setIfInBounds q (.mapIter (some r) since ((seen ++ [x.born]).toArray) c) }) rfl rfl (by simp [hq1]) (by rcases hw1 with rfl | rfl <;> rfl) (by rcases hw1 with rfl | rfl <;> rfl) (by rcases hw1 with rfl | rfl <;> rfl)
      (fun k hk => by show (w1.heap.setIfInBounds q _)[k]? = _; rw [g2 k hk, hq1]) ⟨g1, rfl⟩
    exact ⟨_, _, _, .inl (by rw [hex, Sem.run_bind, hr2]; rfl), hp.1, hp.2, h1 x hxl hxs⟩
end
end Go.Proofs.YtijnjklofdmelaaDoor.Sx


/- Sx, part T: the smaller of two; a call on one of a list of objects. -/
set_option linter.unusedVariables false
set_option linter.unusedSectionVars false
set_option linter.unusedSimpArgs false
namespace Go.Proofs.YtijnjklofdmelaaDoor.Sx
open Go.RowKit
section
variable [Dies] {P : Program} {o : Oper} {t t1 t2 : TypeId} {H A B : Heap} {K : Value → Heap → Prop} {xs xx : Operand} {k k' : IntKind} {a b m : Int}
theorem RawV.min2 (ho : o.op = .call { callee := .builtin .min, args := #[xs, xx], argTypes := #[t1, t2] }) (hmin : (if b < a then b else a) = m) (h : K (.int k m) H) : RawV P o [.int k a, .int k' b] H K := by
  subst hmin
  refine ⟨fun ρ w hm hw => .inl ?_⟩
  rw [ho] at hm
  have hm : [ρ xs, ρ xx] = [.int k a, .int k' b] := hm
  injection hm with e1 hm
  injection hm with e2 hm
  have hex : execOp ρ o = (Builtin.min_ #[t1, t2] o.type #[.int k a, .int k' b] >>= fun v => pure (.value v)) := by
    simp only [execOp, ho, resolve, invoke, builtin, List.map_toArray, List.map_cons, List.map_nil, e1, e2]
    rfl
  have hr := run_min_int2 (P := P) (w := w) #[t1, t2] o.type k k' a b
  exact ⟨_, _, _, .inl (by rw [hex, Sem.run_bind, hr]; rfl), hw, Step.refl _ _, h⟩
end
end Go.Proofs.YtijnjklofdmelaaDoor.Sx


/- Sx, part U: loops by a state of their own; slices that are only read, wherever they lie. -/
set_option linter.unusedVariables false
set_option linter.unusedSectionVars false
set_option linter.unusedSimpArgs false
namespace Go.Proofs.YtijnjklofdmelaaDoor.Sx
open Go.RowKit
section
variable [Dies] {P : Program} {x : XCode} {Q : Post} {l : List Value} {H : Heap}
/-- A loop by what holds at the head of each round of a state (I), and a number that each round makes less. -/
theorem SLoop.invA {α : Type} (I : α → List Value → Heap → Prop) (μ : α → Nat) (a0 : α) (h0 : Keep H fun H' => I a0 l H')
    (round : ∀ a l H, I a l H → ∀ R : List Value → Heap → Prop, (∀ a' l' H', μ a' < μ a → Keep H' (fun H'' => I a' l' H'') → R l' H') → xc P x (thenQ R Q) l H) : SLoop P x Q l H := by
  refine SLoop.keep (h0.mono ?_)
  intro H' hI
  have key : ∀ n a l H, μ a = n → I a l H → SLoop P x Q l H := by
    intro n
    induction n using Nat.strongRecOn with
    | _ n ih =>
      intro a l H hn hI
      refine SLoop.round (round a l H hI _ fun a' l' H' hm hk => SLoop.keep (hk.mono ?_))
      intro H'' h1
      exact ih _ (hn ▸ hm) a' l' H'' rfl h1
  exact key _ a0 l H' rfl hI
end
/-- A slice's elements, of k cells each (f), as they lie in what is known. -/
def InS {α : Type} (f : α → List Value) (k : Nat) (sv : Value) (H : Heap) (L : List α) : Prop :=
  ∃ a c, sv = .slice a L.length c ∧ L.length ≤ maxLen ∧ (L = [] ∨ ∃ r o b, a = some ⟨r, o, none⟩ ∧ (r, b) ∈ H ∧ ∀ j x i v, L[j]? = some x → (f x)[i]? = some v → i < k → b.cell (o + j * k + i) = some v)
theorem InS.mono {α : Type} {f : α → List Value} {k : Nat} {sv : Value} {H H' : Heap} {L : List α} (h : InS f k sv H L) (hs : ∀ p ∈ H, p ∈ H') : InS f k sv H' L := by
  obtain ⟨a, c, rfl, h1, h2⟩ := h
  refine ⟨a, c, rfl, h1, ?_⟩
  rcases h2 with rfl | ⟨r, o, b, rfl, hm, hc⟩
  · exact .inl rfl
  · exact .inr ⟨r, o, b, rfl, hs _ hm, hc⟩
theorem InS.nil {α : Type} {f : α → List Value} {k : Nat} {H : Heap} {a : Option Addr} {c : Nat} : InS f k (.slice a 0 c) H ([] : List α) := ⟨a, c, rfl, Nat.zero_le _, .inl rfl⟩
/-- What is looked up, wherever it lies. -/
theorem Look.mem {r : Nat} {b : Blk} {H : Heap} {K : Heap → Blk → Heap → Prop} (hm : (r, b) ∈ H) (h : ∀ A B, H = A ++ (r, b) :: B → K A b B) : Look r H K := by
  obtain ⟨A, B, rfl⟩ := List.append_of_mem hm
  exact ⟨A, b, B, rfl, h A B rfl⟩
/-- A load of one cell of what is known. -/
theorem Look.cell {r o : Nat} {b : Blk} {H : Heap} {K : Value → Prop} {v : Value} (hm : (r, b) ∈ H) (hc : b.cell o = some v) (h : K v) : Look r H fun _ b _ => Cell b o K :=
  Look.mem hm fun _ _ _ => Cell.get hc h
theorem Look.cells {r o n : Nat} {b : Blk} {H : Heap} {K : List Value → Prop} {vs : List Value} (hm : (r, b) ∈ H) (hl : vs.length = n) (hc : ∀ j v, vs[j]? = some v → b.cell (o + j) = some v) (h : K vs) : Look r H fun _ b _ => Cells b o n K :=
  Look.mem hm fun _ _ _ => Cells.get vs hl hc h
theorem InS.at1 {α : Type} {f : α → List Value} {sv : Value} {H : Heap} {L : List α} (h : InS f 1 sv H L) {j : Nat} {x : α} {v : Value} (hj : L[j]? = some x) (hv : f x = [v]) :
    ∃ r o c b, sv = .slice (some ⟨r, o, none⟩) L.length c ∧ (r, b) ∈ H ∧ b.cell (o + j * 1) = some v := by
  obtain ⟨a, c, rfl, h1, h2⟩ := h
  rcases h2 with rfl | ⟨r, o, b, rfl, hm, hc⟩
  · simp at hj
  · exact ⟨r, o, c, b, rfl, hm, hc j x 0 v hj (by rw [hv]; rfl) (by decide)⟩
theorem InS.sv {α : Type} {f : α → List Value} {k : Nat} {sv : Value} {H : Heap} {L : List α} (h : InS f k sv H L) : ∃ a c, sv = .slice a L.length c ∧ L.length ≤ maxLen := by
  obtain ⟨a, c, rfl, h1, h2⟩ := h
  exact ⟨a, c, rfl, h1⟩
theorem InS.row {α : Type} {f : α → List Value} {k p c : Nat} {t : TypeId} {fz : Nat × Nat} {cs : List Value} {H : Heap} {L : List α} (hm : (p, .row t cs fz) ∈ H) (hcs : cs = L.flatMap f) (hk : ∀ x, (f x).length = k) (hl : L.length ≤ maxLen) : InS f k (.slice (some ⟨p, 0, none⟩) L.length c) H L := by
  subst hcs
  refine ⟨_, c, rfl, hl, .inr ⟨p, 0, _, rfl, hm, fun j x i v hj hv hi => ?_⟩⟩
  show (L.flatMap f)[0 + j * k + i]? = some v
  rw [Nat.zero_add, flat_nth hk hj hi]; exact hv
theorem InS.buf {α : Type} {f : α → List Value} {k p c N : Nat} {t : TypeId} {cs : List Value} {H : Heap} {L : List α} (hm : (p, .buf t cs N) ∈ H) (hcs : cs = L.flatMap f) (hk : ∀ x, (f x).length = k) (hl : L.length ≤ maxLen) : InS f k (.slice (some ⟨p, 0, none⟩) L.length c) H L := by
  subst hcs
  refine ⟨_, c, rfl, hl, .inr ⟨p, 0, _, rfl, hm, fun j x i v hj hv hi => ?_⟩⟩
  show (L.flatMap f)[0 + j * k + i]? = some v
  rw [Nat.zero_add, flat_nth hk hj hi]; exact hv
/-- Pointers in a slice, and what they point to. -/
structure PtrS {α : Type} (row : α → Nat × Blk) (sv : Value) (H : Heap) (ms : List α) : Prop where
  sl : InS (fun r => [.pointer (some ⟨r, 0, none⟩)]) 1 sv H (ms.map fun x => (row x).1)
  at_ : ∀ x ∈ ms, row x ∈ H
theorem PtrS.get {α : Type} {row : α → Nat × Blk} {sv : Value} {H : Heap} {ms : List α} (h : PtrS row sv H ms) {j : Nat} (hj : j < ms.length) : ∃ x r o c b, ms[j]? = some x ∧ sv = .slice (some ⟨r, o, none⟩) ms.length c ∧ (r, b) ∈ H ∧ b.cell (o + j * 1) = some (.pointer (some ⟨(row x).1, 0, none⟩)) ∧ row x ∈ H := by
  have hx := List.getElem?_eq_getElem hj
  generalize ms[j] = x at hx
  obtain ⟨r, o, c, b, e, hm, hc⟩ := h.sl.at1 (j := j) (x := (row x).1) (by rw [List.getElem?_map, hx]; rfl) rfl
  rw [List.length_map] at e
  exact ⟨x, r, o, c, b, hx, e, hm, hc, h.at_ x (List.mem_of_getElem? hx)⟩
theorem PtrS.sv {α : Type} {row : α → Nat × Blk} {sv : Value} {H : Heap} {ms : List α} (h : PtrS row sv H ms) : ∃ a c, sv = .slice a ms.length c ∧ ms.length ≤ maxLen := by
  obtain ⟨a, c, h1, h2⟩ := h.sl.sv
  rw [List.length_map] at h1 h2
  exact ⟨a, c, h1, h2⟩
end Go.Proofs.YtijnjklofdmelaaDoor.Sx


/- Sx, part V: what is written, by membership: no places to count; maps, iterators, copies. -/
set_option linter.unusedVariables false
set_option linter.unusedSectionVars false
set_option linter.unusedSimpArgs false
namespace Go.Proofs.YtijnjklofdmelaaDoor.Sx
open Go.RowKit Go.MapKept
/-- H' is H, but for one block. -/
def PutH (H : Heap) (r : Nat) (b b' : Blk) (H' : Heap) : Prop := ∃ A B, H = A ++ (r, b) :: B ∧ H' = A ++ (r, b') :: B
section
variable {H H' : Heap} {r : Nat} {b b' : Blk}
theorem PutH.new (h : PutH H r b b' H') : (r, b') ∈ H' := by obtain ⟨A, B, rfl, rfl⟩ := h; exact List.mem_append_right _ (.head _)
theorem PutH.old (h : PutH H r b b' H') {p : Nat × Blk} (hp : p ∈ H) (hn : p ≠ (r, b)) : p ∈ H' := by
  obtain ⟨A, B, rfl, rfl⟩ := h
  rcases List.mem_append.1 hp with hp | hp
  · exact List.mem_append_left _ hp
  · rcases List.mem_cons.1 hp with rfl | hp
    · exact absurd rfl hn
    · exact List.mem_append_right _ (.tail _ hp)
theorem PutH.id (h : PutH H r b b' H') {p : Nat × Blk} (hp : p ∈ H) (hn : p.1 ≠ r) : p ∈ H' := h.old hp fun e => hn (by rw [e])
theorem PutH.blk (h : PutH H r b b' H') {p : Nat × Blk} (hp : p ∈ H) (hn : p.2 ≠ b) : p ∈ H' := h.old hp fun e => hn (by rw [e])
theorem Look.put {o : Nat} {vs : List Value} {K : Heap → Prop} (b' : Blk) (hm : (r, b) ∈ H) (hp : PutOk b o vs b') (h : ∀ H', PutH H r b b' H' → K H') : Look r H fun A b B => Put b o vs fun b' => appK A ((r, b') :: B) fun H' => K H' := by
  obtain ⟨A, B, rfl⟩ := List.append_of_mem hm
  exact ⟨A, b, B, rfl, b', hp, appK_to (h _ ⟨A, B, rfl, rfl⟩)⟩
/-- A cell of a row is written. -/
theorem PutOk.row {t : TypeId} {cs cs' vs : List Value} {o : Nat} (hl : o + vs.length ≤ cs.length) (he : cs.take o ++ vs ++ cs.drop (o + vs.length) = cs') : PutOk (.row t cs (0, 0)) o vs (.row t cs' (0, 0)) := by
  subst he; exact ⟨hl, .inl rfl, rfl⟩
theorem PutOk.buf {t : TypeId} {cs cs' vs : List Value} {o N : Nat} (hl : o + vs.length ≤ cs.length) (he : cs.take o ++ vs ++ cs.drop (o + vs.length) = cs') : PutOk (.buf t cs N) o vs (.buf t cs' N) := by
  subst he; exact ⟨hl, rfl⟩
theorem put_set {α : Type} {l : List α} {j : Nat} {v : α} (hj : j < l.length) : l.take (0 + j * 1) ++ [v] ++ l.drop (0 + j * 1 + [v].length) = l.set j v := by
  rw [Nat.zero_add, Nat.mul_one, List.set_eq_take_append_cons_drop, if_pos hj]; simp
end
section
variable [Dies] {P : Program} {o : Oper} {t k e : TypeId} {d : TypeDesc} {H : Heap} {K : Value → Heap → Prop} {zv : Value} {κ : Type} {f : κ → Value} {l : List (Ent κ)} {c r q since last : Nat} {seen : List Nat} {a : κ} {xm xk xv : Operand}
end
section
variable [Dies] {P : Program} {o : Oper} {t t2 e : TypeId} {xs xx : Operand} {H : Heap} {r n cap m c bytes : Nat} {cs news : List Value} {r2 o1 o2 N : Nat} {b2 : Blk} {K : Value → Heap → Prop}
end
section
variable [Dies] {P : Program} {o : Oper} {t e : TypeId} {xs xx : Operand} {H : Heap} {r n cap m c size bytes : Nat} {cs news : List Value} {r2 o2 N : Nat} {b2 : Blk} {K : Value → Heap → Prop}
end
/-- A contract for a part of the heap, in its midst. -/
theorem SCalls.midH [Dies] {P : Program} {f : FuncId} {args : List Value} {N : Heap} {K : Value → Heap → Prop} (A B : Heap) (h : SCalls P f args N fun v N' => K v (A ++ (N' ++ B))) : SCalls P f args (A ++ (N ++ B)) K := by
  refine SCalls.under A (h.frame.mono ?_)
  rintro v H' ⟨H1, rfl, hK⟩
  exact hK
end Go.Proofs.YtijnjklofdmelaaDoor.Sx


/- Sx, part W: texts: bytes as cells; iterators over a text; a text to bytes and back; bytes that a call collects and then reads as a text. -/
set_option linter.unusedVariables false
set_option linter.unusedSectionVars false
set_option linter.unusedSimpArgs false
namespace Go.Proofs.YtijnjklofdmelaaDoor.Sx
open Go.RowKit

/-- Bytes as cells; bytes as a text. -/
def cel (l : List UInt8) : List Value := l.map fun b => .int .u8 (b.toNat : Int)
def strOf (l : List UInt8) : ByteArray := ⟨l.toArray⟩
theorem cel_len (l : List UInt8) : (cel l).length = l.length := by simp [cel]
theorem cel_app (a b : List UInt8) : cel (a ++ b) = cel a ++ cel b := by simp [cel]
theorem cel_one (l : List UInt8) : ∀ u ∈ cel l, u.oneCell' = true := by
  intro u hu
  obtain ⟨b, _, rfl⟩ := List.mem_map.1 hu
  rfl
theorem cel_at {l : List UInt8} {j : Nat} {b : UInt8} (h : l[j]? = some b) : (cel l)[j]? = some (.int .u8 (b.toNat : Int)) := by simp [cel, h]
theorem cel_inv {l : List UInt8} {j : Nat} {v : Value} (h : (cel l)[j]? = some v) : ∃ b, l[j]? = some b ∧ v = .int .u8 (b.toNat : Int) := by
  simp only [cel, List.getElem?_map, Option.map_eq_some_iff] at h
  obtain ⟨b, h1, rfl⟩ := h
  exact ⟨b, h1, rfl⟩
theorem strOf_size (l : List UInt8) : (strOf l).size = l.length := by simp [strOf, ByteArray.size]
theorem strCells_of (l : List UInt8) : Lib.strCells (strOf l) = cel l := by simp [Lib.strCells, strOf, cel]
theorem strOf_inj {a b : List UInt8} (h : strOf a = strOf b) : a = b := by
  have := congrArg (fun s => s.data.toList) h
  simpa [strOf] using this
theorem strOf_cut (l : List UInt8) (i j : Nat) : (strOf l).extract i j = strOf ((l.drop i).take (j - i)) := by
  apply ByteArray.ext
  rw [ByteArray.data_extract]
  simp [strOf, List.extract_eq_take_drop]
theorem byteAt_of {l : List UInt8} {j : Nat} {b : UInt8} (h : l[j]? = some b) : byteAt (strOf l) j = (b.toNat : Int) := by
  simp [byteAt, strOf, List.getD, h]
theorem get_of {l : List UInt8} {j : Nat} (h : j < (strOf l).size) : ((strOf l)[j]'h) = l[j]'(by rwa [strOf_size] at h) := by
  show (strOf l).data[j]'_ = _
  simp [strOf]

/- BITS OF WHOLE NUMBERS -/
theorem ofInt_nat (n a : Nat) (h : a < 2 ^ n) : (BitVec.ofInt n (a : Int)).toNat = a := by
  rw [BitVec.toNat_ofInt]
  have : ((a : Int) % ((2 ^ n : Nat) : Int)) = ((a % 2 ^ n : Nat) : Int) := (Int.natCast_emod a (2 ^ n)).symm
  rw [this, Int.toNat_natCast, Nat.mod_eq_of_lt h]
theorem wrap_nat {k : IntKind} (hk : k.signed = false) {a : Nat} (h : a < 2 ^ k.bits) : k.wrap (a : Int) = (a : Int) := by
  have e : ((2 : Int) ^ k.bits) = ((2 ^ k.bits : Nat) : Int) := by rw [Int.natCast_pow]; rfl
  unfold IntKind.wrap
  simp only [hk]
  simp only [Bool.false_and, Bool.false_eq_true, if_false, e]
  rw [← Int.natCast_emod, Nat.mod_eq_of_lt h]
theorem bitXor_nat {k : IntKind} (hk : k.signed = false) {a b : Nat} (ha : a < 2 ^ k.bits) (hb : b < 2 ^ k.bits) : bitXor k (a : Int) (b : Int) = ((a ^^^ b : Nat) : Int) := by
  unfold bitXor
  rw [BitVec.toNat_xor, ofInt_nat _ _ ha, ofInt_nat _ _ hb, wrap_nat hk (Nat.xor_lt_two_pow ha hb)]
theorem bitAnd_nat {k : IntKind} (hk : k.signed = false) {a b : Nat} (ha : a < 2 ^ k.bits) (hb : b < 2 ^ k.bits) : bitAnd k (a : Int) (b : Int) = ((a &&& b : Nat) : Int) := by
  unfold bitAnd
  rw [BitVec.toNat_and, ofInt_nat _ _ ha, ofInt_nat _ _ hb, wrap_nat hk (Nat.and_lt_two_pow _ hb)]
theorem bitMask_nat {k : IntKind} (hk : k.signed = false) {a n : Nat} (ha : a < 2 ^ k.bits) (hn : n ≤ k.bits) : bitAnd k (a : Int) ((2 ^ n - 1 : Nat) : Int) = ((a % 2 ^ n : Nat) : Int) := by
  have : 2 ^ n ≤ 2 ^ k.bits := Nat.pow_le_pow_right (by decide) hn
  have h0 : 0 < 2 ^ n := Nat.two_pow_pos n
  rw [bitAnd_nat hk ha (by omega), Nat.and_two_pow_sub_one_eq_mod]
theorem shl_nat {k : IntKind} (hk : k.signed = false) {a n : Nat} (hn : n ≤ k.bits) : shlI k (a : Int) (n : Int) = ((a * 2 ^ n % 2 ^ k.bits : Nat) : Int) := by
  have e : ((2 : Int) ^ k.bits) = ((2 ^ k.bits : Nat) : Int) := by rw [Int.natCast_pow]; rfl
  have e2 : ((2 : Int) ^ n) = ((2 ^ n : Nat) : Int) := by rw [Int.natCast_pow]; rfl
  unfold shlI IntKind.wrap
  simp only [hk]
  simp only [Bool.false_and, Bool.false_eq_true, if_false, e, Int.toNat_natCast, Nat.min_eq_left hn, e2]
  rw [← Int.natCast_mul, ← Int.natCast_emod]
theorem shr_nat {k : IntKind} {a n : Nat} (hn : n ≤ k.bits) : shrI k (a : Int) (n : Int) = ((a / 2 ^ n : Nat) : Int) := by
  have e2 : ((2 : Int) ^ n) = ((2 ^ n : Nat) : Int) := by rw [Int.natCast_pow]; rfl
  unfold shrI
  rw [Int.toNat_natCast, Nat.min_eq_left hn, e2, Int.fdiv_eq_ediv_of_nonneg _ (Int.natCast_nonneg _), ← Int.natCast_ediv]
/- ITERATORS -/
section
variable [Dies] {P : Program} {o : Oper} {t : TypeId} {xm : Operand} {H : Heap} {K : Value → Heap → Prop} {s : ByteArray} {q pos : Nat}
def sIter (s : ByteArray) (pos : Nat) : Blk := .obj (.stringIter s pos)
theorem RawV.rangeStr (ho : o.op = .range t xm) (ht : P.underlying t = some .string) (h : ∀ q, K (.pointer (some ⟨q, 0, none⟩)) ((q, sIter s 0) :: H)) : RawV P o [.string s] H K := by
  refine ⟨fun ρ w hmm hw => .inl ?_⟩
  rw [ho] at hmm
  have hmm : [ρ xm] = [.string s] := hmm
  injection hmm with e1 hmm
  have hex : execOp ρ o = (Instr.range t (.string s) >>= fun v => pure (.value v)) := by simp only [execOp, ho, e1]
  have hr : (Instr.range t (.string s)).run P w = .ok (.pointer (some ⟨w.heap.size, 0, none⟩)) (w.alloc (.stringIter s 0)) := run_range_string w t s ht
  have hal := hw.alloc (.stringIter s 0) (sIter s 0) ⟨by rw [heap_alloc_new], rfl⟩
  exact ⟨_, _, _, .inl (by rw [hex, Sem.run_bind, hr]; rfl), hal.1, hal.2, h _⟩
theorem RawV.nextStrP {A B : Heap} {l : List UInt8} (ho : o.op = .next xm true) (ha : ∀ b ∈ l, b.toNat < 128)
    (h0 : l.length ≤ pos → K (.tuple ⟨[.bool false]⟩) (A ++ (q, sIter (strOf l) pos) :: B))
    (h1 : ∀ b, l[pos]? = some b → K (.tuple ⟨[.bool true, .int .i64 (pos : Int), .int .i32 (b.toNat : Int)]⟩) (A ++ (q, sIter (strOf l) (pos + 1)) :: B)) :
    RawV P o [.pointer (some ⟨q, 0, none⟩)] (A ++ (q, sIter (strOf l) pos) :: B) K := by
  refine ⟨fun ρ w hmm hw => .inl ?_⟩
  rw [ho] at hmm
  have hmm : [ρ xm] = [.pointer (some ⟨q, 0, none⟩)] := hmm
  injection hmm with e1 hmm
  have hq : w.heap[q]? = some (.stringIter (strOf l) pos) := hw.mid.1
  have hex : execOp ρ o = (Instr.next (.pointer (some ⟨q, 0, none⟩)) true o.type >>= fun v => pure (.value v)) := by simp only [execOp, ho, e1]
  by_cases hlt : pos < l.length
  · have hs : pos < (strOf l).size := by rw [strOf_size]; exact hlt
    have hb := List.getElem?_eq_getElem hlt
    have hg := get_of hs
    generalize l[pos] = b at hb hg
    have hd : Utf8.decode (strOf l) pos = (b.toNat, 1) := by
      have := decode_ascii (strOf l) pos hs (by rw [hg]; exact ha b (List.mem_of_getElem? hb))
      rw [hg] at this; exact this
    have hr : (Instr.next (.pointer (some ⟨q, 0, none⟩)) true o.type).run P w = .ok (.tuple #[.bool true, .int .i64 (pos : Int), .int .i32 (b.toNat : Int)]) { w with heap := w.heap.setIfInBounds q (.stringIter (strOf l) (pos + 1)) } := by
      simp only [Instr.next, getObj, setObj, Sem.run_bind, Sem.run, hq, Result.andThen, hs, if_true, hd]
      simp [goInt, Sem.run]
    obtain ⟨g1, g2⟩ := MapKept.heap_set (o' := .stringIter (strOf l) (pos + 1)) hq
    have hp := hw.put (b' := sIter (strOf l) (pos + 1)) (w' := { w with heap := w.heap.setIfInBounds q (.stringIter (strOf l) (pos + 1)) }) rfl rfl (by simp) rfl rfl rfl (fun k hk => g2 k hk) ⟨g1, rfl⟩
    exact ⟨_, _, _, .inl (by rw [hex, Sem.run_bind, hr]; rfl), hp.1, hp.2, h1 b hb⟩
  · have hs : ¬ pos < (strOf l).size := by rw [strOf_size]; exact hlt
    have hr : (Instr.next (.pointer (some ⟨q, 0, none⟩)) true o.type).run P w = .ok (.tuple #[.bool false]) w := by
      simp [Instr.next, getObj, Sem.run, hq, hs]
    exact ⟨_, _, _, .inl (by rw [hex, Sem.run_bind, hr]; rfl), hw, Step.refl _ _, h0 (by omega)⟩
theorem RawV.nextS0 {l : List UInt8} (ho : o.op = .next xm true) (ha : ∀ b ∈ l, b.toNat < 128)
    (h0 : l.length ≤ pos → K (.tuple ⟨[.bool false]⟩) ((q, sIter (strOf l) pos) :: H))
    (h1 : ∀ b, l[pos]? = some b → K (.tuple ⟨[.bool true, .int .i64 (pos : Int), .int .i32 (b.toNat : Int)]⟩) ((q, sIter (strOf l) (pos + 1)) :: H)) :
    RawV P o [.pointer (some ⟨q, 0, none⟩)] ((q, sIter (strOf l) pos) :: H) K := RawV.nextStrP (A := []) ho ha h0 h1
end

/- A TEXT TO BYTES, AND BACK -/
section
variable [Dies] {P : Program} {o : Oper} {src dst e : TypeId} {xx : Operand} {H : Heap} {K : Value → Heap → Prop} {l : List UInt8} {r o1 n cap : Nat} {b : Blk}
theorem RawV.toStr (ho : o.op = .convert src dst xx) (hs : P.underlying src = some (.slice e)) (he : P.underlying e = some (.int .u8)) (hd : P.underlying dst = some .string) (hm : (r, b) ∈ H) (hn : l.length = n)
    (hc : ∀ j x, l[j]? = some x → b.cell (o1 + j) = some (.int .u8 (x.toNat : Int))) (h : K (.string (strOf l)) H) : RawV P o [.slice (some ⟨r, o1, none⟩) n cap] H K := by
  subst hn
  refine ⟨fun ρ w hmm hw => .inl ?_⟩
  rw [ho] at hmm
  have hmm : [ρ xx] = [.slice (some ⟨r, o1, none⟩) l.length cap] := hmm
  injection hmm with e1 hmm
  have hex : execOp ρ o = (convert src dst (.slice (some ⟨r, o1, none⟩) l.length cap) >>= fun v => pure (.value v)) := by simp only [execOp, ho, e1]
  have hr := run_convert_bytes_back (P := P) w src dst e ⟨r, o1, none⟩ cap l hs he hd (fun j hj => by
    rw [addr_add]; exact cell_at (hw.at_ _ hm) (hc j _ (List.getElem?_eq_getElem hj)))
  exact ⟨_, _, _, .inl (by rw [hex, Sem.run_bind, hr]; rfl), hw, Step.refl _ _, h⟩
theorem RawV.toStr0 {c : Nat} (ho : o.op = .convert src dst xx) (hs : P.underlying src = some (.slice e)) (he : P.underlying e = some (.int .u8)) (hd : P.underlying dst = some .string)
    (h : K (.string (strOf [])) H) : RawV P o [.slice none n c] H K := by
  refine ⟨fun ρ w hmm hw => .inl ?_⟩
  rw [ho] at hmm
  have hmm : [ρ xx] = [.slice none n c] := hmm
  injection hmm with e1 hmm
  have hex : execOp ρ o = (convert src dst (.slice none n c) >>= fun v => pure (.value v)) := by simp only [execOp, ho, e1]
  have hr : (convert src dst (.slice none n c)).run P w = .ok (.string .empty) w := by
    rw [run_convert_bytes_string w src dst e none n c hs he hd]; rfl
  exact ⟨_, _, _, .inl (by rw [hex, Sem.run_bind, hr]; rfl), hw, Step.refl _ _, h⟩
theorem RawV.toBytes (ho : o.op = .convert src dst xx) (hs : P.underlying src = some .string) (hd : P.underlying dst = some (.slice e)) (he : P.underlying e = some (.int .u8)) (hl : l.length ≤ maxLen)
    (h : ∀ r cap z, l.length ≤ cap → cap ≤ maxLen → (cel l ++ z).length = cap → K (.slice (some ⟨r, 0, none⟩) l.length cap) ((r, .row e (cel l ++ z) (cap, cap + 1)) :: H)) : RawV P o [.string (strOf l)] H K := by
  refine ⟨fun ρ w hmm hw => .inl ?_⟩
  rw [ho] at hmm
  have hmm : [ρ xx] = [.string (strOf l)] := hmm
  injection hmm with e1 hmm
  have hex : execOp ρ o = (convert src dst (.string (strOf l)) >>= fun v => pure (.value v)) := by simp only [execOp, ho, e1]
  have hr := run_bytes_of_string (P := P) w src dst e (strOf l) hs hd he
  have hge := grownCap_ge w (strOf l).size 0 e
  have hcm := grownCap_le_maxLen w (strOf l).size 0 e (by rw [strOf_size]; exact hl)
  rw [strOf_size] at hge hcm hr
  have hrow : ∃ z, bytesRow (strOf l) (grownCap w l.length 0 e) = (cel l ++ z).toArray ∧ (cel l ++ z).length = grownCap w l.length 0 e := by
    refine ⟨List.replicate (grownCap w l.length 0 e - l.length) (.int .u8 0), ?_, ?_⟩
    · apply Array.ext'
      simp [bytesRow, strOf, cel, ByteArray.size]
    · rw [List.length_append, cel_len, List.length_replicate]; omega
  obtain ⟨z, hz, hzl⟩ := hrow
  have es : (cel l ++ z).toArray.size = grownCap w l.length 0 e := hzl
  rw [hz, es] at hr
  have hal := (hw.drew (w.drawn + 1)).alloc (.cells (cel l ++ z).toArray e (grownCap w l.length 0 e, grownCap w l.length 0 e + 1)) (.row e (cel l ++ z) (grownCap w l.length 0 e, grownCap w l.length 0 e + 1)) (by
    show _ = _
    rw [heap_alloc_new])
  exact ⟨_, _, _, .inl (by rw [hex, Sem.run_bind, hr]; rfl), hal.1, (Step.drew w H (w.drawn + 1)).trans hal.2, h _ _ z hge hcm hzl⟩
end

/- BYTES THAT A CALL COLLECTS -/
/-- A slice of the call's own bytes; the first of them may be a text's too. -/
inductive BufV (e : TypeId) : Value → List UInt8 → Heap → Prop
  | nil : BufV e (.slice none 0 0) [] []
  | row {q cap : Nat} {fz : Nat × Nat} {sl : List Value} {bs : List UInt8} (hl : (cel bs ++ sl).length = cap) (hf : fz.2 ≤ bs.length) (hcm : cap ≤ maxLen) (h0 : 0 < cap) : BufV e (.slice (some ⟨q, 0, none⟩) bs.length cap) bs [(q, .row e (cel bs ++ sl) fz)]
section
variable [Dies] {P : Program} {o : Oper} {t u e : TypeId} {xs xx : Operand} {A B N : Heap} {sv : Value} {bs l : List UInt8} {K : Value → Heap → Prop}
theorem BufV.len (h : BufV e sv bs N) : ∃ a c, sv = .slice a bs.length c := by
  cases h with
  | nil => exact ⟨_, _, rfl⟩
  | row => exact ⟨_, _, rfl⟩
theorem run_append_op2 {t u : TypeId} (ρ : Operand → Value) {x v : Value} (ho : o.op = .call { callee := .builtin .append, args := #[xs, xx], argTypes := #[t, u] }) (hm : o.op.operands.toList.map ρ = [x, v]) :
    execOp ρ o = (Builtin.append_ #[t, u] o.type #[x, v] >>= fun v => pure (.value v)) := by
  rw [ho] at hm
  have hm : [ρ xs, ρ xx] = [x, v] := hm
  injection hm with e1 hm
  injection hm with e2 hm
  simp only [execOp, ho, resolve, invoke, builtin, List.map_toArray, List.map_cons, List.map_nil, e1, e2]
  rfl
theorem run_append_roomF {w : World} (ty : TypeId) (i : TypeInfo) (ht : P.underlying t = some (.slice e)) (hi : P.info? e = some i) (g sLen sCap : Nat) (cur : Array Value) (fz : Nat × Nat) (hg : w.heap[g]? = some (.cells cur e fz))
    (hfz : fz.2 ≤ sLen * i.size) (a : Addr) (m c : Nat) (news : List Value) (hl : news.length = m * i.size) (hnews : ∀ j u, news[j]? = some u → w.cell? (a.add j) = some u) (h1 : ∀ u ∈ news, u.oneCell' = true) (hroom : sLen + m ≤ sCap) (hfit : sLen * i.size + news.length ≤ cur.size) :
    (Builtin.append_ #[t, t] ty #[.slice (some ⟨g, 0, none⟩) sLen sCap, .slice (some a) m c]).run P w = .ok (.slice (some ⟨g, 0, none⟩) (sLen + m) sCap) (w.setRow g (cur.toList.take (sLen * i.size) ++ news ++ cur.toList.drop (sLen * i.size + news.length)).toArray) := by
  have f1 := run_firstCells_some (P := P) w i.size m a m c news hl hnews
  have f2 := run_storeCells_atF P g (sLen * i.size) e fz news 0 cur w hg (by rw [Nat.add_zero]; exact hfz) (by rw [Nat.add_zero]; exact hfit) h1
  rw [Nat.add_zero] at f2
  simp [Builtin.append_, run_underlying ht, sizeOf, typeInfo, hi, Builtin.lenOf, hroom, f1, Addr.add_lit, f2]
/-- The row behind an append that had room. -/
theorem buf_room {w : World} {q : Nat} {fz : Nat × Nat} {sl : List Value} (hw : Holds w (A ++ ([(q, .row e (cel bs ++ sl) fz)] ++ B))) (hroom : bs.length + l.length ≤ (cel bs ++ sl).length) :
    Holds (w.setRow q ((cel bs ++ sl).toArray.toList.take bs.length ++ cel l ++ (cel bs ++ sl).toArray.toList.drop (bs.length + l.length)).toArray) (A ++ ([(q, .row e (cel (bs ++ l) ++ sl.drop l.length) fz)] ++ B)) ∧
      Step w (A ++ ([(q, .row e (cel bs ++ sl) fz)] ++ B)) (w.setRow q ((cel bs ++ sl).toArray.toList.take bs.length ++ cel l ++ (cel bs ++ sl).toArray.toList.drop (bs.length + l.length)).toArray) (A ++ ([(q, .row e (cel (bs ++ l) ++ sl.drop l.length) fz)] ++ B)) := by
  have e1 : (cel bs ++ sl).toArray.toList.take bs.length ++ cel l ++ (cel bs ++ sl).toArray.toList.drop (bs.length + l.length) = cel (bs ++ l) ++ sl.drop l.length := by
    show (cel bs ++ sl).take bs.length ++ cel l ++ (cel bs ++ sl).drop (bs.length + l.length) = _
    rw [cel_app, ← cel_len bs, List.take_left, List.drop_append]
    simp [List.append_assoc]
  rw [e1]
  exact Holds.setRow hw
theorem zero_len (h : (Value.int .u8 0).cells.size = 1) (n : Nat) : (Builtin.zeroCells (Value.int .u8 0).cells n).toList.length = n := by
  rw [Array.length_toList, size_zeroCells, h, Nat.mul_one]
theorem buf_grown {w : World} (hw : Holds w (A ++ (N ++ B))) (cells : List Value) (z : Array Value) (d : Nat) :
    Holds ({ w with drawn := d }.alloc (.cells (cells.toArray ++ z) e)) (A ++ ([(w.heap.size, .row e (cells ++ z.toList) (0, 0))] ++ B)) ∧ Step w (A ++ (N ++ B)) ({ w with drawn := d }.alloc (.cells (cells.toArray ++ z) e)) (A ++ ([(w.heap.size, .row e (cells ++ z.toList) (0, 0))] ++ B)) := by
  have hal := (hw.drew d).alloc (.cells (cells.toArray ++ z) e) (.row e (cells ++ z.toList) (0, 0)) (by
    show _ = _
    rw [heap_alloc_new]
    congr 2
    apply Array.ext'
    simp)
  have hst := (Step.drew w (A ++ (N ++ B)) d).trans hal.2
  have hsub : ((w.heap.size, Blk.row e (cells ++ z.toList) (0, 0)) :: (A ++ B)).Sublist ((w.heap.size, Blk.row e (cells ++ z.toList) (0, 0)) :: (A ++ (N ++ B))) :=
    List.Sublist.cons_cons _ (List.Sublist.append_left (List.sublist_append_right _ _) _)
  have hp : ((w.heap.size, Blk.row e (cells ++ z.toList) (0, 0)) :: (A ++ B)).Perm (A ++ ([(w.heap.size, Blk.row e (cells ++ z.toList) (0, 0))] ++ B)) := List.perm_middle.symm
  exact ⟨(hal.1.sub hsub).perm hp, (hst.fewer (fun p hp => hsub.subset hp)).permR hp⟩
/-- A text behind them. -/
theorem RawV.appStr (ho : o.op = .call { callee := .builtin .append, args := #[xs, xx], argTypes := #[t, u] }) (ht : tyOk P t e 1 1 = true) (hz : (P.info? e).bind (·.zero) = some (.int .u8 0)) (hu : P.underlying u = some .string)
    (hN : BufV e sv bs N) (hb : bs.length + l.length ≤ 140737488355328) (h : ∀ sv' N', BufV e sv' (bs ++ l) N' → K sv' (A ++ (N' ++ B))) : RawV P o [sv, .string (strOf l)] (A ++ (N ++ B)) K := by
  obtain ⟨h3, i, z, h4, h5, h6, h7, h8⟩ := tyOk_spec ht
  rw [h4] at hz
  simp only [Option.bind_some] at hz
  rw [h5] at hz
  injection hz with hz
  subst hz
  have hmx : bs.length + l.length ≤ maxLen := by simp only [maxLen]; omega
  refine ⟨fun ρ w hm hw => .inl ?_⟩
  rw [run_append_op2 ρ ho hm]
  cases hN with
  | nil =>
    by_cases hl0 : l = []
    · subst hl0
      have hr : (Builtin.append_ #[t, u] o.type #[.slice none 0 0, .string (strOf [])]).run P w = .ok (.slice none 0 0) w := by
        have hsz : (strOf []).size = 0 := rfl
        simp [Builtin.append_, run_underlying h3, run_underlying hu, sizeOf, typeInfo, h4, Builtin.lenOf, hsz, Builtin.firstCells]
      exact ⟨_, _, _, .inl (by rw [Sem.run_bind, hr]; rfl), hw, Step.refl _ _, h _ _ .nil⟩
    · have hl1 : 0 < l.length := List.length_pos_iff.2 hl0
      obtain ⟨v', w', hr, h9, h10, h11⟩ := Lib.run_append_own_string (P := P) w w.heap.size t u o.type e i h3 hu h4 h5 h7 h8 (.slice none 0 0) 0 [] ⟨rfl, .inl ⟨rfl, rfl⟩⟩ (strOf l) (by rw [strOf_size]; simp at hmx; omega) (by rw [strOf_size]; simp at hb; omega) (Nat.le_refl _)
      rw [strOf_size, strCells_of, List.nil_append, Nat.zero_add] at h9
      obtain ⟨_, h9⟩ := h9
      rcases h9 with ⟨_, h9⟩ | ⟨g, cap, cur, rfl, hge, hg, hnc, hcm, hcs, htk⟩
      · omega
      · rw [Nat.mul_one] at hcs htk
        have hcur : cur.toList = cel l ++ cur.toList.drop l.length := by rw [← htk, List.take_append_drop]
        have hlen : (cel l ++ cur.toList.drop l.length).length = cap := by rw [← hcur, Array.length_toList, hcs]
        have hne : ∀ p ∈ A ++ ([] ++ B), p.1 ≠ g := fun p hp e => by have := (hw.at_ p hp).lt; omega
        have hold : ∀ k, k < w.heap.size → w'.heap[k]? = w.heap[k]? := fun k hk => h10.block k hk (by intro h; cases h)
        have hH : Holds w' ((g, .row e (cel l ++ cur.toList.drop l.length) (0, 0)) :: (A ++ ([] ++ B))) := by
          refine ⟨fun p hp => ?_, List.pairwise_cons.2 ⟨fun p hp _ => (hne p hp).symm, hw.sep⟩⟩
          rcases List.mem_cons.1 hp with rfl | hp
          · show _ = _
            rw [← hcur, hg]
          · exact (hw.at_ p hp).same (hold _ (hw.at_ p hp).lt) h10.size
        have hS : Step w (A ++ ([] ++ B)) w' ((g, .row e (cel l ++ cur.toList.drop l.length) (0, 0)) :: (A ++ ([] ++ B))) := by
          refine ⟨⟨h10.os, h10.tape, h10.output, h10.size, fun k hk _ => hold k hk⟩, fun p hp => ?_⟩
          rcases List.mem_cons.1 hp with rfl | hp
          · exact .inr (.inl hge)
          · exact (Step.refl w _).ids p hp
        have hp : ((g, Blk.row e (cel l ++ cur.toList.drop l.length) (0, 0)) :: (A ++ ([] ++ B))).Perm (A ++ ([(g, Blk.row e (cel l ++ cur.toList.drop l.length) (0, 0))] ++ B)) := List.perm_middle.symm
        exact ⟨_, _, _, .inl (by rw [Sem.run_bind, hr]; rfl), hH.perm hp, hS.permR hp, h _ _ (.row (bs := l) hlen (Nat.zero_le _) hcm (by omega))⟩
  | @row q cap fz sl bs hcl hf hcm h0 =>
    have hg : w.heap[q]? = some (.cells (cel bs ++ sl).toArray e fz) := (hw.mid : (Blk.row e (cel bs ++ sl) fz).At w q)
    by_cases hroom : bs.length + l.length ≤ cap
    · have hr := Lib.run_append_room_stringF (P := P) w t u o.type e i h3 hu h4 h7 q bs.length cap _ fz hg hf (strOf l) (by rw [strOf_size]; exact hroom) (by rw [strOf_size, List.size_toArray, hcl]; exact hroom)
      rw [strOf_size, strCells_of] at hr
      obtain ⟨g1, g2⟩ := buf_room (l := l) hw (by rw [hcl]; exact hroom)
      rw [List.length_append, cel_len] at hcl
      refine ⟨_, _, _, .inl (by rw [Sem.run_bind, hr]; rfl), g1, g2, ?_⟩
      have := h _ _ (BufV.row (e := e) (q := q) (cap := cap) (fz := fz) (sl := sl.drop l.length) (bs := bs ++ l) (by rw [List.length_append, cel_len, List.length_append, List.length_drop]; omega) (by rw [List.length_append]; omega) hcm h0)
      rwa [List.length_append] at this
    · have hr := Lib.run_append_grow_string (P := P) w t u o.type e i (.int .u8 0) h3 hu h4 h5 ⟨q, 0, none⟩ bs.length cap (cel bs) (by rw [cel_len, h7, Nat.mul_one])
        (fun j v hj => by rw [addr_add]; exact cell_at (hw.mid : (Blk.row e (cel bs ++ sl) fz).At w q) (by
          show (cel bs ++ sl)[0 + j]? = _
          rw [Nat.zero_add, List.getElem?_append_left (List.getElem?_eq_some_iff.1 hj).1, hj])) (strOf l) (by rw [strOf_size]; omega) (by rw [strOf_size]; omega) (by rw [strOf_size, h8]; exact growslice_fits (by omega) (by omega))
      rw [strOf_size, strCells_of] at hr
      have hge := grownCap_ge w (bs.length + l.length) cap e
      have hcm' := grownCap_le_maxLen w (bs.length + l.length) cap e hmx
      obtain ⟨g1, g2⟩ := buf_grown (e := e) hw (cel (bs ++ l)) (Builtin.zeroCells (Value.int .u8 0).cells (grownCap w (bs.length + l.length) cap e - (bs.length + l.length))) (w.drawn + 1)
      have ea : (cel bs).toArray ++ (cel l).toArray = (cel (bs ++ l)).toArray := by rw [cel_app]; simp
      rw [ea] at hr
      refine ⟨_, _, _, .inl (by rw [Sem.run_bind, hr]; rfl), g1, g2, ?_⟩
      have := h _ _ (BufV.row (e := e) (q := w.heap.size) (cap := grownCap w (bs.length + l.length) cap e) (fz := (0, 0)) (bs := bs ++ l) (sl := (Builtin.zeroCells (Value.int .u8 0).cells (grownCap w (bs.length + l.length) cap e - (bs.length + l.length))).toList) (by
        rw [List.length_append, cel_len, List.length_append, zero_len rfl]; omega) (Nat.zero_le _) hcm' (by omega))
      rwa [List.length_append] at this
/-- Bytes of another slice behind them. -/
theorem RawV.appBytes {r2 o2 m c : Nat} {b2 : Blk} (ho : o.op = .call { callee := .builtin .append, args := #[xs, xx], argTypes := #[t, t] }) (ht : tyOk P t e 1 1 = true) (hz : (P.info? e).bind (·.zero) = some (.int .u8 0))
    (hN : BufV e sv bs N) (h2 : (r2, b2) ∈ A ++ (N ++ B)) (hm2 : l.length = m) (hl1 : 0 < l.length) (hc : ∀ j x, l[j]? = some x → b2.cell (o2 + j) = some (.int .u8 (x.toNat : Int))) (hb : bs.length + l.length ≤ 140737488355328)
    (h : ∀ sv' N', BufV e sv' (bs ++ l) N' → K sv' (A ++ (N' ++ B))) : RawV P o [sv, .slice (some ⟨r2, o2, none⟩) m c] (A ++ (N ++ B)) K := by
  subst hm2
  obtain ⟨h3, i, z, h4, h5, h6, h7, h8⟩ := tyOk_spec ht
  rw [h4] at hz
  simp only [Option.bind_some] at hz
  rw [h5] at hz
  injection hz with hz
  subst hz
  have hmx : bs.length + l.length ≤ maxLen := by simp only [maxLen]; omega
  refine ⟨fun ρ w hm hw => .inl ?_⟩
  rw [run_append_op2 ρ ho hm]
  have hnews : ∀ j v, (cel l)[j]? = some v → w.cell? ((⟨r2, o2, none⟩ : Addr).add j) = some v := fun j v hj => by
    obtain ⟨x, hx, rfl⟩ := cel_inv hj
    rw [addr_add]; exact cell_at (hw.at_ _ h2) (hc j x hx)
  have hll : (cel l).length = l.length * i.size := by rw [cel_len, h7, Nat.mul_one]
  cases hN with
  | nil =>
    simp only [List.length_nil, Nat.zero_add] at hmx hb
    have hr := run_append_nil (P := P) w t o.type e i (.int .u8 0) h3 h4 h5 ⟨r2, o2, none⟩ l.length c (cel l) hll hnews hl1 (by omega) (by rw [h8]; omega)
    have hge := grownCap_ge w l.length 0 e
    have hcm' := grownCap_le_maxLen w l.length 0 e hmx
    obtain ⟨g1, g2⟩ := buf_grown (e := e) hw (cel l) (Builtin.zeroCells (Value.int .u8 0).cells (grownCap w l.length 0 e - l.length)) (w.drawn + 1)
    refine ⟨_, _, _, .inl (by rw [Sem.run_bind, hr]; rfl), g1, g2, ?_⟩
    exact h _ _ (BufV.row (e := e) (q := w.heap.size) (cap := grownCap w l.length 0 e) (fz := (0, 0)) (bs := l) (sl := (Builtin.zeroCells (Value.int .u8 0).cells (grownCap w l.length 0 e - l.length)).toList) (by
        rw [List.length_append, cel_len, zero_len rfl]; omega) (Nat.zero_le _) hcm' (by omega))
  | @row q cap fz sl bs hcl hf hcm h0 =>
    have hg : w.heap[q]? = some (.cells (cel bs ++ sl).toArray e fz) := (hw.mid : (Blk.row e (cel bs ++ sl) fz).At w q)
    by_cases hroom : bs.length + l.length ≤ cap
    · have hr := run_append_roomF (P := P) (w := w) o.type i h3 h4 q bs.length cap _ fz hg (by rw [h7, Nat.mul_one]; exact hf) ⟨r2, o2, none⟩ l.length c (cel l) hll hnews (cel_one l) hroom (by rw [h7, Nat.mul_one, cel_len, List.size_toArray, hcl]; exact hroom)
      rw [h7, Nat.mul_one, cel_len] at hr
      obtain ⟨g1, g2⟩ := buf_room (l := l) hw (by rw [hcl]; exact hroom)
      rw [List.length_append, cel_len] at hcl
      refine ⟨_, _, _, .inl (by rw [Sem.run_bind, hr]; rfl), g1, g2, ?_⟩
      have := h _ _ (BufV.row (e := e) (q := q) (cap := cap) (fz := fz) (sl := sl.drop l.length) (bs := bs ++ l) (by rw [List.length_append, cel_len, List.length_append, List.length_drop]; omega) (by rw [List.length_append]; omega) hcm h0)
      rwa [List.length_append] at this
    · have hr := run_append_grow (P := P) w t o.type e i (.int .u8 0) h3 h4 h5 ⟨q, 0, none⟩ bs.length cap (cel bs) (by rw [cel_len, h7, Nat.mul_one])
        (fun j v hj => by rw [addr_add]; exact cell_at (hw.mid : (Blk.row e (cel bs ++ sl) fz).At w q) (by
          show (cel bs ++ sl)[0 + j]? = _
          rw [Nat.zero_add, List.getElem?_append_left (List.getElem?_eq_some_iff.1 hj).1, hj])) ⟨r2, o2, none⟩ l.length c (cel l) hll hnews (by omega) (by omega) (by rw [h8]; exact growslice_fits (by omega) (by omega))
      have hge := grownCap_ge w (bs.length + l.length) cap e
      have hcm' := grownCap_le_maxLen w (bs.length + l.length) cap e hmx
      obtain ⟨g1, g2⟩ := buf_grown (e := e) hw (cel (bs ++ l)) (Builtin.zeroCells (Value.int .u8 0).cells (grownCap w (bs.length + l.length) cap e - (bs.length + l.length))) (w.drawn + 1)
      have ea : (cel bs).toArray ++ (cel l).toArray = (cel (bs ++ l)).toArray := by rw [cel_app]; simp
      rw [ea] at hr
      refine ⟨_, _, _, .inl (by rw [Sem.run_bind, hr]; rfl), g1, g2, ?_⟩
      have := h _ _ (BufV.row (e := e) (q := w.heap.size) (cap := grownCap w (bs.length + l.length) cap e) (fz := (0, 0)) (bs := bs ++ l) (sl := (Builtin.zeroCells (Value.int .u8 0).cells (grownCap w (bs.length + l.length) cap e - (bs.length + l.length))).toList) (by
        rw [List.length_append, cel_len, List.length_append, zero_len rfl]; omega) (Nat.zero_le _) hcm' (by omega))
      rwa [List.length_append] at this

/- A TEXT OF THEM -/
theorem builtin_op1 {bi : Builtin} {x : Operand} {v : Value} {ts : Array TypeId} (ρ : Operand → Value) (ho : o.op = .call { callee := .builtin bi, args := #[x], argTypes := ts }) (hm : o.op.operands.toList.map ρ = [v]) : ρ x = v := by
  rw [ho] at hm
  have hm : [ρ x] = [v] := hm
  injection hm
theorem RawV.sliceData {x : Operand} {ts : Array TypeId} {a : Option Addr} {n c : Nat} {H : Heap} (ho : o.op = .call { callee := .builtin .unsafeSliceData, args := #[x], argTypes := ts }) (hc : a = none ∨ c ≠ 0) (h : K (.pointer a) H) : RawV P o [.slice a n c] H K := by
  refine ⟨fun ρ w hm hw => .inl ?_⟩
  have e1 := builtin_op1 ρ ho hm
  have hex : execOp ρ o = (Builtin.unsafeSliceData_ ts o.type #[.slice a n c] >>= fun v => pure (.value v)) := by
    simp only [execOp, ho, resolve, invoke, builtin, List.map_toArray, List.map_cons, List.map_nil, e1]
    rfl
  have hr : (Builtin.unsafeSliceData_ ts o.type #[.slice a n c]).run P w = .ok (.pointer a) w := by
    cases a with
    | none => rfl
    | some a => exact Lib.run_unsafeSliceData_row w ts o.type a n c (by simpa using hc)
  exact ⟨_, _, _, .inl (by rw [hex, Sem.run_bind, hr]; rfl), hw, Step.refl _ _, h⟩
theorem freeze_row {w : World} {q n : Nat} {cs : List Value} {fz : Nat × Nat} (hg : w.heap[q]? = some (.cells cs.toArray e fz)) (hf : fz.2 ≤ n) :
    ∃ fz', fz'.2 ≤ n ∧ (w.freeze ⟨q, 0, none⟩ n).heap[q]? = some (.cells cs.toArray e fz') ∧ (w.freeze ⟨q, 0, none⟩ n).heap.size = w.heap.size ∧ (∀ k, k ≠ q → (w.freeze ⟨q, 0, none⟩ n).heap[k]? = w.heap[k]?) ∧
      (w.freeze ⟨q, 0, none⟩ n).os = w.os ∧ (w.freeze ⟨q, 0, none⟩ n).tape = w.tape ∧ (w.freeze ⟨q, 0, none⟩ n).output = w.output := by
  by_cases hn : n = 0
  · subst hn
    exact ⟨fz, hf, by simpa [World.freeze] using hg, by simp [World.freeze], fun k _ => by simp [World.freeze], by simp [World.freeze], by simp [World.freeze], by simp [World.freeze]⟩
  · obtain ⟨lo, hi⟩ := fz
    refine ⟨if lo == hi then (0, 0 + n) else (min lo 0, max hi (0 + n)), ?_, ?_, ?_, ?_, ?_, ?_, ?_⟩
    · simp only at hf
      split <;> simp <;> omega
    · have hlt := (Array.getElem?_eq_some_iff.1 hg).1
      simp only [World.freeze, hn, if_false, Array.getElem?_modify, if_true, hg, Option.map_some]
    · simp [World.freeze, hn]
    · intro k hk
      simp [World.freeze, hn, Array.getElem?_modify, Ne.symm hk]
    · simp [World.freeze, hn]
    · simp [World.freeze, hn]
    · simp [World.freeze, hn]
theorem unsafeString_op {x y : Operand} {pt it : TypeId} {v1 v2 : Value} (ρ : Operand → Value) (ho : o.op = .call { callee := .builtin .unsafeString, args := #[x, y], argTypes := #[pt, it] }) (hm : o.op.operands.toList.map ρ = [v1, v2]) :
    execOp ρ o = (Builtin.unsafeString_ #[pt, it] o.type #[v1, v2] >>= fun v => pure (.value v)) := by
  rw [ho] at hm
  have hm : [ρ x, ρ y] = [v1, v2] := hm
  injection hm with e1 hm
  injection hm with e2 hm
  simp only [execOp, ho, resolve, invoke, builtin, List.map_toArray, List.map_cons, List.map_nil, e1, e2]
  rfl
/-- The text of all of them. -/
theorem RawV.unsafeStr {x y : Operand} {pt it : TypeId} {a : Option Addr} {c : Nat} (ho : o.op = .call { callee := .builtin .unsafeString, args := #[x, y], argTypes := #[pt, it] }) (hp : P.underlying pt = some (.pointer e)) (hce : P.cellsOf e = 1)
    (hN : BufV e (.slice a bs.length c) bs N) (h : ∀ N', BufV e (.slice a bs.length c) bs N' → K (.string (strOf bs)) (A ++ (N' ++ B))) : RawV P o [.pointer a, .int .i64 (bs.length : Int)] (A ++ (N ++ B)) K := by
  refine ⟨fun ρ w hm hw => .inl ?_⟩
  rw [unsafeString_op ρ ho hm]
  by_cases hb : bs = []
  · subst hb
    have hr := Lib.run_unsafeString_none (P := P) w pt it o.type a
    exact ⟨_, _, _, .inl (by rw [Sem.run_bind]; erw [hr]; rfl), hw, Step.refl _ _, h _ hN⟩
  · generalize hsv : Value.slice a bs.length c = sv at hN
    cases hN with
    | nil => exact absurd rfl hb
    | @row q cap fz sl bs hcl hf hcm h0 =>
      injection hsv with ea _ ec
      subst ea; subst ec
      have hg : w.heap[q]? = some (.cells (cel bs ++ sl).toArray e fz) := (hw.mid : (Blk.row e (cel bs ++ sl) fz).At w q)
      rw [List.length_append, cel_len] at hcl
      have hr := Lib.run_unsafeString_row (P := P) w pt it o.type e hp hce q (cel bs ++ sl).length (by simp [World.shape?, hg]) bs hb (by rw [List.length_append, cel_len]; omega) (by simp only [maxLen] at hcm; omega) (fun j x hj => by
        rw [addr_add]; exact cell_at (hw.mid : (Blk.row e (cel bs ++ sl) fz).At w q) (by
          show (cel bs ++ sl)[0 + j]? = _
          have := cel_at hj
          rw [Nat.zero_add, List.getElem?_append_left (List.getElem?_eq_some_iff.1 this).1, this]))
      obtain ⟨fz', f1, f2, f3, f4, f5, f6, f7⟩ := freeze_row hg hf
      have hput := Holds.put (A := A) (B := B) (r := q) (b := .row e (cel bs ++ sl) fz) (b' := .row e (cel bs ++ sl) fz') hw rfl rfl f3 f5 f6 f7 f4 f2
      exact ⟨_, _, _, .inl (by rw [Sem.run_bind, hr]; rfl), hput.1, hput.2, h _ (.row (by rw [List.length_append, cel_len]; exact hcl) f1 hcm h0)⟩
end

/- ADDRESSES AS PLACES OF ANY TYPE -/
section
variable [Dies] {P : Program} {o : Oper} {src dst t T : TypeId} {xx : Operand} {H : Heap} {K : Value → Heap → Prop} {r o1 : Nat} {cs : List Value} {fz : Nat × Nat}
theorem RawV.toUnsafe (ho : o.op = .convert src dst xx) (hs : P.underlying src = some (.pointer t)) (hd : P.underlying dst = some .unsafePointer) (ht : ((P.info? t).map fun j => Nat.beq j.size 0) = some false)
    (hm : (r, .row T cs fz) ∈ H) (hoff : o1 < cs.length) (h : K (.pointer (some ⟨r, o1, none⟩)) H) : RawV P o [.pointer (some ⟨r, o1, none⟩)] H K := by
  refine ⟨fun ρ w hmm hw => .inl ?_⟩
  rw [ho] at hmm
  have hmm : [ρ xx] = [.pointer (some ⟨r, o1, none⟩)] := hmm
  injection hmm with e1 hmm
  have hex : execOp ρ o = (convert src dst (.pointer (some ⟨r, o1, none⟩)) >>= fun v => pure (.value v)) := by simp only [execOp, ho, e1]
  obtain ⟨j, hj, hj0⟩ := Option.map_eq_some_iff.1 ht
  have hg : w.heap[r]? = some (.cells cs.toArray T fz) := hw.at_ _ hm
  have hr := Lib.run_to_unsafe (P := P) w (e := T) (cells := cs.length) ⟨r, o1, none⟩ hs hd hj (Nat.ne_of_beq_eq_false hj0) (by simp [World.shape?, hg]) hoff
  exact ⟨_, _, _, .inl (by rw [hex, Sem.run_bind, hr]; rfl), hw, Step.refl _ _, h⟩
theorem RawV.ofUnsafe (ho : o.op = .convert src dst xx) (hs : P.underlying src = some .unsafePointer) (hd : P.underlying dst = some (.pointer t)) (ht : (P.info? t).isSome = true)
    (hm : (r, .row T cs fz) ∈ H) (hlies : liesAt P P.depth T (cs.length / P.cellsOf T) o1 t 1 = true) (h : K (.pointer (some ⟨r, o1, none⟩)) H) : RawV P o [.pointer (some ⟨r, o1, none⟩)] H K := by
  refine ⟨fun ρ w hmm hw => .inl ?_⟩
  rw [ho] at hmm
  have hmm : [ρ xx] = [.pointer (some ⟨r, o1, none⟩)] := hmm
  injection hmm with e1 hmm
  have hex : execOp ρ o = (convert src dst (.pointer (some ⟨r, o1, none⟩)) >>= fun v => pure (.value v)) := by simp only [execOp, ho, e1]
  obtain ⟨j, hj⟩ := Option.isSome_iff_exists.1 ht
  have hg : w.heap[r]? = some (.cells cs.toArray T fz) := hw.at_ _ hm
  have hr := Lib.run_from_unsafe (P := P) w (e := T) (cells := cs.length) ⟨r, o1, none⟩ hs hd hj (by simp [World.shape?, hg]) hlies
  exact ⟨_, _, _, .inl (by rw [hex, Sem.run_bind, hr]; rfl), hw, Step.refl _ _, h⟩
end
end Go.Proofs.YtijnjklofdmelaaDoor.Sx


/- Sx, part X: a part of an array in memory; an interface's value against nil. -/
set_option linter.unusedVariables false
set_option linter.unusedSectionVars false
set_option linter.unusedSimpArgs false
namespace Go.Proofs.YtijnjklofdmelaaDoor.Sx
open Go.RowKit
section
variable [Dies] {P : Program} {o : Oper} {t e : TypeId} {xx xl xh : Operand} {H : Heap} {K : Value → Heap → Prop} {r o1 n k h : Nat} {i : TypeInfo}
end
end Go.Proofs.YtijnjklofdmelaaDoor.Sx


/- Sx, part Y: a method that is called by way of an interface. -/
set_option linter.unusedVariables false
set_option linter.unusedSectionVars false
set_option linter.unusedSimpArgs false
namespace Go.Proofs.YtijnjklofdmelaaDoor.Sx
open Go.RowKit
section
variable [Dies] {P : Program} {o : Oper} {H : Heap} {K : Value → Heap → Prop} {f : FuncId} {as : Array Operand} {ts : Array TypeId} {T E : TypeId} {name : String} {xr : Operand} {rv v : Value} {vs : List Value}
/-- The method of a value behind an interface. -/
theorem RawV.invoke (ho : o.op = .call { callee := .invoke xr name, args := as, argTypes := ts }) (hcall : ∀ w, Holds w H → (callMethod (.iface T rv) name vs.toArray).run P w = .ok (.enter f (v :: vs).toArray) w) (h : SCalls P f (v :: vs) H K) : RawV P o (.iface T rv :: vs) H K := by
  refine ⟨fun ρ w hm hw => .inr (.inl ⟨f, (v :: vs).toArray, ?_, h.run w hw⟩)⟩
  have hm : (xr :: as.toList).map ρ = .iface T rv :: vs := by
    rw [ho] at hm
    simpa [Op.operands, Call.operands] using hm
  have e1 : ρ xr = .iface T rv := by injection hm
  have e2 : as.toList.map ρ = vs := map_tail hm
  have e3 : as.map ρ = vs.toArray := Array.ext' (by simpa using e2)
  have hx : (#[Value.iface T rv] ++ vs.toArray).extract 1 (#[Value.iface T rv] ++ vs.toArray).size = vs.toArray := by
    apply Array.ext'
    simp
  have hg : (#[Value.iface T rv] ++ vs.toArray)[0]? = some (.iface T rv) := by simp
  have hex : (execOp ρ o).run P w = (callMethod (.iface T rv) name vs.toArray).run P w := by
    simp only [execOp, resolve, ho, e1, e3, Sem.run_bind, Sem.run_pure, Result.andThen_ok, Go.invoke, hg, hx]
  rw [hex, hcall w hw]
end
end Go.Proofs.YtijnjklofdmelaaDoor.Sx


/- Sx, part Z: the greater of two; a slice that grows by one element at a time, of any size. -/
set_option linter.unusedVariables false
set_option linter.unusedSectionVars false
set_option linter.unusedSimpArgs false
namespace Go.Proofs.YtijnjklofdmelaaDoor.Sx
open Go.RowKit
section
variable [Dies] {P : Program} {o : Oper} {t t1 t2 : TypeId} {H A B : Heap} {K : Value → Heap → Prop} {xs xx : Operand} {k k' : IntKind} {a b m : Int}
theorem RawV.max2 (ho : o.op = .call { callee := .builtin .max, args := #[xs, xx], argTypes := #[t1, t2] }) (hmin : (if a < b then b else a) = m) (h : K (.int k m) H) : RawV P o [.int k a, .int k' b] H K := by
  subst hmin
  refine ⟨fun ρ w hm hw => .inl ?_⟩
  rw [ho] at hm
  have hm : [ρ xs, ρ xx] = [.int k a, .int k' b] := hm
  injection hm with e1 hm
  injection hm with e2 hm
  have hex : execOp ρ o = (Builtin.max_ #[t1, t2] o.type #[.int k a, .int k' b] >>= fun v => pure (.value v)) := by
    simp only [execOp, ho, resolve, invoke, builtin, List.map_toArray, List.map_cons, List.map_nil, e1, e2]
    rfl
  have hr := run_max_int2 (P := P) (w := w) #[t1, t2] o.type k k' a b
  exact ⟨_, _, _, .inl (by rw [hex, Sem.run_bind, hr]; rfl), hw, Step.refl _ _, h⟩
end
/-- A slice of the call's own that grows. -/
inductive Grow {α : Type} (f : α → List Value) (k : Nat) (e : TypeId) : Value → List α → Heap → Prop
  | nil : Grow f k e (.slice none 0 0) [] []
  | buf {q c : Nat} {L : List α} : L.length ≤ c → c ≤ maxLen → Grow f k e (.slice (some ⟨q, 0, none⟩) L.length c) L [(q, .buf e (L.flatMap f) (c * k))]
section
variable {α : Type} {f : α → List Value} {k e : Nat} {v0 : Value} {L : List α} {M : Heap}
theorem Grow.sv (h : Grow f k e v0 L M) : ∃ a c, v0 = .slice a L.length c ∧ L.length ≤ maxLen := by
  cases h with
  | nil => exact ⟨_, _, rfl, Nat.zero_le _⟩
  | buf h1 h2 => exact ⟨_, _, rfl, Nat.le_trans h1 h2⟩
theorem Grow.ins (h : Grow f k e v0 L M) (hk : ∀ x, (f x).length = k) {H : Heap} (hs : ∀ p ∈ M, p ∈ H) : InS f k v0 H L := by
  cases h with
  | nil => exact InS.nil
  | buf h1 h2 => exact InS.buf (hs _ (.head _)) rfl hk (Nat.le_trans h1 h2)
theorem Grow.zero {q : Nat} : Grow f k e (.slice (some ⟨q, 0, none⟩) 0 0) [] [(q, .buf e [] (0 * k))] := .buf (L := []) (c := 0) (Nat.le_refl _) (Nat.zero_le _)
theorem RawV.grow1 [Dies] {P : Program} {o : Oper} {t : TypeId} {A B H0 : Heap} {K : Value → Heap → Prop} {xs xx : Operand} {bytes r2 : Nat} {x : α} (hG : Grow f k e v0 L M) (hH : H0 = A ++ (M ++ B)) (hm : (r2, .row e (f x) (0, 0)) ∈ H0) (ho : o.op = .call { callee := .builtin .append, args := #[xs, xx], argTypes := #[t, t] }) (ht : tyOk P t e k bytes = true)
    (hk0 : 0 < k) (hk : ∀ x, (f x).length = k) (h1 : ∀ u ∈ f x, u.oneCell' = true) (h63 : L.length + 1 ≤ maxLen) (hb : (L.length + 1) * bytes ≤ 140737488355328) (h : ∀ a c M', Grow f k e (.slice a (L.length + 1) c) (L ++ [x]) M' → K (.slice a (L.length + 1) c) (M' ++ (A ++ B))) :
    RawV P o [v0, .slice (some ⟨r2, 0, none⟩) 1 1] H0 K := by
  subst hH
  have hn : ∀ j v, (f x)[j]? = some v → (Blk.row e (f x) (0, 0)).cell (0 + j) = some v := fun j v hj => by rw [Nat.zero_add]; exact hj
  cases hG with
  | nil =>
    refine RawV.app0T (m := 1) (size := k) (bytes := bytes) (e := e) (news := f x) ho ht hk0 hm (by rw [hk, Nat.one_mul]) hn (by decide) (by simpa using h63) (by simpa using hb) (fun r' cap' g1 g2 => ?_)
    have := h _ _ _ (Grow.buf (f := f) (k := k) (e := e) (q := r') (c := cap') (L := [x]) g1 g2)
    simpa using this
  | @buf q c L h2 h3 =>
    refine RawV.appT (m := 1) (size := k) (bytes := bytes) (e := e) (news := f x) (cs := L.flatMap f) ho ht hk0 (flat_len hk _) rfl h2 h3 hm (by rw [hk, Nat.one_mul]) hn h1 h63 hb (fun r' cap' g1 g2 => ?_)
    have hg := Grow.buf (f := f) (k := k) (e := e) (q := r') (c := cap') (L := L ++ [x]) (by simpa using g1) g2
    rw [List.length_append, List.flatMap_append] at hg
    have := h _ _ _ hg
    simpa using this
end
/-- A queue of the call's own: a buffer, maybe with old elements behind what is in it. -/
inductive Que {α : Type} (f : α → List Value) (k : Nat) (e : TypeId) : Value → List α → Heap → Prop
  | nil : Que f k e (.slice none 0 0) [] []
  | buf {q c : Nat} {L st : List α} : L.length ≤ c → c ≤ maxLen → Que f k e (.slice (some ⟨q, 0, none⟩) L.length c) L [(q, .buf e ((L ++ st).flatMap f) (c * k))]
section
variable {α : Type} {f : α → List Value} {k e : Nat} {v0 : Value} {L : List α} {M : Heap}
theorem Que.len (h : Que f k e v0 L M) : ∃ a c, v0 = .slice a L.length c ∧ L.length ≤ maxLen := by
  cases h with
  | nil => exact ⟨_, _, rfl, Nat.zero_le _⟩
  | buf h1 h2 => exact ⟨_, _, rfl, Nat.le_trans h1 h2⟩
theorem Grow.inv {a : Option Addr} {n c : Nat} (h : Grow f k e (.slice a n c) L M) (hL : L ≠ []) : ∃ q, a = some ⟨q, 0, none⟩ ∧ n = L.length ∧ L.length ≤ c ∧ c ≤ maxLen ∧ M = [(q, .buf e (L.flatMap f) (c * k))] := by
  generalize hv : Value.slice a n c = v at h
  cases h with
  | nil => exact absurd rfl hL
  | @buf q c' L g1 g2 =>
    injection hv with e1 e2 e3
    subst e3
    exact ⟨q, e1, e2, g1, g2, rfl⟩
end
/-- The same as grow1; the new block told. -/
theorem RawV.grow1b [Dies] {α : Type} {f : α → List Value} {k e : Nat} {v0 : Value} {L : List α} {M : Heap} {P : Program} {o : Oper} {t : TypeId} {A B H0 : Heap} {K : Value → Heap → Prop} {xs xx : Operand} {bytes r2 : Nat} {x : α} (hG : Grow f k e v0 L M) (hH : H0 = A ++ (M ++ B)) (hm : (r2, .row e (f x) (0, 0)) ∈ H0) (ho : o.op = .call { callee := .builtin .append, args := #[xs, xx], argTypes := #[t, t] }) (ht : tyOk P t e k bytes = true)
    (hk0 : 0 < k) (hk : ∀ x, (f x).length = k) (h1 : ∀ u ∈ f x, u.oneCell' = true) (h63 : L.length + 1 ≤ maxLen) (hb : (L.length + 1) * bytes ≤ 140737488355328) (h : ∀ q c, L.length + 1 ≤ c → c ≤ maxLen → K (.slice (some ⟨q, 0, none⟩) (L.length + 1) c) ((q, .buf e ((L ++ [x]).flatMap f) (c * k)) :: (A ++ B))) :
    RawV P o [v0, .slice (some ⟨r2, 0, none⟩) 1 1] H0 K :=
  RawV.grow1 hG hH hm ho ht hk0 hk h1 h63 hb (fun a c M' hg => by
    obtain ⟨q, rfl, g0, g1, g2, rfl⟩ := hg.inv (by simp)
    exact h _ _ (by rw [g0]; exact g1) g2)
end Go.Proofs.YtijnjklofdmelaaDoor.Sx


