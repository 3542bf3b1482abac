/- Sx, part S: ranging over a map. -/
import Derived.Test.YtkegkhhfbfegoaaSxR
set_option linter.unusedVariables false
set_option linter.unusedSimpArgs false
namespace Go.Proofs.Ytkegkhhfbfegoaa.Sx
open Go.RowKit Go.MapKept
section
variable {P : Program} {o : Oper} {t k e : TypeId} {d : TypeDesc} {H A B : Heap} {K : Value → Heap → Prop} {κ : Type} {f : κ → Value} {l : List (Ent κ)} {c r q : Nat} {xm : Operand} {since last : Nat} {seen : List Nat}
/-- An iterator in memory: over the map at r, what it saw. -/
def iterB (r since : Nat) (seen : List Nat) (last : Nat) : Blk := .obj (.mapIter (some r) since seen.toArray last)
theorem RawV.range (ho : o.op = .range t xm) (ht : P.underlying t = some (.map k e)) (hm : (r, mapB f l c) ∈ H) (h : ∀ q, K (.pointer (some ⟨q, 0, none⟩)) ((q, iterB r c [] c) :: H)) : RawV P o [.map (some r)] H K := by
  refine ⟨fun ρ w hmm hw => .inl ?_⟩
  rw [ho] at hmm
  have hmm : [ρ xm] = [.map (some r)] := hmm
  injection hmm with e1 hmm
  have hb := map_at hw hm
  have hex : execOp ρ o = (Instr.range t (.map (some r)) >>= fun v => pure (.value v)) := by
    simp only [execOp, ho, e1]
  have hr : (Instr.range t (.map (some r))).run P w = .ok (.pointer (some ⟨w.heap.size, 0, none⟩)) (w.alloc (.mapIter (some r) c #[] c)) := by
    simp [Instr.range, run_underlying ht, MapKept.run_getObj_map hb, Result.andThen]
  have hal := hw.alloc (.mapIter (some r) c #[] c) (iterB r c [] c) ⟨by rw [heap_alloc_new], rfl⟩
  exact ⟨_, _, _, .inl (by rw [hex, Sem.run_bind, hr]; rfl), hal.1, hal.2, h _⟩
theorem RawV.next (ho : o.op = .next xm false) (hm : (r, mapB f l c) ∈ A ++ (q, iterB r since seen last) :: B) (hold : ∀ x ∈ l, x.born < since) (hs : since ≤ last)
    (h0 : (∀ x ∈ l, x.born ∈ seen) → K (.tuple ⟨[.bool false]⟩) (A ++ (q, iterB r since seen last) :: B))
    (h1 : ∀ x ∈ l, x.born ∉ seen → K (.tuple ⟨[.bool true, f x.key, x.val]⟩) (A ++ (q, iterB r since (seen ++ [x.born]) c) :: B)) :
    RawV P o [.pointer (some ⟨q, 0, none⟩)] (A ++ (q, iterB r since seen last) :: B) K := by
  refine ⟨fun ρ w hmm hw => .inl ?_⟩
  rw [ho] at hmm
  have hmm : [ρ xm] = [.pointer (some ⟨q, 0, none⟩)] := hmm
  injection hmm with e1 hmm
  have hb := map_at hw hm
  have hq : w.heap[q]? = some (.mapIter (some r) since seen.toArray last) := hw.mid.1
  have hex : execOp ρ o = (Instr.next (.pointer (some ⟨q, 0, none⟩)) false o.type >>= fun v => pure (.value v)) := by
    simp only [execOp, ho, e1]
  -- what is left
  have htest : (!seen.toArray.isEmpty && !(l.map (Ent.of f)).toArray.isEmpty && (l.map (Ent.of f)).toArray.all (fun x => decide (x.born ≥ last))) = false := by
    cases l with
    | nil => simp
    | cons x l =>
      have : ¬ x.born ≥ last := by have := hold x (.head _); omega
      simp [Ent.of, this]
  have hold2 : ∀ x ∈ (l.map (Ent.of f)).filter (fun e => !seen.toArray.contains e.born), x.born < since := fun x hx => by
    obtain ⟨hx, _⟩ := List.mem_filter.1 hx
    obtain ⟨y, hy, rfl⟩ := List.mem_map.1 hx
    exact hold y hy
  obtain ⟨Lf, hLf⟩ : ∃ Lf, Lf = (l.map (Ent.of f)).filter (fun e => !seen.toArray.contains e.born) := ⟨_, rfl⟩
  rw [← hLf] at hold2
  have f1 : Lf.toArray.filter (fun x => decide (x.born < since)) = Lf.toArray := by
    rw [List.filter_toArray, List.filter_eq_self.2 fun x hx => by simpa using hold2 x hx]
  have f2 : Lf.toArray.filter (fun x => decide (x.born ≥ since)) = #[] := by
    rw [List.filter_toArray, List.filter_eq_nil_iff.2 fun x hx => by have := hold2 x hx; simp; omega]
  have hmemL : ∀ x, x ∈ Lf → ∃ y ∈ l, x = Ent.of f y ∧ y.born ∉ seen := fun x hx => by
    rw [hLf] at hx
    obtain ⟨hx, hn⟩ := List.mem_filter.1 hx
    obtain ⟨y, hy, rfl⟩ := List.mem_map.1 hx
    exact ⟨y, hy, rfl, by simpa [Ent.of] using hn⟩
  have hrun : ∀ (cand : Array (Option MapEntry)), cand = (if Lf.toArray.isEmpty then #[none] else #[]) ++ Lf.toArray.map some →
      (Instr.next (.pointer (some ⟨q, 0, none⟩)) false o.type).run P w = ((choose (.mapNext cand.size)).run P w).andThen fun i w' => (match cand[i]? with
        | some (some e) => (do setObj q (.mapIter (some r) since (seen.toArray.push e.born) c); pure (.tuple #[.bool true, e.key, e.val]) : Sem Value)
        | some none => pure (.tuple #[.bool false])
        | none => stuck "Next: no such candidate").run P w' := by
    rintro cand rfl
    simp only [Instr.next, Sem.run_bind, getObj, Sem.run, hq, hb, Result.andThen]
    rw [htest]
    simp only [Bool.false_eq_true, if_false, List.filter_toArray, ← hLf]
    rw [show List.filter (fun x => decide (x.born < since)) Lf = Lf from List.filter_eq_self.2 fun x hx => by simpa using hold2 x hx,
      show List.filter (fun x => decide (x.born ≥ since)) Lf = [] from List.filter_eq_nil_iff.2 fun x hx => by have := hold2 x hx; simp; omega]
    simp only [Array.append_empty, List.append_toArray, List.append_nil]
    rw [Sem.run_bind]
    rfl
  cases hcase : Lf with
  | nil =>
    have hr := hrun _ rfl
    rw [hcase] at hr
    have hr2 : (Instr.next (.pointer (some ⟨q, 0, none⟩)) false o.type).run P w = .ok (.tuple #[.bool false]) w := by
      rw [hr]
      simp [choose, Sem.run, Question.forced, Result.andThen]
    refine ⟨_, _, _, .inl (by rw [hex, Sem.run_bind, hr2]; rfl), hw, Step.refl _ _, h0 fun x hx => ?_⟩
    rw [hLf, List.filter_eq_nil_iff] at hcase
    have := hcase _ (List.mem_map_of_mem hx)
    simpa [Ent.of] using this
  | cons y ys =>
    have hr := hrun _ rfl
    have hne : Lf.toArray.isEmpty = false := by rw [hcase]; rfl
    rw [hne] at hr
    simp only [Bool.false_eq_true, if_false, Array.empty_append, Array.size_map] at hr
    have hch : ∃ (j : Nat) (w1 : World), j < Lf.length ∧ (w1 = w ∨ w1 = { w with drawn := w.drawn + 1 }) ∧ (choose (Question.mapNext Lf.toArray.size)).run P w = .ok j w1 := by
      by_cases hf : Lf.length ≤ 1
      · exact ⟨0, w, by rw [hcase]; simp, .inl rfl, by simp [choose, Sem.run, Question.forced, hf]⟩
      · exact ⟨_, _, Nat.mod_lt (w.tape w.drawn (Question.mapNext Lf.length)) (by omega), .inr rfl, by
          simp only [choose, Sem.run, Question.forced, List.size_toArray, decide_eq_true_eq, hf, if_false, Question.cut]⟩
    obtain ⟨j, w1, hj, hw1, hchr⟩ := hch
    rw [hchr] at hr
    obtain ⟨x, hxl, hxe, hxs⟩ := hmemL Lf[j] (List.getElem_mem hj)
    have hq1 : w1.heap = w.heap := by rcases hw1 with rfl | rfl <;> rfl
    have hqq : w1.heap[q]? = some (.mapIter (some r) since seen.toArray last) := by rw [hq1]; exact hq
    have hset : (setObj q (.mapIter (some r) since ((seen ++ [x.born]).toArray) c)).run P w1 = .ok () { w1 with heap := w1.heap.setIfInBounds q (.mapIter (some r) since ((seen ++ [x.born]).toArray) c) } := by
      simp [setObj, Sem.run, hqq]
    have hr2 : (Instr.next (.pointer (some ⟨q, 0, none⟩)) false o.type).run P w = .ok (.tuple #[.bool true, f x.key, x.val]) { w1 with heap := w1.heap.setIfInBounds q (.mapIter (some r) since ((seen ++ [x.born]).toArray) c) } := by
      rw [hr]
      simp only [Result.andThen, Array.getElem?_map, List.getElem?_toArray, List.getElem?_eq_getElem hj, Option.map_some, Sem.run_bind, hxe]
      have e2 : seen.toArray.push (Ent.of f x).born = (seen ++ [x.born]).toArray := by simp [Ent.of]
      rw [e2, hset]
      rfl
    obtain ⟨g1, g2⟩ := heap_set (o' := .mapIter (some r) since ((seen ++ [x.born]).toArray) c) hqq
    have hp := hw.put (b' := iterB r since (seen ++ [x.born]) c) (w' := { w1 with heap := w1.heap.setIfInBounds q (.mapIter (some r) since ((seen ++ [x.born]).toArray) c) }) rfl rfl (by simp [hq1]) (by rcases hw1 with rfl | rfl <;> rfl) (by rcases hw1 with rfl | rfl <;> rfl) (by rcases hw1 with rfl | rfl <;> rfl)
      (fun k hk => by show (w1.heap.setIfInBounds q _)[k]? = _; rw [g2 k hk, hq1]) ⟨g1, rfl⟩
    exact ⟨_, _, _, .inl (by rw [hex, Sem.run_bind, hr2]; rfl), hp.1, hp.2, h1 x hxl hxs⟩
end
end Go.Proofs.Ytkegkhhfbfegoaa.Sx
