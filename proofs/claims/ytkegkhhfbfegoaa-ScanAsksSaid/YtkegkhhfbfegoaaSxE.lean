/- Sx, part E: 'xpure' tells what an operation yields. -/
import Derived.Test.YtkegkhhfbfegoaaSxD
set_option linter.unusedVariables false
set_option linter.unusedSimpArgs false
namespace Go.Proofs.Ytkegkhhfbfegoaa.Sx
open Go.RowKit
section
variable {P : Program} {l : List Value} {K : Value → Prop}
theorem idx_bounds {i : Int} {n : Nat} {K : Nat → Prop} (h : Idx i n K) : ∃ j : Nat, i = (j : Int) ∧ (0 ≤ i ∧ i < (n : Int)) ∧ i.toNat = j ∧ j < n ∧ K j := by
  obtain ⟨j, rfl, hj, hK⟩ := h
  exact ⟨j, rfl, ⟨by omega, by omega⟩, by simp, hj, hK⟩

theorem y_fieldAddr {s : TypeId} {fs : Array Field} {f : Nat} {fl : Field} {i : TypeInfo} (hu : P.underlying s = some (.struct fs)) (hf : fs[f]? = some fl) (hi : P.info? fl.type = some i) (hz : Nat.beq i.size 0 = false) {x : Value} (h : match x with
    | .pointer (some ⟨r, o, none⟩) => K (.pointer (some ⟨r, o + fl.offset, none⟩))
    | _ => False) : Yld P (Instr.fieldAt s x f) K := by
  split at h
  · rename_i r o
    have hne : i.size ≠ 0 := Nat.ne_of_beq_eq_false hz
    refine ⟨_, fun w => ?_, h⟩
    simp only [Instr.fieldAt, Sem.run_bind, run_underlying hu, Result.andThen_ok, hf, Instr.sureAddr, Sem.run_pure, fieldPlace, size_spec hi, Sem.run_ite, if_neg hne, addr_add]
  · exact h.elim
theorem y_idxArr {t e : TypeId} {n : Nat} {i : TypeInfo} (hu : P.underlying t = some (.array n e)) (hi : P.info? e = some i) {x ix : Value} (h : match x, ix with
    | .pointer (some ⟨r, o, none⟩), .int _ m => Idx m n fun j => K (.pointer (some ⟨r, o + j * i.size, none⟩))
    | _, _ => False) : Yld P (Instr.indexAt t x ix) K := by
  split at h
  · rename_i r o k m
    obtain ⟨j, rfl, hb, hj, hlt, hK⟩ := idx_bounds h
    refine ⟨_, fun w => ?_, hK⟩
    simp only [Instr.indexAt, asIntOf, Sem.run_bind, Sem.run_pure, run_underlying hu, Result.andThen_ok, Instr.sureAddr, if_pos hb, Sem.run_ite, size_spec hi, hj, addr_add]
  · exact h.elim
theorem y_idxSl {t e : TypeId} {i : TypeInfo} (hu : P.underlying t = some (.slice e)) (hi : P.info? e = some i) {x ix : Value} (h : match x, ix with
    | .slice (some ⟨r, o, none⟩) len _, .int _ m => Idx m len fun j => K (.pointer (some ⟨r, o + j * i.size, none⟩))
    | _, _ => False) : Yld P (Instr.indexAt t x ix) K := by
  split at h
  · rename_i r o len c k m
    obtain ⟨j, rfl, hb, hj, hlt, hK⟩ := idx_bounds h
    refine ⟨_, fun w => ?_, hK⟩
    simp only [Instr.indexAt, asIntOf, Sem.run_bind, Sem.run_pure, run_underlying hu, Result.andThen_ok, if_pos hb, Sem.run_ite, size_spec hi, hj, addr_add]
  · exact h.elim
theorem y_index {t e : TypeId} {n s : Nat} {b : Bool} (hu : P.underlying t = some (.array n e)) (ha : aggOf P e = some (b, s)) {x ix : Value} (h : xpure (.idxArr n s b (.const x) (.const ix)) l K) : Yld P (Instr.index t x ix) K := by
  simp only [xpure, ev] at h
  split at h
  · rename_i cs k m
    obtain ⟨j, rfl, hb, hj, hlt, hK⟩ := idx_bounds h
    obtain ⟨_, hs⟩ := aggOf_spec ha
    cases b
    case true =>
      refine ⟨_, fun w => ?_, sliceK_ok hK⟩
      simp only [Instr.index, asIntOf, Sem.run_bind, Sem.run_pure, run_underlying hu, Result.andThen_ok, if_pos hb, Sem.run_ite, hs, hj]
      exact run_part_agg ha cs (j * s) w
    case false =>
      obtain ⟨v, hv, hK⟩ := cellK_ok hK
      refine ⟨v, fun w => ?_, hK⟩
      simp only [Instr.index, asIntOf, Sem.run_bind, Sem.run_pure, run_underlying hu, Result.andThen_ok, if_pos hb, Sem.run_ite, hs, hj]
      exact run_part_one ha cs (j * s) v hv w
  · exact h.elim
theorem y_idxStr {t : TypeId} (hu : P.underlying t = some .string) {x ix : Value} (h : match x, ix with
    | .string s, .int _ n => Idx n s.size fun j => K (.int .u8 (byteAt s j))
    | _, _ => False) : Yld P (Instr.index t x ix) K := by
  split at h
  · rename_i s k m
    obtain ⟨j, rfl, hb, hj, hlt, hK⟩ := idx_bounds h
    refine ⟨_, fun w => ?_, hK⟩
    have hg : s[j]? = some s[j] := getElem?_pos s j hlt
    simp only [Instr.index, asIntOf, Sem.run_bind, Sem.run_pure, run_underlying hu, Result.andThen_ok, if_pos (show (0 : Int) ≤ (j : Int) by omega), hj, hg, byteAt]
    congr 3
    have h2 : j < s.data.toList.length := by simpa using hlt
    simp [List.getD, List.getElem?_eq_getElem h2]
    rfl
  · exact h.elim
theorem y_field {s : TypeId} {fs : Array Field} {f : Nat} {fl : Field} {b : Bool} {n : Nat} (hu : P.underlying s = some (.struct fs)) (hf : fs[f]? = some fl) (ha : aggOf P fl.type = some (b, n)) {x : Value} (h : match x with
    | .agg ⟨cs⟩ => match b with
      | true => sliceK cs fl.offset n fun vs => K (.agg ⟨vs⟩)
      | false => cellK cs fl.offset K
    | _ => False) : Yld P (Instr.field s x f) K := by
  split at h
  · rename_i cs
    cases b
    case true =>
      refine ⟨_, fun w => ?_, sliceK_ok h⟩
      simp only [Instr.field, Sem.run_bind, run_underlying hu, Result.andThen_ok, hf, asAgg, Sem.run_pure]
      exact run_part_agg ha cs _ w
    case false =>
      obtain ⟨v, hv, hK⟩ := cellK_ok h
      refine ⟨v, fun w => ?_, hK⟩
      simp only [Instr.field, Sem.run_bind, run_underlying hu, Result.andThen_ok, hf, asAgg, Sem.run_pure]
      exact run_part_one ha cs _ v hv w
  · exact h.elim
theorem y_build {t : TypeId} {z : Value} {parts : Array (Nat × Operand)} {ps : List (Nat × Nat × Operand)} (hz : zeroOf P t = some z) (place : Nat → Option (Nat × Nat))
    (hp : partsAt place parts.toList = some ps) (hu : (∃ fs : Array Field, ∃ pl, P.underlying t = some (.struct fs) ∧ placesOf P fs.toList = some pl ∧ place = (pl[·]?)) ∨ (∃ n e i, P.underlying t = some (.array n e) ∧ P.info? e = some i ∧ place = fun j => some (j * i.size, i.size)))
    (h : buildK l ps z.cells.toList fun cs => K (.agg ⟨cs⟩)) : Yld P (Instr.build t (parts.map fun (i, x) => (i, ev l x))) K := by
  obtain ⟨cs', h1, h2⟩ := fill_ok place parts.toList ps z.cells.toList _ hp h
  refine ⟨_, fun w => ?_, h2⟩
  have h1' : Instr.fill place z.cells (List.map (fun p => (p.fst, ev l p.snd)) parts.toList) = some cs'.toArray := by simpa using h1
  rcases hu with ⟨fs, pl, hu, hpl, rfl⟩ | ⟨n, e, i, hu, hi, rfl⟩
  · have hm : (fs.mapM (m := Sem) fun f => do pure (f.offset, ← sizeOf f.type)).run P w = .ok pl.toArray w := by
      rw [Array.mapM_eq_mapM_toList]
      simp only [Sem.run_map, placesOf_spec hpl w, Result.andThen_ok]
    simp only [Instr.build, Sem.run_bind, zeroOf_spec hz, Result.andThen_ok, run_underlying hu, Array.toList_map]
    erw [hm]
    simp only [Result.andThen_ok, List.getElem?_toArray]
    rw [h1']
    rfl
  · simp only [Instr.build, Sem.run_bind, zeroOf_spec hz, Result.andThen_ok, run_underlying hu, size_spec hi, Array.toList_map]
    rw [h1']
    rfl
theorem y_sliceStr {t : TypeId} (hu : P.underlying t = some .string) {x : Value} {lo hi : Option Operand} (h : match x with
    | .string s => bndK l s.size s.size hi fun h => bndK l h 0 lo fun k => K (.string (s.extract k h))
    | _ => False) : Yld P (Instr.slice t x (lo.map (ev l)) (hi.map (ev l)) none) K := by
  split at h
  · rename_i s
    obtain ⟨n, h1, h2, h3, h4⟩ := bnd_ok (P := P) .sliceAlen h
    obtain ⟨m, g1, g2, g3, g4⟩ := bnd_ok (P := P) .sliceB h4
    refine ⟨_, fun w => ?_, g4⟩
    simp only [Instr.slice, Instr.sliceBounds, Sem.run_bind, run_underlying hu, Result.andThen_ok, Sem.run_pure, Option.isSome_none, Bool.false_eq_true, if_false]
    have e1 := h1 w
    have e2 := g1 w
    cases hi <;> cases lo <;> simp only [Option.map_none, Option.map_some, Sem.run_pure] at e1 e2 ⊢ <;> simp_all
  · exact h.elim
theorem y_sliceSl {t e : TypeId} {i : TypeInfo} (hu : P.underlying t = some (.slice e)) (hi : P.info? e = some i) {x : Value} {lo hi : Option Operand} (h : xpure (.sliceSl i.size (.const x) lo hi) l K) :
    Yld P (Instr.slice t x (lo.map (ev l)) (hi.map (ev l)) none) K := by
  simp only [xpure, ev] at h
  split at h
  · rename_i a len cap
    obtain ⟨n, h1, h2, h3, h4⟩ := bnd_ok (P := P) .sliceAcap h
    cases lo with
    | none =>
      simp only at h4
      refine ⟨_, fun w => ?_, h4⟩
      have e1 := h1 w
      have hadd : ∀ ad : Addr, ad.add 0 = ad := fun ad => rfl
      cases hi <;> simp only [Option.map_none, Option.map_some, Sem.run_pure] at e1 ⊢ <;>
        simp_all [Instr.slice, Instr.sliceBounds, run_underlying hu, size_spec hi] <;> cases a <;> simp_all
    | some lo =>
      simp only at h4
      obtain ⟨m, g1, g2, g3, g4⟩ := bnd_ok (P := P) .sliceB h4
      have hrun : ∀ w, (Instr.slice t (.slice a len cap) ((some lo).map (ev l)) (hi.map (ev l)) none).run P w = .ok (.slice (if cap = m then a else a.map (·.add (m * i.size))) (n - m) (cap - m)) w := by
        intro w
        have e1 := h1 w
        have e2 := g1 w
        cases hi <;> simp only [Option.map_none, Option.map_some, Sem.run_pure] at e1 e2 ⊢ <;>
          simp_all [Instr.slice, Instr.sliceBounds, run_underlying hu, size_spec hi]
      obtain ⟨b1, b2⟩ := g4
      by_cases hc : cap = m
      · refine ⟨_, hrun, ?_⟩
        rw [if_pos hc]; exact b1 (by simpa using hc)
      · have b2 := b2 (by simpa using hc)
        refine ⟨_, hrun, ?_⟩
        rw [if_neg hc]
        split at b2
        · simpa [addr_add] using b2
        · exact b2.elim
        · exact b2
  · exact h.elim
end
end Go.Proofs.Ytkegkhhfbfegoaa.Sx
