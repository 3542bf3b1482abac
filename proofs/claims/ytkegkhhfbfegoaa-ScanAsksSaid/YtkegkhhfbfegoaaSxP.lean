/- Sx, part P: functions without a body; clear. -/
import Derived.Test.YtkegkhhfbfegoaaSxO
import Derived.Laws.Externs
set_option linter.unusedVariables false
set_option linter.unusedSimpArgs false
namespace Go.Proofs.Ytkegkhhfbfegoaa.Sx
open Go.RowKit
section
variable {P : Program} {o : Oper} {H : Heap} {K : Value → Heap → Prop} {f : FuncId} {as : Array Operand} {ts : Array TypeId} {vs : List Value}
theorem map_tail {ρ : Operand → Value} {l : List Operand} {x : Operand} {u : Value} {vs : List Value} (h : (x :: l).map ρ = u :: vs) : l.map ρ = vs := by
  injection h
/-- A function without a body that answers at once. -/
theorem RawV.extern {fn : Func} {e : Array Value → Sem Value} {v : Value} (ho : o.op = .call { callee := .value (.func f), args := as, argTypes := ts }) (hf : P.funcs[f]? = some fn) (hname : (fn.name == "runtime.NumGoroutine") = false)
    (hb : fn.body.isNone = true) (hn : Extern.findNext fn = none) (he : Extern.find fn = some e) (hrun : ∀ w, (e vs.toArray).run P w = .ok v w) (h : K v H) : RawV P o (.func (.func f) ⟨[]⟩ ⟨[]⟩ :: vs) H K := by
  refine ⟨fun ρ w hm hw => .inl ⟨v, w, H, .inl ?_, hw, Step.refl _ _, h⟩⟩
  have hm : (.func f :: as.toList).map ρ = .func (.func f) ⟨[]⟩ ⟨[]⟩ :: vs := by
    rw [ho] at hm
    simpa [Op.operands, Call.operands] using hm
  have e1 : ρ (.func f) = .func (.func f) #[] #[] := by injection hm
  have e2 : as.toList.map ρ = vs := map_tail hm
  have e3 : as.map ρ = vs.toArray := Array.ext' (by simpa using e2)
  simp only [execOp, resolve, ho, e1, Deferred.ofValue, Sem.run_bind, Sem.run_pure, Result.andThen_ok, invoke, Array.empty_append, Array.append_empty, e3]
  rw [run_callFunc_extern hf hname hb hn he, hrun]
  rfl
/-- A type's zero value is of cells. -/
noncomputable def zOk (P : Program) (e : TypeId) : Bool := match P.info? e with
  | some i => (match i.zero with | some z => z.cells.toList.all Value.oneCell' | none => true)
  | none => true
theorem zOk_spec {P : Program} {e : TypeId} (h : zOk P e = true) : ∀ i z, P.info? e = some i → i.zero = some z → ∀ u ∈ z.cells.toList, u.oneCell' = true := by
  intro i z hi hz u hu
  unfold zOk at h
  rw [hi] at h
  dsimp only at h
  rw [hz] at h
  exact List.all_eq_true.1 h u hu
/-- A slice of the call's own is cleared (from cell o on). -/
theorem RawV.clear {t e : TypeId} {x : Operand} {A B : Heap} {r n c N o' size bytes : Nat} {cs : List Value} (ho : o.op = .call { callee := .builtin .clear, args := #[x], argTypes := #[t] })
    (ht : tyOk P t e size bytes = true) (h0 : ∀ i z, P.info? e = some i → i.zero = some z → ∀ u ∈ z.cells.toList, u.oneCell' = true) (hsz : 0 < size) (hl : o' + n * size ≤ cs.length)
    (h : ∀ ys : List Value, ys.length = n * size → K (.tuple ⟨[]⟩) (A ++ (r, .buf e (cs.take o' ++ ys ++ cs.drop (o' + n * size)) N) :: B)) :
    RawV P o [.slice (some ⟨r, o', none⟩) n c] (A ++ (r, .buf e cs N) :: B) K := by
  obtain ⟨h3, i, z, h4, h5, h6, rfl, rfl⟩ := tyOk_spec ht
  have hone := h0 i z h4 h5
  refine ⟨fun ρ w hm hw => .inl ?_⟩
  have hm' : [ρ x] = [.slice (some ⟨r, o', none⟩) n c] := by
    rw [ho] at hm
    exact hm
  have e1 : ρ x = .slice (some ⟨r, o', none⟩) n c := by injection hm'
  have hex : execOp ρ o = (Builtin.clear_ #[t] o.type #[.slice (some ⟨r, o', none⟩) n c] >>= fun v => pure (.value v)) := by
    simp only [execOp, ho, resolve, invoke, builtin, List.map_toArray, List.map_cons, List.map_nil, e1]
    rfl
  rw [hex]
  rcases Nat.eq_zero_or_pos n with rfl | hn
  · have hr : (Builtin.clear_ #[t] o.type #[.slice (some ⟨r, o', none⟩) 0 c]).run P w = .ok (.tuple #[]) w := by
      simp [Builtin.clear_, run_underlying h3]
    have h := h [] (by simp)
    simp only [Nat.zero_mul, Nat.add_zero, List.append_nil, List.take_append_drop] at h
    exact ⟨_, w, _, .inl (by rw [Sem.run_bind, hr]; rfl), hw, Step.refl _ _, h⟩
  · obtain ⟨sl, hsl, hg⟩ := (hw.mid : (Blk.buf e cs N).At w r)
    have hz : Builtin.zeroCells z.cells n = (zerosOf z.cells.toList (n * z.cells.size)).toArray := zerosOf_spec z.cells (n * z.cells.size) (fun _ => by omega)
    have hzl : (zerosOf z.cells.toList (n * z.cells.size)).length = n * i.size := by simp [zerosOf, h6]
    have hz1 : ∀ u ∈ zerosOf z.cells.toList (n * z.cells.size), u.oneCell' = true := by
      intro u hu
      simp only [zerosOf, List.mem_map, List.mem_range] at hu
      obtain ⟨j, hj, rfl⟩ := hu
      have hlt : j % z.cells.toList.length < z.cells.toList.length := Nat.mod_lt _ (by simp; omega)
      refine hone _ ?_
      rw [List.getD_eq_getElem?_getD, List.getElem?_eq_getElem hlt]
      exact List.getElem_mem hlt
    generalize zerosOf z.cells.toList (n * z.cells.size) = ys at hz hzl hz1
    have hst := run_storeCells_fz P r o' e (0, 0) ys 0 _ w hg (by simp; omega) (.inl rfl) hz1
    have hr : (Builtin.clear_ #[t] o.type #[.slice (some ⟨r, o', none⟩) n c]).run P w = .ok (.tuple #[]) (w.setRow r ((cs ++ sl).toArray.toList.take (o' + 0) ++ ys ++ (cs ++ sl).toArray.toList.drop (o' + 0 + ys.length)).toArray) := by
      have hn0 : n ≠ 0 := by omega
      obtain ⟨m, rfl⟩ : ∃ m, n = m + 1 := ⟨n - 1, by omega⟩
      simp [Builtin.clear_, run_underlying h3, zeroValue, typeInfo, h4, h5, hz, hst]
    have hcur : (cs ++ sl).toArray.toList.take (o' + 0) ++ ys ++ (cs ++ sl).toArray.toList.drop (o' + 0 + ys.length) = (cs.take o' ++ ys ++ cs.drop (o' + n * i.size)) ++ sl := by
      rw [Nat.add_zero, hzl]
      have : o' ≤ cs.length := by omega
      rw [List.take_append_of_le_length (by omega), List.drop_append_of_le_length hl]
      simp [List.append_assoc]
    rw [hcur] at hr
    have hput := hw.put (w' := w.setRow r ((cs.take o' ++ ys ++ cs.drop (o' + n * i.size)) ++ sl).toArray) (b' := .buf e (cs.take o' ++ ys ++ cs.drop (o' + n * i.size)) N) rfl rfl (by simp) rfl rfl rfl (fun k hk => setRow_other w r k _ hk)
      ⟨sl, by simp only [List.length_append, List.length_take, List.length_drop, hzl]; omega, setRow_heap w r _ _ e (0, 0) hg⟩
    exact ⟨_, _, _, .inl (by rw [Sem.run_bind, hr]; rfl), hput.1, hput.2, h ys hzl⟩
end
/-- All cells of one element are written. -/
theorem Put.flatAll {α : Type} {f : α → List Value} {k : Nat} (hk : ∀ x, (f x).length = k) {L : List α} {j N o : Nat} {x : α} {t : TypeId} {K : Blk → Prop} (x' : α) (hj : L[j]? = some x) (ho : o = j * k)
    (h : K (.buf t ((L.set j x').flatMap f) N)) : Put (.buf t (L.flatMap f) N) o (f x') K := by
  subst ho
  have hlt := (List.getElem?_eq_some_iff.1 hj).1
  have hle : j * k + k ≤ (L.flatMap f).length := by
    rw [flat_len hk]
    have : (j + 1) * k ≤ L.length * k := Nat.mul_le_mul_right _ hlt
    rw [Nat.add_mul] at this; omega
  refine ⟨_, ⟨by rw [hk]; exact hle, rfl⟩, ?_⟩
  have e : (L.flatMap f).take (j * k) ++ f x' ++ (L.flatMap f).drop (j * k + (f x').length) = (L.set j x').flatMap f := by
    have hl : ((L.take j).flatMap f).length = j * k := by rw [flat_len hk]; simp [Nat.min_eq_left (Nat.le_of_lt hlt)]
    rw [list_set hj, List.flatMap_append, List.flatMap_cons]
    conv => lhs; rw [list_split hj]
    rw [List.flatMap_append, List.flatMap_cons, hk, ← hl, List.take_left', ← hk x, ← List.length_append, ← List.append_assoc, List.drop_left', List.append_assoc]
    · rfl
    · rfl
  rw [e]
  exact h
end Go.Proofs.Ytkegkhhfbfegoaa.Sx
