/- Sx, part T: the smaller of two; a call on one of a list of objects. -/
import Derived.Test.YtkegkhhfbfegoaaSxS
import Derived.Laws.Small
set_option linter.unusedVariables false
set_option linter.unusedSimpArgs false
namespace Go.Proofs.Ytkegkhhfbfegoaa.Sx
open Go.RowKit
section
variable {P : Program} {o : Oper} {t t1 t2 : TypeId} {H A B : Heap} {K : Value → Heap → Prop} {xs xx : Operand} {k k' : IntKind} {a b m : Int}
theorem RawV.min2 (ho : o.op = .call { callee := .builtin .min, args := #[xs, xx], argTypes := #[t1, t2] }) (hmin : (if b < a then b else a) = m) (h : K (.int k m) H) : RawV P o [.int k a, .int k' b] H K := by
  subst hmin
  refine ⟨fun ρ w hm hw => .inl ?_⟩
  rw [ho] at hm
  have hm : [ρ xs, ρ xx] = [.int k a, .int k' b] := hm
  injection hm with e1 hm
  injection hm with e2 hm
  have hex : execOp ρ o = (Builtin.min_ #[t1, t2] o.type #[.int k a, .int k' b] >>= fun v => pure (.value v)) := by
    simp only [execOp, ho, resolve, invoke, builtin, List.map_toArray, List.map_cons, List.map_nil, e1, e2]
    rfl
  have hr := run_min_int2 (P := P) (w := w) #[t1, t2] o.type k k' a b
  exact ⟨_, _, _, .inl (by rw [hex, Sem.run_bind, hr]; rfl), hw, Step.refl _ _, h⟩
/-- A call on one of a list's objects. -/
theorem SCalls.elem {α : Type} {rw : α → Nat × Blk} {ms : List α} {j : Nat} {x x' : α} {f : FuncId} {args : List Value} {v : Value} (hj : ms[j]? = some x) (hc : ∀ K : Value → Heap → Prop, K v [rw x'] → SCalls P f args [rw x] K) (A : Heap) (hk : K v (A ++ (ms.set j x').map rw)) : SCalls P f args (A ++ ms.map rw) K := by
  obtain ⟨hlt, rfl⟩ := List.getElem?_eq_some_iff.1 hj
  have e1 : ms.map rw = (ms.take j).map rw ++ rw ms[j] :: (ms.drop (j + 1)).map rw := by
    conv => lhs; rw [← List.take_append_drop j ms, List.drop_eq_getElem_cons hlt, List.map_append, List.map_cons]
  have e2 : (ms.set j x').map rw = (ms.take j).map rw ++ rw x' :: (ms.drop (j + 1)).map rw := by
    rw [List.set_eq_take_append_cons_drop, if_pos hlt, List.map_append, List.map_cons]
  rw [e1]
  rw [e2] at hk
  refine SCalls.upd (H1 := [rw ms[j]]) (H1' := [rw x']) (R := A ++ ((ms.take j).map rw ++ (ms.drop (j + 1)).map rw)) (H' := A ++ ((ms.take j).map rw ++ rw x' :: (ms.drop (j + 1)).map rw)) ?_ ?_ hc hk
  · rw [← List.append_assoc]
    refine List.perm_middle.trans ?_
    rw [List.append_assoc]; exact .refl _
  · rw [← List.append_assoc A, ← List.append_assoc A]
    show List.Perm (rw x' :: (A ++ (ms.take j).map rw ++ (ms.drop (j + 1)).map rw)) _
    exact List.perm_middle.symm
end
end Go.Proofs.Ytkegkhhfbfegoaa.Sx
