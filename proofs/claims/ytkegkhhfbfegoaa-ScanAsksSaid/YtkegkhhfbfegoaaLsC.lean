/- Layer 19: what a slave does with commands, by walks (going on). -/
import Derived.Test.YtkegkhhfbfegoaaLsB
set_option linter.unusedVariables false
set_option linter.unusedSimpArgs false
set_option maxRecDepth 100000
set_option maxHeartbeats 4000000
namespace Go.Proofs.Ytkegkhhfbfegoaa.Ls
open Go.Proofs.Ytkegkhhfbfegoaa Go.Proofs.Ytkegkhhfbfegoaa.Sx
theorem Keep.s2 {a x y b : Nat × Blk} {K : Heap → Prop} (h : K [b, a]) : Keep [a, x, y, b] K :=
  ⟨[b, a, x, y], [b, a], (List.perm_append_comm : ([a, x, y] ++ [b]).Perm ([b] ++ [a, x, y])), List.Sublist.cons_cons _ (List.Sublist.cons_cons _ (List.nil_sublist _)), h⟩
theorem adrOf_bd {l : L} (hl : l.Ok) (k : Int) : 0 ≤ adrOf l.a0 l.a1 l.a2 l.a3 k ∧ adrOf l.a0 l.a1 l.a2 l.a3 k ≤ 4294967295 := by
  obtain ⟨_, _, _, e0, e1, e2, e3, _, _⟩ := hl
  unfold adrOf
  (repeat' split) <;> assumption
section
variable {K : Value → Heap → Prop} {g p : Nat} (l : L)
theorem c23g (hl : l.Ok) (q : Q) (hq : q.Ok) (sp : Option Addr) (hs : q.q0 = 23 → l.fails = false → ∀ p, K (A.one 23 0).val [(g, l.row (some ⟨p, 0, none⟩)), (p, .row 74 [.int .i64 l.pid, .int .i64 l.pr] (0, 0))])
    (h : ¬ (q.q0 = 23 ∧ l.fails = false) → K (l.configures q).1.val [(g, (l.configures q).2.row sp)]) : SCalls Try.prog 39 [.pointer (some ⟨g, 0, none⟩), q.val] [(g, l.row sp)] K := by
  have hadr := adrOf_bd hl
  obtain ⟨a0, a1, a2, a3, pid, pr, uid, ur, mode, taken, looks, st, fails⟩ := l
  have huid := hl.uid
  dsimp only at huid hadr
  clear hl
  obtain ⟨q0, q1, q2, q3, q4, q5, q6, q7⟩ := q
  obtain ⟨r0, r1, r2, r3, r4, r5, r6, r7⟩ := hq
  dsimp only at r0 r1 r2 r3 r4 r5 r6 r7 hs h
  dsimp only [L.row, Q.val]
  refine enter39 ?_
  repeat' ((conv => whnf); (first
      | refine c19 _ _ (by first | omega | exact hadr _) ?_
      | refine c26 _ _ (by omega) ?_
      | refine adr_cell (by omega) ?_
      | refine New.mk (fun _ => ?_)
      | refine Look.at0 ?_
      | refine Cell.row ?_
      | refine Cell.buf ?_
      | refine Cells.row rfl ?_
      | refine Put.row rfl ?_
      | refine Put.buf rfl ?_
      | refine Look.at1 ?_
      | refine Look.at2 ?_
      | refine Look.at3 ?_
      | refine Look.at4 ?_
      | refine Look.at5 ?_
      | refine Look.at6 ?_
      | refine Look.at7 ?_
      | refine Look.at8 ?_
      | with_reducible refine Val.i64 (by omega) (by omega) ?_
      | with_reducible refine Val.u8 (by omega) (by omega) ?_
      | with_reducible refine Val.u32 (by omega) (by omega) ?_
      | with_reducible refine Val.u64 (by omega) (by omega) ?_
      | with_reducible refine Val.u8m ?_
      | with_reducible refine Val.u32m ?_
      | with_reducible refine Val.u64m ?_
      | with_reducible refine Val.shr8 ?_
      | with_reducible refine Val.shr16 (by decide) ?_
      | with_reducible refine Val.shr24 (by decide) ?_
      | with_reducible refine Val.raw ?_
      | refine Branch.not ?_
      | refine Branch.and ?_
      | refine Branch.or ?_
      | refine Branch.dt (by assumption) ?_
      | refine Branch.df (by assumption) ?_
      | refine Branch.dt rfl ?_
      | refine Branch.dt (by omega) ?_
      | refine Branch.df (by omega) ?_
      | refine Branch.t rfl ?_
      | refine Branch.f rfl ?_
      | refine Branch.t (by assumption) ?_
      | refine Branch.f (by assumption) ?_
      | refine Branch.d (fun _ => ?_) (fun _ => ?_)
      | refine Branch.mk (fun _ => ?_) (fun _ => ?_)
      | refine Need.mk (by first | omega | decide | rfl) ?_
      | refine Idx.nat (by omega) ?_
      | refine Idx.auto (by first | omega | decide) (by first | omega | decide) ?_
      | refine Cell.ro rfl ?_
      | refine SDraw.all (by kernel_rfl) ?_
      | refine Kept.k0 ?_
      | refine Kept.k1 ?_
      | refine Kept.k2 ?_
      | refine Kept.k3 ?_
      | refine Kept.k4 ?_))
  all_goals (conv => whnf)
  all_goals subst_vars
  all_goals try (have n94 : ¬ q0 = 94 := by omega)
  all_goals first
    | exact Keep.s2 (hs rfl (by first | rfl | assumption) _)
    | (have h := h (by simp [*])
       dsimp only [L.configures, L.adr] at h
       simp only [*, ↓reduceIte, not_false_eq_true, not_true_eq_false, ne_eq, and_true, true_and, and_false, false_and, and_self] at h
       exact Keep.d2 h)
/-- What Take asks: of an answer that stores, and of all others. -/
theorem c8g (hl : l.Ok) (q : Q) (hq : q.Ok) (sp : Option Addr) (hs : q.q0 = 23 → l.mode = 1 → l.fails = false → ∀ p, K (A.one 23 0).val [(g, l.row (some ⟨p, 0, none⟩)), (p, .row 74 [.int .i64 l.pid, .int .i64 l.pr] (0, 0))])
    (h : ¬ (q.q0 = 23 ∧ l.mode = 1 ∧ l.fails = false) → K (l.take q).1.val [(g, (l.take q).2.row sp)]) : SCalls Try.prog 25 [.pointer (some ⟨g, 0, none⟩), q.val] [(g, l.row sp)] K := by
  have hm := hl.mode
  have hq' := hq
  generalize he : l.take q = al at h
  obtain ⟨a, l'⟩ := al
  obtain ⟨q0, q1, q2, q3, q4, q5, q6, q7⟩ := q
  obtain ⟨r0, r1, r2, r3, r4, r5, r6, r7⟩ := hq
  dsimp only at r0 r1 r2 r3 r4 r5 r6 r7 hs h
  dsimp only [Q.val]
  refine enter25 ?_
  repeat' ((conv => whnf); (first
      | refine c19z _ ?_
      | refine c21 _ _ _ _ _ _ _ _ (by omega) (by omega) (by omega) (by omega) ?_
      | refine SCalls.at2 (c18g l _ sp ?_)
      | refine SCalls.at2 (c20g l hl _ _ (by omega) sp ?_)
      | refine SCalls.at2 (c22g l hl _ hq' sp ?_)
      | refine SCalls.at2 (c23g l hl _ hq' sp (fun _ _ _ => ?_) (fun _ => ?_))
      | unfold L.row
      | refine New.mk (fun _ => ?_)
      | refine Look.at0 ?_
      | refine Cell.row ?_
      | refine Cell.buf ?_
      | refine Cells.row rfl ?_
      | refine Put.row rfl ?_
      | refine Put.buf rfl ?_
      | refine Look.at1 ?_
      | refine Look.at2 ?_
      | refine Look.at3 ?_
      | refine Look.at4 ?_
      | refine Look.at5 ?_
      | refine Look.at6 ?_
      | refine Look.at7 ?_
      | refine Look.at8 ?_
      | with_reducible refine Val.i64 (by omega) (by omega) ?_
      | with_reducible refine Val.u8 (by omega) (by omega) ?_
      | with_reducible refine Val.u32 (by omega) (by omega) ?_
      | with_reducible refine Val.u64 (by omega) (by omega) ?_
      | with_reducible refine Val.u8m ?_
      | with_reducible refine Val.u32m ?_
      | with_reducible refine Val.u64m ?_
      | with_reducible refine Val.shr8 ?_
      | with_reducible refine Val.shr16 (by decide) ?_
      | with_reducible refine Val.shr24 (by decide) ?_
      | with_reducible refine Val.raw ?_
      | refine Branch.not ?_
      | refine Branch.and ?_
      | refine Branch.or ?_
      | refine Branch.dt (by assumption) ?_
      | refine Branch.df (by assumption) ?_
      | refine Branch.dt rfl ?_
      | refine Branch.dt (by omega) ?_
      | refine Branch.df (by omega) ?_
      | refine Branch.t rfl ?_
      | refine Branch.f rfl ?_
      | refine Branch.t (by assumption) ?_
      | refine Branch.f (by assumption) ?_
      | refine Branch.d (fun _ => ?_) (fun _ => ?_)
      | refine Branch.mk (fun _ => ?_) (fun _ => ?_)
      | refine Need.mk (by first | omega | decide | rfl) ?_
      | refine Idx.nat (by omega) ?_
      | refine Idx.auto (by first | omega | decide) (by first | omega | decide) ?_
      | refine Cell.ro rfl ?_
      | refine SDraw.all (by kernel_rfl) ?_
      | refine Kept.k0 ?_
      | refine Kept.k1 ?_
      | refine Kept.k2 ?_
      | refine Kept.k3 ?_
      | refine Kept.k4 ?_))
  all_goals (conv => whnf)
  all_goals try dsimp only at *
  all_goals try (have m1 : l.mode = 1 := by omega)
  all_goals try (have m0 : l.mode = 0 := by omega)
  all_goals first
    | (exfalso; omega)
    | exact Keep.d2 (hs (by assumption) (by assumption) (by assumption) _)
    | (have hk := h (by rintro ⟨e1, e2, e3⟩; first | omega | exact absurd (And.intro e1 e3) (by assumption))
       clear h
       unfold L.take at he
       dsimp only at he
       (repeat' (split at he)) <;> first | (exfalso; omega) | (have e1 := congrArg Prod.fst he; have e2 := congrArg Prod.snd he; dsimp only at e1 e2; subst e1; subst e2; clear he; subst_vars; exact Keep.d2 hk))
end
end Go.Proofs.Ytkegkhhfbfegoaa.Ls
