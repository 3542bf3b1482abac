/- Layer 19: the document's slave: scan, set and Take, by walks. -/
import Derived.Test.YtkegkhhfbfegoaaLsR
set_option linter.unusedVariables false
set_option linter.unusedSimpArgs false
set_option maxRecDepth 100000
set_option maxHeartbeats 4000000
namespace Go.Proofs.Ytkegkhhfbfegoaa.Ls
open Go.Proofs.Ytkegkhhfbfegoaa Go.Proofs.Ytkegkhhfbfegoaa.Sx
inductive Sl30 (A0 A2 A4 A6 A8 : Value) : List Value → Prop
  | mk {r1 r3 r5 r7 r9 r10 r11 r12 r13 r14 r15 r16 r17 r18 r19 r20 r21 r22 r23 r24 r25 r26 r27 r28 r29 r30 r31 r32 r33 r34 r35 r36 r37 r38 r39 r40 r41 r42 r43 r44 r45 r46 r47 r48 r49 r50 r51 r52 r53 r54 r55 r56 r57 r58 r59 r60 r61 r62 r63 r64 r65 r66 r67 r68 r69 r70 r71 r72 r73 r74 r75 r76 r77 r78 r79 r80 r81 r82 r83 r84 r85 r86 r87 : Value} : Sl30 A0 A2 A4 A6 A8 [A0, r1, A2, r3, A4, r5, A6, r7, A8, r9, r10, r11, r12, r13, r14, r15, r16, r17, r18, r19, r20, r21, r22, r23, r24, r25, r26, r27, r28, r29, r30, r31, r32, r33, r34, r35, r36, r37, r38, r39, r40, r41, r42, r43, r44, r45, r46, r47, r48, r49, r50, r51, r52, r53, r54, r55, r56, r57, r58, r59, r60, r61, r62, r63, r64, r65, r66, r67, r68, r69, r70, r71, r72, r73, r74, r75, r76, r77, r78, r79, r80, r81, r82, r83, r84, r85, r86, r87]
def I30 (g : Nat) (q0 q1 q2 q3 q4 q5 q6 q7 : Int) (r : R) (n : Int) (l : List Value) (H : Heap) : Prop :=
  ∃ (i p4 p6 : Nat), q5 ≤ (i : Int) ∧ i ≤ 32 ∧ (∀ j : Nat, q5 ≤ (j : Int) → j < i → r.adr r.looks / 2 ^ j % 2 = n / 2 ^ j % 2) ∧
    Sl30 (.pointer (some ⟨g, 0, none⟩)) (.int .u32 n) (.pointer (some ⟨p4, 0, none⟩)) (.pointer (some ⟨p6, 0, none⟩)) (.int .i64 (i : Int)) l ∧
    H = [(p6, .row 55 [.int .u8 0, .int .u8 0, .int .u8 0, .int .u8 0, .int .u8 0, .int .u8 0, .int .u8 0, .int .u8 0] (0, 0)), (p4, .row 55 [.int .u8 q0, .int .u8 q1, .int .u8 q2, .int .u8 q3, .int .u8 q4, .int .u8 q5, .int .u8 q6, .int .u8 q7] (0, 0)), (g, r.row)]
noncomputable def M30 (l : List Value) (_ : Heap) : Nat := 32 - (match getL l 8 with | .int _ i => i.toNat | _ => 0)
section
variable {K : Value → Heap → Prop} {g p : Nat} (r : R)
theorem c30 (hr : r.Ok) (q : Q) (hq : q.Ok) (n : Int) (hn : 0 ≤ n ∧ n ≤ 4294967295) (h : K (r.scan q n).1.val [(g, (r.scan q n).2.row)]) : SCalls Try.prog 46 [.pointer (some ⟨g, 0, none⟩), q.val, .int .u32 n] [(g, r.row)] K := by
  have hadr : 0 ≤ r.adr r.looks := by
    obtain ⟨_, _, e0, e1, e2, e3, _, _, _⟩ := hr
    unfold R.adr adrOf; (repeat' split) <;> omega
  have hlk := hr.looks
  have hq' := hq
  generalize he : r.scan q n = al at h
  obtain ⟨q0, q1, q2, q3, q4, q5, q6, q7⟩ := q
  obtain ⟨r0, r1, r2, r3, r4, r5, r6, r7⟩ := hq
  dsimp only at r0 r1 r2 r3 r4 r5 r6 r7
  dsimp only [Q.val]
  obtain ⟨a, r'⟩ := al
  dsimp only at h
  unfold R.scan at he
  dsimp only at he
  refine enter46 ?_
  repeat' ((conv => whnf); (first
      | refine c27z _ ?_
      | unfold R.row
      | refine New.mk (fun _ => ?_)
      | refine Look.at0 ?_
      | refine Cell.row ?_
      | refine Cell.buf ?_
      | refine Cells.row rfl ?_
      | refine Put.row rfl ?_
      | refine Put.buf rfl ?_
      | refine Look.at1 ?_
      | refine Look.at2 ?_
      | refine Look.at3 ?_
      | refine Look.at4 ?_
      | refine Look.at5 ?_
      | refine Look.at6 ?_
      | refine Look.at7 ?_
      | refine Look.at8 ?_
      | with_reducible refine Val.i64 (by omega) (by omega) ?_
      | with_reducible refine Val.u8 (by omega) (by omega) ?_
      | with_reducible refine Val.u32 (by omega) (by omega) ?_
      | with_reducible refine Val.u64 (by omega) (by omega) ?_
      | with_reducible refine Val.u8m ?_
      | with_reducible refine Val.u32m ?_
      | with_reducible refine Val.u64m ?_
      | with_reducible refine Val.shr8 ?_
      | with_reducible refine Val.shr16 (by decide) ?_
      | with_reducible refine Val.shr24 (by decide) ?_
      | with_reducible refine Val.raw ?_
      | refine Branch.not ?_
      | refine Branch.and ?_
      | refine Branch.or ?_
      | refine Branch.dt (by assumption) ?_
      | refine Branch.df (by assumption) ?_
      | refine Branch.dt rfl ?_
      | refine Branch.dt (by omega) ?_
      | refine Branch.df (by omega) ?_
      | refine Branch.t rfl ?_
      | refine Branch.f rfl ?_
      | refine Branch.t (by assumption) ?_
      | refine Branch.f (by assumption) ?_
      | refine Branch.d (fun _ => ?_) (fun _ => ?_)
      | refine Branch.mk (fun _ => ?_) (fun _ => ?_)
      | refine Need.mk (by first | omega | decide | rfl) ?_
      | refine Idx.nat (by omega) ?_
      | refine Idx.auto (by first | omega | decide) (by first | omega | decide) ?_
      | refine Cell.ro rfl ?_
      | refine SDraw.all (by kernel_rfl) ?_
      | refine Kept.k0 ?_
      | refine Kept.k1 ?_
      | refine Kept.k2 ?_
      | refine Kept.k3 ?_
      | refine Kept.k4 ?_))
  all_goals (conv => whnf)
  all_goals try
    ((repeat' (split at he)) <;> first | (exfalso; omega) | (have e1 := congrArg Prod.fst he; have e2 := congrArg Prod.snd he; dsimp only at e1 e2; subst e1; subst e2; clear he; subst_vars; exact Keep.d2 h))
  rw [if_neg (by omega), if_neg (by omega), if_neg (by omega), if_neg (by omega), if_neg (by omega)] at he
  refine SLoop.inv (I30 g q0 q1 q2 q3 q4 q5 q6 q7 r n) M30 (Keep.all ⟨q5.toNat, _, _, by omega, by omega, fun j h1 h2 => by omega, by rw [Int.toNat_of_nonneg (by omega)]; exact .mk, rfl⟩) ?_
  rintro S H ⟨i, p4, p6, hi, hi2, hall, hS, rfl⟩ R hR
  cases hS
  have hb : i ≤ IntKind.u32.bits := hi2
  have hd1 : 0 ≤ adrOf r.a0 r.a1 r.a2 r.a3 r.looks / 2 ^ i := Int.ediv_nonneg hadr (Int.le_of_lt (Int.pow_pos (by decide)))
  have hd2 : 0 ≤ n / 2 ^ i := Int.ediv_nonneg hn.1 (Int.le_of_lt (Int.pow_pos (by decide)))
  repeat' ((conv => whnf); (first
      | refine c27z _ ?_
      | unfold R.row
      | refine adr_cell (by omega) ?_
      | with_reducible refine Val.shr i rfl hb ?_
      | with_reducible refine Val.tmod (by assumption) ?_
      | refine New.mk (fun _ => ?_)
      | refine Look.at0 ?_
      | refine Cell.row ?_
      | refine Cell.buf ?_
      | refine Cells.row rfl ?_
      | refine Put.row rfl ?_
      | refine Put.buf rfl ?_
      | refine Look.at1 ?_
      | refine Look.at2 ?_
      | refine Look.at3 ?_
      | refine Look.at4 ?_
      | refine Look.at5 ?_
      | refine Look.at6 ?_
      | refine Look.at7 ?_
      | refine Look.at8 ?_
      | with_reducible refine Val.i64 (by omega) (by omega) ?_
      | with_reducible refine Val.u8 (by omega) (by omega) ?_
      | with_reducible refine Val.u32 (by omega) (by omega) ?_
      | with_reducible refine Val.u64 (by omega) (by omega) ?_
      | with_reducible refine Val.u8m ?_
      | with_reducible refine Val.u32m ?_
      | with_reducible refine Val.u64m ?_
      | with_reducible refine Val.shr8 ?_
      | with_reducible refine Val.shr16 (by decide) ?_
      | with_reducible refine Val.shr24 (by decide) ?_
      | with_reducible refine Val.raw ?_
      | refine Branch.not ?_
      | refine Branch.and ?_
      | refine Branch.or ?_
      | refine Branch.dt (by assumption) ?_
      | refine Branch.df (by assumption) ?_
      | refine Branch.dt rfl ?_
      | refine Branch.dt (by omega) ?_
      | refine Branch.df (by omega) ?_
      | refine Branch.t rfl ?_
      | refine Branch.f rfl ?_
      | refine Branch.t (by assumption) ?_
      | refine Branch.f (by assumption) ?_
      | refine Branch.d (fun _ => ?_) (fun _ => ?_)
      | refine Branch.mk (fun _ => ?_) (fun _ => ?_)
      | refine Need.mk (by first | omega | decide | rfl) ?_
      | refine Idx.nat (by omega) ?_
      | refine Idx.auto (by first | omega | decide) (by first | omega | decide) ?_
      | refine Cell.ro rfl ?_
      | refine SDraw.all (by kernel_rfl) ?_
      | refine Kept.k0 ?_
      | refine Kept.k1 ?_
      | refine Kept.k2 ?_
      | refine Kept.k3 ?_
      | refine Kept.k4 ?_))
  all_goals (conv => whnf)
  all_goals first
    | (refine hR _ _ (Keep.all ⟨⟨i + 1, p4, p6, by omega, by omega, fun j h1 h2 => ?_, .mk, rfl⟩, ?_⟩)
       · by_cases hj : j = i
         · subst hj; assumption
         · exact hall j h1 (by omega)
       · show 32 - Int.toNat ((i : Int) + 1) < 32 - Int.toNat (i : Int); omega)
    | (have hs : r.Sees q5 n := fun j h1 h2 => hall j h2 (by omega)
       rw [if_neg (fun e => e hs)] at he
       (repeat' (split at he)) <;> first | (exfalso; omega) | (have e1 := congrArg Prod.fst he; have e2 := congrArg Prod.snd he; dsimp only at e1 e2; subst e1; subst e2; clear he; subst_vars; exact Keep.d2 h))
    | (have hs : ¬ r.Sees q5 n := fun hs => absurd (hs i (by omega) hi) (by assumption)
       rw [if_pos hs] at he
       (repeat' (split at he)) <;> first | (exfalso; omega) | (have e1 := congrArg Prod.fst he; have e2 := congrArg Prod.snd he; dsimp only at e1 e2; subst e1; subst e2; clear he; subst_vars; exact Keep.d2 h))
    | trace_state
theorem c28 (hr : r.Ok) (q : Q) (hq : q.Ok) (h : K (r.set q).1.val [(g, (r.set q).2.row)]) : SCalls Try.prog 44 [.pointer (some ⟨g, 0, none⟩), q.val] [(g, r.row)] K := by
  have hadr : ∀ k, 0 ≤ adrOf r.a0 r.a1 r.a2 r.a3 k ∧ adrOf r.a0 r.a1 r.a2 r.a3 k ≤ 4294967295 := by
    intro k
    obtain ⟨_, _, e0, e1, e2, e3, _, _, _⟩ := hr
    unfold adrOf; (repeat' split) <;> omega
  have huid := hr.uid
  generalize he : r.set q = al at h
  obtain ⟨q0, q1, q2, q3, q4, q5, q6, q7⟩ := q
  obtain ⟨r0, r1, r2, r3, r4, r5, r6, r7⟩ := hq
  dsimp only at r0 r1 r2 r3 r4 r5 r6 r7
  dsimp only [Q.val]
  obtain ⟨a, r'⟩ := al
  dsimp only at h
  unfold R.set at he
  dsimp only at he
  refine enter44 ?_
  repeat' ((conv => whnf); (first
      | refine SDraw.held (by kernel_rfl) [(g, .ro (partF [(4, .int .i64 r.id), (5, .int .i64 r.rate)])), (_, .row 55 [.int .u8 q0, .int .u8 q1, .int .u8 q2, .int .u8 q3, .int .u8 q4, .int .u8 q5, .int .u8 q6, .int .u8 q7] (0, 0))] (Seen.cells (.tail _ (.tail _ (.head _))) ⟨rfl, rfl, trivial⟩ (.same (.tail _ (.head _)) .nil)) ?_
      | refine Kept.mk (Seen.cells (.tail _ (.tail _ (.head _))) ⟨rfl, rfl, trivial⟩ (.same (.tail _ (.head _)) .nil)) ?_
      | refine c27z _ ?_
      | refine c27s _ _ (by omega) ?_
      | refine c27 _ _ (hadr _) ?_
      | unfold R.row
      | refine adr_cell (by omega) ?_
      | with_reducible refine Val.tmod (by omega) ?_
      | refine New.mk (fun _ => ?_)
      | refine Look.at0 ?_
      | refine Cell.row ?_
      | refine Cell.buf ?_
      | refine Cells.row rfl ?_
      | refine Put.row rfl ?_
      | refine Put.buf rfl ?_
      | refine Look.at1 ?_
      | refine Look.at2 ?_
      | refine Look.at3 ?_
      | refine Look.at4 ?_
      | refine Look.at5 ?_
      | refine Look.at6 ?_
      | refine Look.at7 ?_
      | refine Look.at8 ?_
      | with_reducible refine Val.i64 (by omega) (by omega) ?_
      | with_reducible refine Val.u8 (by omega) (by omega) ?_
      | with_reducible refine Val.u32 (by omega) (by omega) ?_
      | with_reducible refine Val.u64 (by omega) (by omega) ?_
      | with_reducible refine Val.u8m ?_
      | with_reducible refine Val.u32m ?_
      | with_reducible refine Val.u64m ?_
      | with_reducible refine Val.shr8 ?_
      | with_reducible refine Val.shr16 (by decide) ?_
      | with_reducible refine Val.shr24 (by decide) ?_
      | with_reducible refine Val.raw ?_
      | refine Branch.not ?_
      | refine Branch.and ?_
      | refine Branch.or ?_
      | refine Branch.dt (by assumption) ?_
      | refine Branch.df (by assumption) ?_
      | refine Branch.dt rfl ?_
      | refine Branch.dt (by omega) ?_
      | refine Branch.df (by omega) ?_
      | refine Branch.t rfl ?_
      | refine Branch.f rfl ?_
      | refine Branch.t (by assumption) ?_
      | refine Branch.f (by assumption) ?_
      | refine Branch.d (fun _ => ?_) (fun _ => ?_)
      | refine Branch.mk (fun _ => ?_) (fun _ => ?_)
      | refine Need.mk (by first | omega | decide | rfl) ?_
      | refine Idx.nat (by omega) ?_
      | refine Idx.auto (by first | omega | decide) (by first | omega | decide) ?_
      | refine Cell.ro rfl ?_
      | refine SDraw.all (by kernel_rfl) ?_
      | refine Kept.k0 ?_
      | refine Kept.k1 ?_
      | refine Kept.k2 ?_
      | refine Kept.k3 ?_
      | refine Kept.k4 ?_))
  all_goals (conv => whnf)
  all_goals try (have n94 : ¬ q0 = 94 := by omega)
  all_goals first
    | ((repeat' (split at he)) <;> first | (exfalso; omega) | (exfalso; exact absurd ‹r.fails = true› (by rw [‹r.fails = false›]; exact Bool.false_ne_true)) | (have e1 := congrArg Prod.fst he; have e2 := congrArg Prod.snd he; dsimp only at e1 e2; subst e1; subst e2; clear he; subst_vars; exact Keep.d2 h))
    | trace_state
/-- The document's Take. -/
theorem c24 (hr : r.Ok) (q : Q) (hq : q.Ok) (h : K (r.take q).1.val [(g, (r.take q).2.row)]) : SCalls Try.prog 41 [.pointer (some ⟨g, 0, none⟩), q.val] [(g, r.row)] K := by
  have hq' := hq
  have hn : 0 ≤ numR q.q1 q.q2 q.q3 q.q4 ∧ numR q.q1 q.q2 q.q3 q.q4 ≤ 4294967295 := by
    obtain ⟨r0, r1, r2, r3, r4, r5, r6, r7⟩ := hq
    unfold numR; omega
  generalize he : r.take q = al at h
  obtain ⟨q0, q1, q2, q3, q4, q5, q6, q7⟩ := q
  obtain ⟨r0, r1, r2, r3, r4, r5, r6, r7⟩ := hq
  dsimp only at r0 r1 r2 r3 r4 r5 r6 r7 hn
  dsimp only [Q.val]
  obtain ⟨a, r'⟩ := al
  dsimp only at h
  unfold R.take at he
  dsimp only at he
  refine enter41 ?_
  repeat' ((conv => whnf); (first
      | refine c27z _ ?_
      | refine SCalls.at2 (c28 r hr ⟨q0, q1, q2, q3, q4, q5, q6, q7⟩ hq' ?_)
      | refine SCalls.at2 (c29 r hr _ _ (by omega) ?_)
      | refine SCalls.at2 (c30 r hr ⟨q0, q1, q2, q3, q4, q5, q6, q7⟩ hq' _ hn ?_)
      | unfold R.row
      | refine New.mk (fun _ => ?_)
      | refine Look.at0 ?_
      | refine Cell.row ?_
      | refine Cell.buf ?_
      | refine Cells.row rfl ?_
      | refine Put.row rfl ?_
      | refine Put.buf rfl ?_
      | refine Look.at1 ?_
      | refine Look.at2 ?_
      | refine Look.at3 ?_
      | refine Look.at4 ?_
      | refine Look.at5 ?_
      | refine Look.at6 ?_
      | refine Look.at7 ?_
      | refine Look.at8 ?_
      | with_reducible refine Val.i64 (by omega) (by omega) ?_
      | with_reducible refine Val.u8 (by omega) (by omega) ?_
      | with_reducible refine Val.u32 (by omega) (by omega) ?_
      | with_reducible refine Val.u64 (by omega) (by omega) ?_
      | with_reducible refine Val.u8m ?_
      | with_reducible refine Val.u32m ?_
      | with_reducible refine Val.u64m ?_
      | with_reducible refine Val.shr8 ?_
      | with_reducible refine Val.shr16 (by decide) ?_
      | with_reducible refine Val.shr24 (by decide) ?_
      | with_reducible refine Val.raw ?_
      | refine Branch.not ?_
      | refine Branch.and ?_
      | refine Branch.or ?_
      | refine Branch.dt (by assumption) ?_
      | refine Branch.df (by assumption) ?_
      | refine Branch.dt rfl ?_
      | refine Branch.dt (by omega) ?_
      | refine Branch.df (by omega) ?_
      | refine Branch.t rfl ?_
      | refine Branch.f rfl ?_
      | refine Branch.t (by assumption) ?_
      | refine Branch.f (by assumption) ?_
      | refine Branch.d (fun _ => ?_) (fun _ => ?_)
      | refine Branch.mk (fun _ => ?_) (fun _ => ?_)
      | refine Need.mk (by first | omega | decide | rfl) ?_
      | refine Idx.nat (by omega) ?_
      | refine Idx.auto (by first | omega | decide) (by first | omega | decide) ?_
      | refine Cell.ro rfl ?_
      | refine SDraw.all (by kernel_rfl) ?_
      | refine Kept.k0 ?_
      | refine Kept.k1 ?_
      | refine Kept.k2 ?_
      | refine Kept.k3 ?_
      | refine Kept.k4 ?_))
  all_goals (conv => whnf)
  all_goals first
    | ((repeat' (split at he)) <;> first | (exfalso; omega) | (have e1 := congrArg Prod.fst he; have e2 := congrArg Prod.snd he; dsimp only at e1 e2; subst e1; subst e2; clear he; subst_vars; exact Keep.d2 h))
    | trace_state
end
end Go.Proofs.Ytkegkhhfbfegoaa.Ls
