/- Layer 19: a slave uses no other number: the walk (NOT YET BUILT: see NOTES.md). -/
import Derived.Test.YtneicohblmjakaaLsH
import Derived.Test.YtneicohblmjakaaLsF1
import Derived.Test.YtneicohblmjakaaXb
import Derived.Test.YtneicohblmjakaaTy
set_option linter.unusedVariables false
set_option linter.unusedSimpArgs false
set_option maxRecDepth 100000
set_option maxHeartbeats 4000000
namespace Go.Proofs.Ytneicohblmjakaa
open Sx
theorem SCalls.under {P : Program} {f : FuncId} {args : List Value} {H : Heap} {K : Value → Heap → Prop} (A : Heap) (h : SCalls P f args H fun v H' => K v (A ++ H')) : SCalls P f args (A ++ H) K := by
  have h1 := h.frame (R := A)
  refine (h1.perm List.perm_append_comm).mono ?_ |>.keep
  rintro v H' ⟨H1, rfl, hK⟩
  exact Keep.perm _ List.perm_append_comm hK
theorem Keep.s3 {a x b : Nat × Blk} {K : Heap → Prop} (h : K [b, a]) : Keep [a, x, b] K :=
  ⟨[b, a, x], [b, a], (List.perm_append_comm : ([a, x] ++ [b]).Perm ([b] ++ [a, x])), List.Sublist.cons_cons _ (List.Sublist.cons_cons _ (List.nil_sublist _)), h⟩
theorem c14n {K : Value → Heap → Prop} {g p : Nat} (l : L) (hs : l.st = none) (h : K (.tuple ⟨[.int .i64 0, .int .i64 0, .bool false]⟩) (l.H g p)) : SCalls Try.prog 14 [.pointer (some ⟨g, 0, none⟩)] (l.H g p) K :=
  c14 l (by unfold L.told; rw [hs]; exact h)
theorem c14s {K : Value → Heap → Prop} {g p : Nat} (l : L) {i r : Int} (hs : l.st = some (i, r)) (h : K (.tuple ⟨[.int .i64 i, .int .i64 r, .bool true]⟩) (l.H g p)) : SCalls Try.prog 14 [.pointer (some ⟨g, 0, none⟩)] (l.H g p) K :=
  c14 l (by unfold L.told; rw [hs]; exact h)
inductive Slots5 (A B C : Value) : List Value → Prop
  | mk {r0 r1 r3 r4 r5 r6 r8 r10 r11 r12 r13 r14 r15 r16 r17 r18 r19 r20 r21 r22 r23 r24 r25 r26 r27 r28 r29 r30 r31 r32 r33 r34 r35 r36 r37 r38 r39 r40 r41 r42 r43 r44 r45 r46 r47 r48 r49 r50 r51 r52 r53 r54 r55 r56 r57 r58 r59 r60 r61 r62 r63 r64 r65 r66 r67 r68 r69 r70 r71 r72 r73 r74 r75 r76 r77 r78 r79 r80 r81 r82 r83 r84 r85 r86 r87 r88 r89 r90 r91 r92 r93 r94 r95 r96 r97 r98 r99 r100 r101 r102 r103 r104 r105 r106 r107 r108 r109 r110 r111 r112 r113 r114 r115 r116 r117 r118 r119 r120 r121 r122 r123 r124 r125 r126 r127 r128 r129 r130 r131 r132 : Value} : Slots5 A B C [r0, r1, A, r3, r4, r5, r6, B, r8, C, r10, r11, r12, r13, r14, r15, r16, r17, r18, r19, r20, r21, r22, r23, r24, r25, r26, r27, r28, r29, r30, r31, r32, r33, r34, r35, r36, r37, r38, r39, r40, r41, r42, r43, r44, r45, r46, r47, r48, r49, r50, r51, r52, r53, r54, r55, r56, r57, r58, r59, r60, r61, r62, r63, r64, r65, r66, r67, r68, r69, r70, r71, r72, r73, r74, r75, r76, r77, r78, r79, r80, r81, r82, r83, r84, r85, r86, r87, r88, r89, r90, r91, r92, r93, r94, r95, r96, r97, r98, r99, r100, r101, r102, r103, r104, r105, r106, r107, r108, r109, r110, r111, r112, r113, r114, r115, r116, r117, r118, r119, r120, r121, r122, r123, r124, r125, r126, r127, r128, r129, r130, r131, r132]
def numI (xl cap b o : Nat) (f : Nat → Option Value) (l : List Value) (H : Heap) : Prop :=
  ∃ (n j g p : Nat) (s : L), j ≤ n ∧ n ≤ xl ∧ s.Fit ∧ Slots5 (.slice (some ⟨b, o, none⟩) n cap) (.pointer (some ⟨g, 0, none⟩)) (.int .i64 (j : Int)) l ∧ H = (b, .ro f) :: s.H g p
noncomputable def numM (xl : Nat) (l : List Value) (_ : Heap) : Nat := xl - (match getL l 9 with | .int _ i => i.toNat | _ => 0)
theorem num_sc (a0 a1 a2 a3 id : Int) (xl cap b o : Nat) (f : Nat → Option Value) (hxc : xl ≤ 1152921504606846975) (e0 : 0 ≤ a0 ∧ a0 ≤ 4294967295) (e1 : 0 ≤ a1 ∧ a1 ≤ 4294967295) (e2 : 0 ≤ a2 ∧ a2 ≤ 4294967295) (e3 : 0 ≤ a3 ∧ a3 ≤ 4294967295)
    (hf : ∀ j, j < xl → ∃ (k : Int) (q : Q) (fl : Bool), q.Ok ∧ ∀ i v, [Value.int .i64 k, .int .u8 q.q0, .int .u8 q.q1, .int .u8 q.q2, .int .u8 q.q3, .int .u8 q.q4, .int .u8 q.q5, .int .u8 q.q6, .int .u8 q.q7, .bool fl][i]? = some v → f (o + j * 10 + i) = some v) :
    SCalls Try.prog 5 [.agg ⟨[.int .u32 a0, .int .u32 a1, .int .u32 a2, .int .u32 a3]⟩, .int .i64 id, .slice (some ⟨b, o, none⟩) xl cap] [(b, .ro f)] fun v _ => v = .bool true := by
  refine enter5 ?_
  by_cases hid : 0 ≤ id ∧ id ≤ 127
  · repeat' ((conv => whnf); (first
        | refine c7n a0 a1 a2 a3 id hid (fun g => ?_)
        | refine New.mk (fun _ => ?_)
        | refine Look.at0 ?_
        | refine Cell.row ?_
        | refine Cells.row rfl ?_
        | refine Put.row rfl ?_
        | refine Look.at1 ?_
        | refine Look.at2 ?_
        | refine Look.at3 ?_
        | refine Look.at4 ?_
        | refine Look.at5 ?_
        | refine Look.at6 ?_
        | refine Look.at7 ?_
        | refine Look.at8 ?_
        | with_reducible refine Val.i64 (by omega) (by omega) ?_
        | with_reducible refine Val.u8 (by omega) (by omega) ?_
        | with_reducible refine Val.u32 (by omega) (by omega) ?_
        | with_reducible refine Val.u64 (by omega) (by omega) ?_
        | with_reducible refine Val.u8m ?_
        | with_reducible refine Val.u32m ?_
        | with_reducible refine Val.u64m ?_
        | with_reducible refine Val.shr8 ?_
        | with_reducible refine Val.shr16 (by decide) ?_
        | with_reducible refine Val.shr24 (by decide) ?_
        | with_reducible refine Val.raw ?_
        | refine Branch.not ?_
        | refine Branch.and ?_
        | refine Branch.or ?_
        | refine Branch.dt (by assumption) ?_
        | refine Branch.df (by assumption) ?_
        | refine Branch.dt rfl ?_
        | refine Branch.dt (by omega) ?_
        | refine Branch.df (by omega) ?_
        | refine Branch.t rfl ?_
        | refine Branch.f rfl ?_
        | refine Branch.t (by assumption) ?_
        | refine Branch.f (by assumption) ?_
        | refine Branch.d (fun _ => ?_) (fun _ => ?_)
        | refine Branch.mk (fun _ => ?_) (fun _ => ?_)
        | refine Need.mk (by first | omega | decide | rfl) ?_
        | refine Idx.nat (by omega) ?_
        | refine Idx.auto (by first | omega | decide) (by first | omega | decide) ?_
        | refine Cell.ro rfl ?_
        | refine SDraw.all (by kernel_rfl) ?_
        | refine Kept.k0 ?_
        | refine Kept.k1 ?_
        | refine Kept.k2 ?_
        | refine Kept.k3 ?_
        | refine Kept.k4 ?_))
    all_goals (conv => whnf)
    all_goals refine SLoop.inv (numI xl cap b o f) (numM xl) (Keep.s3 ?_) ?_
    all_goals try
      exact ⟨_, 0, _, 0, (⟨a0, a1, a2, a3, id, 0, id, 0, 0, 0, 0, none, false⟩ : L), by omega, by omega, ⟨⟨⟨Int.le_refl 0, by show (0 : Int) ≤ 3; decide⟩, ⟨Int.le_refl 0, by show (0 : Int) ≤ 3; decide⟩, .inl rfl, e0, e1, e2, e3, hid, hid⟩, fun _ _ h => by cases h⟩, .mk, rfl⟩
    rintro S H ⟨n, j, g, p, l, hj, hxl, hl, hS, rfl⟩ R hR
    cases hS
    by_cases hjn : j < n
    · obtain ⟨k, ⟨q0, q1, q2, q3, q4, q5, q6, q7⟩, fl, hq, hcells⟩ := hf j (by omega)
      have hfit := take_fit l hl ⟨q0, q1, q2, q3, q4, q5, q6, q7⟩ hq
      have hrs := restart_fit l hl
      have hff : ({ l with fails := fl } : L).Fit := ⟨⟨hl.ok.1, hl.ok.2, hl.ok.3, hl.ok.4, hl.ok.5, hl.ok.6, hl.ok.7, hl.ok.8, hl.ok.9⟩, hl.st⟩
      have hu := take_uid l ⟨q0, q1, q2, q3, q4, q5, q6, q7⟩
      have hru := restart_uid l
      dsimp only at hcells hu
      rcases hst : l.st with _ | ⟨si, sr⟩
      · repeat' ((conv => whnf); (first
            | refine Cells.get [.int .i64 k, .int .u8 q0, .int .u8 q1, .int .u8 q2, .int .u8 q3, .int .u8 q4, .int .u8 q5, .int .u8 q6, .int .u8 q7, .bool fl] rfl hcells ?_
            | refine SCalls.under [_] (c12 l ?_)
            | refine SCalls.under [_, _] (c12 l ?_)
            | refine SCalls.under [_, _, _] (c12 l ?_)
            | refine SCalls.under [_] (c12 (l.take ⟨q0, q1, q2, q3, q4, q5, q6, q7⟩).2 ?_)
            | refine SCalls.under [_, _] (c12 (l.take ⟨q0, q1, q2, q3, q4, q5, q6, q7⟩).2 ?_)
            | refine SCalls.under [_, _, _] (c12 (l.take ⟨q0, q1, q2, q3, q4, q5, q6, q7⟩).2 ?_)
            | refine SCalls.under [_] (c12 l.restart ?_)
            | refine SCalls.under [_, _] (c12 l.restart ?_)
            | refine SCalls.under [_, _, _] (c12 l.restart ?_)
            | refine SCalls.under [_] (c12 { l with fails := fl } ?_)
            | refine SCalls.under [_, _] (c12 { l with fails := fl } ?_)
            | refine SCalls.under [_, _, _] (c12 { l with fails := fl } ?_)
            | refine SCalls.under [_] (c8H l hl.ok ⟨q0, q1, q2, q3, q4, q5, q6, q7⟩ hq (fun p' => ?_))
            | refine SCalls.under [_, _] (c8H l hl.ok ⟨q0, q1, q2, q3, q4, q5, q6, q7⟩ hq (fun p' => ?_))
            | refine SCalls.under [_, _, _] (c8H l hl.ok ⟨q0, q1, q2, q3, q4, q5, q6, q7⟩ hq (fun p' => ?_))
            | refine SCalls.under [_] (c15 l fl ?_)
            | refine SCalls.under [_, _] (c15 l fl ?_)
            | refine SCalls.under [_, _, _] (c15 l fl ?_)
            | refine SCalls.under [_] (c16 l ?_)
            | refine SCalls.under [_, _] (c16 l ?_)
            | refine SCalls.under [_, _, _] (c16 l ?_)
            | refine live_c ?_
            | refine SCalls.under [_] (c14n l hst ?_)
            | refine SCalls.under [_, _] (c14n l hst ?_)
            | refine SCalls.under [_, _, _] (c14n l hst ?_)
            | refine New.mk (fun _ => ?_)
            | refine Look.at0 ?_
            | refine Cell.row ?_
            | refine Cells.row rfl ?_
            | refine Put.row rfl ?_
            | refine Look.at1 ?_
            | refine Look.at2 ?_
            | refine Look.at3 ?_
            | refine Look.at4 ?_
            | refine Look.at5 ?_
            | refine Look.at6 ?_
            | refine Look.at7 ?_
            | refine Look.at8 ?_
            | with_reducible refine Val.i64 (by omega) (by omega) ?_
            | with_reducible refine Val.u8 (by omega) (by omega) ?_
            | with_reducible refine Val.u32 (by omega) (by omega) ?_
            | with_reducible refine Val.u64 (by omega) (by omega) ?_
            | with_reducible refine Val.u8m ?_
            | with_reducible refine Val.u32m ?_
            | with_reducible refine Val.u64m ?_
            | with_reducible refine Val.shr8 ?_
            | with_reducible refine Val.shr16 (by decide) ?_
            | with_reducible refine Val.shr24 (by decide) ?_
            | with_reducible refine Val.raw ?_
            | refine Branch.not ?_
            | refine Branch.and ?_
            | refine Branch.or ?_
            | refine Branch.dt (by assumption) ?_
            | refine Branch.df (by assumption) ?_
            | refine Branch.dt rfl ?_
            | refine Branch.dt (by omega) ?_
            | refine Branch.df (by omega) ?_
            | refine Branch.t rfl ?_
            | refine Branch.f rfl ?_
            | refine Branch.t (by assumption) ?_
            | refine Branch.f (by assumption) ?_
            | refine Branch.d (fun _ => ?_) (fun _ => ?_)
            | refine Branch.mk (fun _ => ?_) (fun _ => ?_)
            | refine Need.mk (by first | omega | decide | rfl) ?_
            | refine Idx.nat (by omega) ?_
            | refine Idx.auto (by first | omega | decide) (by first | omega | decide) ?_
            | refine Cell.ro rfl ?_
            | refine SDraw.all (by kernel_rfl) ?_
            | refine Kept.k0 ?_
            | refine Kept.k1 ?_
            | refine Kept.k2 ?_
            | refine Kept.k3 ?_
            | refine Kept.k4 ?_))
        all_goals (conv => whnf)
        all_goals first
          | exact Keep.all rfl
          | (refine hR _ _ (Keep.d1 ⟨⟨n, j + 1, g, _, (l.take ⟨q0, q1, q2, q3, q4, q5, q6, q7⟩).2, by omega, hxl, hfit, .mk, rfl⟩, ?_⟩); show xl - Int.toNat ((j : Int) + 1) < xl - Int.toNat (j : Int); omega)
          | (refine hR _ _ (Keep.d1 ⟨⟨n, j + 1, g, _, l.restart, by omega, hxl, hrs, .mk, rfl⟩, ?_⟩); show xl - Int.toNat ((j : Int) + 1) < xl - Int.toNat (j : Int); omega)
          | (refine hR _ _ (Keep.d1 ⟨⟨n, j + 1, g, _, { l with fails := fl }, by omega, hxl, hff, .mk, rfl⟩, ?_⟩); show xl - Int.toNat ((j : Int) + 1) < xl - Int.toNat (j : Int); omega)
          | (refine hR _ _ (Keep.d1 ⟨⟨n, j + 1, g, _, l, by omega, hxl, hl, .mk, rfl⟩, ?_⟩); show xl - Int.toNat ((j : Int) + 1) < xl - Int.toNat (j : Int); omega)
          | (exfalso; simp only [hst] at hru; dsimp only at *; omega)
          | trace_state
      · repeat' ((conv => whnf); (first
            | refine Cells.get [.int .i64 k, .int .u8 q0, .int .u8 q1, .int .u8 q2, .int .u8 q3, .int .u8 q4, .int .u8 q5, .int .u8 q6, .int .u8 q7, .bool fl] rfl hcells ?_
            | refine SCalls.under [_] (c12 l ?_)
            | refine SCalls.under [_, _] (c12 l ?_)
            | refine SCalls.under [_, _, _] (c12 l ?_)
            | refine SCalls.under [_] (c12 (l.take ⟨q0, q1, q2, q3, q4, q5, q6, q7⟩).2 ?_)
            | refine SCalls.under [_, _] (c12 (l.take ⟨q0, q1, q2, q3, q4, q5, q6, q7⟩).2 ?_)
            | refine SCalls.under [_, _, _] (c12 (l.take ⟨q0, q1, q2, q3, q4, q5, q6, q7⟩).2 ?_)
            | refine SCalls.under [_] (c12 l.restart ?_)
            | refine SCalls.under [_, _] (c12 l.restart ?_)
            | refine SCalls.under [_, _, _] (c12 l.restart ?_)
            | refine SCalls.under [_] (c12 { l with fails := fl } ?_)
            | refine SCalls.under [_, _] (c12 { l with fails := fl } ?_)
            | refine SCalls.under [_, _, _] (c12 { l with fails := fl } ?_)
            | refine SCalls.under [_] (c8H l hl.ok ⟨q0, q1, q2, q3, q4, q5, q6, q7⟩ hq (fun p' => ?_))
            | refine SCalls.under [_, _] (c8H l hl.ok ⟨q0, q1, q2, q3, q4, q5, q6, q7⟩ hq (fun p' => ?_))
            | refine SCalls.under [_, _, _] (c8H l hl.ok ⟨q0, q1, q2, q3, q4, q5, q6, q7⟩ hq (fun p' => ?_))
            | refine SCalls.under [_] (c15 l fl ?_)
            | refine SCalls.under [_, _] (c15 l fl ?_)
            | refine SCalls.under [_, _, _] (c15 l fl ?_)
            | refine SCalls.under [_] (c16 l ?_)
            | refine SCalls.under [_, _] (c16 l ?_)
            | refine SCalls.under [_, _, _] (c16 l ?_)
            | refine live_c ?_
            | refine SCalls.under [_] (c14s l hst ?_)
            | refine SCalls.under [_, _] (c14s l hst ?_)
            | refine SCalls.under [_, _, _] (c14s l hst ?_)
            | refine New.mk (fun _ => ?_)
            | refine Look.at0 ?_
            | refine Cell.row ?_
            | refine Cells.row rfl ?_
            | refine Put.row rfl ?_
            | refine Look.at1 ?_
            | refine Look.at2 ?_
            | refine Look.at3 ?_
            | refine Look.at4 ?_
            | refine Look.at5 ?_
            | refine Look.at6 ?_
            | refine Look.at7 ?_
            | refine Look.at8 ?_
            | with_reducible refine Val.i64 (by omega) (by omega) ?_
            | with_reducible refine Val.u8 (by omega) (by omega) ?_
            | with_reducible refine Val.u32 (by omega) (by omega) ?_
            | with_reducible refine Val.u64 (by omega) (by omega) ?_
            | with_reducible refine Val.u8m ?_
            | with_reducible refine Val.u32m ?_
            | with_reducible refine Val.u64m ?_
            | with_reducible refine Val.shr8 ?_
            | with_reducible refine Val.shr16 (by decide) ?_
            | with_reducible refine Val.shr24 (by decide) ?_
            | with_reducible refine Val.raw ?_
            | refine Branch.not ?_
            | refine Branch.and ?_
            | refine Branch.or ?_
            | refine Branch.dt (by assumption) ?_
            | refine Branch.df (by assumption) ?_
            | refine Branch.dt rfl ?_
            | refine Branch.dt (by omega) ?_
            | refine Branch.df (by omega) ?_
            | refine Branch.t rfl ?_
            | refine Branch.f rfl ?_
            | refine Branch.t (by assumption) ?_
            | refine Branch.f (by assumption) ?_
            | refine Branch.d (fun _ => ?_) (fun _ => ?_)
            | refine Branch.mk (fun _ => ?_) (fun _ => ?_)
            | refine Need.mk (by first | omega | decide | rfl) ?_
            | refine Idx.nat (by omega) ?_
            | refine Idx.auto (by first | omega | decide) (by first | omega | decide) ?_
            | refine Cell.ro rfl ?_
            | refine SDraw.all (by kernel_rfl) ?_
            | refine Kept.k0 ?_
            | refine Kept.k1 ?_
            | refine Kept.k2 ?_
            | refine Kept.k3 ?_
            | refine Kept.k4 ?_))
        all_goals (conv => whnf)
        all_goals first
          | exact Keep.all rfl
          | (refine hR _ _ (Keep.d1 ⟨⟨n, j + 1, g, _, (l.take ⟨q0, q1, q2, q3, q4, q5, q6, q7⟩).2, by omega, hxl, hfit, .mk, rfl⟩, ?_⟩); show xl - Int.toNat ((j : Int) + 1) < xl - Int.toNat (j : Int); omega)
          | (refine hR _ _ (Keep.d1 ⟨⟨n, j + 1, g, _, l.restart, by omega, hxl, hrs, .mk, rfl⟩, ?_⟩); show xl - Int.toNat ((j : Int) + 1) < xl - Int.toNat (j : Int); omega)
          | (refine hR _ _ (Keep.d1 ⟨⟨n, j + 1, g, _, { l with fails := fl }, by omega, hxl, hff, .mk, rfl⟩, ?_⟩); show xl - Int.toNat ((j : Int) + 1) < xl - Int.toNat (j : Int); omega)
          | (refine hR _ _ (Keep.d1 ⟨⟨n, j + 1, g, _, l, by omega, hxl, hl, .mk, rfl⟩, ?_⟩); show xl - Int.toNat ((j : Int) + 1) < xl - Int.toNat (j : Int); omega)
          | (exfalso; simp only [hst] at hru; dsimp only at *; omega)
          | trace_state
    · repeat' ((conv => whnf); (first
          | refine live_c ?_
          | refine New.mk (fun _ => ?_)
          | refine Look.at0 ?_
          | refine Cell.row ?_
          | refine Cells.row rfl ?_
          | refine Put.row rfl ?_
          | refine Look.at1 ?_
          | refine Look.at2 ?_
          | refine Look.at3 ?_
          | refine Look.at4 ?_
          | refine Look.at5 ?_
          | refine Look.at6 ?_
          | refine Look.at7 ?_
          | refine Look.at8 ?_
          | with_reducible refine Val.i64 (by omega) (by omega) ?_
          | with_reducible refine Val.u8 (by omega) (by omega) ?_
          | with_reducible refine Val.u32 (by omega) (by omega) ?_
          | with_reducible refine Val.u64 (by omega) (by omega) ?_
          | with_reducible refine Val.u8m ?_
          | with_reducible refine Val.u32m ?_
          | with_reducible refine Val.u64m ?_
          | with_reducible refine Val.shr8 ?_
          | with_reducible refine Val.shr16 (by decide) ?_
          | with_reducible refine Val.shr24 (by decide) ?_
          | with_reducible refine Val.raw ?_
          | refine Branch.not ?_
          | refine Branch.and ?_
          | refine Branch.or ?_
          | refine Branch.dt (by assumption) ?_
          | refine Branch.df (by assumption) ?_
          | refine Branch.dt rfl ?_
          | refine Branch.dt (by omega) ?_
          | refine Branch.df (by omega) ?_
          | refine Branch.t rfl ?_
          | refine Branch.f rfl ?_
          | refine Branch.t (by assumption) ?_
          | refine Branch.f (by assumption) ?_
          | refine Branch.d (fun _ => ?_) (fun _ => ?_)
          | refine Branch.mk (fun _ => ?_) (fun _ => ?_)
          | refine Need.mk (by first | omega | decide | rfl) ?_
          | refine Idx.nat (by omega) ?_
          | refine Idx.auto (by first | omega | decide) (by first | omega | decide) ?_
          | refine Cell.ro rfl ?_
          | refine SDraw.all (by kernel_rfl) ?_
          | refine Kept.k0 ?_
          | refine Kept.k1 ?_
          | refine Kept.k2 ?_
          | refine Kept.k3 ?_
          | refine Kept.k4 ?_))
      all_goals (conv => whnf)
      all_goals first | exact Keep.all rfl | trace_state
  · repeat' ((conv => whnf); (first
        | refine c7_bad a0 a1 a2 a3 id (by omega) ?_
        | refine live_c ?_
        | refine New.mk (fun _ => ?_)
        | refine Look.at0 ?_
        | refine Cell.row ?_
        | refine Cells.row rfl ?_
        | refine Put.row rfl ?_
        | refine Look.at1 ?_
        | refine Look.at2 ?_
        | refine Look.at3 ?_
        | refine Look.at4 ?_
        | refine Look.at5 ?_
        | refine Look.at6 ?_
        | refine Look.at7 ?_
        | refine Look.at8 ?_
        | with_reducible refine Val.i64 (by omega) (by omega) ?_
        | with_reducible refine Val.u8 (by omega) (by omega) ?_
        | with_reducible refine Val.u32 (by omega) (by omega) ?_
        | with_reducible refine Val.u64 (by omega) (by omega) ?_
        | with_reducible refine Val.u8m ?_
        | with_reducible refine Val.u32m ?_
        | with_reducible refine Val.u64m ?_
        | with_reducible refine Val.shr8 ?_
        | with_reducible refine Val.shr16 (by decide) ?_
        | with_reducible refine Val.shr24 (by decide) ?_
        | with_reducible refine Val.raw ?_
        | refine Branch.not ?_
        | refine Branch.and ?_
        | refine Branch.or ?_
        | refine Branch.dt (by assumption) ?_
        | refine Branch.df (by assumption) ?_
        | refine Branch.dt rfl ?_
        | refine Branch.dt (by omega) ?_
        | refine Branch.df (by omega) ?_
        | refine Branch.t rfl ?_
        | refine Branch.f rfl ?_
        | refine Branch.t (by assumption) ?_
        | refine Branch.f (by assumption) ?_
        | refine Branch.d (fun _ => ?_) (fun _ => ?_)
        | refine Branch.mk (fun _ => ?_) (fun _ => ?_)
        | refine Need.mk (by first | omega | decide | rfl) ?_
        | refine Idx.nat (by omega) ?_
        | refine Idx.auto (by first | omega | decide) (by first | omega | decide) ?_
        | refine Cell.ro rfl ?_
        | refine SDraw.all (by kernel_rfl) ?_
        | refine Kept.k0 ?_
        | refine Kept.k1 ?_
        | refine Kept.k2 ?_
        | refine Kept.k3 ?_
        | refine Kept.k4 ?_))
    all_goals (conv => whnf)
    all_goals first | exact Keep.all rfl | trace_state
end Go.Proofs.Ytneicohblmjakaa
