/- Layer 19: what was stored is what a slave uses behind a Restart: the walk. -/
import Derived.Test.YtneicohblmjakaaLsI
import Derived.Test.YtneicohblmjakaaLsS
set_option linter.unusedVariables false
set_option linter.unusedSimpArgs false
set_option maxRecDepth 100000
set_option maxHeartbeats 4000000
namespace Go.Proofs.Ytneicohblmjakaa
open Sx
/-- What a command, a Store or a Restart makes of a slave. -/
def L.act (l : L) (k : Int) (q : Q) (fl : Bool) : L :=
  if k = 0 then (l.take q).2 else if k = 1 then { l with fails := fl } else if k = 2 then l.restart else l
theorem act_fit (l : L) (hl : l.Fit) (k : Int) (q : Q) (hq : q.Ok) (fl : Bool) : (l.act k q fl).Fit := by
  unfold L.act
  split
  · exact take_fit l hl q hq
  · split
    · exact ⟨⟨hl.ok.1, hl.ok.2, hl.ok.3, hl.ok.4, hl.ok.5, hl.ok.6, hl.ok.7, hl.ok.8, hl.ok.9⟩, hl.st⟩
    · split
      · exact restart_fit l hl
      · exact hl
section
variable {K : Value → Heap → Prop} {g p d : Nat}
theorem c17 (l : L) (hl : l.Fit) (k : Int) (q : Q) (hq : q.Ok) (fl : Bool) (r : R) (hr : r.Ok) (h : ∀ b p' blk, K (.bool b) ((d, blk) :: (l.act k q fl).H g p')) :
    SCalls Try.prog 17 [.pointer (some ⟨g, 0, none⟩), .pointer (some ⟨d, 0, none⟩), .agg ⟨[.int .i64 k, .int .u8 q.q0, .int .u8 q.q1, .int .u8 q.q2, .int .u8 q.q3, .int .u8 q.q4, .int .u8 q.q5, .int .u8 q.q6, .int .u8 q.q7, .bool fl]⟩] ((d, r.row) :: l.H g p) K := by
  generalize he : l.act k q fl = l' at h
  obtain ⟨q0, q1, q2, q3, q4, q5, q6, q7⟩ := q
  unfold L.act at he
  dsimp only
  refine enter17 ?_
  repeat' ((conv => whnf); (first
      | refine SCalls.under [_, _] (c8H l hl.ok ⟨q0, q1, q2, q3, q4, q5, q6, q7⟩ hq (fun p' => ?_))
      | refine SCalls.at2 (c24 r hr ⟨q0, q1, q2, q3, q4, q5, q6, q7⟩ hq ?_)
      | refine SCalls.under [_, _] (c15 l fl ?_)
      | refine SCalls.under [_, _] (c16 l ?_)
      | refine SCalls.at1 (c25 r ?_)
      | refine Branch.t (by assumption) ?_
      | refine Branch.f (by assumption) ?_
      | refine Branch.mk (b := _ && _) (fun _ => ?_) (fun _ => ?_)
      | unfold R.row
      | refine New.mk (fun _ => ?_)
      | refine Look.at0 ?_
      | refine Cell.row ?_
      | refine Cells.row rfl ?_
      | refine Put.row rfl ?_
      | refine Look.at1 ?_
      | refine Look.at2 ?_
      | refine Look.at3 ?_
      | refine Look.at4 ?_
      | refine Look.at5 ?_
      | refine Look.at6 ?_
      | refine Look.at7 ?_
      | refine Look.at8 ?_
      | with_reducible refine Val.i64 (by omega) (by omega) ?_
      | with_reducible refine Val.u8 (by omega) (by omega) ?_
      | with_reducible refine Val.u32 (by omega) (by omega) ?_
      | with_reducible refine Val.u64 (by omega) (by omega) ?_
      | with_reducible refine Val.u8m ?_
      | with_reducible refine Val.u32m ?_
      | with_reducible refine Val.u64m ?_
      | with_reducible refine Val.shr8 ?_
      | with_reducible refine Val.shr16 (by decide) ?_
      | with_reducible refine Val.shr24 (by decide) ?_
      | with_reducible refine Val.raw ?_
      | refine Branch.not ?_
      | refine Branch.and ?_
      | refine Branch.or ?_
      | refine Branch.dt (by assumption) ?_
      | refine Branch.df (by assumption) ?_
      | refine Branch.dt rfl ?_
      | refine Branch.dt (by omega) ?_
      | refine Branch.df (by omega) ?_
      | refine Branch.t rfl ?_
      | refine Branch.f rfl ?_
      | refine Branch.t (by assumption) ?_
      | refine Branch.f (by assumption) ?_
      | refine Branch.d (fun _ => ?_) (fun _ => ?_)
      | refine Branch.mk (fun _ => ?_) (fun _ => ?_)
      | refine Need.mk (by first | omega | decide | rfl) ?_
      | refine Idx.nat (by omega) ?_
      | refine Idx.auto (by first | omega | decide) (by first | omega | decide) ?_
      | refine Cell.ro rfl ?_
      | refine SDraw.all (by kernel_rfl) ?_
      | refine Kept.k0 ?_
      | refine Kept.k1 ?_
      | refine Kept.k2 ?_
      | refine Kept.k3 ?_
      | refine Kept.k4 ?_))
  all_goals (conv => whnf)
  all_goals first
    | ((repeat' (split at he)) <;> first | (exfalso; omega) | (subst he; first | exact Keep.d3 (h _ _ _) | exact Keep.d1 (h _ _ _)))
    | trace_state
theorem c17x (l : L) (hl : l.Fit) (k : Int) (q : Q) (hq : q.Ok) (fl : Bool) (r : R) (hr : r.Ok) {x : Nat × Blk} (h : ∀ b p', K (.bool b) (x :: (l.act k q fl).H g p')) :
    SCalls Try.prog 17 [.pointer (some ⟨g, 0, none⟩), .pointer (some ⟨d, 0, none⟩), .agg ⟨[.int .i64 k, .int .u8 q.q0, .int .u8 q.q1, .int .u8 q.q2, .int .u8 q.q3, .int .u8 q.q4, .int .u8 q.q5, .int .u8 q.q6, .int .u8 q.q7, .bool fl]⟩] ((d, r.row) :: x :: l.H g p) K := by
  have h1 := (c17 (d := d) (p := p) (K := fun v H => ∃ b p' blk, v = .bool b ∧ H = (d, blk) :: (l.act k q fl).H g p') l hl k q hq fl r hr (fun b p' blk => ⟨b, p', blk, rfl, rfl⟩)).frame (R := [x])
  refine SCalls.keep ((h1.perm (List.Perm.cons _ (List.perm_append_comm (l₁ := [x])))).mono ?_)
  rintro v H' ⟨H1, rfl, b, p', blk, rfl, rfl⟩
  exact Keep.mk (x :: (d, blk) :: (l.act k q fl).H g p') (x :: (l.act k q fl).H g p') (List.perm_append_comm (l₂ := [x])) (List.Sublist.cons_cons _ (List.sublist_append_right [_] _)) (h b p')
theorem c8J {a : A} {l' : L} (l : L) (hl : l.Ok) (q : Q) (hq : q.Ok) (he : l.take q = (a, l')) (h : ∀ p', K a.val (l'.H g p')) : SCalls Try.prog 8 [.pointer (some ⟨g, 0, none⟩), q.val] (l.H g p) K :=
  c8H l hl q hq fun p' => by rw [he]; exact h p'
end
def zR : R := ⟨0, 0, 0, 0, 0, 0, 0, 0, 0, 0, false, false, 0, 0, 0⟩
theorem zR_ok : zR.Ok := by constructor <;> decide
inductive Sl6 (A1 A2 A7 A9 : Value) : List Value → Prop
  | mk {r0 r3 r4 r5 r6 r8 r10 r11 r12 r13 r14 r15 r16 r17 r18 r19 r20 r21 r22 r23 r24 r25 r26 r27 r28 r29 r30 r31 r32 r33 r34 r35 r36 r37 r38 r39 r40 r41 r42 r43 r44 r45 r46 r47 r48 r49 r50 r51 r52 r53 r54 r55 r56 r57 r58 r59 r60 r61 r62 r63 r64 r65 r66 r67 r68 r69 r70 r71 r72 r73 r74 r75 r76 r77 r78 r79 r80 r81 r82 r83 r84 r85 r86 r87 r88 r89 r90 r91 r92 r93 r94 r95 r96 r97 r98 r99 r100 r101 r102 r103 r104 r105 r106 r107 r108 r109 r110 r111 r112 r113 r114 r115 r116 r117 r118 r119 r120 r121 r122 r123 r124 r125 r126 r127 r128 r129 r130 r131 r132 r133 r134 r135 r136 r137 r138 r139 r140 r141 r142 r143 r144 r145 r146 r147 r148 r149 r150 r151 r152 : Value} : Sl6 A1 A2 A7 A9 [r0, A1, A2, r3, r4, r5, r6, A7, r8, A9, r10, r11, r12, r13, r14, r15, r16, r17, r18, r19, r20, r21, r22, r23, r24, r25, r26, r27, r28, r29, r30, r31, r32, r33, r34, r35, r36, r37, r38, r39, r40, r41, r42, r43, r44, r45, r46, r47, r48, r49, r50, r51, r52, r53, r54, r55, r56, r57, r58, r59, r60, r61, r62, r63, r64, r65, r66, r67, r68, r69, r70, r71, r72, r73, r74, r75, r76, r77, r78, r79, r80, r81, r82, r83, r84, r85, r86, r87, r88, r89, r90, r91, r92, r93, r94, r95, r96, r97, r98, r99, r100, r101, r102, r103, r104, r105, r106, r107, r108, r109, r110, r111, r112, r113, r114, r115, r116, r117, r118, r119, r120, r121, r122, r123, r124, r125, r126, r127, r128, r129, r130, r131, r132, r133, r134, r135, r136, r137, r138, r139, r140, r141, r142, r143, r144, r145, r146, r147, r148, r149, r150, r151, r152]
def stI (xl cap b o : Nat) (f : Nat → Option Value) (fl : Bool) (l : List Value) (H : Heap) : Prop :=
  ∃ (j g p : Nat) (s : L), j ≤ xl ∧ s.Fit ∧ Sl6 (.slice (some ⟨b, o, none⟩) xl cap) (.bool fl) (.pointer (some ⟨g, 0, none⟩)) (.int .i64 (j : Int)) l ∧ H = (b, .ro f) :: s.H g p
noncomputable def stM (xl : Nat) (l : List Value) (_ : Heap) : Nat := xl - (match getL l 9 with | .int _ i => i.toNat | _ => 0)
theorem st_sc (a0 a1 a2 a3 : Int) (xl cap b o : Nat) (f : Nat → Option Value) (fl : Bool) (hxc : xl ≤ 1152921504606846975) (e0 : 0 ≤ a0 ∧ a0 ≤ 4294967295) (e1 : 0 ≤ a1 ∧ a1 ≤ 4294967295) (e2 : 0 ≤ a2 ∧ a2 ≤ 4294967295) (e3 : 0 ≤ a3 ∧ a3 ≤ 4294967295)
    (hf : ∀ j, j < xl → ∃ (k : Int) (q : Q) (fl : Bool), q.Ok ∧ ∀ i v, [Value.int .i64 k, .int .u8 q.q0, .int .u8 q.q1, .int .u8 q.q2, .int .u8 q.q3, .int .u8 q.q4, .int .u8 q.q5, .int .u8 q.q6, .int .u8 q.q7, .bool fl][i]? = some v → f (o + j * 10 + i) = some v) :
    SCalls Try.prog 6 [.agg ⟨[.int .u32 a0, .int .u32 a1, .int .u32 a2, .int .u32 a3]⟩, .slice (some ⟨b, o, none⟩) xl cap, .bool fl] [(b, .ro f)] fun v _ => v = .bool true := by
  refine enter6 ?_
  repeat' ((conv => whnf); (first
      | refine c7n a0 a1 a2 a3 0 (by decide) (fun g => ?_)
      | refine New.mk (fun _ => ?_)
      | refine Look.at0 ?_
      | refine Cell.row ?_
      | refine Cells.row rfl ?_
      | refine Put.row rfl ?_
      | refine Look.at1 ?_
      | refine Look.at2 ?_
      | refine Look.at3 ?_
      | refine Look.at4 ?_
      | refine Look.at5 ?_
      | refine Look.at6 ?_
      | refine Look.at7 ?_
      | refine Look.at8 ?_
      | with_reducible refine Val.i64 (by omega) (by omega) ?_
      | with_reducible refine Val.u8 (by omega) (by omega) ?_
      | with_reducible refine Val.u32 (by omega) (by omega) ?_
      | with_reducible refine Val.u64 (by omega) (by omega) ?_
      | with_reducible refine Val.u8m ?_
      | with_reducible refine Val.u32m ?_
      | with_reducible refine Val.u64m ?_
      | with_reducible refine Val.shr8 ?_
      | with_reducible refine Val.shr16 (by decide) ?_
      | with_reducible refine Val.shr24 (by decide) ?_
      | with_reducible refine Val.raw ?_
      | refine Branch.not ?_
      | refine Branch.and ?_
      | refine Branch.or ?_
      | refine Branch.dt (by assumption) ?_
      | refine Branch.df (by assumption) ?_
      | refine Branch.dt rfl ?_
      | refine Branch.dt (by omega) ?_
      | refine Branch.df (by omega) ?_
      | refine Branch.t rfl ?_
      | refine Branch.f rfl ?_
      | refine Branch.t (by assumption) ?_
      | refine Branch.f (by assumption) ?_
      | refine Branch.d (fun _ => ?_) (fun _ => ?_)
      | refine Branch.mk (fun _ => ?_) (fun _ => ?_)
      | refine Need.mk (by first | omega | decide | rfl) ?_
      | refine Idx.nat (by omega) ?_
      | refine Idx.auto (by first | omega | decide) (by first | omega | decide) ?_
      | refine Cell.ro rfl ?_
      | refine SDraw.all (by kernel_rfl) ?_
      | refine Kept.k0 ?_
      | refine Kept.k1 ?_
      | refine Kept.k2 ?_
      | refine Kept.k3 ?_
      | refine Kept.k4 ?_))
  all_goals (conv => whnf)
  all_goals refine SLoop.inv (stI xl cap b o f fl) (stM xl) (Keep.s3 ⟨0, _, 0, (⟨a0, a1, a2, a3, 0, 0, 0, 0, 0, 0, 0, none, false⟩ : L), by omega, ⟨⟨⟨Int.le_refl 0, by show (0 : Int) ≤ 3; decide⟩, ⟨Int.le_refl 0, by show (0 : Int) ≤ 3; decide⟩, .inl rfl, e0, e1, e2, e3, ⟨Int.le_refl 0, by show (0 : Int) ≤ 127; decide⟩, ⟨Int.le_refl 0, by show (0 : Int) ≤ 127; decide⟩⟩, fun _ _ h => by cases h⟩, .mk, rfl⟩) ?_
  rintro S H ⟨j, g, p, l, hj, hl, hS, rfl⟩ R hR
  cases hS
  by_cases hjn : j < xl
  · obtain ⟨k, ⟨q0, q1, q2, q3, q4, q5, q6, q7⟩, fl2, hq, hcells⟩ := hf j (by omega)
    have hfit := act_fit l hl k ⟨q0, q1, q2, q3, q4, q5, q6, q7⟩ hq fl2
    dsimp only at hcells
    repeat' ((conv => whnf); (first
        | refine Cells.get [.int .i64 k, .int .u8 q0, .int .u8 q1, .int .u8 q2, .int .u8 q3, .int .u8 q4, .int .u8 q5, .int .u8 q6, .int .u8 q7, .bool fl2] rfl hcells ?_
        | refine c17x l hl k ⟨q0, q1, q2, q3, q4, q5, q6, q7⟩ hq fl2 zR zR_ok (fun b p' => ?_)
        | refine New.mk (fun _ => ?_)
        | refine Look.at0 ?_
        | refine Cell.row ?_
        | refine Cells.row rfl ?_
        | refine Put.row rfl ?_
        | refine Look.at1 ?_
        | refine Look.at2 ?_
        | refine Look.at3 ?_
        | refine Look.at4 ?_
        | refine Look.at5 ?_
        | refine Look.at6 ?_
        | refine Look.at7 ?_
        | refine Look.at8 ?_
        | with_reducible refine Val.i64 (by omega) (by omega) ?_
        | with_reducible refine Val.u8 (by omega) (by omega) ?_
        | with_reducible refine Val.u32 (by omega) (by omega) ?_
        | with_reducible refine Val.u64 (by omega) (by omega) ?_
        | with_reducible refine Val.u8m ?_
        | with_reducible refine Val.u32m ?_
        | with_reducible refine Val.u64m ?_
        | with_reducible refine Val.shr8 ?_
        | with_reducible refine Val.shr16 (by decide) ?_
        | with_reducible refine Val.shr24 (by decide) ?_
        | with_reducible refine Val.raw ?_
        | refine Branch.not ?_
        | refine Branch.and ?_
        | refine Branch.or ?_
        | refine Branch.dt (by assumption) ?_
        | refine Branch.df (by assumption) ?_
        | refine Branch.dt rfl ?_
        | refine Branch.dt (by omega) ?_
        | refine Branch.df (by omega) ?_
        | refine Branch.t rfl ?_
        | refine Branch.f rfl ?_
        | refine Branch.t (by assumption) ?_
        | refine Branch.f (by assumption) ?_
        | refine Branch.d (fun _ => ?_) (fun _ => ?_)
        | refine Branch.mk (fun _ => ?_) (fun _ => ?_)
        | refine Need.mk (by first | omega | decide | rfl) ?_
        | refine Idx.nat (by omega) ?_
        | refine Idx.auto (by first | omega | decide) (by first | omega | decide) ?_
        | refine Cell.ro rfl ?_
        | refine SDraw.all (by kernel_rfl) ?_
        | refine Kept.k0 ?_
        | refine Kept.k1 ?_
        | refine Kept.k2 ?_
        | refine Kept.k3 ?_
        | refine Kept.k4 ?_))
    all_goals (conv => whnf)
    all_goals first
      | (refine hR _ _ (Keep.all ⟨⟨j + 1, g, _, _, by omega, hfit, .mk, rfl⟩, ?_⟩); show xl - Int.toNat ((j : Int) + 1) < xl - Int.toNat (j : Int); omega)
      | trace_state
  · have hl1 : ({ l with mode := 1 } : L).Ok := ⟨hl.ok.1, hl.ok.2, .inr rfl, hl.ok.4, hl.ok.5, hl.ok.6, hl.ok.7, hl.ok.8, hl.ok.9⟩
    have hl2 : ({ l with mode := 1, fails := fl } : L).Ok := ⟨hl1.1, hl1.2, hl1.3, hl1.4, hl1.5, hl1.6, hl1.7, hl1.8, hl1.9⟩
    have hl0 := hl.ok
    clear hl
    obtain ⟨b0, b1, b2, b3, pid, pr, uid, ur, mode, taken, looks, st, fails⟩ := l
    dsimp only at hl1 hl2
    rcases st with _ | ⟨si, sr⟩ <;> cases fl
    all_goals
      repeat' ((conv => whnf); (first
          | refine live_c ?_
          | refine SCalls.under [_] (c8J _ hl0 ⟨4, 1, 0, 0, 0, 0, 0, 0⟩ (by constructor <;> decide) rfl (fun p' => ?_))
          | refine SCalls.under [_] (c8J _ hl2 ⟨23, 0, 0, 0, 0, 0, 0, 0⟩ (by constructor <;> decide) rfl (fun p' => ?_))
          | refine SCalls.under [_] (c12 _ ?_)
          | refine SCalls.under [_] (c13 _ ?_)
          | refine SCalls.under [_] (c14 _ ?_)
          | refine SCalls.under [_] (c15 _ _ ?_)
          | refine SCalls.under [_] (c16 _ ?_)
          | refine SCalls.under [_] (c10 _ ?_)
          | refine New.mk (fun _ => ?_)
          | refine Look.at0 ?_
          | refine Cell.row ?_
          | refine Cells.row rfl ?_
          | refine Put.row rfl ?_
          | refine Look.at1 ?_
          | refine Look.at2 ?_
          | refine Look.at3 ?_
          | refine Look.at4 ?_
          | refine Look.at5 ?_
          | refine Look.at6 ?_
          | refine Look.at7 ?_
          | refine Look.at8 ?_
          | with_reducible refine Val.i64 (by omega) (by omega) ?_
          | with_reducible refine Val.u8 (by omega) (by omega) ?_
          | with_reducible refine Val.u32 (by omega) (by omega) ?_
          | with_reducible refine Val.u64 (by omega) (by omega) ?_
          | with_reducible refine Val.u8m ?_
          | with_reducible refine Val.u32m ?_
          | with_reducible refine Val.u64m ?_
          | with_reducible refine Val.shr8 ?_
          | with_reducible refine Val.shr16 (by decide) ?_
          | with_reducible refine Val.shr24 (by decide) ?_
          | with_reducible refine Val.raw ?_
          | refine Branch.not ?_
          | refine Branch.and ?_
          | refine Branch.or ?_
          | refine Branch.dt (by assumption) ?_
          | refine Branch.df (by assumption) ?_
          | refine Branch.dt rfl ?_
          | refine Branch.dt (by omega) ?_
          | refine Branch.df (by omega) ?_
          | refine Branch.t rfl ?_
          | refine Branch.f rfl ?_
          | refine Branch.t (by assumption) ?_
          | refine Branch.f (by assumption) ?_
          | refine Branch.d (fun _ => ?_) (fun _ => ?_)
          | refine Branch.mk (fun _ => ?_) (fun _ => ?_)
          | refine Need.mk (by first | omega | decide | rfl) ?_
          | refine Idx.nat (by omega) ?_
          | refine Idx.auto (by first | omega | decide) (by first | omega | decide) ?_
          | refine Cell.ro rfl ?_
          | refine SDraw.all (by kernel_rfl) ?_
          | refine Kept.k0 ?_
          | refine Kept.k1 ?_
          | refine Kept.k2 ?_
          | refine Kept.k3 ?_
          | refine Kept.k4 ?_))
    all_goals (conv => whnf)
    all_goals first | exact Keep.all rfl | trace_state
theorem st_nil (a : Option Addr) (cap : Nat) (a0 a1 a2 a3 : Int) (fl : Bool) (e0 : 0 ≤ a0 ∧ a0 ≤ 4294967295) (e1 : 0 ≤ a1 ∧ a1 ≤ 4294967295) (e2 : 0 ≤ a2 ∧ a2 ≤ 4294967295) (e3 : 0 ≤ a3 ∧ a3 ≤ 4294967295) :
    SCalls Try.prog 6 [.agg ⟨[.int .u32 a0, .int .u32 a1, .int .u32 a2, .int .u32 a3]⟩, .slice a 0 cap, .bool fl] [] fun v _ => v = .bool true := by
  have hl0 : (⟨a0, a1, a2, a3, 0, 0, 0, 0, 0, 0, 0, none, false⟩ : L).Ok := ⟨⟨Int.le_refl 0, by show (0 : Int) ≤ 3; decide⟩, ⟨Int.le_refl 0, by show (0 : Int) ≤ 3; decide⟩, .inl rfl, e0, e1, e2, e3, ⟨Int.le_refl 0, by show (0 : Int) ≤ 127; decide⟩, ⟨Int.le_refl 0, by show (0 : Int) ≤ 127; decide⟩⟩
  have hl2 : (⟨a0, a1, a2, a3, 0, 0, 0, 0, 1, 0, 0, none, fl⟩ : L).Ok := ⟨⟨Int.le_refl 0, by show (0 : Int) ≤ 3; decide⟩, ⟨Int.le_refl 0, by show (0 : Int) ≤ 3; decide⟩, .inr rfl, e0, e1, e2, e3, ⟨Int.le_refl 0, by show (0 : Int) ≤ 127; decide⟩, ⟨Int.le_refl 0, by show (0 : Int) ≤ 127; decide⟩⟩
  refine enter6 ?_
  cases fl
  all_goals
    repeat' ((conv => whnf); (first
        | refine c7n a0 a1 a2 a3 0 (by decide) (fun g => ?_)
        | refine SLoop.keep (Keep.sub (L.H _ 0 ⟨a0, a1, a2, a3, 0, 0, 0, 0, 0, 0, 0, none, false⟩) (List.sublist_append_left _ [_]) (SLoop.round ?_))
        | refine live_c ?_
        | refine c8J _ hl0 ⟨4, 1, 0, 0, 0, 0, 0, 0⟩ (by constructor <;> decide) rfl (fun p' => ?_)
        | refine c8J _ hl2 ⟨23, 0, 0, 0, 0, 0, 0, 0⟩ (by constructor <;> decide) rfl (fun p' => ?_)
        | refine c12 _ ?_
        | refine c13 _ ?_
        | refine c14 _ ?_
        | refine c15 _ _ ?_
        | refine c16 _ ?_
        | refine c10 _ ?_
        | refine New.mk (fun _ => ?_)
        | refine Look.at0 ?_
        | refine Cell.row ?_
        | refine Cells.row rfl ?_
        | refine Put.row rfl ?_
        | refine Look.at1 ?_
        | refine Look.at2 ?_
        | refine Look.at3 ?_
        | refine Look.at4 ?_
        | refine Look.at5 ?_
        | refine Look.at6 ?_
        | refine Look.at7 ?_
        | refine Look.at8 ?_
        | with_reducible refine Val.i64 (by omega) (by omega) ?_
        | with_reducible refine Val.u8 (by omega) (by omega) ?_
        | with_reducible refine Val.u32 (by omega) (by omega) ?_
        | with_reducible refine Val.u64 (by omega) (by omega) ?_
        | with_reducible refine Val.u8m ?_
        | with_reducible refine Val.u32m ?_
        | with_reducible refine Val.u64m ?_
        | with_reducible refine Val.shr8 ?_
        | with_reducible refine Val.shr16 (by decide) ?_
        | with_reducible refine Val.shr24 (by decide) ?_
        | with_reducible refine Val.raw ?_
        | refine Branch.not ?_
        | refine Branch.and ?_
        | refine Branch.or ?_
        | refine Branch.dt (by assumption) ?_
        | refine Branch.df (by assumption) ?_
        | refine Branch.dt rfl ?_
        | refine Branch.dt (by omega) ?_
        | refine Branch.df (by omega) ?_
        | refine Branch.t rfl ?_
        | refine Branch.f rfl ?_
        | refine Branch.t (by assumption) ?_
        | refine Branch.f (by assumption) ?_
        | refine Branch.d (fun _ => ?_) (fun _ => ?_)
        | refine Branch.mk (fun _ => ?_) (fun _ => ?_)
        | refine Need.mk (by first | omega | decide | rfl) ?_
        | refine Idx.nat (by omega) ?_
        | refine Idx.auto (by first | omega | decide) (by first | omega | decide) ?_
        | refine Cell.ro rfl ?_
        | refine SDraw.all (by kernel_rfl) ?_
        | refine Kept.k0 ?_
        | refine Kept.k1 ?_
        | refine Kept.k2 ?_
        | refine Kept.k3 ?_
        | refine Kept.k4 ?_))
  all_goals (conv => whnf)
  all_goals first | exact Keep.all rfl | trace_state
end Go.Proofs.Ytneicohblmjakaa
