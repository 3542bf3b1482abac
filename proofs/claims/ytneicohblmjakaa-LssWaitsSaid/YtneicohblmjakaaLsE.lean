/- Layer 19: a slave that waits takes no command of the configuration: the walk. -/
import Derived.Test.YtneicohblmjakaaLsD
import Derived.Test.YtneicohblmjakaaTy
set_option linter.unusedVariables false
set_option linter.unusedSimpArgs false
set_option maxRecDepth 100000
set_option maxHeartbeats 4000000
namespace Go.Proofs.Ytneicohblmjakaa
open Sx
theorem waits_sc (a0 a1 a2 a3 id : Int) (q : Q) (hq : q.Ok) (r0 : 0 ≤ a0 ∧ a0 ≤ 4294967295) (r1 : 0 ≤ a1 ∧ a1 ≤ 4294967295) (r2 : 0 ≤ a2 ∧ a2 ≤ 4294967295) (r3 : 0 ≤ a3 ∧ a3 ≤ 4294967295) :
    SCalls Try.prog 4 [.agg ⟨[.int .u32 a0, .int .u32 a1, .int .u32 a2, .int .u32 a3]⟩, .int .i64 id, q.val] [] fun v _ => v = .bool true := by
  refine enter4 ?_
  by_cases hid : 0 ≤ id ∧ id ≤ 127
  · have hl : (⟨a0, a1, a2, a3, id, 0, id, 0, 0, 0, 0, none, false⟩ : L).Ok := ⟨⟨Int.le_refl 0, by show (0 : Int) ≤ 3; decide⟩, ⟨Int.le_refl 0, by show (0 : Int) ≤ 3; decide⟩, .inl rfl, r0, r1, r2, r3, hid, hid⟩
    by_cases hw : q.q0 = 17 ∨ q.q0 = 19 ∨ q.q0 = 21 ∨ q.q0 = 23 ∨ (90 ≤ q.q0 ∧ q.q0 ≤ 94)
    · have ht := take_waits (⟨a0, a1, a2, a3, id, 0, id, 0, 0, 0, 0, none, false⟩ : L) rfl q hw
      have hq' := hq
      obtain ⟨q0, q1, q2, q3, q4, q5, q6, q7⟩ := q
      dsimp only [Q.val] at hw ⊢
      repeat' ((conv => whnf); (first
          | refine c7 a0 a1 a2 a3 id hid (fun g p => ?_)
          | refine live_c ?_
          | refine SCalls.at0 (c8e _ hl _ hq' none ht (by rintro ⟨_, h, _⟩; cases h) ?_)
          | refine SCalls.at1 (c10 (p := 0) ⟨a0, a1, a2, a3, id, 0, id, 0, 0, 0, 0, none, false⟩ ?_)
          | refine SCalls.at1 (c12 (p := 0) ⟨a0, a1, a2, a3, id, 0, id, 0, 0, 0, 0, none, false⟩ ?_)
          | refine SCalls.at1 (c13 (p := 0) ⟨a0, a1, a2, a3, id, 0, id, 0, 0, 0, 0, none, false⟩ ?_)
          | refine SCalls.at1 (c14 (p := 0) ⟨a0, a1, a2, a3, id, 0, id, 0, 0, 0, 0, none, false⟩ ?_)
          | refine New.mk (fun _ => ?_)
          | refine Look.at0 ?_
          | refine Cell.row ?_
          | refine Cells.row rfl ?_
          | refine Put.row rfl ?_
          | refine Look.at1 ?_
          | refine Look.at2 ?_
          | refine Look.at3 ?_
          | refine Look.at4 ?_
          | refine Look.at5 ?_
          | refine Look.at6 ?_
          | refine Look.at7 ?_
          | refine Look.at8 ?_
          | with_reducible refine Val.i64 (by omega) (by omega) ?_
          | with_reducible refine Val.u8 (by omega) (by omega) ?_
          | with_reducible refine Val.u32 (by omega) (by omega) ?_
          | with_reducible refine Val.u64 (by omega) (by omega) ?_
          | with_reducible refine Val.u8m ?_
          | with_reducible refine Val.u32m ?_
          | with_reducible refine Val.u64m ?_
          | with_reducible refine Val.shr8 ?_
          | with_reducible refine Val.shr16 (by decide) ?_
          | with_reducible refine Val.shr24 (by decide) ?_
          | with_reducible refine Val.raw ?_
          | refine Branch.not ?_
          | refine Branch.and ?_
          | refine Branch.or ?_
          | refine Branch.dt (by assumption) ?_
          | refine Branch.df (by assumption) ?_
          | refine Branch.dt rfl ?_
          | refine Branch.dt (by omega) ?_
          | refine Branch.df (by omega) ?_
          | refine Branch.t rfl ?_
          | refine Branch.f rfl ?_
          | refine Branch.t (by assumption) ?_
          | refine Branch.f (by assumption) ?_
          | refine Branch.d (fun _ => ?_) (fun _ => ?_)
          | refine Branch.mk (fun _ => ?_) (fun _ => ?_)
          | refine Need.mk (by first | omega | decide | rfl) ?_
          | refine Idx.nat (by omega) ?_
          | refine Idx.auto (by first | omega | decide) (by first | omega | decide) ?_
          | refine Cell.ro rfl ?_
          | refine SDraw.all (by kernel_rfl) ?_
          | refine Kept.k0 ?_
          | refine Kept.k1 ?_
          | refine Kept.k2 ?_
          | refine Kept.k3 ?_
          | refine Kept.k4 ?_))
      all_goals (conv => whnf)
      all_goals first | (exfalso; omega) | exact Keep.all rfl | trace_state
    · obtain ⟨q0, q1, q2, q3, q4, q5, q6, q7⟩ := q
      dsimp only [Q.val] at hw ⊢
      repeat' ((conv => whnf); (first
          | refine c7 a0 a1 a2 a3 id hid (fun g p => ?_)
          | refine live_c ?_
          | refine New.mk (fun _ => ?_)
          | refine Look.at0 ?_
          | refine Cell.row ?_
          | refine Cells.row rfl ?_
          | refine Put.row rfl ?_
          | refine Look.at1 ?_
          | refine Look.at2 ?_
          | refine Look.at3 ?_
          | refine Look.at4 ?_
          | refine Look.at5 ?_
          | refine Look.at6 ?_
          | refine Look.at7 ?_
          | refine Look.at8 ?_
          | with_reducible refine Val.i64 (by omega) (by omega) ?_
          | with_reducible refine Val.u8 (by omega) (by omega) ?_
          | with_reducible refine Val.u32 (by omega) (by omega) ?_
          | with_reducible refine Val.u64 (by omega) (by omega) ?_
          | with_reducible refine Val.u8m ?_
          | with_reducible refine Val.u32m ?_
          | with_reducible refine Val.u64m ?_
          | with_reducible refine Val.shr8 ?_
          | with_reducible refine Val.shr16 (by decide) ?_
          | with_reducible refine Val.shr24 (by decide) ?_
          | with_reducible refine Val.raw ?_
          | refine Branch.not ?_
          | refine Branch.and ?_
          | refine Branch.or ?_
          | refine Branch.dt (by assumption) ?_
          | refine Branch.df (by assumption) ?_
          | refine Branch.dt rfl ?_
          | refine Branch.dt (by omega) ?_
          | refine Branch.df (by omega) ?_
          | refine Branch.t rfl ?_
          | refine Branch.f rfl ?_
          | refine Branch.t (by assumption) ?_
          | refine Branch.f (by assumption) ?_
          | refine Branch.d (fun _ => ?_) (fun _ => ?_)
          | refine Branch.mk (fun _ => ?_) (fun _ => ?_)
          | refine Need.mk (by first | omega | decide | rfl) ?_
          | refine Idx.nat (by omega) ?_
          | refine Idx.auto (by first | omega | decide) (by first | omega | decide) ?_
          | refine Cell.ro rfl ?_
          | refine SDraw.all (by kernel_rfl) ?_
          | refine Kept.k0 ?_
          | refine Kept.k1 ?_
          | refine Kept.k2 ?_
          | refine Kept.k3 ?_
          | refine Kept.k4 ?_))
      all_goals (conv => whnf)
      all_goals first | (exfalso; omega) | exact Keep.all rfl | trace_state
  · obtain ⟨q0, q1, q2, q3, q4, q5, q6, q7⟩ := q
    dsimp only [Q.val]
    repeat' ((conv => whnf); (first
        | refine c7_bad a0 a1 a2 a3 id (by omega) ?_
        | refine live_c ?_
        | refine New.mk (fun _ => ?_)
        | refine Look.at0 ?_
        | refine Cell.row ?_
        | refine Cells.row rfl ?_
        | refine Put.row rfl ?_
        | refine Look.at1 ?_
        | refine Look.at2 ?_
        | refine Look.at3 ?_
        | refine Look.at4 ?_
        | refine Look.at5 ?_
        | refine Look.at6 ?_
        | refine Look.at7 ?_
        | refine Look.at8 ?_
        | with_reducible refine Val.i64 (by omega) (by omega) ?_
        | with_reducible refine Val.u8 (by omega) (by omega) ?_
        | with_reducible refine Val.u32 (by omega) (by omega) ?_
        | with_reducible refine Val.u64 (by omega) (by omega) ?_
        | with_reducible refine Val.u8m ?_
        | with_reducible refine Val.u32m ?_
        | with_reducible refine Val.u64m ?_
        | with_reducible refine Val.shr8 ?_
        | with_reducible refine Val.shr16 (by decide) ?_
        | with_reducible refine Val.shr24 (by decide) ?_
        | with_reducible refine Val.raw ?_
        | refine Branch.not ?_
        | refine Branch.and ?_
        | refine Branch.or ?_
        | refine Branch.dt (by assumption) ?_
        | refine Branch.df (by assumption) ?_
        | refine Branch.dt rfl ?_
        | refine Branch.dt (by omega) ?_
        | refine Branch.df (by omega) ?_
        | refine Branch.t rfl ?_
        | refine Branch.f rfl ?_
        | refine Branch.t (by assumption) ?_
        | refine Branch.f (by assumption) ?_
        | refine Branch.d (fun _ => ?_) (fun _ => ?_)
        | refine Branch.mk (fun _ => ?_) (fun _ => ?_)
        | refine Need.mk (by first | omega | decide | rfl) ?_
        | refine Idx.nat (by omega) ?_
        | refine Idx.auto (by first | omega | decide) (by first | omega | decide) ?_
        | refine Cell.ro rfl ?_
        | refine SDraw.all (by kernel_rfl) ?_
        | refine Kept.k0 ?_
        | refine Kept.k1 ?_
        | refine Kept.k2 ?_
        | refine Kept.k3 ?_
        | refine Kept.k4 ?_))
    all_goals (conv => whnf)
    all_goals first | (exfalso; omega) | exact Keep.all rfl | trace_state
theorem LssWaitsW (a0x0 : Int) (a0x1 : Int) (a0x2 : Int) (a0x3 : Int) (a1 : Int) (a2x0 : Int) (a2x1 : Int) (a2x2 : Int) (a2x3 : Int) (a2x4 : Int) (a2x5 : Int) (a2x6 : Int) (a2x7 : Int) (w : World) (h0_0 : (Lit.int .u32 a0x0).wf = true) (h0_1 : (Lit.int .u32 a0x1).wf = true) (h0_2 : (Lit.int .u32 a0x2).wf = true) (h0_3 : (Lit.int .u32 a0x3).wf = true) (h1_0 : (Lit.int .i64 a1).wf = true) (h2_0 : (Lit.int .u8 a2x0).wf = true) (h2_1 : (Lit.int .u8 a2x1).wf = true) (h2_2 : (Lit.int .u8 a2x2).wf = true) (h2_3 : (Lit.int .u8 a2x3).wf = true) (h2_4 : (Lit.int .u8 a2x4).wf = true) (h2_5 : (Lit.int .u8 a2x5).wf = true) (h2_6 : (Lit.int .u8 a2x6).wf = true) (h2_7 : (Lit.int .u8 a2x7).wf = true) :
    Calls Try.prog 4 #[.agg #[.int .u32 a0x0, .int .u32 a0x1, .int .u32 a0x2, .int .u32 a0x3], .int .i64 a1, .agg #[.int .u8 a2x0, .int .u8 a2x1, .int .u8 a2x2, .int .u8 a2x3, .int .u8 a2x4, .int .u8 a2x5, .int .u8 a2x6, .int .u8 a2x7]] w fun e w' => e = .returned (.bool true) ∧ Go.RowKit.Below w.heap.size w w' :=
  (waits_sc a0x0 a0x1 a0x2 a0x3 a1 ⟨a2x0, a2x1, a2x2, a2x3, a2x4, a2x5, a2x6, a2x7⟩ ⟨wf_u8 h2_0, wf_u8 h2_1, wf_u8 h2_2, wf_u8 h2_3, wf_u8 h2_4, wf_u8 h2_5, wf_u8 h2_6, wf_u8 h2_7⟩ (wf_u32 h0_0) (wf_u32 h0_1) (wf_u32 h0_2) (wf_u32 h0_3)).fin w (Holds.empty w) (fun p hp => by cases hp)
end Go.Proofs.Ytneicohblmjakaa
