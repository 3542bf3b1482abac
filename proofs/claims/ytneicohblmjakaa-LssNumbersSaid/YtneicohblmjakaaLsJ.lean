/- Layer 19: a slave uses no other number: the walk, joined. -/
import Derived.Test.YtneicohblmjakaaLsI
set_option linter.unusedVariables false
set_option linter.unusedSimpArgs false
set_option maxRecDepth 100000
set_option maxHeartbeats 4000000
namespace Go.Proofs.Ytneicohblmjakaa
open Sx
theorem num_nil (a : Option Addr) (cap : Nat) (a0 a1 a2 a3 id : Int) :
    SCalls Try.prog 5 [.agg ⟨[.int .u32 a0, .int .u32 a1, .int .u32 a2, .int .u32 a3]⟩, .int .i64 id, .slice a 0 cap] [] fun v _ => v = .bool true := by
  refine enter5 ?_
  by_cases hid : 0 ≤ id ∧ id ≤ 127
  · repeat' ((conv => whnf); (first
        | refine c7n a0 a1 a2 a3 id hid (fun g => ?_)
        | refine SLoop.round ?_
        | refine live_c ?_
        | refine New.mk (fun _ => ?_)
        | refine Look.at0 ?_
        | refine Cell.row ?_
        | refine Cells.row rfl ?_
        | refine Put.row rfl ?_
        | refine Look.at1 ?_
        | refine Look.at2 ?_
        | refine Look.at3 ?_
        | refine Look.at4 ?_
        | refine Look.at5 ?_
        | refine Look.at6 ?_
        | refine Look.at7 ?_
        | refine Look.at8 ?_
        | with_reducible refine Val.i64 (by omega) (by omega) ?_
        | with_reducible refine Val.u8 (by omega) (by omega) ?_
        | with_reducible refine Val.u32 (by omega) (by omega) ?_
        | with_reducible refine Val.u64 (by omega) (by omega) ?_
        | with_reducible refine Val.u8m ?_
        | with_reducible refine Val.u32m ?_
        | with_reducible refine Val.u64m ?_
        | with_reducible refine Val.shr8 ?_
        | with_reducible refine Val.shr16 (by decide) ?_
        | with_reducible refine Val.shr24 (by decide) ?_
        | with_reducible refine Val.raw ?_
        | refine Branch.not ?_
        | refine Branch.and ?_
        | refine Branch.or ?_
        | refine Branch.dt (by assumption) ?_
        | refine Branch.df (by assumption) ?_
        | refine Branch.dt rfl ?_
        | refine Branch.dt (by omega) ?_
        | refine Branch.df (by omega) ?_
        | refine Branch.t rfl ?_
        | refine Branch.f rfl ?_
        | refine Branch.t (by assumption) ?_
        | refine Branch.f (by assumption) ?_
        | refine Branch.d (fun _ => ?_) (fun _ => ?_)
        | refine Branch.mk (fun _ => ?_) (fun _ => ?_)
        | refine Need.mk (by first | omega | decide | rfl) ?_
        | refine Idx.nat (by omega) ?_
        | refine Idx.auto (by first | omega | decide) (by first | omega | decide) ?_
        | refine Cell.ro rfl ?_
        | refine SDraw.all (by kernel_rfl) ?_
        | refine Kept.k0 ?_
        | refine Kept.k1 ?_
        | refine Kept.k2 ?_
        | refine Kept.k3 ?_
        | refine Kept.k4 ?_))
    all_goals (conv => whnf)
    all_goals first | exact Keep.all rfl | trace_state
  · repeat' ((conv => whnf); (first
        | refine c7_bad a0 a1 a2 a3 id (by omega) ?_
        | refine live_c ?_
        | refine New.mk (fun _ => ?_)
        | refine Look.at0 ?_
        | refine Cell.row ?_
        | refine Cells.row rfl ?_
        | refine Put.row rfl ?_
        | refine Look.at1 ?_
        | refine Look.at2 ?_
        | refine Look.at3 ?_
        | refine Look.at4 ?_
        | refine Look.at5 ?_
        | refine Look.at6 ?_
        | refine Look.at7 ?_
        | refine Look.at8 ?_
        | with_reducible refine Val.i64 (by omega) (by omega) ?_
        | with_reducible refine Val.u8 (by omega) (by omega) ?_
        | with_reducible refine Val.u32 (by omega) (by omega) ?_
        | with_reducible refine Val.u64 (by omega) (by omega) ?_
        | with_reducible refine Val.u8m ?_
        | with_reducible refine Val.u32m ?_
        | with_reducible refine Val.u64m ?_
        | with_reducible refine Val.shr8 ?_
        | with_reducible refine Val.shr16 (by decide) ?_
        | with_reducible refine Val.shr24 (by decide) ?_
        | with_reducible refine Val.raw ?_
        | refine Branch.not ?_
        | refine Branch.and ?_
        | refine Branch.or ?_
        | refine Branch.dt (by assumption) ?_
        | refine Branch.df (by assumption) ?_
        | refine Branch.dt rfl ?_
        | refine Branch.dt (by omega) ?_
        | refine Branch.df (by omega) ?_
        | refine Branch.t rfl ?_
        | refine Branch.f rfl ?_
        | refine Branch.t (by assumption) ?_
        | refine Branch.f (by assumption) ?_
        | refine Branch.d (fun _ => ?_) (fun _ => ?_)
        | refine Branch.mk (fun _ => ?_) (fun _ => ?_)
        | refine Need.mk (by first | omega | decide | rfl) ?_
        | refine Idx.nat (by omega) ?_
        | refine Idx.auto (by first | omega | decide) (by first | omega | decide) ?_
        | refine Cell.ro rfl ?_
        | refine SDraw.all (by kernel_rfl) ?_
        | refine Kept.k0 ?_
        | refine Kept.k1 ?_
        | refine Kept.k2 ?_
        | refine Kept.k3 ?_
        | refine Kept.k4 ?_))
    all_goals (conv => whnf)
    all_goals first | exact Keep.all rfl | trace_state
theorem LssNumbersW (a0x0 : Int) (a0x1 : Int) (a0x2 : Int) (a0x3 : Int) (a1 : Int) (a2a : Option Addr) (a2l : Nat) (a2c : Nat) (w : World) (h0_0 : (Lit.int .u32 a0x0).wf = true) (h0_1 : (Lit.int .u32 a0x1).wf = true) (h0_2 : (Lit.int .u32 a0x2).wf = true) (h0_3 : (Lit.int .u32 a0x3).wf = true) (h1_0 : (Lit.int .i64 a1).wf = true) (h2_0 : SliceAt 10 B43 R43 w a2a a2l a2c) :
    Calls Try.prog 5 #[.agg #[.int .u32 a0x0, .int .u32 a0x1, .int .u32 a0x2, .int .u32 a0x3], .int .i64 a1, .slice a2a a2l a2c] w fun e w' => e = .returned (.bool true) ∧ Go.RowKit.Below w.heap.size w w' := by
  by_cases hl : 0 < a2l
  · obtain ⟨b, o, rfl, hb, hc⟩ := h2_0.plain (by decide) hl
    have hlen : a2l ≤ 1152921504606846975 := by
      have h3 := h2_0.2.2.1
      unfold B43 reachBytes at h3
      omega
    refine (num_sc a0x0 a0x1 a0x2 a0x3 a1 a2l a2c b o (fun j => w.cell? ⟨b, j, none⟩) hlen (wf_u32 h0_0) (wf_u32 h0_1) (wf_u32 h0_2) (wf_u32 h0_3) fun j hj => ?_).fin w ⟨fun p hp => ?_, List.pairwise_singleton _ _⟩ (fun p hp => ?_)
    · obtain ⟨c, hlc, hcell, x0, y0, y1, y2, y3, y4, y5, y6, y7, fl, rfl, f0, g0, g1, g2, g3, g4, g5, g6, g7⟩ := hc j hj
      refine ⟨x0, ⟨y0, y1, y2, y3, y4, y5, y6, y7⟩, fl, ⟨wf_u8 g0, wf_u8 g1, wf_u8 g2, wf_u8 g3, wf_u8 g4, wf_u8 g5, wf_u8 g6, wf_u8 g7⟩, fun i v hi => ?_⟩
      have hi10 : i < 10 := (List.getElem?_eq_some_iff.1 hi).1
      exact (hcell i hi10).trans hi
    · obtain rfl := List.mem_singleton.1 hp
      exact ⟨hb, fun _ _ h => h⟩
    · obtain rfl := List.mem_singleton.1 hp
      rfl
  · obtain rfl : a2l = 0 := by omega
    exact (num_nil a2a a2c a0x0 a0x1 a0x2 a0x3 a1).fin w (Holds.empty w) (fun p hp => by cases hp)
end Go.Proofs.Ytneicohblmjakaa
