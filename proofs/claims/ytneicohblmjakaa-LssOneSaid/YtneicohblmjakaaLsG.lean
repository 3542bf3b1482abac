/- Layer 19: behind a selection of an address just the slaves of that address are configured: the walk, joined. -/
import Derived.Test.YtneicohblmjakaaLsF
set_option linter.unusedVariables false
set_option linter.unusedSimpArgs false
set_option maxRecDepth 100000
set_option maxHeartbeats 4000000
namespace Go.Proofs.Ytneicohblmjakaa
open Sx
theorem one_nil (a : Option Addr) (cap : Nat) (A : List Value) (a0 a1 a2 a3 : Int) :
    SCalls Try.prog 3 [.slice a 0 cap, .agg ⟨[.int .u32 a0, .int .u32 a1, .int .u32 a2, .int .u32 a3]⟩] [] fun v _ => v = .bool true := by
  refine enter3 ?_
  repeat' ((conv => whnf); (first
      | refine SLoop.round ?_
      | refine live_c ?_
      | refine New.mk (fun _ => ?_)
      | refine Look.at0 ?_
      | refine Cell.row ?_
      | refine Cells.row rfl ?_
      | refine Put.row rfl ?_
      | refine Look.at1 ?_
      | refine Look.at2 ?_
      | refine Look.at3 ?_
      | refine Look.at4 ?_
      | refine Look.at5 ?_
      | refine Look.at6 ?_
      | refine Look.at7 ?_
      | refine Look.at8 ?_
      | with_reducible refine Val.i64 (by omega) (by omega) ?_
      | with_reducible refine Val.u8 (by omega) (by omega) ?_
      | with_reducible refine Val.u32 (by omega) (by omega) ?_
      | with_reducible refine Val.u64 (by omega) (by omega) ?_
      | with_reducible refine Val.u8m ?_
      | with_reducible refine Val.u32m ?_
      | with_reducible refine Val.u64m ?_
      | with_reducible refine Val.shr8 ?_
      | with_reducible refine Val.shr16 (by decide) ?_
      | with_reducible refine Val.shr24 (by decide) ?_
      | with_reducible refine Val.raw ?_
      | refine Branch.not ?_
      | refine Branch.and ?_
      | refine Branch.or ?_
      | refine Branch.dt (by assumption) ?_
      | refine Branch.df (by assumption) ?_
      | refine Branch.dt rfl ?_
      | refine Branch.dt (by omega) ?_
      | refine Branch.df (by omega) ?_
      | refine Branch.t rfl ?_
      | refine Branch.f rfl ?_
      | refine Branch.t (by assumption) ?_
      | refine Branch.f (by assumption) ?_
      | refine Branch.d (fun _ => ?_) (fun _ => ?_)
      | refine Branch.mk (fun _ => ?_) (fun _ => ?_)
      | refine Need.mk (by first | omega | decide | rfl) ?_
      | refine Idx.nat (by omega) ?_
      | refine Idx.auto (by first | omega | decide) (by first | omega | decide) ?_
      | refine Cell.ro rfl ?_
      | refine SDraw.all (by kernel_rfl) ?_
      | refine Kept.k0 ?_
      | refine Kept.k1 ?_
      | refine Kept.k2 ?_
      | refine Kept.k3 ?_
      | refine Kept.k4 ?_))
  all_goals (conv => whnf)
  all_goals first | exact Keep.all rfl | trace_state
theorem LssOneW (a0a : Option Addr) (a0l : Nat) (a0c : Nat) (a1x0 : Int) (a1x1 : Int) (a1x2 : Int) (a1x3 : Int) (w : World) (h0_0 : SliceAt 4 B24 R24 w a0a a0l a0c) (h1_0 : (Lit.int .u32 a1x0).wf = true) (h1_1 : (Lit.int .u32 a1x1).wf = true) (h1_2 : (Lit.int .u32 a1x2).wf = true) (h1_3 : (Lit.int .u32 a1x3).wf = true) :
    Calls Try.prog 3 #[.slice a0a a0l a0c, .agg #[.int .u32 a1x0, .int .u32 a1x1, .int .u32 a1x2, .int .u32 a1x3]] w fun e w' => e = .returned (.bool true) ∧ Go.RowKit.Below w.heap.size w w' := by
  by_cases hl : 0 < a0l
  · obtain ⟨b, o, rfl, hb, hc⟩ := h0_0.plain (by decide) hl
    refine (one_sc a1x0 a1x1 a1x2 a1x3 a0l a0c b o (fun j => w.cell? ⟨b, j, none⟩) h0_0.1 (wf_u32 h1_0) (wf_u32 h1_1) (wf_u32 h1_2) (wf_u32 h1_3) fun j hj => ?_).fin w ⟨fun p hp => ?_, List.pairwise_singleton _ _⟩ (fun p hp => ?_)
    · obtain ⟨c, hlen, hcell, x0, x1, x2, x3, rfl, f0, f1, f2, f3⟩ := hc j hj
      exact ⟨x0, x1, x2, x3, hcell 0 (by decide), hcell 1 (by decide), hcell 2 (by decide), hcell 3 (by decide), wf_u32 f0, wf_u32 f1, wf_u32 f2, wf_u32 f3⟩
    · obtain rfl := List.mem_singleton.1 hp
      exact ⟨hb, fun _ _ h => h⟩
    · obtain rfl := List.mem_singleton.1 hp
      rfl
  · obtain rfl : a0l = 0 := by omega
    exact (one_nil a0a a0c [] a1x0 a1x1 a1x2 a1x3).fin w (Holds.empty w) (fun p hp => by cases hp)
end Go.Proofs.Ytneicohblmjakaa
