/- Layer 19: what was stored is what a slave uses behind a Restart: the walk, joined. -/
import Derived.Test.YtneicohblmjakaaLsT
import Derived.Test.YtneicohblmjakaaTy
set_option linter.unusedVariables false
set_option linter.unusedSimpArgs false
set_option maxRecDepth 100000
set_option maxHeartbeats 4000000
namespace Go.Proofs.Ytneicohblmjakaa
open Sx
theorem LssStoresW (a0x0 : Int) (a0x1 : Int) (a0x2 : Int) (a0x3 : Int) (a1a : Option Addr) (a1l : Nat) (a1c : Nat) (a2 : Bool) (w : World) (h0_0 : (Lit.int .u32 a0x0).wf = true) (h0_1 : (Lit.int .u32 a0x1).wf = true) (h0_2 : (Lit.int .u32 a0x2).wf = true) (h0_3 : (Lit.int .u32 a0x3).wf = true) (h1_0 : SliceAt 10 B43 R43 w a1a a1l a1c) :
    Calls Try.prog 6 #[.agg #[.int .u32 a0x0, .int .u32 a0x1, .int .u32 a0x2, .int .u32 a0x3], .slice a1a a1l a1c, .bool a2] w fun e w' => e = .returned (.bool true) ∧ Go.RowKit.Below w.heap.size w w' := by
  by_cases hl : 0 < a1l
  · obtain ⟨b, o, rfl, hb, hc⟩ := h1_0.plain (by decide) hl
    have hlen : a1l ≤ 1152921504606846975 := by
      have h3 := h1_0.2.2.1
      unfold B43 reachBytes at h3
      omega
    refine (st_sc a0x0 a0x1 a0x2 a0x3 a1l a1c b o (fun j => w.cell? ⟨b, j, none⟩) a2 hlen (wf_u32 h0_0) (wf_u32 h0_1) (wf_u32 h0_2) (wf_u32 h0_3) fun j hj => ?_).fin w ⟨fun p hp => ?_, List.pairwise_singleton _ _⟩ (fun p hp => ?_)
    · obtain ⟨c, hlc, hcell, x0, y0, y1, y2, y3, y4, y5, y6, y7, fl, rfl, f0, g0, g1, g2, g3, g4, g5, g6, g7⟩ := hc j hj
      refine ⟨x0, ⟨y0, y1, y2, y3, y4, y5, y6, y7⟩, fl, ⟨wf_u8 g0, wf_u8 g1, wf_u8 g2, wf_u8 g3, wf_u8 g4, wf_u8 g5, wf_u8 g6, wf_u8 g7⟩, fun i v hi => ?_⟩
      have hi10 : i < 10 := (List.getElem?_eq_some_iff.1 hi).1
      exact (hcell i hi10).trans hi
    · obtain rfl := List.mem_singleton.1 hp
      exact ⟨hb, fun _ _ h => h⟩
    · obtain rfl := List.mem_singleton.1 hp
      rfl
  · obtain rfl : a1l = 0 := by omega
    exact (st_nil a1a a1c a0x0 a0x1 a0x2 a0x3 a2 (wf_u32 h0_0) (wf_u32 h0_1) (wf_u32 h0_2) (wf_u32 h0_3)).fin w (Holds.empty w) (fun p hp => by cases hp)
end Go.Proofs.Ytneicohblmjakaa
