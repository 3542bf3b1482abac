/- Layer 7: TypesDecodes is true of whatever bytes. -/
import Derived.Test.YtkajoepgebfjoaaTypesPure4
import Derived.OpenShut
import Derived.Test.YtkajoepgebfjoaaPCx2
set_option linter.unusedVariables false
set_option linter.unusedSimpArgs false
namespace Go.Proofs.Ytkajoepgebfjoaa.Pure
open Go.RowKit Go.Proofs.Ytkajoepgebfjoaa.PC Go.Proofs.YtkajoepgebfjoaaW.PrintWords Go.Proofs.YtkajoepgebfjoaaW.PrintLast Go.Proofs.Ytkajoepgebfjoaa.TM Go.Proofs.Ytkajoepgebfjoaa.Ext Go.Proofs.Ytkajoepgebfjoaa.Pur

theorem byt_of_wf (l : List Int) (h : ∀ x ∈ l, (Lit.int .u8 x).wf = true) : Byt l := fun b hb => by
  have := bounds_u8 (h b hb)
  omega
theorem TypesDecodes : tramwaylaw07_TypesDecodes.Pure := by
  intro a0 l1 _ hl _ hw
  have hb := byt_of_wf l1 hw
  refine ⟨1, ?_⟩
  unfold tramwaylaw07_TypesDecodes.f types_Decode.f tramwayref07_Decode.f
  simp only [Option.bind_some, List.length_nil, List.nil_append, if_pos hb, beq_self_eq_true, Bool.not_true, Bool.or_self, Bool.false_eq_true, if_false, bne_self_eq_false]
  unfold maxLen at hl
  rw [if_pos (by omega)]
  simp only [tramwaylaw07_TypesDecodes.j0, Bool.false_eq_true, if_false]
  by_cases h0 : (dec a0 l1).2.2.2 = 0
  · obtain ⟨n, s, hd, he⟩ := dec_back a0 l1 hb h0
    rw [hd]
    simp only [if_true, he, Option.bind_some]
    rfl
  · rw [if_neg h0]; rfl
end Go.Proofs.Ytkajoepgebfjoaa.Pure
