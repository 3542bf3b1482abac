/- Layer 7: TypesEncodes: what the print tells of it is true. -/
import Derived.Test.YtkajoepgebfjoaaTypesPure4
import Derived.Test.YtkajoepgebfjoaaPCx3
import Derived.OpenShut
set_option linter.unusedVariables false
set_option linter.unusedSimpArgs false
namespace Go.Proofs.Ytkajoepgebfjoaa
open Go.RowKit Go.Proofs.Ytkajoepgebfjoaa.PC Go.Proofs.YtkajoepgebfjoaaW.PrintWords Go.Proofs.YtkajoepgebfjoaaW.PrintLast Go.Proofs.Ytkajoepgebfjoaa.TM Go.Proofs.Ytkajoepgebfjoaa.Ext Go.Proofs.Ytkajoepgebfjoaa.Pur

theorem lawE_rng (n : Int) (s : ByteArray) (h : (Lit.int .u64 n).wf = true) (hs : s.size ≤ reachBytes) : Rng n s := by
  have := bounds_u64 h
  unfold reachBytes at hs
  exact ⟨by omega, by omega, by omega⟩
theorem lawE_enc (t n : Int) (s : ByteArray) (hr : Rng n s) : types_Encode.f t n s = some (if chk t n s = 0 then (encB t n s, 0) else ([], chk t n s)) := by
  unfold types_Encode.f encB; rw [if_pos hr]
theorem encodes_pure (t n : Int) (s : ByteArray) (u : Int) (hr : Rng n s) : tramwaylaw07_TypesEncodes.f 1 t n s u = some true := by
  unfold tramwaylaw07_TypesEncodes.f tramwayref07_Encode.f types_Size.f types_Check.f tramwayref07_Check.f types_Plain.f tramwayref07_Plain.f tramwayref07_Size.f
  rw [lawE_enc t n s hr, pcheck_eq t n s hr]
  simp only [Option.bind_some, if_true, beq_self_eq_true, Bool.not_true, Bool.or_self, Bool.false_eq_true, if_false, gt_iff_lt, bne_self_eq_false, tramwaylaw07_TypesEncodes.j0]
  by_cases hk : chk t n s = 0
  · simp only [if_pos hk, if_true]
    unfold types_Decode.f tramwayref07_Plain.f
    rw [if_pos (encB_byt t n s), enc_back t n s hr hk]
    simp [tramwaylaw07_lives.f]
  · simp only [if_neg hk]
    rfl
theorem encodes_walk (a0x0 : Int) (a0x1 : Int) (a0x2 : ByteArray) (a1 : Int) (w : World) (h0_0 : (Lit.int .i64 a0x0).wf = true) (h0_1 : (Lit.int .u64 a0x1).wf = true) (h0_2 : a0x2.size ≤ reachBytes) (h1_0 : (Lit.int .i64 a1).wf = true) :
    Calls Try.prog 5 #[.agg #[.int .i64 a0x0, .int .u64 a0x1, .string a0x2], .int .i64 a1] w fun e w' => e = .returned (.bool true) ∧ Below w.heap.size w w' :=
  tramwaylaw07_TypesEncodes.calls 1 a0x0 a0x1 a0x2 a1 true w (encodes_pure _ _ _ _ (lawE_rng _ _ h0_1 h0_2))
end Go.Proofs.Ytkajoepgebfjoaa
