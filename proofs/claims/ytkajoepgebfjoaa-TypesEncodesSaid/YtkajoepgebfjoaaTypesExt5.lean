/- Layer 7: each function that the laws call, told as a plain function, in the print's own form. -/
import Derived.Test.YtkajoepgebfjoaaTypesExt3
set_option linter.unusedVariables false
set_option linter.unusedSimpArgs false
namespace Go.Proofs.Ytkajoepgebfjoaa.Ext
open Go.RowKit Go.Proofs.YtkajoepgebfjoaaW.PrintWords Go.Proofs.YtkajoepgebfjoaaW.PrintLast Go.Proofs.YtkajoepgebfjoaaW.PrintMore Go.Proofs.Ytkajoepgebfjoaa.TM Go.Proofs.Ytkajoepgebfjoaa.Pur

/-- string(b) of a row that is only read. -/
theorem V_string {P : Program} {W : World} {src dst e e' : TypeId} {base : Nat} {ok : Nat → Prop} {v : Value} {xs : List Int} (hs : P.underlying src = some (.slice e)) (he : P.underlying e = some (.int .u8)) (hd : P.underlying dst = some .string)
    (h : Kd.V (Kd.int .u8) e' W base ok v xs) : (convert src dst v).run P W = .ok (.string (strOfNums xs)) W := by
  obtain ⟨A, c, rfl⟩ := Kd.V_slice h
  exact Kd.C_string hs he hd (Kd.V_reads' h).2.2
instance (l : List Int) : Decidable (Byt l) := by unfold Byt; infer_instance
def types_Decode.f (a0 : Int) (l1 : List Int) : Option (Int × Int × ByteArray × Int) := if Byt l1 then some (dec a0 l1) else none
theorem types_Decode.calls (a0 : Int) (A1 : Option Addr) (c1 : Nat) (l1 : List Int) (r1 : Int) (r2 : Int) (r3 : ByteArray) (r4 : Int) (w : World) (hr1 : Kd.C (Kd.int .u8) w A1 l1.length l1) (hc1 : l1.length ≤ c1) (h : types_Decode.f a0 l1 = some (r1, r2, r3, r4)) :
    Calls Try.prog 7 #[.int .i64 a0, .slice A1 l1.length c1] w fun e w' => e = .returned (.tuple #[.agg #[.int .i64 r1, .int .u64 r2, .string r3], .int .i64 r4]) ∧ Below w.heap.size w w' := by
  unfold types_Decode.f at h
  split at h
  · rename_i hb
    exact PB.types_Decode.calls 20 a0 A1 c1 l1 r1 r2 r3 r4 w hr1 hc1 ((pdec_eq a0 l1 hb 20 (Nat.le_refl _)).trans h)
  · cases h
def tramwayref07_Decode.f (a0 : Int) (l1 : List Int) : Option (Int × Int × ByteArray × Int) := if Byt l1 then some (dec a0 l1) else none
theorem tramwayref07_Decode.calls (a0 : Int) (A1 : Option Addr) (c1 : Nat) (l1 : List Int) (r1 : Int) (r2 : Int) (r3 : ByteArray) (r4 : Int) (w : World) (hr1 : Kd.C (Kd.int .u8) w A1 l1.length l1) (hc1 : l1.length ≤ c1) (h : tramwayref07_Decode.f a0 l1 = some (r1, r2, r3, r4)) :
    Calls Try.prog 8 #[.int .i64 a0, .slice A1 l1.length c1] w fun e w' => e = .returned (.tuple #[.agg #[.int .i64 r1, .int .u64 r2, .string r3], .int .i64 r4]) ∧ Below w.heap.size w w' := by
  unfold tramwayref07_Decode.f at h
  split at h
  · rename_i hb
    exact PB.tramwayref07_Decode.calls 131200 a0 A1 c1 l1 r1 r2 r3 r4 w hr1 hc1 ((rdec_eq a0 l1 hb 131200 (Nat.le_refl _)).trans h)
  · cases h
def types_Size.f (a0 : Int) : Option (Int × Bool) := some ((tk a0).1, decide (0 < (tk a0).1))
theorem types_Size.calls (a0 : Int) (r1 : Int) (r2 : Bool) (w : World) (h : types_Size.f a0 = some (r1, r2)) :
    Calls Try.prog 11 #[.int .i64 a0] w fun e w' => e = .returned (.tuple #[.int .i64 r1, .bool r2]) ∧ Below w.heap.size w w' := PB.types_Size.calls 1 a0 r1 r2 w ((psize_eq a0 1 (Nat.le_refl _)).trans h)
def types_Check.f (a0_0 : Int) (a0_1 : Int) (a0_2 : ByteArray) : Option (Int) := types_check.f a0_0 a0_1 a0_2
theorem types_Check.calls (a0_0 : Int) (a0_1 : Int) (a0_2 : ByteArray) (r : Int) (w : World) (h : types_Check.f a0_0 a0_1 a0_2 = some r) :
    Calls Try.prog 13 #[.agg #[.int .i64 a0_0, .int .u64 a0_1, .string a0_2]] w fun e w' => e = .returned (.int .i64 r) ∧ Below w.heap.size w w' := by
  have h' : types_check.f a0_0 a0_1 a0_2 = some r := h
  exact PB.types_Check.calls a0_0 a0_1 a0_2 r w (by unfold PB.types_Check.f; rw [h']; rfl)
def tramwayref07_Check.f (a0_0 : Int) (a0_1 : Int) (a0_2 : ByteArray) : Option (Int) := types_check.f a0_0 a0_1 a0_2
theorem tramwayref07_Check.calls (a0_0 : Int) (a0_1 : Int) (a0_2 : ByteArray) (r : Int) (w : World) (h : tramwayref07_Check.f a0_0 a0_1 a0_2 = some r) :
    Calls Try.prog 14 #[.agg #[.int .i64 a0_0, .int .u64 a0_1, .string a0_2]] w fun e w' => e = .returned (.int .i64 r) ∧ Below w.heap.size w w' := by
  unfold tramwayref07_Check.f types_check.f at h
  split at h
  · rename_i hr
    obtain rfl := Option.some.inj h
    exact rcheck_calls a0_0 a0_1 a0_2 w hr
  · cases h
def types_Plain.f (a0_0 : Int) (a0_1 : Int) (a0_2 : ByteArray) : Option (Int × Int × ByteArray) := some (pln a0_0 a0_1 a0_2)
theorem types_Plain.calls (a0_0 : Int) (a0_1 : Int) (a0_2 : ByteArray) (r1 : Int) (r2 : Int) (r3 : ByteArray) (w : World) (h : types_Plain.f a0_0 a0_1 a0_2 = some (r1, r2, r3)) :
    Calls Try.prog 15 #[.agg #[.int .i64 a0_0, .int .u64 a0_1, .string a0_2]] w fun e w' => e = .returned (.agg #[.int .i64 r1, .int .u64 r2, .string r3]) ∧ Below w.heap.size w w' :=
  PB.types_Plain.calls 1 a0_0 a0_1 a0_2 r1 r2 r3 w ((plain_eq a0_0 a0_1 a0_2 1 (Nat.le_refl _)).trans h)
def tramwayref07_Size.f (a0 : Int) : Option Int := some (tk a0).1
theorem tramwayref07_Size.calls (a0 : Int) (r : Int) (w : World) (h : tramwayref07_Size.f a0 = some r) :
    Calls Try.prog 17 #[.int .i64 a0] w fun e w' => e = .returned (.int .i64 r) ∧ Drawn0 w w' := by
  obtain rfl := Option.some.inj h
  exact rsize_calls a0 w
end Go.Proofs.Ytkajoepgebfjoaa.Ext
