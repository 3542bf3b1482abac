/- Layer 7: TypesSizes and TypesOrder: what the print tells of them is true. -/
import Derived.Test.YtkajoepgebfjoaaTypesPure4
import Derived.OpenShut
import Derived.Test.YtkajoepgebfjoaaPCx2
import Derived.Test.YtkajoepgebfjoaaPCx4
set_option linter.unusedVariables false
set_option linter.unusedSimpArgs false
namespace Go.Proofs.Ytkajoepgebfjoaa
open Go.RowKit Go.Proofs.Ytkajoepgebfjoaa.PC Go.Proofs.YtkajoepgebfjoaaW.PrintWords Go.Proofs.YtkajoepgebfjoaaW.PrintLast Go.Proofs.Ytkajoepgebfjoaa.TM Go.Proofs.Ytkajoepgebfjoaa.Ext Go.Proofs.Ytkajoepgebfjoaa.Pur

theorem rng_of (n : Int) (s : ByteArray) (h : (Lit.int .u64 n).wf = true) (hs : s.size ≤ reachBytes) : Rng n s := by
  have := bounds_u64 h
  unfold reachBytes at hs
  exact ⟨by omega, by omega, by omega⟩
theorem enc_eq (t n : Int) (s : ByteArray) (hr : Rng n s) : types_Encode.f t n s = some (if chk t n s = 0 then (encB t n s, 0) else ([], chk t n s)) := by
  unfold types_Encode.f encB; rw [if_pos hr]
theorem sizes_pure (t n : Int) (s : ByteArray) (hr : Rng n s) : tramwaylaw07_TypesSizes.f t n s = some true := by
  unfold tramwaylaw07_TypesSizes.f
  rw [enc_eq t n s hr]
  simp only [Option.bind_some, types_Size.f, tramwaylaw07_lives.f]
  have hc := tk_cases t
  by_cases hk : chk t n s = 0
  · simp only [if_pos hk]
    unfold encB
    by_cases hz : (tk t).1 = 0
    · simp [hz, str_bnums]
    · have h0 : 0 < (tk t).1 := by omega
      simp only [h0, decide_true, if_true, if_neg hz, lowB_length]
      rw [if_pos (by omega)]
  · simp only [if_neg hk]
theorem sizes_walk (a0x0 : Int) (a0x1 : Int) (a0x2 : ByteArray) (w : World) (h0_0 : (Lit.int .i64 a0x0).wf = true) (h0_1 : (Lit.int .u64 a0x1).wf = true) (h0_2 : a0x2.size ≤ reachBytes) :
    Calls Try.prog 4 #[.agg #[.int .i64 a0x0, .int .u64 a0x1, .string a0x2]] w fun e w' => e = .returned (.bool true) ∧ Below w.heap.size w w' :=
  tramwaylaw07_TypesSizes.calls a0x0 a0x1 a0x2 true w (sizes_pure _ _ _ (rng_of _ _ h0_1 h0_2))

theorem is_of_chk (t n : Int) (s : ByteArray) (hk : chk t n s = 0) : (tk t).2.2 = true := by
  cases h : (tk t).2.2 with
  | true => rfl
  | false => unfold chk at hk; rw [if_pos h] at hk; simp at hk
theorem order_f (t n : Int) (s : ByteArray) (u m : Int) (r : ByteArray) (h1 : Rng n s) (h2 : Rng m r) : types_Order.f t n s u m r = some (ord t n s u m r) := by
  unfold types_Order.f tramwayref07_Order.f; rw [if_pos ⟨h1, h2⟩]
theorem rorder_f (t n : Int) (s : ByteArray) (u m : Int) (r : ByteArray) (h1 : Rng n s) (h2 : Rng m r) : tramwayref07_Order.f t n s u m r = some (ord t n s u m r) := by
  unfold tramwayref07_Order.f; rw [if_pos ⟨h1, h2⟩]
theorem pln_eq_iff (x y : Int × Int × ByteArray) : (x.1 == y.1 && (x.2.1 == y.2.1 && (x.2.2.toList == y.2.2.toList))) = decide (x = y) := by
  obtain ⟨a, b, ⟨⟨c⟩⟩⟩ := x
  obtain ⟨d, e, ⟨⟨f⟩⟩⟩ := y
  rw [str_toList, str_toList, Bool.eq_iff_iff]
  simp
theorem order_pure (t n : Int) (s : ByteArray) (u m : Int) (r : ByteArray) (v q : Int) (z : ByteArray) (h1 : Rng n s) (h2 : Rng m r) (h3 : Rng q z) : tramwaylaw07_TypesOrder.f 2 t n s u m r v q z = some true := by
  unfold tramwaylaw07_TypesOrder.f
  rw [order_f _ _ _ _ _ _ h1 h2, rorder_f _ _ _ _ _ _ h1 h2]
  simp only [Option.bind_some, if_true, bne_self_eq_false, tramwaylaw07_TypesOrder.j0, Bool.false_eq_true, if_false]
  unfold ord
  by_cases c1 : chk t n s = 0
  · by_cases c2 : chk u m r = 0
    · by_cases c3 : t = u
      · subst c3
        have his := is_of_chk t n s c1
        have hin := ordV_in t n s m r
        simp only [if_pos c1, if_pos c2, if_true]
        rw [order_f _ _ _ _ _ _ h2 h1]
        unfold ord
        simp only [if_pos c1, if_pos c2, if_true, Option.bind_some]
        rw [ordV_neg t n s m r, show wrap64 (-ordV t n s m r) = -ordV t n s m r by unfold wrap64; omega]
        simp only [if_true, tramwayref07_Plain.f, Option.bind_some]
        rw [pln_eq_iff]
        have hz := ordV_zero t n s m r h1 h2 his
        have hd : ((ordV t n s m r == 0) != decide (pln t n s = pln t m r)) = false := by
          by_cases h : ordV t n s m r = 0
          · rw [decide_eq_true (hz.1 h), h]; rfl
          · rw [decide_eq_false (fun e => h (hz.2 e)), (by simpa using h : (ordV t n s m r == 0) = false)]; rfl
        rw [hd]
        simp only [tramwaylaw07_TypesOrder.j1, Bool.false_eq_true, if_false]
        rw [order_f _ _ _ _ _ _ h2 h3, order_f _ _ _ _ _ _ h1 h3]
        unfold ord
        by_cases c4 : chk v q z = 0
        · by_cases c5 : t = v
          · subst c5
            simp only [if_pos c1, if_pos c2, if_pos c4, if_true, Option.bind_some, tramwaylaw07_lives.f]
            by_cases c6 : ordV t n s m r = ordV t m r q z
            · rw [if_pos c6, ordV_trans t n s m r q z c6]
              by_cases c7 : ordV t n s m r = 0
              · rw [if_pos c7, if_pos c7]
              · rw [if_neg c7, if_pos rfl]
            · rw [if_neg c6]
          · simp only [if_pos c2, if_pos c4, if_neg c5, Option.bind_some, tramwaylaw07_lives.f]
            rfl
        · simp only [if_pos c2, if_neg c4, Option.bind_some, tramwaylaw07_lives.f]
      · simp only [if_pos c1, if_pos c2, if_neg c3, Option.bind_some, tramwaylaw07_lives.f]
        rfl
    · simp only [if_pos c1, if_neg c2, Option.bind_some, tramwaylaw07_lives.f]
  · simp only [if_neg c1, Option.bind_some, tramwaylaw07_lives.f]
theorem order_walk (a0x0 : Int) (a0x1 : Int) (a0x2 : ByteArray) (a1x0 : Int) (a1x1 : Int) (a1x2 : ByteArray) (a2x0 : Int) (a2x1 : Int) (a2x2 : ByteArray) (w : World) (h0_0 : (Lit.int .i64 a0x0).wf = true) (h0_1 : (Lit.int .u64 a0x1).wf = true) (h0_2 : a0x2.size ≤ reachBytes) (h1_0 : (Lit.int .i64 a1x0).wf = true) (h1_1 : (Lit.int .u64 a1x1).wf = true) (h1_2 : a1x2.size ≤ reachBytes) (h2_0 : (Lit.int .i64 a2x0).wf = true) (h2_1 : (Lit.int .u64 a2x1).wf = true) (h2_2 : a2x2.size ≤ reachBytes) :
    Calls Try.prog 6 #[.agg #[.int .i64 a0x0, .int .u64 a0x1, .string a0x2], .agg #[.int .i64 a1x0, .int .u64 a1x1, .string a1x2], .agg #[.int .i64 a2x0, .int .u64 a2x1, .string a2x2]] w fun e w' => e = .returned (.bool true) ∧ Below w.heap.size w w' :=
  tramwaylaw07_TypesOrder.calls 2 a0x0 a0x1 a0x2 a1x0 a1x1 a1x2 a2x0 a2x1 a2x2 true w (order_pure _ _ _ _ _ _ _ _ _ (rng_of _ _ h0_1 h0_2) (rng_of _ _ h1_1 h1_2) (rng_of _ _ h2_1 h2_2))
end Go.Proofs.Ytkajoepgebfjoaa
