/- Layer 7: lives answers true. -/
import Derived.Test.YtkajoepgebfjoaaTypesExt5
set_option linter.unusedVariables false
set_option linter.unusedSimpArgs false
namespace Go.Proofs.Ytkajoepgebfjoaa.Ext
open Go.RowKit Go.Proofs.YtkajoepgebfjoaaW.PrintWords Go.Proofs.YtkajoepgebfjoaaW.PrintLast Go.Proofs.YtkajoepgebfjoaaW.PrintMore Go.Proofs.Ytkajoepgebfjoaa.TM Go.Proofs.Ytkajoepgebfjoaa.Pur

theorem eqV25 (d : Nat) (w : World) (x0 y0 : Int) (x1 y1 : Int) (x2 y2 : ByteArray) :
    (Op.equalIn (d + 2) 25 (.agg #[.int .i64 x0, .int .u64 x1, .string x2]) (.agg #[.int .i64 y0, .int .u64 y1, .string y2])).run Try.prog w = .ok (x0 == y0 && (x1 == y1 && (x2.toList == y2.toList))) w := by
  refine eqA_of Try.underlying25 (by kernel_rfl) ?_
  refine eqf_cons (by rfl) (by go_simp; rfl) (by go_simp; rfl) (by go_simp) ?_
  refine eqf_cons (by rfl) (by go_simp; rfl) (by go_simp; rfl) (by go_simp) ?_
  exact eqf_last (by rfl) (by go_simp; rfl) (by go_simp; rfl) (by go_simp)
attribute [local go_sem high] eqV25

theorem lives_enc : types_Encode.f 3 18446744073709551614 ⟨#[]⟩ = some ([254, 255], 0) := by kernel_rfl
theorem lives_dec : types_Decode.f 3 [254, 255] = some (3, 18446744073709551614, ⟨#[]⟩, 0) := by kernel_rfl
theorem lives_chk : types_Check.f 3 18446744073709551614 ⟨#[]⟩ = some 0 := by kernel_rfl
theorem lives_str : strOfNums [254, 255] = ⟨#[254, 255]⟩ := by kernel_rfl

def tramwaylaw07_lives.f : Option Bool := some true
theorem tramwaylaw07_lives.calls (r : Bool) (w : World) (h : tramwaylaw07_lives.f = some r) :
    Calls Try.prog 9 #[] w fun e w' => e = .returned (.bool r) ∧ Below w.heap.size w w' := by
  obtain rfl : true = r := by simpa [tramwaylaw07_lives.f] using h
  clear h
  have hu25 := Try.underlying25
  have hB0 := (Below.refl w.heap.size w).alloc (Nat.le_refl _) (.cells #[.int .i64 3, .int .u64 18446744073709551614, .string ⟨#[]⟩] 25)
  have hd2 : ((⟨#[]⟩ : ByteArray).toList == (⟨#[]⟩ : ByteArray).toList) = true := by simp
  go_enter Try.func9, Try.ntmps9
  go_wp2_with (first
    | (go_at_call 10; refine (types_Encode.calls _ _ _ _ _ _ lives_enc).mono ?_; rintro e W1 ⟨v, rfl, hv, hb1⟩; obtain ⟨A, c, rfl⟩ := Kd.V_slice hv; have hs1 := hb1.size; have hB1 := hB0.trans (hb1.mono (by simp))
       have c0 : W1.cell? ⟨w.heap.size, 0, none⟩ = some (.int .i64 3) := by rw [hb1.cell (by simp)]; exact World.cell?_alloc_new w _ _ _
       have c1 : W1.cell? ⟨w.heap.size, 1, none⟩ = some (.int .u64 18446744073709551614) := by rw [hb1.cell (by simp)]; exact World.cell?_alloc_new w _ _ _
       have c2 : W1.cell? ⟨w.heap.size, 2, none⟩ = some (.string ⟨#[]⟩) := by rw [hb1.cell (by simp)]; exact World.cell?_alloc_new w _ _ _)
    | (go_at_call 7; refine (types_Decode.calls 3 A c [254, 255] _ _ _ _ _ (Kd.V_reads' hv).2.2 (Kd.V_reads' hv).2.1 lives_dec).mono ?_; rintro e W2 ⟨rfl, hb2⟩; have hs2 := hb2.size; have hB2 := hB1.trans (hb2.mono hB1.size)
       have hlt : w.heap.size < W1.heap.size := by simp only [World.size_alloc] at hs1; omega
       have d0 : W2.cell? ⟨w.heap.size, 0, none⟩ = some (.int .i64 3) := by rw [hb2.cell (by exact hlt)]; exact c0
       have d1 : W2.cell? ⟨w.heap.size, 1, none⟩ = some (.int .u64 18446744073709551614) := by rw [hb2.cell (by exact hlt)]; exact c1
       have d2 : W2.cell? ⟨w.heap.size, 2, none⟩ = some (.string ⟨#[]⟩) := by rw [hb2.cell (by exact hlt)]; exact c2
       have hcv := V_string (P := Try.prog) Try.underlying22 Try.underlying5 Try.underlying9 (Kd.V_alloc (Kd.V_below hv hb2) (.cells #[.int .i64 3, .int .u64 18446744073709551614, .string ⟨#[]⟩] 25))
       rw [lives_str] at hcv
       simp only [List.length_cons, List.length_nil, Nat.reduceAdd, Nat.zero_add] at hcv
       have hlt2 : w.heap.size < W2.heap.size := by omega
       have e0 : (W2.alloc (.cells #[.int .i64 3, .int .u64 18446744073709551614, .string ⟨#[]⟩] 25)).cell? ⟨w.heap.size, 0, none⟩ = some (.int .i64 3) := by rw [World.cell?_alloc_past _ _ _ hlt2]; exact d0
       have e1 : (W2.alloc (.cells #[.int .i64 3, .int .u64 18446744073709551614, .string ⟨#[]⟩] 25)).cell? ⟨w.heap.size, 1, none⟩ = some (.int .u64 18446744073709551614) := by rw [World.cell?_alloc_past _ _ _ hlt2]; exact d1
       have e2 : (W2.alloc (.cells #[.int .i64 3, .int .u64 18446744073709551614, .string ⟨#[]⟩] 25)).cell? ⟨w.heap.size, 2, none⟩ = some (.string ⟨#[]⟩) := by rw [World.cell?_alloc_past _ _ _ hlt2]; exact d2
       clear c0 c1 c2 d0 d1 d2 hv hb1 hb2 hB0 hB1)
    | (go_at_call 13; refine (types_Check.calls _ _ _ _ _ lives_chk).mono ?_; rintro e W3 ⟨rfl, hb3⟩; have hB3 := (hB2.alloc hB2.size _).trans (hb3.mono (by simp; omega))))
  go_ret
  exact ⟨rfl, hB3⟩
end Go.Proofs.Ytkajoepgebfjoaa.Ext
