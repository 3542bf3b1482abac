/- Layer 3: the law's 'does' at its fourth act, whose two calls stand in one statement: whichever comes first. -/
import Derived.Test.YtpdcppaggedbaaaFaultD
set_option linter.unusedVariables false
set_option linter.unusedSimpArgs false
namespace Go.Proofs.Ytpdcppaggedbaaa
open Go.RowKit Go.Proofs.YtpdcppaggedbaaaW.PrintWords Go.Proofs.YtpdcppaggedbaaaW.PrintLast Go.Proofs.YtpdcppaggedbaaaW.PrintMore Go.Proofs.Ytpdcppaggedbaaa.PFaultActs
section
variable {w0 W : World} {gu gd : Nat} {x y : U} (k n : Int) (h : Bool) (t : Int)
set_option maxHeartbeats 1000000 in
theorem does_4 (hu : PU w0 W gu x) (hd : PD w0 W gd y) (hB : Below w0.heap.size w0 W) :
    Calls Try.prog 15 #[.pointer (some ⟨gu, 0, none⟩), .pointer (some ⟨gd, 0, none⟩), .agg #[.int .i64 4, .int .i64 n, .bool h, .int .u8 t]] W fun e W' => Done w0 W W' gu gd x y 4 n h e := by
  have hne := hu.ne hd
  have hlu := Nat.ne_of_gt hu.lt
  have hld := Nat.ne_of_gt hd.lt
  have hu0 := hu.alloc (.cells #[.int .i64 4, .int .i64 n, .bool h, .int .u8 t] 40)
  have hd0 := hd.alloc (.cells #[.int .i64 4, .int .i64 n, .bool h, .int .u8 t] 40)
  have hB0 := hB.alloc hB.size (.cells #[.int .i64 4, .int .i64 n, .bool h, .int .u8 t] 40)
  have hc0 := World.cell?_alloc_new W #[.int .i64 4, .int .i64 n, .bool h, .int .u8 t] 40 1
  go_enter Try.func15, Try.ntmps15
  go_wp2_with fail
  go_region_with (first
    | (go_at_call 14; first
      | (refine (cIdle n hu0.drew (by exact hB0.drew)).mono ?_; rintro e W1 ⟨rfl, hu1, hB1, hk1⟩; have hd1 := hd0.drew.keep hk1 hne.symm; have hc1 : W1.cell? ⟨W.heap.size, 1, none⟩ = some (.int .i64 n) := keep_cell hk1 hc0 hlu)
      | (refine (cIdle n hu1 hB1).mono ?_; rintro e W2 ⟨rfl, hu2, hB2, hk2⟩; have hd2 := hd1.keep hk2 hne.symm))
    | (go_at_call 27; first
      | (refine (eIdle n hd0.drew (by exact hB0.drew)).mono ?_; rintro e W1 ⟨rfl, hd1, hB1, hk1⟩; have hu1 := hu0.drew.keep hk1 hne; have hc1 : W1.cell? ⟨W.heap.size, 1, none⟩ = some (.int .i64 n) := keep_cell hk1 hc0 hld)
      | (refine (eIdle n hd1 hB1).mono ?_; rintro e W2 ⟨rfl, hd2, hB2, hk2⟩; have hu2 := hu1.keep hk2 hne)))
  all_goals
    have HK : Kp2 W W2 gu gd := by first | exact Kp2.of (W := W) (o := .cells #[.int .i64 4, .int .i64 n, .bool h, .int .u8 t] 40) hk1 hk2 | exact Kp2.of' (W := W) (o := .cells #[.int .i64 4, .int .i64 n, .bool h, .int .u8 t] 40) hk1 hk2
    have HK := Lib.hid HK
    clear hc0 hc1 hk1 hk2 hu0 hd0 hB0 hu hd hB hu1 hd1 hB1 hne hlu hld
    have Hx := Lib.hid hu2
    have Hy := Lib.hid hd2
    have HB := Lib.hid hB2
    clear hu2 hd2 hB2
    go_wp2
    go_ret
    exact ⟨rfl, Hx.out, Hy.out, HB.out, HK.out⟩

theorem does_any (hu : PU w0 W gu x) (hd : PD w0 W gd y) (hB : Below w0.heap.size w0 W) :
    Calls Try.prog 15 #[.pointer (some ⟨gu, 0, none⟩), .pointer (some ⟨gd, 0, none⟩), .agg #[.int .i64 k, .int .i64 n, .bool h, .int .u8 t]] W fun e W' => Done w0 W W' gu gd x y k n h e := by
  by_cases h0 : k = 0
  · subst h0; exact does_0 n h t hu hd hB
  by_cases h1 : k = 1
  · subst h1; exact does_1 n h t hu hd hB
  by_cases h2 : k = 2
  · subst h2; exact does_2 n h t hu hd hB
  by_cases h3 : k = 3
  · subst h3; exact does_3 n h t hu hd hB
  by_cases h4 : k = 4
  · subst h4; exact does_4 n h t hu hd hB
  by_cases h5 : k = 5
  · subst h5; exact does_5 n h t hu hd hB
  exact does_6 k n h t h0 h1 h2 h3 h4 h5 hu hd hB
end
end Go.Proofs.Ytpdcppaggedbaaa
