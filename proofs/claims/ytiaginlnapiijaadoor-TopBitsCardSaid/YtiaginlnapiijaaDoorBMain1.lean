/- Ported (port.py) from WrC. -/
import Derived.Test.YtiaginlnapiijaaDoorBMain
import Derived.Test.YtiaginlnapiijaaDoorBSx1

set_option linter.unusedVariables false
set_option linter.unusedSimpArgs false
set_option maxRecDepth 100000
set_option maxHeartbeats 4000000
namespace Go.Proofs.YtiaginlnapiijaaDoor
open Sx
/-- A frame. -/
structure Fm where
  (id : Nat) (x r : Bool) (n : Int) (d0 d1 d2 d3 d4 d5 d6 d7 : UInt8)
  deriving DecidableEq
abbrev b8 (b : UInt8) : Value := .int .u8 (b.toNat : Int)
abbrev frC (f : Fm) : List Value := [.int .u32 (f.id : Int), .bool f.x, .bool f.r, .int .i64 f.n, b8 f.d0, b8 f.d1, b8 f.d2, b8 f.d3, b8 f.d4, b8 f.d5, b8 f.d6, b8 f.d7]
abbrev frV (f : Fm) : Value := .agg ⟨frC f⟩
/-- What a frame's cells are at all. -/
def Fm.wf (f : Fm) : Prop := f.id < 4294967296 ∧ -9223372036854775808 ≤ f.n ∧ f.n ≤ 9223372036854775807
/-- Whether it can be. -/
def okF (f : Fm) : Bool := decide (0 ≤ f.n) && decide (f.n ≤ 15) && decide (f.id < if f.x then 536870912 else 2048)
def erF (f : Fm) : Int := if okF f then 0 else 1
/-- How many bytes it has. -/
def nb (f : Fm) : Nat := if f.r then 0 else min f.n.toNat 8
/-- The bytes from m to k are none. -/
def zs (f : Fm) (m k : Nat) : Fm := ⟨f.id, f.x, f.r, f.n, if m ≤ 0 ∧ 0 < k then 0 else f.d0, if m ≤ 1 ∧ 1 < k then 0 else f.d1, if m ≤ 2 ∧ 2 < k then 0 else f.d2, if m ≤ 3 ∧ 3 < k then 0 else f.d3,
  if m ≤ 4 ∧ 4 < k then 0 else f.d4, if m ≤ 5 ∧ 5 < k then 0 else f.d5, if m ≤ 6 ∧ 6 < k then 0 else f.d6, if m ≤ 7 ∧ 7 < k then 0 else f.d7⟩
def plF (f : Fm) : Fm := zs f (nb f) 8
theorem nb_le (f : Fm) : nb f ≤ 8 := by unfold nb; split <;> omega
section
variable {K : Value → Heap → Prop} {H : Heap}
theorem c14 {f : Fm} (hid : f.id < 4294967296) (hK : K (.int .i64 (erF f)) H) : SCalls Tryd.prog 14 [frV f] H K := by
  obtain ⟨id, x, rm, n, d0, d1, d2, d3, d4, d5, d6, d7⟩ := f
  unfold erF okF at hK
  dsimp only at hid hK
  dsimp only [frV, frC]
  refine enter14 ?_
  have h11 : shrI .u32 (id : Int) 11 = ((id / 2 ^ 11 : Nat) : Int) := shr_nat (k := .u32) (n := 11) (by decide)
  have h29 : shrI .u32 (id : Int) 29 = ((id / 2 ^ 29 : Nat) : Int) := shr_nat (k := .u32) (n := 29) (by decide)
  cases x with
  | true =>
    rw [show (if true = true then 536870912 else 2048) = 536870912 from rfl] at hK
    by_cases h1 : id < 536870912
    · rw [Nat.div_eq_of_lt (show id < 2 ^ 29 by omega)] at h29
      by_cases h2 : 0 ≤ n
      · by_cases h3 : n ≤ 15
        · rw [decide_eq_true h1, decide_eq_true h2, decide_eq_true h3] at hK
          repeat' ((conv => whnf); (first | with_reducible refine Val.to _ h29 ?_ | refine Branch.df (by omega) ?_ | refine Branch.dt (by omega) ?_ | refine Branch.f rfl ?_ | exact Keep.d1 hK | refine New.mk (fun _ => ?_) | refine Look.at0 ?_ | refine Cell.row ?_ | refine Cell.buf ?_ | refine Cells.row rfl ?_ | refine Put.row rfl ?_ | refine Put.buf rfl ?_ | refine Look.at1 ?_ | refine Look.at2 ?_ | refine Look.at3 ?_ | refine Look.at4 ?_ | refine Look.at5 ?_ | refine Look.at6 ?_ | refine Look.at7 ?_ | refine Look.at8 ?_ | with_reducible refine Val.i64 (by omega) (by omega) ?_ | with_reducible refine Val.u8 (by omega) (by omega) ?_ | with_reducible refine Val.u32 (by omega) (by omega) ?_ | with_reducible refine Val.u64 (by omega) (by omega) ?_ | with_reducible refine Val.u8m ?_ | with_reducible refine Val.u32m ?_ | with_reducible refine Val.u64m ?_ | with_reducible refine Val.shr8 ?_ | with_reducible refine Val.shr16 (by decide) ?_ | with_reducible refine Val.shr24 (by decide) ?_ | with_reducible refine Val.raw ?_ | refine Branch.not ?_ | refine Branch.and ?_ | refine Branch.or ?_ | refine Branch.dt (by assumption) ?_ | refine Branch.df (by assumption) ?_ | refine Branch.dt rfl ?_ | refine Branch.dt (by omega) ?_ | refine Branch.df (by omega) ?_ | refine Branch.t rfl ?_ | refine Branch.f rfl ?_ | refine Branch.t (by assumption) ?_ | refine Branch.f (by assumption) ?_ | refine Branch.d (fun _ => ?_) (fun _ => ?_) | refine Branch.mk (fun _ => ?_) (fun _ => ?_) | refine Need.mk (by first | omega | decide | rfl) ?_ | refine Idx.nat (by omega) ?_ | refine Idx.auto (by first | omega | decide) (by first | omega | decide) ?_ | refine Cell.ro rfl ?_ | refine SDraw.all (by kernel_rfl) ?_ | refine Kept.k0 ?_ | refine Kept.k1 ?_ | refine Kept.k2 ?_ | refine Kept.k3 ?_ | refine Kept.k4 ?_))
        · rw [decide_eq_false h3, Bool.and_false, Bool.false_and] at hK
          repeat' ((conv => whnf); (first | with_reducible refine Val.to _ h29 ?_ | refine Branch.df (by omega) ?_ | refine Branch.dt (by omega) ?_ | refine Branch.f rfl ?_ | exact Keep.d1 hK | refine New.mk (fun _ => ?_) | refine Look.at0 ?_ | refine Cell.row ?_ | refine Cell.buf ?_ | refine Cells.row rfl ?_ | refine Put.row rfl ?_ | refine Put.buf rfl ?_ | refine Look.at1 ?_ | refine Look.at2 ?_ | refine Look.at3 ?_ | refine Look.at4 ?_ | refine Look.at5 ?_ | refine Look.at6 ?_ | refine Look.at7 ?_ | refine Look.at8 ?_ | with_reducible refine Val.i64 (by omega) (by omega) ?_ | with_reducible refine Val.u8 (by omega) (by omega) ?_ | with_reducible refine Val.u32 (by omega) (by omega) ?_ | with_reducible refine Val.u64 (by omega) (by omega) ?_ | with_reducible refine Val.u8m ?_ | with_reducible refine Val.u32m ?_ | with_reducible refine Val.u64m ?_ | with_reducible refine Val.shr8 ?_ | with_reducible refine Val.shr16 (by decide) ?_ | with_reducible refine Val.shr24 (by decide) ?_ | with_reducible refine Val.raw ?_ | refine Branch.not ?_ | refine Branch.and ?_ | refine Branch.or ?_ | refine Branch.dt (by assumption) ?_ | refine Branch.df (by assumption) ?_ | refine Branch.dt rfl ?_ | refine Branch.dt (by omega) ?_ | refine Branch.df (by omega) ?_ | refine Branch.t rfl ?_ | refine Branch.f rfl ?_ | refine Branch.t (by assumption) ?_ | refine Branch.f (by assumption) ?_ | refine Branch.d (fun _ => ?_) (fun _ => ?_) | refine Branch.mk (fun _ => ?_) (fun _ => ?_) | refine Need.mk (by first | omega | decide | rfl) ?_ | refine Idx.nat (by omega) ?_ | refine Idx.auto (by first | omega | decide) (by first | omega | decide) ?_ | refine Cell.ro rfl ?_ | refine SDraw.all (by kernel_rfl) ?_ | refine Kept.k0 ?_ | refine Kept.k1 ?_ | refine Kept.k2 ?_ | refine Kept.k3 ?_ | refine Kept.k4 ?_))
      · rw [decide_eq_false h2, Bool.false_and, Bool.false_and] at hK
        repeat' ((conv => whnf); (first | with_reducible refine Val.to _ h29 ?_ | refine Branch.df (by omega) ?_ | refine Branch.dt (by omega) ?_ | refine Branch.f rfl ?_ | exact Keep.d1 hK | refine New.mk (fun _ => ?_) | refine Look.at0 ?_ | refine Cell.row ?_ | refine Cell.buf ?_ | refine Cells.row rfl ?_ | refine Put.row rfl ?_ | refine Put.buf rfl ?_ | refine Look.at1 ?_ | refine Look.at2 ?_ | refine Look.at3 ?_ | refine Look.at4 ?_ | refine Look.at5 ?_ | refine Look.at6 ?_ | refine Look.at7 ?_ | refine Look.at8 ?_ | with_reducible refine Val.i64 (by omega) (by omega) ?_ | with_reducible refine Val.u8 (by omega) (by omega) ?_ | with_reducible refine Val.u32 (by omega) (by omega) ?_ | with_reducible refine Val.u64 (by omega) (by omega) ?_ | with_reducible refine Val.u8m ?_ | with_reducible refine Val.u32m ?_ | with_reducible refine Val.u64m ?_ | with_reducible refine Val.shr8 ?_ | with_reducible refine Val.shr16 (by decide) ?_ | with_reducible refine Val.shr24 (by decide) ?_ | with_reducible refine Val.raw ?_ | refine Branch.not ?_ | refine Branch.and ?_ | refine Branch.or ?_ | refine Branch.dt (by assumption) ?_ | refine Branch.df (by assumption) ?_ | refine Branch.dt rfl ?_ | refine Branch.dt (by omega) ?_ | refine Branch.df (by omega) ?_ | refine Branch.t rfl ?_ | refine Branch.f rfl ?_ | refine Branch.t (by assumption) ?_ | refine Branch.f (by assumption) ?_ | refine Branch.d (fun _ => ?_) (fun _ => ?_) | refine Branch.mk (fun _ => ?_) (fun _ => ?_) | refine Need.mk (by first | omega | decide | rfl) ?_ | refine Idx.nat (by omega) ?_ | refine Idx.auto (by first | omega | decide) (by first | omega | decide) ?_ | refine Cell.ro rfl ?_ | refine SDraw.all (by kernel_rfl) ?_ | refine Kept.k0 ?_ | refine Kept.k1 ?_ | refine Kept.k2 ?_ | refine Kept.k3 ?_ | refine Kept.k4 ?_))
    · rw [decide_eq_false h1, Bool.and_false] at hK
      have hz : ¬ ((id / 2 ^ 29 : Nat) : Int) = 0 := by omega
      have h29' : shrI .u32 (id : Int) (11 + 18) = ((id / 2 ^ 29 : Nat) : Int) := h29
      repeat' ((conv => whnf); (first | refine Branch.df (by rw [h29']; exact hz) ?_ | exact Keep.d1 hK | refine New.mk (fun _ => ?_) | refine Look.at0 ?_ | refine Cell.row ?_ | refine Cell.buf ?_ | refine Cells.row rfl ?_ | refine Put.row rfl ?_ | refine Put.buf rfl ?_ | refine Look.at1 ?_ | refine Look.at2 ?_ | refine Look.at3 ?_ | refine Look.at4 ?_ | refine Look.at5 ?_ | refine Look.at6 ?_ | refine Look.at7 ?_ | refine Look.at8 ?_ | with_reducible refine Val.i64 (by omega) (by omega) ?_ | with_reducible refine Val.u8 (by omega) (by omega) ?_ | with_reducible refine Val.u32 (by omega) (by omega) ?_ | with_reducible refine Val.u64 (by omega) (by omega) ?_ | with_reducible refine Val.u8m ?_ | with_reducible refine Val.u32m ?_ | with_reducible refine Val.u64m ?_ | with_reducible refine Val.shr8 ?_ | with_reducible refine Val.shr16 (by decide) ?_ | with_reducible refine Val.shr24 (by decide) ?_ | with_reducible refine Val.raw ?_ | refine Branch.not ?_ | refine Branch.and ?_ | refine Branch.or ?_ | refine Branch.dt (by assumption) ?_ | refine Branch.df (by assumption) ?_ | refine Branch.dt rfl ?_ | refine Branch.dt (by omega) ?_ | refine Branch.df (by omega) ?_ | refine Branch.t rfl ?_ | refine Branch.f rfl ?_ | refine Branch.t (by assumption) ?_ | refine Branch.f (by assumption) ?_ | refine Branch.d (fun _ => ?_) (fun _ => ?_) | refine Branch.mk (fun _ => ?_) (fun _ => ?_) | refine Need.mk (by first | omega | decide | rfl) ?_ | refine Idx.nat (by omega) ?_ | refine Idx.auto (by first | omega | decide) (by first | omega | decide) ?_ | refine Cell.ro rfl ?_ | refine SDraw.all (by kernel_rfl) ?_ | refine Kept.k0 ?_ | refine Kept.k1 ?_ | refine Kept.k2 ?_ | refine Kept.k3 ?_ | refine Kept.k4 ?_))
  | false =>
    rw [show (if false = true then 536870912 else 2048) = 2048 from rfl] at hK
    by_cases h1 : id < 2048
    · rw [Nat.div_eq_of_lt (show id < 2 ^ 11 by omega)] at h11
      by_cases h2 : 0 ≤ n
      · by_cases h3 : n ≤ 15
        · rw [decide_eq_true h1, decide_eq_true h2, decide_eq_true h3] at hK
          repeat' ((conv => whnf); (first | with_reducible refine Val.to _ h11 ?_ | refine Branch.df (by omega) ?_ | refine Branch.dt (by omega) ?_ | refine Branch.f rfl ?_ | exact Keep.d1 hK | refine New.mk (fun _ => ?_) | refine Look.at0 ?_ | refine Cell.row ?_ | refine Cell.buf ?_ | refine Cells.row rfl ?_ | refine Put.row rfl ?_ | refine Put.buf rfl ?_ | refine Look.at1 ?_ | refine Look.at2 ?_ | refine Look.at3 ?_ | refine Look.at4 ?_ | refine Look.at5 ?_ | refine Look.at6 ?_ | refine Look.at7 ?_ | refine Look.at8 ?_ | with_reducible refine Val.i64 (by omega) (by omega) ?_ | with_reducible refine Val.u8 (by omega) (by omega) ?_ | with_reducible refine Val.u32 (by omega) (by omega) ?_ | with_reducible refine Val.u64 (by omega) (by omega) ?_ | with_reducible refine Val.u8m ?_ | with_reducible refine Val.u32m ?_ | with_reducible refine Val.u64m ?_ | with_reducible refine Val.shr8 ?_ | with_reducible refine Val.shr16 (by decide) ?_ | with_reducible refine Val.shr24 (by decide) ?_ | with_reducible refine Val.raw ?_ | refine Branch.not ?_ | refine Branch.and ?_ | refine Branch.or ?_ | refine Branch.dt (by assumption) ?_ | refine Branch.df (by assumption) ?_ | refine Branch.dt rfl ?_ | refine Branch.dt (by omega) ?_ | refine Branch.df (by omega) ?_ | refine Branch.t rfl ?_ | refine Branch.f rfl ?_ | refine Branch.t (by assumption) ?_ | refine Branch.f (by assumption) ?_ | refine Branch.d (fun _ => ?_) (fun _ => ?_) | refine Branch.mk (fun _ => ?_) (fun _ => ?_) | refine Need.mk (by first | omega | decide | rfl) ?_ | refine Idx.nat (by omega) ?_ | refine Idx.auto (by first | omega | decide) (by first | omega | decide) ?_ | refine Cell.ro rfl ?_ | refine SDraw.all (by kernel_rfl) ?_ | refine Kept.k0 ?_ | refine Kept.k1 ?_ | refine Kept.k2 ?_ | refine Kept.k3 ?_ | refine Kept.k4 ?_))
        · rw [decide_eq_false h3, Bool.and_false, Bool.false_and] at hK
          repeat' ((conv => whnf); (first | with_reducible refine Val.to _ h11 ?_ | refine Branch.df (by omega) ?_ | refine Branch.dt (by omega) ?_ | refine Branch.f rfl ?_ | exact Keep.d1 hK | refine New.mk (fun _ => ?_) | refine Look.at0 ?_ | refine Cell.row ?_ | refine Cell.buf ?_ | refine Cells.row rfl ?_ | refine Put.row rfl ?_ | refine Put.buf rfl ?_ | refine Look.at1 ?_ | refine Look.at2 ?_ | refine Look.at3 ?_ | refine Look.at4 ?_ | refine Look.at5 ?_ | refine Look.at6 ?_ | refine Look.at7 ?_ | refine Look.at8 ?_ | with_reducible refine Val.i64 (by omega) (by omega) ?_ | with_reducible refine Val.u8 (by omega) (by omega) ?_ | with_reducible refine Val.u32 (by omega) (by omega) ?_ | with_reducible refine Val.u64 (by omega) (by omega) ?_ | with_reducible refine Val.u8m ?_ | with_reducible refine Val.u32m ?_ | with_reducible refine Val.u64m ?_ | with_reducible refine Val.shr8 ?_ | with_reducible refine Val.shr16 (by decide) ?_ | with_reducible refine Val.shr24 (by decide) ?_ | with_reducible refine Val.raw ?_ | refine Branch.not ?_ | refine Branch.and ?_ | refine Branch.or ?_ | refine Branch.dt (by assumption) ?_ | refine Branch.df (by assumption) ?_ | refine Branch.dt rfl ?_ | refine Branch.dt (by omega) ?_ | refine Branch.df (by omega) ?_ | refine Branch.t rfl ?_ | refine Branch.f rfl ?_ | refine Branch.t (by assumption) ?_ | refine Branch.f (by assumption) ?_ | refine Branch.d (fun _ => ?_) (fun _ => ?_) | refine Branch.mk (fun _ => ?_) (fun _ => ?_) | refine Need.mk (by first | omega | decide | rfl) ?_ | refine Idx.nat (by omega) ?_ | refine Idx.auto (by first | omega | decide) (by first | omega | decide) ?_ | refine Cell.ro rfl ?_ | refine SDraw.all (by kernel_rfl) ?_ | refine Kept.k0 ?_ | refine Kept.k1 ?_ | refine Kept.k2 ?_ | refine Kept.k3 ?_ | refine Kept.k4 ?_))
      · rw [decide_eq_false h2, Bool.false_and, Bool.false_and] at hK
        repeat' ((conv => whnf); (first | with_reducible refine Val.to _ h11 ?_ | refine Branch.df (by omega) ?_ | refine Branch.dt (by omega) ?_ | refine Branch.f rfl ?_ | exact Keep.d1 hK | refine New.mk (fun _ => ?_) | refine Look.at0 ?_ | refine Cell.row ?_ | refine Cell.buf ?_ | refine Cells.row rfl ?_ | refine Put.row rfl ?_ | refine Put.buf rfl ?_ | refine Look.at1 ?_ | refine Look.at2 ?_ | refine Look.at3 ?_ | refine Look.at4 ?_ | refine Look.at5 ?_ | refine Look.at6 ?_ | refine Look.at7 ?_ | refine Look.at8 ?_ | with_reducible refine Val.i64 (by omega) (by omega) ?_ | with_reducible refine Val.u8 (by omega) (by omega) ?_ | with_reducible refine Val.u32 (by omega) (by omega) ?_ | with_reducible refine Val.u64 (by omega) (by omega) ?_ | with_reducible refine Val.u8m ?_ | with_reducible refine Val.u32m ?_ | with_reducible refine Val.u64m ?_ | with_reducible refine Val.shr8 ?_ | with_reducible refine Val.shr16 (by decide) ?_ | with_reducible refine Val.shr24 (by decide) ?_ | with_reducible refine Val.raw ?_ | refine Branch.not ?_ | refine Branch.and ?_ | refine Branch.or ?_ | refine Branch.dt (by assumption) ?_ | refine Branch.df (by assumption) ?_ | refine Branch.dt rfl ?_ | refine Branch.dt (by omega) ?_ | refine Branch.df (by omega) ?_ | refine Branch.t rfl ?_ | refine Branch.f rfl ?_ | refine Branch.t (by assumption) ?_ | refine Branch.f (by assumption) ?_ | refine Branch.d (fun _ => ?_) (fun _ => ?_) | refine Branch.mk (fun _ => ?_) (fun _ => ?_) | refine Need.mk (by first | omega | decide | rfl) ?_ | refine Idx.nat (by omega) ?_ | refine Idx.auto (by first | omega | decide) (by first | omega | decide) ?_ | refine Cell.ro rfl ?_ | refine SDraw.all (by kernel_rfl) ?_ | refine Kept.k0 ?_ | refine Kept.k1 ?_ | refine Kept.k2 ?_ | refine Kept.k3 ?_ | refine Kept.k4 ?_))
    · rw [decide_eq_false h1, Bool.and_false] at hK
      have hz : ¬ ((id / 2 ^ 11 : Nat) : Int) = 0 := by omega
      repeat' ((conv => whnf); (first | with_reducible refine Val.to _ h11 ?_ | refine Branch.t (by first | (simp [hz]; done) | omega) ?_ | exact Keep.d1 hK | refine New.mk (fun _ => ?_) | refine Look.at0 ?_ | refine Cell.row ?_ | refine Cell.buf ?_ | refine Cells.row rfl ?_ | refine Put.row rfl ?_ | refine Put.buf rfl ?_ | refine Look.at1 ?_ | refine Look.at2 ?_ | refine Look.at3 ?_ | refine Look.at4 ?_ | refine Look.at5 ?_ | refine Look.at6 ?_ | refine Look.at7 ?_ | refine Look.at8 ?_ | with_reducible refine Val.i64 (by omega) (by omega) ?_ | with_reducible refine Val.u8 (by omega) (by omega) ?_ | with_reducible refine Val.u32 (by omega) (by omega) ?_ | with_reducible refine Val.u64 (by omega) (by omega) ?_ | with_reducible refine Val.u8m ?_ | with_reducible refine Val.u32m ?_ | with_reducible refine Val.u64m ?_ | with_reducible refine Val.shr8 ?_ | with_reducible refine Val.shr16 (by decide) ?_ | with_reducible refine Val.shr24 (by decide) ?_ | with_reducible refine Val.raw ?_ | refine Branch.not ?_ | refine Branch.and ?_ | refine Branch.or ?_ | refine Branch.dt (by assumption) ?_ | refine Branch.df (by assumption) ?_ | refine Branch.dt rfl ?_ | refine Branch.dt (by omega) ?_ | refine Branch.df (by omega) ?_ | refine Branch.t rfl ?_ | refine Branch.f rfl ?_ | refine Branch.t (by assumption) ?_ | refine Branch.f (by assumption) ?_ | refine Branch.d (fun _ => ?_) (fun _ => ?_) | refine Branch.mk (fun _ => ?_) (fun _ => ?_) | refine Need.mk (by first | omega | decide | rfl) ?_ | refine Idx.nat (by omega) ?_ | refine Idx.auto (by first | omega | decide) (by first | omega | decide) ?_ | refine Cell.ro rfl ?_ | refine SDraw.all (by kernel_rfl) ?_ | refine Kept.k0 ?_ | refine Kept.k1 ?_ | refine Kept.k2 ?_ | refine Kept.k3 ?_ | refine Kept.k4 ?_))
theorem c6 {f : Fm} (hid : f.id < 4294967296) (hK : K (.int .i64 (erF f)) H) : SCalls Tryd.prog 6 [frV f] H K := by
  refine enter6 ?_
  repeat' ((conv => whnf); (first | refine c14 hid ?_ | exact Keep.d1 hK | refine New.mk (fun _ => ?_) | refine Look.at0 ?_ | refine Cell.row ?_ | refine Cell.buf ?_ | refine Cells.row rfl ?_ | refine Put.row rfl ?_ | refine Put.buf rfl ?_ | refine Look.at1 ?_ | refine Look.at2 ?_ | refine Look.at3 ?_ | refine Look.at4 ?_ | refine Look.at5 ?_ | refine Look.at6 ?_ | refine Look.at7 ?_ | refine Look.at8 ?_ | with_reducible refine Val.i64 (by omega) (by omega) ?_ | with_reducible refine Val.u8 (by omega) (by omega) ?_ | with_reducible refine Val.u32 (by omega) (by omega) ?_ | with_reducible refine Val.u64 (by omega) (by omega) ?_ | with_reducible refine Val.u8m ?_ | with_reducible refine Val.u32m ?_ | with_reducible refine Val.u64m ?_ | with_reducible refine Val.shr8 ?_ | with_reducible refine Val.shr16 (by decide) ?_ | with_reducible refine Val.shr24 (by decide) ?_ | with_reducible refine Val.raw ?_ | refine Branch.not ?_ | refine Branch.and ?_ | refine Branch.or ?_ | refine Branch.dt (by assumption) ?_ | refine Branch.df (by assumption) ?_ | refine Branch.dt rfl ?_ | refine Branch.dt (by omega) ?_ | refine Branch.df (by omega) ?_ | refine Branch.t rfl ?_ | refine Branch.f rfl ?_ | refine Branch.t (by assumption) ?_ | refine Branch.f (by assumption) ?_ | refine Branch.d (fun _ => ?_) (fun _ => ?_) | refine Branch.mk (fun _ => ?_) (fun _ => ?_) | refine Need.mk (by first | omega | decide | rfl) ?_ | refine Idx.nat (by omega) ?_ | refine Idx.auto (by first | omega | decide) (by first | omega | decide) ?_ | refine Cell.ro rfl ?_ | refine SDraw.all (by kernel_rfl) ?_ | refine Kept.k0 ?_ | refine Kept.k1 ?_ | refine Kept.k2 ?_ | refine Kept.k3 ?_ | refine Kept.k4 ?_))
theorem c18 {f : Fm} (hK : K (.int .i64 (nb f : Int)) H) : SCalls Tryd.prog 18 [frV f] H K := by
  obtain ⟨id, x, rm, n, d0, d1, d2, d3, d4, d5, d6, d7⟩ := f
  unfold nb at hK
  dsimp only at hK
  dsimp only [frV, frC]
  refine enter18 ?_
  cases rm with
  | true =>
    rw [if_pos rfl] at hK
    repeat' ((conv => whnf); (first | refine Branch.t rfl ?_ | exact Keep.d1 hK | refine New.mk (fun _ => ?_) | refine Look.at0 ?_ | refine Cell.row ?_ | refine Cell.buf ?_ | refine Cells.row rfl ?_ | refine Put.row rfl ?_ | refine Put.buf rfl ?_ | refine Look.at1 ?_ | refine Look.at2 ?_ | refine Look.at3 ?_ | refine Look.at4 ?_ | refine Look.at5 ?_ | refine Look.at6 ?_ | refine Look.at7 ?_ | refine Look.at8 ?_ | with_reducible refine Val.i64 (by omega) (by omega) ?_ | with_reducible refine Val.u8 (by omega) (by omega) ?_ | with_reducible refine Val.u32 (by omega) (by omega) ?_ | with_reducible refine Val.u64 (by omega) (by omega) ?_ | with_reducible refine Val.u8m ?_ | with_reducible refine Val.u32m ?_ | with_reducible refine Val.u64m ?_ | with_reducible refine Val.shr8 ?_ | with_reducible refine Val.shr16 (by decide) ?_ | with_reducible refine Val.shr24 (by decide) ?_ | with_reducible refine Val.raw ?_ | refine Branch.not ?_ | refine Branch.and ?_ | refine Branch.or ?_ | refine Branch.dt (by assumption) ?_ | refine Branch.df (by assumption) ?_ | refine Branch.dt rfl ?_ | refine Branch.dt (by omega) ?_ | refine Branch.df (by omega) ?_ | refine Branch.t rfl ?_ | refine Branch.f rfl ?_ | refine Branch.t (by assumption) ?_ | refine Branch.f (by assumption) ?_ | refine Branch.d (fun _ => ?_) (fun _ => ?_) | refine Branch.mk (fun _ => ?_) (fun _ => ?_) | refine Need.mk (by first | omega | decide | rfl) ?_ | refine Idx.nat (by omega) ?_ | refine Idx.auto (by first | omega | decide) (by first | omega | decide) ?_ | refine Cell.ro rfl ?_ | refine SDraw.all (by kernel_rfl) ?_ | refine Kept.k0 ?_ | refine Kept.k1 ?_ | refine Kept.k2 ?_ | refine Kept.k3 ?_ | refine Kept.k4 ?_))
  | false =>
    rw [if_neg (by decide)] at hK
    have e1 : (if n < 0 then (0 : Int) else n) = (n.toNat : Int) := by split <;> omega
    have e2 : (if (8 : Int) < (n.toNat : Int) then (8 : Int) else (n.toNat : Int)) = ((min n.toNat 8 : Nat) : Int) := by split <;> omega
    repeat' ((conv => whnf); (first | refine Branch.f rfl ?_ | refine RawV.max2 rfl e1 ?_ | refine RawV.min2 rfl e2 ?_ | exact Keep.d1 hK | refine New.mk (fun _ => ?_) | refine Look.at0 ?_ | refine Cell.row ?_ | refine Cell.buf ?_ | refine Cells.row rfl ?_ | refine Put.row rfl ?_ | refine Put.buf rfl ?_ | refine Look.at1 ?_ | refine Look.at2 ?_ | refine Look.at3 ?_ | refine Look.at4 ?_ | refine Look.at5 ?_ | refine Look.at6 ?_ | refine Look.at7 ?_ | refine Look.at8 ?_ | with_reducible refine Val.i64 (by omega) (by omega) ?_ | with_reducible refine Val.u8 (by omega) (by omega) ?_ | with_reducible refine Val.u32 (by omega) (by omega) ?_ | with_reducible refine Val.u64 (by omega) (by omega) ?_ | with_reducible refine Val.u8m ?_ | with_reducible refine Val.u32m ?_ | with_reducible refine Val.u64m ?_ | with_reducible refine Val.shr8 ?_ | with_reducible refine Val.shr16 (by decide) ?_ | with_reducible refine Val.shr24 (by decide) ?_ | with_reducible refine Val.raw ?_ | refine Branch.not ?_ | refine Branch.and ?_ | refine Branch.or ?_ | refine Branch.dt (by assumption) ?_ | refine Branch.df (by assumption) ?_ | refine Branch.dt rfl ?_ | refine Branch.dt (by omega) ?_ | refine Branch.df (by omega) ?_ | refine Branch.t rfl ?_ | refine Branch.f rfl ?_ | refine Branch.t (by assumption) ?_ | refine Branch.f (by assumption) ?_ | refine Branch.d (fun _ => ?_) (fun _ => ?_) | refine Branch.mk (fun _ => ?_) (fun _ => ?_) | refine Need.mk (by first | omega | decide | rfl) ?_ | refine Idx.nat (by omega) ?_ | refine Idx.auto (by first | omega | decide) (by first | omega | decide) ?_ | refine Cell.ro rfl ?_ | refine SDraw.all (by kernel_rfl) ?_ | refine Kept.k0 ?_ | refine Kept.k1 ?_ | refine Kept.k2 ?_ | refine Kept.k3 ?_ | refine Kept.k4 ?_))
theorem nine {k : Nat} (h : k ≤ 8) : k = 0 ∨ k = 1 ∨ k = 2 ∨ k = 3 ∨ k = 4 ∨ k = 5 ∨ k = 6 ∨ k = 7 ∨ k = 8 := by omega
end
theorem zs_self (f : Fm) (m : Nat) : zs f m m = f := by
  obtain ⟨id, x, rm, n, d0, d1, d2, d3, d4, d5, d6, d7⟩ := f
  unfold zs
  dsimp only
  congr 1 <;> exact if_neg (by omega)
theorem zs_set (f : Fm) {m k : Nat} (hm : m ≤ k) (hk : k < 8) : frC (zs f m (k + 1)) = (frC (zs f m k)).set (4 + k) (.int .u8 0) := by
  obtain ⟨id, x, rm, n, d0, d1, d2, d3, d4, d5, d6, d7⟩ := f
  rcases nine (by omega : k ≤ 8) with rfl | rfl | rfl | rfl | rfl | rfl | rfl | rfl | rfl
  all_goals first | (exfalso; omega) | (simp [zs, hm]; done)
theorem set_cut {α : Type} {l : List α} {o : Nat} {v : α} (h : o < l.length) : l.take o ++ [v] ++ l.drop (o + 1) = l.set o v := by
  rw [List.set_eq_take_append_cons_drop, if_pos h]; simp
def fb (b : Bool) : UInt8 := if b then 49 else 48
def fldB (id : Nat) (x r : Bool) : List UInt8 := if x then numB 11 (id / 2 ^ 18) ++ [49, 49] ++ numB 18 (id % 2 ^ 18) ++ [fb r] else numB 11 id ++ [fb r] ++ [48]
/-- A frame's arbitration field, and what is wrong with the frame. -/
def fld (f : Fm) : List UInt8 := fldB f.id f.x f.r
def fV (f : Fm) : List UInt8 × Int := if okF f then (fld f, 0) else ([], 1)
theorem bt89 : BT 51 0 := by unfold BT; kernel_rfl
theorem fldB_len (id : Nat) (x r : Bool) : (fldB id x r).length ≤ 32 := by
  unfold fldB
  split <;> simp [numB_len]
section
variable {K : Value → Heap → Prop} {H : Heap}
theorem c17 {T r w : Nat} {bs : List UInt8} {N : Heap} {n : Nat} (hT : BT T 0) (hD : Db H) (hN : Bld T r [] bs N) (hn : n < 2 ^ 64) (hl : bs.length + (numV n w).1.length ≤ 140737488355328) (hK : ∀ N', Bld T r [] (bs ++ (numV n w).1) N' → K (.tuple ⟨[]⟩) (N' ++ H)) :
    SCalls Tryd.prog 17 [ptr r, .int .u64 (n : Int), .int .i64 (w : Int)] (N ++ H) K := by
  refine enter17 ?_
  have h53 : ∀ K2 : Value → Heap → Prop, (∀ N', Bld T r [] (bs ++ (numV n w).1) N' → K2 (.tuple ⟨[.int .i64 ((numV n w).1.length : Int), .nilIface]⟩) (N' ++ H)) → SCalls Tryd.prog 27 [ptr r, .string (strOf (numV n w).1)] (N ++ H) K2 :=
    fun K2 hk => SCalls.midH [] H (c27 (pre := []) (T := T) hT hN hl (fun N' h => hk N' h))
  have hD' : Db (N ++ H) := hD.mono fun p hp => List.mem_append_right _ hp
  clear hN hD
  repeat' ((conv => whnf); (first | refine c28 hD' hn ?_ | with_reducible refine h53 _ (fun N' hN' => ?_) | exact Keep.all (hK _ hN') | refine New.mk (fun _ => ?_) | refine Look.at0 ?_ | refine Cell.row ?_ | refine Cell.buf ?_ | refine Cells.row rfl ?_ | refine Put.row rfl ?_ | refine Put.buf rfl ?_ | refine Look.at1 ?_ | refine Look.at2 ?_ | refine Look.at3 ?_ | refine Look.at4 ?_ | refine Look.at5 ?_ | refine Look.at6 ?_ | refine Look.at7 ?_ | refine Look.at8 ?_ | with_reducible refine Val.i64 (by omega) (by omega) ?_ | with_reducible refine Val.u8 (by omega) (by omega) ?_ | with_reducible refine Val.u32 (by omega) (by omega) ?_ | with_reducible refine Val.u64 (by omega) (by omega) ?_ | with_reducible refine Val.u8m ?_ | with_reducible refine Val.u32m ?_ | with_reducible refine Val.u64m ?_ | with_reducible refine Val.shr8 ?_ | with_reducible refine Val.shr16 (by decide) ?_ | with_reducible refine Val.shr24 (by decide) ?_ | with_reducible refine Val.raw ?_ | refine Branch.not ?_ | refine Branch.and ?_ | refine Branch.or ?_ | refine Branch.dt (by assumption) ?_ | refine Branch.df (by assumption) ?_ | refine Branch.dt rfl ?_ | refine Branch.dt (by omega) ?_ | refine Branch.df (by omega) ?_ | refine Branch.t rfl ?_ | refine Branch.f rfl ?_ | refine Branch.t (by assumption) ?_ | refine Branch.f (by assumption) ?_ | refine Branch.d (fun _ => ?_) (fun _ => ?_) | refine Branch.mk (fun _ => ?_) (fun _ => ?_) | refine Need.mk (by first | omega | decide | rfl) ?_ | refine Idx.nat (by omega) ?_ | refine Idx.auto (by first | omega | decide) (by first | omega | decide) ?_ | refine Cell.ro rfl ?_ | refine SDraw.all (by kernel_rfl) ?_ | refine Kept.k0 ?_ | refine Kept.k1 ?_ | refine Kept.k2 ?_ | refine Kept.k3 ?_ | refine Kept.k4 ?_))
theorem c15 {T r : Nat} {b : Bool} {bs : List UInt8} {N : Heap} (hT : BT T 0) (hD : Db H) (hN : Bld T r [] bs N) (hl : bs.length ≤ 1000) (hK : ∀ N', Bld T r [] (bs ++ [fb b]) N' → K (.tuple ⟨[]⟩) (N' ++ H)) :
    SCalls Tryd.prog 15 [ptr r, .bool b] (N ++ H) K := by
  refine enter15 ?_
  cases b with
  | true =>
    have h52 : ∀ K2 : Value → Heap → Prop, (∀ N', Bld T r [] (bs ++ [49]) N' → K2 (.tuple ⟨[]⟩) (N' ++ H)) → SCalls Tryd.prog 17 [ptr r, .int .u64 1, .int .i64 1] (N ++ H) K2 :=
      fun K2 hk => c17 (K := K2) (w := 1) (n := 1) hT hD hN (by decide) (by show bs.length + 1 ≤ _; omega) hk
    have hK' : ∀ N', Bld T r [] (bs ++ [49]) N' → K (.tuple ⟨[]⟩) (N' ++ H) := hK
    clear hN hD
    repeat' ((conv => whnf); (first | refine Branch.t rfl ?_ | with_reducible refine h52 _ (fun N' hN' => ?_) | exact Keep.all (hK' _ hN') | refine New.mk (fun _ => ?_) | refine Look.at0 ?_ | refine Cell.row ?_ | refine Cell.buf ?_ | refine Cells.row rfl ?_ | refine Put.row rfl ?_ | refine Put.buf rfl ?_ | refine Look.at1 ?_ | refine Look.at2 ?_ | refine Look.at3 ?_ | refine Look.at4 ?_ | refine Look.at5 ?_ | refine Look.at6 ?_ | refine Look.at7 ?_ | refine Look.at8 ?_ | with_reducible refine Val.i64 (by omega) (by omega) ?_ | with_reducible refine Val.u8 (by omega) (by omega) ?_ | with_reducible refine Val.u32 (by omega) (by omega) ?_ | with_reducible refine Val.u64 (by omega) (by omega) ?_ | with_reducible refine Val.u8m ?_ | with_reducible refine Val.u32m ?_ | with_reducible refine Val.u64m ?_ | with_reducible refine Val.shr8 ?_ | with_reducible refine Val.shr16 (by decide) ?_ | with_reducible refine Val.shr24 (by decide) ?_ | with_reducible refine Val.raw ?_ | refine Branch.not ?_ | refine Branch.and ?_ | refine Branch.or ?_ | refine Branch.dt (by assumption) ?_ | refine Branch.df (by assumption) ?_ | refine Branch.dt rfl ?_ | refine Branch.dt (by omega) ?_ | refine Branch.df (by omega) ?_ | refine Branch.t rfl ?_ | refine Branch.f rfl ?_ | refine Branch.t (by assumption) ?_ | refine Branch.f (by assumption) ?_ | refine Branch.d (fun _ => ?_) (fun _ => ?_) | refine Branch.mk (fun _ => ?_) (fun _ => ?_) | refine Need.mk (by first | omega | decide | rfl) ?_ | refine Idx.nat (by omega) ?_ | refine Idx.auto (by first | omega | decide) (by first | omega | decide) ?_ | refine Cell.ro rfl ?_ | refine SDraw.all (by kernel_rfl) ?_ | refine Kept.k0 ?_ | refine Kept.k1 ?_ | refine Kept.k2 ?_ | refine Kept.k3 ?_ | refine Kept.k4 ?_))
  | false =>
    have h52 : ∀ K2 : Value → Heap → Prop, (∀ N', Bld T r [] (bs ++ [48]) N' → K2 (.tuple ⟨[]⟩) (N' ++ H)) → SCalls Tryd.prog 17 [ptr r, .int .u64 0, .int .i64 1] (N ++ H) K2 :=
      fun K2 hk => c17 (K := K2) (w := 1) (n := 0) hT hD hN (by decide) (by show bs.length + 1 ≤ _; omega) hk
    have hK' : ∀ N', Bld T r [] (bs ++ [48]) N' → K (.tuple ⟨[]⟩) (N' ++ H) := hK
    clear hN hD
    repeat' ((conv => whnf); (first | refine Branch.f rfl ?_ | with_reducible refine h52 _ (fun N' hN' => ?_) | exact Keep.all (hK' _ hN') | refine New.mk (fun _ => ?_) | refine Look.at0 ?_ | refine Cell.row ?_ | refine Cell.buf ?_ | refine Cells.row rfl ?_ | refine Put.row rfl ?_ | refine Put.buf rfl ?_ | refine Look.at1 ?_ | refine Look.at2 ?_ | refine Look.at3 ?_ | refine Look.at4 ?_ | refine Look.at5 ?_ | refine Look.at6 ?_ | refine Look.at7 ?_ | refine Look.at8 ?_ | with_reducible refine Val.i64 (by omega) (by omega) ?_ | with_reducible refine Val.u8 (by omega) (by omega) ?_ | with_reducible refine Val.u32 (by omega) (by omega) ?_ | with_reducible refine Val.u64 (by omega) (by omega) ?_ | with_reducible refine Val.u8m ?_ | with_reducible refine Val.u32m ?_ | with_reducible refine Val.u64m ?_ | with_reducible refine Val.shr8 ?_ | with_reducible refine Val.shr16 (by decide) ?_ | with_reducible refine Val.shr24 (by decide) ?_ | with_reducible refine Val.raw ?_ | refine Branch.not ?_ | refine Branch.and ?_ | refine Branch.or ?_ | refine Branch.dt (by assumption) ?_ | refine Branch.df (by assumption) ?_ | refine Branch.dt rfl ?_ | refine Branch.dt (by omega) ?_ | refine Branch.df (by omega) ?_ | refine Branch.t rfl ?_ | refine Branch.f rfl ?_ | refine Branch.t (by assumption) ?_ | refine Branch.f (by assumption) ?_ | refine Branch.d (fun _ => ?_) (fun _ => ?_) | refine Branch.mk (fun _ => ?_) (fun _ => ?_) | refine Need.mk (by first | omega | decide | rfl) ?_ | refine Idx.nat (by omega) ?_ | refine Idx.auto (by first | omega | decide) (by first | omega | decide) ?_ | refine Cell.ro rfl ?_ | refine SDraw.all (by kernel_rfl) ?_ | refine Kept.k0 ?_ | refine Kept.k1 ?_ | refine Kept.k2 ?_ | refine Kept.k3 ?_ | refine Kept.k4 ?_))
theorem c16 {f : Fm} {T r : Nat} {bs : List UInt8} {N : Heap} (hT : BT T 0) (hid : okF f = true) (hD : Db H) (hN : Bld T r [] bs N) (hl : bs.length ≤ 100) (hK : ∀ N', Bld T r [] (bs ++ fld f) N' → K (.tuple ⟨[]⟩) (N' ++ H)) :
    SCalls Tryd.prog 16 [ptr r, frV f] (N ++ H) K := by
  obtain ⟨id, x, rm, n, d0, d1, d2, d3, d4, d5, d6, d7⟩ := f
  unfold okF at hid
  unfold fld fldB at hK
  dsimp only [frV, frC] at hid hK ⊢
  refine enter16 ?_
  have h18 : shrI .u32 (id : Int) 18 = ((id / 2 ^ 18 : Nat) : Int) := shr_nat (k := .u32) (n := 18) (by decide)
  have big : (2 : Nat) ^ 64 = 18446744073709551616 := rfl
  cases x with
  | true =>
    simp only [Bool.and_eq_true, decide_eq_true_eq, if_true] at hid hK
    have hand : bitAnd .u32 (id : Int) 262143 = ((id % 2 ^ 18 : Nat) : Int) := bitMask_nat (k := .u32) rfl (a := id) (n := 18) (by show id < 4294967296; omega) (by decide)
    have n1 : (numV (id / 2 ^ 18) (11 : Nat)).1 = numB 11 (id / 2 ^ 18) := by
      unfold numV
      rw [if_pos ⟨by decide, by decide, by show id / 2 ^ 18 < 2 ^ 11; omega⟩]; rfl
    have n2 : (numV (id % 2 ^ 18) (18 : Nat)).1 = numB 18 (id % 2 ^ 18) := by
      unfold numV
      rw [if_pos ⟨by decide, by decide, by show id % 2 ^ 18 < 2 ^ 18; omega⟩]; rfl
    rw [← List.append_assoc, ← List.append_assoc, ← List.append_assoc] at hK
    have h1 : ∀ q (K2 : Value → Heap → Prop), (∀ N', Bld T r [] (bs ++ numB 11 (id / 2 ^ 18)) N' → K2 (.tuple ⟨[]⟩) (q :: (N' ++ H))) → SCalls Tryd.prog 17 [ptr r, .int .u64 ((id / 2 ^ 18 : Nat) : Int), .int .i64 11] (q :: (N ++ H)) K2 := by
      intro q K2 hk
      exact SCalls.under [q] (c17 (w := 11) (n := id / 2 ^ 18) hT hD hN (by omega) (by rw [n1, numB_len]; omega) (by rw [n1]; exact hk))
    have h2 : ∀ q N1 (K2 : Value → Heap → Prop), Bld T r [] (bs ++ numB 11 (id / 2 ^ 18)) N1 → (∀ N', Bld T r [] (bs ++ numB 11 (id / 2 ^ 18) ++ [49, 49]) N' → K2 (.tuple ⟨[.int .i64 2, .nilIface]⟩) (q :: (N' ++ H))) → SCalls Tryd.prog 27 [ptr r, .string ⟨#[49, 49]⟩] (q :: (N1 ++ H)) K2 :=
      fun q N1 K2 hb hk => SCalls.midH [q] H (c27 (pre := []) (T := T) (l := [49, 49]) hT hb (by rw [List.length_append, numB_len]; show bs.length + 11 + 2 ≤ _; omega) (fun N' h => hk N' h))
    have h3 : ∀ q N1 (K2 : Value → Heap → Prop), Bld T r [] (bs ++ numB 11 (id / 2 ^ 18) ++ [49, 49]) N1 → (∀ N', Bld T r [] (bs ++ numB 11 (id / 2 ^ 18) ++ [49, 49] ++ numB 18 (id % 2 ^ 18)) N' → K2 (.tuple ⟨[]⟩) (q :: (N' ++ H))) → SCalls Tryd.prog 17 [ptr r, .int .u64 ((id % 2 ^ 18 : Nat) : Int), .int .i64 18] (q :: (N1 ++ H)) K2 := by
      intro q N1 K2 hb hk
      exact SCalls.under [q] (c17 (w := 18) (n := id % 2 ^ 18) hT hD hb (by omega) (by rw [n2, List.length_append, List.length_append, numB_len, numB_len]; show bs.length + 11 + 2 + 18 ≤ _; omega) (by rw [n2]; exact hk))
    have h4 : ∀ q N1 (K2 : Value → Heap → Prop), Bld T r [] (bs ++ numB 11 (id / 2 ^ 18) ++ [49, 49] ++ numB 18 (id % 2 ^ 18)) N1 → (∀ N', Bld T r [] (bs ++ numB 11 (id / 2 ^ 18) ++ [49, 49] ++ numB 18 (id % 2 ^ 18) ++ [fb rm]) N' → K2 (.tuple ⟨[]⟩) (q :: (N' ++ H))) → SCalls Tryd.prog 15 [ptr r, .bool rm] (q :: (N1 ++ H)) K2 :=
      fun q N1 K2 hb hk => SCalls.under [q] (c15 hT hD hb (by rw [List.length_append, List.length_append, List.length_append, numB_len, numB_len]; show bs.length + 11 + 2 + 18 ≤ _; omega) hk)
    have hk : ∀ q N', Bld T r [] (bs ++ numB 11 (id / 2 ^ 18) ++ [49, 49] ++ numB 18 (id % 2 ^ 18) ++ [fb rm]) N' → Keep (q :: (N' ++ H)) fun H' => K (.tuple ⟨[]⟩) H' := fun q N' h => Keep.d1 (hK N' h)
    have hw1 : id / 2 ^ 18 < 18446744073709551616 := by omega
    have hw2 : id % 2 ^ 18 < 18446744073709551616 := by omega
    clear hN hK
    repeat' ((conv => whnf); (first | with_reducible refine Val.to _ h18 ?_ | with_reducible refine Val.to _ hand ?_ | with_reducible refine h1 _ _ (fun N1 hb1 => ?_) | with_reducible refine h2 _ _ _ hb1 (fun N2 hb2 => ?_) | with_reducible refine h3 _ _ _ hb2 (fun N3 hb3 => ?_) | with_reducible refine h4 _ _ _ hb3 (fun N4 hb4 => ?_) | refine Branch.t rfl ?_ | exact hk _ _ hb4 | refine New.mk (fun _ => ?_) | refine Look.at0 ?_ | refine Cell.row ?_ | refine Cell.buf ?_ | refine Cells.row rfl ?_ | refine Put.row rfl ?_ | refine Put.buf rfl ?_ | refine Look.at1 ?_ | refine Look.at2 ?_ | refine Look.at3 ?_ | refine Look.at4 ?_ | refine Look.at5 ?_ | refine Look.at6 ?_ | refine Look.at7 ?_ | refine Look.at8 ?_ | with_reducible refine Val.i64 (by omega) (by omega) ?_ | with_reducible refine Val.u8 (by omega) (by omega) ?_ | with_reducible refine Val.u32 (by omega) (by omega) ?_ | with_reducible refine Val.u64 (by omega) (by omega) ?_ | with_reducible refine Val.u8m ?_ | with_reducible refine Val.u32m ?_ | with_reducible refine Val.u64m ?_ | with_reducible refine Val.shr8 ?_ | with_reducible refine Val.shr16 (by decide) ?_ | with_reducible refine Val.shr24 (by decide) ?_ | with_reducible refine Val.raw ?_ | refine Branch.not ?_ | refine Branch.and ?_ | refine Branch.or ?_ | refine Branch.dt (by assumption) ?_ | refine Branch.df (by assumption) ?_ | refine Branch.dt rfl ?_ | refine Branch.dt (by omega) ?_ | refine Branch.df (by omega) ?_ | refine Branch.t rfl ?_ | refine Branch.f rfl ?_ | refine Branch.t (by assumption) ?_ | refine Branch.f (by assumption) ?_ | refine Branch.d (fun _ => ?_) (fun _ => ?_) | refine Branch.mk (fun _ => ?_) (fun _ => ?_) | refine Need.mk (by first | omega | decide | rfl) ?_ | refine Idx.nat (by omega) ?_ | refine Idx.auto (by first | omega | decide) (by first | omega | decide) ?_ | refine Cell.ro rfl ?_ | refine SDraw.all (by kernel_rfl) ?_ | refine Kept.k0 ?_ | refine Kept.k1 ?_ | refine Kept.k2 ?_ | refine Kept.k3 ?_ | refine Kept.k4 ?_))
  | false =>
    simp only [Bool.and_eq_true, decide_eq_true_eq, Bool.false_eq_true, if_false] at hid hK
    have n1 : (numV id (11 : Nat)).1 = numB 11 id := by
      unfold numV
      rw [if_pos ⟨by decide, by decide, by show id < 2 ^ 11; omega⟩]; rfl
    rw [← List.append_assoc, ← List.append_assoc] at hK
    have h1 : ∀ q (K2 : Value → Heap → Prop), (∀ N', Bld T r [] (bs ++ numB 11 id) N' → K2 (.tuple ⟨[]⟩) (q :: (N' ++ H))) → SCalls Tryd.prog 17 [ptr r, .int .u64 (id : Int), .int .i64 11] (q :: (N ++ H)) K2 := by
      intro q K2 hk
      exact SCalls.under [q] (c17 (w := 11) (n := id) hT hD hN (by omega) (by rw [n1, numB_len]; omega) (by rw [n1]; exact hk))
    have h2 : ∀ q N1 (K2 : Value → Heap → Prop), Bld T r [] (bs ++ numB 11 id) N1 → (∀ N', Bld T r [] (bs ++ numB 11 id ++ [fb rm]) N' → K2 (.tuple ⟨[]⟩) (q :: (N' ++ H))) → SCalls Tryd.prog 15 [ptr r, .bool rm] (q :: (N1 ++ H)) K2 :=
      fun q N1 K2 hb hk => SCalls.under [q] (c15 hT hD hb (by rw [List.length_append, numB_len]; omega) hk)
    have h3 : ∀ q N1 (K2 : Value → Heap → Prop), Bld T r [] (bs ++ numB 11 id ++ [fb rm]) N1 → (∀ N', Bld T r [] (bs ++ numB 11 id ++ [fb rm] ++ [48]) N' → K2 (.tuple ⟨[]⟩) (q :: (N' ++ H))) → SCalls Tryd.prog 15 [ptr r, .bool false] (q :: (N1 ++ H)) K2 :=
      fun q N1 K2 hb hk => SCalls.under [q] (c15 (b := false) hT hD hb (by rw [List.length_append, List.length_append, numB_len]; show bs.length + 11 + 1 ≤ _; omega) hk)
    have hk : ∀ q N', Bld T r [] (bs ++ numB 11 id ++ [fb rm] ++ [48]) N' → Keep (q :: (N' ++ H)) fun H' => K (.tuple ⟨[]⟩) H' := fun q N' h => Keep.d1 (hK N' h)
    clear hN hK
    repeat' ((conv => whnf); (first | with_reducible refine h1 _ _ (fun N1 hb1 => ?_) | with_reducible refine h2 _ _ _ hb1 (fun N2 hb2 => ?_) | with_reducible refine h3 _ _ _ hb2 (fun N3 hb3 => ?_) | refine Branch.f rfl ?_ | exact hk _ _ hb3 | refine New.mk (fun _ => ?_) | refine Look.at0 ?_ | refine Cell.row ?_ | refine Cell.buf ?_ | refine Cells.row rfl ?_ | refine Put.row rfl ?_ | refine Put.buf rfl ?_ | refine Look.at1 ?_ | refine Look.at2 ?_ | refine Look.at3 ?_ | refine Look.at4 ?_ | refine Look.at5 ?_ | refine Look.at6 ?_ | refine Look.at7 ?_ | refine Look.at8 ?_ | with_reducible refine Val.i64 (by omega) (by omega) ?_ | with_reducible refine Val.u8 (by omega) (by omega) ?_ | with_reducible refine Val.u32 (by omega) (by omega) ?_ | with_reducible refine Val.u64 (by omega) (by omega) ?_ | with_reducible refine Val.u8m ?_ | with_reducible refine Val.u32m ?_ | with_reducible refine Val.u64m ?_ | with_reducible refine Val.shr8 ?_ | with_reducible refine Val.shr16 (by decide) ?_ | with_reducible refine Val.shr24 (by decide) ?_ | with_reducible refine Val.raw ?_ | refine Branch.not ?_ | refine Branch.and ?_ | refine Branch.or ?_ | refine Branch.dt (by assumption) ?_ | refine Branch.df (by assumption) ?_ | refine Branch.dt rfl ?_ | refine Branch.dt (by omega) ?_ | refine Branch.df (by omega) ?_ | refine Branch.t rfl ?_ | refine Branch.f rfl ?_ | refine Branch.t (by assumption) ?_ | refine Branch.f (by assumption) ?_ | refine Branch.d (fun _ => ?_) (fun _ => ?_) | refine Branch.mk (fun _ => ?_) (fun _ => ?_) | refine Need.mk (by first | omega | decide | rfl) ?_ | refine Idx.nat (by omega) ?_ | refine Idx.auto (by first | omega | decide) (by first | omega | decide) ?_ | refine Cell.ro rfl ?_ | refine SDraw.all (by kernel_rfl) ?_ | refine Kept.k0 ?_ | refine Kept.k1 ?_ | refine Kept.k2 ?_ | refine Kept.k3 ?_ | refine Kept.k4 ?_))
end
abbrev tlt (a b : List UInt8) : Bool := Op.bytesLess a b
theorem strLt_of (a b : List UInt8) : strLt (strOf a) (strOf b) = tlt a b := by
  unfold strLt
  rw [ByteArray.toList_eq, ByteArray.toList_eq]; rfl
theorem strGt_of (a b : List UInt8) : (!(strLt (strOf a) (strOf b) || decide (strOf a = strOf b))) = tlt b a := by
  rw [strLt_of, strOf_eq]
  cases h : tlt a b with
  | true =>
    have : tlt b a = false := Hp.bl_asym h
    rw [this]; rfl
  | false =>
    by_cases e : a = b
    · subst e
      rw [show tlt a a = false from Hp.bl_irr a]; simp
    · rw [decide_eq_false e]
      cases h2 : tlt b a with
      | true => rfl
      | false => exact absurd (Hp.bl_tri _ _ h h2) e
theorem list_at {α : Type} {L : List α} {j : Nat} (hlt : j < L.length) : ∃ x, L[j]? = some x ∧ L.drop j = x :: L.drop (j + 1) ∧ L.take (j + 1) = L.take j ++ [x] :=
  ⟨L[j], List.getElem?_eq_getElem hlt, List.drop_eq_getElem_cons hlt, List.take_succ_eq_append_getElem hlt⟩
theorem inS_at {α : Type} {f : α → List Value} {k : Nat} {sv : Value} {H : Heap} {L : List α} (h : InS f k sv H L) (hk : ∀ x, (f x).length = k) {j : Nat} {x : α} (hj : L[j]? = some x) :
    ∃ r o c b, sv = .slice (some ⟨r, o, none⟩) L.length c ∧ (r, b) ∈ H ∧ ∀ i v, (f x)[i]? = some v → b.cell (o + j * k + i) = some v := by
  obtain ⟨a, c, rfl, h1, h2⟩ := h
  rcases h2 with rfl | ⟨r, o, b, rfl, hm, hc⟩
  · simp at hj
  · exact ⟨r, o, c, b, rfl, hm, fun i v hv => hc j x i v hj hv (by rw [← hk x]; exact (List.getElem?_eq_some_iff.1 hv).1)⟩
def cmpS (a b : List UInt8) : Int := if tlt a b then -1 else if tlt b a then 1 else 0
section
variable {K : Value → Heap → Prop} {H : Heap}
end

/-- A slice that is only read, with room behind it or none. -/
def Sl {α : Type} (f : α → List Value) (k : Nat) (sv : Value) (H : Heap) (L : List α) : Prop := ∃ a c, sv = .slice a L.length c ∧ L.length ≤ c ∧ (a = none ∨ ∃ r o, a = some ⟨r, o, none⟩) ∧ InS f k sv H L
section
variable {α : Type} {f : α → List Value} {k e : Nat} {H H' : Heap} {sv : Value} {L L1 : List α}
theorem Sl.mono (h : Sl f k sv H L) (hs : ∀ z ∈ H, z ∈ H') : Sl f k sv H' L := by
  obtain ⟨a, c, h1, h2, h4, h3⟩ := h
  exact ⟨a, c, h1, h2, h4, h3.mono hs⟩
theorem Sl.nil : Sl f k (.slice none 0 0) H ([] : List α) := ⟨none, 0, rfl, Nat.le_refl _, .inl rfl, InS.nil⟩
theorem Sl.buf {q c N : Nat} (hk : ∀ x, (f x).length = k) (h1 : L.length ≤ c) (h2 : c ≤ maxLen) (hm : (q, .buf e (L.flatMap f) N) ∈ H) : Sl f k (.slice (some ⟨q, 0, none⟩) L.length c) H L :=
  ⟨_, c, rfl, h1, .inr ⟨_, _, rfl⟩, InS.buf hm rfl hk (Nat.le_trans h1 h2)⟩
theorem Sl.take {a : Option Addr} {c n : Nat} (h : Sl f k (.slice a L.length c) H L) (hn : n ≤ L.length) : InS f k (.slice a n c) H (L.take n) ∧ (L.take n).length = n := by
  obtain ⟨a', c', e1, h2, _, h3⟩ := h
  have hl : (L.take n).length = n := by simp; omega
  refine ⟨?_, hl⟩
  obtain ⟨a2, c2, e2, hml, h4⟩ := h3
  injection e2 with e2 _ e3
  subst e2 e3
  refine ⟨a, c, by rw [hl], by omega, ?_⟩
  rcases h4 with rfl | ⟨r, o, b, h5, h6, h7⟩
  · exact .inl (by simp)
  · refine .inr ⟨r, o, b, h5, h6, fun j x i v hj hv hi => h7 j x i v ?_ hv hi⟩
    rw [List.getElem?_take] at hj
    split at hj
    · exact hj
    · cases hj
/-- From n on. -/
theorem Sl.drop {a : Option Addr} {c n : Nat} (h : Sl f k (.slice a L.length c) H L) (hn : n ≤ L.length) :
    (c = n → Sl f k (.slice a (L.length - n) (c - n)) H (L.drop n)) ∧ ∀ r o, a = some ⟨r, o, none⟩ → Sl f k (.slice (some ⟨r, o + n * k, none⟩) (L.length - n) (c - n)) H (L.drop n) := by
  obtain ⟨a', c', e1, h2, h8, h3⟩ := h
  injection e1 with e1 _ e3
  subst e1 e3
  have hl : (L.drop n).length = L.length - n := by simp
  obtain ⟨a2, c2, e2, hml, h4⟩ := h3
  injection e2 with e2 _ e3
  subst e2 e3
  refine ⟨fun hc => ⟨a, c - n, by rw [hl], by omega, h8, ⟨a, c - n, by rw [hl], by omega, .inl (List.drop_eq_nil_of_le (by omega))⟩⟩, fun r o ha => ⟨_, c - n, by rw [hl], by omega, .inr ⟨_, _, rfl⟩, ⟨_, c - n, by rw [hl], by omega, ?_⟩⟩⟩
  rcases h4 with rfl | ⟨r', o', b, h5, h6, h7⟩
  · exact .inl (by simp)
  · rw [ha] at h5
    injection h5 with h5
    injection h5 with h5 h8
    subst h5 h8
    refine .inr ⟨r, o + n * k, b, rfl, h6, fun j x i v hj hv hi => ?_⟩
    have := h7 (n + j) x i v (by rw [List.getElem?_drop] at hj; exact hj) hv hi
    rw [Nat.add_mul] at this
    rw [show o + n * k + j * k + i = o + (n * k + j * k) + i by omega]
    exact this
theorem Sl.cases {a : Option Addr} {c : Nat} (h : Sl f k (.slice a L.length c) H L) : L.length ≤ c ∧ InS f k (.slice a L.length c) H L ∧ (a = none ∧ L = [] ∨ ∃ r o, a = some ⟨r, o, none⟩) := by
  obtain ⟨a', c', e1, h2, h8, h3⟩ := h
  injection e1 with e1 _ e3
  subst e1 e3
  refine ⟨h2, h3, ?_⟩
  rcases h8 with rfl | h8
  · obtain ⟨a2, c2, e2, _, h4⟩ := h3
    injection e2 with e2 _ _
    subst e2
    rcases h4 with h4 | ⟨_, _, _, h4, _⟩
    · exact .inl ⟨rfl, h4⟩
    · cases h4
  · exact .inr h8
/-- A slice behind a buffer of the call's own. -/
theorem RawV.appS {P : Program} {o : Oper} {t bytes q c : Nat} {xs xx : Operand} {B : Heap} {K : Value → Heap → Prop} {L2 : List α} (hin : InS f k sv B L2) (h1 : L1.length ≤ c) (h2 : c ≤ maxLen) (ho : o.op = .call { callee := .builtin .append, args := #[xs, xx], argTypes := #[t, t] }) (ht : tyOk P t e k bytes = true)
    (hk0 : 0 < k) (hk : ∀ x, (f x).length = k) (h3 : ∀ x, ∀ u ∈ f x, u.oneCell' = true) (h63 : (L1 ++ L2).length ≤ maxLen) (hb : (L1 ++ L2).length * bytes ≤ 140737488355328)
    (h : ∀ q' c', (L1 ++ L2).length ≤ c' → c' ≤ maxLen → K (.slice (some ⟨q', 0, none⟩) (L1 ++ L2).length c') ((q', .buf e ((L1 ++ L2).flatMap f) (c' * k)) :: B)) :
    RawV P o [.slice (some ⟨q, 0, none⟩) L1.length c, sv] ((q, .buf e (L1.flatMap f) (c * k)) :: B) K := by
  obtain ⟨a, c2, rfl, hml, h4⟩ := hin
  rcases h4 with rfl | ⟨r, o', b, rfl, hm, hc⟩
  · have := h q c (by simpa using h1) h2
    rw [List.append_nil] at this
    exact RawV.appE ho ht h1 this
  · have hl : (L2.flatMap f).length = L2.length * k := flat_len hk L2
    have hcc : ∀ (j : Nat) v, (L2.flatMap f)[j]? = some v → b.cell (o' + j) = some v := fun j v hv => by
      obtain ⟨j', i, x, rfl, hi, hj, hv⟩ := flat_inv hk hv
      have := hc j' x i v hj hv hi
      rwa [Nat.add_assoc] at this
    rw [List.length_append] at h63 hb h
    refine RawV.appT (A := []) ho ht hk0 (flat_len hk L1) rfl h1 h2 (.tail _ hm) hl hcc (fun u hu => ?_) h63 hb (fun q' c' k1 k2 => ?_)
    · obtain ⟨x, _, hx⟩ := List.mem_flatMap.1 hu
      exact h3 x u hx
    · have := h q' c' k1 k2
      rw [List.flatMap_append] at this
      exact this
end

abbrev i64 (n : Nat) : Value := .int .i64 (n : Int)
theorem frC_len (f : Fm) : (frC f).length = 12 := rfl
theorem frC_one (f : Fm) : ∀ u ∈ frC f, u.oneCell' = true := by
  intro u hu
  simp only [frC, List.mem_cons, List.not_mem_nil, or_false] at hu
  rcases hu with rfl | rfl | rfl | rfl | rfl | rfl | rfl | rfl | rfl | rfl | rfl | rfl <;> rfl

end Go.Proofs.YtiaginlnapiijaaDoor

/- Ported (port.py) from WrD. -/
set_option linter.unusedVariables false
set_option linter.unusedSimpArgs false
set_option maxRecDepth 100000
set_option maxHeartbeats 4000000
namespace Go.Proofs.YtiaginlnapiijaaDoor
open Sx
/-- A frame's bytes; its head; its body; its bits. -/
def dB (f : Fm) : List UInt8 := [f.d0, f.d1, f.d2, f.d3, f.d4, f.d5, f.d6, f.d7]
def hdB (f : Fm) : List UInt8 := [48] ++ fld f ++ [48] ++ (if f.x then [48] else []) ++ numB 4 f.n.toNat
def datB (f : Fm) (k : Nat) : List UInt8 := ((dB f).take k).flatMap fun b => numB 8 b.toNat
def sumB (f : Fm) : List UInt8 := hdB f ++ datB f (nb f)
def bodyB (f : Fm) : List UInt8 := sumB f ++ numB 15 (crc (sumB f))
def encB (f : Fm) (ack : Bool) : List UInt8 := (stf (bodyB f)).out ++ [49, fb (!ack)] ++ List.replicate 8 49
def encN (f : Fm) : Nat := (stf (bodyB f)).out.length + 10
theorem encB_len (f : Fm) (ack : Bool) : (encB f ack).length = encN f := by
  unfold encB encN
  simp
theorem fb_ok (b : Bool) : isB (fb b) = true := by cases b <;> rfl
theorem fld_ok (f : Fm) : ∀ b ∈ fld f, isB b = true := by
  unfold fld fldB
  intro b hb
  split at hb
  · simp only [List.mem_append, List.mem_cons, List.not_mem_nil, or_false] at hb
    rcases hb with ((h | rfl | rfl) | h) | rfl
    · exact numB_ok _ _ _ h
    · rfl
    · rfl
    · exact numB_ok _ _ _ h
    · exact fb_ok _
  · simp only [List.mem_append, List.mem_cons, List.not_mem_nil, or_false] at hb
    rcases hb with (h | rfl) | rfl
    · exact numB_ok _ _ _ h
    · exact fb_ok _
    · rfl
theorem hdB_ok (f : Fm) : ∀ b ∈ hdB f, isB b = true := by
  unfold hdB
  intro b hb
  simp only [List.mem_append, List.mem_cons, List.not_mem_nil, or_false] at hb
  rcases hb with (((rfl | h) | rfl) | h) | h
  · rfl
  · exact fld_ok _ _ h
  · rfl
  · split at h
    · simp only [List.mem_cons, List.not_mem_nil, or_false] at h
      subst h; rfl
    · cases h
  · exact numB_ok _ _ _ h
theorem hdB_len (f : Fm) : (hdB f).length ≤ 39 := by
  have := fldB_len f.id f.x f.r
  unfold hdB fld
  simp only [List.length_append, numB_len, List.length_cons, List.length_nil]
  split <;> simp <;> omega
theorem datB_len (f : Fm) {k : Nat} (hk : k ≤ 8) : (datB f k).length = 8 * k := by
  unfold datB
  rw [List.length_flatMap]
  have : ∀ l : List UInt8, (l.map fun b => (numB 8 b.toNat).length).sum = 8 * l.length := by
    intro l
    induction l with
    | nil => rfl
    | cons b l ih => rw [List.map_cons, List.sum_cons, ih, numB_len, List.length_cons]; omega
  rw [this, List.length_take]
  show 8 * min k 8 = _
  omega
theorem datB_ok (f : Fm) (k : Nat) : ∀ b ∈ datB f k, isB b = true := by
  unfold datB
  intro b hb
  obtain ⟨c, _, h⟩ := List.mem_flatMap.1 hb
  exact numB_ok _ _ _ h
theorem sumB_ok (f : Fm) : ∀ b ∈ sumB f, isB b = true := by
  intro b hb
  rcases List.mem_append.1 hb with h | h
  · exact hdB_ok _ _ h
  · exact datB_ok _ _ _ h
theorem sumB_len (f : Fm) : (sumB f).length ≤ 103 := by
  have h1 := hdB_len f
  have h2 := datB_len f (nb_le f)
  have h3 := nb_le f
  unfold sumB
  rw [List.length_append]; omega
theorem chk_ok {l : List UInt8} (h1 : l.length ≤ 65536) (h2 : ∀ b ∈ l, isB b = true) : chk l = 0 := by
  unfold chk
  rw [if_neg (by omega), if_pos (List.all_eq_true.2 h2)]
theorem sumB_chk (f : Fm) : chk (sumB f) = 0 := chk_ok (by have := sumB_len f; omega) (sumB_ok f)
theorem bodyB_len (f : Fm) : (bodyB f).length ≤ 118 := by
  have h1 := sumB_len f
  unfold bodyB
  rw [List.length_append, numB_len]; omega
theorem bodyB_chk (f : Fm) : chk (bodyB f) = 0 := chk_ok (by have := bodyB_len f; omega) (by
  intro b hb
  rcases List.mem_append.1 hb with h | h
  · exact sumB_ok _ _ h
  · exact numB_ok _ _ _ h)
theorem encN_lt (f : Fm) : 10 ≤ encN f ∧ encN f ≤ 246 := by
  have h1 := bodyB_len f
  have h2 := (St.ok (bodyB f)).2.1
  unfold encN
  omega
/-- The first of several fields. -/
def bstN (fs : List (List UInt8)) : Nat → Nat
  | 0 => 0
  | k + 1 => if tlt (fs.getD k []) (fs.getD (bstN fs k) []) then k else bstN fs k
theorem bstN_lt (fs : List (List UInt8)) : ∀ k, bstN fs k ≤ k - 1 ∧ (bstN fs k < k ∨ k = 0) := by
  intro k
  induction k with
  | zero => exact ⟨Nat.le_refl _, .inr rfl⟩
  | succ k ih =>
    unfold bstN
    split
    · omega
    · omega
/-- What comes first of several frames, or what is wrong with them. -/
def firstV (l : List Fm) : Nat × Int :=
  if l = [] then (0, 3) else if l.all okF = false then (0, 1) else if (l.map fld).Nodup then (bstN (l.map fld) l.length, 0) else (0, 5)
/-- A node in a round. -/
structure Sn where
  (up sends : Bool) (f : Fm)
abbrev snC (s : Sn) : List Value := [.bool s.up, .bool s.sends, .int .u32 (s.f.id : Int), .bool s.f.x, .bool s.f.r, .int .i64 s.f.n, b8 s.f.d0, b8 s.f.d1, b8 s.f.d2, b8 s.f.d3, b8 s.f.d4, b8 s.f.d5, b8 s.f.d6, b8 s.f.d7]
theorem snC_len (s : Sn) : (snC s).length = 14 := rfl
theorem snC_one (s : Sn) : ∀ u ∈ snC s, u.oneCell' = true := by
  intro u hu
  simp only [snC, List.mem_cons, List.not_mem_nil, or_false] at hu
  rcases hu with rfl | rfl | rfl | rfl | rfl | rfl | rfl | rfl | rfl | rfl | rfl | rfl | rfl | rfl <;> rfl
abbrev xC (x : Int × Int) : List Value := [.int .i64 x.1, .int .i64 x.2]
theorem xC_len (x : Int × Int) : (xC x).length = 2 := rfl
/-- What comes of a round. -/
structure Out where
  (win bits : Int) (sent : Bool) (errs : List Int) (got : List Bool)
def zOut : Out := ⟨0, 0, false, [], []⟩
def noneV (n : Nat) : Out := ⟨-1, 11, false, List.replicate n 0, List.replicate n false⟩
/-- What is wrong with flips. -/
def xBad (n : Nat) (x : Int × Int) : Bool := decide (x.1 < 0) || decide ((n : Int) ≤ x.1) || decide (x.2 < 0)
def chkX (n : Nat) (fl : List (Int × Int)) : Int := if 127 < n ∨ 65536 < fl.length then 2 else if fl.any (xBad n) then 1 else 0
/-- Those that send. -/
def cand : Nat → List Sn → List (Nat × Fm)
  | _, [] => []
  | i, s :: l => if s.up && s.sends then (i, s.f) :: cand (i + 1) l else cand (i + 1) l
def upN (l : List Sn) : Nat := l.countP (·.up)
def upAt (l : List Sn) (i : Int) : Bool := (l.map (·.up)).getD i.toNat false
/-- The first flip that counts. -/
structure Fr where
  (any : Bool) (node bit : Int) (late : Bool)
def frS (l : List Sn) (n w : Nat) (s : Fr) (x : Int × Int) : Fr :=
  if upAt l x.1 = false ∨ (n : Int) ≤ x.2 then s
  else if x.2 = (n : Int) - 1 then ⟨s.any, s.node, s.bit, s.late || decide (x.1 = (w : Int))⟩
  else if s.any = false ∨ x.2 < s.bit ∨ (x.2 = s.bit ∧ x.1 < s.node) then ⟨true, x.1, x.2, s.late⟩ else s
def frF (l : List Sn) (n w : Nat) (fl : List (Int × Int)) : Fr := fl.foldl (frS l n w) ⟨false, 0, 0, false⟩
def gotE (l : List Sn) (w : Nat) : List Bool := l.mapIdx fun i s => s.up && !decide (i = w)
def stfE (l : List Sn) : List Int := l.map fun s => if s.up then 20 else 0
def comesV (l : List Sn) (n w : Nat) (r : Fr) : Out :=
  if r.any then ⟨w, r.bit + 24, false, if (n : Int) - 10 ≤ r.bit then (stfE l).set r.node.toNat 22 else stfE l, List.replicate l.length false⟩
  else if upN l ≤ 1 then ⟨w, (n : Int) + 12, false, (List.replicate l.length 0).set w 23, List.replicate l.length false⟩
  else if r.late then ⟨w, (n : Int) + 20, false, (List.replicate l.length 0).set w 22, gotE l w⟩
  else ⟨w, (n : Int) + 3, true, List.replicate l.length 0, gotE l w⟩
/-- What comes of a round: what is wrong, whose bit was flipped first, the rest. -/
structure Rd where
  (e bt : Int) (o : Out)
def z0 : Fm := ⟨0, false, false, 0, 0, 0, 0, 0, 0, 0, 0, 0⟩
def winV (l : List Sn) (fl : List (Int × Int)) : Rd :=
  let c := cand 0 l
  if c = [] then ⟨0, -1, noneV l.length⟩
  else
    let r := firstV (c.map (·.2))
    if r.2 = 0 then
      let w := (c.getD r.1 (0, z0)).1
      let n := encN (c.getD r.1 (0, z0)).2
      let x := frF l n w fl
      ⟨0, if x.any then x.node else -1, comesV l n w x⟩
    else ⟨r.2, -1, zOut⟩
def roundV (l : List Sn) (fl : List (Int × Int)) : Rd := if chkX l.length fl = 0 then winV l fl else ⟨chkX l.length fl, -1, zOut⟩
/-- A unit. -/
structure Un where
  (s r : Nat) (off : Bool) (idle : Nat)
structure UnW (u : Un) : Prop where
  s : u.s ≤ 256
  r : u.r ≤ 255
  i : u.idle ≤ 128
def u0 : Un := ⟨0, 0, false, 0⟩
def Un.sent (u : Un) : Un := if u.off then u else ⟨u.s - 1, u.r, u.off, u.idle⟩
def Un.recv (u : Un) : Un := if u.off then u else if 127 < u.r then ⟨u.s, 120, u.off, u.idle⟩ else ⟨u.s, u.r - 1, u.off, u.idle⟩
def Un.st (u : Un) : Int := if u.off then 2 else if 127 < u.s ∨ 127 < u.r then 1 else 0
def Un.fail (u : Un) (q : Bool) : Un := if u.off ∨ (q = true ∧ u.st = 1) then u else if 255 < u.s + 8 then ⟨256, u.r, true, 0⟩ else ⟨u.s + 8, u.r, u.off, u.idle⟩
def Un.erred (u : Un) (late : Bool) : Un := if u.off then u else ⟨u.s, min (u.r + if late then 8 else 1) 255, u.off, u.idle⟩
def Un.idl (u : Un) : Un := if u.off then (if u.idle + 1 < 128 then ⟨u.s, u.r, u.off, u.idle + 1⟩ else u0) else u
/-- A node of a bus. -/
structure Nd where
  (on : Bool) (u : Un) (box : Option Fm) (inn : List Fm)
def Nd.up (x : Nd) : Bool := x.on && !x.u.off
structure NdW (x : Nd) : Prop where
  u : UnW x.u
  up : x.up = false → x.box = none
  ok : ∀ f, x.box = some f → okF f = true ∧ plF f = f
  inn : x.inn.length ≤ 64
def n0 : Nd := ⟨false, u0, none, []⟩
def fldO (x : Nd) (f : Fm) : Bool := match x.box with
  | some g => x.up && decide (fld g = fld f)
  | none => false
/-- A node as it goes into a round. -/
def snd1 (pre : List Nd) (x : Nd) : Sn := match x.box with
  | some f => ⟨x.up, x.up && !(pre.any fun y => fldO y f), f⟩
  | none => ⟨x.up, false, z0⟩
def sndN : List Nd → List Nd → List Sn
  | _, [] => []
  | pre, x :: xs => snd1 pre x :: sndN (pre ++ [x]) xs
theorem sndN_snoc (x : Nd) : ∀ (a pre : List Nd), sndN pre (a ++ [x]) = sndN pre a ++ [snd1 (pre ++ a) x]
  | [], pre => by simp [sndN]
  | y :: a, pre => by
    rw [List.cons_append, sndN, sndN, sndN_snoc x a]; simp
theorem sndN_len : ∀ (a pre : List Nd), (sndN pre a).length = a.length
  | [], _ => rfl
  | _ :: a, pre => by rw [sndN, List.length_cons, List.length_cons, sndN_len a]
/-- A bus. -/
structure Bs where
  (time : Nat) (ns : List Nd)
def boxAt (ns : List Nd) (w : Int) : Fm := if w < 0 then z0 else ((ns.getD w.toNat n0).box.getD z0)
def stl (o : Out) (bt : Int) (won : Fm) (i : Nat) (x : Nd) : Nd :=
  let u1 := if x.on then x.u.idl else x.u
  let x2 : Nd :=
    if x.up = false ∨ o.win < 0 then ⟨x.on, u1, x.box, x.inn⟩
    else if (i : Int) = o.win then (if o.sent then ⟨x.on, u1.sent, none, x.inn⟩ else ⟨x.on, u1.fail (decide (o.errs.getD i 0 = 23)), x.box, x.inn⟩)
    else if o.got.getD i false then ⟨x.on, u1.recv, x.box, if x.inn.length < 64 then x.inn ++ [won] else x.inn⟩
    else if o.errs.getD i 0 = 0 then ⟨x.on, u1, x.box, x.inn⟩
    else ⟨x.on, u1.erred (decide ((i : Int) = bt)), x.box, x.inn⟩
  ⟨x2.on, x2.u, if x2.u.off then none else x2.box, x2.inn⟩
def stlN (o : Out) (bt : Int) (ns : List Nd) : List Nd := ns.mapIdx (stl o bt (boxAt ns o.win))
def Bs.snd (s : Bs) : List Sn := sndN [] s.ns
def Bs.rd (s : Bs) (fl : List (Int × Int)) : Rd := roundV s.snd fl
def Bs.step (s : Bs) (fl : List (Int × Int)) : Bs := if (s.rd fl).e = 0 then ⟨(s.time + (s.rd fl).o.bits.toNat) % 18446744073709551616, stlN (s.rd fl).o (s.rd fl).bt s.ns⟩ else s
def Bs.is (s : Bs) (i : Int) : Prop := 0 ≤ i ∧ i < (s.ns.length : Int)
instance (s : Bs) (i : Int) : Decidable (s.is i) := by unfold Bs.is; infer_instance
def Bs.at (s : Bs) (i : Int) : Nd := s.ns.getD i.toNat n0
def Bs.put (s : Bs) (i : Int) (x : Nd) : Bs := ⟨s.time, s.ns.set i.toNat x⟩
def Bs.power (s : Bs) (i : Int) (on : Bool) : Bs × Int := if s.is i then (if (s.at i).on = on then s else s.put i ⟨on, u0, none, []⟩, 0) else (s, 1)
def Bs.submit (s : Bs) (i : Int) (f : Fm) : Bs × Int :=
  if s.is i then
    if okF f then
      if (s.at i).up then (if (s.at i).box.isSome then (s, 31) else (s.put i ⟨(s.at i).on, (s.at i).u, some (plF f), (s.at i).inn⟩, 0))
      else (s, 30)
    else (s, 1)
  else (s, 1)
def Bs.cancel (s : Bs) (i : Int) : Bs × Bool := if s.is i then (if (s.at i).box.isSome then (s.put i ⟨(s.at i).on, (s.at i).u, none, (s.at i).inn⟩, true) else (s, false)) else (s, false)
def Bs.fetch (s : Bs) (i : Int) : Bs × List Fm × Int := if s.is i then (s.put i ⟨(s.at i).on, (s.at i).u, (s.at i).box, []⟩, (s.at i).inn, 0) else (s, [], 1)
structure BsW (s : Bs) : Prop where
  n1 : 1 ≤ s.ns.length
  n2 : s.ns.length ≤ 127
  w : ∀ x ∈ s.ns, NdW x
  t : s.time < 18446744073709551616
end Go.Proofs.YtiaginlnapiijaaDoor

/- Ported (port.py) from WrE. -/
set_option linter.unusedVariables false
set_option linter.unusedSimpArgs false
set_option maxRecDepth 100000
set_option maxHeartbeats 4000000
namespace Go.Proofs.YtiaginlnapiijaaDoor
open Sx
theorem Look.app {r : Nat} {b : Blk} {N B : Heap} {K : Heap → Blk → Heap → Prop} (h : K N b B) : Look r (N ++ (r, b) :: B) K := ⟨N, b, B, rfl, h⟩
theorem okF_bd {f : Fm} (h : okF f = true) : f.id < 4294967296 ∧ 0 ≤ f.n ∧ f.n ≤ 15 := by
  unfold okF at h
  simp only [Bool.and_eq_true, decide_eq_true_eq] at h
  obtain ⟨⟨h1, h2⟩, h3⟩ := h
  refine ⟨?_, h1, h2⟩
  split at h3 <;> omega
theorem frC_dB (f : Fm) {k : Nat} {b : UInt8} (h : (dB f)[k]? = some b) : (Blk.row 33 (frC f) (0, 0)).cell (4 + k) = some (b8 b) := by
  show ([.int .u32 (f.id : Int), .bool f.x, .bool f.r, .int .i64 f.n] ++ (dB f).map b8)[4 + k]? = _
  rw [List.getElem?_append_right (by show 4 ≤ 4 + k; omega)]
  show ((dB f).map b8)[4 + k - 4]? = _
  rw [Nat.add_sub_cancel_left, List.getElem?_map, h]; rfl
theorem datB_snoc (f : Fm) {k : Nat} {b : UInt8} (h : (dB f)[k]? = some b) : datB f (k + 1) = datB f k ++ numB 8 b.toNat := by
  unfold datB
  rw [List.take_add_one, h]
  simp
theorem u8_lt (b : UInt8) : b.toNat < 256 := by have := b.toNat_lt; omega
theorem num8 (b : UInt8) : (numV b.toNat (8 : Nat)).1 = numB 8 b.toNat := by
  have := u8_lt b
  unfold numV
  rw [if_pos ⟨by decide, by decide, by show b.toNat < 2 ^ 8; omega⟩]; rfl
theorem num15 (l : List UInt8) : (numV (crc l) (15 : Nat)).1 = numB 15 (crc l) := by
  have := crc_lt l
  unfold numV
  rw [if_pos ⟨by decide, by decide, by show crc l < 2 ^ 15; omega⟩]; rfl
theorem num4 {n : Nat} (h : n ≤ 15) : (numV n (4 : Nat)).1 = numB 4 n := by
  unfold numV
  rw [if_pos ⟨by decide, by decide, by show n < 2 ^ 4; omega⟩]; rfl
inductive S7 (A1 A2 A7 A40 A41 A42 : Value) : List Value → Prop
  | mk {r0 r3 r4 r5 r6 r8 r9 r10 r11 r12 r13 r14 r15 r16 r17 r18 r19 r20 r21 r22 r23 r24 r25 r26 r27 r28 r29 r30 r31 r32 r33 r34 r35 r36 r37 r38 r39 r43 r44 r45 r46 r47 r48 r49 r50 r51 r52 r53 r54 r55 r56 r57 r58 r59 r60 r61 r62 r63 r64 r65 r66 r67 r68 r69 r70 r71 r72 r73 r74 r75 r76 r77 : Value} : S7 A1 A2 A7 A40 A41 A42 [r0, A1, A2, r3, r4, r5, r6, A7, r8, r9, r10, r11, r12, r13, r14, r15, r16, r17, r18, r19, r20, r21, r22, r23, r24, r25, r26, r27, r28, r29, r30, r31, r32, r33, r34, r35, r36, r37, r38, r39, A40, A41, A42, r43, r44, r45, r46, r47, r48, r49, r50, r51, r52, r53, r54, r55, r56, r57, r58, r59, r60, r61, r62, r63, r64, r65, r66, r67, r68, r69, r70, r71, r72, r73, r74, r75, r76, r77]
section
variable {K : Value → Heap → Prop} {H : Heap} {f : Fm} {ack : Bool}
theorem l23 {Q : Post} {S0 : List Value} {r q : Nat} {N0 : Heap} (hok : okF f = true) (hD : Db H) (hN : Bld 51 r [] (hdB f) N0) (hS : S7 (.bool ack) (ptr q) (ptr r) (.slice (some ⟨q, 4, none⟩) (nb f) 8) (.int .i64 (nb f : Int)) (.int .i64 0) S0)
    (hQ : ∀ S N, Bld 51 r [] (sumB f) N → S7 (.bool ack) (ptr q) (ptr r) (.slice (some ⟨q, 4, none⟩) (nb f) 8) (.int .i64 (nb f : Int)) (.int .i64 (nb f : Int)) S → Q (.exit 0) S (N ++ (q, .row 33 (frC f) (0, 0)) :: H)) :
    SLoop Tryd.prog X7_l0 Q S0 (N0 ++ (q, .row 33 (frC f) (0, 0)) :: H) := by
  have hD' : ∀ q : Nat × Blk, Db (q :: H) := fun q => hD.mono fun p hp => .tail _ hp
  have hnb := nb_le f
  have hlen := hdB_len f
  refine SLoop.invA (fun (k : Nat) S H' => k ≤ nb f ∧ S7 (.bool ack) (ptr q) (ptr r) (.slice (some ⟨q, 4, none⟩) (nb f) 8) (.int .i64 (nb f : Int)) (.int .i64 (k : Int)) S ∧ ∃ N, Bld 51 r [] (hdB f ++ datB f k) N ∧ H' = N ++ (q, .row 33 (frC f) (0, 0)) :: H) (fun k => nb f - k) 0 (Keep.all ⟨Nat.zero_le _, hS, N0, by simpa [datB] using hN, rfl⟩) ?_
  rintro k S H' ⟨hk, hS, N, hN, rfl⟩ R hR
  cases hS
  by_cases hlt : k < nb f
  · obtain ⟨b, hb⟩ : ∃ b, (dB f)[k]? = some b := ⟨_, List.getElem?_eq_getElem (show k < 8 by omega)⟩
    have hc := frC_dB f hb
    have hb8 := u8_lt b
    have hdl := datB_len f (k := k) (by omega)
    have h47 : ∀ (K2 : Value → Heap → Prop), (∀ N', Bld 51 r [] (hdB f ++ datB f k ++ numB 8 b.toNat) N' → K2 (.tuple ⟨[]⟩) (N' ++ (q, .row 33 (frC f) (0, 0)) :: H)) → SCalls Tryd.prog 17 [ptr r, .int .u64 (b.toNat : Int), .int .i64 8] (N ++ (q, .row 33 (frC f) (0, 0)) :: H) K2 := by
      intro K2 hk
      refine c17 (w := 8) bt89 (hD' _) hN (by omega) ?_ ?_
      · rw [num8, numB_len, List.length_append]; omega
      · rw [num8]; exact hk
    have hnext := fun S N' (h1 : Bld 51 r [] (hdB f ++ datB f k ++ numB 8 b.toNat) N') hS => hR (k + 1) S _ (by omega) (Keep.all ⟨hlt, hS, N', by rw [datB_snoc f hb, ← List.append_assoc]; exact h1, rfl⟩)
    have hm : (q, Blk.row 33 (frC f) (0, 0)) ∈ N ++ (q, Blk.row 33 (frC f) (0, 0)) :: H := List.mem_append_right _ (.head _)
    have hc' : (Blk.row 33 (frC f) (0, 0)).cell (4 + k * 1) = some (b8 b) := by rw [Nat.mul_one]; exact hc
    clear hR hQ
    repeat' ((conv => whnf); (first | refine Branch.dt (by omega) ?_ | refine Idx.nat hlt ?_ | refine Look.cell hm hc' ?_ | with_reducible refine h47 _ (fun N' hN' => ?_) | exact hnext _ _ hN' .mk | with_reducible refine Val.i64 (by omega) (by omega) ?_ | with_reducible refine Val.u64 (by omega) (by omega) ?_))
  · obtain rfl : k = nb f := by omega
    have hq := fun S => hQ S N hN
    clear hR hQ
    repeat' ((conv => whnf); (first | refine Branch.df (by omega) ?_ | exact Keep.all (hq _ .mk) | exact hq _ .mk))
theorem c7 (hok : okF f = true) (hD : Db H) (hK : K (.tuple ⟨[.string (strOf (encB f ack)), .int .i64 0]⟩) H) : SCalls Tryd.prog 7 [frV f, .bool ack] H K := by
  obtain ⟨hid, hn0, hn1⟩ := okF_bd hok
  have hD' : ∀ q : Nat × Blk, Db (q :: H) := fun q => hD.mono fun p hp => .tail _ hp
  have h40 : ∀ H (K2 : Value → Heap → Prop), K2 (.int .i64 0) H → SCalls Tryd.prog 14 [frV f] H K2 := fun H K2 hk => c14 hid (by unfold erF; rw [hok]; exact hk)
  have h48 : ∀ H (K2 : Value → Heap → Prop), K2 (.int .i64 (nb f : Int)) H → SCalls Tryd.prog 18 [frV f] H K2 := fun H K2 hk => c18 hk
  have h45a : ∀ r q (K2 : Value → Heap → Prop), (∀ N', Bld 51 r [] [48] N' → K2 (.tuple ⟨[]⟩) (N' ++ q :: H)) → SCalls Tryd.prog 15 [ptr r, .bool false] ((r, .row 51 [.pointer none, .slice none 0 0] (0, 0)) :: q :: H) K2 :=
    fun r q K2 hk => c15 (b := false) (H := q :: H) (bs := []) (N := [(r, .row 51 [.pointer none, .slice none 0 0] (0, 0))]) bt89 (hD' q) (Bld.new (T := 51) (r := r) (pre := [])) (by decide) hk
  have h45 : ∀ r q bs N1 (K2 : Value → Heap → Prop), Bld 51 r [] bs N1 → bs.length ≤ 200 → (∀ N', Bld 51 r [] (bs ++ [48]) N' → K2 (.tuple ⟨[]⟩) (N' ++ q :: H)) → SCalls Tryd.prog 15 [ptr r, .bool false] (N1 ++ q :: H) K2 :=
    fun r q bs N1 K2 hb hl hk => c15 (b := false) (H := q :: H) bt89 (hD' q) hb (by omega) hk
  have h46 : ∀ r q bs N1 (K2 : Value → Heap → Prop), Bld 51 r [] bs N1 → bs.length ≤ 100 → (∀ N', Bld 51 r [] (bs ++ fld f) N' → K2 (.tuple ⟨[]⟩) (N' ++ q :: H)) → SCalls Tryd.prog 16 [ptr r, frV f] (N1 ++ q :: H) K2 :=
    fun r q bs N1 K2 hb hl hk => c16 (H := q :: H) bt89 hok (hD' q) hb hl hk
  have h47 : ∀ (w n : Nat) (l : List UInt8) r q bs N1 (K2 : Value → Heap → Prop), Bld 51 r [] bs N1 → (numV n w).1 = l → l.length ≤ 64 → n < 2 ^ 64 → bs.length ≤ 200 → (∀ N', Bld 51 r [] (bs ++ l) N' → K2 (.tuple ⟨[]⟩) (N' ++ q :: H)) → SCalls Tryd.prog 17 [ptr r, .int .u64 (n : Int), .int .i64 (w : Int)] (N1 ++ q :: H) K2 := by
    intro w n l r q bs N1 K2 hb e hl hn hbl hk
    subst e
    exact c17 (H := q :: H) bt89 (hD' q) hb hn (by omega) hk
  have h47a : ∀ (n : Nat) (l : List UInt8) r q bs N1 (K2 : Value → Heap → Prop), Bld 51 r [] bs N1 → (numV n (4 : Nat)).1 = l → l.length ≤ 64 → n < 2 ^ 64 → bs.length ≤ 200 → (∀ N', Bld 51 r [] (bs ++ l) N' → K2 (.tuple ⟨[]⟩) (N' ++ q :: H)) → SCalls Tryd.prog 17 [ptr r, .int .u64 (n : Int), .int .i64 4] (N1 ++ q :: H) K2 := fun n l r q bs N1 K2 => h47 4 n l r q bs N1 K2
  have h47b : ∀ (n : Nat) (l : List UInt8) r q bs N1 (K2 : Value → Heap → Prop), Bld 51 r [] bs N1 → (numV n (15 : Nat)).1 = l → l.length ≤ 64 → n < 2 ^ 64 → bs.length ≤ 200 → (∀ N', Bld 51 r [] (bs ++ l) N' → K2 (.tuple ⟨[]⟩) (N' ++ q :: H)) → SCalls Tryd.prog 17 [ptr r, .int .u64 (n : Int), .int .i64 15] (N1 ++ q :: H) K2 := fun n l r q bs N1 K2 => h47 15 n l r q bs N1 K2
  have h50 : ∀ r q bs N1 (K2 : Value → Heap → Prop), Bld 51 r [] bs N1 → (∀ N', Bld 51 r [] bs N' → K2 (.string (strOf bs)) (N' ++ q :: H)) → SCalls Tryd.prog 20 [ptr r] (N1 ++ q :: H) K2 :=
    fun r q bs N1 K2 hb hk => SCalls.midH [] (q :: H) (c20 (pre := []) (T := 51) hb (fun N' hb' => hk N' hb'))
  have hcr := crc_lt (sumB f)
  have h49 : ∀ H (K2 : Value → Heap → Prop), K2 (.tuple ⟨[.int .u16 (crc (sumB f) : Int), .int .i64 0]⟩) H → SCalls Tryd.prog 19 [.string (strOf (sumB f))] H K2 := fun H K2 hk => c19 (by
    rw [sumB_chk]
    unfold crcV
    rw [if_pos (sumB_chk f)]; exact hk)
  have h51 : ∀ H (K2 : Value → Heap → Prop), K2 (.tuple ⟨[.string (strOf (stf (bodyB f)).out), .int .i64 0]⟩) H → SCalls Tryd.prog 21 [.string (strOf (sumB f ++ numB 15 (crc (sumB f))))] H K2 := fun H K2 hk => c21 (bodyB_chk f) hk
  have hnn : (f.n.toNat : Int) = f.n := Int.toNat_of_nonneg hn0
  have hn15 : f.n.toNat ≤ 15 := by omega
  have hnb := nb_le f
  have hlen := hdB_len f
  have hlen2 := sumB_len f
  have hol : (stf (bodyB f)).out.length ≤ 236 := by have := (encN_lt f).2; unfold encN at this; omega
  have hsl : ∀ (r : Nat) (o : Oper) (xx xh : Operand) (K2 : Value → Heap → Prop) (H2 : Heap), o.op = .slice 31 xx none (some xh) none → K2 (.slice (some ⟨r, 4, none⟩) (nb f) 8) H2 → RawV Tryd.prog o [.pointer (some ⟨r, 4, none⟩), .int .i64 (nb f : Int)] H2 K2 := fun r o xx xh K2 H2 ho hk =>
    RawV.sliceArrTo (n := 8) (e := 5) ho (by kernel_rfl) (by kernel_rfl) hnb (by decide) hk
  have h4 : (numV f.n.toNat (4 : Nat)).1 = numB 4 f.n.toNat := num4 hn15
  have hv4 : IntKind.u64.wrap f.n = (f.n.toNat : Int) := by rw [← hnn]; exact wrap_nat rfl (by show _ < 18446744073709551616; omega)
  have hfin : ∀ s, s = strOf (encB f ack) → ∀ (N' : Heap) q, Keep (N' ++ q :: H) fun H' => K (.tuple ⟨[.string s, .int .i64 0]⟩) H' := fun s e N' q => by
    rw [e]; exact Keep.sub _ ((List.sublist_cons_self q H).trans (List.sublist_append_right N' (q :: H))) hK
  clear hK
  refine enter7 ?_
  have h46b : (numV (crc (sumB f)) (15 : Nat)).1 = numB 15 (crc (sumB f)) := num15 _
  have hhx : ∀ q N, f.x = true → Bld 51 q [] ([48] ++ fld f ++ [48] ++ [48] ++ numB 4 f.n.toNat) N → Bld 51 q [] (hdB f) N := fun q N h hb => by
    unfold hdB
    rw [if_pos h]; simpa using hb
  have hhn : ∀ q N, f.x = false → Bld 51 q [] ([48] ++ fld f ++ [48] ++ numB 4 f.n.toNat) N → Bld 51 q [] (hdB f) N := fun q N h hb => by
    unfold hdB
    rw [h]; simpa using hb
  have hfl := fldB_len f.id f.x f.r
  have hfl' : (fld f).length ≤ 32 := hfl
  have hz : ∀ b : Bool, ack = b → strOf (stf (bodyB f)).out ++ (if b then ⟨#[49, 48]⟩ else ⟨#[49, 49]⟩) ++ ⟨#[49, 49, 49, 49, 49, 49, 49, 49]⟩ = strOf (encB f ack) := by
    intro b e
    subst e
    have : strOf (stf (bodyB f)).out ++ strOf [49, fb (!ack)] ++ strOf (List.replicate 8 49) = strOf (encB f ack) := by rw [strOf_app, strOf_app]; rfl
    cases ack <;> exact this
  cases hx : f.x with
  | true =>
    cases ack with
    | true =>
      have hz1 := hz true rfl
      clear hz
      repeat' ((conv => whnf); (first | with_reducible refine h40 _ _ ?_ | refine Branch.f rfl ?_ | with_reducible refine Look.app ?_ | with_reducible refine h45a _ _ _ (fun N1 b1 => ?_) | with_reducible refine h46 _ _ _ _ _ b1 (by decide) (fun N2 b2 => ?_) | with_reducible refine h45 _ _ _ _ _ b2 (by simp; omega) (fun N3 b3 => ?_) | refine Branch.t hx ?_ | with_reducible refine h45 _ _ _ _ _ b3 (by simp; omega) (fun N4 b4 => ?_) | with_reducible refine Val.to _ hv4 ?_ | with_reducible refine h47a _ _ _ _ _ _ _ b4 h4 (by simp [numB_len]) (by omega) (by simp; omega) (fun N5 b5 => ?_) | with_reducible refine h48 _ _ ?_ | with_reducible refine hsl _ _ _ _ _ _ rfl ?_ | (refine l23 hok hD (hhx _ _ hx b5) .mk (fun S N6 b6 hS => ?_); cases hS) | with_reducible refine h50 _ _ _ _ _ b6 (fun N7 b7 => ?_) | with_reducible refine h49 _ _ ?_ | with_reducible refine h47b _ _ _ _ _ _ _ b7 h46b (by simp [numB_len]) (by omega) (by omega) (fun N8 b8 => ?_) | with_reducible refine h50 _ _ _ _ _ b8 (fun N9 b9 => ?_) | with_reducible refine h51 _ _ ?_ | refine Branch.t rfl ?_ | refine Need.mk (by simp only [ByteArray.size_append, strOf_size]; first | (show _ + 2 + 8 ≤ _; omega) | (show _ + 2 ≤ _; omega)) ?_ | exact hfin _ hz1 _ _ | refine New.mk (fun _ => ?_) | refine Look.at0 ?_ | refine Cell.row ?_ | refine Cells.row rfl ?_ | with_reducible refine Val.u64 (by omega) (by omega) ?_))
    | false =>
      have hz1 := hz false rfl
      clear hz
      repeat' ((conv => whnf); (first | with_reducible refine h40 _ _ ?_ | refine Branch.f rfl ?_ | with_reducible refine Look.app ?_ | with_reducible refine h45a _ _ _ (fun N1 b1 => ?_) | with_reducible refine h46 _ _ _ _ _ b1 (by decide) (fun N2 b2 => ?_) | with_reducible refine h45 _ _ _ _ _ b2 (by simp; omega) (fun N3 b3 => ?_) | refine Branch.t hx ?_ | with_reducible refine h45 _ _ _ _ _ b3 (by simp; omega) (fun N4 b4 => ?_) | with_reducible refine Val.to _ hv4 ?_ | with_reducible refine h47a _ _ _ _ _ _ _ b4 h4 (by simp [numB_len]) (by omega) (by simp; omega) (fun N5 b5 => ?_) | with_reducible refine h48 _ _ ?_ | with_reducible refine hsl _ _ _ _ _ _ rfl ?_ | (refine l23 hok hD (hhx _ _ hx b5) .mk (fun S N6 b6 hS => ?_); cases hS) | with_reducible refine h50 _ _ _ _ _ b6 (fun N7 b7 => ?_) | with_reducible refine h49 _ _ ?_ | with_reducible refine h47b _ _ _ _ _ _ _ b7 h46b (by simp [numB_len]) (by omega) (by omega) (fun N8 b8 => ?_) | with_reducible refine h50 _ _ _ _ _ b8 (fun N9 b9 => ?_) | with_reducible refine h51 _ _ ?_ | refine Branch.f rfl ?_ | refine Need.mk (by simp only [ByteArray.size_append, strOf_size]; first | (show _ + 2 + 8 ≤ _; omega) | (show _ + 2 ≤ _; omega)) ?_ | exact hfin _ hz1 _ _ | refine New.mk (fun _ => ?_) | refine Look.at0 ?_ | refine Cell.row ?_ | refine Cells.row rfl ?_ | with_reducible refine Val.u64 (by omega) (by omega) ?_))
  | false =>
    cases ack with
    | true =>
      have hz1 := hz true rfl
      clear hz
      repeat' ((conv => whnf); (first | with_reducible refine h40 _ _ ?_ | refine Branch.f rfl ?_ | with_reducible refine Look.app ?_ | with_reducible refine h45a _ _ _ (fun N1 b1 => ?_) | with_reducible refine h46 _ _ _ _ _ b1 (by decide) (fun N2 b2 => ?_) | with_reducible refine h45 _ _ _ _ _ b2 (by simp; omega) (fun N3 b3 => ?_) | refine Branch.f hx ?_ | with_reducible refine Val.to _ hv4 ?_ | with_reducible refine h47a _ _ _ _ _ _ _ b3 h4 (by simp [numB_len]) (by omega) (by simp; omega) (fun N5 b5 => ?_) | with_reducible refine h48 _ _ ?_ | with_reducible refine hsl _ _ _ _ _ _ rfl ?_ | (refine l23 hok hD (hhn _ _ hx b5) .mk (fun S N6 b6 hS => ?_); cases hS) | with_reducible refine h50 _ _ _ _ _ b6 (fun N7 b7 => ?_) | with_reducible refine h49 _ _ ?_ | with_reducible refine h47b _ _ _ _ _ _ _ b7 h46b (by simp [numB_len]) (by omega) (by omega) (fun N8 b8 => ?_) | with_reducible refine h50 _ _ _ _ _ b8 (fun N9 b9 => ?_) | with_reducible refine h51 _ _ ?_ | refine Branch.t rfl ?_ | refine Need.mk (by simp only [ByteArray.size_append, strOf_size]; first | (show _ + 2 + 8 ≤ _; omega) | (show _ + 2 ≤ _; omega)) ?_ | exact hfin _ hz1 _ _ | refine New.mk (fun _ => ?_) | refine Look.at0 ?_ | refine Cell.row ?_ | refine Cells.row rfl ?_ | with_reducible refine Val.u64 (by omega) (by omega) ?_))
    | false =>
      have hz1 := hz false rfl
      clear hz
      repeat' ((conv => whnf); (first | with_reducible refine h40 _ _ ?_ | refine Branch.f rfl ?_ | with_reducible refine Look.app ?_ | with_reducible refine h45a _ _ _ (fun N1 b1 => ?_) | with_reducible refine h46 _ _ _ _ _ b1 (by decide) (fun N2 b2 => ?_) | with_reducible refine h45 _ _ _ _ _ b2 (by simp; omega) (fun N3 b3 => ?_) | refine Branch.f hx ?_ | with_reducible refine Val.to _ hv4 ?_ | with_reducible refine h47a _ _ _ _ _ _ _ b3 h4 (by simp [numB_len]) (by omega) (by simp; omega) (fun N5 b5 => ?_) | with_reducible refine h48 _ _ ?_ | with_reducible refine hsl _ _ _ _ _ _ rfl ?_ | (refine l23 hok hD (hhn _ _ hx b5) .mk (fun S N6 b6 hS => ?_); cases hS) | with_reducible refine h50 _ _ _ _ _ b6 (fun N7 b7 => ?_) | with_reducible refine h49 _ _ ?_ | with_reducible refine h47b _ _ _ _ _ _ _ b7 h46b (by simp [numB_len]) (by omega) (by omega) (fun N8 b8 => ?_) | with_reducible refine h50 _ _ _ _ _ b8 (fun N9 b9 => ?_) | with_reducible refine h51 _ _ ?_ | refine Branch.f rfl ?_ | refine Need.mk (by simp only [ByteArray.size_append, strOf_size]; first | (show _ + 2 + 8 ≤ _; omega) | (show _ + 2 ≤ _; omega)) ?_ | exact hfin _ hz1 _ _ | refine New.mk (fun _ => ?_) | refine Look.at0 ?_ | refine Cell.row ?_ | refine Cells.row rfl ?_ | with_reducible refine Val.u64 (by omega) (by omega) ?_))
end
end Go.Proofs.YtiaginlnapiijaaDoor

/- Ported (port.py) from FmA. -/
set_option linter.unusedVariables false
set_option linter.unusedSimpArgs false
set_option maxRecDepth 100000
set_option maxHeartbeats 4000000
namespace Go.Proofs.YtiaginlnapiijaaDoor
open Sx
theorem St.step_out (s : St) (b : UInt8) : ∃ z, (s.step b).out = s.out ++ b :: z := by
  unfold St.step
  split
  · exact ⟨[oth b], by simp⟩
  · exact ⟨[], by simp⟩
theorem stf_pre (p q : List UInt8) : ∃ z, (stf (p ++ q)).out = (stf p).out ++ z := by
  induction q using snoc_ind with
  | h0 => exact ⟨[], by simp⟩
  | h1 q b ih =>
    obtain ⟨z, hz⟩ := ih
    obtain ⟨y, hy⟩ := St.step_out (stf (p ++ q)) b
    exact ⟨z ++ b :: y, by rw [← List.append_assoc, stf_snoc, hy, hz, List.append_assoc]⟩
/-- Where a reader stands that has read the bits p: at, the level, how many of it. -/
inductive RdAt (p : List UInt8) : Nat → Nat → Nat → Prop
  | done : RdAt p (stf p).out.length (stf p).lv (stf p).n
  | pend (q : List UInt8) (b : UInt8) : p = q ++ [b] → tk (stf q).lv (stf q).n b.toNat = 5 → RdAt p ((stf q).out.length + 1) b.toNat 5
theorem RdAt.zero : RdAt [] 0 0 0 := .done
/-- Behind one more bit. -/
theorem RdAt.more (p : List UInt8) (b : UInt8) : RdAt (p ++ [b]) ((stf p).out.length + 1) b.toNat (tk (stf p).lv (stf p).n b.toNat) := by
  by_cases h : tk (stf p).lv (stf p).n b.toNat = 5
  · rw [h]; exact .pend p b rfl h
  · have e : stf (p ++ [b]) = ⟨(stf p).out ++ [b], b.toNat, tk (stf p).lv (stf p).n b.toNat⟩ := by rw [stf_snoc, St.step, if_neg h]
    have := RdAt.done (p := p ++ [b])
    rw [e] at this
    simpa using this
/-- Either nothing is to be left out, or the bit that is. -/
theorem RdAt.cases {p : List UInt8} {a lv n : Nat} (h : RdAt p a lv n) : (n < 5 ∧ a = (stf p).out.length ∧ lv = (stf p).lv ∧ n = (stf p).n) ∨
    ∃ b : UInt8, n = 5 ∧ lv = b.toNat ∧ (stf p).out[a]? = some (oth b) ∧ a + 1 = (stf p).out.length ∧ (stf p).lv = (oth b).toNat ∧ (stf p).n = 1 := by
  cases h with
  | done =>
    have := (St.ok p).1
    exact .inl ⟨by omega, rfl, rfl, rfl⟩
  | pend q b hp h5 =>
    subst hp
    have e : stf (q ++ [b]) = ⟨(stf q).out ++ [b] ++ [oth b], (oth b).toNat, 1⟩ := by rw [stf_snoc, St.step, if_pos h5]
    refine .inr ⟨b, rfl, rfl, ?_, ?_, ?_, ?_⟩ <;> rw [e] <;> simp
theorem RdAt.le {p : List UInt8} {a lv n : Nat} (h : RdAt p a lv n) : a ≤ (stf p).out.length ∧ n ≤ 5 := by
  rcases h.cases with ⟨h1, h2, h3, h4⟩ | ⟨b, h1, h2, h3, h4, h5⟩ <;> omega
/-- The text s begins as t does, as far as it goes. -/
def Alike (s t : List UInt8) : Prop := ∀ (i : Nat) (a b : UInt8), s[i]? = some a → t[i]? = some b → a = b
/-- The next bit of the body. -/
theorem body_at {p z : List UInt8} {b : UInt8} {u : List UInt8} : ((stf (p ++ b :: z)).out ++ u)[(stf p).out.length]? = some b := by
  obtain ⟨y, hy⟩ := St.step_out (stf p) b
  obtain ⟨x, hx⟩ := stf_pre (p ++ [b]) z
  rw [stf_snoc, hy] at hx
  have e : p ++ b :: z = p ++ [b] ++ z := by simp
  rw [e, hx]
  simp [List.append_assoc]
/-- The bit that was put in. -/
theorem put_at {p z u : List UInt8} {a : Nat} {c : UInt8} (h : (stf p).out[a]? = some c) : ((stf (p ++ z)).out ++ u)[a]? = some c := by
  obtain ⟨x, hx⟩ := stf_pre p z
  have hl := (List.getElem?_eq_some_iff.1 h).1
  rw [hx, List.append_assoc, List.getElem?_append_left hl, h]
/-- What bits are worth. -/
def vB (l : List UInt8) : Nat := l.foldl (fun v b => 2 * v + (b.toNat - 48)) 0
theorem vB_snoc (l : List UInt8) (b : UInt8) : vB (l ++ [b]) = 2 * vB l + (b.toNat - 48) := by simp [vB]
theorem vB_lt (l : List UInt8) (h : ∀ b ∈ l, isB b = true) : vB l < 2 ^ l.length := by
  induction l using snoc_ind with
  | h0 => decide
  | h1 l b ih =>
    have h1 := ih fun x hx => h x (List.mem_append_left _ hx)
    have h2 : b.toNat - 48 ≤ 1 := by
      rcases isB_cases (h b (by simp)) with ⟨h1, h2⟩ | ⟨h1, h2⟩ <;> omega
    rw [vB_snoc, List.length_append, List.length_singleton, Nat.pow_succ]
    omega
theorem vB_numB : ∀ (w n : Nat), n < 2 ^ w → vB (numB w n) = n
  | 0, n, h => by
    have : n = 0 := by simpa using h
    rw [this]; rfl
  | w + 1, n, h => by
    show vB (numB w (n / 2) ++ [bitB (n % 2)]) = n
    rw [Nat.pow_succ] at h
    have h2 : (bitB (n % 2)).toNat - 48 = n % 2 := by
      rcases Nat.mod_two_eq_zero_or_one n with e | e <;> rw [e] <;> rfl
    rw [vB_snoc, vB_numB w (n / 2) (by omega), h2]
    omega
end Go.Proofs.YtiaginlnapiijaaDoor

/- Ported (port.py) from FmB. -/
set_option linter.unusedVariables false
set_option linter.unusedSimpArgs false
set_option maxRecDepth 100000
set_option maxHeartbeats 4000000
namespace Go.Proofs.YtiaginlnapiijaaDoor
open Sx
theorem lt8 {i : Nat} (h : i < 8) : i = 0 ∨ i = 1 ∨ i = 2 ∨ i = 3 ∨ i = 4 ∨ i = 5 ∨ i = 6 ∨ i = 7 := by omega
/-- One more byte. -/
theorem zs_step (f : Fm) {i : Nat} (h : i < 8) : (frC (zs f i 8)).set (4 + i) (b8 ((dB f).getD i 0)) = frC (zs f (i + 1) 8) := by
  rcases lt8 h with rfl | rfl | rfl | rfl | rfl | rfl | rfl | rfl <;> rfl
theorem datB_step (f : Fm) {i : Nat} (h : i < 8) : datB f (i + 1) = datB f i ++ numB 8 ((dB f).getD i 0).toNat := by
  rcases lt8 h with rfl | rfl | rfl | rfl | rfl | rfl | rfl | rfl <;> simp [datB, dB]
theorem vB_byte (b : UInt8) : vB (numB 8 b.toNat) = b.toNat := vB_numB 8 _ b.toNat_lt
theorem datB_split (f : Fm) {i k : Nat} (hi : i < k) (hk : k ≤ 8) : ∃ z, datB f k = datB f i ++ numB 8 ((dB f).getD i 0).toNat ++ z := by
  induction k with
  | zero => omega
  | succ k ih =>
    rw [datB_step f (by omega)]
    by_cases h : i = k
    · subst h; exact ⟨[], by simp⟩
    · obtain ⟨z, hz⟩ := ih (by omega) (by omega)
      exact ⟨z ++ numB 8 ((dB f).getD k 0).toNat, by rw [hz]; simp [List.append_assoc]⟩
end Go.Proofs.YtiaginlnapiijaaDoor

/- Ported (port.py) from FmC. -/
set_option linter.unusedVariables false
set_option linter.unusedSimpArgs false
set_option maxRecDepth 100000
set_option maxHeartbeats 4000000
namespace Go.Proofs.YtiaginlnapiijaaDoor
open Sx
/-- A bit of a field; behind its end the wire is 1. -/
def pb (s : List UInt8) (p : Nat) : UInt8 := s.getD p 49
theorem tlt_of : ∀ (a b : List UInt8) (p : Nat), p < a.length → p < b.length → (∀ q, q < p → pb a q = pb b q) → pb a p = 48 → pb b p = 49 → tlt a b = true
  | [], _, _, h, _, _, _, _ => by simp at h
  | _ :: _, [], _, _, h, _, _, _ => by simp at h
  | x :: a, y :: b, 0, _, _, _, h1, h2 => by
    have h1 : x = 48 := h1
    have h2 : y = 49 := h2
    subst h1; subst h2
    simp [tlt, Op.bytesLess]
  | x :: a, y :: b, p + 1, ha, hb, h, h1, h2 => by
    have h0 : x = y := h 0 (by omega)
    subst h0
    have ih := tlt_of a b p (by simpa using ha) (by simpa using hb) (fun q hq => h (q + 1) (by omega)) h1 h2
    simp [tlt, Op.bytesLess] at ih ⊢
    exact ih
theorem fld_lenX (f : Fm) : (fld f).length = if f.x then 32 else 13 := by
  unfold fld fldB
  split <;> simp [numB_len]
theorem fld_12 (f : Fm) : pb (fld f) 12 = if f.x then 49 else 48 := by
  unfold pb fld fldB
  split <;> simp [List.getD_eq_getElem?_getD, List.getElem?_append, numB_len]
theorem fld_bits (f : Fm) (p : Nat) : pb (fld f) p = 48 ∨ pb (fld f) p = 49 := by
  unfold pb
  rw [List.getD_eq_getElem?_getD]
  cases h : (fld f)[p]? with
  | none => exact .inr rfl
  | some b =>
    have hb := fld_ok f b (List.mem_of_getElem? h)
    rcases isB_cases hb with ⟨h1, _⟩ | ⟨h1, _⟩
    · exact .inl (UInt8.toNat_inj.1 h1)
    · exact .inr (UInt8.toNat_inj.1 h1)
theorem fld_pad {f g : Fm} (h : ∀ p, p < 32 → pb (fld f) p = pb (fld g) p) : fld f = fld g := by
  have h12 := h 12 (by decide)
  rw [fld_12, fld_12] at h12
  have hx : f.x = g.x := by
    cases hf : f.x <;> cases hg : g.x <;> simp [hf, hg] at h12 ⊢
  have hl : (fld f).length = (fld g).length := by rw [fld_lenX, fld_lenX, hx]
  have hl32 : (fld f).length ≤ 32 := by rw [fld_lenX]; split <;> omega
  refine List.ext_getElem hl fun p hp hq => ?_
  have := h p (by omega)
  unfold pb at this
  rw [List.getD_eq_getElem?_getD, List.getD_eq_getElem?_getD, List.getElem?_eq_getElem hp, List.getElem?_eq_getElem hq] at this
  exact this
theorem fld_less {f g : Fm} {p : Nat} (h : ∀ q, q < p → pb (fld f) q = pb (fld g) q) (h1 : pb (fld f) p = 48) (h2 : pb (fld g) p = 49) : tlt (fld f) (fld g) = true := by
  have hp : p < (fld f).length := by
    by_cases hp : p < (fld f).length
    · exact hp
    · unfold pb at h1
      rw [List.getD_eq_getElem?_getD, List.getElem?_eq_none (by omega)] at h1
      exact absurd h1 (by decide)
  refine tlt_of _ _ p hp ?_ h h1 h2
  by_cases h13 : p ≤ 12
  · rw [fld_lenX]; split <;> omega
  · have h12 := h 12 (by omega)
    rw [fld_12, fld_12] at h12
    have hx : f.x = g.x := by
      cases hf : f.x <;> cases hg : g.x <;> simp [hf, hg] at h12 ⊢
    rw [fld_lenX, ← hx, ← fld_lenX]; exact hp
/-- The wire's bit, of those that are left. -/
def wireB (fs : List (List UInt8)) (left : List Nat) (p : Nat) : UInt8 := if left.any fun j => pb (fs.getD j []) p == 48 then 48 else 49
def leavesP (fs : List (List UInt8)) (left : List Nat) (p : Nat) : List Nat := left.filter fun j => pb (fs.getD j []) p == wireB fs left p
/-- What holds ahead of place p. -/
structure LeftOk (L : List Fm) (i p : Nat) (left : List Nat) : Prop where
  has : i ∈ left
  nd : left.Nodup
  lt : ∀ j ∈ left, j < L.length
  same : ∀ j ∈ left, ∀ q, q < p → pb ((L.map fld).getD j []) q = pb ((L.map fld).getD i []) q
theorem fs_at {L : List Fm} {j : Nat} (h : j < L.length) : (L.map fld).getD j [] = fld L[j] := by
  rw [List.getD_eq_getElem?_getD]; simp [h]
theorem LeftOk.step {L : List Fm} {i p : Nat} {left : List Nat} (h : LeftOk L i p left) (hmin : ∀ j, j < L.length → tlt ((L.map fld).getD j []) ((L.map fld).getD i []) = false) : LeftOk L i (p + 1) (leavesP (L.map fld) left p) := by
  have hi := h.lt i h.has
  have key : pb ((L.map fld).getD i []) p = wireB (L.map fld) left p := by
    unfold wireB
    split
    · rename_i ha
      obtain ⟨j, hj, hb⟩ := List.any_eq_true.1 ha
      have hb : pb ((L.map fld).getD j []) p = 48 := by simpa using hb
      have hjl := h.lt j hj
      rw [fs_at hi]
      rcases fld_bits L[i] p with h1 | h1
      · exact h1
      · have := hmin j hjl
        have hs := h.same j hj
        rw [fs_at hjl] at hb this hs
        rw [fs_at hi] at this hs
        rw [fld_less hs hb h1] at this
        cases this
    · rename_i ha
      rw [fs_at hi]
      rcases fld_bits L[i] p with h1 | h1
      · exact absurd (List.any_eq_true.2 ⟨i, h.has, by rw [fs_at hi, h1]; rfl⟩) ha
      · exact h1
  unfold leavesP
  refine ⟨List.mem_filter.2 ⟨h.has, by rw [key]; simp⟩, h.nd.filter _, fun j hj => h.lt j (List.mem_filter.1 hj).1, fun j hj q hq => ?_⟩
  obtain ⟨h1, h2⟩ := List.mem_filter.1 hj
  by_cases hqp : q = p
  · subst hqp; rw [key]; simpa using h2
  · exact h.same j h1 q (by omega)
theorem LeftOk.full {L : List Fm} {i p : Nat} {left : List Nat} (h : LeftOk L i p left) (hp : 32 ≤ p) (hnd : (L.map fld).Nodup) : left = [i] := by
  have hi := h.lt i h.has
  have all : ∀ j ∈ left, j = i := by
    intro j hj
    have hjl := h.lt j hj
    have hs := h.same j hj
    rw [fs_at hjl, fs_at hi] at hs
    have e := fld_pad fun q hq => hs q (by omega)
    have : (L.map fld)[j]'(by simpa using hjl) = (L.map fld)[i]'(by simpa using hi) := by simpa using e
    exact (List.getElem_inj hnd).1 this
  match left, h with
  | [], h => exact absurd h.has List.not_mem_nil
  | [a], h => rw [all a (by simp)]
  | a :: b :: r, h =>
    have h1 := all a (by simp)
    have h2 := all b (by simp)
    have := h.nd
    rw [h1, h2] at this
    simp at this
theorem LeftOk.one {L : List Fm} {i p : Nat} {left : List Nat} (h : LeftOk L i p left) (hl : left.length ≤ 1) : left = [i] := by
  match left, h, hl with
  | [], h, _ => exact absurd h.has List.not_mem_nil
  | [a], h, _ =>
    have := h.has
    simp at this
    rw [this]
end Go.Proofs.YtiaginlnapiijaaDoor

/- Ported (port.py) from FmE. -/
set_option linter.unusedVariables false
set_option linter.unusedSimpArgs false
set_option maxRecDepth 100000
set_option maxHeartbeats 4000000
namespace Go.Proofs.YtiaginlnapiijaaDoor
open Sx
section
variable {K : Value → Heap → Prop} {H : Heap} {T r : Nat} {pre : List Value} {bs : List UInt8} {N : Heap}
theorem c43 {b : UInt8} (hT : BT T pre.length) (hN : Bld T r pre bs N) (hl : bs.length + 1 ≤ 140737488355328) (hK : ∀ N', Bld T r pre (bs ++ [b]) N' → K .nilIface N') : SCalls Tryd.prog 43 [bPtr r pre, .int .u8 (b.toNat : Int)] N K := by
  refine enter43 ?_
  have h41 : ∀ (K2 : Value → Heap → Prop), (∀ a c M, BufV 5 (.slice a bs.length c) bs M → K2 (.tuple ⟨[]⟩) (bRow T r pre (bPtr r pre) (.slice a bs.length c) :: M)) → SCalls Tryd.prog 37 [bPtr r pre] N K2 := fun K2 hk => c37 hT hN (fun sv M hb => by
    obtain ⟨a, c, rfl⟩ := hb.len
    exact hk a c M hb)
  have h1 : ∀ sv, (Blk.row T (pre ++ [bPtr r pre, sv]) (0, 0)).cell (pre.length + 1) = some sv := fun sv => pre1 _ sv
  have hput : ∀ sv sv', PutOk (.row T (pre ++ [bPtr r pre, sv]) (0, 0)) (pre.length + 1) [sv'] (.row T (pre ++ [bPtr r pre, sv']) (0, 0)) := fun sv sv' => PutOk.row (by simp) (set1 _ sv sv')
  have hc : ∀ (q : Nat) j x, [b][j]? = some x → (Blk.row 5 [.int .u8 (b.toNat : Int)] (0, 0)).cell (0 + j) = some (.int .u8 (x.toNat : Int)) := by
    intro q j x hj
    match j, hj with
    | 0, hj => injection hj with hj; subst hj; rfl
  have happ : ∀ a c M, BufV 5 (.slice a bs.length c) bs M → ∀ (q : Nat) (o : Oper) (xs xx : Operand) (K2 : Value → Heap → Prop), o.op = .call { callee := .builtin .append, args := #[xs, xx], argTypes := #[27, 27] } →
      (∀ a' c' M', BufV 5 (.slice a' (bs ++ [b]).length c') (bs ++ [b]) M' → K2 (.slice a' (bs ++ [b]).length c') ((q, Blk.row 5 [.int .u8 (b.toNat : Int)] (0, 0)) :: bRow T r pre (bPtr r pre) (.slice a bs.length c) :: M')) →
      RawV Tryd.prog o [.slice a bs.length c, .slice (some ⟨q, 0, none⟩) 1 1] ((q, Blk.row 5 [.int .u8 (b.toNat : Int)] (0, 0)) :: bRow T r pre (bPtr r pre) (.slice a bs.length c) :: M) K2 := by
    intro a c M hb q o xs xx K2 ho hk
    have := RawV.appBytes (P := Tryd.prog) (c := 1) (A := [(q, Blk.row 5 [.int .u8 (b.toNat : Int)] (0, 0)), bRow T r pre (bPtr r pre) (.slice a bs.length c)]) (B := []) (l := [b]) (K := K2) ho (by kernel_rfl) (by kernel_rfl) hb (.head _) rfl Nat.one_pos (hc q) hl (fun sv' N' h => by rw [List.append_nil]; obtain ⟨a', c', rfl⟩ := h.len; exact hk a' c' N' h)
    rw [List.append_nil] at this
    exact this
  clear hN
  repeat' ((conv => whnf); (first | with_reducible refine h41 _ (fun a c M hb => ?_) | refine Look.cell (.head _) (h1 _) ?_ | with_reducible refine happ _ _ _ hb _ _ _ _ _ rfl (fun a' c' M' hb' => ?_) | refine ⟨[_], _, M', rfl, _, hput _ _, appK_to ?_⟩ | exact Keep.d1 (hK _ (.mk (.inr rfl) hb')) | refine New.mk (fun _ => ?_) | refine Look.at0 ?_ | refine Cell.row ?_ | refine Cell.buf ?_ | refine Cells.row rfl ?_ | refine Put.row rfl ?_ | refine Put.buf rfl ?_ | refine Look.at1 ?_ | refine Look.at2 ?_ | refine Look.at3 ?_ | refine Look.at4 ?_ | refine Look.at5 ?_ | refine Look.at6 ?_ | refine Look.at7 ?_ | refine Look.at8 ?_ | with_reducible refine Val.i64 (by omega) (by omega) ?_ | with_reducible refine Val.u8 (by omega) (by omega) ?_ | with_reducible refine Val.u32 (by omega) (by omega) ?_ | with_reducible refine Val.u64 (by omega) (by omega) ?_ | with_reducible refine Val.u8m ?_ | with_reducible refine Val.u32m ?_ | with_reducible refine Val.u64m ?_ | with_reducible refine Val.shr8 ?_ | with_reducible refine Val.shr16 (by decide) ?_ | with_reducible refine Val.shr24 (by decide) ?_ | with_reducible refine Val.raw ?_ | refine Branch.not ?_ | refine Branch.and ?_ | refine Branch.or ?_ | refine Branch.dt (by assumption) ?_ | refine Branch.df (by assumption) ?_ | refine Branch.dt rfl ?_ | refine Branch.dt (by omega) ?_ | refine Branch.df (by omega) ?_ | refine Branch.t rfl ?_ | refine Branch.f rfl ?_ | refine Branch.t (by assumption) ?_ | refine Branch.f (by assumption) ?_ | refine Branch.d (fun _ => ?_) (fun _ => ?_) | refine Branch.mk (fun _ => ?_) (fun _ => ?_) | refine Need.mk (by first | omega | decide | rfl) ?_ | refine Idx.nat (by omega) ?_ | refine Idx.auto (by first | omega | decide) (by first | omega | decide) ?_ | refine Cell.ro rfl ?_ | refine SDraw.all (by kernel_rfl) ?_ | refine Kept.k0 ?_ | refine Kept.k1 ?_ | refine Kept.k2 ?_ | refine Kept.k3 ?_ | refine Kept.k4 ?_))
end
/-- The reader's own cells. -/
abbrev rdC (s : List UInt8) (a lv n : Nat) : List Value := [.string (strOf s), .int .i64 (a : Int), .int .u8 (lv : Int), .int .i64 (n : Int)]
abbrev rdB (r : Nat) (s : List UInt8) (a lv n : Nat) (p sv : Value) : Nat × Blk := (r, .row 67 [.string (strOf s), .int .i64 (a : Int), .int .u8 (lv : Int), .int .i64 (n : Int), p, sv] (0, 0))
abbrev wrg (a e : Int) : List PanicEntry := [{ v := .iface 63 (.agg ⟨[.int .i64 a, .int .i64 e]⟩), recovered := false }]
theorem bt73 : BT 67 4 := by unfold BT; kernel_rfl
section
variable [Dies] {K : Value → Heap → Prop} {r : Nat} {s : List UInt8} {a lv n : Nat} {p sv : Value} {b : UInt8}
theorem c44 (ha : a ≤ s.length) (hl : s.length ≤ 65536) (hb : ∀ x, s[a]? = some x → x = b) (hD : a = s.length → Dies.D (wrg a 3)) (hK : a < s.length → K (.int .u8 (b.toNat : Int)) [rdB r s (a + 1) lv n p sv]) :
    SCalls Tryd.prog 44 [ptr r] [rdB r s a lv n p sv] K := by
  refine enter44 ?_
  have hsz : ((strOf s).size : Int) = (s.length : Int) := by rw [strOf_size]
  have hsz2 : (strOf s).size = s.length := strOf_size s
  by_cases hlt : a < s.length
  · have hx := List.getElem?_eq_getElem hlt
    have hxb := hb _ hx
    rw [hxb] at hx
    have hat := byteAt_of hx
    have hk := hK hlt
    have e : ((a + 1 : Nat) : Int) = (a : Int) + 1 := by omega
    simp only [rdB, e] at hk
    clear hK hD hb
    repeat' ((conv => whnf); (first | refine Branch.df (by omega) ?_ | refine Idx.nat (by omega) ?_ | with_reducible rw [hat] | with_reducible exact Keep.all hk | refine New.mk (fun _ => ?_) | refine Look.at0 ?_ | refine Cell.row ?_ | refine Cell.buf ?_ | refine Cells.row rfl ?_ | refine Put.row rfl ?_ | refine Put.buf rfl ?_ | refine Look.at1 ?_ | refine Look.at2 ?_ | refine Look.at3 ?_ | refine Look.at4 ?_ | refine Look.at5 ?_ | refine Look.at6 ?_ | refine Look.at7 ?_ | refine Look.at8 ?_ | with_reducible refine Val.i64 (by omega) (by omega) ?_ | with_reducible refine Val.u8 (by omega) (by omega) ?_ | with_reducible refine Val.u32 (by omega) (by omega) ?_ | with_reducible refine Val.u64 (by omega) (by omega) ?_ | with_reducible refine Val.u8m ?_ | with_reducible refine Val.u32m ?_ | with_reducible refine Val.u64m ?_ | with_reducible refine Val.shr8 ?_ | with_reducible refine Val.shr16 (by decide) ?_ | with_reducible refine Val.shr24 (by decide) ?_ | with_reducible refine Val.raw ?_ | refine Branch.not ?_ | refine Branch.and ?_ | refine Branch.or ?_ | refine Branch.dt (by assumption) ?_ | refine Branch.df (by assumption) ?_ | refine Branch.dt rfl ?_ | refine Branch.dt (by omega) ?_ | refine Branch.df (by omega) ?_ | refine Branch.t rfl ?_ | refine Branch.f rfl ?_ | refine Branch.t (by assumption) ?_ | refine Branch.f (by assumption) ?_ | refine Branch.d (fun _ => ?_) (fun _ => ?_) | refine Branch.mk (fun _ => ?_) (fun _ => ?_) | refine Need.mk (by first | omega | decide | rfl) ?_ | refine Idx.nat (by omega) ?_ | refine Idx.auto (by first | omega | decide) (by first | omega | decide) ?_ | refine Cell.ro rfl ?_ | refine SDraw.all (by kernel_rfl) ?_ | refine Kept.k0 ?_ | refine Kept.k1 ?_ | refine Kept.k2 ?_ | refine Kept.k3 ?_ | refine Kept.k4 ?_))
  · have hd := hD (by omega)
    clear hK hD
    repeat' ((conv => whnf); (first | refine Branch.dt (by omega) ?_ | refine RawV.panic rfl hd | refine New.mk (fun _ => ?_) | refine Look.at0 ?_ | refine Cell.row ?_ | refine Cell.buf ?_ | refine Cells.row rfl ?_ | refine Put.row rfl ?_ | refine Put.buf rfl ?_ | refine Look.at1 ?_ | refine Look.at2 ?_ | refine Look.at3 ?_ | refine Look.at4 ?_ | refine Look.at5 ?_ | refine Look.at6 ?_ | refine Look.at7 ?_ | refine Look.at8 ?_ | with_reducible refine Val.i64 (by omega) (by omega) ?_ | with_reducible refine Val.u8 (by omega) (by omega) ?_ | with_reducible refine Val.u32 (by omega) (by omega) ?_ | with_reducible refine Val.u64 (by omega) (by omega) ?_ | with_reducible refine Val.u8m ?_ | with_reducible refine Val.u32m ?_ | with_reducible refine Val.u64m ?_ | with_reducible refine Val.shr8 ?_ | with_reducible refine Val.shr16 (by decide) ?_ | with_reducible refine Val.shr24 (by decide) ?_ | with_reducible refine Val.raw ?_ | refine Branch.not ?_ | refine Branch.and ?_ | refine Branch.or ?_ | refine Branch.dt (by assumption) ?_ | refine Branch.df (by assumption) ?_ | refine Branch.dt rfl ?_ | refine Branch.dt (by omega) ?_ | refine Branch.df (by omega) ?_ | refine Branch.t rfl ?_ | refine Branch.f rfl ?_ | refine Branch.t (by assumption) ?_ | refine Branch.f (by assumption) ?_ | refine Branch.d (fun _ => ?_) (fun _ => ?_) | refine Branch.mk (fun _ => ?_) (fun _ => ?_) | refine Need.mk (by first | omega | decide | rfl) ?_ | refine Idx.nat (by omega) ?_ | refine Idx.auto (by first | omega | decide) (by first | omega | decide) ?_ | refine Cell.ro rfl ?_ | refine SDraw.all (by kernel_rfl) ?_ | refine Kept.k0 ?_ | refine Kept.k1 ?_ | refine Kept.k2 ?_ | refine Kept.k3 ?_ | refine Kept.k4 ?_))
theorem c42 (ha : a ≤ s.length) (hl : s.length ≤ 65536) (hn : n ≤ 100) (hb : ∀ x, s[a]? = some x → x = b) (hD : a = s.length → Dies.D (wrg a 3))
    (hK : a < s.length → K (.int .u8 (b.toNat : Int)) [rdB r s (a + 1) b.toNat (tk lv n b.toNat) p sv]) : SCalls Tryd.prog 42 [ptr r] [rdB r s a lv n p sv] K := by
  refine enter42 ?_
  have h67 : ∀ (K2 : Value → Heap → Prop), (a < s.length → K2 (.int .u8 (b.toNat : Int)) [rdB r s (a + 1) lv n p sv]) → SCalls Tryd.prog 44 [ptr r] [rdB r s a lv n p sv] K2 := fun K2 hk => c44 ha hl hb hD hk
  unfold tk at hK
  by_cases h : b.toNat = lv
  · subst h
    rw [if_pos rfl] at hK
    have e : ((n + 1 : Nat) : Int) = (n : Int) + 1 := by omega
    simp only [rdB, e] at hK
    repeat' ((conv => whnf); (first | with_reducible refine h67 _ (fun hlt => ?_) | refine Branch.dt rfl ?_ | exact Keep.all (hK hlt) | refine New.mk (fun _ => ?_) | refine Look.at0 ?_ | refine Cell.row ?_ | refine Cell.buf ?_ | refine Cells.row rfl ?_ | refine Put.row rfl ?_ | refine Put.buf rfl ?_ | refine Look.at1 ?_ | refine Look.at2 ?_ | refine Look.at3 ?_ | refine Look.at4 ?_ | refine Look.at5 ?_ | refine Look.at6 ?_ | refine Look.at7 ?_ | refine Look.at8 ?_ | with_reducible refine Val.i64 (by omega) (by omega) ?_ | with_reducible refine Val.u8 (by omega) (by omega) ?_ | with_reducible refine Val.u32 (by omega) (by omega) ?_ | with_reducible refine Val.u64 (by omega) (by omega) ?_ | with_reducible refine Val.u8m ?_ | with_reducible refine Val.u32m ?_ | with_reducible refine Val.u64m ?_ | with_reducible refine Val.shr8 ?_ | with_reducible refine Val.shr16 (by decide) ?_ | with_reducible refine Val.shr24 (by decide) ?_ | with_reducible refine Val.raw ?_ | refine Branch.not ?_ | refine Branch.and ?_ | refine Branch.or ?_ | refine Branch.dt (by assumption) ?_ | refine Branch.df (by assumption) ?_ | refine Branch.dt rfl ?_ | refine Branch.dt (by omega) ?_ | refine Branch.df (by omega) ?_ | refine Branch.t rfl ?_ | refine Branch.f rfl ?_ | refine Branch.t (by assumption) ?_ | refine Branch.f (by assumption) ?_ | refine Branch.d (fun _ => ?_) (fun _ => ?_) | refine Branch.mk (fun _ => ?_) (fun _ => ?_) | refine Need.mk (by first | omega | decide | rfl) ?_ | refine Idx.nat (by omega) ?_ | refine Idx.auto (by first | omega | decide) (by first | omega | decide) ?_ | refine Cell.ro rfl ?_ | refine SDraw.all (by kernel_rfl) ?_ | refine Kept.k0 ?_ | refine Kept.k1 ?_ | refine Kept.k2 ?_ | refine Kept.k3 ?_ | refine Kept.k4 ?_))
  · rw [if_neg h] at hK
    have h' : ¬ (b.toNat : Int) = (lv : Int) := by omega
    repeat' ((conv => whnf); (first | with_reducible refine h67 _ (fun hlt => ?_) | refine Branch.df h' ?_ | exact Keep.all (hK hlt) | refine New.mk (fun _ => ?_) | refine Look.at0 ?_ | refine Cell.row ?_ | refine Cell.buf ?_ | refine Cells.row rfl ?_ | refine Put.row rfl ?_ | refine Put.buf rfl ?_ | refine Look.at1 ?_ | refine Look.at2 ?_ | refine Look.at3 ?_ | refine Look.at4 ?_ | refine Look.at5 ?_ | refine Look.at6 ?_ | refine Look.at7 ?_ | refine Look.at8 ?_ | with_reducible refine Val.i64 (by omega) (by omega) ?_ | with_reducible refine Val.u8 (by omega) (by omega) ?_ | with_reducible refine Val.u32 (by omega) (by omega) ?_ | with_reducible refine Val.u64 (by omega) (by omega) ?_ | with_reducible refine Val.u8m ?_ | with_reducible refine Val.u32m ?_ | with_reducible refine Val.u64m ?_ | with_reducible refine Val.shr8 ?_ | with_reducible refine Val.shr16 (by decide) ?_ | with_reducible refine Val.shr24 (by decide) ?_ | with_reducible refine Val.raw ?_ | refine Branch.not ?_ | refine Branch.and ?_ | refine Branch.or ?_ | refine Branch.dt (by assumption) ?_ | refine Branch.df (by assumption) ?_ | refine Branch.dt rfl ?_ | refine Branch.dt (by omega) ?_ | refine Branch.df (by omega) ?_ | refine Branch.t rfl ?_ | refine Branch.f rfl ?_ | refine Branch.t (by assumption) ?_ | refine Branch.f (by assumption) ?_ | refine Branch.d (fun _ => ?_) (fun _ => ?_) | refine Branch.mk (fun _ => ?_) (fun _ => ?_) | refine Need.mk (by first | omega | decide | rfl) ?_ | refine Idx.nat (by omega) ?_ | refine Idx.auto (by first | omega | decide) (by first | omega | decide) ?_ | refine Cell.ro rfl ?_ | refine SDraw.all (by kernel_rfl) ?_ | refine Kept.k0 ?_ | refine Kept.k1 ?_ | refine Kept.k2 ?_ | refine Kept.k3 ?_ | refine Kept.k4 ?_))
theorem c35 {e : Int} {c : UInt8} (ha : a < s.length ∨ a = s.length) (hl : s.length ≤ 65536) (hb : ∀ x, s[a]? = some x → x = b) (hD : a = s.length → Dies.D (wrg a 3)) (hD2 : a < s.length → ¬ b = c → Dies.D (wrg a e))
    (hK : a < s.length → b = c → K (.tuple ⟨[]⟩) [rdB r s (a + 1) lv n p sv]) : SCalls Tryd.prog 35 [ptr r, .int .u8 (c.toNat : Int), .int .i64 e] [rdB r s a lv n p sv] K := by
  refine enter35 ?_
  have h67 : ∀ (K2 : Value → Heap → Prop), (a < s.length → K2 (.int .u8 (b.toNat : Int)) [rdB r s (a + 1) lv n p sv]) → SCalls Tryd.prog 44 [ptr r] [rdB r s a lv n p sv] K2 := fun K2 hk => c44 (by omega) hl hb hD hk
  by_cases h : b = c
  · subst h
    repeat' ((conv => whnf); (first | with_reducible refine h67 _ (fun hlt => ?_) | refine Branch.f (by simp; done) ?_ | exact Keep.all (hK hlt rfl) | refine New.mk (fun _ => ?_) | refine Look.at0 ?_ | refine Cell.row ?_ | refine Cell.buf ?_ | refine Cells.row rfl ?_ | refine Put.row rfl ?_ | refine Put.buf rfl ?_ | refine Look.at1 ?_ | refine Look.at2 ?_ | refine Look.at3 ?_ | refine Look.at4 ?_ | refine Look.at5 ?_ | refine Look.at6 ?_ | refine Look.at7 ?_ | refine Look.at8 ?_ | with_reducible refine Val.i64 (by omega) (by omega) ?_ | with_reducible refine Val.u8 (by omega) (by omega) ?_ | with_reducible refine Val.u32 (by omega) (by omega) ?_ | with_reducible refine Val.u64 (by omega) (by omega) ?_ | with_reducible refine Val.u8m ?_ | with_reducible refine Val.u32m ?_ | with_reducible refine Val.u64m ?_ | with_reducible refine Val.shr8 ?_ | with_reducible refine Val.shr16 (by decide) ?_ | with_reducible refine Val.shr24 (by decide) ?_ | with_reducible refine Val.raw ?_ | refine Branch.not ?_ | refine Branch.and ?_ | refine Branch.or ?_ | refine Branch.dt (by assumption) ?_ | refine Branch.df (by assumption) ?_ | refine Branch.dt rfl ?_ | refine Branch.dt (by omega) ?_ | refine Branch.df (by omega) ?_ | refine Branch.t rfl ?_ | refine Branch.f rfl ?_ | refine Branch.t (by assumption) ?_ | refine Branch.f (by assumption) ?_ | refine Branch.d (fun _ => ?_) (fun _ => ?_) | refine Branch.mk (fun _ => ?_) (fun _ => ?_) | refine Need.mk (by first | omega | decide | rfl) ?_ | refine Idx.nat (by omega) ?_ | refine Idx.auto (by first | omega | decide) (by first | omega | decide) ?_ | refine Cell.ro rfl ?_ | refine SDraw.all (by kernel_rfl) ?_ | refine Kept.k0 ?_ | refine Kept.k1 ?_ | refine Kept.k2 ?_ | refine Kept.k3 ?_ | refine Kept.k4 ?_))
  · have h' : ¬ (b.toNat : Int) = (c.toNat : Int) := fun e => h (UInt8.toNat_inj.1 (by omega))
    have e1 : ((a + 1 : Nat) : Int) - 1 = (a : Int) := by omega
    repeat' ((conv => whnf); (first | with_reducible refine h67 _ (fun hlt => ?_) | refine Branch.t (by simp [h']; done) ?_ | with_reducible refine Val.to (a : Int) (by rw [wrap_i64 (by omega) (by omega)]; exact e1) ?_ | exact RawV.panic rfl (hD2 hlt h) | refine New.mk (fun _ => ?_) | refine Look.at0 ?_ | refine Cell.row ?_ | refine Cell.buf ?_ | refine Cells.row rfl ?_ | refine Put.row rfl ?_ | refine Put.buf rfl ?_ | refine Look.at1 ?_ | refine Look.at2 ?_ | refine Look.at3 ?_ | refine Look.at4 ?_ | refine Look.at5 ?_ | refine Look.at6 ?_ | refine Look.at7 ?_ | refine Look.at8 ?_ | with_reducible refine Val.i64 (by omega) (by omega) ?_ | with_reducible refine Val.u8 (by omega) (by omega) ?_ | with_reducible refine Val.u32 (by omega) (by omega) ?_ | with_reducible refine Val.u64 (by omega) (by omega) ?_ | with_reducible refine Val.u8m ?_ | with_reducible refine Val.u32m ?_ | with_reducible refine Val.u64m ?_ | with_reducible refine Val.shr8 ?_ | with_reducible refine Val.shr16 (by decide) ?_ | with_reducible refine Val.shr24 (by decide) ?_ | with_reducible refine Val.raw ?_ | refine Branch.not ?_ | refine Branch.and ?_ | refine Branch.or ?_ | refine Branch.dt (by assumption) ?_ | refine Branch.df (by assumption) ?_ | refine Branch.dt rfl ?_ | refine Branch.dt (by omega) ?_ | refine Branch.df (by omega) ?_ | refine Branch.t rfl ?_ | refine Branch.f rfl ?_ | refine Branch.t (by assumption) ?_ | refine Branch.f (by assumption) ?_ | refine Branch.d (fun _ => ?_) (fun _ => ?_) | refine Branch.mk (fun _ => ?_) (fun _ => ?_) | refine Need.mk (by first | omega | decide | rfl) ?_ | refine Idx.nat (by omega) ?_ | refine Idx.auto (by first | omega | decide) (by first | omega | decide) ?_ | refine Cell.ro rfl ?_ | refine SDraw.all (by kernel_rfl) ?_ | refine Kept.k0 ?_ | refine Kept.k1 ?_ | refine Kept.k2 ?_ | refine Kept.k3 ?_ | refine Kept.k4 ?_))
end
end Go.Proofs.YtiaginlnapiijaaDoor

/- Ported (port.py) from FmF. -/
set_option linter.unusedVariables false
set_option linter.unusedSimpArgs false
set_option maxRecDepth 100000
set_option maxHeartbeats 4000000
namespace Go.Proofs.YtiaginlnapiijaaDoor
open Sx
/-- A text s that begins as t does, as far as it goes; where it is shorter a reader may give up at its end. -/
structure Src [Dies] (s t : List UInt8) : Prop where
  al : Alike s t
  sh : s.length < t.length → Dies.D (wrg s.length 3)
  lim : s.length ≤ 65536
theorem Src.same [Dies] {s t : List UInt8} (h : Src s t) {a : Nat} {b : UInt8} (hb : t[a]? = some b) : ∀ x, s[a]? = some x → x = b := fun x hx => h.al a x b hx hb
theorem Src.dies [Dies] {s t : List UInt8} (h : Src s t) {a : Nat} {b : UInt8} (hb : t[a]? = some b) (ha : a = s.length) : Dies.D (wrg a 3) := by
  subst ha
  exact h.sh (List.getElem?_eq_some_iff.1 hb).1
/-- A reader that has read the bits p. -/
inductive RdH (s : List UInt8) (r : Nat) (p : List UInt8) : Heap → Prop
  | mk {a lv n : Nat} {N : Heap} : RdAt p a lv n → a ≤ s.length → Bld 67 r (rdC s a lv n) p N → RdH s r p N
/-- A reader that has read the bits p, and what was put in behind them. -/
inductive RdD (s : List UInt8) (r : Nat) (p : List UInt8) (k : Nat) : Heap → Prop
  | mk {a lv n : Nat} {N : Heap} : a = (stf p).out.length + k → a ≤ s.length → Bld 67 r (rdC s a lv n) p N → RdD s r p k N
theorem RdAt.lev {p : List UInt8} {a lv n : Nat} (h : RdAt p a lv n) (h5 : n = 5) : ∃ c ∈ p, lv = c.toNat := by
  cases h with
  | done => have := (St.ok p).1; omega
  | pend q c e _ => exact ⟨c, by rw [e]; simp, rfl⟩
theorem oth_ne {b : UInt8} (h : isB b = true) : ¬ (oth b).toNat = b.toNat := by
  have := oth_n h
  omega
theorem getL_snoc (p : List UInt8) (b : UInt8) (z : List UInt8) : p ++ b :: z = p ++ [b] ++ z := by simp
section
variable [Dies] {K : Value → Heap → Prop} {r : Nat} {s p z u : List UInt8} {a lv n : Nat} {pp sv : Value} {b : UInt8}
theorem c34 (hs : Src s ((stf (p ++ z)).out ++ u)) (hp : ∀ b ∈ p, isB b = true) (hR : RdAt p a lv n) (ha : a ≤ s.length)
    (hK : (stf p).out.length ≤ s.length → K (.tuple ⟨[]⟩) [rdB r s (stf p).out.length (stf p).lv (stf p).n pp sv]) : SCalls Tryd.prog 34 [ptr r] [rdB r s a lv n pp sv] K := by
  refine enter34 ?_
  have hl := hs.lim
  rcases hR.cases with ⟨h1, rfl, rfl, rfl⟩ | ⟨b, rfl, rfl, h3, h4, h5, h6⟩
  · have hk := hK ha
    clear hK hR
    repeat' ((conv => whnf); (first | refine Branch.dt (by omega) ?_ | with_reducible exact Keep.all hk | refine New.mk (fun _ => ?_) | refine Look.at0 ?_ | refine Cell.row ?_ | refine Cell.buf ?_ | refine Cells.row rfl ?_ | refine Put.row rfl ?_ | refine Put.buf rfl ?_ | refine Look.at1 ?_ | refine Look.at2 ?_ | refine Look.at3 ?_ | refine Look.at4 ?_ | refine Look.at5 ?_ | refine Look.at6 ?_ | refine Look.at7 ?_ | refine Look.at8 ?_ | with_reducible refine Val.i64 (by omega) (by omega) ?_ | with_reducible refine Val.u8 (by omega) (by omega) ?_ | with_reducible refine Val.u32 (by omega) (by omega) ?_ | with_reducible refine Val.u64 (by omega) (by omega) ?_ | with_reducible refine Val.u8m ?_ | with_reducible refine Val.u32m ?_ | with_reducible refine Val.u64m ?_ | with_reducible refine Val.shr8 ?_ | with_reducible refine Val.shr16 (by decide) ?_ | with_reducible refine Val.shr24 (by decide) ?_ | with_reducible refine Val.raw ?_ | refine Branch.not ?_ | refine Branch.and ?_ | refine Branch.or ?_ | refine Branch.dt (by assumption) ?_ | refine Branch.df (by assumption) ?_ | refine Branch.dt rfl ?_ | refine Branch.dt (by omega) ?_ | refine Branch.df (by omega) ?_ | refine Branch.t rfl ?_ | refine Branch.f rfl ?_ | refine Branch.t (by assumption) ?_ | refine Branch.f (by assumption) ?_ | refine Branch.d (fun _ => ?_) (fun _ => ?_) | refine Branch.mk (fun _ => ?_) (fun _ => ?_) | refine Need.mk (by first | omega | decide | rfl) ?_ | refine Idx.nat (by omega) ?_ | refine Idx.auto (by first | omega | decide) (by first | omega | decide) ?_ | refine Cell.ro rfl ?_ | refine SDraw.all (by kernel_rfl) ?_ | refine Kept.k0 ?_ | refine Kept.k1 ?_ | refine Kept.k2 ?_ | refine Kept.k3 ?_ | refine Kept.k4 ?_))
  · have hat := put_at (z := z) (u := u) h3
    have hbb : isB b = true := by
      obtain ⟨c, hc, e⟩ := hR.lev rfl
      rw [UInt8.toNat_inj.1 e]
      exact hp c hc
    have hne := oth_ne hbb
    have htk : tk b.toNat 5 (oth b).toNat = 1 := by unfold tk; rw [if_neg hne]
    have h65 : ∀ (K2 : Value → Heap → Prop), (a < s.length → K2 (.int .u8 ((oth b).toNat : Int)) [rdB r s (a + 1) (oth b).toNat 1 pp sv]) → SCalls Tryd.prog 42 [ptr r] [rdB r s a b.toNat 5 pp sv] K2 := fun K2 hk =>
      c42 ha hl (by decide) (hs.same hat) (hs.dies hat) (fun h => by rw [htk]; exact hk h)
    have hk := fun h => hK (by omega)
    rw [h5, h6, ← h4] at hk
    have hne' : ¬ ((oth b).toNat : Int) = (b.toNat : Int) := by omega
    clear hK
    repeat' ((conv => whnf); (first | refine Branch.df (by decide) ?_ | with_reducible refine h65 _ (fun hlt => ?_) | refine Branch.df hne' ?_ | exact Keep.all (hk hlt) | refine New.mk (fun _ => ?_) | refine Look.at0 ?_ | refine Cell.row ?_ | refine Cell.buf ?_ | refine Cells.row rfl ?_ | refine Put.row rfl ?_ | refine Put.buf rfl ?_ | refine Look.at1 ?_ | refine Look.at2 ?_ | refine Look.at3 ?_ | refine Look.at4 ?_ | refine Look.at5 ?_ | refine Look.at6 ?_ | refine Look.at7 ?_ | refine Look.at8 ?_ | with_reducible refine Val.i64 (by omega) (by omega) ?_ | with_reducible refine Val.u8 (by omega) (by omega) ?_ | with_reducible refine Val.u32 (by omega) (by omega) ?_ | with_reducible refine Val.u64 (by omega) (by omega) ?_ | with_reducible refine Val.u8m ?_ | with_reducible refine Val.u32m ?_ | with_reducible refine Val.u64m ?_ | with_reducible refine Val.shr8 ?_ | with_reducible refine Val.shr16 (by decide) ?_ | with_reducible refine Val.shr24 (by decide) ?_ | with_reducible refine Val.raw ?_ | refine Branch.not ?_ | refine Branch.and ?_ | refine Branch.or ?_ | refine Branch.dt (by assumption) ?_ | refine Branch.df (by assumption) ?_ | refine Branch.dt rfl ?_ | refine Branch.dt (by omega) ?_ | refine Branch.df (by omega) ?_ | refine Branch.t rfl ?_ | refine Branch.f rfl ?_ | refine Branch.t (by assumption) ?_ | refine Branch.f (by assumption) ?_ | refine Branch.d (fun _ => ?_) (fun _ => ?_) | refine Branch.mk (fun _ => ?_) (fun _ => ?_) | refine Need.mk (by first | omega | decide | rfl) ?_ | refine Idx.nat (by omega) ?_ | refine Idx.auto (by first | omega | decide) (by first | omega | decide) ?_ | refine Cell.ro rfl ?_ | refine SDraw.all (by kernel_rfl) ?_ | refine Kept.k0 ?_ | refine Kept.k1 ?_ | refine Kept.k2 ?_ | refine Kept.k3 ?_ | refine Kept.k4 ?_))
end
inductive S33 (A0 A1 A5 A7 A8 : Value) : List Value → Prop
  | mk {r2 r3 r4 r6 r9 r10 r11 r12 r13 r14 r15 r16 r17 r18 r19 r20 r21 r22 r23 r24 r25 r26 : Value} : S33 A0 A1 A5 A7 A8 [A0, A1, r2, r3, r4, A5, r6, A7, A8, r9, r10, r11, r12, r13, r14, r15, r16, r17, r18, r19, r20, r21, r22, r23, r24, r25, r26]
theorem shl1 {v : Nat} (h : v < 2 ^ 32) : shlI .u64 (v : Int) 1 = ((v * 2 : Nat) : Int) := by
  have := shl_nat (k := .u64) rfl (a := v) (n := 1) (by decide)
  rw [Nat.mod_eq_of_lt (show v * 2 ^ 1 < 2 ^ IntKind.u64.bits by show v * 2 < 18446744073709551616; omega)] at this
  exact this
theorem or1 {v d : Nat} (h : v < 2 ^ 32) (hd : d < 2) : bitOr .u64 ((v * 2 : Nat) : Int) (d : Int) = ((v * 2 + d : Nat) : Int) := by
  rw [bitOr_nat rfl (by show v * 2 < 18446744073709551616; omega) (by show d < 18446744073709551616; omega)]
  congr 1
  have := Nat.two_pow_add_eq_or_of_lt (i := 1) (b := d) (by omega) v
  rw [show 2 ^ 1 * v = v * 2 by omega] at this
  omega
section
variable [Dies] {K : Value → Heap → Prop} {r : Nat} {s p q z u : List UInt8} {N : Heap}
theorem c33 {k : Nat} (hs : Src s ((stf (p ++ q ++ z)).out ++ u)) (hq : q.length = k) (hk : k ≤ 18) (hB : ∀ b ∈ p ++ q, isB b = true) (hl : p.length ≤ 200) (hN : RdH s r p N)
    (hK : ∀ N', RdH s r (p ++ q) N' → K (.int .u64 (vB q : Int)) N') : SCalls Tryd.prog 33 [ptr r, .int .i64 (k : Int)] N K := by
  refine enter33 ?_
  repeat' ((conv => whnf); (first | refine New.mk (fun _ => ?_) | refine Look.at0 ?_ | refine Cell.row ?_ | refine Cell.buf ?_ | refine Cells.row rfl ?_ | refine Put.row rfl ?_ | refine Put.buf rfl ?_ | refine Look.at1 ?_ | refine Look.at2 ?_ | refine Look.at3 ?_ | refine Look.at4 ?_ | refine Look.at5 ?_ | refine Look.at6 ?_ | refine Look.at7 ?_ | refine Look.at8 ?_ | with_reducible refine Val.i64 (by omega) (by omega) ?_ | with_reducible refine Val.u8 (by omega) (by omega) ?_ | with_reducible refine Val.u32 (by omega) (by omega) ?_ | with_reducible refine Val.u64 (by omega) (by omega) ?_ | with_reducible refine Val.u8m ?_ | with_reducible refine Val.u32m ?_ | with_reducible refine Val.u64m ?_ | with_reducible refine Val.shr8 ?_ | with_reducible refine Val.shr16 (by decide) ?_ | with_reducible refine Val.shr24 (by decide) ?_ | with_reducible refine Val.raw ?_ | refine Branch.not ?_ | refine Branch.and ?_ | refine Branch.or ?_ | refine Branch.dt (by assumption) ?_ | refine Branch.df (by assumption) ?_ | refine Branch.dt rfl ?_ | refine Branch.dt (by omega) ?_ | refine Branch.df (by omega) ?_ | refine Branch.t rfl ?_ | refine Branch.f rfl ?_ | refine Branch.t (by assumption) ?_ | refine Branch.f (by assumption) ?_ | refine Branch.d (fun _ => ?_) (fun _ => ?_) | refine Branch.mk (fun _ => ?_) (fun _ => ?_) | refine Need.mk (by first | omega | decide | rfl) ?_ | refine Idx.nat (by omega) ?_ | refine Idx.auto (by first | omega | decide) (by first | omega | decide) ?_ | refine Cell.ro rfl ?_ | refine SDraw.all (by kernel_rfl) ?_ | refine Kept.k0 ?_ | refine Kept.k1 ?_ | refine Kept.k2 ?_ | refine Kept.k3 ?_ | refine Kept.k4 ?_))
  refine SLoop.invA (fun (j : Nat) S H' => j ≤ k ∧ S33 (ptr r) (.int .i64 (k : Int)) (.int .u64 (vB (q.take j) : Int)) (.int .i64 (k : Int)) (.int .i64 (j : Int)) S ∧ RdH s r (p ++ q.take j) H') (fun j => k - j) 0 (Keep.all ⟨Nat.zero_le _, .mk, by simpa using hN⟩) ?_
  rintro j S H' ⟨hj, hS, hH⟩ R hR
  cases hS
  by_cases hlt : j < k
  · have hx := List.getElem?_eq_getElem (show j < q.length by omega)
    generalize q[j] = b at hx
    have htk : q.take (j + 1) = q.take j ++ [b] := by rw [List.take_add_one, hx]; rfl
    have hqs : q = q.take j ++ b :: q.drop (j + 1) := by
      have h1 := List.take_append_drop j q
      have h2 : q.drop j = b :: q.drop (j + 1) := by
        obtain ⟨h3, h4⟩ := List.getElem?_eq_some_iff.1 hx
        rw [List.drop_eq_getElem_cons h3, h4]
      rw [h2] at h1; exact h1.symm
    have hbB : isB b = true := hB b (List.mem_append_right _ (List.mem_of_getElem? hx))
    have hpB : ∀ c ∈ p ++ q.take j, isB c = true := fun c hc => hB c (by
      rcases List.mem_append.1 hc with h | h
      · exact List.mem_append_left _ h
      · exact List.mem_append_right _ (List.mem_of_mem_take h))
    have hvl : vB (q.take j) < 2 ^ 32 := by
      have h1 := vB_lt (q.take j) fun c hc => hB c (List.mem_append_right _ (List.mem_of_mem_take hc))
      have h2 : (q.take j).length ≤ 32 := by rw [List.length_take]; omega
      exact Nat.lt_of_lt_of_le h1 (Nat.pow_le_pow_right (by decide) h2)
    have hvn : vB (q.take (j + 1)) = vB (q.take j) * 2 + (b.toNat - 48) := by rw [htk, vB_snoc]; omega
    have hbl : (p ++ q.take j).length ≤ 300 := by rw [List.length_append, List.length_take]; omega
    have hsp : p ++ q ++ z = (p ++ q.take j) ++ b :: (q.drop (j + 1) ++ z) := by
      conv => lhs; rw [hqs]
      simp
    have hpn : p ++ q.take (j + 1) = p ++ q.take j ++ [b] := by rw [htk, List.append_assoc]
    have hnext : ∀ S H2, S33 (ptr r) (.int .i64 (k : Int)) (.int .u64 ((vB (q.take j) * 2 + (b.toNat - 48) : Nat) : Int)) (.int .i64 (k : Int)) (.int .i64 ((j + 1 : Nat) : Int)) S → RdH s r (p ++ q.take j ++ [b]) H2 → R S H2 := fun S H2 hS hH2 => hR (j + 1) S H2 (by omega) (Keep.all ⟨hlt, by rw [hvn]; exact hS, by rw [hpn]; exact hH2⟩)
    rw [hsp] at hs
    clear hR hK htk hqs hB hvn hsp hpn hN
    generalize p ++ q.take j = P at *
    generalize vB (q.take j) = v at *
    generalize q.drop (j + 1) ++ z = z2 at *
    cases hH with
    | @mk a lv n N hRA ha hBd =>
      cases hBd with
      | @mk pp sv M hpp hbuf =>
        have h53 : ∀ (K2 : Value → Heap → Prop), ((stf P).out.length ≤ s.length → K2 (.tuple ⟨[]⟩) (rdB r s (stf P).out.length (stf P).lv (stf P).n pp sv :: M)) → SCalls Tryd.prog 34 [ptr r] (rdB r s a lv n pp sv :: M) K2 := fun K2 hk => SCalls.at0 (c34 hs hpB hRA ha (fun h => hk h))
        have hbt := body_at (p := P) (z := z2) (b := b) (u := u)
        have h4 := (St.ok P).1
        have h65 : (stf P).out.length ≤ s.length → ∀ (K2 : Value → Heap → Prop), ((stf P).out.length < s.length → K2 (.int .u8 (b.toNat : Int)) (rdB r s ((stf P).out.length + 1) b.toNat (tk (stf P).lv (stf P).n b.toNat) pp sv :: M)) → SCalls Tryd.prog 42 [ptr r] (rdB r s (stf P).out.length (stf P).lv (stf P).n pp sv :: M) K2 :=
          fun ha K2 hk => SCalls.at0 (c42 ha hs.lim (by omega) (hs.same hbt) (hs.dies hbt) (fun h => hk h))
        have h66 : ∀ (K2 : Value → Heap → Prop), (∀ N', Bld 67 r (rdC s ((stf P).out.length + 1) b.toNat (tk (stf P).lv (stf P).n b.toNat)) (P ++ [b]) N' → K2 .nilIface N') → SCalls Tryd.prog 43 [.pointer (some ⟨r, 4, none⟩), .int .u8 (b.toNat : Int)] (rdB r s ((stf P).out.length + 1) b.toNat (tk (stf P).lv (stf P).n b.toNat) pp sv :: M) K2 :=
          fun K2 hk => SCalls.calm (c43 (T := 67) (pre := rdC s ((stf P).out.length + 1) b.toNat (tk (stf P).lv (stf P).n b.toNat)) bt73 (.mk hpp hbuf) (by omega) hk)
        have hnx : (stf P).out.length < s.length → ∀ N', Bld 67 r (rdC s ((stf P).out.length + 1) b.toNat (tk (stf P).lv (stf P).n b.toNat)) (P ++ [b]) N' → RdH s r (P ++ [b]) N' := fun h N' hb => .mk (RdAt.more P b) h hb
        have hb2 := isB_cases hbB
        have e1 := shl1 hvl
        have e2 : bitOr .u64 ((v * 2 : Nat) : Int) ((b.toNat : Int) - 48) = ((v * 2 + (b.toNat - 48) : Nat) : Int) := by
          have := or1 (d := b.toNat - 48) hvl (by omega)
          rw [show ((b.toNat - 48 : Nat) : Int) = (b.toNat : Int) - 48 by omega] at this
          exact this
        have ej : ((j + 1 : Nat) : Int) = (j : Int) + 1 := by omega
        rw [ej] at hnext
        clear hbuf hs
        repeat' ((conv => whnf); (first | refine Branch.dt (by omega) ?_ | refine h53 _ (fun hle => ?_) | with_reducible refine h65 hle _ (fun hlt2 => ?_) | with_reducible refine h66 _ (fun N' hN' => ?_) | with_reducible refine Val.to _ e1 ?_ | with_reducible refine Val.to _ e2 ?_ | exact hnext _ _ .mk (hnx hlt2 _ hN') | refine New.mk (fun _ => ?_) | refine Look.at0 ?_ | refine Cell.row ?_ | refine Cell.buf ?_ | refine Cells.row rfl ?_ | refine Put.row rfl ?_ | refine Put.buf rfl ?_ | refine Look.at1 ?_ | refine Look.at2 ?_ | refine Look.at3 ?_ | refine Look.at4 ?_ | refine Look.at5 ?_ | refine Look.at6 ?_ | refine Look.at7 ?_ | refine Look.at8 ?_ | with_reducible refine Val.i64 (by omega) (by omega) ?_ | with_reducible refine Val.u8 (by omega) (by omega) ?_ | with_reducible refine Val.u32 (by omega) (by omega) ?_ | with_reducible refine Val.u64 (by omega) (by omega) ?_ | with_reducible refine Val.u8m ?_ | with_reducible refine Val.u32m ?_ | with_reducible refine Val.u64m ?_ | with_reducible refine Val.shr8 ?_ | with_reducible refine Val.shr16 (by decide) ?_ | with_reducible refine Val.shr24 (by decide) ?_ | with_reducible refine Val.raw ?_ | refine Branch.not ?_ | refine Branch.and ?_ | refine Branch.or ?_ | refine Branch.dt (by assumption) ?_ | refine Branch.df (by assumption) ?_ | refine Branch.dt rfl ?_ | refine Branch.dt (by omega) ?_ | refine Branch.df (by omega) ?_ | refine Branch.t rfl ?_ | refine Branch.f rfl ?_ | refine Branch.t (by assumption) ?_ | refine Branch.f (by assumption) ?_ | refine Branch.d (fun _ => ?_) (fun _ => ?_) | refine Branch.mk (fun _ => ?_) (fun _ => ?_) | refine Need.mk (by first | omega | decide | rfl) ?_ | refine Idx.nat (by omega) ?_ | refine Idx.auto (by first | omega | decide) (by first | omega | decide) ?_ | refine Cell.ro rfl ?_ | refine SDraw.all (by kernel_rfl) ?_ | refine Kept.k0 ?_ | refine Kept.k1 ?_ | refine Kept.k2 ?_ | refine Kept.k3 ?_ | refine Kept.k4 ?_))
  · obtain rfl : j = k := by omega
    rw [List.take_of_length_le (by omega)] at hH
    have hk2 := hK _ hH
    rw [List.take_of_length_le (by omega)]
    clear hR hK
    repeat' ((conv => whnf); (first | refine Branch.df (by omega) ?_ | exact Keep.all hk2 | refine New.mk (fun _ => ?_) | refine Look.at0 ?_ | refine Cell.row ?_ | refine Cell.buf ?_ | refine Cells.row rfl ?_ | refine Put.row rfl ?_ | refine Put.buf rfl ?_ | refine Look.at1 ?_ | refine Look.at2 ?_ | refine Look.at3 ?_ | refine Look.at4 ?_ | refine Look.at5 ?_ | refine Look.at6 ?_ | refine Look.at7 ?_ | refine Look.at8 ?_ | with_reducible refine Val.i64 (by omega) (by omega) ?_ | with_reducible refine Val.u8 (by omega) (by omega) ?_ | with_reducible refine Val.u32 (by omega) (by omega) ?_ | with_reducible refine Val.u64 (by omega) (by omega) ?_ | with_reducible refine Val.u8m ?_ | with_reducible refine Val.u32m ?_ | with_reducible refine Val.u64m ?_ | with_reducible refine Val.shr8 ?_ | with_reducible refine Val.shr16 (by decide) ?_ | with_reducible refine Val.shr24 (by decide) ?_ | with_reducible refine Val.raw ?_ | refine Branch.not ?_ | refine Branch.and ?_ | refine Branch.or ?_ | refine Branch.dt (by assumption) ?_ | refine Branch.df (by assumption) ?_ | refine Branch.dt rfl ?_ | refine Branch.dt (by omega) ?_ | refine Branch.df (by omega) ?_ | refine Branch.t rfl ?_ | refine Branch.f rfl ?_ | refine Branch.t (by assumption) ?_ | refine Branch.f (by assumption) ?_ | refine Branch.d (fun _ => ?_) (fun _ => ?_) | refine Branch.mk (fun _ => ?_) (fun _ => ?_) | refine Need.mk (by first | omega | decide | rfl) ?_ | refine Idx.nat (by omega) ?_ | refine Idx.auto (by first | omega | decide) (by first | omega | decide) ?_ | refine Cell.ro rfl ?_ | refine SDraw.all (by kernel_rfl) ?_ | refine Kept.k0 ?_ | refine Kept.k1 ?_ | refine Kept.k2 ?_ | refine Kept.k3 ?_ | refine Kept.k4 ?_))
end
end Go.Proofs.YtiaginlnapiijaaDoor

/- Ported (port.py) from FmG. -/
set_option linter.unusedVariables false
set_option linter.unusedSimpArgs false
set_option maxRecDepth 100000
set_option maxHeartbeats 4000000
namespace Go.Proofs.YtiaginlnapiijaaDoor
open Sx
theorem bodyB_ok (f : Fm) : ∀ b ∈ bodyB f, isB b = true := by
  intro b hb
  rcases List.mem_append.1 hb with h | h
  · exact sumB_ok _ _ h
  · exact numB_ok _ _ _ h
section
variable [Dies] {K : Value → Heap → Prop} {r : Nat} {s p q z u body t : List UInt8} {N : Heap} {x y : Nat × Blk}
/-- Bits are taken from a body. -/
theorem m52 {k : Nat} (hs : Src s ((stf body).out ++ u)) (hsp : body = p ++ q ++ z) (hq : q.length = k) (hk : k ≤ 18) (hB : ∀ b ∈ body, isB b = true) (hl : body.length ≤ 118) (hN : RdH s r p N)
    (hK : ∀ N', RdH s r (p ++ q) N' → K (.int .u64 (vB q : Int)) (x :: y :: N')) : SCalls Tryd.prog 33 [ptr r, .int .i64 (k : Int)] (x :: y :: N) K := by
  rw [hsp] at hs
  refine SCalls.under [x, y] (c33 hs hq hk (fun b hb => hB b (by rw [hsp]; exact List.mem_append_left _ hb)) ?_ hN hK)
  rw [hsp] at hl
  simp only [List.length_append] at hl
  omega
/-- What was put in behind the body's last bit is left out. -/
theorem m53 (hs : Src s ((stf p).out ++ u)) (hB : ∀ b ∈ p, isB b = true) (hN : RdH s r p N) (hK : ∀ N', RdD s r p 0 N' → K (.tuple ⟨[]⟩) (x :: y :: N')) : SCalls Tryd.prog 34 [ptr r] (x :: y :: N) K := by
  have hs : Src s ((stf (p ++ [])).out ++ u) := by rwa [List.append_nil]
  refine SCalls.under [x, y] ?_
  cases hN with
  | @mk a lv n N hRA ha hBd =>
    cases hBd with
    | @mk pp sv M hpp hbuf =>
      exact SCalls.at0 (c34 hs hB hRA ha (fun h => hK _ (.mk (lv := (stf p).lv) (n := (stf p).n) rfl h (.mk hpp hbuf))))
/-- The reader's text. -/
theorem m34 (hN : RdH s r p N) (hK : ∀ N', RdH s r p N' → K (.string (strOf p)) (x :: y :: N')) : SCalls Tryd.prog 20 [.pointer (some ⟨r, 4, none⟩)] (x :: y :: N) K := by
  refine SCalls.under [x, y] ?_
  cases hN with
  | @mk a lv n N hRA ha hBd => exact SCalls.calm (c20 (T := 67) (pre := rdC s a lv n) hBd (fun N' h => hK _ (.mk hRA ha h)))
/-- A bit behind the body. -/
theorem m54 {k : Nat} {e : Int} {b c : UInt8} (hs : Src s t) (hN : RdD s r p k N) (hb : t[(stf p).out.length + k]? = some b) (hD2 : (stf p).out.length + k < s.length → ¬ b = c → Dies.D (wrg ((stf p).out.length + k : Nat) e))
    (hK : ∀ N', b = c → RdD s r p (k + 1) N' → K (.tuple ⟨[]⟩) N') : SCalls Tryd.prog 35 [ptr r, .int .u8 (c.toNat : Int), .int .i64 e] N K := by
  cases hN with
  | @mk a lv n N ha0 ha hBd =>
    subst ha0
    cases hBd with
    | @mk pp sv M hpp hbuf =>
      exact SCalls.at0 (c35 (by omega) hs.lim (hs.same hb) (hs.dies hb) hD2 (fun h e => hK _ e (.mk (lv := lv) (n := n) rfl h (.mk hpp hbuf))))
end
inductive S24 (A0 A2 A3 A54 A55 : Value) : List Value → Prop
  | mk {r1 r4 r5 r6 r7 r8 r9 r10 r11 r12 r13 r14 r15 r16 r17 r18 r19 r20 r21 r22 r23 r24 r25 r26 r27 r28 r29 r30 r31 r32 r33 r34 r35 r36 r37 r38 r39 r40 r41 r42 r43 r44 r45 r46 r47 r48 r49 r50 r51 r52 r53 r56 r57 r58 r59 r60 r61 r62 r63 r64 r65 r66 r67 r68 r69 r70 r71 r72 r73 r74 r75 r76 r77 r78 r79 r80 r81 r82 r83 r84 r85 r86 r87 r88 r89 r90 r91 r92 r93 r94 r95 r96 : Value} : S24 A0 A2 A3 A54 A55 [A0, r1, A2, A3, r4, r5, r6, r7, r8, r9, r10, r11, r12, r13, r14, r15, r16, r17, r18, r19, r20, r21, r22, r23, r24, r25, r26, r27, r28, r29, r30, r31, r32, r33, r34, r35, r36, r37, r38, r39, r40, r41, r42, r43, r44, r45, r46, r47, r48, r49, r50, r51, r52, r53, A54, A55, r56, r57, r58, r59, r60, r61, r62, r63, r64, r65, r66, r67, r68, r69, r70, r71, r72, r73, r74, r75, r76, r77, r78, r79, r80, r81, r82, r83, r84, r85, r86, r87, r88, r89, r90, r91, r92, r93, r94, r95, r96]
inductive T37 (A0 A2 A3 A91 : Value) : List Value → Prop
  | mk {r1 r4 r5 r6 r7 r8 r9 r10 r11 r12 r13 r14 r15 r16 r17 r18 r19 r20 r21 r22 r23 r24 r25 r26 r27 r28 r29 r30 r31 r32 r33 r34 r35 r36 r37 r38 r39 r40 r41 r42 r43 r44 r45 r46 r47 r48 r49 r50 r51 r52 r53 r54 r55 r56 r57 r58 r59 r60 r61 r62 r63 r64 r65 r66 r67 r68 r69 r70 r71 r72 r73 r74 r75 r76 r77 r78 r79 r80 r81 r82 r83 r84 r85 r86 r87 r88 r89 r90 r92 r93 r94 r95 r96 : Value} : T37 A0 A2 A3 A91 [A0, r1, A2, A3, r4, r5, r6, r7, r8, r9, r10, r11, r12, r13, r14, r15, r16, r17, r18, r19, r20, r21, r22, r23, r24, r25, r26, r27, r28, r29, r30, r31, r32, r33, r34, r35, r36, r37, r38, r39, r40, r41, r42, r43, r44, r45, r46, r47, r48, r49, r50, r51, r52, r53, r54, r55, r56, r57, r58, r59, r60, r61, r62, r63, r64, r65, r66, r67, r68, r69, r70, r71, r72, r73, r74, r75, r76, r77, r78, r79, r80, r81, r82, r83, r84, r85, r86, r87, r88, r89, r90, A91, r92, r93, r94, r95, r96]
abbrev zRow : Blk := .row 33 [.int .u32 0, .bool false, .bool false, .int .i64 0, .int .u8 0, .int .u8 0, .int .u8 0, .int .u8 0, .int .u8 0, .int .u8 0, .int .u8 0, .int .u8 0] (0, 0)
section
variable [Dies] {r q2 q3 : Nat} {s u : List UInt8} {f : Fm} {N0 : Heap} {S0 : List Value} {Q : Post}
theorem l37 (hs : Src s ((stf (bodyB f)).out ++ u)) (hN : RdH s r (hdB f) N0) (hS : S24 (ptr r) (ptr q2) (ptr q3) (.int .i64 (nb f : Int)) (.int .i64 0) S0)
    (hQ : ∀ S N, RdH s r (sumB f) N → S24 (ptr r) (ptr q2) (ptr q3) (.int .i64 (nb f : Int)) (.int .i64 (nb f : Int)) S → Q (.exit 0) S ((q3, .row 33 (frC (plF f)) (0, 0)) :: (q2, zRow) :: N)) :
    SLoop Tryd.prog X24_l1 Q S0 ((q3, .row 33 (frC (zs f 0 8)) (0, 0)) :: (q2, zRow) :: N0) := by
  have hnb := nb_le f
  refine SLoop.invA (fun (k : Nat) S H' => k ≤ nb f ∧ S24 (ptr r) (ptr q2) (ptr q3) (.int .i64 (nb f : Int)) (.int .i64 (k : Int)) S ∧ ∃ N, RdH s r (hdB f ++ datB f k) N ∧ H' = (q3, .row 33 (frC (zs f k 8)) (0, 0)) :: (q2, zRow) :: N) (fun k => nb f - k) 0 (Keep.all ⟨Nat.zero_le _, hS, N0, by simpa [datB] using hN, rfl⟩) ?_
  rintro k S H' ⟨hk, hS, N, hN, rfl⟩ R hR
  cases hS
  by_cases hlt : k < nb f
  · have h8 : k < 8 := by omega
    obtain ⟨z, hz⟩ := datB_split f hlt hnb
    have hsp : bodyB f = (hdB f ++ datB f k) ++ numB 8 ((dB f).getD k 0).toNat ++ (z ++ numB 15 (crc (sumB f))) := by
      unfold bodyB
      conv => lhs; lhs; unfold sumB; rw [hz]
      simp [List.append_assoc]
    have hst := datB_step f h8
    have h52 : ∀ (K2 : Value → Heap → Prop), (∀ N', RdH s r (hdB f ++ datB f (k + 1)) N' → K2 (.int .u64 (((dB f).getD k 0).toNat : Int)) ((q3, .row 33 (frC (zs f k 8)) (0, 0)) :: (q2, zRow) :: N')) →
        SCalls Tryd.prog 33 [ptr r, .int .i64 8] ((q3, .row 33 (frC (zs f k 8)) (0, 0)) :: (q2, zRow) :: N) K2 := fun K2 hk2 =>
      m52 (k := 8) hs hsp (numB_len _ _) (by decide) (bodyB_ok f) (bodyB_len f) hN (fun N' h => by
        rw [vB_byte]
        exact hk2 N' (by rw [hst, ← List.append_assoc]; exact h))
    have hput : PutOk (.row 33 (frC (zs f k 8)) (0, 0)) (4 + k * 1) [b8 ((dB f).getD k 0)] (.row 33 (frC (zs f (k + 1) 8)) (0, 0)) := PutOk.row (by show 4 + k * 1 + 1 ≤ 12; omega) (by
      rw [← zs_step f h8, ← set_cut (show 4 + k < 12 by omega), Nat.mul_one]; rfl)
    have hnext := fun S N' (h1 : RdH s r (hdB f ++ datB f (k + 1)) N') hS => hR (k + 1) S _ (by omega) (Keep.all ⟨hlt, hS, N', h1, rfl⟩)
    have h256 : ((dB f).getD k 0).toNat < 256 := u8_lt _
    generalize (dB f).getD k 0 = d at *
    have hu8 : IntKind.u8.wrap (d.toNat : Int) = (d.toNat : Int) := by rw [wrap_u8]; omega
    clear hR hQ hsp hz hs hst hN
    repeat' ((conv => whnf); (first | refine Branch.dt (by omega) ?_ | with_reducible refine h52 _ (fun N' hN' => ?_) | with_reducible refine Val.to _ hu8 ?_ | refine Idx.nat h8 ?_ | refine ⟨[], _, _, rfl, _, hput, appK_to ?_⟩ | exact hnext _ _ hN' .mk | refine New.mk (fun _ => ?_) | refine Look.at0 ?_ | refine Cell.row ?_ | refine Cell.buf ?_ | refine Cells.row rfl ?_ | refine Put.row rfl ?_ | refine Put.buf rfl ?_ | refine Look.at1 ?_ | refine Look.at2 ?_ | refine Look.at3 ?_ | refine Look.at4 ?_ | refine Look.at5 ?_ | refine Look.at6 ?_ | refine Look.at7 ?_ | refine Look.at8 ?_ | with_reducible refine Val.i64 (by omega) (by omega) ?_ | with_reducible refine Val.u8 (by omega) (by omega) ?_ | with_reducible refine Val.u32 (by omega) (by omega) ?_ | with_reducible refine Val.u64 (by omega) (by omega) ?_ | with_reducible refine Val.u8m ?_ | with_reducible refine Val.u32m ?_ | with_reducible refine Val.u64m ?_ | with_reducible refine Val.shr8 ?_ | with_reducible refine Val.shr16 (by decide) ?_ | with_reducible refine Val.shr24 (by decide) ?_ | with_reducible refine Val.raw ?_ | refine Branch.not ?_ | refine Branch.and ?_ | refine Branch.or ?_ | refine Branch.dt (by assumption) ?_ | refine Branch.df (by assumption) ?_ | refine Branch.dt rfl ?_ | refine Branch.dt (by omega) ?_ | refine Branch.df (by omega) ?_ | refine Branch.t rfl ?_ | refine Branch.f rfl ?_ | refine Branch.t (by assumption) ?_ | refine Branch.f (by assumption) ?_ | refine Branch.d (fun _ => ?_) (fun _ => ?_) | refine Branch.mk (fun _ => ?_) (fun _ => ?_) | refine Need.mk (by first | omega | decide | rfl) ?_ | refine Idx.nat (by omega) ?_ | refine Idx.auto (by first | omega | decide) (by first | omega | decide) ?_ | refine Cell.ro rfl ?_ | refine SDraw.all (by kernel_rfl) ?_ | refine Kept.k0 ?_ | refine Kept.k1 ?_ | refine Kept.k2 ?_ | refine Kept.k3 ?_ | refine Kept.k4 ?_))
  · obtain rfl : k = nb f := by omega
    have hq := fun S => hQ S N hN
    clear hR hQ
    repeat' ((conv => whnf); (first | refine Branch.df (by omega) ?_ | exact Keep.all (hq _ .mk) | exact hq _ .mk | refine New.mk (fun _ => ?_) | refine Look.at0 ?_ | refine Cell.row ?_ | refine Cell.buf ?_ | refine Cells.row rfl ?_ | refine Put.row rfl ?_ | refine Put.buf rfl ?_ | refine Look.at1 ?_ | refine Look.at2 ?_ | refine Look.at3 ?_ | refine Look.at4 ?_ | refine Look.at5 ?_ | refine Look.at6 ?_ | refine Look.at7 ?_ | refine Look.at8 ?_ | with_reducible refine Val.i64 (by omega) (by omega) ?_ | with_reducible refine Val.u8 (by omega) (by omega) ?_ | with_reducible refine Val.u32 (by omega) (by omega) ?_ | with_reducible refine Val.u64 (by omega) (by omega) ?_ | with_reducible refine Val.u8m ?_ | with_reducible refine Val.u32m ?_ | with_reducible refine Val.u64m ?_ | with_reducible refine Val.shr8 ?_ | with_reducible refine Val.shr16 (by decide) ?_ | with_reducible refine Val.shr24 (by decide) ?_ | with_reducible refine Val.raw ?_ | refine Branch.not ?_ | refine Branch.and ?_ | refine Branch.or ?_ | refine Branch.dt (by assumption) ?_ | refine Branch.df (by assumption) ?_ | refine Branch.dt rfl ?_ | refine Branch.dt (by omega) ?_ | refine Branch.df (by omega) ?_ | refine Branch.t rfl ?_ | refine Branch.f rfl ?_ | refine Branch.t (by assumption) ?_ | refine Branch.f (by assumption) ?_ | refine Branch.d (fun _ => ?_) (fun _ => ?_) | refine Branch.mk (fun _ => ?_) (fun _ => ?_) | refine Need.mk (by first | omega | decide | rfl) ?_ | refine Idx.nat (by omega) ?_ | refine Idx.auto (by first | omega | decide) (by first | omega | decide) ?_ | refine Cell.ro rfl ?_ | refine SDraw.all (by kernel_rfl) ?_ | refine Kept.k0 ?_ | refine Kept.k1 ?_ | refine Kept.k2 ?_ | refine Kept.k3 ?_ | refine Kept.k4 ?_))
theorem l37b {qi : Nat} {F : Nat × Blk} {t p : List UInt8} {S0 : List Value} (hs : Src s t) (hN : RdD s r p 2 N0) (ht : ∀ j, j < 8 → t[(stf p).out.length + (2 + j)]? = some 49) (hS : T37 (ptr r) (ptr q2) (ptr q3) (ptr qi) S0)
    (hQ : ∀ S N, RdD s r p 10 N → T37 (ptr r) (ptr q2) (ptr q3) (ptr qi) S → Q (.exit 2) S ((qi, sIter (strOf (List.replicate 8 49)) 8) :: F :: (q2, zRow) :: N)) :
    SLoop Tryd.prog X24_l0 Q S0 ((qi, sIter (strOf (List.replicate 8 49)) 0) :: F :: (q2, zRow) :: N0) := by
  refine SLoop.invA (fun (j : Nat) S H' => j ≤ 8 ∧ T37 (ptr r) (ptr q2) (ptr q3) (ptr qi) S ∧ ∃ N, RdD s r p (2 + j) N ∧ H' = (qi, sIter (strOf (List.replicate 8 49)) j) :: F :: (q2, zRow) :: N) (fun j => 8 - j) 0 (Keep.all ⟨Nat.zero_le _, hS, N0, hN, rfl⟩) ?_
  rintro j S H' ⟨hj, hS, N, hN, rfl⟩ R hR
  cases hS
  have h128 : ∀ b ∈ List.replicate 8 (49 : UInt8), b.toNat < 128 := by decide
  by_cases hlt : j < 8
  · have hx : (List.replicate 8 (49 : UInt8))[j]? = some 49 := by
      rw [List.getElem?_replicate, if_pos hlt]
    have hnx : ∀ (K2 : Value → Heap → Prop), K2 (.tuple ⟨[.bool true, .int .i64 (j : Int), .int .i32 49]⟩) ((qi, sIter (strOf (List.replicate 8 49)) (j + 1)) :: F :: (q2, zRow) :: N) → ∀ o xm, Oper.op o = .next xm true → RawV Tryd.prog o [ptr qi] ((qi, sIter (strOf (List.replicate 8 49)) j) :: F :: (q2, zRow) :: N) K2 := fun K2 hk o xm ho =>
      RawV.nextS0 ho h128 (fun h => by simp at h; omega) (fun b2 hb2 => by rw [hx] at hb2; injection hb2 with hb2; subst hb2; exact hk)
    have h54 : ∀ (A : Nat × Blk) (K2 : Value → Heap → Prop), (∀ N', RdD s r p (2 + (j + 1)) N' → K2 (.tuple ⟨[]⟩) (A :: F :: (q2, zRow) :: N')) → SCalls Tryd.prog 35 [ptr r, .int .u8 49, .int .i64 22] (A :: F :: (q2, zRow) :: N) K2 := fun A K2 hk =>
      SCalls.under [A, F, (q2, zRow)] (m54 (c := 49) hs hN (ht j hlt) (fun _ h => absurd rfl h) (fun N' _ h => hk N' h))
    have hnext := fun S N' (h1 : RdD s r p (2 + (j + 1)) N') hS => hR (j + 1) S _ (by omega) (Keep.all ⟨hlt, hS, N', h1, rfl⟩)
    clear hR hQ
    repeat' ((conv => whnf); (first | with_reducible refine hnx _ ?_ _ _ rfl | with_reducible refine h54 _ _ (fun N' hN' => ?_) | exact hnext _ _ hN' .mk | refine New.mk (fun _ => ?_) | refine Look.at0 ?_ | refine Cell.row ?_ | refine Cell.buf ?_ | refine Cells.row rfl ?_ | refine Put.row rfl ?_ | refine Put.buf rfl ?_ | refine Look.at1 ?_ | refine Look.at2 ?_ | refine Look.at3 ?_ | refine Look.at4 ?_ | refine Look.at5 ?_ | refine Look.at6 ?_ | refine Look.at7 ?_ | refine Look.at8 ?_ | with_reducible refine Val.i64 (by omega) (by omega) ?_ | with_reducible refine Val.u8 (by omega) (by omega) ?_ | with_reducible refine Val.u32 (by omega) (by omega) ?_ | with_reducible refine Val.u64 (by omega) (by omega) ?_ | with_reducible refine Val.u8m ?_ | with_reducible refine Val.u32m ?_ | with_reducible refine Val.u64m ?_ | with_reducible refine Val.shr8 ?_ | with_reducible refine Val.shr16 (by decide) ?_ | with_reducible refine Val.shr24 (by decide) ?_ | with_reducible refine Val.raw ?_ | refine Branch.not ?_ | refine Branch.and ?_ | refine Branch.or ?_ | refine Branch.dt (by assumption) ?_ | refine Branch.df (by assumption) ?_ | refine Branch.dt rfl ?_ | refine Branch.dt (by omega) ?_ | refine Branch.df (by omega) ?_ | refine Branch.t rfl ?_ | refine Branch.f rfl ?_ | refine Branch.t (by assumption) ?_ | refine Branch.f (by assumption) ?_ | refine Branch.d (fun _ => ?_) (fun _ => ?_) | refine Branch.mk (fun _ => ?_) (fun _ => ?_) | refine Need.mk (by first | omega | decide | rfl) ?_ | refine Idx.nat (by omega) ?_ | refine Idx.auto (by first | omega | decide) (by first | omega | decide) ?_ | refine Cell.ro rfl ?_ | refine SDraw.all (by kernel_rfl) ?_ | refine Kept.k0 ?_ | refine Kept.k1 ?_ | refine Kept.k2 ?_ | refine Kept.k3 ?_ | refine Kept.k4 ?_))
  · obtain rfl : j = 8 := by omega
    have hq := fun S => hQ S N hN
    have hnx : ∀ (K2 : Value → Heap → Prop), K2 (.tuple ⟨[.bool false]⟩) ((qi, sIter (strOf (List.replicate 8 49)) 8) :: F :: (q2, zRow) :: N) → ∀ o xm, Oper.op o = .next xm true → RawV Tryd.prog o [ptr qi] ((qi, sIter (strOf (List.replicate 8 49)) 8) :: F :: (q2, zRow) :: N) K2 := fun K2 hk o xm ho =>
      RawV.nextS0 ho h128 (fun h => hk) (fun b2 hb2 => by simp [List.getElem?_replicate] at hb2)
    clear hR hQ
    repeat' ((conv => whnf); (first | with_reducible refine hnx _ ?_ _ _ rfl | exact hq _ .mk | refine New.mk (fun _ => ?_) | refine Look.at0 ?_ | refine Cell.row ?_ | refine Cell.buf ?_ | refine Cells.row rfl ?_ | refine Put.row rfl ?_ | refine Put.buf rfl ?_ | refine Look.at1 ?_ | refine Look.at2 ?_ | refine Look.at3 ?_ | refine Look.at4 ?_ | refine Look.at5 ?_ | refine Look.at6 ?_ | refine Look.at7 ?_ | refine Look.at8 ?_ | with_reducible refine Val.i64 (by omega) (by omega) ?_ | with_reducible refine Val.u8 (by omega) (by omega) ?_ | with_reducible refine Val.u32 (by omega) (by omega) ?_ | with_reducible refine Val.u64 (by omega) (by omega) ?_ | with_reducible refine Val.u8m ?_ | with_reducible refine Val.u32m ?_ | with_reducible refine Val.u64m ?_ | with_reducible refine Val.shr8 ?_ | with_reducible refine Val.shr16 (by decide) ?_ | with_reducible refine Val.shr24 (by decide) ?_ | with_reducible refine Val.raw ?_ | refine Branch.not ?_ | refine Branch.and ?_ | refine Branch.or ?_ | refine Branch.dt (by assumption) ?_ | refine Branch.df (by assumption) ?_ | refine Branch.dt rfl ?_ | refine Branch.dt (by omega) ?_ | refine Branch.df (by omega) ?_ | refine Branch.t rfl ?_ | refine Branch.f rfl ?_ | refine Branch.t (by assumption) ?_ | refine Branch.f (by assumption) ?_ | refine Branch.d (fun _ => ?_) (fun _ => ?_) | refine Branch.mk (fun _ => ?_) (fun _ => ?_) | refine Need.mk (by first | omega | decide | rfl) ?_ | refine Idx.nat (by omega) ?_ | refine Idx.auto (by first | omega | decide) (by first | omega | decide) ?_ | refine Cell.ro rfl ?_ | refine SDraw.all (by kernel_rfl) ?_ | refine Kept.k0 ?_ | refine Kept.k1 ?_ | refine Kept.k2 ?_ | refine Kept.k3 ?_ | refine Kept.k4 ?_))
end
end Go.Proofs.YtiaginlnapiijaaDoor

/- Ported (port.py) from FmH. -/
set_option linter.unusedVariables false
set_option linter.unusedSimpArgs false
set_option maxRecDepth 100000
set_option maxHeartbeats 4000000
namespace Go.Proofs.YtiaginlnapiijaaDoor
open Sx
/-- A bit's number. -/
def bN (b : Bool) : Nat := if b then 1 else 0
theorem vB_fb (b : Bool) : vB [fb b] = bN b := by cases b <;> rfl
theorem bN_one (b : Bool) : decide ((bN b : Int) = 1) = b := by cases b <;> rfl
theorem bN_lt (b : Bool) : bN b < 2 := by cases b <;> decide
/-- What stands behind the head. -/
def restB (f : Fm) : List UInt8 := datB f (nb f) ++ numB 15 (crc (sumB f))
theorem body_rest (f : Fm) : bodyB f = hdB f ++ restB f := by
  unfold bodyB restB
  conv => lhs; lhs; unfold sumB
  simp [List.append_assoc]
theorem idOr {i1 i2 : Nat} (h1 : i1 < 2048) (h2 : i2 < 262144) : shlI .u32 (i1 : Int) 18 = ((i1 * 262144 : Nat) : Int) ∧ bitOr .u32 ((i1 * 262144 : Nat) : Int) (i2 : Int) = ((i1 * 262144 + i2 : Nat) : Int) := by
  constructor
  · have := shl_nat (k := .u32) rfl (a := i1) (n := 18) (by decide)
    rw [Nat.mod_eq_of_lt (show i1 * 2 ^ 18 < 2 ^ IntKind.u32.bits by show i1 * 262144 < 4294967296; omega)] at this
    exact this
  · rw [bitOr_nat rfl (by show i1 * 262144 < 4294967296; omega) (by show i2 < 4294967296; omega)]
    congr 1
    have := Nat.two_pow_add_eq_or_of_lt (i := 18) (b := i2) h2 i1
    rw [show 2 ^ 18 * i1 = i1 * 262144 by omega] at this
    omega
section
variable [Dies] {K : Value → Heap → Prop} {r : Nat} {s u : List UInt8} {f : Fm} {ack : Bool} {N0 : Heap}
theorem c24 (hok : okF f = true) (hs : Src s (encB f ack ++ u)) (hN : RdH s r [] N0) (hD2 : ack = false → (stf (bodyB f)).out.length + 1 < s.length → Dies.D (wrg ((stf (bodyB f)).out.length + 1 : Nat) 23))
    (hK : ack = true → ∀ N', RdD s r (bodyB f) 10 N' → K (frV (plF f)) N') : SCalls Tryd.prog 24 [ptr r] N0 K := by
  have hs' : Src s ((stf (bodyB f)).out ++ ([49, fb (!ack)] ++ List.replicate 8 49 ++ u)) := by
    have e : encB f ack ++ u = (stf (bodyB f)).out ++ ([49, fb (!ack)] ++ List.replicate 8 49 ++ u) := by unfold encB; simp [List.append_assoc]
    rwa [e] at hs
  have ht : ∀ k, (encB f ack ++ u)[(stf (bodyB f)).out.length + k]? = ([49, fb (!ack)] ++ List.replicate 8 49 ++ u)[k]? := fun k => by
    have e : encB f ack ++ u = (stf (bodyB f)).out ++ ([49, fb (!ack)] ++ List.replicate 8 49 ++ u) := by unfold encB; simp [List.append_assoc]
    rw [e, List.getElem?_append_right (by omega), Nat.add_sub_cancel_left]
  have ht0 : (encB f ack ++ u)[(stf (bodyB f)).out.length + 0]? = some 49 := by rw [ht]; rfl
  have ht1 : (encB f ack ++ u)[(stf (bodyB f)).out.length + (0 + 1)]? = some (fb (!ack)) := by rw [ht]; rfl
  have ht2 : ∀ j, j < 8 → (encB f ack ++ u)[(stf (bodyB f)).out.length + (2 + j)]? = some 49 := fun j hj => by
    rw [ht]
    rcases lt8 hj with rfl | rfl | rfl | rfl | rfl | rfl | rfl | rfl <;> rfl
  obtain ⟨hid, hn0, hn1⟩ := okF_bd hok
  have hnn : (f.n.toNat : Int) = f.n := Int.toNat_of_nonneg hn0
  have hn15 : f.n.toNat ≤ 15 := by omega
  have hn16 : vB (numB 4 f.n.toNat) = f.n.toNat := vB_numB 4 _ (by omega)
  have h52 : ∀ (k : Nat) (p q z : List UInt8) (x y : Nat × Blk) N (K2 : Value → Heap → Prop), RdH s r p N → bodyB f = p ++ q ++ z → q.length = k → k ≤ 18 → (∀ N', RdH s r (p ++ q) N' → K2 (.int .u64 (vB q : Int)) (x :: y :: N')) → SCalls Tryd.prog 33 [ptr r, .int .i64 (k : Int)] (x :: y :: N) K2 :=
    fun k p q z x y N K2 hN hsp hq hk hk2 => m52 hs' hsp hq hk (bodyB_ok f) (bodyB_len f) hN hk2
  have hcr := crc_lt (sumB f)
  have h27 : ∀ H (K2 : Value → Heap → Prop), K2 (.tuple ⟨[.int .u16 (crc (sumB f) : Int), .int .i64 0]⟩) H → SCalls Tryd.prog 19 [.string (strOf (sumB f))] H K2 := fun H K2 hk => SCalls.calm (c19 (by
    rw [sumB_chk]
    unfold crcV
    rw [if_pos (sumB_chk f)]; exact hk))
  have h34 : ∀ x y N (K2 : Value → Heap → Prop), RdH s r (sumB f) N → (∀ N', RdH s r (sumB f) N' → K2 (.string (strOf (sumB f))) (x :: y :: N')) → SCalls Tryd.prog 20 [.pointer (some ⟨r, 4, none⟩)] (x :: y :: N) K2 := fun x y N K2 h1 h2 => m34 h1 h2
  have h15 : ∀ x y N (K2 : Value → Heap → Prop), RdH s r (sumB f) N → (∀ N', RdH s r (bodyB f) N' → K2 (.int .u64 (crc (sumB f) : Int)) (x :: y :: N')) → SCalls Tryd.prog 33 [ptr r, .int .i64 15] (x :: y :: N) K2 := fun x y N K2 h1 h2 =>
    h52 15 (sumB f) (numB 15 (crc (sumB f))) [] x y N K2 h1 (by unfold bodyB; simp) (numB_len _ _) (by decide) (fun N' h => by rw [vB_numB 15 _ hcr]; exact h2 N' h)
  have h53 : ∀ x y N (K2 : Value → Heap → Prop), RdH s r (bodyB f) N → (∀ N', RdD s r (bodyB f) 0 N' → K2 (.tuple ⟨[]⟩) (x :: y :: N')) → SCalls Tryd.prog 34 [ptr r] (x :: y :: N) K2 := fun x y N K2 h1 h2 => m53 hs' (bodyB_ok f) h1 h2
  have h54 : ∀ x y N (K2 : Value → Heap → Prop), RdD s r (bodyB f) 0 N → (∀ N', RdD s r (bodyB f) 1 N' → K2 (.tuple ⟨[]⟩) (x :: y :: N')) → SCalls Tryd.prog 35 [ptr r, .int .u8 49, .int .i64 22] (x :: y :: N) K2 := fun x y N K2 h1 h2 =>
    SCalls.under [x, y] (m54 (c := 49) hs h1 ht0 (fun _ h => absurd rfl h) (fun N' _ h => h2 N' h))
  have h54b : ∀ x y N (K2 : Value → Heap → Prop), RdD s r (bodyB f) 1 N → (∀ N', ack = true → RdD s r (bodyB f) 2 N' → K2 (.tuple ⟨[]⟩) (x :: y :: N')) → SCalls Tryd.prog 35 [ptr r, .int .u8 48, .int .i64 23] (x :: y :: N) K2 := fun x y N K2 h1 h2 =>
    SCalls.under [x, y] (m54 (c := 48) hs h1 ht1 (fun hl hne => by
      cases ack with
      | true => exact absurd rfl hne
      | false => exact hD2 rfl hl) (fun N' e h => h2 N' (by
        cases ack with
        | true => rfl
        | false => exact absurd e (by decide)) h))
  have hz : ∀ (i m : Int) (b1 b2 : Bool), i = (f.id : Int) → b1 = f.x → b2 = f.r → m = f.n → Blk.row 33 [.int .u32 i, .bool b1, .bool b2, .int .i64 m, .int .u8 0, .int .u8 0, .int .u8 0, .int .u8 0, .int .u8 0, .int .u8 0, .int .u8 0, .int .u8 0] (0, 0) = .row 33 (frC (zs f 0 8)) (0, 0) := by
    rintro i m b1 b2 rfl rfl rfl rfl; rfl
  have h33 : ∀ (i m : Int) (b1 b2 : Bool) H (K2 : Value → Heap → Prop), i = (f.id : Int) → b1 = f.x → b2 = f.r → m = f.n → K2 (.int .i64 (nb f : Int)) H → SCalls Tryd.prog 18 [.agg ⟨[.int .u32 i, .bool b1, .bool b2, .int .i64 m, .int .u8 0, .int .u8 0, .int .u8 0, .int .u8 0, .int .u8 0, .int .u8 0, .int .u8 0, .int .u8 0]⟩] H K2 := by
    rintro i m b1 b2 H K2 rfl rfl rfl rfl hk
    exact SCalls.calm (c18 (f := ⟨f.id, f.x, f.r, f.n, 0, 0, 0, 0, 0, 0, 0, 0⟩) hk)
  have hl37 : ∀ (i m : Int) (b1 b2 : Bool) (q2 q3 : Nat) N S0 (Q : Post), RdH s r (hdB f) N → i = (f.id : Int) → b1 = f.x → b2 = f.r → m = f.n → S24 (ptr r) (ptr q2) (ptr q3) (.int .i64 (nb f : Int)) (.int .i64 0) S0 →
      (∀ S N, RdH s r (sumB f) N → S24 (ptr r) (ptr q2) (ptr q3) (.int .i64 (nb f : Int)) (.int .i64 (nb f : Int)) S → Q (.exit 0) S ((q3, .row 33 (frC (plF f)) (0, 0)) :: (q2, zRow) :: N)) →
      SLoop Tryd.prog X24_l1 Q S0 ((q3, .row 33 [.int .u32 i, .bool b1, .bool b2, .int .i64 m, .int .u8 0, .int .u8 0, .int .u8 0, .int .u8 0, .int .u8 0, .int .u8 0, .int .u8 0, .int .u8 0] (0, 0)) :: (q2, zRow) :: N) := by
    intro i m b1 b2 q2 q3 N S0 Q h1 e1 e2 e3 e4 hS hQ
    rw [hz i m b1 b2 e1 e2 e3 e4]
    exact l37 hs' h1 hS hQ
  have hfin : ack = true → ∀ (x y z : Nat × Blk) N', RdD s r (bodyB f) 10 N' → Keep (x :: y :: z :: N') fun H' => K (frV (plF f)) H' := fun h x y z N' h2 => Keep.d3 (hK h N' h2)
  have hb1 := bN_one f.r
  have hrl := bN_lt f.r
  have hhd := body_rest f
  have hhd2 : hdB f = [48] ++ fld f ++ [48] ++ (if f.x then [48] else []) ++ numB 4 f.n.toNat := rfl
  generalize restB f = rest at *
  clear hK hD2 ht hz hs'
  refine enter24 ?_
  have hokx := hok
  unfold okF at hokx
  simp only [Bool.and_eq_true, decide_eq_true_eq] at hokx
  have hidx := hokx.2
  clear hokx
  unfold fld fldB at hhd2
  cases hx : f.x with
  | true =>
    rw [hx] at hhd2 hidx
    simp only [if_true] at hhd2 hidx
    have hi1 : f.id / 2 ^ 18 < 2 ^ 11 := by omega
    have hi2 : f.id % 2 ^ 18 < 2 ^ 18 := Nat.mod_lt _ (by decide)
    have hi3 : (f.id / 2 ^ 18) * 262144 + f.id % 2 ^ 18 = f.id := by omega
    have hA := vB_numB 11 _ hi1
    have hB := vB_numB 18 _ hi2
    have hAl := numB_len 11 (f.id / 2 ^ 18)
    have hBl := numB_len 18 (f.id % 2 ^ 18)
    have hCl := numB_len 4 f.n.toNat
    have hio := idOr (i1 := f.id / 2 ^ 18) (i2 := f.id % 2 ^ 18) hi1 hi2
    obtain ⟨e1, e2⟩ := hio
    have e3 : bitOr .u32 ((f.id / 2 ^ 18 * 262144 : Nat) : Int) ((f.id % 2 ^ 18 : Nat) : Int) = (f.id : Int) := by rw [e2, hi3]
    clear e2 hi3
    rw [hhd2] at hhd
    generalize f.id / 2 ^ 18 = i1 at *
    generalize f.id % 2 ^ 18 = i2 at *
    generalize numB 11 i1 = A at *
    generalize numB 18 i2 = B at *
    generalize numB 4 f.n.toNat = C at *
    have t1 : ∀ x y N (K2 : Value → Heap → Prop), RdH s r [] N → (∀ N', RdH s r [48] N' → K2 (.int .u64 0) (x :: y :: N')) → SCalls Tryd.prog 33 [ptr r, .int .i64 1] (x :: y :: N) K2 := fun x y N K2 h1 h2 =>
      h52 1 [] [48] (A ++ [49] ++ [49] ++ B ++ [fb f.r] ++ [48] ++ [48] ++ C ++ rest) x y N K2 h1 (by rw [hhd]; simp) rfl (by decide) h2
    have t2 : ∀ x y N (K2 : Value → Heap → Prop), RdH s r [48] N → (∀ N', RdH s r ([48] ++ A) N' → K2 (.int .u64 (i1 : Int)) (x :: y :: N')) → SCalls Tryd.prog 33 [ptr r, .int .i64 11] (x :: y :: N) K2 := fun x y N K2 h1 h2 =>
      h52 11 [48] A ([49] ++ [49] ++ B ++ [fb f.r] ++ [48] ++ [48] ++ C ++ rest) x y N K2 h1 (by rw [hhd]; simp) hAl (by decide) (fun N' h => by rw [hA]; exact h2 N' h)
    have t3 : ∀ x y N (K2 : Value → Heap → Prop), RdH s r ([48] ++ A) N → (∀ N', RdH s r ([48] ++ A ++ [49]) N' → K2 (.int .u64 1) (x :: y :: N')) → SCalls Tryd.prog 33 [ptr r, .int .i64 1] (x :: y :: N) K2 := fun x y N K2 h1 h2 =>
      h52 1 ([48] ++ A) [49] ([49] ++ B ++ [fb f.r] ++ [48] ++ [48] ++ C ++ rest) x y N K2 h1 (by rw [hhd]; simp) rfl (by decide) h2
    have t4 : ∀ x y N (K2 : Value → Heap → Prop), RdH s r ([48] ++ A ++ [49]) N → (∀ N', RdH s r ([48] ++ A ++ [49] ++ [49]) N' → K2 (.int .u64 1) (x :: y :: N')) → SCalls Tryd.prog 33 [ptr r, .int .i64 1] (x :: y :: N) K2 := fun x y N K2 h1 h2 =>
      h52 1 ([48] ++ A ++ [49]) [49] (B ++ [fb f.r] ++ [48] ++ [48] ++ C ++ rest) x y N K2 h1 (by rw [hhd]; simp) rfl (by decide) h2
    have t5 : ∀ x y N (K2 : Value → Heap → Prop), RdH s r ([48] ++ A ++ [49] ++ [49]) N → (∀ N', RdH s r ([48] ++ A ++ [49] ++ [49] ++ B) N' → K2 (.int .u64 (i2 : Int)) (x :: y :: N')) → SCalls Tryd.prog 33 [ptr r, .int .i64 18] (x :: y :: N) K2 := fun x y N K2 h1 h2 =>
      h52 18 ([48] ++ A ++ [49] ++ [49]) B ([fb f.r] ++ [48] ++ [48] ++ C ++ rest) x y N K2 h1 (by rw [hhd]; simp) hBl (by decide) (fun N' h => by rw [hB]; exact h2 N' h)
    have t6 : ∀ x y N (K2 : Value → Heap → Prop), RdH s r ([48] ++ A ++ [49] ++ [49] ++ B) N → (∀ N', RdH s r ([48] ++ A ++ [49] ++ [49] ++ B ++ [fb f.r]) N' → K2 (.int .u64 (bN f.r : Int)) (x :: y :: N')) → SCalls Tryd.prog 33 [ptr r, .int .i64 1] (x :: y :: N) K2 := fun x y N K2 h1 h2 =>
      h52 1 ([48] ++ A ++ [49] ++ [49] ++ B) [fb f.r] ([48] ++ [48] ++ C ++ rest) x y N K2 h1 (by rw [hhd]; simp) rfl (by decide) (fun N' h => by rw [vB_fb]; exact h2 N' h)
    have t7 : ∀ x y N (K2 : Value → Heap → Prop), RdH s r ([48] ++ A ++ [49] ++ [49] ++ B ++ [fb f.r]) N → (∀ N', RdH s r ([48] ++ A ++ [49] ++ [49] ++ B ++ [fb f.r] ++ [48]) N' → K2 (.int .u64 0) (x :: y :: N')) → SCalls Tryd.prog 33 [ptr r, .int .i64 1] (x :: y :: N) K2 := fun x y N K2 h1 h2 =>
      h52 1 ([48] ++ A ++ [49] ++ [49] ++ B ++ [fb f.r]) [48] ([48] ++ C ++ rest) x y N K2 h1 (by rw [hhd]; simp) rfl (by decide) h2
    have t8 : ∀ x y N (K2 : Value → Heap → Prop), RdH s r ([48] ++ A ++ [49] ++ [49] ++ B ++ [fb f.r] ++ [48]) N → (∀ N', RdH s r ([48] ++ A ++ [49] ++ [49] ++ B ++ [fb f.r] ++ [48] ++ [48]) N' → K2 (.int .u64 0) (x :: y :: N')) → SCalls Tryd.prog 33 [ptr r, .int .i64 1] (x :: y :: N) K2 := fun x y N K2 h1 h2 =>
      h52 1 ([48] ++ A ++ [49] ++ [49] ++ B ++ [fb f.r] ++ [48]) [48] (C ++ rest) x y N K2 h1 (by rw [hhd]; simp) rfl (by decide) h2
    have t9 : ∀ x y N (K2 : Value → Heap → Prop), RdH s r ([48] ++ A ++ [49] ++ [49] ++ B ++ [fb f.r] ++ [48] ++ [48]) N → (∀ N', RdH s r (hdB f) N' → K2 (.int .u64 (f.n.toNat : Int)) (x :: y :: N')) → SCalls Tryd.prog 33 [ptr r, .int .i64 4] (x :: y :: N) K2 := fun x y N K2 h1 h2 =>
      h52 4 ([48] ++ A ++ [49] ++ [49] ++ B ++ [fb f.r] ++ [48] ++ [48]) C rest x y N K2 h1 (by rw [hhd]; simp) hCl (by decide) (fun N' h => by rw [hn16]; exact h2 N' (by rw [hhd2]; simpa using h))
    have hb0 : decide ((1 : Int) = 1) = f.x := by rw [hx]; rfl
    clear h52 hhd hhd2 hAl hBl hCl hA hB
    repeat' ((conv => whnf); (first | with_reducible refine t1 _ _ _ _ hN (fun N1 b1 => ?_) | with_reducible refine t2 _ _ _ _ b1 (fun N2 b2 => ?_) | with_reducible refine t3 _ _ _ _ b2 (fun N3 b3 => ?_) | with_reducible refine t4 _ _ _ _ b3 (fun N4 b4 => ?_) | with_reducible refine t5 _ _ _ _ b4 (fun N5 b5 => ?_) | with_reducible refine t6 _ _ _ _ b5 (fun N6 b6 => ?_) | with_reducible refine t7 _ _ _ _ b6 (fun N7 b7 => ?_) | with_reducible refine t8 _ _ _ _ b7 (fun N8 b8 => ?_) | with_reducible refine t9 _ _ _ _ b8 (fun N9 b9 => ?_) | refine SDraw.held (by kernel_rfl) [_] (.same (.head _) .nil) ?_ | refine Kept.sub (List.Sublist.cons_cons _ (List.nil_sublist _)) ?_ | with_reducible refine Val.to _ e1 ?_ | with_reducible refine Val.to _ e3 ?_ | with_reducible refine Val.u32 (by omega) (by omega) ?_ | with_reducible refine h33 _ _ _ _ _ _ rfl hb0 hb1 hnn ?_ | (refine hl37 _ _ _ _ _ _ _ _ _ b9 rfl hb0 hb1 hnn .mk (fun S Na ba hS => ?_); cases hS) | with_reducible refine h34 _ _ _ _ ba (fun Nb bb => ?_) | with_reducible refine h27 _ _ ?_ | with_reducible refine h15 _ _ _ _ bb (fun Nc bc => ?_) | with_reducible refine h53 _ _ _ _ bc (fun Nd bd => ?_) | with_reducible refine h54 _ _ _ _ bd (fun Ne be => ?_) | with_reducible refine h54b _ _ _ _ be (fun Nf hack bf => ?_) | refine RawV.rangeStr rfl (by kernel_rfl) (fun qi => ?_) | (refine l37b hs bf ht2 .mk (fun S Ng bg hS => ?_); cases hS) | exact hfin hack _ _ _ _ bg | refine New.mk (fun _ => ?_) | refine Look.at0 ?_ | refine Cell.row ?_ | refine Cell.buf ?_ | refine Cells.row rfl ?_ | refine Put.row rfl ?_ | refine Put.buf rfl ?_ | refine Look.at1 ?_ | refine Look.at2 ?_ | refine Look.at3 ?_ | refine Look.at4 ?_ | refine Look.at5 ?_ | refine Look.at6 ?_ | refine Look.at7 ?_ | refine Look.at8 ?_ | with_reducible refine Val.i64 (by omega) (by omega) ?_ | with_reducible refine Val.u8 (by omega) (by omega) ?_ | with_reducible refine Val.u32 (by omega) (by omega) ?_ | with_reducible refine Val.u64 (by omega) (by omega) ?_ | with_reducible refine Val.u8m ?_ | with_reducible refine Val.u32m ?_ | with_reducible refine Val.u64m ?_ | with_reducible refine Val.shr8 ?_ | with_reducible refine Val.shr16 (by decide) ?_ | with_reducible refine Val.shr24 (by decide) ?_ | with_reducible refine Val.raw ?_ | refine Branch.not ?_ | refine Branch.and ?_ | refine Branch.or ?_ | refine Branch.dt (by assumption) ?_ | refine Branch.df (by assumption) ?_ | refine Branch.dt rfl ?_ | refine Branch.dt (by omega) ?_ | refine Branch.df (by omega) ?_ | refine Branch.t rfl ?_ | refine Branch.f rfl ?_ | refine Branch.t (by assumption) ?_ | refine Branch.f (by assumption) ?_ | refine Branch.d (fun _ => ?_) (fun _ => ?_) | refine Branch.mk (fun _ => ?_) (fun _ => ?_) | refine Need.mk (by first | omega | decide | rfl) ?_ | refine Idx.nat (by omega) ?_ | refine Idx.auto (by first | omega | decide) (by first | omega | decide) ?_ | refine Cell.ro rfl ?_ | refine SDraw.all (by kernel_rfl) ?_ | refine Kept.k0 ?_ | refine Kept.k1 ?_ | refine Kept.k2 ?_ | refine Kept.k3 ?_ | refine Kept.k4 ?_))
  | false =>
    rw [hx] at hhd2 hidx
    simp only [Bool.false_eq_true, if_false] at hhd2 hidx
    have hA := vB_numB 11 f.id (by omega)
    have hAl := numB_len 11 f.id
    have hCl := numB_len 4 f.n.toNat
    rw [hhd2] at hhd
    generalize numB 11 f.id = A at *
    generalize numB 4 f.n.toNat = C at *
    have t1 : ∀ x y N (K2 : Value → Heap → Prop), RdH s r [] N → (∀ N', RdH s r [48] N' → K2 (.int .u64 0) (x :: y :: N')) → SCalls Tryd.prog 33 [ptr r, .int .i64 1] (x :: y :: N) K2 := fun x y N K2 h1 h2 =>
      h52 1 [] [48] (A ++ [fb f.r] ++ [48] ++ [48] ++ C ++ rest) x y N K2 h1 (by rw [hhd]; simp) rfl (by decide) h2
    have t2 : ∀ x y N (K2 : Value → Heap → Prop), RdH s r [48] N → (∀ N', RdH s r ([48] ++ A) N' → K2 (.int .u64 (f.id : Int)) (x :: y :: N')) → SCalls Tryd.prog 33 [ptr r, .int .i64 11] (x :: y :: N) K2 := fun x y N K2 h1 h2 =>
      h52 11 [48] A ([fb f.r] ++ [48] ++ [48] ++ C ++ rest) x y N K2 h1 (by rw [hhd]; simp) hAl (by decide) (fun N' h => by rw [hA]; exact h2 N' h)
    have t3 : ∀ x y N (K2 : Value → Heap → Prop), RdH s r ([48] ++ A) N → (∀ N', RdH s r ([48] ++ A ++ [fb f.r]) N' → K2 (.int .u64 (bN f.r : Int)) (x :: y :: N')) → SCalls Tryd.prog 33 [ptr r, .int .i64 1] (x :: y :: N) K2 := fun x y N K2 h1 h2 =>
      h52 1 ([48] ++ A) [fb f.r] ([48] ++ [48] ++ C ++ rest) x y N K2 h1 (by rw [hhd]; simp) rfl (by decide) (fun N' h => by rw [vB_fb]; exact h2 N' h)
    have t4 : ∀ x y N (K2 : Value → Heap → Prop), RdH s r ([48] ++ A ++ [fb f.r]) N → (∀ N', RdH s r ([48] ++ A ++ [fb f.r] ++ [48]) N' → K2 (.int .u64 0) (x :: y :: N')) → SCalls Tryd.prog 33 [ptr r, .int .i64 1] (x :: y :: N) K2 := fun x y N K2 h1 h2 =>
      h52 1 ([48] ++ A ++ [fb f.r]) [48] ([48] ++ C ++ rest) x y N K2 h1 (by rw [hhd]; simp) rfl (by decide) h2
    have t8 : ∀ x y N (K2 : Value → Heap → Prop), RdH s r ([48] ++ A ++ [fb f.r] ++ [48]) N → (∀ N', RdH s r ([48] ++ A ++ [fb f.r] ++ [48] ++ [48]) N' → K2 (.int .u64 0) (x :: y :: N')) → SCalls Tryd.prog 33 [ptr r, .int .i64 1] (x :: y :: N) K2 := fun x y N K2 h1 h2 =>
      h52 1 ([48] ++ A ++ [fb f.r] ++ [48]) [48] (C ++ rest) x y N K2 h1 (by rw [hhd]; simp) rfl (by decide) h2
    have t9 : ∀ x y N (K2 : Value → Heap → Prop), RdH s r ([48] ++ A ++ [fb f.r] ++ [48] ++ [48]) N → (∀ N', RdH s r (hdB f) N' → K2 (.int .u64 (f.n.toNat : Int)) (x :: y :: N')) → SCalls Tryd.prog 33 [ptr r, .int .i64 4] (x :: y :: N) K2 := fun x y N K2 h1 h2 =>
      h52 4 ([48] ++ A ++ [fb f.r] ++ [48] ++ [48]) C rest x y N K2 h1 (by rw [hhd]; simp) hCl (by decide) (fun N' h => by rw [hn16]; exact h2 N' (by rw [hhd2]; simpa using h))
    have hb0 : decide ((0 : Int) = 1) = f.x := by rw [hx]; rfl
    clear h52 hhd hhd2 hAl hCl hA
    repeat' ((conv => whnf); (first | with_reducible refine t1 _ _ _ _ hN (fun N1 b1 => ?_) | with_reducible refine t2 _ _ _ _ b1 (fun N2 b2 => ?_) | with_reducible refine t3 _ _ _ _ b2 (fun N3 b3 => ?_) | with_reducible refine t4 _ _ _ _ b3 (fun N4 b4 => ?_) | with_reducible refine t8 _ _ _ _ b4 (fun N8 b8 => ?_) | with_reducible refine t9 _ _ _ _ b8 (fun N9 b9 => ?_) | with_reducible refine Val.u32 (by omega) (by omega) ?_ | with_reducible refine h33 _ _ _ _ _ _ rfl hb0 hb1 hnn ?_ | (refine hl37 _ _ _ _ _ _ _ _ _ b9 rfl hb0 hb1 hnn .mk (fun S Na ba hS => ?_); cases hS) | with_reducible refine h34 _ _ _ _ ba (fun Nb bb => ?_) | with_reducible refine h27 _ _ ?_ | with_reducible refine h15 _ _ _ _ bb (fun Nc bc => ?_) | with_reducible refine h53 _ _ _ _ bc (fun Nd bd => ?_) | with_reducible refine h54 _ _ _ _ bd (fun Ne be => ?_) | with_reducible refine h54b _ _ _ _ be (fun Nf hack bf => ?_) | refine RawV.rangeStr rfl (by kernel_rfl) (fun qi => ?_) | (refine l37b hs bf ht2 .mk (fun S Ng bg hS => ?_); cases hS) | exact hfin hack _ _ _ _ bg | refine New.mk (fun _ => ?_) | refine Look.at0 ?_ | refine Cell.row ?_ | refine Cell.buf ?_ | refine Cells.row rfl ?_ | refine Put.row rfl ?_ | refine Put.buf rfl ?_ | refine Look.at1 ?_ | refine Look.at2 ?_ | refine Look.at3 ?_ | refine Look.at4 ?_ | refine Look.at5 ?_ | refine Look.at6 ?_ | refine Look.at7 ?_ | refine Look.at8 ?_ | with_reducible refine Val.i64 (by omega) (by omega) ?_ | with_reducible refine Val.u8 (by omega) (by omega) ?_ | with_reducible refine Val.u32 (by omega) (by omega) ?_ | with_reducible refine Val.u64 (by omega) (by omega) ?_ | with_reducible refine Val.u8m ?_ | with_reducible refine Val.u32m ?_ | with_reducible refine Val.u64m ?_ | with_reducible refine Val.shr8 ?_ | with_reducible refine Val.shr16 (by decide) ?_ | with_reducible refine Val.shr24 (by decide) ?_ | with_reducible refine Val.raw ?_ | refine Branch.not ?_ | refine Branch.and ?_ | refine Branch.or ?_ | refine Branch.dt (by assumption) ?_ | refine Branch.df (by assumption) ?_ | refine Branch.dt rfl ?_ | refine Branch.dt (by omega) ?_ | refine Branch.df (by omega) ?_ | refine Branch.t rfl ?_ | refine Branch.f rfl ?_ | refine Branch.t (by assumption) ?_ | refine Branch.f (by assumption) ?_ | refine Branch.d (fun _ => ?_) (fun _ => ?_) | refine Branch.mk (fun _ => ?_) (fun _ => ?_) | refine Need.mk (by first | omega | decide | rfl) ?_ | refine Idx.nat (by omega) ?_ | refine Idx.auto (by first | omega | decide) (by first | omega | decide) ?_ | refine Cell.ro rfl ?_ | refine SDraw.all (by kernel_rfl) ?_ | refine Kept.k0 ?_ | refine Kept.k1 ?_ | refine Kept.k2 ?_ | refine Kept.k3 ?_ | refine Kept.k4 ?_))
end
end Go.Proofs.YtiaginlnapiijaaDoor

/- Ported (port.py) from UnA. -/
set_option linter.unusedVariables false
set_option linter.unusedSimpArgs false
set_option maxRecDepth 100000
set_option maxHeartbeats 4000000
namespace Go.Proofs.YtiaginlnapiijaaDoor
open Sx
/-- What is left of the bits from place j on. -/
def unsR : St → Nat → List UInt8 → List UInt8 × Nat × Int
  | s, j, [] => if s.n = 5 then ([], j, 3) else (s.out, j, 0)
  | s, j, b :: r => if s.n = 5 ∧ b.toNat = s.lv then ([], j, 20) else unsR ⟨if s.n = 5 then s.out else s.out ++ [b], b.toNat, tk s.lv s.n b.toNat⟩ (j + 1) r
def uns (l : List UInt8) : List UInt8 × Nat × Int := unsR ⟨[], 0, 0⟩ 0 l
/-- Where the work is at place j. -/
structure At (l : List UInt8) (j : Nat) (out : List UInt8) (lv n : Nat) : Prop where
  le : j ≤ l.length
  eq : uns l = unsR ⟨out, lv, n⟩ j (l.drop j)
  n5 : n ≤ 5
  len : out.length ≤ j
  last : (j = 0 ∧ lv = 0 ∧ n = 0) ∨ (0 < j ∧ ∃ b, l[j - 1]? = some b ∧ lv = b.toNat)
theorem At.zero (l : List UInt8) : At l 0 [] 0 0 := ⟨Nat.zero_le _, rfl, by decide, Nat.le_refl _, .inl ⟨rfl, rfl, rfl⟩⟩
theorem drop_cons' {l : List UInt8} {j : Nat} {b : UInt8} (h : l[j]? = some b) : l.drop j = b :: l.drop (j + 1) := by
  obtain ⟨hlt, rfl⟩ := List.getElem?_eq_some_iff.1 h
  exact List.drop_eq_getElem_cons hlt
theorem At.stop {l out : List UInt8} {j lv n : Nat} {b : UInt8} (h : At l j out lv n) (hx : l[j]? = some b) (h5 : n = 5) (hb : b.toNat = lv) : uns l = ([], j, 20) := by
  rw [h.eq, drop_cons' hx]
  show (if n = 5 ∧ b.toNat = lv then _ else _) = _
  rw [if_pos ⟨h5, hb⟩]
theorem At.next {l out : List UInt8} {j lv n : Nat} {b : UInt8} (h : At l j out lv n) (hx : l[j]? = some b) (hn : ¬ (n = 5 ∧ b.toNat = lv)) : At l (j + 1) (if n = 5 then out else out ++ [b]) b.toNat (tk lv n b.toNat) := by
  refine ⟨(List.getElem?_eq_some_iff.1 hx).1, ?_, ?_, ?_, .inr ⟨by omega, b, hx, rfl⟩⟩
  · rw [h.eq, drop_cons' hx]
    show (if n = 5 ∧ b.toNat = lv then _ else _) = _
    rw [if_neg hn]
  · have := h.n5
    unfold tk
    split
    · rename_i e
      have : n ≠ 5 := fun e5 => hn ⟨e5, e⟩
      omega
    · omega
  · have := h.len
    split
    · omega
    · simp; omega
theorem At.fin {l out : List UInt8} {lv n : Nat} (h : At l l.length out lv n) : uns l = if n = 5 then ([], l.length, 3) else (out, l.length, 0) := by
  have := h.eq
  rw [List.drop_length] at this
  exact this
section
variable {K : Value → Heap → Prop} {H : Heap}
end
/-- Unstuffing, as long as it goes. -/
def uRun : St → List UInt8 → Option St
  | s, [] => some s
  | s, b :: r => if s.n = 5 ∧ b.toNat = s.lv then none else uRun ⟨if s.n = 5 then s.out else s.out ++ [b], b.toNat, tk s.lv s.n b.toNat⟩ r
theorem unsR_run : ∀ (x y : List UInt8) (s s' : St) (j : Nat), uRun s x = some s' → unsR s j (x ++ y) = unsR s' (j + x.length) y
  | [], y, s, s', j, h => by
    injection h with h
    subst h; rfl
  | b :: x, y, s, s', j, h => by
    show (if s.n = 5 ∧ b.toNat = s.lv then _ else _) = _
    unfold uRun at h
    by_cases hc : s.n = 5 ∧ b.toNat = s.lv
    · rw [if_pos hc] at h; cases h
    · rw [if_neg hc] at h ⊢
      show unsR _ (j + 1) (x ++ y) = _
      rw [unsR_run x y _ s' (j + 1) h, List.length_cons, show j + 1 + x.length = j + (x.length + 1) by omega]
theorem uRun_app : ∀ (x y : List UInt8) (s s' : St), uRun s x = some s' → uRun s (x ++ y) = uRun s' y
  | [], y, s, s', h => by
    injection h with h
    subst h; rfl
  | b :: x, y, s, s', h => by
    show (if s.n = 5 ∧ b.toNat = s.lv then _ else _) = _
    unfold uRun at h
    by_cases hc : s.n = 5 ∧ b.toNat = s.lv
    · rw [if_pos hc] at h; cases h
    · rw [if_neg hc] at h ⊢
      exact uRun_app x y _ s' h
theorem stf_run (l : List UInt8) : (∀ b ∈ l, isB b = true) → uRun ⟨[], 0, 0⟩ (stf l).out = some ⟨l, (stf l).lv, (stf l).n⟩ ∧ ∀ b ∈ (stf l).out, isB b = true := by
  induction l using snoc_ind with
  | h0 => exact fun _ => ⟨rfl, fun b hb => by cases hb⟩
  | h1 l b ih =>
    intro hB
    obtain ⟨ih, ihB⟩ := ih fun x hx => hB x (List.mem_append_left _ hx)
    have hb := hB b (List.mem_append_right _ (.head _))
    have hn := (St.ok l).1
    rw [stf_snoc]
    generalize stf l = s at ih ihB hn
    obtain ⟨out, lv, n⟩ := s
    dsimp only at ih ihB hn
    have hn5 : ¬ n = 5 := by omega
    unfold St.step
    dsimp only
    split
    · rename_i h5
      have ho := oth_n hb
      refine ⟨?_, fun x hx => ?_⟩
      · show uRun _ (out ++ [b] ++ [oth b]) = some ⟨l ++ [b], (oth b).toNat, 1⟩
        rw [List.append_assoc, uRun_app _ _ _ _ ih]
        show (if n = 5 ∧ b.toNat = lv then _ else _) = _
        rw [if_neg (fun h => hn5 h.1)]
        dsimp only
        rw [if_neg hn5, h5]
        show (if (5 : Nat) = 5 ∧ (oth b).toNat = b.toNat then _ else _) = _
        rw [if_neg (fun h => by omega)]
        show some _ = _
        have e : tk b.toNat 5 (oth b).toNat = 1 := by unfold tk; rw [if_neg (by omega)]
        rw [e]; rfl
      · simp only [List.mem_append, List.mem_singleton] at hx
        rcases hx with (hx | rfl) | rfl
        · exact ihB x hx
        · exact hb
        · exact oth_b
    · refine ⟨?_, fun x hx => ?_⟩
      · show uRun _ (out ++ [b]) = _
        rw [uRun_app _ _ _ _ ih]
        show (if n = 5 ∧ b.toNat = lv then _ else _) = _
        rw [if_neg (fun h => hn5 h.1)]
        dsimp only
        rw [if_neg hn5]; rfl
      · simp only [List.mem_append, List.mem_singleton] at hx
        rcases hx with hx | rfl
        · exact ihB x hx
        · exact hb
theorem uns_stf {l : List UInt8} (hB : ∀ b ∈ l, isB b = true) : uns (stf l).out = (l, (stf l).out.length, 0) := by
  have h := unsR_run (stf l).out [] _ _ 0 (stf_run l hB).1
  rw [List.append_nil, Nat.zero_add] at h
  show unsR _ 0 _ = _
  rw [h]
  have hn := (St.ok l).1
  show (if (stf l).n = 5 then _ else _) = _
  rw [if_neg (by omega)]
end Go.Proofs.YtiaginlnapiijaaDoor

/- Ported (port.py) from FmIt. -/
set_option linter.unusedVariables false
set_option linter.unusedSimpArgs false
set_option maxRecDepth 100000
set_option maxHeartbeats 4000000
namespace Go.Proofs.YtiaginlnapiijaaDoor
open Sx
def D10_0 : XCode := (.region [⟨(some 2), none, (.alloc 33 [(.int .u32 0), (.bool false), (.bool false), (.int .i64 0), (.int .u8 0), (.int .u8 0), (.int .u8 0), (.int .u8 0), (.int .u8 0), (.int .u8 0), (.int .u8 0), (.int .u8 0)])⟩, ⟨(some 3), none, (.alloc 3 [(.int .i64 0)])⟩, ⟨(some 4), none, (.alloc 28 [(.int .i64 0)])⟩])
def D10_1 : XCode := (.seq (.region [⟨(some 6), none, (.pure (.mov (.tmp 0)))⟩, ⟨(some 7), none, (.call 22 [(.tmp 6)])⟩, ⟨(some 8), none, (.pure (.not (.tmp 7)))⟩]) (.cond (.tmp 8) (.seq (.seq (.region [⟨(some 9), none, (.pure (.mov (.tmp 0)))⟩, ⟨(some 10), none, (.pure (.lenStr (.tmp 9)))⟩, ⟨(some 11), none, (.pure (.bin .gtr (.tmp 10) (.const (.int .i64 65536))))⟩]) (.cond (.tmp 11) (.seq (.region [⟨(some 12), none, (.pure (.build [(.int .u32 0), (.bool false), (.bool false), (.int .i64 0), (.int .u8 0), (.int .u8 0), (.int .u8 0), (.int .u8 0), (.int .u8 0), (.int .u8 0), (.int .u8 0), (.int .u8 0)] []))⟩, ⟨none, none, (.store 12 (.tmp 2) (.tmp 12))⟩, ⟨none, none, (.store 1 (.tmp 3) (.const (.int .i64 0)))⟩, ⟨none, none, (.store 1 (.tmp 4) (.const (.int .i64 2)))⟩]) .ret) .skip)) (.seq (.region [⟨(some 13), none, (.pure (.build [(.int .u32 0), (.bool false), (.bool false), (.int .i64 0), (.int .u8 0), (.int .u8 0), (.int .u8 0), (.int .u8 0), (.int .u8 0), (.int .u8 0), (.int .u8 0), (.int .u8 0)] []))⟩, ⟨none, none, (.store 12 (.tmp 2) (.tmp 13))⟩, ⟨none, none, (.store 1 (.tmp 3) (.const (.int .i64 0)))⟩, ⟨none, none, (.store 1 (.tmp 4) (.const (.int .i64 8)))⟩]) .ret)) .skip))
def D10_3 : XCode := (.region [⟨(some 15), none, (.pure (.mov (.tmp 0)))⟩, ⟨(some 16), none, (.pure (.build [(.string ⟨#[]⟩), (.int .i64 0), (.int .u8 0), (.int .i64 0), (.pointer none), (.slice none 0 0)] [(0, (1, (.tmp 15)))]))⟩, ⟨(some 17), none, (.box 67 (.tmp 16))⟩, ⟨(some 5), none, (.pure (.mov (.tmp 17)))⟩])
def D10_5 : XCode := (.seq (.draw (.take ⟨(some 21), none, (.pure (.mov (.tmp 5)))⟩ (.take ⟨(some 22), none, (.pure (.nilCheck (.tmp 21)))⟩ (.take ⟨(some 23), none, (.pure (.fieldAddr 1 (.tmp 22)))⟩ (.alt ⟨(some 20), none, (.load true 12 (.tmp 2))⟩ (.alt ⟨(some 24), none, (.load false 1 (.tmp 23))⟩ (.alt ⟨none, none, (.store 12 (.tmp 2) (.tmp 20))⟩ .done .off) (.alt ⟨none, none, (.store 12 (.tmp 2) (.tmp 20))⟩ (.alt ⟨(some 24), none, (.load false 1 (.tmp 23))⟩ .done .off) .off)) (.alt ⟨(some 24), none, (.load false 1 (.tmp 23))⟩ (.alt ⟨(some 20), none, (.load true 12 (.tmp 2))⟩ (.alt ⟨none, none, (.store 12 (.tmp 2) (.tmp 20))⟩ .done .off) .off) .off))))) [⟨none, none, (.store 1 (.tmp 3) (.tmp 24))⟩, ⟨none, none, (.store 1 (.tmp 4) (.const (.int .i64 0)))⟩]) .ret)
def D36 : XCode := (.seq (.region [⟨(some 7), none, (.pure (.mov (.tmp 3)))⟩, ⟨(some 8), none, (.raw ⟨(some 8), (.binOp .neq 20 (.tmp 7) (.const .nilIface) 20), 4, "frame.go:223", #[⟨0, .data⟩], none⟩)⟩]) (.cond (.tmp 8) (.seq (.region [⟨(some 10), none, (.pure (.mov (.tmp 3)))⟩, ⟨(some 11), none, (.pure (.assertTo 63 true (.agg #[(.int .i64 0), (.int .i64 0)]) (.tmp 10)))⟩, ⟨(some 9), none, (.pure (.mov (.tmp 11)))⟩, ⟨(some 12), none, (.pure (.extract (.tmp 9) 0))⟩, ⟨(some 13), none, (.pure (.extract (.tmp 9) 1))⟩, ⟨(some 4), none, (.alloc 63 [(.int .i64 0), (.int .i64 0)])⟩, ⟨none, none, (.store 2 (.tmp 4) (.tmp 12))⟩, ⟨(some 5), none, (.pure (.mov (.tmp 13)))⟩]) (.seq (.seq (.region [⟨(some 14), none, (.pure (.mov (.tmp 5)))⟩, ⟨(some 15), none, (.pure (.not (.tmp 14)))⟩]) (.cond (.tmp 15) (.region [⟨(some 16), none, (.pure (.mov (.tmp 3)))⟩, ⟨none, none, (.raw ⟨none, (.panic (.tmp 16)), 0, "frame.go:226", #[⟨0, .data⟩], none⟩)⟩]) .skip)) (.draw (.take ⟨(some 17), none, (.pure (.build [(.int .u32 0), (.bool false), (.bool false), (.int .i64 0), (.int .u8 0), (.int .u8 0), (.int .u8 0), (.int .u8 0), (.int .u8 0), (.int .u8 0), (.int .u8 0), (.int .u8 0)] []))⟩ (.take ⟨(some 18), none, (.pure (.fieldAddr 0 (.tmp 4)))⟩ (.take ⟨(some 20), none, (.pure (.fieldAddr 1 (.tmp 4)))⟩ (.alt ⟨(some 19), none, (.load false 1 (.tmp 18))⟩ (.alt ⟨(some 21), none, (.load false 1 (.tmp 20))⟩ (.alt ⟨none, none, (.store 12 (.tmp 0) (.tmp 17))⟩ (.alt ⟨none, none, (.store 1 (.tmp 1) (.tmp 19))⟩ .done .off) .off) (.alt ⟨none, none, (.store 12 (.tmp 0) (.tmp 17))⟩ (.alt ⟨(some 21), none, (.load false 1 (.tmp 20))⟩ (.alt ⟨none, none, (.store 1 (.tmp 1) (.tmp 19))⟩ .done .off) (.alt ⟨none, none, (.store 1 (.tmp 1) (.tmp 19))⟩ (.alt ⟨(some 21), none, (.load false 1 (.tmp 20))⟩ .done .off) .off)) .off)) (.alt ⟨(some 21), none, (.load false 1 (.tmp 20))⟩ (.alt ⟨(some 19), none, (.load false 1 (.tmp 18))⟩ (.alt ⟨none, none, (.store 12 (.tmp 0) (.tmp 17))⟩ (.alt ⟨none, none, (.store 1 (.tmp 1) (.tmp 19))⟩ .done .off) .off) (.alt ⟨none, none, (.store 12 (.tmp 0) (.tmp 17))⟩ (.alt ⟨(some 19), none, (.load false 1 (.tmp 18))⟩ (.alt ⟨none, none, (.store 1 (.tmp 1) (.tmp 19))⟩ .done .off) .off) .off)) (.alt ⟨none, none, (.store 12 (.tmp 0) (.tmp 17))⟩ (.alt ⟨(some 19), none, (.load false 1 (.tmp 18))⟩ (.alt ⟨(some 21), none, (.load false 1 (.tmp 20))⟩ (.alt ⟨none, none, (.store 1 (.tmp 1) (.tmp 19))⟩ .done .off) (.alt ⟨none, none, (.store 1 (.tmp 1) (.tmp 19))⟩ (.alt ⟨(some 21), none, (.load false 1 (.tmp 20))⟩ .done .off) .off)) (.alt ⟨(some 21), none, (.load false 1 (.tmp 20))⟩ (.alt ⟨(some 19), none, (.load false 1 (.tmp 18))⟩ (.alt ⟨none, none, (.store 1 (.tmp 1) (.tmp 19))⟩ .done .off) .off) .off)) .off)))))) [⟨none, none, (.store 1 (.tmp 2) (.tmp 21))⟩]))) .skip))
noncomputable def dC (n : Nat) : Code := match Tryd.f8.body with
  | some (.seq a (.seq b (.seq c (.seq d (.seq e f))))) => match n with
    | 0 => a
    | 1 => b
    | 2 => c
    | 3 => d
    | 4 => e
    | _ => f
  | _ => .skip
theorem dBody : Tryd.f8.body = some (.seq (dC 0) (.seq (dC 1) (.seq (dC 2) (.seq (dC 3) (.seq (dC 4) (dC 5)))))) := by kernel_rfl
theorem dC0 : compile Tryd.prog (dC 0) = D10_0 := by kernel_rfl
theorem dC1 : compile Tryd.prog (dC 1) = D10_1 := by kernel_rfl
theorem dC3 : compile Tryd.prog (dC 3) = D10_3 := by kernel_rfl
theorem dC5 : compile Tryd.prog (dC 5) = D10_5 := by kernel_rfl
noncomputable def ops5 : Array Oper := match dC 2 with
  | .region _ o _ => o
  | _ => #[]
theorem dC2 : dC 2 = .region 5 ops5 false := by kernel_rfl
noncomputable def ops7 : Array Oper := match dC 4 with
  | .region _ o _ => o
  | _ => #[]
theorem dC4 : dC 4 = .region 7 ops7 false := by kernel_rfl
noncomputable def k36 : Code := match Tryd.f23.body with
  | some (.seq _ b) => b
  | _ => .skip
noncomputable def o36 : Array Oper := match Tryd.f23.body with
  | some (.seq (.region _ o _) _) => o
  | _ => #[]
theorem body36 : Tryd.f23.body = some (.seq (.region 0 o36 false) k36) := by kernel_rfl
theorem K36 : compile Tryd.prog k36 = D36 := by kernel_rfl
def rs10 : List RV := [.cell 2 true 12, .cell 3 false 1, .cell 4 false 1]
theorem res10 : cRes Tryd.prog Tryd.f8.results.toList = some rs10 := by kernel_rfl
def onlyN (N : List Value → Heap → Prop) : Post := fun e l H => match e with
  | .normal => N l H
  | _ => False
theorem noD {Q : Post} : QD Q := fun _ _ _ h => h.elim
theorem noDead {ds : List Deferred} {w : World} {H : Heap} {Q : Exit → Act → World → Prop} : DeadOk ds w H Q := fun _ _ _ _ h => h.elim
theorem wp_part {P : Program} {ds : List Deferred} {c rest : Code} {Q : Exit → Act → World → Prop} {l : List Value} {H H0 : Heap} {w w0 : World} (N : List Value → Heap → Prop)
    (hx : xc P (compile P c) (onlyN N) l H) (hw : Holds w H) (hs : Step w0 H0 w H) (h : ∀ l' H' w', Holds w' H' → Step w0 H0 w' H' → N l' H' → rest.wp P Q (actD ds l') w') : (Code.seq c rest).wp P Q (actD ds l) w := by
  refine wp_seq (wp_mono (xc_ok (ds := ds) c (onlyN N) l H noD hx w hw) ?_)
  rintro e a' w' ⟨l', H', rfl, h1, h2, h3⟩
  cases e with
  | normal => exact h l' H' w' h1 (hs.trans h2) h3
  | exit i => exact h3.elim
  | goto i => exact h3.elim
  | ret => exact h3.elim
  | panic ch => exact h3.elim
  | outgrown => exact h3.elim
section
variable {K : Value → Heap → Prop} {H : Heap}
theorem leaves0 {w w' : World} {l : List Value} {H' : Heap} (hw' : Holds w' H') (hs : Step w H w' H') (h : resK rs10 l H' fun vs => oneK vs fun v => Keep H' fun H' => K v H') :
    Leaves Tryd.prog Tryd.f8 l.toArray (Back w H K) [] .returning w' := by
  have he := endsAt (ds := []) (P := Tryd.prog) (fn := Tryd.f8) (rs := rs10) (K := K) res10 (w := w) (H := H) (e := .ret) (a := actD [] l) (w' := w') ⟨l, H', rfl, hw', hs, h⟩
  cases he with
  | ret hd hres hb => exact ⟨_, hres, hb⟩
/-- Nothing was given up with. -/
theorem c23n {r2 r3 r4 : Nat} (w : World) (hw : Holds w H) : CallsD Tryd.prog 23 #[ptr r2, ptr r3, ptr r4] .returning w fun e u2 w' => u2 = .returning ∧ Back w H (fun _ H' => H' = H) e w' := by
  have := callsD_recover (P := Tryd.prog) (f := 23) (fn := Tryd.f23) (id := 0) (ops := o36) (rest := k36) (x0 := ⟨some 6, none, .raw ⟨some 6, .call ⟨.builtin .recover, #[], #[]⟩, 20, "frame.go:223", #[], none⟩⟩) (xs := [⟨some 3, none, .pure (.mov (.tmp 6))⟩])
    (o0 := ⟨some 6, .call ⟨.builtin .recover, #[], #[]⟩, 20, "frame.go:223", #[], none⟩) (ts := #[]) (rs := []) (args := [ptr r2, ptr r3, ptr r4]) (H := H) (K := fun _ H' => H' = H) Tryd.func23 body36 (by kernel_rfl) rfl rfl (by kernel_rfl) (by kernel_rfl) .calm ?_ w hw
  · exact this
  rw [K36]
  repeat' ((conv => whnf); (first | refine RawV.neqNil rfl (by kernel_rfl) false (.inl ⟨rfl, rfl⟩) ?_ | exact Keep.all rfl | refine New.mk (fun _ => ?_) | refine Look.at0 ?_ | refine Cell.row ?_ | refine Cell.buf ?_ | refine Cells.row rfl ?_ | refine Put.row rfl ?_ | refine Put.buf rfl ?_ | refine Look.at1 ?_ | refine Look.at2 ?_ | refine Look.at3 ?_ | refine Look.at4 ?_ | refine Look.at5 ?_ | refine Look.at6 ?_ | refine Look.at7 ?_ | refine Look.at8 ?_ | with_reducible refine Val.i64 (by omega) (by omega) ?_ | with_reducible refine Val.u8 (by omega) (by omega) ?_ | with_reducible refine Val.u32 (by omega) (by omega) ?_ | with_reducible refine Val.u64 (by omega) (by omega) ?_ | with_reducible refine Val.u8m ?_ | with_reducible refine Val.u32m ?_ | with_reducible refine Val.u64m ?_ | with_reducible refine Val.shr8 ?_ | with_reducible refine Val.shr16 (by decide) ?_ | with_reducible refine Val.shr24 (by decide) ?_ | with_reducible refine Val.raw ?_ | refine Branch.not ?_ | refine Branch.and ?_ | refine Branch.or ?_ | refine Branch.dt (by assumption) ?_ | refine Branch.df (by assumption) ?_ | refine Branch.dt rfl ?_ | refine Branch.dt (by omega) ?_ | refine Branch.df (by omega) ?_ | refine Branch.t rfl ?_ | refine Branch.f rfl ?_ | refine Branch.t (by assumption) ?_ | refine Branch.f (by assumption) ?_ | refine Branch.d (fun _ => ?_) (fun _ => ?_) | refine Branch.mk (fun _ => ?_) (fun _ => ?_) | refine Need.mk (by first | omega | decide | rfl) ?_ | refine Idx.nat (by omega) ?_ | refine Idx.auto (by first | omega | decide) (by first | omega | decide) ?_ | refine Cell.ro rfl ?_ | refine SDraw.all (by kernel_rfl) ?_ | refine Kept.k0 ?_ | refine Kept.k1 ?_ | refine Kept.k2 ?_ | refine Kept.k3 ?_ | refine Kept.k4 ?_))
/-- It was given up with what a reader gives up with. -/
theorem c36g {r2 r3 r4 : Nat} {p e : Int} (w : World) (hw : Holds w ((r4, .row 28 [.int .i64 0] (0, 0)) :: (r3, .row 3 [.int .i64 0] (0, 0)) :: (r2, .row 33 (frC z0) (0, 0)) :: H)) :
    CallsD Tryd.prog 23 #[ptr r2, ptr r3, ptr r4] (.panicking (wrg p e)) w fun en u2 w' => (∃ v, u2 = .panicking [{ v := v, recovered := true }]) ∧
      Back w ((r4, .row 28 [.int .i64 0] (0, 0)) :: (r3, .row 3 [.int .i64 0] (0, 0)) :: (r2, .row 33 (frC z0) (0, 0)) :: H) (fun _ H' => H' = (r4, .row 28 [.int .i64 e] (0, 0)) :: (r3, .row 3 [.int .i64 p] (0, 0)) :: (r2, .row 33 (frC z0) (0, 0)) :: H) en w' := by
  have := callsD_recover (P := Tryd.prog) (f := 23) (fn := Tryd.f23) (id := 0) (ops := o36) (rest := k36) (x0 := ⟨some 6, none, .raw ⟨some 6, .call ⟨.builtin .recover, #[], #[]⟩, 20, "frame.go:223", #[], none⟩⟩) (xs := [⟨some 3, none, .pure (.mov (.tmp 6))⟩])
    (o0 := ⟨some 6, .call ⟨.builtin .recover, #[], #[]⟩, 20, "frame.go:223", #[], none⟩) (ts := #[]) (rs := []) (args := [ptr r2, ptr r3, ptr r4]) (H := (r4, .row 28 [.int .i64 0] (0, 0)) :: (r3, .row 3 [.int .i64 0] (0, 0)) :: (r2, .row 33 (frC z0) (0, 0)) :: H)
    (K := fun _ H' => H' = (r4, .row 28 [.int .i64 e] (0, 0)) :: (r3, .row 3 [.int .i64 p] (0, 0)) :: (r2, .row 33 (frC z0) (0, 0)) :: H) Tryd.func23 body36 (by kernel_rfl) rfl rfl (by kernel_rfl) (by kernel_rfl) (.gave (.iface 63 (.agg ⟨[.int .i64 p, .int .i64 e]⟩))) ?_ w hw
  · exact this.mono fun en u2 w' h => ⟨⟨_, h.1⟩, h.2⟩
  rw [K36]
  repeat' ((conv => whnf); (first | refine RawV.neqNil rfl (by kernel_rfl) true (.inr ⟨_, _, rfl, rfl⟩) ?_ | refine SDraw.held (by kernel_rfl) [] .nil ?_ | refine Kept.sub (List.nil_sublist _) ?_ | refine And.intro ?_ ?_ | exact Keep.d1 rfl | refine New.mk (fun _ => ?_) | refine Look.at0 ?_ | refine Cell.row ?_ | refine Cell.buf ?_ | refine Cells.row rfl ?_ | refine Put.row rfl ?_ | refine Put.buf rfl ?_ | refine Look.at1 ?_ | refine Look.at2 ?_ | refine Look.at3 ?_ | refine Look.at4 ?_ | refine Look.at5 ?_ | refine Look.at6 ?_ | refine Look.at7 ?_ | refine Look.at8 ?_ | with_reducible refine Val.i64 (by omega) (by omega) ?_ | with_reducible refine Val.u8 (by omega) (by omega) ?_ | with_reducible refine Val.u32 (by omega) (by omega) ?_ | with_reducible refine Val.u64 (by omega) (by omega) ?_ | with_reducible refine Val.u8m ?_ | with_reducible refine Val.u32m ?_ | with_reducible refine Val.u64m ?_ | with_reducible refine Val.shr8 ?_ | with_reducible refine Val.shr16 (by decide) ?_ | with_reducible refine Val.shr24 (by decide) ?_ | with_reducible refine Val.raw ?_ | refine Branch.not ?_ | refine Branch.and ?_ | refine Branch.or ?_ | refine Branch.dt (by assumption) ?_ | refine Branch.df (by assumption) ?_ | refine Branch.dt rfl ?_ | refine Branch.dt (by omega) ?_ | refine Branch.df (by omega) ?_ | refine Branch.t rfl ?_ | refine Branch.f rfl ?_ | refine Branch.t (by assumption) ?_ | refine Branch.f (by assumption) ?_ | refine Branch.d (fun _ => ?_) (fun _ => ?_) | refine Branch.mk (fun _ => ?_) (fun _ => ?_) | refine Need.mk (by first | omega | decide | rfl) ?_ | refine Idx.nat (by omega) ?_ | refine Idx.auto (by first | omega | decide) (by first | omega | decide) ?_ | refine Cell.ro rfl ?_ | refine SDraw.all (by kernel_rfl) ?_ | refine Kept.k0 ?_ | refine Kept.k1 ?_ | refine Kept.k2 ?_ | refine Kept.k3 ?_ | refine Kept.k4 ?_))
end
end Go.Proofs.YtiaginlnapiijaaDoor

/- Ported (port.py) from FmJ. -/
set_option linter.unusedVariables false
set_option linter.unusedSimpArgs false
set_option maxRecDepth 100000
set_option maxHeartbeats 4000000
namespace Go.Proofs.YtiaginlnapiijaaDoor
open Sx
inductive S8 (A0 A2 A3 A4 : Value) : List Value → Prop
  | mk {r1 r5 r6 r7 r8 r9 r10 r11 r12 r13 r14 r15 r16 r17 r18 r19 r20 r21 r22 r23 r24 : Value} : S8 A0 A2 A3 A4 [A0, r1, A2, A3, A4, r5, r6, r7, r8, r9, r10, r11, r12, r13, r14, r15, r16, r17, r18, r19, r20, r21, r22, r23, r24]
inductive S10f (A0 A2 A3 A4 A14 : Value) : List Value → Prop
  | mk {r1 r5 r6 r7 r8 r9 r10 r11 r12 r13 r15 r16 r17 r18 r19 r20 r21 r22 r23 r24 : Value} : S10f A0 A2 A3 A4 A14 [A0, r1, A2, A3, A4, r5, r6, r7, r8, r9, r10, r11, r12, r13, A14, r15, r16, r17, r18, r19, r20, r21, r22, r23, r24]
inductive S10r (A0 A2 A3 A4 A5 A14 : Value) : List Value → Prop
  | mk {r1 r6 r7 r8 r9 r10 r11 r12 r13 r15 r16 r17 r18 r19 r20 r21 r22 r23 r24 : Value} : S10r A0 A2 A3 A4 A5 A14 [A0, r1, A2, A3, A4, A5, r6, r7, r8, r9, r10, r11, r12, r13, A14, r15, r16, r17, r18, r19, r20, r21, r22, r23, r24]
inductive S10c (A0 A2 A3 A4 A5 A14 A18 : Value) : List Value → Prop
  | mk {r1 r6 r7 r8 r9 r10 r11 r12 r13 r15 r16 r17 r19 r20 r21 r22 r23 r24 : Value} : S10c A0 A2 A3 A4 A5 A14 A18 [A0, r1, A2, A3, A4, A5, r6, r7, r8, r9, r10, r11, r12, r13, A14, r15, r16, r17, A18, r19, r20, r21, r22, r23, r24]
abbrev clo (r2 r3 r4 : Nat) : Value := .func (.func 23) #[] #[ptr r2, ptr r3, ptr r4]
abbrev dfr (r2 r3 r4 : Nat) : Deferred := { target := .fn (.func 23) #[ptr r2, ptr r3, ptr r4], args := #[] }
abbrev cels (r2 r3 r4 : Nat) (f : List Value) (p e : Int) (H : Heap) : Heap := (r4, .row 28 [.int .i64 e] (0, 0)) :: (r3, .row 3 [.int .i64 p] (0, 0)) :: (r2, .row 33 f (0, 0)) :: H
section
variable {K : Value → Heap → Prop} {H : Heap}
theorem c22 {s : List UInt8} (h : chk s = 0) (hK : K (.bool true) H) : SCalls Tryd.prog 22 [.string (strOf s)] H K := by
  have h38 : ∀ H (K2 : Value → Heap → Prop), K2 (.int .i64 0) H → SCalls Tryd.prog 29 [.string (strOf s)] H K2 := fun H K2 hk => c29 (by rw [h]; exact hk)
  refine enter22 ?_
  repeat' ((conv => whnf); (first | with_reducible refine h38 _ _ ?_ | exact Keep.all hK | refine New.mk (fun _ => ?_) | refine Look.at0 ?_ | refine Cell.row ?_ | refine Cell.buf ?_ | refine Cells.row rfl ?_ | refine Put.row rfl ?_ | refine Put.buf rfl ?_ | refine Look.at1 ?_ | refine Look.at2 ?_ | refine Look.at3 ?_ | refine Look.at4 ?_ | refine Look.at5 ?_ | refine Look.at6 ?_ | refine Look.at7 ?_ | refine Look.at8 ?_ | with_reducible refine Val.i64 (by omega) (by omega) ?_ | with_reducible refine Val.u8 (by omega) (by omega) ?_ | with_reducible refine Val.u32 (by omega) (by omega) ?_ | with_reducible refine Val.u64 (by omega) (by omega) ?_ | with_reducible refine Val.u8m ?_ | with_reducible refine Val.u32m ?_ | with_reducible refine Val.u64m ?_ | with_reducible refine Val.shr8 ?_ | with_reducible refine Val.shr16 (by decide) ?_ | with_reducible refine Val.shr24 (by decide) ?_ | with_reducible refine Val.raw ?_ | refine Branch.not ?_ | refine Branch.and ?_ | refine Branch.or ?_ | refine Branch.dt (by assumption) ?_ | refine Branch.df (by assumption) ?_ | refine Branch.dt rfl ?_ | refine Branch.dt (by omega) ?_ | refine Branch.df (by omega) ?_ | refine Branch.t rfl ?_ | refine Branch.f rfl ?_ | refine Branch.t (by assumption) ?_ | refine Branch.f (by assumption) ?_ | refine Branch.d (fun _ => ?_) (fun _ => ?_) | refine Branch.mk (fun _ => ?_) (fun _ => ?_) | refine Need.mk (by first | omega | decide | rfl) ?_ | refine Idx.nat (by omega) ?_ | refine Idx.auto (by first | omega | decide) (by first | omega | decide) ?_ | refine Cell.ro rfl ?_ | refine SDraw.all (by kernel_rfl) ?_ | refine Kept.k0 ?_ | refine Kept.k1 ?_ | refine Kept.k2 ?_ | refine Kept.k3 ?_ | refine Kept.k4 ?_))
theorem leavesN {w w' : World} {l : List Value} {H' : Heap} {r2 r3 r4 : Nat} (hw' : Holds w' H') (hs : Step w H w' H') (h : resK rs10 l H' fun vs => oneK vs fun v => Keep H' fun H' => K v H') :
    Leaves Tryd.prog Tryd.f8 l.toArray (Back w H K) [dfr r2 r3 r4] .returning w' := by
  refine leaves_cons (f := 23) (args := #[ptr r2, ptr r3, ptr r4]) (fun h => nomatch h) (by rfl) ?_
  refine (c23n w' hw').mono ?_
  rintro e u2 w2 ⟨rfl, ⟨v, H2, rfl, h1, h2, rfl⟩ | ⟨ch, H2, rfl, h1, h2, h3⟩⟩
  · exact leaves0 h1 (hs.trans h2) h
  · exact h3.elim
theorem leavesG {w w' : World} {l : List Value} {r2 r3 r4 : Nat} {p e : Int} (hw' : Holds w' (cels r2 r3 r4 (frC z0) 0 0 H)) (hs : Step w H w' (cels r2 r3 r4 (frC z0) 0 0 H))
    (h : resK rs10 l (cels r2 r3 r4 (frC z0) p e H) fun vs => oneK vs fun v => Keep (cels r2 r3 r4 (frC z0) p e H) fun H' => K v H') :
    Leaves Tryd.prog Tryd.f8 l.toArray (Back w H K) [dfr r2 r3 r4] (.panicking (wrg p e)) w' := by
  refine leaves_cons (f := 23) (args := #[ptr r2, ptr r3, ptr r4]) (fun h => nomatch h) (by rfl) ?_
  refine (c36g w' hw').mono ?_
  rintro en u2 w2 ⟨⟨v, rfl⟩, ⟨v2, H2, rfl, h1, h2, rfl⟩ | ⟨ch, H2, rfl, h1, h2, h3⟩⟩
  · exact leaves0 h1 (hs.trans h2) h
  · exact h3.elim
theorem c8 {s : List UInt8} (hv : chk s = 0) (D : List PanicEntry → Prop) (G : Fm → Nat → Prop)
    (hf : ∀ r, @SCalls ⟨D⟩ Tryd.prog 24 [ptr r] [rdB r s 0 0 0 (.pointer none) (.slice none 0 0)] fun v H' => ∃ f p B H2, v = frV f ∧ G f p ∧ H' = (r, .row 67 (.string (strOf s) :: .int .i64 (p : Int) :: B) (0, 0)) :: H2)
    (hG : ∀ f p, G f p → K (.tuple ⟨[frV f, .int .i64 (p : Int), .int .i64 0]⟩) H)
    (hD : ∀ ch, D ch → ∃ p e : Int, ch = wrg p e ∧ K (.tuple ⟨[frV z0, .int .i64 p, .int .i64 e]⟩) H) : SCalls Tryd.prog 8 [.string (strOf s)] H K := by
  refine ⟨fun w => Tryd.call8 _ w, fun w hw => calls_of_wp_defers (fn := Tryd.f8) Tryd.func8 dBody ?_⟩
  have e0 : ({ tmps := [Value.string (strOf s)].toArray ++ Array.replicate (Tryd.f8.ntmps - [Value.string (strOf s)].toArray.size) undef, defers := [] } : Act) = actD [] ([.string (strOf s)] ++ List.replicate 24 undef) := by
    have : Tryd.f8.ntmps - [Value.string (strOf s)].toArray.size = 24 := by kernel_rfl
    rw [this]; simp [actD]
  rw [e0]
  refine wp_part (ds := []) (fun l H' => ∃ r2 r3 r4, S8 (.string (strOf s)) (ptr r2) (ptr r3) (ptr r4) l ∧ H' = cels r2 r3 r4 (frC z0) 0 0 H) ?_ hw (Step.refl _ _) ?_
  · rw [dC0]
    repeat' ((conv => whnf); (first | exact ⟨_, _, _, .mk, rfl⟩ | refine New.mk (fun _ => ?_) | refine Look.at0 ?_ | refine Cell.row ?_ | refine Cell.buf ?_ | refine Cells.row rfl ?_ | refine Put.row rfl ?_ | refine Put.buf rfl ?_ | refine Look.at1 ?_ | refine Look.at2 ?_ | refine Look.at3 ?_ | refine Look.at4 ?_ | refine Look.at5 ?_ | refine Look.at6 ?_ | refine Look.at7 ?_ | refine Look.at8 ?_ | with_reducible refine Val.i64 (by omega) (by omega) ?_ | with_reducible refine Val.u8 (by omega) (by omega) ?_ | with_reducible refine Val.u32 (by omega) (by omega) ?_ | with_reducible refine Val.u64 (by omega) (by omega) ?_ | with_reducible refine Val.u8m ?_ | with_reducible refine Val.u32m ?_ | with_reducible refine Val.u64m ?_ | with_reducible refine Val.shr8 ?_ | with_reducible refine Val.shr16 (by decide) ?_ | with_reducible refine Val.shr24 (by decide) ?_ | with_reducible refine Val.raw ?_ | refine Branch.not ?_ | refine Branch.and ?_ | refine Branch.or ?_ | refine Branch.dt (by assumption) ?_ | refine Branch.df (by assumption) ?_ | refine Branch.dt rfl ?_ | refine Branch.dt (by omega) ?_ | refine Branch.df (by omega) ?_ | refine Branch.t rfl ?_ | refine Branch.f rfl ?_ | refine Branch.t (by assumption) ?_ | refine Branch.f (by assumption) ?_ | refine Branch.d (fun _ => ?_) (fun _ => ?_) | refine Branch.mk (fun _ => ?_) (fun _ => ?_) | refine Need.mk (by first | omega | decide | rfl) ?_ | refine Idx.nat (by omega) ?_ | refine Idx.auto (by first | omega | decide) (by first | omega | decide) ?_ | refine Cell.ro rfl ?_ | refine SDraw.all (by kernel_rfl) ?_ | refine Kept.k0 ?_ | refine Kept.k1 ?_ | refine Kept.k2 ?_ | refine Kept.k3 ?_ | refine Kept.k4 ?_))
  rintro l1 H1 w1 hw1 hs1 ⟨r2, r3, r4, hS1, rfl⟩
  refine wp_part (ds := []) (fun l H' => S8 (.string (strOf s)) (ptr r2) (ptr r3) (ptr r4) l ∧ H' = cels r2 r3 r4 (frC z0) 0 0 H) ?_ hw1 hs1 ?_
  · rw [dC1]
    cases hS1
    have h35 := fun H (K2 : Value → Heap → Prop) hk => c22 (s := s) (H := H) (K := K2) hv hk
    repeat' ((conv => whnf); (first | with_reducible refine h35 _ _ ?_ | exact ⟨.mk, rfl⟩ | refine New.mk (fun _ => ?_) | refine Look.at0 ?_ | refine Cell.row ?_ | refine Cell.buf ?_ | refine Cells.row rfl ?_ | refine Put.row rfl ?_ | refine Put.buf rfl ?_ | refine Look.at1 ?_ | refine Look.at2 ?_ | refine Look.at3 ?_ | refine Look.at4 ?_ | refine Look.at5 ?_ | refine Look.at6 ?_ | refine Look.at7 ?_ | refine Look.at8 ?_ | with_reducible refine Val.i64 (by omega) (by omega) ?_ | with_reducible refine Val.u8 (by omega) (by omega) ?_ | with_reducible refine Val.u32 (by omega) (by omega) ?_ | with_reducible refine Val.u64 (by omega) (by omega) ?_ | with_reducible refine Val.u8m ?_ | with_reducible refine Val.u32m ?_ | with_reducible refine Val.u64m ?_ | with_reducible refine Val.shr8 ?_ | with_reducible refine Val.shr16 (by decide) ?_ | with_reducible refine Val.shr24 (by decide) ?_ | with_reducible refine Val.raw ?_ | refine Branch.not ?_ | refine Branch.and ?_ | refine Branch.or ?_ | refine Branch.dt (by assumption) ?_ | refine Branch.df (by assumption) ?_ | refine Branch.dt rfl ?_ | refine Branch.dt (by omega) ?_ | refine Branch.df (by omega) ?_ | refine Branch.t rfl ?_ | refine Branch.f rfl ?_ | refine Branch.t (by assumption) ?_ | refine Branch.f (by assumption) ?_ | refine Branch.d (fun _ => ?_) (fun _ => ?_) | refine Branch.mk (fun _ => ?_) (fun _ => ?_) | refine Need.mk (by first | omega | decide | rfl) ?_ | refine Idx.nat (by omega) ?_ | refine Idx.auto (by first | omega | decide) (by first | omega | decide) ?_ | refine Cell.ro rfl ?_ | refine SDraw.all (by kernel_rfl) ?_ | refine Kept.k0 ?_ | refine Kept.k1 ?_ | refine Kept.k2 ?_ | refine Kept.k3 ?_ | refine Kept.k4 ?_))
  rintro l2 H2 w2 hw2 hs2 ⟨hS2, rfl⟩
  -- the call is put off
  refine wp_seq ?_
  rw [dC2]
  refine wp_region ?_
  rw [show List.range ops5.size = List.range' 0 1 ++ [1] from rfl]
  refine xops_pre (ds := []) (w0 := w) (H0 := H) (K := fun l H' => S10f (.string (strOf s)) (ptr r2) (ptr r3) (ptr r4) (clo r2 r3 r4) l ∧ H' = cels r2 r3 r4 (frC z0) 0 0 H) ?_ noDead [⟨some 14, none, .pure (.mkfunc (.func 23) [] [.tmp 2, .tmp 3, .tmp 4])⟩] 0 l2 _ w2 ?_ ?_ hw2 hs2
  rotate_left
  · intro i x hi
    match i, hi with
    | 0, hi => injection hi with hi; subst hi; exact ⟨_, rfl, by kernel_rfl⟩
  · cases hS2
    repeat' ((conv => whnf); (first | exact ⟨.mk, rfl⟩ | refine New.mk (fun _ => ?_) | refine Look.at0 ?_ | refine Cell.row ?_ | refine Cell.buf ?_ | refine Cells.row rfl ?_ | refine Put.row rfl ?_ | refine Put.buf rfl ?_ | refine Look.at1 ?_ | refine Look.at2 ?_ | refine Look.at3 ?_ | refine Look.at4 ?_ | refine Look.at5 ?_ | refine Look.at6 ?_ | refine Look.at7 ?_ | refine Look.at8 ?_ | with_reducible refine Val.i64 (by omega) (by omega) ?_ | with_reducible refine Val.u8 (by omega) (by omega) ?_ | with_reducible refine Val.u32 (by omega) (by omega) ?_ | with_reducible refine Val.u64 (by omega) (by omega) ?_ | with_reducible refine Val.u8m ?_ | with_reducible refine Val.u32m ?_ | with_reducible refine Val.u64m ?_ | with_reducible refine Val.shr8 ?_ | with_reducible refine Val.shr16 (by decide) ?_ | with_reducible refine Val.shr24 (by decide) ?_ | with_reducible refine Val.raw ?_ | refine Branch.not ?_ | refine Branch.and ?_ | refine Branch.or ?_ | refine Branch.dt (by assumption) ?_ | refine Branch.df (by assumption) ?_ | refine Branch.dt rfl ?_ | refine Branch.dt (by omega) ?_ | refine Branch.df (by omega) ?_ | refine Branch.t rfl ?_ | refine Branch.f rfl ?_ | refine Branch.t (by assumption) ?_ | refine Branch.f (by assumption) ?_ | refine Branch.d (fun _ => ?_) (fun _ => ?_) | refine Branch.mk (fun _ => ?_) (fun _ => ?_) | refine Need.mk (by first | omega | decide | rfl) ?_ | refine Idx.nat (by omega) ?_ | refine Idx.auto (by first | omega | decide) (by first | omega | decide) ?_ | refine Cell.ro rfl ?_ | refine SDraw.all (by kernel_rfl) ?_ | refine Kept.k0 ?_ | refine Kept.k1 ?_ | refine Kept.k2 ?_ | refine Kept.k3 ?_ | refine Kept.k4 ?_))
  rintro a3 w3 ⟨l3, H3, rfl, hw3, hs3, hS3, rfl⟩
  cases hS3
  refine wp_putOff (ops := ops5) (o := ⟨none, .defer ⟨.value (.tmp 14), #[], #[]⟩, 0, "frame.go:222", #[⟨0, .data⟩], none⟩) (d := dfr r2 r3 r4) (by rfl) rfl (by
    simp only [execOp, resolve, ev_eq]
    show (Deferred.ofValue (clo r2 r3 r4) _ >>= fun d => pure (.defer d) : Sem Next).run Tryd.prog w3 = _
    simp [Deferred.ofValue]) ⟨_, rfl, ?_⟩
  -- the reader is made
  refine wp_part (ds := [dfr r2 r3 r4]) (fun l H' => ∃ r, S10r (.string (strOf s)) (ptr r2) (ptr r3) (ptr r4) (ptr r) (clo r2 r3 r4) l ∧ H' = rdB r s 0 0 0 (.pointer none) (.slice none 0 0) :: cels r2 r3 r4 (frC z0) 0 0 H) ?_ hw3 hs3 ?_
  · rw [dC3]
    repeat' ((conv => whnf); (first | exact ⟨_, .mk, rfl⟩ | refine New.mk (fun _ => ?_) | refine Look.at0 ?_ | refine Cell.row ?_ | refine Cell.buf ?_ | refine Cells.row rfl ?_ | refine Put.row rfl ?_ | refine Put.buf rfl ?_ | refine Look.at1 ?_ | refine Look.at2 ?_ | refine Look.at3 ?_ | refine Look.at4 ?_ | refine Look.at5 ?_ | refine Look.at6 ?_ | refine Look.at7 ?_ | refine Look.at8 ?_ | with_reducible refine Val.i64 (by omega) (by omega) ?_ | with_reducible refine Val.u8 (by omega) (by omega) ?_ | with_reducible refine Val.u32 (by omega) (by omega) ?_ | with_reducible refine Val.u64 (by omega) (by omega) ?_ | with_reducible refine Val.u8m ?_ | with_reducible refine Val.u32m ?_ | with_reducible refine Val.u64m ?_ | with_reducible refine Val.shr8 ?_ | with_reducible refine Val.shr16 (by decide) ?_ | with_reducible refine Val.shr24 (by decide) ?_ | with_reducible refine Val.raw ?_ | refine Branch.not ?_ | refine Branch.and ?_ | refine Branch.or ?_ | refine Branch.dt (by assumption) ?_ | refine Branch.df (by assumption) ?_ | refine Branch.dt rfl ?_ | refine Branch.dt (by omega) ?_ | refine Branch.df (by omega) ?_ | refine Branch.t rfl ?_ | refine Branch.f rfl ?_ | refine Branch.t (by assumption) ?_ | refine Branch.f (by assumption) ?_ | refine Branch.d (fun _ => ?_) (fun _ => ?_) | refine Branch.mk (fun _ => ?_) (fun _ => ?_) | refine Need.mk (by first | omega | decide | rfl) ?_ | refine Idx.nat (by omega) ?_ | refine Idx.auto (by first | omega | decide) (by first | omega | decide) ?_ | refine Cell.ro rfl ?_ | refine SDraw.all (by kernel_rfl) ?_ | refine Kept.k0 ?_ | refine Kept.k1 ?_ | refine Kept.k2 ?_ | refine Kept.k3 ?_ | refine Kept.k4 ?_))
  rintro l4 H4 w4 hw4 hs4 ⟨r, hS4, rfl⟩
  -- the frame is read
  refine wp_seq ?_
  rw [dC4]
  refine wp_region ?_
  rw [show List.range ops7.size = List.range' 0 1 ++ [1, 2] from rfl]
  refine xops_pre (ds := [dfr r2 r3 r4]) (w0 := w) (H0 := H) (K := fun l H' => S10c (.string (strOf s)) (ptr r2) (ptr r3) (ptr r4) (ptr r) (clo r2 r3 r4) (ptr r) l ∧ H' = rdB r s 0 0 0 (.pointer none) (.slice none 0 0) :: cels r2 r3 r4 (frC z0) 0 0 H) ?_ noDead [⟨some 18, none, .pure (.mov (.tmp 5))⟩] 0 l4 _ w4 ?_ ?_ hw4 hs4
  rotate_left
  · intro i x hi
    match i, hi with
    | 0, hi => injection hi with hi; subst hi; exact ⟨_, rfl, by kernel_rfl⟩
  · cases hS4
    repeat' ((conv => whnf); (first | exact ⟨.mk, rfl⟩ | refine New.mk (fun _ => ?_) | refine Look.at0 ?_ | refine Cell.row ?_ | refine Cell.buf ?_ | refine Cells.row rfl ?_ | refine Put.row rfl ?_ | refine Put.buf rfl ?_ | refine Look.at1 ?_ | refine Look.at2 ?_ | refine Look.at3 ?_ | refine Look.at4 ?_ | refine Look.at5 ?_ | refine Look.at6 ?_ | refine Look.at7 ?_ | refine Look.at8 ?_ | with_reducible refine Val.i64 (by omega) (by omega) ?_ | with_reducible refine Val.u8 (by omega) (by omega) ?_ | with_reducible refine Val.u32 (by omega) (by omega) ?_ | with_reducible refine Val.u64 (by omega) (by omega) ?_ | with_reducible refine Val.u8m ?_ | with_reducible refine Val.u32m ?_ | with_reducible refine Val.u64m ?_ | with_reducible refine Val.shr8 ?_ | with_reducible refine Val.shr16 (by decide) ?_ | with_reducible refine Val.shr24 (by decide) ?_ | with_reducible refine Val.raw ?_ | refine Branch.not ?_ | refine Branch.and ?_ | refine Branch.or ?_ | refine Branch.dt (by assumption) ?_ | refine Branch.df (by assumption) ?_ | refine Branch.dt rfl ?_ | refine Branch.dt (by omega) ?_ | refine Branch.df (by omega) ?_ | refine Branch.t rfl ?_ | refine Branch.f rfl ?_ | refine Branch.t (by assumption) ?_ | refine Branch.f (by assumption) ?_ | refine Branch.d (fun _ => ?_) (fun _ => ?_) | refine Branch.mk (fun _ => ?_) (fun _ => ?_) | refine Need.mk (by first | omega | decide | rfl) ?_ | refine Idx.nat (by omega) ?_ | refine Idx.auto (by first | omega | decide) (by first | omega | decide) ?_ | refine Cell.ro rfl ?_ | refine SDraw.all (by kernel_rfl) ?_ | refine Kept.k0 ?_ | refine Kept.k1 ?_ | refine Kept.k2 ?_ | refine Kept.k3 ?_ | refine Kept.k4 ?_))
  rintro a5 w5 ⟨l5, H5, rfl, hw5, hs5, hS5, rfl⟩
  cases hS5
  refine @wp_mayDie ⟨D⟩ _ _ ops7 _ _ w5 ⟨some 19, .call ⟨.value (.func 24), #[.tmp 18], #[65]⟩, 33, "frame.go:232", #[⟨0, .data⟩], none⟩ 1 [2] 24 [ptr r] (cels r2 r3 r4 (frC z0) 0 0 H) _ _ (by rfl) rfl (by
    have e : ∀ l, (act l).eval (.func 24) = .func (.func 24) #[] #[] := fun l => rfl
    have e2 : ∀ l, Array.map (act l).eval #[Operand.tmp 18] = #[ev l (.tmp 18)] := fun l => by simp [ev_eq]
    simp only [execOp, resolve, e, e2, Deferred.ofValue, Sem.run_bind, Sem.run_pure, Result.andThen_ok, invoke, Array.empty_append, Array.append_empty]
    rfl) (hf r) hw5 ?_ ?_
  · rintro v H6 w6 hw6 hst6 ⟨f, p, B, H2, rfl, hGf, rfl⟩
    refine ⟨_, rfl, ?_⟩
    -- what was read is laid down
    have hsub : ((r, Blk.row 67 (.string (strOf s) :: .int .i64 (p : Int) :: B) (0, 0)) :: cels r2 r3 r4 (frC z0) 0 0 H).Sublist (((r, Blk.row 67 (.string (strOf s) :: .int .i64 (p : Int) :: B) (0, 0)) :: H2) ++ cels r2 r3 r4 (frC z0) 0 0 H) :=
      List.Sublist.cons_cons _ (List.sublist_append_right _ _)
    have hw7 := hw6.sub hsub
    have hs7 : Step w H w6 ((r, Blk.row 67 (.string (strOf s) :: .int .i64 (p : Int) :: B) (0, 0)) :: cels r2 r3 r4 (frC z0) 0 0 H) := (hs5.trans hst6).fewer fun q hq => hsub.subset hq
    refine xops_pre (ds := [dfr r2 r3 r4]) (rest := []) (w0 := w) (H0 := H) (K := fun l H' => S10r (.string (strOf s)) (ptr r2) (ptr r3) (ptr r4) (ptr r) (clo r2 r3 r4) l ∧ H' = (r, Blk.row 67 (.string (strOf s) :: .int .i64 (p : Int) :: B) (0, 0)) :: cels r2 r3 r4 (frC f) 0 0 H) ?_ noDead [⟨none, none, .store 12 (.tmp 2) (.tmp 19)⟩] 2 _ _ w6 ?_ ?_ hw7 hs7
    rotate_left
    · intro i x hi
      match i, hi with
      | 0, hi => injection hi with hi; subst hi; exact ⟨_, rfl, by kernel_rfl⟩
    · repeat' ((conv => whnf); (first | exact ⟨.mk, rfl⟩ | refine New.mk (fun _ => ?_) | refine Look.at0 ?_ | refine Cell.row ?_ | refine Cell.buf ?_ | refine Cells.row rfl ?_ | refine Put.row rfl ?_ | refine Put.buf rfl ?_ | refine Look.at1 ?_ | refine Look.at2 ?_ | refine Look.at3 ?_ | refine Look.at4 ?_ | refine Look.at5 ?_ | refine Look.at6 ?_ | refine Look.at7 ?_ | refine Look.at8 ?_ | with_reducible refine Val.i64 (by omega) (by omega) ?_ | with_reducible refine Val.u8 (by omega) (by omega) ?_ | with_reducible refine Val.u32 (by omega) (by omega) ?_ | with_reducible refine Val.u64 (by omega) (by omega) ?_ | with_reducible refine Val.u8m ?_ | with_reducible refine Val.u32m ?_ | with_reducible refine Val.u64m ?_ | with_reducible refine Val.shr8 ?_ | with_reducible refine Val.shr16 (by decide) ?_ | with_reducible refine Val.shr24 (by decide) ?_ | with_reducible refine Val.raw ?_ | refine Branch.not ?_ | refine Branch.and ?_ | refine Branch.or ?_ | refine Branch.dt (by assumption) ?_ | refine Branch.df (by assumption) ?_ | refine Branch.dt rfl ?_ | refine Branch.dt (by omega) ?_ | refine Branch.df (by omega) ?_ | refine Branch.t rfl ?_ | refine Branch.f rfl ?_ | refine Branch.t (by assumption) ?_ | refine Branch.f (by assumption) ?_ | refine Branch.d (fun _ => ?_) (fun _ => ?_) | refine Branch.mk (fun _ => ?_) (fun _ => ?_) | refine Need.mk (by first | omega | decide | rfl) ?_ | refine Idx.nat (by omega) ?_ | refine Idx.auto (by first | omega | decide) (by first | omega | decide) ?_ | refine Cell.ro rfl ?_ | refine SDraw.all (by kernel_rfl) ?_ | refine Kept.k0 ?_ | refine Kept.k1 ?_ | refine Kept.k2 ?_ | refine Kept.k3 ?_ | refine Kept.k4 ?_))
    rintro a8 w8 ⟨l8, H8, rfl, hw8, hs8, hS8, rfl⟩
    show (dC 5).wp Tryd.prog _ _ _
    refine wp_mono (xc_ok (ds := [dfr r2 r3 r4]) (dC 5) (fun e l H' => match e with
      | .ret => resK rs10 l H' fun vs => oneK vs fun v => Keep H' fun H' => K v H'
      | _ => False) _ _ noD ?_ w8 hw8) ?_
    · rw [dC5]
      cases hS8
      have hk := hG f p hGf
      repeat' ((conv => whnf); (first | refine SDraw.held (by kernel_rfl) [] .nil ?_ | refine Kept.sub (List.nil_sublist _) ?_ | refine And.intro ?_ ?_ | exact Keep.d4 hk | refine New.mk (fun _ => ?_) | refine Look.at0 ?_ | refine Cell.row ?_ | refine Cell.buf ?_ | refine Cells.row rfl ?_ | refine Put.row rfl ?_ | refine Put.buf rfl ?_ | refine Look.at1 ?_ | refine Look.at2 ?_ | refine Look.at3 ?_ | refine Look.at4 ?_ | refine Look.at5 ?_ | refine Look.at6 ?_ | refine Look.at7 ?_ | refine Look.at8 ?_ | with_reducible refine Val.i64 (by omega) (by omega) ?_ | with_reducible refine Val.u8 (by omega) (by omega) ?_ | with_reducible refine Val.u32 (by omega) (by omega) ?_ | with_reducible refine Val.u64 (by omega) (by omega) ?_ | with_reducible refine Val.u8m ?_ | with_reducible refine Val.u32m ?_ | with_reducible refine Val.u64m ?_ | with_reducible refine Val.shr8 ?_ | with_reducible refine Val.shr16 (by decide) ?_ | with_reducible refine Val.shr24 (by decide) ?_ | with_reducible refine Val.raw ?_ | refine Branch.not ?_ | refine Branch.and ?_ | refine Branch.or ?_ | refine Branch.dt (by assumption) ?_ | refine Branch.df (by assumption) ?_ | refine Branch.dt rfl ?_ | refine Branch.dt (by omega) ?_ | refine Branch.df (by omega) ?_ | refine Branch.t rfl ?_ | refine Branch.f rfl ?_ | refine Branch.t (by assumption) ?_ | refine Branch.f (by assumption) ?_ | refine Branch.d (fun _ => ?_) (fun _ => ?_) | refine Branch.mk (fun _ => ?_) (fun _ => ?_) | refine Need.mk (by first | omega | decide | rfl) ?_ | refine Idx.nat (by omega) ?_ | refine Idx.auto (by first | omega | decide) (by first | omega | decide) ?_ | refine Cell.ro rfl ?_ | refine SDraw.all (by kernel_rfl) ?_ | refine Kept.k0 ?_ | refine Kept.k1 ?_ | refine Kept.k2 ?_ | refine Kept.k3 ?_ | refine Kept.k4 ?_))
    · rintro e a9 w9 ⟨l9, H9, rfl, hw9, hs9, hq⟩
      cases e with
      | ret => exact leavesN hw9 (hs8.trans hs9) hq
      | normal => exact hq.elim
      | exit i => exact hq.elim
      | goto i => exact hq.elim
      | panic ch => exact hq.elim
      | outgrown => exact hq.elim
  · intro ch H6 w6 hw6 hst6 hch
    obtain ⟨p, e, rfl, hk⟩ := hD ch hch
    have hsub : (cels r2 r3 r4 (frC z0) 0 0 H).Sublist (H6 ++ cels r2 r3 r4 (frC z0) 0 0 H) := List.sublist_append_right _ _
    refine leavesG (hw6.sub hsub) ((hs5.trans hst6).fewer fun q hq => hsub.subset hq) ?_
    repeat' ((conv => whnf); (first | exact Keep.d3 hk | refine New.mk (fun _ => ?_) | refine Look.at0 ?_ | refine Cell.row ?_ | refine Cell.buf ?_ | refine Cells.row rfl ?_ | refine Put.row rfl ?_ | refine Put.buf rfl ?_ | refine Look.at1 ?_ | refine Look.at2 ?_ | refine Look.at3 ?_ | refine Look.at4 ?_ | refine Look.at5 ?_ | refine Look.at6 ?_ | refine Look.at7 ?_ | refine Look.at8 ?_ | with_reducible refine Val.i64 (by omega) (by omega) ?_ | with_reducible refine Val.u8 (by omega) (by omega) ?_ | with_reducible refine Val.u32 (by omega) (by omega) ?_ | with_reducible refine Val.u64 (by omega) (by omega) ?_ | with_reducible refine Val.u8m ?_ | with_reducible refine Val.u32m ?_ | with_reducible refine Val.u64m ?_ | with_reducible refine Val.shr8 ?_ | with_reducible refine Val.shr16 (by decide) ?_ | with_reducible refine Val.shr24 (by decide) ?_ | with_reducible refine Val.raw ?_ | refine Branch.not ?_ | refine Branch.and ?_ | refine Branch.or ?_ | refine Branch.dt (by assumption) ?_ | refine Branch.df (by assumption) ?_ | refine Branch.dt rfl ?_ | refine Branch.dt (by omega) ?_ | refine Branch.df (by omega) ?_ | refine Branch.t rfl ?_ | refine Branch.f rfl ?_ | refine Branch.t (by assumption) ?_ | refine Branch.f (by assumption) ?_ | refine Branch.d (fun _ => ?_) (fun _ => ?_) | refine Branch.mk (fun _ => ?_) (fun _ => ?_) | refine Need.mk (by first | omega | decide | rfl) ?_ | refine Idx.nat (by omega) ?_ | refine Idx.auto (by first | omega | decide) (by first | omega | decide) ?_ | refine Cell.ro rfl ?_ | refine SDraw.all (by kernel_rfl) ?_ | refine Kept.k0 ?_ | refine Kept.k1 ?_ | refine Kept.k2 ?_ | refine Kept.k3 ?_ | refine Kept.k4 ?_))
end
end Go.Proofs.YtiaginlnapiijaaDoor

/- Ported (port.py) from FmK. -/
set_option linter.unusedVariables false
set_option linter.unusedSimpArgs false
set_option maxRecDepth 100000
set_option maxHeartbeats 4000000
namespace Go.Proofs.YtiaginlnapiijaaDoor
open Sx
theorem encB_ok (f : Fm) (ack : Bool) : ∀ b ∈ encB f ack, isB b = true := by
  intro b hb
  unfold encB at hb
  rcases List.mem_append.1 hb with h | h
  · rcases List.mem_append.1 h with h | h
    · exact (stf_run (bodyB f) (bodyB_ok f)).2 b h
    · rcases List.mem_cons.1 h with rfl | h
      · rfl
      · rw [List.mem_singleton.1 h]; exact fb_ok _
  · rw [(List.mem_replicate.1 h).2]; rfl
theorem encB_lim (f : Fm) (ack : Bool) : (encB f ack).length ≤ 65536 := by
  have := encN_lt f
  rw [encB_len]; omega
section
variable {K : Value → Heap → Prop} {H : Heap} {f : Fm}
/-- A frame's bits, and any behind them. -/
theorem c10a {u : List UInt8} (hok : okF f = true) (hu : ∀ b ∈ u, isB b = true) (hl : (encB f true ++ u).length ≤ 65536) (hK : K (.tuple ⟨[frV (plF f), .int .i64 (encN f : Int), .int .i64 0]⟩) H) :
    SCalls Tryd.prog 8 [.string (strOf (encB f true ++ u))] H K := by
  have hv : chk (encB f true ++ u) = 0 := chk_ok hl (fun b hb => by
    rcases List.mem_append.1 hb with h | h
    · exact encB_ok _ _ _ h
    · exact hu b h)
  refine c8 hv (fun _ => False) (fun g p => g = plF f ∧ p = encN f) (fun r => ?_) (fun g p h => by obtain ⟨rfl, rfl⟩ := h; exact hK) (fun ch h => h.elim)
  refine @c24 ⟨fun _ => False⟩ _ r _ u f true _ hok ⟨fun i a b h1 h2 => by rw [h1] at h2; injection h2, fun h => absurd h (Nat.lt_irrefl _), hl⟩ (.mk .zero (Nat.zero_le _) (Bld.new (T := 67) (r := r) (pre := rdC _ 0 0 0))) (fun h => nomatch h) (fun _ N' hN => ?_)
  cases hN with
  | @mk a lv n N ha ha2 hBd =>
    cases hBd with
    | @mk pp sv M hpp hbuf =>
      have hae : a = encN f := by rw [ha]; rfl
      exact ⟨plF f, a, _, M, rfl, ⟨rfl, hae⟩, rfl⟩
/-- Not acknowledged. -/
theorem c10b (hok : okF f = true) (hK : ∀ p : Int, K (.tuple ⟨[frV z0, .int .i64 p, .int .i64 23]⟩) H) : SCalls Tryd.prog 8 [.string (strOf (encB f false))] H K := by
  have hv : chk (encB f false) = 0 := chk_ok (encB_lim f _) (encB_ok f _)
  refine c8 hv (fun ch => ch = wrg ((stf (bodyB f)).out.length + 1 : Nat) 23) (fun g p => False) (fun r => ?_) (fun g p h => h.elim) (fun ch h => ⟨_, _, h, hK _⟩)
  have hs : @Src ⟨fun ch => ch = wrg ((stf (bodyB f)).out.length + 1 : Nat) 23⟩ (encB f false) (encB f false ++ []) := by
    rw [List.append_nil]
    exact @Src.mk ⟨_⟩ _ _ (fun i a b h1 h2 => by rw [h1] at h2; injection h2) (fun h => absurd h (Nat.lt_irrefl _)) (encB_lim f _)
  refine @c24 ⟨fun ch => ch = wrg ((stf (bodyB f)).out.length + 1 : Nat) 23⟩ _ r _ [] f false _ hok hs (.mk .zero (Nat.zero_le _) (Bld.new (T := 67) (r := r) (pre := rdC _ 0 0 0))) (fun _ _ => rfl) (fun h => nomatch h)
/-- Cut off. -/
theorem c10c {k : Nat} (hok : okF f = true) (hk : k < encN f) (hK : K (.tuple ⟨[frV z0, .int .i64 (k : Int), .int .i64 3]⟩) H) : SCalls Tryd.prog 8 [.string (strOf ((encB f true).take k))] H K := by
  have hl := encB_lim f true
  have hel := encB_len f true
  have hkl : ((encB f true).take k).length = k := by rw [List.length_take]; omega
  have hv : chk ((encB f true).take k) = 0 := chk_ok (by omega) (fun b hb => encB_ok f _ b (List.mem_of_mem_take hb))
  refine c8 hv (fun ch => ch = wrg k 3) (fun g p => False) (fun r => ?_) (fun g p h => h.elim) (fun ch h => ⟨_, _, h, hK⟩)
  have hs : @Src ⟨fun ch => ch = wrg k 3⟩ ((encB f true).take k) (encB f true ++ []) := by
    rw [List.append_nil]
    refine @Src.mk ⟨_⟩ _ _ (fun i a b h1 h2 => ?_) (fun _ => by show wrg _ 3 = wrg _ 3; rw [hkl]) (by omega)
    rw [List.getElem?_take] at h1
    split at h1
    · rw [h1] at h2; injection h2
    · cases h1
  refine @c24 ⟨fun ch => ch = wrg k 3⟩ _ r _ [] f true _ hok hs (.mk .zero (Nat.zero_le _) (Bld.new (T := 67) (r := r) (pre := rdC _ 0 0 0))) (fun h => nomatch h) (fun _ N' hN => ?_)
  cases hN with
  | @mk a lv n N ha ha2 hBd =>
    have hae : a = encN f := by rw [ha]; rfl
    omega
end
end Go.Proofs.YtiaginlnapiijaaDoor

/- Ported (port.py) from FmL. -/
set_option linter.unusedVariables false
set_option linter.unusedSimpArgs false
set_option maxRecDepth 100000
set_option maxHeartbeats 4000000
namespace Go.Proofs.YtiaginlnapiijaaDoor
open Sx
/-- Whether two frames are one, cell by cell. -/
def eqV (f g : Fm) : Bool := decide ((f.id : Int) = g.id) && (f.x == g.x && (f.r == g.r && (decide (f.n = g.n) && (decide ((f.d0.toNat : Int) = g.d0.toNat) && (decide ((f.d1.toNat : Int) = g.d1.toNat) && (decide ((f.d2.toNat : Int) = g.d2.toNat) &&
  (decide ((f.d3.toNat : Int) = g.d3.toNat) && (decide ((f.d4.toNat : Int) = g.d4.toNat) && (decide ((f.d5.toNat : Int) = g.d5.toNat) && (decide ((f.d6.toNat : Int) = g.d6.toNat) && decide ((f.d7.toNat : Int) = g.d7.toNat)))))))))))
theorem eqV_refl (f : Fm) : eqV f f = true := by simp [eqV]
theorem beqB (b : Bool) : (b == b) = true := by cases b <;> rfl
/-- How many bits a frame has at most. -/
def lonM (n : Nat) (x : Bool) : Nat := if x then 54 + 8 * n else 34 + 8 * n
def lonV (n : Int) (x : Bool) : Int × Int := if n < 0 ∨ 8 < n then (0, 1) else ((lonM n.toNat x + (lonM n.toNat x - 1) / 4 + 10 : Nat), 0)
theorem stf_put (l : List UInt8) : l ≠ [] → 1 ≤ (stf l).n ∧ 4 * (stf l).out.length + (stf l).n ≤ 5 * l.length := by
  induction l using snoc_ind with
  | h0 => exact fun h => absurd rfl h
  | h1 l b ih =>
    intro _
    rw [stf_snoc]
    by_cases h0 : l = []
    · subst h0
      unfold St.step tk
      show 1 ≤ (if (if b.toNat = (stf []).lv then (stf []).n + 1 else 1) = 5 then _ else _ : St).n ∧ _
      have : (stf []).n = 0 := rfl
      rw [this]
      have h1 : (if b.toNat = (stf []).lv then 0 + 1 else 1) = 1 := by split <;> rfl
      rw [h1, if_neg (by decide)]
      exact ⟨Nat.le_refl _, Nat.le_refl _⟩
    · obtain ⟨h1, h2⟩ := ih h0
      have h3 : tk (stf l).lv (stf l).n b.toNat ≤ (stf l).n + 1 := by unfold tk; split <;> omega
      have h4 : 1 ≤ tk (stf l).lv (stf l).n b.toNat := by unfold tk; split <;> omega
      unfold St.step
      split
      · rename_i h5
        refine ⟨Nat.le_refl _, ?_⟩
        simp only [List.length_append, List.length_singleton]
        omega
      · refine ⟨h4, ?_⟩
        simp only [List.length_append, List.length_singleton]
        omega
theorem body_len (f : Fm) : (bodyB f).length = lonM (nb f) f.x := by
  have h2 := datB_len f (nb_le f)
  have h3 := fld_lenX f
  unfold bodyB sumB hdB lonM
  simp only [List.length_append, numB_len, List.length_cons, List.length_nil, h2, h3]
  split <;> simp <;> omega
theorem encN_most (f : Fm) : (encN f : Int) ≤ (lonV (nb f : Int) f.x).1 + 10 ∧ (lonV (nb f : Int) f.x).2 = 0 := by
  have h1 := nb_le f
  have h2 := body_len f
  have hne : bodyB f ≠ [] := fun e => by
    rw [e] at h2
    unfold lonM at h2
    simp at h2
    split at h2 <;> omega
  obtain ⟨h3, h4⟩ := stf_put (bodyB f) hne
  unfold lonV encN
  rw [if_neg (by omega), Int.toNat_natCast]
  refine ⟨?_, rfl⟩
  dsimp only
  rw [h2] at h4
  omega
section
variable {K : Value → Heap → Prop} {H : Heap} {f g : Fm}
theorem c10t (hok : okF f = true) (hK : K (.tuple ⟨[frV (plF f), .int .i64 (encN f : Int), .int .i64 0]⟩) H) : SCalls Tryd.prog 8 [.string (strOf (encB f true))] H K := by
  have := c10a (f := f) (u := []) (K := K) (H := H) hok (fun b hb => by cases hb) (by rw [List.append_nil]; exact encB_lim f _) hK
  rwa [List.append_nil] at this
def f0 : Fm := ⟨291, false, false, 2, 1, 2, 0, 0, 0, 0, 0, 0⟩
end
end Go.Proofs.YtiaginlnapiijaaDoor

