/- Ported (port.py) from WrC. -/
import Derived.Test.YtiaginlnapiijaaGreatDoorBMain

set_option linter.unusedVariables false
set_option linter.unusedSimpArgs false
set_option maxRecDepth 100000
set_option maxHeartbeats 4000000
namespace Go.Proofs.YtiaginlnapiijaaGreatDoor
open Sx
/-- A frame. -/
structure Fm where
  (id : Nat) (x r : Bool) (n : Int) (d0 d1 d2 d3 d4 d5 d6 d7 : UInt8)
  deriving DecidableEq
abbrev b8 (b : UInt8) : Value := .int .u8 (b.toNat : Int)
abbrev frC (f : Fm) : List Value := [.int .u32 (f.id : Int), .bool f.x, .bool f.r, .int .i64 f.n, b8 f.d0, b8 f.d1, b8 f.d2, b8 f.d3, b8 f.d4, b8 f.d5, b8 f.d6, b8 f.d7]
abbrev frV (f : Fm) : Value := .agg ⟨frC f⟩
/-- What a frame's cells are at all. -/
def Fm.wf (f : Fm) : Prop := f.id < 4294967296 ∧ -9223372036854775808 ≤ f.n ∧ f.n ≤ 9223372036854775807
/-- Whether it can be. -/
def okF (f : Fm) : Bool := decide (0 ≤ f.n) && decide (f.n ≤ 15) && decide (f.id < if f.x then 536870912 else 2048)
def erF (f : Fm) : Int := if okF f then 0 else 1
/-- How many bytes it has. -/
def nb (f : Fm) : Nat := if f.r then 0 else min f.n.toNat 8
/-- The bytes from m to k are none. -/
def zs (f : Fm) (m k : Nat) : Fm := ⟨f.id, f.x, f.r, f.n, if m ≤ 0 ∧ 0 < k then 0 else f.d0, if m ≤ 1 ∧ 1 < k then 0 else f.d1, if m ≤ 2 ∧ 2 < k then 0 else f.d2, if m ≤ 3 ∧ 3 < k then 0 else f.d3,
  if m ≤ 4 ∧ 4 < k then 0 else f.d4, if m ≤ 5 ∧ 5 < k then 0 else f.d5, if m ≤ 6 ∧ 6 < k then 0 else f.d6, if m ≤ 7 ∧ 7 < k then 0 else f.d7⟩
def plF (f : Fm) : Fm := zs f (nb f) 8
theorem nb_le (f : Fm) : nb f ≤ 8 := by unfold nb; split <;> omega
section
variable {K : Value → Heap → Prop} {H : Heap}
theorem c28 {f : Fm} (hid : f.id < 4294967296) (hK : K (.int .i64 (erF f)) H) : SCalls Tryz.prog 28 [frV f] H K := by
  obtain ⟨id, x, rm, n, d0, d1, d2, d3, d4, d5, d6, d7⟩ := f
  unfold erF okF at hK
  dsimp only at hid hK
  dsimp only [frV, frC]
  refine enter28 ?_
  have h11 : shrI .u32 (id : Int) 11 = ((id / 2 ^ 11 : Nat) : Int) := shr_nat (k := .u32) (n := 11) (by decide)
  have h29 : shrI .u32 (id : Int) 29 = ((id / 2 ^ 29 : Nat) : Int) := shr_nat (k := .u32) (n := 29) (by decide)
  cases x with
  | true =>
    rw [show (if true = true then 536870912 else 2048) = 536870912 from rfl] at hK
    by_cases h1 : id < 536870912
    · rw [Nat.div_eq_of_lt (show id < 2 ^ 29 by omega)] at h29
      by_cases h2 : 0 ≤ n
      · by_cases h3 : n ≤ 15
        · rw [decide_eq_true h1, decide_eq_true h2, decide_eq_true h3] at hK
          repeat' ((conv => whnf); (first | with_reducible refine Val.to _ h29 ?_ | refine Branch.df (by omega) ?_ | refine Branch.dt (by omega) ?_ | refine Branch.f rfl ?_ | exact Keep.d1 hK | refine New.mk (fun _ => ?_) | refine Look.at0 ?_ | refine Cell.row ?_ | refine Cell.buf ?_ | refine Cells.row rfl ?_ | refine Put.row rfl ?_ | refine Put.buf rfl ?_ | refine Look.at1 ?_ | refine Look.at2 ?_ | refine Look.at3 ?_ | refine Look.at4 ?_ | refine Look.at5 ?_ | refine Look.at6 ?_ | refine Look.at7 ?_ | refine Look.at8 ?_ | with_reducible refine Val.i64 (by omega) (by omega) ?_ | with_reducible refine Val.u8 (by omega) (by omega) ?_ | with_reducible refine Val.u32 (by omega) (by omega) ?_ | with_reducible refine Val.u64 (by omega) (by omega) ?_ | with_reducible refine Val.u8m ?_ | with_reducible refine Val.u32m ?_ | with_reducible refine Val.u64m ?_ | with_reducible refine Val.shr8 ?_ | with_reducible refine Val.shr16 (by decide) ?_ | with_reducible refine Val.shr24 (by decide) ?_ | with_reducible refine Val.raw ?_ | refine Branch.not ?_ | refine Branch.and ?_ | refine Branch.or ?_ | refine Branch.dt (by assumption) ?_ | refine Branch.df (by assumption) ?_ | refine Branch.dt rfl ?_ | refine Branch.dt (by omega) ?_ | refine Branch.df (by omega) ?_ | refine Branch.t rfl ?_ | refine Branch.f rfl ?_ | refine Branch.t (by assumption) ?_ | refine Branch.f (by assumption) ?_ | refine Branch.d (fun _ => ?_) (fun _ => ?_) | refine Branch.mk (fun _ => ?_) (fun _ => ?_) | refine Need.mk (by first | omega | decide | rfl) ?_ | refine Idx.nat (by omega) ?_ | refine Idx.auto (by first | omega | decide) (by first | omega | decide) ?_ | refine Cell.ro rfl ?_ | refine SDraw.all (by kernel_rfl) ?_ | refine Kept.k0 ?_ | refine Kept.k1 ?_ | refine Kept.k2 ?_ | refine Kept.k3 ?_ | refine Kept.k4 ?_))
        · rw [decide_eq_false h3, Bool.and_false, Bool.false_and] at hK
          repeat' ((conv => whnf); (first | with_reducible refine Val.to _ h29 ?_ | refine Branch.df (by omega) ?_ | refine Branch.dt (by omega) ?_ | refine Branch.f rfl ?_ | exact Keep.d1 hK | refine New.mk (fun _ => ?_) | refine Look.at0 ?_ | refine Cell.row ?_ | refine Cell.buf ?_ | refine Cells.row rfl ?_ | refine Put.row rfl ?_ | refine Put.buf rfl ?_ | refine Look.at1 ?_ | refine Look.at2 ?_ | refine Look.at3 ?_ | refine Look.at4 ?_ | refine Look.at5 ?_ | refine Look.at6 ?_ | refine Look.at7 ?_ | refine Look.at8 ?_ | with_reducible refine Val.i64 (by omega) (by omega) ?_ | with_reducible refine Val.u8 (by omega) (by omega) ?_ | with_reducible refine Val.u32 (by omega) (by omega) ?_ | with_reducible refine Val.u64 (by omega) (by omega) ?_ | with_reducible refine Val.u8m ?_ | with_reducible refine Val.u32m ?_ | with_reducible refine Val.u64m ?_ | with_reducible refine Val.shr8 ?_ | with_reducible refine Val.shr16 (by decide) ?_ | with_reducible refine Val.shr24 (by decide) ?_ | with_reducible refine Val.raw ?_ | refine Branch.not ?_ | refine Branch.and ?_ | refine Branch.or ?_ | refine Branch.dt (by assumption) ?_ | refine Branch.df (by assumption) ?_ | refine Branch.dt rfl ?_ | refine Branch.dt (by omega) ?_ | refine Branch.df (by omega) ?_ | refine Branch.t rfl ?_ | refine Branch.f rfl ?_ | refine Branch.t (by assumption) ?_ | refine Branch.f (by assumption) ?_ | refine Branch.d (fun _ => ?_) (fun _ => ?_) | refine Branch.mk (fun _ => ?_) (fun _ => ?_) | refine Need.mk (by first | omega | decide | rfl) ?_ | refine Idx.nat (by omega) ?_ | refine Idx.auto (by first | omega | decide) (by first | omega | decide) ?_ | refine Cell.ro rfl ?_ | refine SDraw.all (by kernel_rfl) ?_ | refine Kept.k0 ?_ | refine Kept.k1 ?_ | refine Kept.k2 ?_ | refine Kept.k3 ?_ | refine Kept.k4 ?_))
      · rw [decide_eq_false h2, Bool.false_and, Bool.false_and] at hK
        repeat' ((conv => whnf); (first | with_reducible refine Val.to _ h29 ?_ | refine Branch.df (by omega) ?_ | refine Branch.dt (by omega) ?_ | refine Branch.f rfl ?_ | exact Keep.d1 hK | refine New.mk (fun _ => ?_) | refine Look.at0 ?_ | refine Cell.row ?_ | refine Cell.buf ?_ | refine Cells.row rfl ?_ | refine Put.row rfl ?_ | refine Put.buf rfl ?_ | refine Look.at1 ?_ | refine Look.at2 ?_ | refine Look.at3 ?_ | refine Look.at4 ?_ | refine Look.at5 ?_ | refine Look.at6 ?_ | refine Look.at7 ?_ | refine Look.at8 ?_ | with_reducible refine Val.i64 (by omega) (by omega) ?_ | with_reducible refine Val.u8 (by omega) (by omega) ?_ | with_reducible refine Val.u32 (by omega) (by omega) ?_ | with_reducible refine Val.u64 (by omega) (by omega) ?_ | with_reducible refine Val.u8m ?_ | with_reducible refine Val.u32m ?_ | with_reducible refine Val.u64m ?_ | with_reducible refine Val.shr8 ?_ | with_reducible refine Val.shr16 (by decide) ?_ | with_reducible refine Val.shr24 (by decide) ?_ | with_reducible refine Val.raw ?_ | refine Branch.not ?_ | refine Branch.and ?_ | refine Branch.or ?_ | refine Branch.dt (by assumption) ?_ | refine Branch.df (by assumption) ?_ | refine Branch.dt rfl ?_ | refine Branch.dt (by omega) ?_ | refine Branch.df (by omega) ?_ | refine Branch.t rfl ?_ | refine Branch.f rfl ?_ | refine Branch.t (by assumption) ?_ | refine Branch.f (by assumption) ?_ | refine Branch.d (fun _ => ?_) (fun _ => ?_) | refine Branch.mk (fun _ => ?_) (fun _ => ?_) | refine Need.mk (by first | omega | decide | rfl) ?_ | refine Idx.nat (by omega) ?_ | refine Idx.auto (by first | omega | decide) (by first | omega | decide) ?_ | refine Cell.ro rfl ?_ | refine SDraw.all (by kernel_rfl) ?_ | refine Kept.k0 ?_ | refine Kept.k1 ?_ | refine Kept.k2 ?_ | refine Kept.k3 ?_ | refine Kept.k4 ?_))
    · rw [decide_eq_false h1, Bool.and_false] at hK
      have hz : ¬ ((id / 2 ^ 29 : Nat) : Int) = 0 := by omega
      have h29' : shrI .u32 (id : Int) (11 + 18) = ((id / 2 ^ 29 : Nat) : Int) := h29
      repeat' ((conv => whnf); (first | refine Branch.df (by rw [h29']; exact hz) ?_ | exact Keep.d1 hK | refine New.mk (fun _ => ?_) | refine Look.at0 ?_ | refine Cell.row ?_ | refine Cell.buf ?_ | refine Cells.row rfl ?_ | refine Put.row rfl ?_ | refine Put.buf rfl ?_ | refine Look.at1 ?_ | refine Look.at2 ?_ | refine Look.at3 ?_ | refine Look.at4 ?_ | refine Look.at5 ?_ | refine Look.at6 ?_ | refine Look.at7 ?_ | refine Look.at8 ?_ | with_reducible refine Val.i64 (by omega) (by omega) ?_ | with_reducible refine Val.u8 (by omega) (by omega) ?_ | with_reducible refine Val.u32 (by omega) (by omega) ?_ | with_reducible refine Val.u64 (by omega) (by omega) ?_ | with_reducible refine Val.u8m ?_ | with_reducible refine Val.u32m ?_ | with_reducible refine Val.u64m ?_ | with_reducible refine Val.shr8 ?_ | with_reducible refine Val.shr16 (by decide) ?_ | with_reducible refine Val.shr24 (by decide) ?_ | with_reducible refine Val.raw ?_ | refine Branch.not ?_ | refine Branch.and ?_ | refine Branch.or ?_ | refine Branch.dt (by assumption) ?_ | refine Branch.df (by assumption) ?_ | refine Branch.dt rfl ?_ | refine Branch.dt (by omega) ?_ | refine Branch.df (by omega) ?_ | refine Branch.t rfl ?_ | refine Branch.f rfl ?_ | refine Branch.t (by assumption) ?_ | refine Branch.f (by assumption) ?_ | refine Branch.d (fun _ => ?_) (fun _ => ?_) | refine Branch.mk (fun _ => ?_) (fun _ => ?_) | refine Need.mk (by first | omega | decide | rfl) ?_ | refine Idx.nat (by omega) ?_ | refine Idx.auto (by first | omega | decide) (by first | omega | decide) ?_ | refine Cell.ro rfl ?_ | refine SDraw.all (by kernel_rfl) ?_ | refine Kept.k0 ?_ | refine Kept.k1 ?_ | refine Kept.k2 ?_ | refine Kept.k3 ?_ | refine Kept.k4 ?_))
  | false =>
    rw [show (if false = true then 536870912 else 2048) = 2048 from rfl] at hK
    by_cases h1 : id < 2048
    · rw [Nat.div_eq_of_lt (show id < 2 ^ 11 by omega)] at h11
      by_cases h2 : 0 ≤ n
      · by_cases h3 : n ≤ 15
        · rw [decide_eq_true h1, decide_eq_true h2, decide_eq_true h3] at hK
          repeat' ((conv => whnf); (first | with_reducible refine Val.to _ h11 ?_ | refine Branch.df (by omega) ?_ | refine Branch.dt (by omega) ?_ | refine Branch.f rfl ?_ | exact Keep.d1 hK | refine New.mk (fun _ => ?_) | refine Look.at0 ?_ | refine Cell.row ?_ | refine Cell.buf ?_ | refine Cells.row rfl ?_ | refine Put.row rfl ?_ | refine Put.buf rfl ?_ | refine Look.at1 ?_ | refine Look.at2 ?_ | refine Look.at3 ?_ | refine Look.at4 ?_ | refine Look.at5 ?_ | refine Look.at6 ?_ | refine Look.at7 ?_ | refine Look.at8 ?_ | with_reducible refine Val.i64 (by omega) (by omega) ?_ | with_reducible refine Val.u8 (by omega) (by omega) ?_ | with_reducible refine Val.u32 (by omega) (by omega) ?_ | with_reducible refine Val.u64 (by omega) (by omega) ?_ | with_reducible refine Val.u8m ?_ | with_reducible refine Val.u32m ?_ | with_reducible refine Val.u64m ?_ | with_reducible refine Val.shr8 ?_ | with_reducible refine Val.shr16 (by decide) ?_ | with_reducible refine Val.shr24 (by decide) ?_ | with_reducible refine Val.raw ?_ | refine Branch.not ?_ | refine Branch.and ?_ | refine Branch.or ?_ | refine Branch.dt (by assumption) ?_ | refine Branch.df (by assumption) ?_ | refine Branch.dt rfl ?_ | refine Branch.dt (by omega) ?_ | refine Branch.df (by omega) ?_ | refine Branch.t rfl ?_ | refine Branch.f rfl ?_ | refine Branch.t (by assumption) ?_ | refine Branch.f (by assumption) ?_ | refine Branch.d (fun _ => ?_) (fun _ => ?_) | refine Branch.mk (fun _ => ?_) (fun _ => ?_) | refine Need.mk (by first | omega | decide | rfl) ?_ | refine Idx.nat (by omega) ?_ | refine Idx.auto (by first | omega | decide) (by first | omega | decide) ?_ | refine Cell.ro rfl ?_ | refine SDraw.all (by kernel_rfl) ?_ | refine Kept.k0 ?_ | refine Kept.k1 ?_ | refine Kept.k2 ?_ | refine Kept.k3 ?_ | refine Kept.k4 ?_))
        · rw [decide_eq_false h3, Bool.and_false, Bool.false_and] at hK
          repeat' ((conv => whnf); (first | with_reducible refine Val.to _ h11 ?_ | refine Branch.df (by omega) ?_ | refine Branch.dt (by omega) ?_ | refine Branch.f rfl ?_ | exact Keep.d1 hK | refine New.mk (fun _ => ?_) | refine Look.at0 ?_ | refine Cell.row ?_ | refine Cell.buf ?_ | refine Cells.row rfl ?_ | refine Put.row rfl ?_ | refine Put.buf rfl ?_ | refine Look.at1 ?_ | refine Look.at2 ?_ | refine Look.at3 ?_ | refine Look.at4 ?_ | refine Look.at5 ?_ | refine Look.at6 ?_ | refine Look.at7 ?_ | refine Look.at8 ?_ | with_reducible refine Val.i64 (by omega) (by omega) ?_ | with_reducible refine Val.u8 (by omega) (by omega) ?_ | with_reducible refine Val.u32 (by omega) (by omega) ?_ | with_reducible refine Val.u64 (by omega) (by omega) ?_ | with_reducible refine Val.u8m ?_ | with_reducible refine Val.u32m ?_ | with_reducible refine Val.u64m ?_ | with_reducible refine Val.shr8 ?_ | with_reducible refine Val.shr16 (by decide) ?_ | with_reducible refine Val.shr24 (by decide) ?_ | with_reducible refine Val.raw ?_ | refine Branch.not ?_ | refine Branch.and ?_ | refine Branch.or ?_ | refine Branch.dt (by assumption) ?_ | refine Branch.df (by assumption) ?_ | refine Branch.dt rfl ?_ | refine Branch.dt (by omega) ?_ | refine Branch.df (by omega) ?_ | refine Branch.t rfl ?_ | refine Branch.f rfl ?_ | refine Branch.t (by assumption) ?_ | refine Branch.f (by assumption) ?_ | refine Branch.d (fun _ => ?_) (fun _ => ?_) | refine Branch.mk (fun _ => ?_) (fun _ => ?_) | refine Need.mk (by first | omega | decide | rfl) ?_ | refine Idx.nat (by omega) ?_ | refine Idx.auto (by first | omega | decide) (by first | omega | decide) ?_ | refine Cell.ro rfl ?_ | refine SDraw.all (by kernel_rfl) ?_ | refine Kept.k0 ?_ | refine Kept.k1 ?_ | refine Kept.k2 ?_ | refine Kept.k3 ?_ | refine Kept.k4 ?_))
      · rw [decide_eq_false h2, Bool.false_and, Bool.false_and] at hK
        repeat' ((conv => whnf); (first | with_reducible refine Val.to _ h11 ?_ | refine Branch.df (by omega) ?_ | refine Branch.dt (by omega) ?_ | refine Branch.f rfl ?_ | exact Keep.d1 hK | refine New.mk (fun _ => ?_) | refine Look.at0 ?_ | refine Cell.row ?_ | refine Cell.buf ?_ | refine Cells.row rfl ?_ | refine Put.row rfl ?_ | refine Put.buf rfl ?_ | refine Look.at1 ?_ | refine Look.at2 ?_ | refine Look.at3 ?_ | refine Look.at4 ?_ | refine Look.at5 ?_ | refine Look.at6 ?_ | refine Look.at7 ?_ | refine Look.at8 ?_ | with_reducible refine Val.i64 (by omega) (by omega) ?_ | with_reducible refine Val.u8 (by omega) (by omega) ?_ | with_reducible refine Val.u32 (by omega) (by omega) ?_ | with_reducible refine Val.u64 (by omega) (by omega) ?_ | with_reducible refine Val.u8m ?_ | with_reducible refine Val.u32m ?_ | with_reducible refine Val.u64m ?_ | with_reducible refine Val.shr8 ?_ | with_reducible refine Val.shr16 (by decide) ?_ | with_reducible refine Val.shr24 (by decide) ?_ | with_reducible refine Val.raw ?_ | refine Branch.not ?_ | refine Branch.and ?_ | refine Branch.or ?_ | refine Branch.dt (by assumption) ?_ | refine Branch.df (by assumption) ?_ | refine Branch.dt rfl ?_ | refine Branch.dt (by omega) ?_ | refine Branch.df (by omega) ?_ | refine Branch.t rfl ?_ | refine Branch.f rfl ?_ | refine Branch.t (by assumption) ?_ | refine Branch.f (by assumption) ?_ | refine Branch.d (fun _ => ?_) (fun _ => ?_) | refine Branch.mk (fun _ => ?_) (fun _ => ?_) | refine Need.mk (by first | omega | decide | rfl) ?_ | refine Idx.nat (by omega) ?_ | refine Idx.auto (by first | omega | decide) (by first | omega | decide) ?_ | refine Cell.ro rfl ?_ | refine SDraw.all (by kernel_rfl) ?_ | refine Kept.k0 ?_ | refine Kept.k1 ?_ | refine Kept.k2 ?_ | refine Kept.k3 ?_ | refine Kept.k4 ?_))
    · rw [decide_eq_false h1, Bool.and_false] at hK
      have hz : ¬ ((id / 2 ^ 11 : Nat) : Int) = 0 := by omega
      repeat' ((conv => whnf); (first | with_reducible refine Val.to _ h11 ?_ | refine Branch.t (by first | (simp [hz]; done) | omega) ?_ | exact Keep.d1 hK | refine New.mk (fun _ => ?_) | refine Look.at0 ?_ | refine Cell.row ?_ | refine Cell.buf ?_ | refine Cells.row rfl ?_ | refine Put.row rfl ?_ | refine Put.buf rfl ?_ | refine Look.at1 ?_ | refine Look.at2 ?_ | refine Look.at3 ?_ | refine Look.at4 ?_ | refine Look.at5 ?_ | refine Look.at6 ?_ | refine Look.at7 ?_ | refine Look.at8 ?_ | with_reducible refine Val.i64 (by omega) (by omega) ?_ | with_reducible refine Val.u8 (by omega) (by omega) ?_ | with_reducible refine Val.u32 (by omega) (by omega) ?_ | with_reducible refine Val.u64 (by omega) (by omega) ?_ | with_reducible refine Val.u8m ?_ | with_reducible refine Val.u32m ?_ | with_reducible refine Val.u64m ?_ | with_reducible refine Val.shr8 ?_ | with_reducible refine Val.shr16 (by decide) ?_ | with_reducible refine Val.shr24 (by decide) ?_ | with_reducible refine Val.raw ?_ | refine Branch.not ?_ | refine Branch.and ?_ | refine Branch.or ?_ | refine Branch.dt (by assumption) ?_ | refine Branch.df (by assumption) ?_ | refine Branch.dt rfl ?_ | refine Branch.dt (by omega) ?_ | refine Branch.df (by omega) ?_ | refine Branch.t rfl ?_ | refine Branch.f rfl ?_ | refine Branch.t (by assumption) ?_ | refine Branch.f (by assumption) ?_ | refine Branch.d (fun _ => ?_) (fun _ => ?_) | refine Branch.mk (fun _ => ?_) (fun _ => ?_) | refine Need.mk (by first | omega | decide | rfl) ?_ | refine Idx.nat (by omega) ?_ | refine Idx.auto (by first | omega | decide) (by first | omega | decide) ?_ | refine Cell.ro rfl ?_ | refine SDraw.all (by kernel_rfl) ?_ | refine Kept.k0 ?_ | refine Kept.k1 ?_ | refine Kept.k2 ?_ | refine Kept.k3 ?_ | refine Kept.k4 ?_))
theorem c20 {f : Fm} (hid : f.id < 4294967296) (hK : K (.int .i64 (erF f)) H) : SCalls Tryz.prog 20 [frV f] H K := by
  refine enter20 ?_
  repeat' ((conv => whnf); (first | refine c28 hid ?_ | exact Keep.d1 hK | refine New.mk (fun _ => ?_) | refine Look.at0 ?_ | refine Cell.row ?_ | refine Cell.buf ?_ | refine Cells.row rfl ?_ | refine Put.row rfl ?_ | refine Put.buf rfl ?_ | refine Look.at1 ?_ | refine Look.at2 ?_ | refine Look.at3 ?_ | refine Look.at4 ?_ | refine Look.at5 ?_ | refine Look.at6 ?_ | refine Look.at7 ?_ | refine Look.at8 ?_ | with_reducible refine Val.i64 (by omega) (by omega) ?_ | with_reducible refine Val.u8 (by omega) (by omega) ?_ | with_reducible refine Val.u32 (by omega) (by omega) ?_ | with_reducible refine Val.u64 (by omega) (by omega) ?_ | with_reducible refine Val.u8m ?_ | with_reducible refine Val.u32m ?_ | with_reducible refine Val.u64m ?_ | with_reducible refine Val.shr8 ?_ | with_reducible refine Val.shr16 (by decide) ?_ | with_reducible refine Val.shr24 (by decide) ?_ | with_reducible refine Val.raw ?_ | refine Branch.not ?_ | refine Branch.and ?_ | refine Branch.or ?_ | refine Branch.dt (by assumption) ?_ | refine Branch.df (by assumption) ?_ | refine Branch.dt rfl ?_ | refine Branch.dt (by omega) ?_ | refine Branch.df (by omega) ?_ | refine Branch.t rfl ?_ | refine Branch.f rfl ?_ | refine Branch.t (by assumption) ?_ | refine Branch.f (by assumption) ?_ | refine Branch.d (fun _ => ?_) (fun _ => ?_) | refine Branch.mk (fun _ => ?_) (fun _ => ?_) | refine Need.mk (by first | omega | decide | rfl) ?_ | refine Idx.nat (by omega) ?_ | refine Idx.auto (by first | omega | decide) (by first | omega | decide) ?_ | refine Cell.ro rfl ?_ | refine SDraw.all (by kernel_rfl) ?_ | refine Kept.k0 ?_ | refine Kept.k1 ?_ | refine Kept.k2 ?_ | refine Kept.k3 ?_ | refine Kept.k4 ?_))
theorem c32 {f : Fm} (hK : K (.int .i64 (nb f : Int)) H) : SCalls Tryz.prog 32 [frV f] H K := by
  obtain ⟨id, x, rm, n, d0, d1, d2, d3, d4, d5, d6, d7⟩ := f
  unfold nb at hK
  dsimp only at hK
  dsimp only [frV, frC]
  refine enter32 ?_
  cases rm with
  | true =>
    rw [if_pos rfl] at hK
    repeat' ((conv => whnf); (first | refine Branch.t rfl ?_ | exact Keep.d1 hK | refine New.mk (fun _ => ?_) | refine Look.at0 ?_ | refine Cell.row ?_ | refine Cell.buf ?_ | refine Cells.row rfl ?_ | refine Put.row rfl ?_ | refine Put.buf rfl ?_ | refine Look.at1 ?_ | refine Look.at2 ?_ | refine Look.at3 ?_ | refine Look.at4 ?_ | refine Look.at5 ?_ | refine Look.at6 ?_ | refine Look.at7 ?_ | refine Look.at8 ?_ | with_reducible refine Val.i64 (by omega) (by omega) ?_ | with_reducible refine Val.u8 (by omega) (by omega) ?_ | with_reducible refine Val.u32 (by omega) (by omega) ?_ | with_reducible refine Val.u64 (by omega) (by omega) ?_ | with_reducible refine Val.u8m ?_ | with_reducible refine Val.u32m ?_ | with_reducible refine Val.u64m ?_ | with_reducible refine Val.shr8 ?_ | with_reducible refine Val.shr16 (by decide) ?_ | with_reducible refine Val.shr24 (by decide) ?_ | with_reducible refine Val.raw ?_ | refine Branch.not ?_ | refine Branch.and ?_ | refine Branch.or ?_ | refine Branch.dt (by assumption) ?_ | refine Branch.df (by assumption) ?_ | refine Branch.dt rfl ?_ | refine Branch.dt (by omega) ?_ | refine Branch.df (by omega) ?_ | refine Branch.t rfl ?_ | refine Branch.f rfl ?_ | refine Branch.t (by assumption) ?_ | refine Branch.f (by assumption) ?_ | refine Branch.d (fun _ => ?_) (fun _ => ?_) | refine Branch.mk (fun _ => ?_) (fun _ => ?_) | refine Need.mk (by first | omega | decide | rfl) ?_ | refine Idx.nat (by omega) ?_ | refine Idx.auto (by first | omega | decide) (by first | omega | decide) ?_ | refine Cell.ro rfl ?_ | refine SDraw.all (by kernel_rfl) ?_ | refine Kept.k0 ?_ | refine Kept.k1 ?_ | refine Kept.k2 ?_ | refine Kept.k3 ?_ | refine Kept.k4 ?_))
  | false =>
    rw [if_neg (by decide)] at hK
    have e1 : (if n < 0 then (0 : Int) else n) = (n.toNat : Int) := by split <;> omega
    have e2 : (if (8 : Int) < (n.toNat : Int) then (8 : Int) else (n.toNat : Int)) = ((min n.toNat 8 : Nat) : Int) := by split <;> omega
    repeat' ((conv => whnf); (first | refine Branch.f rfl ?_ | refine RawV.max2 rfl e1 ?_ | refine RawV.min2 rfl e2 ?_ | exact Keep.d1 hK | refine New.mk (fun _ => ?_) | refine Look.at0 ?_ | refine Cell.row ?_ | refine Cell.buf ?_ | refine Cells.row rfl ?_ | refine Put.row rfl ?_ | refine Put.buf rfl ?_ | refine Look.at1 ?_ | refine Look.at2 ?_ | refine Look.at3 ?_ | refine Look.at4 ?_ | refine Look.at5 ?_ | refine Look.at6 ?_ | refine Look.at7 ?_ | refine Look.at8 ?_ | with_reducible refine Val.i64 (by omega) (by omega) ?_ | with_reducible refine Val.u8 (by omega) (by omega) ?_ | with_reducible refine Val.u32 (by omega) (by omega) ?_ | with_reducible refine Val.u64 (by omega) (by omega) ?_ | with_reducible refine Val.u8m ?_ | with_reducible refine Val.u32m ?_ | with_reducible refine Val.u64m ?_ | with_reducible refine Val.shr8 ?_ | with_reducible refine Val.shr16 (by decide) ?_ | with_reducible refine Val.shr24 (by decide) ?_ | with_reducible refine Val.raw ?_ | refine Branch.not ?_ | refine Branch.and ?_ | refine Branch.or ?_ | refine Branch.dt (by assumption) ?_ | refine Branch.df (by assumption) ?_ | refine Branch.dt rfl ?_ | refine Branch.dt (by omega) ?_ | refine Branch.df (by omega) ?_ | refine Branch.t rfl ?_ | refine Branch.f rfl ?_ | refine Branch.t (by assumption) ?_ | refine Branch.f (by assumption) ?_ | refine Branch.d (fun _ => ?_) (fun _ => ?_) | refine Branch.mk (fun _ => ?_) (fun _ => ?_) | refine Need.mk (by first | omega | decide | rfl) ?_ | refine Idx.nat (by omega) ?_ | refine Idx.auto (by first | omega | decide) (by first | omega | decide) ?_ | refine Cell.ro rfl ?_ | refine SDraw.all (by kernel_rfl) ?_ | refine Kept.k0 ?_ | refine Kept.k1 ?_ | refine Kept.k2 ?_ | refine Kept.k3 ?_ | refine Kept.k4 ?_))
theorem nine {k : Nat} (h : k ≤ 8) : k = 0 ∨ k = 1 ∨ k = 2 ∨ k = 3 ∨ k = 4 ∨ k = 5 ∨ k = 6 ∨ k = 7 ∨ k = 8 := by omega
theorem c46 {f : Fm} (hK : K (frV (plF f)) H) : SCalls Tryz.prog 46 [frV f] H K := by
  have h51 := fun H (K : Value → Heap → Prop) hk => c32 (f := f) (K := K) (H := H) hk
  unfold plF at hK
  have hn := nb_le f
  generalize nb f = k at *
  obtain ⟨id, x, rm, n, d0, d1, d2, d3, d4, d5, d6, d7⟩ := f
  dsimp only [frV, frC]
  refine enter46 ?_
  have hc : ∀ (r : Nat) (o : Oper) (xx xl : Operand) (K2 : Value → Heap → Prop) (H2 : Heap), o.op = .slice 37 xx (some xl) none none →
      (∀ o', (k < 8 ∧ o' = 4 + k ∨ k = 8 ∧ o' = 4) → K2 (.slice (some ⟨r, o', none⟩) (8 - k) (8 - k)) H2) → RawV Tryz.prog o [.pointer (some ⟨r, 4, none⟩), .int .i64 (k : Int)] H2 K2 := by
    intro r o xx xl K2 H2 ho hk
    by_cases h8 : k < 8
    · exact RawV.sliceArrFrom (e := 5) ho (by kernel_rfl) (by kernel_rfl) h8 (hk _ (.inl ⟨h8, rfl⟩))
    · obtain rfl : k = 8 := by omega
      exact RawV.sliceArrEnd (n := 8) (e := 5) ho (by kernel_rfl) (by kernel_rfl) (hk _ (.inr ⟨rfl, rfl⟩))
  have hcl : ∀ (q : Nat × Blk) (r o' : Nat) (o : Oper) (xx : Operand) (K2 : Value → Heap → Prop), (k < 8 ∧ o' = 4 + k ∨ k = 8 ∧ o' = 4) → o.op = .call { callee := .builtin .clear, args := #[xx], argTypes := #[84] } →
      K2 (.tuple ⟨[]⟩) (q :: (r, .row 39 (frC (zs ⟨id, x, rm, n, d0, d1, d2, d3, d4, d5, d6, d7⟩ k 8)) (0, 0)) :: H) → RawV Tryz.prog o [.slice (some ⟨r, o', none⟩) (8 - k) (8 - k)] (q :: (r, .row 39 (frC ⟨id, x, rm, n, d0, d1, d2, d3, d4, d5, d6, d7⟩) (0, 0)) :: H) K2 := by
    intro q r o' o xx K2 ho' ho hk
    refine RawV.clearRow (A := [q]) (e := 5) (bytes := 1) (zv := .int .u8 0) ho (by kernel_rfl) (by kernel_rfl) rfl rfl (by show o' + (8 - k) ≤ 12; omega) ?_
    rcases nine hn with rfl | rfl | rfl | rfl | rfl | rfl | rfl | rfl | rfl <;> rcases ho' with ⟨h, rfl⟩ | ⟨h, rfl⟩ <;> first | (exfalso; omega) | exact hk
  repeat' ((conv => whnf); (first | refine h51 _ _ ?_ | refine hc _ _ _ _ _ _ rfl (fun o' ho' => ?_) | refine hcl _ _ _ _ _ _ ho' rfl ?_ | exact Keep.d2 hK | refine New.mk (fun _ => ?_) | refine Look.at0 ?_ | refine Cell.row ?_ | refine Cell.buf ?_ | refine Cells.row rfl ?_ | refine Put.row rfl ?_ | refine Put.buf rfl ?_ | refine Look.at1 ?_ | refine Look.at2 ?_ | refine Look.at3 ?_ | refine Look.at4 ?_ | refine Look.at5 ?_ | refine Look.at6 ?_ | refine Look.at7 ?_ | refine Look.at8 ?_ | with_reducible refine Val.i64 (by omega) (by omega) ?_ | with_reducible refine Val.u8 (by omega) (by omega) ?_ | with_reducible refine Val.u32 (by omega) (by omega) ?_ | with_reducible refine Val.u64 (by omega) (by omega) ?_ | with_reducible refine Val.u8m ?_ | with_reducible refine Val.u32m ?_ | with_reducible refine Val.u64m ?_ | with_reducible refine Val.shr8 ?_ | with_reducible refine Val.shr16 (by decide) ?_ | with_reducible refine Val.shr24 (by decide) ?_ | with_reducible refine Val.raw ?_ | refine Branch.not ?_ | refine Branch.and ?_ | refine Branch.or ?_ | refine Branch.dt (by assumption) ?_ | refine Branch.df (by assumption) ?_ | refine Branch.dt rfl ?_ | refine Branch.dt (by omega) ?_ | refine Branch.df (by omega) ?_ | refine Branch.t rfl ?_ | refine Branch.f rfl ?_ | refine Branch.t (by assumption) ?_ | refine Branch.f (by assumption) ?_ | refine Branch.d (fun _ => ?_) (fun _ => ?_) | refine Branch.mk (fun _ => ?_) (fun _ => ?_) | refine Need.mk (by first | omega | decide | rfl) ?_ | refine Idx.nat (by omega) ?_ | refine Idx.auto (by first | omega | decide) (by first | omega | decide) ?_ | refine Cell.ro rfl ?_ | refine SDraw.all (by kernel_rfl) ?_ | refine Kept.k0 ?_ | refine Kept.k1 ?_ | refine Kept.k2 ?_ | refine Kept.k3 ?_ | refine Kept.k4 ?_))
theorem c22 {f : Fm} (hK : K (frV (plF f)) H) : SCalls Tryz.prog 22 [frV f] H K := by
  refine enter22 ?_
  repeat' ((conv => whnf); (first | refine c46 ?_ | exact Keep.d2 hK | refine New.mk (fun _ => ?_) | refine Look.at0 ?_ | refine Cell.row ?_ | refine Cell.buf ?_ | refine Cells.row rfl ?_ | refine Put.row rfl ?_ | refine Put.buf rfl ?_ | refine Look.at1 ?_ | refine Look.at2 ?_ | refine Look.at3 ?_ | refine Look.at4 ?_ | refine Look.at5 ?_ | refine Look.at6 ?_ | refine Look.at7 ?_ | refine Look.at8 ?_ | with_reducible refine Val.i64 (by omega) (by omega) ?_ | with_reducible refine Val.u8 (by omega) (by omega) ?_ | with_reducible refine Val.u32 (by omega) (by omega) ?_ | with_reducible refine Val.u64 (by omega) (by omega) ?_ | with_reducible refine Val.u8m ?_ | with_reducible refine Val.u32m ?_ | with_reducible refine Val.u64m ?_ | with_reducible refine Val.shr8 ?_ | with_reducible refine Val.shr16 (by decide) ?_ | with_reducible refine Val.shr24 (by decide) ?_ | with_reducible refine Val.raw ?_ | refine Branch.not ?_ | refine Branch.and ?_ | refine Branch.or ?_ | refine Branch.dt (by assumption) ?_ | refine Branch.df (by assumption) ?_ | refine Branch.dt rfl ?_ | refine Branch.dt (by omega) ?_ | refine Branch.df (by omega) ?_ | refine Branch.t rfl ?_ | refine Branch.f rfl ?_ | refine Branch.t (by assumption) ?_ | refine Branch.f (by assumption) ?_ | refine Branch.d (fun _ => ?_) (fun _ => ?_) | refine Branch.mk (fun _ => ?_) (fun _ => ?_) | refine Need.mk (by first | omega | decide | rfl) ?_ | refine Idx.nat (by omega) ?_ | refine Idx.auto (by first | omega | decide) (by first | omega | decide) ?_ | refine Cell.ro rfl ?_ | refine SDraw.all (by kernel_rfl) ?_ | refine Kept.k0 ?_ | refine Kept.k1 ?_ | refine Kept.k2 ?_ | refine Kept.k3 ?_ | refine Kept.k4 ?_))
end
theorem set_cut {α : Type} {l : List α} {o : Nat} {v : α} (h : o < l.length) : l.take o ++ [v] ++ l.drop (o + 1) = l.set o v := by
  rw [List.set_eq_take_append_cons_drop, if_pos h]; simp
def fb (b : Bool) : UInt8 := if b then 49 else 48
def fldB (id : Nat) (x r : Bool) : List UInt8 := if x then numB 11 (id / 2 ^ 18) ++ [49, 49] ++ numB 18 (id % 2 ^ 18) ++ [fb r] else numB 11 id ++ [fb r] ++ [48]
/-- A frame's arbitration field, and what is wrong with the frame. -/
def fld (f : Fm) : List UInt8 := fldB f.id f.x f.r
def fV (f : Fm) : List UInt8 × Int := if okF f then (fld f, 0) else ([], 1)
theorem bt89 : BT 88 0 := by unfold BT; kernel_rfl
theorem fldB_len (id : Nat) (x r : Bool) : (fldB id x r).length ≤ 32 := by
  unfold fldB
  split <;> simp [numB_len]
section
variable {K : Value → Heap → Prop} {H : Heap}
theorem c31 {T r w : Nat} {bs : List UInt8} {N : Heap} {n : Nat} (hT : BT T 0) (hD : Db H) (hN : Bld T r [] bs N) (hn : n < 2 ^ 64) (hl : bs.length + (numV n w).1.length ≤ 140737488355328) (hK : ∀ N', Bld T r [] (bs ++ (numV n w).1) N' → K (.tuple ⟨[]⟩) (N' ++ H)) :
    SCalls Tryz.prog 31 [ptr r, .int .u64 (n : Int), .int .i64 (w : Int)] (N ++ H) K := by
  refine enter31 ?_
  have h53 : ∀ K2 : Value → Heap → Prop, (∀ N', Bld T r [] (bs ++ (numV n w).1) N' → K2 (.tuple ⟨[.int .i64 ((numV n w).1.length : Int), .nilIface]⟩) (N' ++ H)) → SCalls Tryz.prog 58 [ptr r, .string (strOf (numV n w).1)] (N ++ H) K2 :=
    fun K2 hk => SCalls.midH [] H (c58 (pre := []) (T := T) hT hN hl (fun N' h => hk N' h))
  have hD' : Db (N ++ H) := hD.mono fun p hp => List.mem_append_right _ hp
  clear hN hD
  repeat' ((conv => whnf); (first | refine c59 hD' hn ?_ | with_reducible refine h53 _ (fun N' hN' => ?_) | exact Keep.all (hK _ hN') | refine New.mk (fun _ => ?_) | refine Look.at0 ?_ | refine Cell.row ?_ | refine Cell.buf ?_ | refine Cells.row rfl ?_ | refine Put.row rfl ?_ | refine Put.buf rfl ?_ | refine Look.at1 ?_ | refine Look.at2 ?_ | refine Look.at3 ?_ | refine Look.at4 ?_ | refine Look.at5 ?_ | refine Look.at6 ?_ | refine Look.at7 ?_ | refine Look.at8 ?_ | with_reducible refine Val.i64 (by omega) (by omega) ?_ | with_reducible refine Val.u8 (by omega) (by omega) ?_ | with_reducible refine Val.u32 (by omega) (by omega) ?_ | with_reducible refine Val.u64 (by omega) (by omega) ?_ | with_reducible refine Val.u8m ?_ | with_reducible refine Val.u32m ?_ | with_reducible refine Val.u64m ?_ | with_reducible refine Val.shr8 ?_ | with_reducible refine Val.shr16 (by decide) ?_ | with_reducible refine Val.shr24 (by decide) ?_ | with_reducible refine Val.raw ?_ | refine Branch.not ?_ | refine Branch.and ?_ | refine Branch.or ?_ | refine Branch.dt (by assumption) ?_ | refine Branch.df (by assumption) ?_ | refine Branch.dt rfl ?_ | refine Branch.dt (by omega) ?_ | refine Branch.df (by omega) ?_ | refine Branch.t rfl ?_ | refine Branch.f rfl ?_ | refine Branch.t (by assumption) ?_ | refine Branch.f (by assumption) ?_ | refine Branch.d (fun _ => ?_) (fun _ => ?_) | refine Branch.mk (fun _ => ?_) (fun _ => ?_) | refine Need.mk (by first | omega | decide | rfl) ?_ | refine Idx.nat (by omega) ?_ | refine Idx.auto (by first | omega | decide) (by first | omega | decide) ?_ | refine Cell.ro rfl ?_ | refine SDraw.all (by kernel_rfl) ?_ | refine Kept.k0 ?_ | refine Kept.k1 ?_ | refine Kept.k2 ?_ | refine Kept.k3 ?_ | refine Kept.k4 ?_))
theorem c29 {T r : Nat} {b : Bool} {bs : List UInt8} {N : Heap} (hT : BT T 0) (hD : Db H) (hN : Bld T r [] bs N) (hl : bs.length ≤ 1000) (hK : ∀ N', Bld T r [] (bs ++ [fb b]) N' → K (.tuple ⟨[]⟩) (N' ++ H)) :
    SCalls Tryz.prog 29 [ptr r, .bool b] (N ++ H) K := by
  refine enter29 ?_
  cases b with
  | true =>
    have h52 : ∀ K2 : Value → Heap → Prop, (∀ N', Bld T r [] (bs ++ [49]) N' → K2 (.tuple ⟨[]⟩) (N' ++ H)) → SCalls Tryz.prog 31 [ptr r, .int .u64 1, .int .i64 1] (N ++ H) K2 :=
      fun K2 hk => c31 (K := K2) (w := 1) (n := 1) hT hD hN (by decide) (by show bs.length + 1 ≤ _; omega) hk
    have hK' : ∀ N', Bld T r [] (bs ++ [49]) N' → K (.tuple ⟨[]⟩) (N' ++ H) := hK
    clear hN hD
    repeat' ((conv => whnf); (first | refine Branch.t rfl ?_ | with_reducible refine h52 _ (fun N' hN' => ?_) | exact Keep.all (hK' _ hN') | refine New.mk (fun _ => ?_) | refine Look.at0 ?_ | refine Cell.row ?_ | refine Cell.buf ?_ | refine Cells.row rfl ?_ | refine Put.row rfl ?_ | refine Put.buf rfl ?_ | refine Look.at1 ?_ | refine Look.at2 ?_ | refine Look.at3 ?_ | refine Look.at4 ?_ | refine Look.at5 ?_ | refine Look.at6 ?_ | refine Look.at7 ?_ | refine Look.at8 ?_ | with_reducible refine Val.i64 (by omega) (by omega) ?_ | with_reducible refine Val.u8 (by omega) (by omega) ?_ | with_reducible refine Val.u32 (by omega) (by omega) ?_ | with_reducible refine Val.u64 (by omega) (by omega) ?_ | with_reducible refine Val.u8m ?_ | with_reducible refine Val.u32m ?_ | with_reducible refine Val.u64m ?_ | with_reducible refine Val.shr8 ?_ | with_reducible refine Val.shr16 (by decide) ?_ | with_reducible refine Val.shr24 (by decide) ?_ | with_reducible refine Val.raw ?_ | refine Branch.not ?_ | refine Branch.and ?_ | refine Branch.or ?_ | refine Branch.dt (by assumption) ?_ | refine Branch.df (by assumption) ?_ | refine Branch.dt rfl ?_ | refine Branch.dt (by omega) ?_ | refine Branch.df (by omega) ?_ | refine Branch.t rfl ?_ | refine Branch.f rfl ?_ | refine Branch.t (by assumption) ?_ | refine Branch.f (by assumption) ?_ | refine Branch.d (fun _ => ?_) (fun _ => ?_) | refine Branch.mk (fun _ => ?_) (fun _ => ?_) | refine Need.mk (by first | omega | decide | rfl) ?_ | refine Idx.nat (by omega) ?_ | refine Idx.auto (by first | omega | decide) (by first | omega | decide) ?_ | refine Cell.ro rfl ?_ | refine SDraw.all (by kernel_rfl) ?_ | refine Kept.k0 ?_ | refine Kept.k1 ?_ | refine Kept.k2 ?_ | refine Kept.k3 ?_ | refine Kept.k4 ?_))
  | false =>
    have h52 : ∀ K2 : Value → Heap → Prop, (∀ N', Bld T r [] (bs ++ [48]) N' → K2 (.tuple ⟨[]⟩) (N' ++ H)) → SCalls Tryz.prog 31 [ptr r, .int .u64 0, .int .i64 1] (N ++ H) K2 :=
      fun K2 hk => c31 (K := K2) (w := 1) (n := 0) hT hD hN (by decide) (by show bs.length + 1 ≤ _; omega) hk
    have hK' : ∀ N', Bld T r [] (bs ++ [48]) N' → K (.tuple ⟨[]⟩) (N' ++ H) := hK
    clear hN hD
    repeat' ((conv => whnf); (first | refine Branch.f rfl ?_ | with_reducible refine h52 _ (fun N' hN' => ?_) | exact Keep.all (hK' _ hN') | refine New.mk (fun _ => ?_) | refine Look.at0 ?_ | refine Cell.row ?_ | refine Cell.buf ?_ | refine Cells.row rfl ?_ | refine Put.row rfl ?_ | refine Put.buf rfl ?_ | refine Look.at1 ?_ | refine Look.at2 ?_ | refine Look.at3 ?_ | refine Look.at4 ?_ | refine Look.at5 ?_ | refine Look.at6 ?_ | refine Look.at7 ?_ | refine Look.at8 ?_ | with_reducible refine Val.i64 (by omega) (by omega) ?_ | with_reducible refine Val.u8 (by omega) (by omega) ?_ | with_reducible refine Val.u32 (by omega) (by omega) ?_ | with_reducible refine Val.u64 (by omega) (by omega) ?_ | with_reducible refine Val.u8m ?_ | with_reducible refine Val.u32m ?_ | with_reducible refine Val.u64m ?_ | with_reducible refine Val.shr8 ?_ | with_reducible refine Val.shr16 (by decide) ?_ | with_reducible refine Val.shr24 (by decide) ?_ | with_reducible refine Val.raw ?_ | refine Branch.not ?_ | refine Branch.and ?_ | refine Branch.or ?_ | refine Branch.dt (by assumption) ?_ | refine Branch.df (by assumption) ?_ | refine Branch.dt rfl ?_ | refine Branch.dt (by omega) ?_ | refine Branch.df (by omega) ?_ | refine Branch.t rfl ?_ | refine Branch.f rfl ?_ | refine Branch.t (by assumption) ?_ | refine Branch.f (by assumption) ?_ | refine Branch.d (fun _ => ?_) (fun _ => ?_) | refine Branch.mk (fun _ => ?_) (fun _ => ?_) | refine Need.mk (by first | omega | decide | rfl) ?_ | refine Idx.nat (by omega) ?_ | refine Idx.auto (by first | omega | decide) (by first | omega | decide) ?_ | refine Cell.ro rfl ?_ | refine SDraw.all (by kernel_rfl) ?_ | refine Kept.k0 ?_ | refine Kept.k1 ?_ | refine Kept.k2 ?_ | refine Kept.k3 ?_ | refine Kept.k4 ?_))
theorem c30 {f : Fm} {T r : Nat} {bs : List UInt8} {N : Heap} (hT : BT T 0) (hid : okF f = true) (hD : Db H) (hN : Bld T r [] bs N) (hl : bs.length ≤ 100) (hK : ∀ N', Bld T r [] (bs ++ fld f) N' → K (.tuple ⟨[]⟩) (N' ++ H)) :
    SCalls Tryz.prog 30 [ptr r, frV f] (N ++ H) K := by
  obtain ⟨id, x, rm, n, d0, d1, d2, d3, d4, d5, d6, d7⟩ := f
  unfold okF at hid
  unfold fld fldB at hK
  dsimp only [frV, frC] at hid hK ⊢
  refine enter30 ?_
  have h18 : shrI .u32 (id : Int) 18 = ((id / 2 ^ 18 : Nat) : Int) := shr_nat (k := .u32) (n := 18) (by decide)
  have big : (2 : Nat) ^ 64 = 18446744073709551616 := rfl
  cases x with
  | true =>
    simp only [Bool.and_eq_true, decide_eq_true_eq, if_true] at hid hK
    have hand : bitAnd .u32 (id : Int) 262143 = ((id % 2 ^ 18 : Nat) : Int) := bitMask_nat (k := .u32) rfl (a := id) (n := 18) (by show id < 4294967296; omega) (by decide)
    have n1 : (numV (id / 2 ^ 18) (11 : Nat)).1 = numB 11 (id / 2 ^ 18) := by
      unfold numV
      rw [if_pos ⟨by decide, by decide, by show id / 2 ^ 18 < 2 ^ 11; omega⟩]; rfl
    have n2 : (numV (id % 2 ^ 18) (18 : Nat)).1 = numB 18 (id % 2 ^ 18) := by
      unfold numV
      rw [if_pos ⟨by decide, by decide, by show id % 2 ^ 18 < 2 ^ 18; omega⟩]; rfl
    rw [← List.append_assoc, ← List.append_assoc, ← List.append_assoc] at hK
    have h1 : ∀ q (K2 : Value → Heap → Prop), (∀ N', Bld T r [] (bs ++ numB 11 (id / 2 ^ 18)) N' → K2 (.tuple ⟨[]⟩) (q :: (N' ++ H))) → SCalls Tryz.prog 31 [ptr r, .int .u64 ((id / 2 ^ 18 : Nat) : Int), .int .i64 11] (q :: (N ++ H)) K2 := by
      intro q K2 hk
      exact SCalls.under [q] (c31 (w := 11) (n := id / 2 ^ 18) hT hD hN (by omega) (by rw [n1, numB_len]; omega) (by rw [n1]; exact hk))
    have h2 : ∀ q N1 (K2 : Value → Heap → Prop), Bld T r [] (bs ++ numB 11 (id / 2 ^ 18)) N1 → (∀ N', Bld T r [] (bs ++ numB 11 (id / 2 ^ 18) ++ [49, 49]) N' → K2 (.tuple ⟨[.int .i64 2, .nilIface]⟩) (q :: (N' ++ H))) → SCalls Tryz.prog 58 [ptr r, .string ⟨#[49, 49]⟩] (q :: (N1 ++ H)) K2 :=
      fun q N1 K2 hb hk => SCalls.midH [q] H (c58 (pre := []) (T := T) (l := [49, 49]) hT hb (by rw [List.length_append, numB_len]; show bs.length + 11 + 2 ≤ _; omega) (fun N' h => hk N' h))
    have h3 : ∀ q N1 (K2 : Value → Heap → Prop), Bld T r [] (bs ++ numB 11 (id / 2 ^ 18) ++ [49, 49]) N1 → (∀ N', Bld T r [] (bs ++ numB 11 (id / 2 ^ 18) ++ [49, 49] ++ numB 18 (id % 2 ^ 18)) N' → K2 (.tuple ⟨[]⟩) (q :: (N' ++ H))) → SCalls Tryz.prog 31 [ptr r, .int .u64 ((id % 2 ^ 18 : Nat) : Int), .int .i64 18] (q :: (N1 ++ H)) K2 := by
      intro q N1 K2 hb hk
      exact SCalls.under [q] (c31 (w := 18) (n := id % 2 ^ 18) hT hD hb (by omega) (by rw [n2, List.length_append, List.length_append, numB_len, numB_len]; show bs.length + 11 + 2 + 18 ≤ _; omega) (by rw [n2]; exact hk))
    have h4 : ∀ q N1 (K2 : Value → Heap → Prop), Bld T r [] (bs ++ numB 11 (id / 2 ^ 18) ++ [49, 49] ++ numB 18 (id % 2 ^ 18)) N1 → (∀ N', Bld T r [] (bs ++ numB 11 (id / 2 ^ 18) ++ [49, 49] ++ numB 18 (id % 2 ^ 18) ++ [fb rm]) N' → K2 (.tuple ⟨[]⟩) (q :: (N' ++ H))) → SCalls Tryz.prog 29 [ptr r, .bool rm] (q :: (N1 ++ H)) K2 :=
      fun q N1 K2 hb hk => SCalls.under [q] (c29 hT hD hb (by rw [List.length_append, List.length_append, List.length_append, numB_len, numB_len]; show bs.length + 11 + 2 + 18 ≤ _; omega) hk)
    have hk : ∀ q N', Bld T r [] (bs ++ numB 11 (id / 2 ^ 18) ++ [49, 49] ++ numB 18 (id % 2 ^ 18) ++ [fb rm]) N' → Keep (q :: (N' ++ H)) fun H' => K (.tuple ⟨[]⟩) H' := fun q N' h => Keep.d1 (hK N' h)
    have hw1 : id / 2 ^ 18 < 18446744073709551616 := by omega
    have hw2 : id % 2 ^ 18 < 18446744073709551616 := by omega
    clear hN hK
    repeat' ((conv => whnf); (first | with_reducible refine Val.to _ h18 ?_ | with_reducible refine Val.to _ hand ?_ | with_reducible refine h1 _ _ (fun N1 hb1 => ?_) | with_reducible refine h2 _ _ _ hb1 (fun N2 hb2 => ?_) | with_reducible refine h3 _ _ _ hb2 (fun N3 hb3 => ?_) | with_reducible refine h4 _ _ _ hb3 (fun N4 hb4 => ?_) | refine Branch.t rfl ?_ | exact hk _ _ hb4 | refine New.mk (fun _ => ?_) | refine Look.at0 ?_ | refine Cell.row ?_ | refine Cell.buf ?_ | refine Cells.row rfl ?_ | refine Put.row rfl ?_ | refine Put.buf rfl ?_ | refine Look.at1 ?_ | refine Look.at2 ?_ | refine Look.at3 ?_ | refine Look.at4 ?_ | refine Look.at5 ?_ | refine Look.at6 ?_ | refine Look.at7 ?_ | refine Look.at8 ?_ | with_reducible refine Val.i64 (by omega) (by omega) ?_ | with_reducible refine Val.u8 (by omega) (by omega) ?_ | with_reducible refine Val.u32 (by omega) (by omega) ?_ | with_reducible refine Val.u64 (by omega) (by omega) ?_ | with_reducible refine Val.u8m ?_ | with_reducible refine Val.u32m ?_ | with_reducible refine Val.u64m ?_ | with_reducible refine Val.shr8 ?_ | with_reducible refine Val.shr16 (by decide) ?_ | with_reducible refine Val.shr24 (by decide) ?_ | with_reducible refine Val.raw ?_ | refine Branch.not ?_ | refine Branch.and ?_ | refine Branch.or ?_ | refine Branch.dt (by assumption) ?_ | refine Branch.df (by assumption) ?_ | refine Branch.dt rfl ?_ | refine Branch.dt (by omega) ?_ | refine Branch.df (by omega) ?_ | refine Branch.t rfl ?_ | refine Branch.f rfl ?_ | refine Branch.t (by assumption) ?_ | refine Branch.f (by assumption) ?_ | refine Branch.d (fun _ => ?_) (fun _ => ?_) | refine Branch.mk (fun _ => ?_) (fun _ => ?_) | refine Need.mk (by first | omega | decide | rfl) ?_ | refine Idx.nat (by omega) ?_ | refine Idx.auto (by first | omega | decide) (by first | omega | decide) ?_ | refine Cell.ro rfl ?_ | refine SDraw.all (by kernel_rfl) ?_ | refine Kept.k0 ?_ | refine Kept.k1 ?_ | refine Kept.k2 ?_ | refine Kept.k3 ?_ | refine Kept.k4 ?_))
  | false =>
    simp only [Bool.and_eq_true, decide_eq_true_eq, Bool.false_eq_true, if_false] at hid hK
    have n1 : (numV id (11 : Nat)).1 = numB 11 id := by
      unfold numV
      rw [if_pos ⟨by decide, by decide, by show id < 2 ^ 11; omega⟩]; rfl
    rw [← List.append_assoc, ← List.append_assoc] at hK
    have h1 : ∀ q (K2 : Value → Heap → Prop), (∀ N', Bld T r [] (bs ++ numB 11 id) N' → K2 (.tuple ⟨[]⟩) (q :: (N' ++ H))) → SCalls Tryz.prog 31 [ptr r, .int .u64 (id : Int), .int .i64 11] (q :: (N ++ H)) K2 := by
      intro q K2 hk
      exact SCalls.under [q] (c31 (w := 11) (n := id) hT hD hN (by omega) (by rw [n1, numB_len]; omega) (by rw [n1]; exact hk))
    have h2 : ∀ q N1 (K2 : Value → Heap → Prop), Bld T r [] (bs ++ numB 11 id) N1 → (∀ N', Bld T r [] (bs ++ numB 11 id ++ [fb rm]) N' → K2 (.tuple ⟨[]⟩) (q :: (N' ++ H))) → SCalls Tryz.prog 29 [ptr r, .bool rm] (q :: (N1 ++ H)) K2 :=
      fun q N1 K2 hb hk => SCalls.under [q] (c29 hT hD hb (by rw [List.length_append, numB_len]; omega) hk)
    have h3 : ∀ q N1 (K2 : Value → Heap → Prop), Bld T r [] (bs ++ numB 11 id ++ [fb rm]) N1 → (∀ N', Bld T r [] (bs ++ numB 11 id ++ [fb rm] ++ [48]) N' → K2 (.tuple ⟨[]⟩) (q :: (N' ++ H))) → SCalls Tryz.prog 29 [ptr r, .bool false] (q :: (N1 ++ H)) K2 :=
      fun q N1 K2 hb hk => SCalls.under [q] (c29 (b := false) hT hD hb (by rw [List.length_append, List.length_append, numB_len]; show bs.length + 11 + 1 ≤ _; omega) hk)
    have hk : ∀ q N', Bld T r [] (bs ++ numB 11 id ++ [fb rm] ++ [48]) N' → Keep (q :: (N' ++ H)) fun H' => K (.tuple ⟨[]⟩) H' := fun q N' h => Keep.d1 (hK N' h)
    clear hN hK
    repeat' ((conv => whnf); (first | with_reducible refine h1 _ _ (fun N1 hb1 => ?_) | with_reducible refine h2 _ _ _ hb1 (fun N2 hb2 => ?_) | with_reducible refine h3 _ _ _ hb2 (fun N3 hb3 => ?_) | refine Branch.f rfl ?_ | exact hk _ _ hb3 | refine New.mk (fun _ => ?_) | refine Look.at0 ?_ | refine Cell.row ?_ | refine Cell.buf ?_ | refine Cells.row rfl ?_ | refine Put.row rfl ?_ | refine Put.buf rfl ?_ | refine Look.at1 ?_ | refine Look.at2 ?_ | refine Look.at3 ?_ | refine Look.at4 ?_ | refine Look.at5 ?_ | refine Look.at6 ?_ | refine Look.at7 ?_ | refine Look.at8 ?_ | with_reducible refine Val.i64 (by omega) (by omega) ?_ | with_reducible refine Val.u8 (by omega) (by omega) ?_ | with_reducible refine Val.u32 (by omega) (by omega) ?_ | with_reducible refine Val.u64 (by omega) (by omega) ?_ | with_reducible refine Val.u8m ?_ | with_reducible refine Val.u32m ?_ | with_reducible refine Val.u64m ?_ | with_reducible refine Val.shr8 ?_ | with_reducible refine Val.shr16 (by decide) ?_ | with_reducible refine Val.shr24 (by decide) ?_ | with_reducible refine Val.raw ?_ | refine Branch.not ?_ | refine Branch.and ?_ | refine Branch.or ?_ | refine Branch.dt (by assumption) ?_ | refine Branch.df (by assumption) ?_ | refine Branch.dt rfl ?_ | refine Branch.dt (by omega) ?_ | refine Branch.df (by omega) ?_ | refine Branch.t rfl ?_ | refine Branch.f rfl ?_ | refine Branch.t (by assumption) ?_ | refine Branch.f (by assumption) ?_ | refine Branch.d (fun _ => ?_) (fun _ => ?_) | refine Branch.mk (fun _ => ?_) (fun _ => ?_) | refine Need.mk (by first | omega | decide | rfl) ?_ | refine Idx.nat (by omega) ?_ | refine Idx.auto (by first | omega | decide) (by first | omega | decide) ?_ | refine Cell.ro rfl ?_ | refine SDraw.all (by kernel_rfl) ?_ | refine Kept.k0 ?_ | refine Kept.k1 ?_ | refine Kept.k2 ?_ | refine Kept.k3 ?_ | refine Kept.k4 ?_))
theorem c67 {f : Fm} (hid : okF f = true) (hD : Db H) (hK : K (.string (strOf (fld f))) H) : SCalls Tryz.prog 67 [frV f] H K := by
  have h42 : ∀ r q (K2 : Value → Heap → Prop), (∀ N', Bld 88 r [] (fld f) N' → K2 (.tuple ⟨[]⟩) (N' ++ q :: H)) → SCalls Tryz.prog 30 [ptr r, frV f] ((r, .row 88 [.pointer none, .slice none 0 0] (0, 0)) :: q :: H) K2 :=
    fun r q K2 hk => c30 (H := q :: H) (bs := []) (N := [(r, .row 88 [.pointer none, .slice none 0 0] (0, 0))]) bt89 hid (hD.mono fun p hp => .tail _ hp) (Bld.new (T := 88) (r := r) (pre := [])) (by decide) hk
  have h43 : ∀ r q N1 (K2 : Value → Heap → Prop), Bld 88 r [] (fld f) N1 → (∀ N', K2 (.string (strOf (fld f))) (N' ++ q :: H)) → SCalls Tryz.prog 34 [ptr r] (N1 ++ q :: H) K2 :=
    fun r q N1 K2 hb hk => SCalls.midH [] (q :: H) (c34 (pre := []) (T := 88) hb (fun N' _ => hk N'))
  have hk : ∀ (N' : Heap) q, Keep (N' ++ q :: H) fun H' => K (.string (strOf (fld f))) H' := fun N' q => Keep.sub _ ((List.sublist_cons_self q H).trans (List.sublist_append_right N' (q :: H))) hK
  clear hK
  refine enter67 ?_
  repeat' ((conv => whnf); (first | with_reducible refine h42 _ _ _ (fun N1 hb1 => ?_) | with_reducible refine h43 _ _ _ _ hb1 (fun N2 => ?_) | exact hk _ _ | refine New.mk (fun _ => ?_) | refine Look.at0 ?_ | refine Cell.row ?_ | refine Cell.buf ?_ | refine Cells.row rfl ?_ | refine Put.row rfl ?_ | refine Put.buf rfl ?_ | refine Look.at1 ?_ | refine Look.at2 ?_ | refine Look.at3 ?_ | refine Look.at4 ?_ | refine Look.at5 ?_ | refine Look.at6 ?_ | refine Look.at7 ?_ | refine Look.at8 ?_ | with_reducible refine Val.i64 (by omega) (by omega) ?_ | with_reducible refine Val.u8 (by omega) (by omega) ?_ | with_reducible refine Val.u32 (by omega) (by omega) ?_ | with_reducible refine Val.u64 (by omega) (by omega) ?_ | with_reducible refine Val.u8m ?_ | with_reducible refine Val.u32m ?_ | with_reducible refine Val.u64m ?_ | with_reducible refine Val.shr8 ?_ | with_reducible refine Val.shr16 (by decide) ?_ | with_reducible refine Val.shr24 (by decide) ?_ | with_reducible refine Val.raw ?_ | refine Branch.not ?_ | refine Branch.and ?_ | refine Branch.or ?_ | refine Branch.dt (by assumption) ?_ | refine Branch.df (by assumption) ?_ | refine Branch.dt rfl ?_ | refine Branch.dt (by omega) ?_ | refine Branch.df (by omega) ?_ | refine Branch.t rfl ?_ | refine Branch.f rfl ?_ | refine Branch.t (by assumption) ?_ | refine Branch.f (by assumption) ?_ | refine Branch.d (fun _ => ?_) (fun _ => ?_) | refine Branch.mk (fun _ => ?_) (fun _ => ?_) | refine Need.mk (by first | omega | decide | rfl) ?_ | refine Idx.nat (by omega) ?_ | refine Idx.auto (by first | omega | decide) (by first | omega | decide) ?_ | refine Cell.ro rfl ?_ | refine SDraw.all (by kernel_rfl) ?_ | refine Kept.k0 ?_ | refine Kept.k1 ?_ | refine Kept.k2 ?_ | refine Kept.k3 ?_ | refine Kept.k4 ?_))
theorem c39 {f : Fm} (hid : f.id < 4294967296) (hD : Db H) (hK : K (.tuple ⟨[.string (strOf (fV f).1), .int .i64 (fV f).2]⟩) H) : SCalls Tryz.prog 39 [frV f] H K := by
  refine enter39 ?_
  unfold fV at hK
  have hD' : ∀ q : Nat × Blk, Db (q :: H) := fun q => hD.mono fun p hp => .tail _ hp
  have h26 := fun H (K2 : Value → Heap → Prop) (hk : K2 (.int .i64 (erF f)) H) => c28 (H := H) (K := K2) hid hk
  unfold erF at h26
  cases hg : okF f with
  | true =>
    rw [hg] at hK h26
    repeat' ((conv => whnf); (first | refine h26 _ _ ?_ | refine Branch.f rfl ?_ | refine c67 hg (hD' _) ?_ | exact Keep.d1 hK | refine New.mk (fun _ => ?_) | refine Look.at0 ?_ | refine Cell.row ?_ | refine Cell.buf ?_ | refine Cells.row rfl ?_ | refine Put.row rfl ?_ | refine Put.buf rfl ?_ | refine Look.at1 ?_ | refine Look.at2 ?_ | refine Look.at3 ?_ | refine Look.at4 ?_ | refine Look.at5 ?_ | refine Look.at6 ?_ | refine Look.at7 ?_ | refine Look.at8 ?_ | with_reducible refine Val.i64 (by omega) (by omega) ?_ | with_reducible refine Val.u8 (by omega) (by omega) ?_ | with_reducible refine Val.u32 (by omega) (by omega) ?_ | with_reducible refine Val.u64 (by omega) (by omega) ?_ | with_reducible refine Val.u8m ?_ | with_reducible refine Val.u32m ?_ | with_reducible refine Val.u64m ?_ | with_reducible refine Val.shr8 ?_ | with_reducible refine Val.shr16 (by decide) ?_ | with_reducible refine Val.shr24 (by decide) ?_ | with_reducible refine Val.raw ?_ | refine Branch.not ?_ | refine Branch.and ?_ | refine Branch.or ?_ | refine Branch.dt (by assumption) ?_ | refine Branch.df (by assumption) ?_ | refine Branch.dt rfl ?_ | refine Branch.dt (by omega) ?_ | refine Branch.df (by omega) ?_ | refine Branch.t rfl ?_ | refine Branch.f rfl ?_ | refine Branch.t (by assumption) ?_ | refine Branch.f (by assumption) ?_ | refine Branch.d (fun _ => ?_) (fun _ => ?_) | refine Branch.mk (fun _ => ?_) (fun _ => ?_) | refine Need.mk (by first | omega | decide | rfl) ?_ | refine Idx.nat (by omega) ?_ | refine Idx.auto (by first | omega | decide) (by first | omega | decide) ?_ | refine Cell.ro rfl ?_ | refine SDraw.all (by kernel_rfl) ?_ | refine Kept.k0 ?_ | refine Kept.k1 ?_ | refine Kept.k2 ?_ | refine Kept.k3 ?_ | refine Kept.k4 ?_))
  | false =>
    rw [hg] at hK h26
    repeat' ((conv => whnf); (first | refine h26 _ _ ?_ | refine Branch.t rfl ?_ | exact Keep.d1 hK | refine New.mk (fun _ => ?_) | refine Look.at0 ?_ | refine Cell.row ?_ | refine Cell.buf ?_ | refine Cells.row rfl ?_ | refine Put.row rfl ?_ | refine Put.buf rfl ?_ | refine Look.at1 ?_ | refine Look.at2 ?_ | refine Look.at3 ?_ | refine Look.at4 ?_ | refine Look.at5 ?_ | refine Look.at6 ?_ | refine Look.at7 ?_ | refine Look.at8 ?_ | with_reducible refine Val.i64 (by omega) (by omega) ?_ | with_reducible refine Val.u8 (by omega) (by omega) ?_ | with_reducible refine Val.u32 (by omega) (by omega) ?_ | with_reducible refine Val.u64 (by omega) (by omega) ?_ | with_reducible refine Val.u8m ?_ | with_reducible refine Val.u32m ?_ | with_reducible refine Val.u64m ?_ | with_reducible refine Val.shr8 ?_ | with_reducible refine Val.shr16 (by decide) ?_ | with_reducible refine Val.shr24 (by decide) ?_ | with_reducible refine Val.raw ?_ | refine Branch.not ?_ | refine Branch.and ?_ | refine Branch.or ?_ | refine Branch.dt (by assumption) ?_ | refine Branch.df (by assumption) ?_ | refine Branch.dt rfl ?_ | refine Branch.dt (by omega) ?_ | refine Branch.df (by omega) ?_ | refine Branch.t rfl ?_ | refine Branch.f rfl ?_ | refine Branch.t (by assumption) ?_ | refine Branch.f (by assumption) ?_ | refine Branch.d (fun _ => ?_) (fun _ => ?_) | refine Branch.mk (fun _ => ?_) (fun _ => ?_) | refine Need.mk (by first | omega | decide | rfl) ?_ | refine Idx.nat (by omega) ?_ | refine Idx.auto (by first | omega | decide) (by first | omega | decide) ?_ | refine Cell.ro rfl ?_ | refine SDraw.all (by kernel_rfl) ?_ | refine Kept.k0 ?_ | refine Kept.k1 ?_ | refine Kept.k2 ?_ | refine Kept.k3 ?_ | refine Kept.k4 ?_))
end
abbrev tlt (a b : List UInt8) : Bool := Op.bytesLess a b
theorem strLt_of (a b : List UInt8) : strLt (strOf a) (strOf b) = tlt a b := by
  unfold strLt
  rw [ByteArray.toList_eq, ByteArray.toList_eq]; rfl
theorem strGt_of (a b : List UInt8) : (!(strLt (strOf a) (strOf b) || decide (strOf a = strOf b))) = tlt b a := by
  rw [strLt_of, strOf_eq]
  cases h : tlt a b with
  | true =>
    have : tlt b a = false := Hp.bl_asym h
    rw [this]; rfl
  | false =>
    by_cases e : a = b
    · subst e
      rw [show tlt a a = false from Hp.bl_irr a]; simp
    · rw [decide_eq_false e]
      cases h2 : tlt b a with
      | true => rfl
      | false => exact absurd (Hp.bl_tri _ _ h h2) e
theorem list_at {α : Type} {L : List α} {j : Nat} (hlt : j < L.length) : ∃ x, L[j]? = some x ∧ L.drop j = x :: L.drop (j + 1) ∧ L.take (j + 1) = L.take j ++ [x] :=
  ⟨L[j], List.getElem?_eq_getElem hlt, List.drop_eq_getElem_cons hlt, List.take_succ_eq_append_getElem hlt⟩
theorem inS_at {α : Type} {f : α → List Value} {k : Nat} {sv : Value} {H : Heap} {L : List α} (h : InS f k sv H L) (hk : ∀ x, (f x).length = k) {j : Nat} {x : α} (hj : L[j]? = some x) :
    ∃ r o c b, sv = .slice (some ⟨r, o, none⟩) L.length c ∧ (r, b) ∈ H ∧ ∀ i v, (f x)[i]? = some v → b.cell (o + j * k + i) = some v := by
  obtain ⟨a, c, rfl, h1, h2⟩ := h
  rcases h2 with rfl | ⟨r, o, b, rfl, hm, hc⟩
  · simp at hj
  · exact ⟨r, o, c, b, rfl, hm, fun i v hv => hc j x i v hj hv (by rw [← hk x]; exact (List.getElem?_eq_some_iff.1 hv).1)⟩
def cmpS (a b : List UInt8) : Int := if tlt a b then -1 else if tlt b a then 1 else 0
section
variable {K : Value → Heap → Prop} {H : Heap}
end

/-- A slice that is only read, with room behind it or none. -/
def Sl {α : Type} (f : α → List Value) (k : Nat) (sv : Value) (H : Heap) (L : List α) : Prop := ∃ a c, sv = .slice a L.length c ∧ L.length ≤ c ∧ (a = none ∨ ∃ r o, a = some ⟨r, o, none⟩) ∧ InS f k sv H L
section
variable {α : Type} {f : α → List Value} {k e : Nat} {H H' : Heap} {sv : Value} {L L1 : List α}
theorem Sl.mono (h : Sl f k sv H L) (hs : ∀ z ∈ H, z ∈ H') : Sl f k sv H' L := by
  obtain ⟨a, c, h1, h2, h4, h3⟩ := h
  exact ⟨a, c, h1, h2, h4, h3.mono hs⟩
theorem Sl.nil : Sl f k (.slice none 0 0) H ([] : List α) := ⟨none, 0, rfl, Nat.le_refl _, .inl rfl, InS.nil⟩
theorem Sl.buf {q c N : Nat} (hk : ∀ x, (f x).length = k) (h1 : L.length ≤ c) (h2 : c ≤ maxLen) (hm : (q, .buf e (L.flatMap f) N) ∈ H) : Sl f k (.slice (some ⟨q, 0, none⟩) L.length c) H L :=
  ⟨_, c, rfl, h1, .inr ⟨_, _, rfl⟩, InS.buf hm rfl hk (Nat.le_trans h1 h2)⟩
theorem Sl.take {a : Option Addr} {c n : Nat} (h : Sl f k (.slice a L.length c) H L) (hn : n ≤ L.length) : InS f k (.slice a n c) H (L.take n) ∧ (L.take n).length = n := by
  obtain ⟨a', c', e1, h2, _, h3⟩ := h
  have hl : (L.take n).length = n := by simp; omega
  refine ⟨?_, hl⟩
  obtain ⟨a2, c2, e2, hml, h4⟩ := h3
  injection e2 with e2 _ e3
  subst e2 e3
  refine ⟨a, c, by rw [hl], by omega, ?_⟩
  rcases h4 with rfl | ⟨r, o, b, h5, h6, h7⟩
  · exact .inl (by simp)
  · refine .inr ⟨r, o, b, h5, h6, fun j x i v hj hv hi => h7 j x i v ?_ hv hi⟩
    rw [List.getElem?_take] at hj
    split at hj
    · exact hj
    · cases hj
/-- From n on. -/
theorem Sl.drop {a : Option Addr} {c n : Nat} (h : Sl f k (.slice a L.length c) H L) (hn : n ≤ L.length) :
    (c = n → Sl f k (.slice a (L.length - n) (c - n)) H (L.drop n)) ∧ ∀ r o, a = some ⟨r, o, none⟩ → Sl f k (.slice (some ⟨r, o + n * k, none⟩) (L.length - n) (c - n)) H (L.drop n) := by
  obtain ⟨a', c', e1, h2, h8, h3⟩ := h
  injection e1 with e1 _ e3
  subst e1 e3
  have hl : (L.drop n).length = L.length - n := by simp
  obtain ⟨a2, c2, e2, hml, h4⟩ := h3
  injection e2 with e2 _ e3
  subst e2 e3
  refine ⟨fun hc => ⟨a, c - n, by rw [hl], by omega, h8, ⟨a, c - n, by rw [hl], by omega, .inl (List.drop_eq_nil_of_le (by omega))⟩⟩, fun r o ha => ⟨_, c - n, by rw [hl], by omega, .inr ⟨_, _, rfl⟩, ⟨_, c - n, by rw [hl], by omega, ?_⟩⟩⟩
  rcases h4 with rfl | ⟨r', o', b, h5, h6, h7⟩
  · exact .inl (by simp)
  · rw [ha] at h5
    injection h5 with h5
    injection h5 with h5 h8
    subst h5 h8
    refine .inr ⟨r, o + n * k, b, rfl, h6, fun j x i v hj hv hi => ?_⟩
    have := h7 (n + j) x i v (by rw [List.getElem?_drop] at hj; exact hj) hv hi
    rw [Nat.add_mul] at this
    rw [show o + n * k + j * k + i = o + (n * k + j * k) + i by omega]
    exact this
theorem Sl.cases {a : Option Addr} {c : Nat} (h : Sl f k (.slice a L.length c) H L) : L.length ≤ c ∧ InS f k (.slice a L.length c) H L ∧ (a = none ∧ L = [] ∨ ∃ r o, a = some ⟨r, o, none⟩) := by
  obtain ⟨a', c', e1, h2, h8, h3⟩ := h
  injection e1 with e1 _ e3
  subst e1 e3
  refine ⟨h2, h3, ?_⟩
  rcases h8 with rfl | h8
  · obtain ⟨a2, c2, e2, _, h4⟩ := h3
    injection e2 with e2 _ _
    subst e2
    rcases h4 with h4 | ⟨_, _, _, h4, _⟩
    · exact .inl ⟨rfl, h4⟩
    · cases h4
  · exact .inr h8
end

abbrev i64 (n : Nat) : Value := .int .i64 (n : Int)
theorem frC_len (f : Fm) : (frC f).length = 12 := rfl
theorem frC_one (f : Fm) : ∀ u ∈ frC f, u.oneCell' = true := by
  intro u hu
  simp only [frC, List.mem_cons, List.not_mem_nil, or_false] at hu
  rcases hu with rfl | rfl | rfl | rfl | rfl | rfl | rfl | rfl | rfl | rfl | rfl | rfl <;> rfl

end Go.Proofs.YtiaginlnapiijaaGreatDoor


/- Ported (port.py) from WrD. -/
set_option linter.unusedVariables false
set_option linter.unusedSimpArgs false
set_option maxRecDepth 100000
set_option maxHeartbeats 4000000
namespace Go.Proofs.YtiaginlnapiijaaGreatDoor
open Sx
/-- A frame's bytes; its head; its body; its bits. -/
def dB (f : Fm) : List UInt8 := [f.d0, f.d1, f.d2, f.d3, f.d4, f.d5, f.d6, f.d7]
def hdB (f : Fm) : List UInt8 := [48] ++ fld f ++ [48] ++ (if f.x then [48] else []) ++ numB 4 f.n.toNat
def datB (f : Fm) (k : Nat) : List UInt8 := ((dB f).take k).flatMap fun b => numB 8 b.toNat
def sumB (f : Fm) : List UInt8 := hdB f ++ datB f (nb f)
def bodyB (f : Fm) : List UInt8 := sumB f ++ numB 15 (crc (sumB f))
def encB (f : Fm) (ack : Bool) : List UInt8 := (stf (bodyB f)).out ++ [49, fb (!ack)] ++ List.replicate 8 49
def encN (f : Fm) : Nat := (stf (bodyB f)).out.length + 10
theorem encB_len (f : Fm) (ack : Bool) : (encB f ack).length = encN f := by
  unfold encB encN
  simp
theorem fb_ok (b : Bool) : isB (fb b) = true := by cases b <;> rfl
theorem fld_ok (f : Fm) : ∀ b ∈ fld f, isB b = true := by
  unfold fld fldB
  intro b hb
  split at hb
  · simp only [List.mem_append, List.mem_cons, List.not_mem_nil, or_false] at hb
    rcases hb with ((h | rfl | rfl) | h) | rfl
    · exact numB_ok _ _ _ h
    · rfl
    · rfl
    · exact numB_ok _ _ _ h
    · exact fb_ok _
  · simp only [List.mem_append, List.mem_cons, List.not_mem_nil, or_false] at hb
    rcases hb with (h | rfl) | rfl
    · exact numB_ok _ _ _ h
    · exact fb_ok _
    · rfl
theorem hdB_ok (f : Fm) : ∀ b ∈ hdB f, isB b = true := by
  unfold hdB
  intro b hb
  simp only [List.mem_append, List.mem_cons, List.not_mem_nil, or_false] at hb
  rcases hb with (((rfl | h) | rfl) | h) | h
  · rfl
  · exact fld_ok _ _ h
  · rfl
  · split at h
    · simp only [List.mem_cons, List.not_mem_nil, or_false] at h
      subst h; rfl
    · cases h
  · exact numB_ok _ _ _ h
theorem hdB_len (f : Fm) : (hdB f).length ≤ 39 := by
  have := fldB_len f.id f.x f.r
  unfold hdB fld
  simp only [List.length_append, numB_len, List.length_cons, List.length_nil]
  split <;> simp <;> omega
theorem datB_len (f : Fm) {k : Nat} (hk : k ≤ 8) : (datB f k).length = 8 * k := by
  unfold datB
  rw [List.length_flatMap]
  have : ∀ l : List UInt8, (l.map fun b => (numB 8 b.toNat).length).sum = 8 * l.length := by
    intro l
    induction l with
    | nil => rfl
    | cons b l ih => rw [List.map_cons, List.sum_cons, ih, numB_len, List.length_cons]; omega
  rw [this, List.length_take]
  show 8 * min k 8 = _
  omega
theorem datB_ok (f : Fm) (k : Nat) : ∀ b ∈ datB f k, isB b = true := by
  unfold datB
  intro b hb
  obtain ⟨c, _, h⟩ := List.mem_flatMap.1 hb
  exact numB_ok _ _ _ h
theorem sumB_ok (f : Fm) : ∀ b ∈ sumB f, isB b = true := by
  intro b hb
  rcases List.mem_append.1 hb with h | h
  · exact hdB_ok _ _ h
  · exact datB_ok _ _ _ h
theorem sumB_len (f : Fm) : (sumB f).length ≤ 103 := by
  have h1 := hdB_len f
  have h2 := datB_len f (nb_le f)
  have h3 := nb_le f
  unfold sumB
  rw [List.length_append]; omega
theorem chk_ok {l : List UInt8} (h1 : l.length ≤ 65536) (h2 : ∀ b ∈ l, isB b = true) : chk l = 0 := by
  unfold chk
  rw [if_neg (by omega), if_pos (List.all_eq_true.2 h2)]
theorem sumB_chk (f : Fm) : chk (sumB f) = 0 := chk_ok (by have := sumB_len f; omega) (sumB_ok f)
theorem bodyB_len (f : Fm) : (bodyB f).length ≤ 118 := by
  have h1 := sumB_len f
  unfold bodyB
  rw [List.length_append, numB_len]; omega
theorem bodyB_chk (f : Fm) : chk (bodyB f) = 0 := chk_ok (by have := bodyB_len f; omega) (by
  intro b hb
  rcases List.mem_append.1 hb with h | h
  · exact sumB_ok _ _ h
  · exact numB_ok _ _ _ h)
theorem encN_lt (f : Fm) : 10 ≤ encN f ∧ encN f ≤ 246 := by
  have h1 := bodyB_len f
  have h2 := (St.ok (bodyB f)).2.1
  unfold encN
  omega
/-- The first of several fields. -/
def bstN (fs : List (List UInt8)) : Nat → Nat
  | 0 => 0
  | k + 1 => if tlt (fs.getD k []) (fs.getD (bstN fs k) []) then k else bstN fs k
theorem bstN_lt (fs : List (List UInt8)) : ∀ k, bstN fs k ≤ k - 1 ∧ (bstN fs k < k ∨ k = 0) := by
  intro k
  induction k with
  | zero => exact ⟨Nat.le_refl _, .inr rfl⟩
  | succ k ih =>
    unfold bstN
    split
    · omega
    · omega
/-- What comes first of several frames, or what is wrong with them. -/
def firstV (l : List Fm) : Nat × Int :=
  if l = [] then (0, 3) else if l.all okF = false then (0, 1) else if (l.map fld).Nodup then (bstN (l.map fld) l.length, 0) else (0, 5)
/-- A node in a round. -/
structure Sn where
  (up sends : Bool) (f : Fm)
abbrev snC (s : Sn) : List Value := [.bool s.up, .bool s.sends, .int .u32 (s.f.id : Int), .bool s.f.x, .bool s.f.r, .int .i64 s.f.n, b8 s.f.d0, b8 s.f.d1, b8 s.f.d2, b8 s.f.d3, b8 s.f.d4, b8 s.f.d5, b8 s.f.d6, b8 s.f.d7]
theorem snC_len (s : Sn) : (snC s).length = 14 := rfl
theorem snC_one (s : Sn) : ∀ u ∈ snC s, u.oneCell' = true := by
  intro u hu
  simp only [snC, List.mem_cons, List.not_mem_nil, or_false] at hu
  rcases hu with rfl | rfl | rfl | rfl | rfl | rfl | rfl | rfl | rfl | rfl | rfl | rfl | rfl | rfl <;> rfl
abbrev xC (x : Int × Int) : List Value := [.int .i64 x.1, .int .i64 x.2]
theorem xC_len (x : Int × Int) : (xC x).length = 2 := rfl
/-- What comes of a round. -/
structure Out where
  (win bits : Int) (sent : Bool) (errs : List Int) (got : List Bool)
def zOut : Out := ⟨0, 0, false, [], []⟩
def noneV (n : Nat) : Out := ⟨-1, 11, false, List.replicate n 0, List.replicate n false⟩
/-- What is wrong with flips. -/
def xBad (n : Nat) (x : Int × Int) : Bool := decide (x.1 < 0) || decide ((n : Int) ≤ x.1) || decide (x.2 < 0)
def chkX (n : Nat) (fl : List (Int × Int)) : Int := if 127 < n ∨ 65536 < fl.length then 2 else if fl.any (xBad n) then 1 else 0
/-- Those that send. -/
def cand : Nat → List Sn → List (Nat × Fm)
  | _, [] => []
  | i, s :: l => if s.up && s.sends then (i, s.f) :: cand (i + 1) l else cand (i + 1) l
def upN (l : List Sn) : Nat := l.countP (·.up)
def upAt (l : List Sn) (i : Int) : Bool := (l.map (·.up)).getD i.toNat false
/-- The first flip that counts. -/
structure Fr where
  (any : Bool) (node bit : Int) (late : Bool)
def frS (l : List Sn) (n w : Nat) (s : Fr) (x : Int × Int) : Fr :=
  if upAt l x.1 = false ∨ (n : Int) ≤ x.2 then s
  else if x.2 = (n : Int) - 1 then ⟨s.any, s.node, s.bit, s.late || decide (x.1 = (w : Int))⟩
  else if s.any = false ∨ x.2 < s.bit ∨ (x.2 = s.bit ∧ x.1 < s.node) then ⟨true, x.1, x.2, s.late⟩ else s
def frF (l : List Sn) (n w : Nat) (fl : List (Int × Int)) : Fr := fl.foldl (frS l n w) ⟨false, 0, 0, false⟩
def gotE (l : List Sn) (w : Nat) : List Bool := l.mapIdx fun i s => s.up && !decide (i = w)
def stfE (l : List Sn) : List Int := l.map fun s => if s.up then 20 else 0
def comesV (l : List Sn) (n w : Nat) (r : Fr) : Out :=
  if r.any then ⟨w, r.bit + 24, false, if (n : Int) - 10 ≤ r.bit then (stfE l).set r.node.toNat 22 else stfE l, List.replicate l.length false⟩
  else if upN l ≤ 1 then ⟨w, (n : Int) + 12, false, (List.replicate l.length 0).set w 23, List.replicate l.length false⟩
  else if r.late then ⟨w, (n : Int) + 20, false, (List.replicate l.length 0).set w 22, gotE l w⟩
  else ⟨w, (n : Int) + 3, true, List.replicate l.length 0, gotE l w⟩
/-- What comes of a round: what is wrong, whose bit was flipped first, the rest. -/
structure Rd where
  (e bt : Int) (o : Out)
def z0 : Fm := ⟨0, false, false, 0, 0, 0, 0, 0, 0, 0, 0, 0⟩
def winV (l : List Sn) (fl : List (Int × Int)) : Rd :=
  let c := cand 0 l
  if c = [] then ⟨0, -1, noneV l.length⟩
  else
    let r := firstV (c.map (·.2))
    if r.2 = 0 then
      let w := (c.getD r.1 (0, z0)).1
      let n := encN (c.getD r.1 (0, z0)).2
      let x := frF l n w fl
      ⟨0, if x.any then x.node else -1, comesV l n w x⟩
    else ⟨r.2, -1, zOut⟩
def roundV (l : List Sn) (fl : List (Int × Int)) : Rd := if chkX l.length fl = 0 then winV l fl else ⟨chkX l.length fl, -1, zOut⟩
/-- A unit. -/
structure Un where
  (s r : Nat) (off : Bool) (idle : Nat)
structure UnW (u : Un) : Prop where
  s : u.s ≤ 256
  r : u.r ≤ 255
  i : u.idle ≤ 128
def u0 : Un := ⟨0, 0, false, 0⟩
def Un.sent (u : Un) : Un := if u.off then u else ⟨u.s - 1, u.r, u.off, u.idle⟩
def Un.recv (u : Un) : Un := if u.off then u else if 127 < u.r then ⟨u.s, 120, u.off, u.idle⟩ else ⟨u.s, u.r - 1, u.off, u.idle⟩
def Un.st (u : Un) : Int := if u.off then 2 else if 127 < u.s ∨ 127 < u.r then 1 else 0
def Un.fail (u : Un) (q : Bool) : Un := if u.off ∨ (q = true ∧ u.st = 1) then u else if 255 < u.s + 8 then ⟨256, u.r, true, 0⟩ else ⟨u.s + 8, u.r, u.off, u.idle⟩
def Un.erred (u : Un) (late : Bool) : Un := if u.off then u else ⟨u.s, min (u.r + if late then 8 else 1) 255, u.off, u.idle⟩
def Un.idl (u : Un) : Un := if u.off then (if u.idle + 1 < 128 then ⟨u.s, u.r, u.off, u.idle + 1⟩ else u0) else u
/-- A node of a bus. -/
structure Nd where
  (on : Bool) (u : Un) (box : Option Fm) (inn : List Fm)
def Nd.up (x : Nd) : Bool := x.on && !x.u.off
structure NdW (x : Nd) : Prop where
  u : UnW x.u
  up : x.up = false → x.box = none
  ok : ∀ f, x.box = some f → okF f = true ∧ plF f = f
  inn : x.inn.length ≤ 64
def n0 : Nd := ⟨false, u0, none, []⟩
def fldO (x : Nd) (f : Fm) : Bool := match x.box with
  | some g => x.up && decide (fld g = fld f)
  | none => false
/-- A node as it goes into a round. -/
def snd1 (pre : List Nd) (x : Nd) : Sn := match x.box with
  | some f => ⟨x.up, x.up && !(pre.any fun y => fldO y f), f⟩
  | none => ⟨x.up, false, z0⟩
def sndN : List Nd → List Nd → List Sn
  | _, [] => []
  | pre, x :: xs => snd1 pre x :: sndN (pre ++ [x]) xs
theorem sndN_snoc (x : Nd) : ∀ (a pre : List Nd), sndN pre (a ++ [x]) = sndN pre a ++ [snd1 (pre ++ a) x]
  | [], pre => by simp [sndN]
  | y :: a, pre => by
    rw [List.cons_append, sndN, sndN, sndN_snoc x a]; simp
theorem sndN_len : ∀ (a pre : List Nd), (sndN pre a).length = a.length
  | [], _ => rfl
  | _ :: a, pre => by rw [sndN, List.length_cons, List.length_cons, sndN_len a]
/-- A bus. -/
structure Bs where
  (time : Nat) (ns : List Nd)
def boxAt (ns : List Nd) (w : Int) : Fm := if w < 0 then z0 else ((ns.getD w.toNat n0).box.getD z0)
def stl (o : Out) (bt : Int) (won : Fm) (i : Nat) (x : Nd) : Nd :=
  let u1 := if x.on then x.u.idl else x.u
  let x2 : Nd :=
    if x.up = false ∨ o.win < 0 then ⟨x.on, u1, x.box, x.inn⟩
    else if (i : Int) = o.win then (if o.sent then ⟨x.on, u1.sent, none, x.inn⟩ else ⟨x.on, u1.fail (decide (o.errs.getD i 0 = 23)), x.box, x.inn⟩)
    else if o.got.getD i false then ⟨x.on, u1.recv, x.box, if x.inn.length < 64 then x.inn ++ [won] else x.inn⟩
    else if o.errs.getD i 0 = 0 then ⟨x.on, u1, x.box, x.inn⟩
    else ⟨x.on, u1.erred (decide ((i : Int) = bt)), x.box, x.inn⟩
  ⟨x2.on, x2.u, if x2.u.off then none else x2.box, x2.inn⟩
def stlN (o : Out) (bt : Int) (ns : List Nd) : List Nd := ns.mapIdx (stl o bt (boxAt ns o.win))
def Bs.snd (s : Bs) : List Sn := sndN [] s.ns
def Bs.rd (s : Bs) (fl : List (Int × Int)) : Rd := roundV s.snd fl
def Bs.step (s : Bs) (fl : List (Int × Int)) : Bs := if (s.rd fl).e = 0 then ⟨(s.time + (s.rd fl).o.bits.toNat) % 18446744073709551616, stlN (s.rd fl).o (s.rd fl).bt s.ns⟩ else s
def Bs.is (s : Bs) (i : Int) : Prop := 0 ≤ i ∧ i < (s.ns.length : Int)
instance (s : Bs) (i : Int) : Decidable (s.is i) := by unfold Bs.is; infer_instance
def Bs.at (s : Bs) (i : Int) : Nd := s.ns.getD i.toNat n0
def Bs.put (s : Bs) (i : Int) (x : Nd) : Bs := ⟨s.time, s.ns.set i.toNat x⟩
def Bs.power (s : Bs) (i : Int) (on : Bool) : Bs × Int := if s.is i then (if (s.at i).on = on then s else s.put i ⟨on, u0, none, []⟩, 0) else (s, 1)
def Bs.submit (s : Bs) (i : Int) (f : Fm) : Bs × Int :=
  if s.is i then
    if okF f then
      if (s.at i).up then (if (s.at i).box.isSome then (s, 31) else (s.put i ⟨(s.at i).on, (s.at i).u, some (plF f), (s.at i).inn⟩, 0))
      else (s, 30)
    else (s, 1)
  else (s, 1)
structure BsW (s : Bs) : Prop where
  n1 : 1 ≤ s.ns.length
  n2 : s.ns.length ≤ 127
  w : ∀ x ∈ s.ns, NdW x
  t : s.time < 18446744073709551616
end Go.Proofs.YtiaginlnapiijaaGreatDoor


/- Ported (port.py) from WrE. -/
set_option linter.unusedVariables false
set_option linter.unusedSimpArgs false
set_option maxRecDepth 100000
set_option maxHeartbeats 4000000
namespace Go.Proofs.YtiaginlnapiijaaGreatDoor
open Sx
theorem Look.app {r : Nat} {b : Blk} {N B : Heap} {K : Heap → Blk → Heap → Prop} (h : K N b B) : Look r (N ++ (r, b) :: B) K := ⟨N, b, B, rfl, h⟩
theorem okF_bd {f : Fm} (h : okF f = true) : f.id < 4294967296 ∧ 0 ≤ f.n ∧ f.n ≤ 15 := by
  unfold okF at h
  simp only [Bool.and_eq_true, decide_eq_true_eq] at h
  obtain ⟨⟨h1, h2⟩, h3⟩ := h
  refine ⟨?_, h1, h2⟩
  split at h3 <;> omega
theorem frC_dB (f : Fm) {k : Nat} {b : UInt8} (h : (dB f)[k]? = some b) : (Blk.row 39 (frC f) (0, 0)).cell (4 + k) = some (b8 b) := by
  show ([.int .u32 (f.id : Int), .bool f.x, .bool f.r, .int .i64 f.n] ++ (dB f).map b8)[4 + k]? = _
  rw [List.getElem?_append_right (by show 4 ≤ 4 + k; omega)]
  show ((dB f).map b8)[4 + k - 4]? = _
  rw [Nat.add_sub_cancel_left, List.getElem?_map, h]; rfl
theorem datB_snoc (f : Fm) {k : Nat} {b : UInt8} (h : (dB f)[k]? = some b) : datB f (k + 1) = datB f k ++ numB 8 b.toNat := by
  unfold datB
  rw [List.take_add_one, h]
  simp
theorem u8_lt (b : UInt8) : b.toNat < 256 := by have := b.toNat_lt; omega
theorem num8 (b : UInt8) : (numV b.toNat (8 : Nat)).1 = numB 8 b.toNat := by
  have := u8_lt b
  unfold numV
  rw [if_pos ⟨by decide, by decide, by show b.toNat < 2 ^ 8; omega⟩]; rfl
theorem num15 (l : List UInt8) : (numV (crc l) (15 : Nat)).1 = numB 15 (crc l) := by
  have := crc_lt l
  unfold numV
  rw [if_pos ⟨by decide, by decide, by show crc l < 2 ^ 15; omega⟩]; rfl
theorem num4 {n : Nat} (h : n ≤ 15) : (numV n (4 : Nat)).1 = numB 4 n := by
  unfold numV
  rw [if_pos ⟨by decide, by decide, by show n < 2 ^ 4; omega⟩]; rfl
inductive S13 (A1 A2 A7 A40 A41 A42 : Value) : List Value → Prop
  | mk {r0 r3 r4 r5 r6 r8 r9 r10 r11 r12 r13 r14 r15 r16 r17 r18 r19 r20 r21 r22 r23 r24 r25 r26 r27 r28 r29 r30 r31 r32 r33 r34 r35 r36 r37 r38 r39 r43 r44 r45 r46 r47 r48 r49 r50 r51 r52 r53 r54 r55 r56 r57 r58 r59 r60 r61 r62 r63 r64 r65 r66 r67 r68 r69 r70 r71 r72 r73 r74 r75 r76 r77 : Value} : S13 A1 A2 A7 A40 A41 A42 [r0, A1, A2, r3, r4, r5, r6, A7, r8, r9, r10, r11, r12, r13, r14, r15, r16, r17, r18, r19, r20, r21, r22, r23, r24, r25, r26, r27, r28, r29, r30, r31, r32, r33, r34, r35, r36, r37, r38, r39, A40, A41, A42, r43, r44, r45, r46, r47, r48, r49, r50, r51, r52, r53, r54, r55, r56, r57, r58, r59, r60, r61, r62, r63, r64, r65, r66, r67, r68, r69, r70, r71, r72, r73, r74, r75, r76, r77]
section
variable {K : Value → Heap → Prop} {H : Heap} {f : Fm} {ack : Bool}
theorem l23 {Q : Post} {S0 : List Value} {r q : Nat} {N0 : Heap} (hok : okF f = true) (hD : Db H) (hN : Bld 88 r [] (hdB f) N0) (hS : S13 (.bool ack) (ptr q) (ptr r) (.slice (some ⟨q, 4, none⟩) (nb f) 8) (.int .i64 (nb f : Int)) (.int .i64 0) S0)
    (hQ : ∀ S N, Bld 88 r [] (sumB f) N → S13 (.bool ack) (ptr q) (ptr r) (.slice (some ⟨q, 4, none⟩) (nb f) 8) (.int .i64 (nb f : Int)) (.int .i64 (nb f : Int)) S → Q (.exit 0) S (N ++ (q, .row 39 (frC f) (0, 0)) :: H)) :
    SLoop Tryz.prog X13_l0 Q S0 (N0 ++ (q, .row 39 (frC f) (0, 0)) :: H) := by
  have hD' : ∀ q : Nat × Blk, Db (q :: H) := fun q => hD.mono fun p hp => .tail _ hp
  have hnb := nb_le f
  have hlen := hdB_len f
  refine SLoop.invA (fun (k : Nat) S H' => k ≤ nb f ∧ S13 (.bool ack) (ptr q) (ptr r) (.slice (some ⟨q, 4, none⟩) (nb f) 8) (.int .i64 (nb f : Int)) (.int .i64 (k : Int)) S ∧ ∃ N, Bld 88 r [] (hdB f ++ datB f k) N ∧ H' = N ++ (q, .row 39 (frC f) (0, 0)) :: H) (fun k => nb f - k) 0 (Keep.all ⟨Nat.zero_le _, hS, N0, by simpa [datB] using hN, rfl⟩) ?_
  rintro k S H' ⟨hk, hS, N, hN, rfl⟩ R hR
  cases hS
  by_cases hlt : k < nb f
  · obtain ⟨b, hb⟩ : ∃ b, (dB f)[k]? = some b := ⟨_, List.getElem?_eq_getElem (show k < 8 by omega)⟩
    have hc := frC_dB f hb
    have hb8 := u8_lt b
    have hdl := datB_len f (k := k) (by omega)
    have h47 : ∀ (K2 : Value → Heap → Prop), (∀ N', Bld 88 r [] (hdB f ++ datB f k ++ numB 8 b.toNat) N' → K2 (.tuple ⟨[]⟩) (N' ++ (q, .row 39 (frC f) (0, 0)) :: H)) → SCalls Tryz.prog 31 [ptr r, .int .u64 (b.toNat : Int), .int .i64 8] (N ++ (q, .row 39 (frC f) (0, 0)) :: H) K2 := by
      intro K2 hk
      refine c31 (w := 8) bt89 (hD' _) hN (by omega) ?_ ?_
      · rw [num8, numB_len, List.length_append]; omega
      · rw [num8]; exact hk
    have hnext := fun S N' (h1 : Bld 88 r [] (hdB f ++ datB f k ++ numB 8 b.toNat) N') hS => hR (k + 1) S _ (by omega) (Keep.all ⟨hlt, hS, N', by rw [datB_snoc f hb, ← List.append_assoc]; exact h1, rfl⟩)
    have hm : (q, Blk.row 39 (frC f) (0, 0)) ∈ N ++ (q, Blk.row 39 (frC f) (0, 0)) :: H := List.mem_append_right _ (.head _)
    have hc' : (Blk.row 39 (frC f) (0, 0)).cell (4 + k * 1) = some (b8 b) := by rw [Nat.mul_one]; exact hc
    clear hR hQ
    repeat' ((conv => whnf); (first | refine Branch.dt (by omega) ?_ | refine Idx.nat hlt ?_ | refine Look.cell hm hc' ?_ | with_reducible refine h47 _ (fun N' hN' => ?_) | exact hnext _ _ hN' .mk | with_reducible refine Val.i64 (by omega) (by omega) ?_ | with_reducible refine Val.u64 (by omega) (by omega) ?_))
  · obtain rfl : k = nb f := by omega
    have hq := fun S => hQ S N hN
    clear hR hQ
    repeat' ((conv => whnf); (first | refine Branch.df (by omega) ?_ | exact Keep.all (hq _ .mk) | exact hq _ .mk))
theorem c13 (hok : okF f = true) (hD : Db H) (hK : K (.tuple ⟨[.string (strOf (encB f ack)), .int .i64 0]⟩) H) : SCalls Tryz.prog 13 [frV f, .bool ack] H K := by
  obtain ⟨hid, hn0, hn1⟩ := okF_bd hok
  have hD' : ∀ q : Nat × Blk, Db (q :: H) := fun q => hD.mono fun p hp => .tail _ hp
  have h40 : ∀ H (K2 : Value → Heap → Prop), K2 (.int .i64 0) H → SCalls Tryz.prog 28 [frV f] H K2 := fun H K2 hk => c28 hid (by unfold erF; rw [hok]; exact hk)
  have h48 : ∀ H (K2 : Value → Heap → Prop), K2 (.int .i64 (nb f : Int)) H → SCalls Tryz.prog 32 [frV f] H K2 := fun H K2 hk => c32 hk
  have h45a : ∀ r q (K2 : Value → Heap → Prop), (∀ N', Bld 88 r [] [48] N' → K2 (.tuple ⟨[]⟩) (N' ++ q :: H)) → SCalls Tryz.prog 29 [ptr r, .bool false] ((r, .row 88 [.pointer none, .slice none 0 0] (0, 0)) :: q :: H) K2 :=
    fun r q K2 hk => c29 (b := false) (H := q :: H) (bs := []) (N := [(r, .row 88 [.pointer none, .slice none 0 0] (0, 0))]) bt89 (hD' q) (Bld.new (T := 88) (r := r) (pre := [])) (by decide) hk
  have h45 : ∀ r q bs N1 (K2 : Value → Heap → Prop), Bld 88 r [] bs N1 → bs.length ≤ 200 → (∀ N', Bld 88 r [] (bs ++ [48]) N' → K2 (.tuple ⟨[]⟩) (N' ++ q :: H)) → SCalls Tryz.prog 29 [ptr r, .bool false] (N1 ++ q :: H) K2 :=
    fun r q bs N1 K2 hb hl hk => c29 (b := false) (H := q :: H) bt89 (hD' q) hb (by omega) hk
  have h46 : ∀ r q bs N1 (K2 : Value → Heap → Prop), Bld 88 r [] bs N1 → bs.length ≤ 100 → (∀ N', Bld 88 r [] (bs ++ fld f) N' → K2 (.tuple ⟨[]⟩) (N' ++ q :: H)) → SCalls Tryz.prog 30 [ptr r, frV f] (N1 ++ q :: H) K2 :=
    fun r q bs N1 K2 hb hl hk => c30 (H := q :: H) bt89 hok (hD' q) hb hl hk
  have h47 : ∀ (w n : Nat) (l : List UInt8) r q bs N1 (K2 : Value → Heap → Prop), Bld 88 r [] bs N1 → (numV n w).1 = l → l.length ≤ 64 → n < 2 ^ 64 → bs.length ≤ 200 → (∀ N', Bld 88 r [] (bs ++ l) N' → K2 (.tuple ⟨[]⟩) (N' ++ q :: H)) → SCalls Tryz.prog 31 [ptr r, .int .u64 (n : Int), .int .i64 (w : Int)] (N1 ++ q :: H) K2 := by
    intro w n l r q bs N1 K2 hb e hl hn hbl hk
    subst e
    exact c31 (H := q :: H) bt89 (hD' q) hb hn (by omega) hk
  have h47a : ∀ (n : Nat) (l : List UInt8) r q bs N1 (K2 : Value → Heap → Prop), Bld 88 r [] bs N1 → (numV n (4 : Nat)).1 = l → l.length ≤ 64 → n < 2 ^ 64 → bs.length ≤ 200 → (∀ N', Bld 88 r [] (bs ++ l) N' → K2 (.tuple ⟨[]⟩) (N' ++ q :: H)) → SCalls Tryz.prog 31 [ptr r, .int .u64 (n : Int), .int .i64 4] (N1 ++ q :: H) K2 := fun n l r q bs N1 K2 => h47 4 n l r q bs N1 K2
  have h47b : ∀ (n : Nat) (l : List UInt8) r q bs N1 (K2 : Value → Heap → Prop), Bld 88 r [] bs N1 → (numV n (15 : Nat)).1 = l → l.length ≤ 64 → n < 2 ^ 64 → bs.length ≤ 200 → (∀ N', Bld 88 r [] (bs ++ l) N' → K2 (.tuple ⟨[]⟩) (N' ++ q :: H)) → SCalls Tryz.prog 31 [ptr r, .int .u64 (n : Int), .int .i64 15] (N1 ++ q :: H) K2 := fun n l r q bs N1 K2 => h47 15 n l r q bs N1 K2
  have h50 : ∀ r q bs N1 (K2 : Value → Heap → Prop), Bld 88 r [] bs N1 → (∀ N', Bld 88 r [] bs N' → K2 (.string (strOf bs)) (N' ++ q :: H)) → SCalls Tryz.prog 34 [ptr r] (N1 ++ q :: H) K2 :=
    fun r q bs N1 K2 hb hk => SCalls.midH [] (q :: H) (c34 (pre := []) (T := 88) hb (fun N' hb' => hk N' hb'))
  have hcr := crc_lt (sumB f)
  have h49 : ∀ H (K2 : Value → Heap → Prop), K2 (.tuple ⟨[.int .u16 (crc (sumB f) : Int), .int .i64 0]⟩) H → SCalls Tryz.prog 33 [.string (strOf (sumB f))] H K2 := fun H K2 hk => c33 (by
    rw [sumB_chk]
    unfold crcV
    rw [if_pos (sumB_chk f)]; exact hk)
  have h51 : ∀ H (K2 : Value → Heap → Prop), K2 (.tuple ⟨[.string (strOf (stf (bodyB f)).out), .int .i64 0]⟩) H → SCalls Tryz.prog 35 [.string (strOf (sumB f ++ numB 15 (crc (sumB f))))] H K2 := fun H K2 hk => c35 (bodyB_chk f) hk
  have hnn : (f.n.toNat : Int) = f.n := Int.toNat_of_nonneg hn0
  have hn15 : f.n.toNat ≤ 15 := by omega
  have hnb := nb_le f
  have hlen := hdB_len f
  have hlen2 := sumB_len f
  have hol : (stf (bodyB f)).out.length ≤ 236 := by have := (encN_lt f).2; unfold encN at this; omega
  have hsl : ∀ (r : Nat) (o : Oper) (xx xh : Operand) (K2 : Value → Heap → Prop) (H2 : Heap), o.op = .slice 37 xx none (some xh) none → K2 (.slice (some ⟨r, 4, none⟩) (nb f) 8) H2 → RawV Tryz.prog o [.pointer (some ⟨r, 4, none⟩), .int .i64 (nb f : Int)] H2 K2 := fun r o xx xh K2 H2 ho hk =>
    RawV.sliceArrTo (n := 8) (e := 5) ho (by kernel_rfl) (by kernel_rfl) hnb (by decide) hk
  have h4 : (numV f.n.toNat (4 : Nat)).1 = numB 4 f.n.toNat := num4 hn15
  have hv4 : IntKind.u64.wrap f.n = (f.n.toNat : Int) := by rw [← hnn]; exact wrap_nat rfl (by show _ < 18446744073709551616; omega)
  have hfin : ∀ s, s = strOf (encB f ack) → ∀ (N' : Heap) q, Keep (N' ++ q :: H) fun H' => K (.tuple ⟨[.string s, .int .i64 0]⟩) H' := fun s e N' q => by
    rw [e]; exact Keep.sub _ ((List.sublist_cons_self q H).trans (List.sublist_append_right N' (q :: H))) hK
  clear hK
  refine enter13 ?_
  have h46b : (numV (crc (sumB f)) (15 : Nat)).1 = numB 15 (crc (sumB f)) := num15 _
  have hhx : ∀ q N, f.x = true → Bld 88 q [] ([48] ++ fld f ++ [48] ++ [48] ++ numB 4 f.n.toNat) N → Bld 88 q [] (hdB f) N := fun q N h hb => by
    unfold hdB
    rw [if_pos h]; simpa using hb
  have hhn : ∀ q N, f.x = false → Bld 88 q [] ([48] ++ fld f ++ [48] ++ numB 4 f.n.toNat) N → Bld 88 q [] (hdB f) N := fun q N h hb => by
    unfold hdB
    rw [h]; simpa using hb
  have hfl := fldB_len f.id f.x f.r
  have hfl' : (fld f).length ≤ 32 := hfl
  have hz : ∀ b : Bool, ack = b → strOf (stf (bodyB f)).out ++ (if b then ⟨#[49, 48]⟩ else ⟨#[49, 49]⟩) ++ ⟨#[49, 49, 49, 49, 49, 49, 49, 49]⟩ = strOf (encB f ack) := by
    intro b e
    subst e
    have : strOf (stf (bodyB f)).out ++ strOf [49, fb (!ack)] ++ strOf (List.replicate 8 49) = strOf (encB f ack) := by rw [strOf_app, strOf_app]; rfl
    cases ack <;> exact this
  cases hx : f.x with
  | true =>
    cases ack with
    | true =>
      have hz1 := hz true rfl
      clear hz
      repeat' ((conv => whnf); (first | with_reducible refine h40 _ _ ?_ | refine Branch.f rfl ?_ | with_reducible refine Look.app ?_ | with_reducible refine h45a _ _ _ (fun N1 b1 => ?_) | with_reducible refine h46 _ _ _ _ _ b1 (by decide) (fun N2 b2 => ?_) | with_reducible refine h45 _ _ _ _ _ b2 (by simp; omega) (fun N3 b3 => ?_) | refine Branch.t hx ?_ | with_reducible refine h45 _ _ _ _ _ b3 (by simp; omega) (fun N4 b4 => ?_) | with_reducible refine Val.to _ hv4 ?_ | with_reducible refine h47a _ _ _ _ _ _ _ b4 h4 (by simp [numB_len]) (by omega) (by simp; omega) (fun N5 b5 => ?_) | with_reducible refine h48 _ _ ?_ | with_reducible refine hsl _ _ _ _ _ _ rfl ?_ | (refine l23 hok hD (hhx _ _ hx b5) .mk (fun S N6 b6 hS => ?_); cases hS) | with_reducible refine h50 _ _ _ _ _ b6 (fun N7 b7 => ?_) | with_reducible refine h49 _ _ ?_ | with_reducible refine h47b _ _ _ _ _ _ _ b7 h46b (by simp [numB_len]) (by omega) (by omega) (fun N8 b8 => ?_) | with_reducible refine h50 _ _ _ _ _ b8 (fun N9 b9 => ?_) | with_reducible refine h51 _ _ ?_ | refine Branch.t rfl ?_ | refine Need.mk (by simp only [ByteArray.size_append, strOf_size]; first | (show _ + 2 + 8 ≤ _; omega) | (show _ + 2 ≤ _; omega)) ?_ | exact hfin _ hz1 _ _ | refine New.mk (fun _ => ?_) | refine Look.at0 ?_ | refine Cell.row ?_ | refine Cells.row rfl ?_ | with_reducible refine Val.u64 (by omega) (by omega) ?_))
    | false =>
      have hz1 := hz false rfl
      clear hz
      repeat' ((conv => whnf); (first | with_reducible refine h40 _ _ ?_ | refine Branch.f rfl ?_ | with_reducible refine Look.app ?_ | with_reducible refine h45a _ _ _ (fun N1 b1 => ?_) | with_reducible refine h46 _ _ _ _ _ b1 (by decide) (fun N2 b2 => ?_) | with_reducible refine h45 _ _ _ _ _ b2 (by simp; omega) (fun N3 b3 => ?_) | refine Branch.t hx ?_ | with_reducible refine h45 _ _ _ _ _ b3 (by simp; omega) (fun N4 b4 => ?_) | with_reducible refine Val.to _ hv4 ?_ | with_reducible refine h47a _ _ _ _ _ _ _ b4 h4 (by simp [numB_len]) (by omega) (by simp; omega) (fun N5 b5 => ?_) | with_reducible refine h48 _ _ ?_ | with_reducible refine hsl _ _ _ _ _ _ rfl ?_ | (refine l23 hok hD (hhx _ _ hx b5) .mk (fun S N6 b6 hS => ?_); cases hS) | with_reducible refine h50 _ _ _ _ _ b6 (fun N7 b7 => ?_) | with_reducible refine h49 _ _ ?_ | with_reducible refine h47b _ _ _ _ _ _ _ b7 h46b (by simp [numB_len]) (by omega) (by omega) (fun N8 b8 => ?_) | with_reducible refine h50 _ _ _ _ _ b8 (fun N9 b9 => ?_) | with_reducible refine h51 _ _ ?_ | refine Branch.f rfl ?_ | refine Need.mk (by simp only [ByteArray.size_append, strOf_size]; first | (show _ + 2 + 8 ≤ _; omega) | (show _ + 2 ≤ _; omega)) ?_ | exact hfin _ hz1 _ _ | refine New.mk (fun _ => ?_) | refine Look.at0 ?_ | refine Cell.row ?_ | refine Cells.row rfl ?_ | with_reducible refine Val.u64 (by omega) (by omega) ?_))
  | false =>
    cases ack with
    | true =>
      have hz1 := hz true rfl
      clear hz
      repeat' ((conv => whnf); (first | with_reducible refine h40 _ _ ?_ | refine Branch.f rfl ?_ | with_reducible refine Look.app ?_ | with_reducible refine h45a _ _ _ (fun N1 b1 => ?_) | with_reducible refine h46 _ _ _ _ _ b1 (by decide) (fun N2 b2 => ?_) | with_reducible refine h45 _ _ _ _ _ b2 (by simp; omega) (fun N3 b3 => ?_) | refine Branch.f hx ?_ | with_reducible refine Val.to _ hv4 ?_ | with_reducible refine h47a _ _ _ _ _ _ _ b3 h4 (by simp [numB_len]) (by omega) (by simp; omega) (fun N5 b5 => ?_) | with_reducible refine h48 _ _ ?_ | with_reducible refine hsl _ _ _ _ _ _ rfl ?_ | (refine l23 hok hD (hhn _ _ hx b5) .mk (fun S N6 b6 hS => ?_); cases hS) | with_reducible refine h50 _ _ _ _ _ b6 (fun N7 b7 => ?_) | with_reducible refine h49 _ _ ?_ | with_reducible refine h47b _ _ _ _ _ _ _ b7 h46b (by simp [numB_len]) (by omega) (by omega) (fun N8 b8 => ?_) | with_reducible refine h50 _ _ _ _ _ b8 (fun N9 b9 => ?_) | with_reducible refine h51 _ _ ?_ | refine Branch.t rfl ?_ | refine Need.mk (by simp only [ByteArray.size_append, strOf_size]; first | (show _ + 2 + 8 ≤ _; omega) | (show _ + 2 ≤ _; omega)) ?_ | exact hfin _ hz1 _ _ | refine New.mk (fun _ => ?_) | refine Look.at0 ?_ | refine Cell.row ?_ | refine Cells.row rfl ?_ | with_reducible refine Val.u64 (by omega) (by omega) ?_))
    | false =>
      have hz1 := hz false rfl
      clear hz
      repeat' ((conv => whnf); (first | with_reducible refine h40 _ _ ?_ | refine Branch.f rfl ?_ | with_reducible refine Look.app ?_ | with_reducible refine h45a _ _ _ (fun N1 b1 => ?_) | with_reducible refine h46 _ _ _ _ _ b1 (by decide) (fun N2 b2 => ?_) | with_reducible refine h45 _ _ _ _ _ b2 (by simp; omega) (fun N3 b3 => ?_) | refine Branch.f hx ?_ | with_reducible refine Val.to _ hv4 ?_ | with_reducible refine h47a _ _ _ _ _ _ _ b3 h4 (by simp [numB_len]) (by omega) (by simp; omega) (fun N5 b5 => ?_) | with_reducible refine h48 _ _ ?_ | with_reducible refine hsl _ _ _ _ _ _ rfl ?_ | (refine l23 hok hD (hhn _ _ hx b5) .mk (fun S N6 b6 hS => ?_); cases hS) | with_reducible refine h50 _ _ _ _ _ b6 (fun N7 b7 => ?_) | with_reducible refine h49 _ _ ?_ | with_reducible refine h47b _ _ _ _ _ _ _ b7 h46b (by simp [numB_len]) (by omega) (by omega) (fun N8 b8 => ?_) | with_reducible refine h50 _ _ _ _ _ b8 (fun N9 b9 => ?_) | with_reducible refine h51 _ _ ?_ | refine Branch.f rfl ?_ | refine Need.mk (by simp only [ByteArray.size_append, strOf_size]; first | (show _ + 2 + 8 ≤ _; omega) | (show _ + 2 ≤ _; omega)) ?_ | exact hfin _ hz1 _ _ | refine New.mk (fun _ => ?_) | refine Look.at0 ?_ | refine Cell.row ?_ | refine Cells.row rfl ?_ | with_reducible refine Val.u64 (by omega) (by omega) ?_))
end
end Go.Proofs.YtiaginlnapiijaaGreatDoor


/- Ported (port.py) from WrG. -/
set_option linter.unusedVariables false
set_option linter.unusedSimpArgs false
set_option maxRecDepth 100000
set_option maxHeartbeats 4000000
namespace Go.Proofs.YtiaginlnapiijaaGreatDoor
open Sx
theorem hty134 : mapTy Tryz.prog 106 9 4 .string (.bool false) := mapTy.mk' (by kernel_rfl) (by kernel_rfl) (by kernel_rfl)
abbrev kS : List UInt8 → Value := fun s => .string (strOf s)
theorem keysS : Keys .string kS := ⟨fun a => by simp [Go.MapKept.IsKey], fun a b h => by injection h with h; exact strOf_inj h⟩
theorem getD_fld {L : List Fm} {j : Nat} {x : Fm} (h : L[j]? = some x) : (L.map fld).getD j [] = fld x := by
  rw [List.getD_eq_getElem?_getD, List.getElem?_map, h]; rfl
theorem first_bad {L : List Fm} (hne : L ≠ []) {k : Nat} {x : Fm} (hx : L[k]? = some x) (h : okF x = false) : firstV L = (0, 1) := by
  unfold firstV
  rw [if_neg hne, if_pos]
  cases h2 : L.all okF with
  | false => rfl
  | true => rw [List.all_eq_true.1 h2 x (List.mem_of_getElem? hx)] at h; cases h
theorem all_ok {L : List Fm} (h : ∀ i y, i < L.length → L[i]? = some y → okF y = true) : L.all okF = true := by
  rw [List.all_eq_true]
  intro x hx
  obtain ⟨i, hi, rfl⟩ := List.getElem_of_mem hx
  exact h i _ hi (List.getElem?_eq_getElem hi)
theorem first_dup {L : List Fm} (hne : L ≠ []) (hall : L.all okF = true) {k : Nat} {x : Fm} (hx : L[k]? = some x) (h : fld x ∈ (L.take k).map fld) : firstV L = (0, 5) := by
  unfold firstV
  rw [if_neg hne, if_neg (by rw [hall]; decide), if_neg]
  intro hnd
  have hd : L.drop k = x :: L.drop (k + 1) := by
    obtain ⟨hk, e⟩ := List.getElem?_eq_some_iff.1 hx
    rw [List.drop_eq_getElem_cons hk, e]
  rw [← List.take_append_drop k L, List.map_append, hd, List.map_cons] at hnd
  exact (List.nodup_append.1 hnd).2.2 _ h _ (.head _) rfl
theorem first_ok {L : List Fm} (hne : L ≠ []) (hall : L.all okF = true) (hnd : (L.map fld).Nodup) : firstV L = (bstN (L.map fld) L.length, 0) := by
  unfold firstV
  rw [if_neg hne, if_neg (by rw [hall]; decide), if_pos hnd]
theorem nodup_snoc {L : List Fm} {k : Nat} {x : Fm} (hx : L[k]? = some x) (hnd : ((L.take k).map fld).Nodup) (h : ¬ fld x ∈ (L.take k).map fld) : ((L.take (k + 1)).map fld).Nodup := by
  have e : L.take (k + 1) = L.take k ++ [x] := by rw [List.take_add_one, hx]; rfl
  rw [e, List.map_append, List.nodup_append]
  refine ⟨hnd, by simp, ?_⟩
  intro a ha b hb hab
  rw [List.map_cons, List.map_nil, List.mem_singleton] at hb
  subst hb hab
  exact h ha
inductive S68a (A0 A15 A16 A17 : Value) : List Value → Prop
  | mk {r1 r2 r3 r4 r5 r6 r7 r8 r9 r10 r11 r12 r13 r14 r18 r19 r20 r21 r22 r23 r24 r25 r26 r27 r28 r29 r30 r31 r32 r33 r34 r35 r36 r37 r38 r39 r40 r41 r42 r43 r44 r45 r46 r47 r48 r49 r50 r51 : Value} : S68a A0 A15 A16 A17 [A0, r1, r2, r3, r4, r5, r6, r7, r8, r9, r10, r11, r12, r13, r14, A15, A16, A17, r18, r19, r20, r21, r22, r23, r24, r25, r26, r27, r28, r29, r30, r31, r32, r33, r34, r35, r36, r37, r38, r39, r40, r41, r42, r43, r44, r45, r46, r47, r48, r49, r50, r51]
inductive S68b (A0 A7 A8 A28 A29 A30 : Value) : List Value → Prop
  | mk {r1 r2 r3 r4 r5 r6 r9 r10 r11 r12 r13 r14 r15 r16 r17 r18 r19 r20 r21 r22 r23 r24 r25 r26 r27 r31 r32 r33 r34 r35 r36 r37 r38 r39 r40 r41 r42 r43 r44 r45 r46 r47 r48 r49 r50 r51 : Value} : S68b A0 A7 A8 A28 A29 A30 [A0, r1, r2, r3, r4, r5, r6, A7, A8, r9, r10, r11, r12, r13, r14, r15, r16, r17, r18, r19, r20, r21, r22, r23, r24, r25, r26, r27, A28, A29, A30, r31, r32, r33, r34, r35, r36, r37, r38, r39, r40, r41, r42, r43, r44, r45, r46, r47, r48, r49, r50, r51]
structure T68 where
  (k : Nat) (l : List (Ent (List UInt8))) (c : Nat)
def I68 (pm : Nat) (sv : Value) (L : List Fm) (H : Heap) (y : T68) (S : List Value) (H' : Heap) : Prop :=
  y.k ≤ L.length ∧ y.l.map Ent.key = (L.take y.k).map fld ∧ (∀ e ∈ y.l, e.val = .bool true) ∧ ((L.take y.k).map fld).Nodup ∧ S68b sv (.int .i64 (bstN (L.map fld) y.k : Int)) (.map (some pm)) sv (.int .i64 (L.length : Int)) (.int .i64 (y.k : Int)) S ∧ H' = (pm, mapB kS y.l y.c) :: H
section
variable {K : Value → Heap → Prop} {H : Heap} {sv : Value} {L : List Fm}
theorem c49 (hD : Db H) (hin : InS frC 12 sv H L) (hwf : ∀ f ∈ L, f.id < 4294967296) (hK : K (.tuple ⟨[.int .i64 ((firstV L).1 : Int), .int .i64 (firstV L).2]⟩) H) : SCalls Tryz.prog 49 [sv] H K := by
  obtain ⟨sa, sc, rfl, hml⟩ := hin.sv
  have hml' : L.length ≤ 9223372036854775807 := by simp only [maxLen] at hml; omega
  refine enter49 ?_
  by_cases hne : L = []
  · subst hne
    have h : K (.tuple ⟨[.int .i64 0, .int .i64 3]⟩) H := hK
    clear hK
    repeat' ((conv => whnf); (first | exact Keep.all h | refine Branch.dt rfl ?_))
  · have hlen : ¬ L.length = 0 := fun h => hne (List.length_eq_zero_iff.1 h)
    repeat' ((conv => whnf); (first | refine Branch.df (by omega) ?_))
    refine SLoop.invA (fun (k : Nat) S H' => k ≤ L.length ∧ (∀ i y, i < k → L[i]? = some y → okF y = true) ∧ S68a (.slice sa L.length sc) (.slice sa L.length sc) (.int .i64 (L.length : Int)) (.int .i64 (k : Int)) S ∧ H' = H) (fun k => L.length - k) 0 (Keep.all ⟨Nat.zero_le _, fun i y hi => absurd hi (Nat.not_lt_zero _), .mk, rfl⟩) ?_
    rintro k S H' ⟨hk, hno, hS, rfl⟩ R hR
    cases hS
    by_cases hlt : k < L.length
    · obtain ⟨x, hx, _⟩ := list_at hlt
      obtain ⟨r, o, c, b, e1, hrb, hcc⟩ := inS_at hin frC_len hx
      injection e1 with e1 _ e3
      subst e1
      have hxw := hwf x (List.mem_of_getElem? hx)
      cases ho : okF x with
      | false =>
        rw [first_bad hne hx ho] at hK
        have h : K (.tuple ⟨[.int .i64 0, .int .i64 1]⟩) H' := hK
        have h40 : ∀ H (K2 : Value → Heap → Prop), K2 (.int .i64 1) H → SCalls Tryz.prog 28 [frV x] H K2 := fun H K2 hk => c28 hxw (by unfold erF; rw [ho]; exact hk)
        clear hR hK
        repeat' ((conv => whnf); (first | refine Look.cells hrb rfl hcc ?_ | with_reducible refine h40 _ _ ?_ | refine Branch.t rfl ?_ | exact Keep.d1 h | refine New.mk (fun _ => ?_) | refine Look.at0 ?_ | refine Cells.row rfl ?_ | refine Put.row rfl ?_ | refine Branch.dt (by omega) ?_ | refine Idx.nat (by omega) ?_))
      | true =>
        have h40 : ∀ H (K2 : Value → Heap → Prop), K2 (.int .i64 0) H → SCalls Tryz.prog 28 [frV x] H K2 := fun H K2 hk => c28 hxw (by unfold erF; rw [ho]; exact hk)
        have hnext := fun S y1 hS => hR (k + 1) S (y1 :: H') (by omega) (Keep.d1 ⟨hlt, fun i y hi hy => by
          rcases Nat.lt_or_ge i k with h | h
          · exact hno i y h hy
          · obtain rfl : i = k := by omega
            rw [hx] at hy
            injection hy with hy
            subst hy
            exact ho, hS, rfl⟩)
        clear hR hK
        repeat' ((conv => whnf); (first | refine Look.cells hrb rfl hcc ?_ | with_reducible refine h40 _ _ ?_ | refine Branch.f rfl ?_ | exact hnext _ _ .mk | refine New.mk (fun _ => ?_) | refine Look.at0 ?_ | refine Cells.row rfl ?_ | refine Put.row rfl ?_ | with_reducible refine Val.i64 (by omega) (by omega) ?_ | refine Branch.dt (by omega) ?_ | refine Idx.nat (by omega) ?_))
    · obtain rfl : k = L.length := by omega
      have hall := all_ok hno
      clear hR hno hk
      repeat' ((conv => whnf); (first | refine Branch.df (by omega) ?_ | refine RawV.mkMap kS rfl (fun pm => ?_)))
      rename_i pm
      refine SLoop.invA (I68 pm (.slice sa L.length sc) L H') (fun y => L.length - y.k) ⟨0, [], 0⟩ (Keep.all ⟨by simp, by simp, by simp, by simp, .mk, rfl⟩) ?_
      rintro ⟨k, l, c2⟩ S H2 ⟨hk, hkeys, hvals, hnd, hS, rfl⟩ R hR
      dsimp only at hk hkeys hvals hnd hS hR ⊢
      cases hS
      by_cases hlt : k < L.length
      · obtain ⟨x, hx, _, htake⟩ := list_at hlt
        obtain ⟨r, o, c, b, e1, hrb, hcc⟩ := inS_at hin frC_len hx
        injection e1 with e1 _ e3
        subst e1
        have hbl := bstN_lt (L.map fld) k
        have hblt : bstN (L.map fld) k < L.length := by omega
        obtain ⟨y, hy, _⟩ := list_at hblt
        obtain ⟨r', o', c', b', e1, hrb', hcc'⟩ := inS_at hin frC_len hy
        injection e1 with e1 _ _
        injection e1 with e1
        injection e1 with e1 e4
        subst e1 e4
        have hox := List.all_eq_true.1 hall x (List.mem_of_getElem? hx)
        have hoy := List.all_eq_true.1 hall y (List.mem_of_getElem? hy)
        have hin1 : fld x ∈ (L.take k).map fld ↔ ∃ e ∈ l, e.key = fld x := by
          rw [← hkeys, List.mem_map]
        have hD1 : ∀ y z : Nat × Blk, Db (y :: z :: H') := fun y z => hD.mono fun p hp => .tail _ (.tail _ hp)
        have h41x : ∀ H (K2 : Value → Heap → Prop), Db H → K2 (.string (strOf (fld x))) H → SCalls Tryz.prog 67 [frV x] H K2 := fun H K2 hd hk => c67 hox hd hk
        have h41y : ∀ z w (K2 : Value → Heap → Prop), K2 (.string (strOf (fld y))) ([z] ++ w :: H') → SCalls Tryz.prog 67 [frV y] ([z] ++ w :: H') K2 := fun z w K2 hk => c67 hoy (hD1 z w) hk
        have hcmp : strLt (strOf (fld x)) (strOf (fld y)) = tlt (fld x) (fld y) := strLt_of _ _
        have hb1 : bstN (L.map fld) (k + 1) = if tlt (fld x) (fld y) then k else bstN (L.map fld) k := by
          rw [bstN, getD_fld hx, getD_fld hy]
        generalize hj : bstN (L.map fld) k = j at *
        have hnext : ∀ S (y1 : Nat × Blk), ¬ fld x ∈ (L.take k).map fld → S68b (.slice (some ⟨r, o, none⟩) L.length sc) (.int .i64 ((if tlt (fld x) (fld y) then k else j : Nat) : Int)) (.map (some pm)) (.slice (some ⟨r, o, none⟩) L.length sc) (.int .i64 (L.length : Int)) (.int .i64 ((k + 1 : Nat) : Int)) S → R S (y1 :: (pm, mapB kS (l ++ [⟨fld x, .bool true, c2⟩]) (c2 + 1)) :: H') := fun S y1 h1 h3 => by
          refine hR ⟨k + 1, l ++ [⟨fld x, .bool true, c2⟩], c2 + 1⟩ _ _ (by show L.length - (k + 1) < L.length - k; omega) (Keep.d1 ⟨by show k + 1 ≤ L.length; omega, ?_, ?_, nodup_snoc hx hnd h1, by rw [hb1]; exact h3, rfl⟩)
          · show (l ++ [(⟨fld x, .bool true, c2⟩ : Ent (List UInt8))]).map Ent.key = (L.take (k + 1)).map fld
            rw [List.map_append, hkeys, htake, List.map_append]; rfl
          · intro e he
            rcases List.mem_append.1 he with he | he
            · exact hvals e he
            · obtain rfl := List.mem_singleton.1 he; rfl
        have hdup : fld x ∈ (L.take k).map fld → K (.tuple ⟨[.int .i64 0, .int .i64 5]⟩) H' := fun h => by
          rw [first_dup hne hall hx h] at hK; exact hK
        clear hR hkeys htake hnd hb1 hK hne
        cases hc : tlt (fld x) (fld y) with
        | true =>
          rw [hc] at hcmp hnext
          repeat' ((conv => whnf); (first | refine Look.cells (.tail _ hrb) rfl hcc ?_ | refine Look.cells (.tail _ (.tail _ hrb')) rfl hcc' ?_ | with_reducible refine h41x _ _ (hD1 _ _) ?_ | with_reducible refine h41y _ _ _ ?_ | refine RawV.look (f := kS) (a := fld x) rfl hty134 keysS (.tail _ (.head _)) (fun hno => ?_) (fun i e hi he => ?_) | refine RawV.upd (A := [_]) (f := kS) (a := fld x) rfl hty134 keysS (fun hno2 => ?_) (fun i e hi he => ?_) | (rw [hvals _ (List.mem_of_getElem? hi)]) | refine Branch.t hcmp ?_ | exact Keep.d2 (hdup (hin1.2 ⟨_, List.mem_of_getElem? hi, he⟩)) | exact absurd he (hno _ (List.mem_of_getElem? hi)) | exact hnext _ _ (fun h => by obtain ⟨e, he1, he2⟩ := hin1.1 h; exact hno e he1 he2) .mk | refine New.mk (fun _ => ?_) | refine Look.at0 ?_ | refine Cells.row rfl ?_ | refine Put.row rfl ?_ | with_reducible refine Val.i64 (by omega) (by omega) ?_ | refine Branch.dt (by omega) ?_ | refine Branch.t rfl ?_ | refine Branch.f rfl ?_ | refine Idx.nat (by omega) ?_))
        | false =>
          rw [hc] at hcmp hnext
          repeat' ((conv => whnf); (first | refine Look.cells (.tail _ hrb) rfl hcc ?_ | refine Look.cells (.tail _ (.tail _ hrb')) rfl hcc' ?_ | with_reducible refine h41x _ _ (hD1 _ _) ?_ | with_reducible refine h41y _ _ _ ?_ | refine RawV.look (f := kS) (a := fld x) rfl hty134 keysS (.tail _ (.head _)) (fun hno => ?_) (fun i e hi he => ?_) | refine RawV.upd (A := [_]) (f := kS) (a := fld x) rfl hty134 keysS (fun hno2 => ?_) (fun i e hi he => ?_) | (rw [hvals _ (List.mem_of_getElem? hi)]) | refine Branch.f hcmp ?_ | exact Keep.d2 (hdup (hin1.2 ⟨_, List.mem_of_getElem? hi, he⟩)) | exact absurd he (hno _ (List.mem_of_getElem? hi)) | exact hnext _ _ (fun h => by obtain ⟨e, he1, he2⟩ := hin1.1 h; exact hno e he1 he2) .mk | refine New.mk (fun _ => ?_) | refine Look.at0 ?_ | refine Cells.row rfl ?_ | refine Put.row rfl ?_ | with_reducible refine Val.i64 (by omega) (by omega) ?_ | refine Branch.dt (by omega) ?_ | refine Branch.t rfl ?_ | refine Branch.f rfl ?_ | refine Idx.nat (by omega) ?_))
      · obtain rfl : k = L.length := by omega
        rw [List.take_length] at hnd
        rw [first_ok hne hall hnd] at hK
        have h : K (.tuple ⟨[.int .i64 (bstN (L.map fld) L.length : Int), .int .i64 0]⟩) H' := hK
        clear hR hK
        repeat' ((conv => whnf); (first | refine Branch.df (by omega) ?_ | exact Keep.d1 h))
end
end Go.Proofs.YtiaginlnapiijaaGreatDoor


/- Ported (port.py) from WrI. -/
set_option linter.unusedVariables false
set_option linter.unusedSimpArgs false
set_option maxRecDepth 100000
set_option maxHeartbeats 4000000
namespace Go.Proofs.YtiaginlnapiijaaGreatDoor
open Sx
def cmpZ (a b : Int) : Int := if a < b then -1 else if b < a then 1 else 0
abbrev zi (n : Int) : Value := .int .i64 n
abbrev eB (e : Nat) (l : List Int) (m : Nat) : Nat × Blk := (e, .buf 24 (l.map zi) m)
abbrev gB (g : Nat) (l : List Bool) (m : Nat) : Nat × Blk := (g, .buf 4 (l.map Value.bool) m)
inductive S83 (A0 A1 A6 A7 A8 : Value) : List Value → Prop
  | mk {r2 r3 r4 r5 r9 r10 r11 r12 r13 r14 r15 r16 r17 r18 : Value} : S83 A0 A1 A6 A7 A8 [A0, A1, r2, r3, r4, r5, A6, A7, A8, r9, r10, r11, r12, r13, r14, r15, r16, r17, r18]
section
variable {K : Value → Heap → Prop} {H : Heap}
theorem c52 {a b : Int} (hK : K (.int .i64 (cmpZ a b)) H) : SCalls Tryz.prog 52 [.int .i64 a, .int .i64 b] H K := by
  refine enter52 ?_
  have h109 : ∀ (a : Int) H (K2 : Value → Heap → Prop), K2 (.bool false) H → SCalls Tryz.prog 74 [.int .i64 a] H K2 := by
    intro a H K2 hk
    refine enter74 ?_
    have : (!decide (a = a)) = false := by simp
    repeat' ((conv => whnf); (first | (show Keep _ fun H' => K2 (.bool (!decide (a = a))) H'; rw [this]; exact Keep.all hk) | refine New.mk (fun _ => ?_) | refine Look.at0 ?_ | refine Cell.row ?_ | refine Cell.buf ?_ | refine Cells.row rfl ?_ | refine Put.row rfl ?_ | refine Put.buf rfl ?_ | refine Look.at1 ?_ | refine Look.at2 ?_ | refine Look.at3 ?_ | refine Look.at4 ?_ | refine Look.at5 ?_ | refine Look.at6 ?_ | refine Look.at7 ?_ | refine Look.at8 ?_ | with_reducible refine Val.i64 (by omega) (by omega) ?_ | with_reducible refine Val.u8 (by omega) (by omega) ?_ | with_reducible refine Val.u32 (by omega) (by omega) ?_ | with_reducible refine Val.u64 (by omega) (by omega) ?_ | with_reducible refine Val.u8m ?_ | with_reducible refine Val.u32m ?_ | with_reducible refine Val.u64m ?_ | with_reducible refine Val.shr8 ?_ | with_reducible refine Val.shr16 (by decide) ?_ | with_reducible refine Val.shr24 (by decide) ?_ | with_reducible refine Val.raw ?_ | refine Branch.not ?_ | refine Branch.and ?_ | refine Branch.or ?_ | refine Branch.dt (by assumption) ?_ | refine Branch.df (by assumption) ?_ | refine Branch.dt rfl ?_ | refine Branch.dt (by omega) ?_ | refine Branch.df (by omega) ?_ | refine Branch.t rfl ?_ | refine Branch.f rfl ?_ | refine Branch.t (by assumption) ?_ | refine Branch.f (by assumption) ?_ | refine Branch.d (fun _ => ?_) (fun _ => ?_) | refine Branch.mk (fun _ => ?_) (fun _ => ?_) | refine Need.mk (by first | omega | decide | rfl) ?_ | refine Idx.nat (by omega) ?_ | refine Idx.auto (by first | omega | decide) (by first | omega | decide) ?_ | refine Cell.ro rfl ?_ | refine SDraw.all (by kernel_rfl) ?_ | refine Kept.k0 ?_ | refine Kept.k1 ?_ | refine Kept.k2 ?_ | refine Kept.k3 ?_ | refine Kept.k4 ?_))
  unfold cmpZ at hK
  by_cases h1 : a < b
  · rw [if_pos h1] at hK
    repeat' ((conv => whnf); (first | with_reducible refine h109 _ _ _ ?_ | refine Branch.dt (by omega) ?_ | exact Keep.all hK | refine New.mk (fun _ => ?_) | refine Look.at0 ?_ | refine Cell.row ?_ | refine Cell.buf ?_ | refine Cells.row rfl ?_ | refine Put.row rfl ?_ | refine Put.buf rfl ?_ | refine Look.at1 ?_ | refine Look.at2 ?_ | refine Look.at3 ?_ | refine Look.at4 ?_ | refine Look.at5 ?_ | refine Look.at6 ?_ | refine Look.at7 ?_ | refine Look.at8 ?_ | with_reducible refine Val.i64 (by omega) (by omega) ?_ | with_reducible refine Val.u8 (by omega) (by omega) ?_ | with_reducible refine Val.u32 (by omega) (by omega) ?_ | with_reducible refine Val.u64 (by omega) (by omega) ?_ | with_reducible refine Val.u8m ?_ | with_reducible refine Val.u32m ?_ | with_reducible refine Val.u64m ?_ | with_reducible refine Val.shr8 ?_ | with_reducible refine Val.shr16 (by decide) ?_ | with_reducible refine Val.shr24 (by decide) ?_ | with_reducible refine Val.raw ?_ | refine Branch.not ?_ | refine Branch.and ?_ | refine Branch.or ?_ | refine Branch.dt (by assumption) ?_ | refine Branch.df (by assumption) ?_ | refine Branch.dt rfl ?_ | refine Branch.dt (by omega) ?_ | refine Branch.df (by omega) ?_ | refine Branch.t rfl ?_ | refine Branch.f rfl ?_ | refine Branch.t (by assumption) ?_ | refine Branch.f (by assumption) ?_ | refine Branch.d (fun _ => ?_) (fun _ => ?_) | refine Branch.mk (fun _ => ?_) (fun _ => ?_) | refine Need.mk (by first | omega | decide | rfl) ?_ | refine Idx.nat (by omega) ?_ | refine Idx.auto (by first | omega | decide) (by first | omega | decide) ?_ | refine Cell.ro rfl ?_ | refine SDraw.all (by kernel_rfl) ?_ | refine Kept.k0 ?_ | refine Kept.k1 ?_ | refine Kept.k2 ?_ | refine Kept.k3 ?_ | refine Kept.k4 ?_))
  · rw [if_neg h1] at hK
    by_cases h2 : b < a
    · rw [if_pos h2] at hK
      repeat' ((conv => whnf); (first | with_reducible refine h109 _ _ _ ?_ | refine Branch.df (by omega) ?_ | refine Branch.dt (by omega) ?_ | exact Keep.all hK | refine New.mk (fun _ => ?_) | refine Look.at0 ?_ | refine Cell.row ?_ | refine Cell.buf ?_ | refine Cells.row rfl ?_ | refine Put.row rfl ?_ | refine Put.buf rfl ?_ | refine Look.at1 ?_ | refine Look.at2 ?_ | refine Look.at3 ?_ | refine Look.at4 ?_ | refine Look.at5 ?_ | refine Look.at6 ?_ | refine Look.at7 ?_ | refine Look.at8 ?_ | with_reducible refine Val.i64 (by omega) (by omega) ?_ | with_reducible refine Val.u8 (by omega) (by omega) ?_ | with_reducible refine Val.u32 (by omega) (by omega) ?_ | with_reducible refine Val.u64 (by omega) (by omega) ?_ | with_reducible refine Val.u8m ?_ | with_reducible refine Val.u32m ?_ | with_reducible refine Val.u64m ?_ | with_reducible refine Val.shr8 ?_ | with_reducible refine Val.shr16 (by decide) ?_ | with_reducible refine Val.shr24 (by decide) ?_ | with_reducible refine Val.raw ?_ | refine Branch.not ?_ | refine Branch.and ?_ | refine Branch.or ?_ | refine Branch.dt (by assumption) ?_ | refine Branch.df (by assumption) ?_ | refine Branch.dt rfl ?_ | refine Branch.dt (by omega) ?_ | refine Branch.df (by omega) ?_ | refine Branch.t rfl ?_ | refine Branch.f rfl ?_ | refine Branch.t (by assumption) ?_ | refine Branch.f (by assumption) ?_ | refine Branch.d (fun _ => ?_) (fun _ => ?_) | refine Branch.mk (fun _ => ?_) (fun _ => ?_) | refine Need.mk (by first | omega | decide | rfl) ?_ | refine Idx.nat (by omega) ?_ | refine Idx.auto (by first | omega | decide) (by first | omega | decide) ?_ | refine Cell.ro rfl ?_ | refine SDraw.all (by kernel_rfl) ?_ | refine Kept.k0 ?_ | refine Kept.k1 ?_ | refine Kept.k2 ?_ | refine Kept.k3 ?_ | refine Kept.k4 ?_))
    · rw [if_neg h2] at hK
      repeat' ((conv => whnf); (first | with_reducible refine h109 _ _ _ ?_ | refine Branch.df (by omega) ?_ | exact Keep.all hK | refine New.mk (fun _ => ?_) | refine Look.at0 ?_ | refine Cell.row ?_ | refine Cell.buf ?_ | refine Cells.row rfl ?_ | refine Put.row rfl ?_ | refine Put.buf rfl ?_ | refine Look.at1 ?_ | refine Look.at2 ?_ | refine Look.at3 ?_ | refine Look.at4 ?_ | refine Look.at5 ?_ | refine Look.at6 ?_ | refine Look.at7 ?_ | refine Look.at8 ?_ | with_reducible refine Val.i64 (by omega) (by omega) ?_ | with_reducible refine Val.u8 (by omega) (by omega) ?_ | with_reducible refine Val.u32 (by omega) (by omega) ?_ | with_reducible refine Val.u64 (by omega) (by omega) ?_ | with_reducible refine Val.u8m ?_ | with_reducible refine Val.u32m ?_ | with_reducible refine Val.u64m ?_ | with_reducible refine Val.shr8 ?_ | with_reducible refine Val.shr16 (by decide) ?_ | with_reducible refine Val.shr24 (by decide) ?_ | with_reducible refine Val.raw ?_ | refine Branch.not ?_ | refine Branch.and ?_ | refine Branch.or ?_ | refine Branch.dt (by assumption) ?_ | refine Branch.df (by assumption) ?_ | refine Branch.dt rfl ?_ | refine Branch.dt (by omega) ?_ | refine Branch.df (by omega) ?_ | refine Branch.t rfl ?_ | refine Branch.f rfl ?_ | refine Branch.t (by assumption) ?_ | refine Branch.f (by assumption) ?_ | refine Branch.d (fun _ => ?_) (fun _ => ?_) | refine Branch.mk (fun _ => ?_) (fun _ => ?_) | refine Need.mk (by first | omega | decide | rfl) ?_ | refine Idx.nat (by omega) ?_ | refine Idx.auto (by first | omega | decide) (by first | omega | decide) ?_ | refine Cell.ro rfl ?_ | refine SDraw.all (by kernel_rfl) ?_ | refine Kept.k0 ?_ | refine Kept.k1 ?_ | refine Kept.k2 ?_ | refine Kept.k3 ?_ | refine Kept.k4 ?_))
theorem c51 {a b : Int} {q : Nat} (hK : K (.int .i64 (if a = 0 then b else a)) ((q, .row 3 [.int .i64 a, .int .i64 b] (0, 0)) :: H)) : SCalls Tryz.prog 51 [.slice (some ⟨q, 0, none⟩) 2 2] ((q, .row 3 [.int .i64 a, .int .i64 b] (0, 0)) :: H) K := by
  refine enter51 ?_
  by_cases ha : a = 0
  · subst ha
    rw [if_pos rfl] at hK
    by_cases hb : b = 0
    · subst hb
      repeat' ((conv => whnf); (first | refine SLoop.round ?_ | refine Branch.t rfl ?_ | refine Branch.f rfl ?_ | exact Keep.all hK | refine New.mk (fun _ => ?_) | refine Look.at0 ?_ | refine Cell.row ?_ | refine Cell.buf ?_ | refine Cells.row rfl ?_ | refine Put.row rfl ?_ | refine Put.buf rfl ?_ | refine Look.at1 ?_ | refine Look.at2 ?_ | refine Look.at3 ?_ | refine Look.at4 ?_ | refine Look.at5 ?_ | refine Look.at6 ?_ | refine Look.at7 ?_ | refine Look.at8 ?_ | with_reducible refine Val.i64 (by omega) (by omega) ?_ | with_reducible refine Val.u8 (by omega) (by omega) ?_ | with_reducible refine Val.u32 (by omega) (by omega) ?_ | with_reducible refine Val.u64 (by omega) (by omega) ?_ | with_reducible refine Val.u8m ?_ | with_reducible refine Val.u32m ?_ | with_reducible refine Val.u64m ?_ | with_reducible refine Val.shr8 ?_ | with_reducible refine Val.shr16 (by decide) ?_ | with_reducible refine Val.shr24 (by decide) ?_ | with_reducible refine Val.raw ?_ | refine Branch.not ?_ | refine Branch.and ?_ | refine Branch.or ?_ | refine Branch.dt (by assumption) ?_ | refine Branch.df (by assumption) ?_ | refine Branch.dt rfl ?_ | refine Branch.dt (by omega) ?_ | refine Branch.df (by omega) ?_ | refine Branch.t rfl ?_ | refine Branch.f rfl ?_ | refine Branch.t (by assumption) ?_ | refine Branch.f (by assumption) ?_ | refine Branch.d (fun _ => ?_) (fun _ => ?_) | refine Branch.mk (fun _ => ?_) (fun _ => ?_) | refine Need.mk (by first | omega | decide | rfl) ?_ | refine Idx.nat (by omega) ?_ | refine Idx.auto (by first | omega | decide) (by first | omega | decide) ?_ | refine Cell.ro rfl ?_ | refine SDraw.all (by kernel_rfl) ?_ | refine Kept.k0 ?_ | refine Kept.k1 ?_ | refine Kept.k2 ?_ | refine Kept.k3 ?_ | refine Kept.k4 ?_))
    · repeat' ((conv => whnf); (first | refine SLoop.round ?_ | refine Branch.f rfl ?_ | refine Branch.t (by first | (simp [hb]; done) | rfl) ?_ | exact Keep.all hK | refine New.mk (fun _ => ?_) | refine Look.at0 ?_ | refine Cell.row ?_ | refine Cell.buf ?_ | refine Cells.row rfl ?_ | refine Put.row rfl ?_ | refine Put.buf rfl ?_ | refine Look.at1 ?_ | refine Look.at2 ?_ | refine Look.at3 ?_ | refine Look.at4 ?_ | refine Look.at5 ?_ | refine Look.at6 ?_ | refine Look.at7 ?_ | refine Look.at8 ?_ | with_reducible refine Val.i64 (by omega) (by omega) ?_ | with_reducible refine Val.u8 (by omega) (by omega) ?_ | with_reducible refine Val.u32 (by omega) (by omega) ?_ | with_reducible refine Val.u64 (by omega) (by omega) ?_ | with_reducible refine Val.u8m ?_ | with_reducible refine Val.u32m ?_ | with_reducible refine Val.u64m ?_ | with_reducible refine Val.shr8 ?_ | with_reducible refine Val.shr16 (by decide) ?_ | with_reducible refine Val.shr24 (by decide) ?_ | with_reducible refine Val.raw ?_ | refine Branch.not ?_ | refine Branch.and ?_ | refine Branch.or ?_ | refine Branch.dt (by assumption) ?_ | refine Branch.df (by assumption) ?_ | refine Branch.dt rfl ?_ | refine Branch.dt (by omega) ?_ | refine Branch.df (by omega) ?_ | refine Branch.t rfl ?_ | refine Branch.f rfl ?_ | refine Branch.t (by assumption) ?_ | refine Branch.f (by assumption) ?_ | refine Branch.d (fun _ => ?_) (fun _ => ?_) | refine Branch.mk (fun _ => ?_) (fun _ => ?_) | refine Need.mk (by first | omega | decide | rfl) ?_ | refine Idx.nat (by omega) ?_ | refine Idx.auto (by first | omega | decide) (by first | omega | decide) ?_ | refine Cell.ro rfl ?_ | refine SDraw.all (by kernel_rfl) ?_ | refine Kept.k0 ?_ | refine Kept.k1 ?_ | refine Kept.k2 ?_ | refine Kept.k3 ?_ | refine Kept.k4 ?_))
  · rw [if_neg ha] at hK
    repeat' ((conv => whnf); (first | refine SLoop.round ?_ | refine Branch.t (by first | (simp [ha]; done) | rfl) ?_ | exact Keep.all hK | refine New.mk (fun _ => ?_) | refine Look.at0 ?_ | refine Cell.row ?_ | refine Cell.buf ?_ | refine Cells.row rfl ?_ | refine Put.row rfl ?_ | refine Put.buf rfl ?_ | refine Look.at1 ?_ | refine Look.at2 ?_ | refine Look.at3 ?_ | refine Look.at4 ?_ | refine Look.at5 ?_ | refine Look.at6 ?_ | refine Look.at7 ?_ | refine Look.at8 ?_ | with_reducible refine Val.i64 (by omega) (by omega) ?_ | with_reducible refine Val.u8 (by omega) (by omega) ?_ | with_reducible refine Val.u32 (by omega) (by omega) ?_ | with_reducible refine Val.u64 (by omega) (by omega) ?_ | with_reducible refine Val.u8m ?_ | with_reducible refine Val.u32m ?_ | with_reducible refine Val.u64m ?_ | with_reducible refine Val.shr8 ?_ | with_reducible refine Val.shr16 (by decide) ?_ | with_reducible refine Val.shr24 (by decide) ?_ | with_reducible refine Val.raw ?_ | refine Branch.not ?_ | refine Branch.and ?_ | refine Branch.or ?_ | refine Branch.dt (by assumption) ?_ | refine Branch.df (by assumption) ?_ | refine Branch.dt rfl ?_ | refine Branch.dt (by omega) ?_ | refine Branch.df (by omega) ?_ | refine Branch.t rfl ?_ | refine Branch.f rfl ?_ | refine Branch.t (by assumption) ?_ | refine Branch.f (by assumption) ?_ | refine Branch.d (fun _ => ?_) (fun _ => ?_) | refine Branch.mk (fun _ => ?_) (fun _ => ?_) | refine Need.mk (by first | omega | decide | rfl) ?_ | refine Idx.nat (by omega) ?_ | refine Idx.auto (by first | omega | decide) (by first | omega | decide) ?_ | refine Cell.ro rfl ?_ | refine SDraw.all (by kernel_rfl) ?_ | refine Kept.k0 ?_ | refine Kept.k1 ?_ | refine Kept.k2 ?_ | refine Kept.k3 ?_ | refine Kept.k4 ?_))
theorem c72 {x : Int × Int} {n p : Nat} {t : TypeId} {fz : Nat × Nat} (hb : (p, .row t [.int .i64 (n : Int)] fz) ∈ H) (hK : K (.bool (xBad n x)) H) : SCalls Tryz.prog 72 [.agg ⟨xC x⟩, ptr p] H K := by
  obtain ⟨a, b⟩ := x
  unfold xBad at hK
  dsimp only [xC] at hK ⊢
  refine enter72 ?_
  have hm : ∀ q : Nat × Blk, (p, Blk.row t [.int .i64 (n : Int)] fz) ∈ q :: H := fun q => .tail _ hb
  have hc0 : (Blk.row t [.int .i64 (n : Int)] fz).cell 0 = some (.int .i64 (n : Int)) := rfl
  by_cases h1 : a < 0
  · rw [decide_eq_true h1, Bool.true_or, Bool.true_or] at hK
    repeat' ((conv => whnf); (first | refine Branch.dt h1 ?_ | refine Branch.t rfl ?_ | exact Keep.d1 hK | refine New.mk (fun _ => ?_) | refine Look.at0 ?_ | refine Cell.row ?_ | refine Cell.buf ?_ | refine Cells.row rfl ?_ | refine Put.row rfl ?_ | refine Put.buf rfl ?_ | refine Look.at1 ?_ | refine Look.at2 ?_ | refine Look.at3 ?_ | refine Look.at4 ?_ | refine Look.at5 ?_ | refine Look.at6 ?_ | refine Look.at7 ?_ | refine Look.at8 ?_ | with_reducible refine Val.i64 (by omega) (by omega) ?_ | with_reducible refine Val.u8 (by omega) (by omega) ?_ | with_reducible refine Val.u32 (by omega) (by omega) ?_ | with_reducible refine Val.u64 (by omega) (by omega) ?_ | with_reducible refine Val.u8m ?_ | with_reducible refine Val.u32m ?_ | with_reducible refine Val.u64m ?_ | with_reducible refine Val.shr8 ?_ | with_reducible refine Val.shr16 (by decide) ?_ | with_reducible refine Val.shr24 (by decide) ?_ | with_reducible refine Val.raw ?_ | refine Branch.not ?_ | refine Branch.and ?_ | refine Branch.or ?_ | refine Branch.dt (by assumption) ?_ | refine Branch.df (by assumption) ?_ | refine Branch.dt rfl ?_ | refine Branch.dt (by omega) ?_ | refine Branch.df (by omega) ?_ | refine Branch.t rfl ?_ | refine Branch.f rfl ?_ | refine Branch.t (by assumption) ?_ | refine Branch.f (by assumption) ?_ | refine Branch.d (fun _ => ?_) (fun _ => ?_) | refine Branch.mk (fun _ => ?_) (fun _ => ?_) | refine Need.mk (by first | omega | decide | rfl) ?_ | refine Idx.nat (by omega) ?_ | refine Idx.auto (by first | omega | decide) (by first | omega | decide) ?_ | refine Cell.ro rfl ?_ | refine SDraw.all (by kernel_rfl) ?_ | refine Kept.k0 ?_ | refine Kept.k1 ?_ | refine Kept.k2 ?_ | refine Kept.k3 ?_ | refine Kept.k4 ?_))
  · rw [decide_eq_false h1, Bool.false_or] at hK
    by_cases h2 : (n : Int) ≤ a
    · rw [decide_eq_true h2, Bool.true_or] at hK
      repeat' ((conv => whnf); (first | refine Branch.df h1 ?_ | refine Look.cell (hm _) hc0 ?_ | refine Branch.dt h2 ?_ | refine Branch.t rfl ?_ | exact Keep.d1 hK | refine New.mk (fun _ => ?_) | refine Look.at0 ?_ | refine Cell.row ?_ | refine Cell.buf ?_ | refine Cells.row rfl ?_ | refine Put.row rfl ?_ | refine Put.buf rfl ?_ | refine Look.at1 ?_ | refine Look.at2 ?_ | refine Look.at3 ?_ | refine Look.at4 ?_ | refine Look.at5 ?_ | refine Look.at6 ?_ | refine Look.at7 ?_ | refine Look.at8 ?_ | with_reducible refine Val.i64 (by omega) (by omega) ?_ | with_reducible refine Val.u8 (by omega) (by omega) ?_ | with_reducible refine Val.u32 (by omega) (by omega) ?_ | with_reducible refine Val.u64 (by omega) (by omega) ?_ | with_reducible refine Val.u8m ?_ | with_reducible refine Val.u32m ?_ | with_reducible refine Val.u64m ?_ | with_reducible refine Val.shr8 ?_ | with_reducible refine Val.shr16 (by decide) ?_ | with_reducible refine Val.shr24 (by decide) ?_ | with_reducible refine Val.raw ?_ | refine Branch.not ?_ | refine Branch.and ?_ | refine Branch.or ?_ | refine Branch.dt (by assumption) ?_ | refine Branch.df (by assumption) ?_ | refine Branch.dt rfl ?_ | refine Branch.dt (by omega) ?_ | refine Branch.df (by omega) ?_ | refine Branch.t rfl ?_ | refine Branch.f rfl ?_ | refine Branch.t (by assumption) ?_ | refine Branch.f (by assumption) ?_ | refine Branch.d (fun _ => ?_) (fun _ => ?_) | refine Branch.mk (fun _ => ?_) (fun _ => ?_) | refine Need.mk (by first | omega | decide | rfl) ?_ | refine Idx.nat (by omega) ?_ | refine Idx.auto (by first | omega | decide) (by first | omega | decide) ?_ | refine Cell.ro rfl ?_ | refine SDraw.all (by kernel_rfl) ?_ | refine Kept.k0 ?_ | refine Kept.k1 ?_ | refine Kept.k2 ?_ | refine Kept.k3 ?_ | refine Kept.k4 ?_))
    · rw [decide_eq_false h2, Bool.false_or] at hK
      repeat' ((conv => whnf); (first | refine Branch.df h1 ?_ | refine Look.cell (hm _) hc0 ?_ | refine Branch.df h2 ?_ | exact Keep.d1 hK | refine New.mk (fun _ => ?_) | refine Look.at0 ?_ | refine Cell.row ?_ | refine Cell.buf ?_ | refine Cells.row rfl ?_ | refine Put.row rfl ?_ | refine Put.buf rfl ?_ | refine Look.at1 ?_ | refine Look.at2 ?_ | refine Look.at3 ?_ | refine Look.at4 ?_ | refine Look.at5 ?_ | refine Look.at6 ?_ | refine Look.at7 ?_ | refine Look.at8 ?_ | with_reducible refine Val.i64 (by omega) (by omega) ?_ | with_reducible refine Val.u8 (by omega) (by omega) ?_ | with_reducible refine Val.u32 (by omega) (by omega) ?_ | with_reducible refine Val.u64 (by omega) (by omega) ?_ | with_reducible refine Val.u8m ?_ | with_reducible refine Val.u32m ?_ | with_reducible refine Val.u64m ?_ | with_reducible refine Val.shr8 ?_ | with_reducible refine Val.shr16 (by decide) ?_ | with_reducible refine Val.shr24 (by decide) ?_ | with_reducible refine Val.raw ?_ | refine Branch.not ?_ | refine Branch.and ?_ | refine Branch.or ?_ | refine Branch.dt (by assumption) ?_ | refine Branch.df (by assumption) ?_ | refine Branch.dt rfl ?_ | refine Branch.dt (by omega) ?_ | refine Branch.df (by omega) ?_ | refine Branch.t rfl ?_ | refine Branch.f rfl ?_ | refine Branch.t (by assumption) ?_ | refine Branch.f (by assumption) ?_ | refine Branch.d (fun _ => ?_) (fun _ => ?_) | refine Branch.mk (fun _ => ?_) (fun _ => ?_) | refine Need.mk (by first | omega | decide | rfl) ?_ | refine Idx.nat (by omega) ?_ | refine Idx.auto (by first | omega | decide) (by first | omega | decide) ?_ | refine Cell.ro rfl ?_ | refine SDraw.all (by kernel_rfl) ?_ | refine Kept.k0 ?_ | refine Kept.k1 ?_ | refine Kept.k2 ?_ | refine Kept.k3 ?_ | refine Kept.k4 ?_))
theorem c83 {L : List (Int × Int)} {sv : Value} {fid : Nat} {cs : List Value} (pr : Int × Int → Bool) (hin : InS xC 2 sv H L) (hp : ∀ (j : Nat) (x : Int × Int), L[j]? = some x → ∀ K : Value → Heap → Prop, K (.bool (pr x)) H → SCalls Tryz.prog fid (.agg ⟨xC x⟩ :: cs) H K)
    (h0 : (∀ x ∈ L, pr x = false) → K (.int .i64 (-1)) H) (h1 : ∀ (j : Nat) (x : Int × Int), L[j]? = some x → pr x = true → (∀ i y, i < j → L[i]? = some y → pr y = false) → K (.int .i64 (j : Int)) H) : SCalls Tryz.prog 83 [sv, .func (.func fid) ⟨[]⟩ ⟨cs⟩] H K := by
  obtain ⟨sa, sc, rfl, hml⟩ := hin.sv
  simp only [maxLen] at hml
  refine enter83 ?_
  repeat' ((conv => whnf); (first | refine New.mk (fun _ => ?_) | refine Look.at0 ?_ | refine Cell.row ?_ | refine Cell.buf ?_ | refine Cells.row rfl ?_ | refine Put.row rfl ?_ | refine Put.buf rfl ?_ | refine Look.at1 ?_ | refine Look.at2 ?_ | refine Look.at3 ?_ | refine Look.at4 ?_ | refine Look.at5 ?_ | refine Look.at6 ?_ | refine Look.at7 ?_ | refine Look.at8 ?_ | with_reducible refine Val.i64 (by omega) (by omega) ?_ | with_reducible refine Val.u8 (by omega) (by omega) ?_ | with_reducible refine Val.u32 (by omega) (by omega) ?_ | with_reducible refine Val.u64 (by omega) (by omega) ?_ | with_reducible refine Val.u8m ?_ | with_reducible refine Val.u32m ?_ | with_reducible refine Val.u64m ?_ | with_reducible refine Val.shr8 ?_ | with_reducible refine Val.shr16 (by decide) ?_ | with_reducible refine Val.shr24 (by decide) ?_ | with_reducible refine Val.raw ?_ | refine Branch.not ?_ | refine Branch.and ?_ | refine Branch.or ?_ | refine Branch.dt (by assumption) ?_ | refine Branch.df (by assumption) ?_ | refine Branch.dt rfl ?_ | refine Branch.dt (by omega) ?_ | refine Branch.df (by omega) ?_ | refine Branch.t rfl ?_ | refine Branch.f rfl ?_ | refine Branch.t (by assumption) ?_ | refine Branch.f (by assumption) ?_ | refine Branch.d (fun _ => ?_) (fun _ => ?_) | refine Branch.mk (fun _ => ?_) (fun _ => ?_) | refine Need.mk (by first | omega | decide | rfl) ?_ | refine Idx.nat (by omega) ?_ | refine Idx.auto (by first | omega | decide) (by first | omega | decide) ?_ | refine Cell.ro rfl ?_ | refine SDraw.all (by kernel_rfl) ?_ | refine Kept.k0 ?_ | refine Kept.k1 ?_ | refine Kept.k2 ?_ | refine Kept.k3 ?_ | refine Kept.k4 ?_))
  refine SLoop.invA (fun (k : Nat) S H' => k ≤ L.length ∧ (∀ i y, i < k → L[i]? = some y → pr y = false) ∧ S83 (.slice sa L.length sc) (.func (.func fid) ⟨[]⟩ ⟨cs⟩) (.slice sa L.length sc) (.int .i64 (L.length : Int)) (.int .i64 (k : Int)) S ∧ H' = H) (fun k => L.length - k) 0 (Keep.all ⟨Nat.zero_le _, fun i y hi => absurd hi (Nat.not_lt_zero _), .mk, rfl⟩) ?_
  rintro k S H' ⟨hk, hno, hS, rfl⟩ R hR
  cases hS
  by_cases hlt : k < L.length
  · obtain ⟨x, hx, _⟩ := list_at hlt
    obtain ⟨r, o, c, b, e1, hrb, hcc⟩ := inS_at hin xC_len hx
    injection e1 with e1 _ e3
    subst e1
    have hpx := hp k x hx
    cases hpr : pr x with
    | true =>
      have hk1 := h1 k x hx hpr hno
      rw [hpr] at hpx
      clear hR
      repeat' ((conv => whnf); (first | refine Look.cells hrb rfl hcc ?_ | refine hpx _ ?_ | refine Branch.t rfl ?_ | exact Keep.all hk1 | refine New.mk (fun _ => ?_) | refine Look.at0 ?_ | refine Cell.row ?_ | refine Cell.buf ?_ | refine Cells.row rfl ?_ | refine Put.row rfl ?_ | refine Put.buf rfl ?_ | refine Look.at1 ?_ | refine Look.at2 ?_ | refine Look.at3 ?_ | refine Look.at4 ?_ | refine Look.at5 ?_ | refine Look.at6 ?_ | refine Look.at7 ?_ | refine Look.at8 ?_ | with_reducible refine Val.i64 (by omega) (by omega) ?_ | with_reducible refine Val.u8 (by omega) (by omega) ?_ | with_reducible refine Val.u32 (by omega) (by omega) ?_ | with_reducible refine Val.u64 (by omega) (by omega) ?_ | with_reducible refine Val.u8m ?_ | with_reducible refine Val.u32m ?_ | with_reducible refine Val.u64m ?_ | with_reducible refine Val.shr8 ?_ | with_reducible refine Val.shr16 (by decide) ?_ | with_reducible refine Val.shr24 (by decide) ?_ | with_reducible refine Val.raw ?_ | refine Branch.not ?_ | refine Branch.and ?_ | refine Branch.or ?_ | refine Branch.dt (by assumption) ?_ | refine Branch.df (by assumption) ?_ | refine Branch.dt rfl ?_ | refine Branch.dt (by omega) ?_ | refine Branch.df (by omega) ?_ | refine Branch.t rfl ?_ | refine Branch.f rfl ?_ | refine Branch.t (by assumption) ?_ | refine Branch.f (by assumption) ?_ | refine Branch.d (fun _ => ?_) (fun _ => ?_) | refine Branch.mk (fun _ => ?_) (fun _ => ?_) | refine Need.mk (by first | omega | decide | rfl) ?_ | refine Idx.nat (by omega) ?_ | refine Idx.auto (by first | omega | decide) (by first | omega | decide) ?_ | refine Cell.ro rfl ?_ | refine SDraw.all (by kernel_rfl) ?_ | refine Kept.k0 ?_ | refine Kept.k1 ?_ | refine Kept.k2 ?_ | refine Kept.k3 ?_ | refine Kept.k4 ?_))
    | false =>
      have hnext := fun S hS => hR (k + 1) S H' (by omega) (Keep.all ⟨hlt, fun i y hi hy => by
        rcases Nat.lt_or_ge i k with h | h
        · exact hno i y h hy
        · obtain rfl : i = k := by omega
          rw [hx] at hy
          injection hy with hy
          subst hy
          exact hpr, hS, rfl⟩)
      rw [hpr] at hpx
      clear hR
      repeat' ((conv => whnf); (first | refine Look.cells hrb rfl hcc ?_ | refine hpx _ ?_ | refine Branch.f rfl ?_ | exact hnext _ .mk | refine New.mk (fun _ => ?_) | refine Look.at0 ?_ | refine Cell.row ?_ | refine Cell.buf ?_ | refine Cells.row rfl ?_ | refine Put.row rfl ?_ | refine Put.buf rfl ?_ | refine Look.at1 ?_ | refine Look.at2 ?_ | refine Look.at3 ?_ | refine Look.at4 ?_ | refine Look.at5 ?_ | refine Look.at6 ?_ | refine Look.at7 ?_ | refine Look.at8 ?_ | with_reducible refine Val.i64 (by omega) (by omega) ?_ | with_reducible refine Val.u8 (by omega) (by omega) ?_ | with_reducible refine Val.u32 (by omega) (by omega) ?_ | with_reducible refine Val.u64 (by omega) (by omega) ?_ | with_reducible refine Val.u8m ?_ | with_reducible refine Val.u32m ?_ | with_reducible refine Val.u64m ?_ | with_reducible refine Val.shr8 ?_ | with_reducible refine Val.shr16 (by decide) ?_ | with_reducible refine Val.shr24 (by decide) ?_ | with_reducible refine Val.raw ?_ | refine Branch.not ?_ | refine Branch.and ?_ | refine Branch.or ?_ | refine Branch.dt (by assumption) ?_ | refine Branch.df (by assumption) ?_ | refine Branch.dt rfl ?_ | refine Branch.dt (by omega) ?_ | refine Branch.df (by omega) ?_ | refine Branch.t rfl ?_ | refine Branch.f rfl ?_ | refine Branch.t (by assumption) ?_ | refine Branch.f (by assumption) ?_ | refine Branch.d (fun _ => ?_) (fun _ => ?_) | refine Branch.mk (fun _ => ?_) (fun _ => ?_) | refine Need.mk (by first | omega | decide | rfl) ?_ | refine Idx.nat (by omega) ?_ | refine Idx.auto (by first | omega | decide) (by first | omega | decide) ?_ | refine Cell.ro rfl ?_ | refine SDraw.all (by kernel_rfl) ?_ | refine Kept.k0 ?_ | refine Kept.k1 ?_ | refine Kept.k2 ?_ | refine Kept.k3 ?_ | refine Kept.k4 ?_))
  · have hk0 := h0 fun x hx => by
      obtain ⟨i, hi, rfl⟩ := List.getElem_of_mem hx
      exact hno i _ (by omega) (List.getElem?_eq_getElem hi)
    clear hR
    repeat' ((conv => whnf); (first | refine Branch.df (by omega) ?_ | exact Keep.all hk0 | refine New.mk (fun _ => ?_) | refine Look.at0 ?_ | refine Cell.row ?_ | refine Cell.buf ?_ | refine Cells.row rfl ?_ | refine Put.row rfl ?_ | refine Put.buf rfl ?_ | refine Look.at1 ?_ | refine Look.at2 ?_ | refine Look.at3 ?_ | refine Look.at4 ?_ | refine Look.at5 ?_ | refine Look.at6 ?_ | refine Look.at7 ?_ | refine Look.at8 ?_ | with_reducible refine Val.i64 (by omega) (by omega) ?_ | with_reducible refine Val.u8 (by omega) (by omega) ?_ | with_reducible refine Val.u32 (by omega) (by omega) ?_ | with_reducible refine Val.u64 (by omega) (by omega) ?_ | with_reducible refine Val.u8m ?_ | with_reducible refine Val.u32m ?_ | with_reducible refine Val.u64m ?_ | with_reducible refine Val.shr8 ?_ | with_reducible refine Val.shr16 (by decide) ?_ | with_reducible refine Val.shr24 (by decide) ?_ | with_reducible refine Val.raw ?_ | refine Branch.not ?_ | refine Branch.and ?_ | refine Branch.or ?_ | refine Branch.dt (by assumption) ?_ | refine Branch.df (by assumption) ?_ | refine Branch.dt rfl ?_ | refine Branch.dt (by omega) ?_ | refine Branch.df (by omega) ?_ | refine Branch.t rfl ?_ | refine Branch.f rfl ?_ | refine Branch.t (by assumption) ?_ | refine Branch.f (by assumption) ?_ | refine Branch.d (fun _ => ?_) (fun _ => ?_) | refine Branch.mk (fun _ => ?_) (fun _ => ?_) | refine Need.mk (by first | omega | decide | rfl) ?_ | refine Idx.nat (by omega) ?_ | refine Idx.auto (by first | omega | decide) (by first | omega | decide) ?_ | refine Cell.ro rfl ?_ | refine SDraw.all (by kernel_rfl) ?_ | refine Kept.k0 ?_ | refine Kept.k1 ?_ | refine Kept.k2 ?_ | refine Kept.k3 ?_ | refine Kept.k4 ?_))
theorem c71 {L : List (Int × Int)} {sv : Value} {n p : Nat} {t : TypeId} {fz : Nat × Nat} (hin : InS xC 2 sv H L) (hb : (p, .row t [.int .i64 (n : Int)] fz) ∈ H) (hK : K (.bool (L.any (xBad n))) H) : SCalls Tryz.prog 71 [sv, .func (.func 72) ⟨[]⟩ ⟨[ptr p]⟩] H K := by
  obtain ⟨sa, sc, rfl, hml⟩ := hin.sv
  have h50 := fun (K : Value → Heap → Prop) h0 h1 => c83 (K := K) (fid := 72) (cs := [ptr p]) (xBad n) hin (fun j x hx K hk => c72 hb hk) h0 h1
  refine enter71 ?_
  repeat' ((conv => whnf); (first | refine h50 _ (fun h0 => ?_) (fun j x hx hp hno => ?_) | refine New.mk (fun _ => ?_) | refine Look.at0 ?_ | refine Cell.row ?_ | refine Cell.buf ?_ | refine Cells.row rfl ?_ | refine Put.row rfl ?_ | refine Put.buf rfl ?_ | refine Look.at1 ?_ | refine Look.at2 ?_ | refine Look.at3 ?_ | refine Look.at4 ?_ | refine Look.at5 ?_ | refine Look.at6 ?_ | refine Look.at7 ?_ | refine Look.at8 ?_ | with_reducible refine Val.i64 (by omega) (by omega) ?_ | with_reducible refine Val.u8 (by omega) (by omega) ?_ | with_reducible refine Val.u32 (by omega) (by omega) ?_ | with_reducible refine Val.u64 (by omega) (by omega) ?_ | with_reducible refine Val.u8m ?_ | with_reducible refine Val.u32m ?_ | with_reducible refine Val.u64m ?_ | with_reducible refine Val.shr8 ?_ | with_reducible refine Val.shr16 (by decide) ?_ | with_reducible refine Val.shr24 (by decide) ?_ | with_reducible refine Val.raw ?_ | refine Branch.not ?_ | refine Branch.and ?_ | refine Branch.or ?_ | refine Branch.dt (by assumption) ?_ | refine Branch.df (by assumption) ?_ | refine Branch.dt rfl ?_ | refine Branch.dt (by omega) ?_ | refine Branch.df (by omega) ?_ | refine Branch.t rfl ?_ | refine Branch.f rfl ?_ | refine Branch.t (by assumption) ?_ | refine Branch.f (by assumption) ?_ | refine Branch.d (fun _ => ?_) (fun _ => ?_) | refine Branch.mk (fun _ => ?_) (fun _ => ?_) | refine Need.mk (by first | omega | decide | rfl) ?_ | refine Idx.nat (by omega) ?_ | refine Idx.auto (by first | omega | decide) (by first | omega | decide) ?_ | refine Cell.ro rfl ?_ | refine SDraw.all (by kernel_rfl) ?_ | refine Kept.k0 ?_ | refine Kept.k1 ?_ | refine Kept.k2 ?_ | refine Kept.k3 ?_ | refine Kept.k4 ?_))
  · have e : (L.any (xBad n)) = false := List.any_eq_false.2 fun x hx => by rw [h0 x hx]; decide
    rw [e] at hK
    repeat' ((conv => whnf); (first | exact Keep.all hK | refine New.mk (fun _ => ?_) | refine Look.at0 ?_ | refine Cell.row ?_ | refine Cell.buf ?_ | refine Cells.row rfl ?_ | refine Put.row rfl ?_ | refine Put.buf rfl ?_ | refine Look.at1 ?_ | refine Look.at2 ?_ | refine Look.at3 ?_ | refine Look.at4 ?_ | refine Look.at5 ?_ | refine Look.at6 ?_ | refine Look.at7 ?_ | refine Look.at8 ?_ | with_reducible refine Val.i64 (by omega) (by omega) ?_ | with_reducible refine Val.u8 (by omega) (by omega) ?_ | with_reducible refine Val.u32 (by omega) (by omega) ?_ | with_reducible refine Val.u64 (by omega) (by omega) ?_ | with_reducible refine Val.u8m ?_ | with_reducible refine Val.u32m ?_ | with_reducible refine Val.u64m ?_ | with_reducible refine Val.shr8 ?_ | with_reducible refine Val.shr16 (by decide) ?_ | with_reducible refine Val.shr24 (by decide) ?_ | with_reducible refine Val.raw ?_ | refine Branch.not ?_ | refine Branch.and ?_ | refine Branch.or ?_ | refine Branch.dt (by assumption) ?_ | refine Branch.df (by assumption) ?_ | refine Branch.dt rfl ?_ | refine Branch.dt (by omega) ?_ | refine Branch.df (by omega) ?_ | refine Branch.t rfl ?_ | refine Branch.f rfl ?_ | refine Branch.t (by assumption) ?_ | refine Branch.f (by assumption) ?_ | refine Branch.d (fun _ => ?_) (fun _ => ?_) | refine Branch.mk (fun _ => ?_) (fun _ => ?_) | refine Need.mk (by first | omega | decide | rfl) ?_ | refine Idx.nat (by omega) ?_ | refine Idx.auto (by first | omega | decide) (by first | omega | decide) ?_ | refine Cell.ro rfl ?_ | refine SDraw.all (by kernel_rfl) ?_ | refine Kept.k0 ?_ | refine Kept.k1 ?_ | refine Kept.k2 ?_ | refine Kept.k3 ?_ | refine Kept.k4 ?_))
  · have e : (L.any (xBad n)) = true := List.any_eq_true.2 ⟨x, List.mem_of_getElem? hx, hp⟩
    have e2 : decide ((0 : Int) ≤ (j : Int)) = true := decide_eq_true (by omega)
    rw [e, ← e2] at hK
    repeat' ((conv => whnf); (first | exact Keep.all hK | refine New.mk (fun _ => ?_) | refine Look.at0 ?_ | refine Cell.row ?_ | refine Cell.buf ?_ | refine Cells.row rfl ?_ | refine Put.row rfl ?_ | refine Put.buf rfl ?_ | refine Look.at1 ?_ | refine Look.at2 ?_ | refine Look.at3 ?_ | refine Look.at4 ?_ | refine Look.at5 ?_ | refine Look.at6 ?_ | refine Look.at7 ?_ | refine Look.at8 ?_ | with_reducible refine Val.i64 (by omega) (by omega) ?_ | with_reducible refine Val.u8 (by omega) (by omega) ?_ | with_reducible refine Val.u32 (by omega) (by omega) ?_ | with_reducible refine Val.u64 (by omega) (by omega) ?_ | with_reducible refine Val.u8m ?_ | with_reducible refine Val.u32m ?_ | with_reducible refine Val.u64m ?_ | with_reducible refine Val.shr8 ?_ | with_reducible refine Val.shr16 (by decide) ?_ | with_reducible refine Val.shr24 (by decide) ?_ | with_reducible refine Val.raw ?_ | refine Branch.not ?_ | refine Branch.and ?_ | refine Branch.or ?_ | refine Branch.dt (by assumption) ?_ | refine Branch.df (by assumption) ?_ | refine Branch.dt rfl ?_ | refine Branch.dt (by omega) ?_ | refine Branch.df (by omega) ?_ | refine Branch.t rfl ?_ | refine Branch.f rfl ?_ | refine Branch.t (by assumption) ?_ | refine Branch.f (by assumption) ?_ | refine Branch.d (fun _ => ?_) (fun _ => ?_) | refine Branch.mk (fun _ => ?_) (fun _ => ?_) | refine Need.mk (by first | omega | decide | rfl) ?_ | refine Idx.nat (by omega) ?_ | refine Idx.auto (by first | omega | decide) (by first | omega | decide) ?_ | refine Cell.ro rfl ?_ | refine SDraw.all (by kernel_rfl) ?_ | refine Kept.k0 ?_ | refine Kept.k1 ?_ | refine Kept.k2 ?_ | refine Kept.k3 ?_ | refine Kept.k4 ?_))
theorem c47 {L : List (Int × Int)} {sv : Value} {n : Nat} (hin : InS xC 2 sv H L) (hK : K (.int .i64 (chkX n L)) H) : SCalls Tryz.prog 47 [.int .i64 (n : Int), sv] H K := by
  obtain ⟨sa, sc, rfl, hml⟩ := hin.sv
  have h94 := fun p (K2 : Value → Heap → Prop) (hk : K2 (.bool (L.any (xBad n))) ((p, .row 3 [.int .i64 (n : Int)] (0, 0)) :: H)) => c71 (K := K2) (n := n) (hin.mono fun z hz => .tail _ hz) (.head _) hk
  unfold chkX at hK
  refine enter47 ?_
  by_cases h1 : 127 < n
  · rw [if_pos (.inl h1)] at hK
    repeat' ((conv => whnf); (first | refine Branch.dt (by omega) ?_ | exact Keep.d1 hK | refine New.mk (fun _ => ?_) | refine Look.at0 ?_ | refine Cell.row ?_ | refine Cell.buf ?_ | refine Cells.row rfl ?_ | refine Put.row rfl ?_ | refine Put.buf rfl ?_ | refine Look.at1 ?_ | refine Look.at2 ?_ | refine Look.at3 ?_ | refine Look.at4 ?_ | refine Look.at5 ?_ | refine Look.at6 ?_ | refine Look.at7 ?_ | refine Look.at8 ?_ | with_reducible refine Val.i64 (by omega) (by omega) ?_ | with_reducible refine Val.u8 (by omega) (by omega) ?_ | with_reducible refine Val.u32 (by omega) (by omega) ?_ | with_reducible refine Val.u64 (by omega) (by omega) ?_ | with_reducible refine Val.u8m ?_ | with_reducible refine Val.u32m ?_ | with_reducible refine Val.u64m ?_ | with_reducible refine Val.shr8 ?_ | with_reducible refine Val.shr16 (by decide) ?_ | with_reducible refine Val.shr24 (by decide) ?_ | with_reducible refine Val.raw ?_ | refine Branch.not ?_ | refine Branch.and ?_ | refine Branch.or ?_ | refine Branch.dt (by assumption) ?_ | refine Branch.df (by assumption) ?_ | refine Branch.dt rfl ?_ | refine Branch.dt (by omega) ?_ | refine Branch.df (by omega) ?_ | refine Branch.t rfl ?_ | refine Branch.f rfl ?_ | refine Branch.t (by assumption) ?_ | refine Branch.f (by assumption) ?_ | refine Branch.d (fun _ => ?_) (fun _ => ?_) | refine Branch.mk (fun _ => ?_) (fun _ => ?_) | refine Need.mk (by first | omega | decide | rfl) ?_ | refine Idx.nat (by omega) ?_ | refine Idx.auto (by first | omega | decide) (by first | omega | decide) ?_ | refine Cell.ro rfl ?_ | refine SDraw.all (by kernel_rfl) ?_ | refine Kept.k0 ?_ | refine Kept.k1 ?_ | refine Kept.k2 ?_ | refine Kept.k3 ?_ | refine Kept.k4 ?_))
  · by_cases h2 : 65536 < L.length
    · rw [if_pos (.inr h2)] at hK
      repeat' ((conv => whnf); (first | refine Branch.df (show ¬ (127 : Int) < (n : Int) by omega) ?_ | refine Branch.dt (by omega) ?_ | exact Keep.d1 hK | refine New.mk (fun _ => ?_) | refine Look.at0 ?_ | refine Cell.row ?_ | refine Cell.buf ?_ | refine Cells.row rfl ?_ | refine Put.row rfl ?_ | refine Put.buf rfl ?_ | refine Look.at1 ?_ | refine Look.at2 ?_ | refine Look.at3 ?_ | refine Look.at4 ?_ | refine Look.at5 ?_ | refine Look.at6 ?_ | refine Look.at7 ?_ | refine Look.at8 ?_ | with_reducible refine Val.i64 (by omega) (by omega) ?_ | with_reducible refine Val.u8 (by omega) (by omega) ?_ | with_reducible refine Val.u32 (by omega) (by omega) ?_ | with_reducible refine Val.u64 (by omega) (by omega) ?_ | with_reducible refine Val.u8m ?_ | with_reducible refine Val.u32m ?_ | with_reducible refine Val.u64m ?_ | with_reducible refine Val.shr8 ?_ | with_reducible refine Val.shr16 (by decide) ?_ | with_reducible refine Val.shr24 (by decide) ?_ | with_reducible refine Val.raw ?_ | refine Branch.not ?_ | refine Branch.and ?_ | refine Branch.or ?_ | refine Branch.dt (by assumption) ?_ | refine Branch.df (by assumption) ?_ | refine Branch.dt rfl ?_ | refine Branch.dt (by omega) ?_ | refine Branch.df (by omega) ?_ | refine Branch.t rfl ?_ | refine Branch.f rfl ?_ | refine Branch.t (by assumption) ?_ | refine Branch.f (by assumption) ?_ | refine Branch.d (fun _ => ?_) (fun _ => ?_) | refine Branch.mk (fun _ => ?_) (fun _ => ?_) | refine Need.mk (by first | omega | decide | rfl) ?_ | refine Idx.nat (by omega) ?_ | refine Idx.auto (by first | omega | decide) (by first | omega | decide) ?_ | refine Cell.ro rfl ?_ | refine SDraw.all (by kernel_rfl) ?_ | refine Kept.k0 ?_ | refine Kept.k1 ?_ | refine Kept.k2 ?_ | refine Kept.k3 ?_ | refine Kept.k4 ?_))
    · rw [if_neg (by omega)] at hK
      cases h3 : L.any (xBad n) with
      | true =>
        rw [h3, if_pos rfl] at hK
        rw [h3] at h94
        repeat' ((conv => whnf); (first | refine Branch.df (show ¬ (127 : Int) < (n : Int) by omega) ?_ | refine Branch.df (by omega) ?_ | refine h94 _ _ ?_ | refine Branch.t rfl ?_ | exact Keep.d1 hK | refine New.mk (fun _ => ?_) | refine Look.at0 ?_ | refine Cell.row ?_ | refine Cell.buf ?_ | refine Cells.row rfl ?_ | refine Put.row rfl ?_ | refine Put.buf rfl ?_ | refine Look.at1 ?_ | refine Look.at2 ?_ | refine Look.at3 ?_ | refine Look.at4 ?_ | refine Look.at5 ?_ | refine Look.at6 ?_ | refine Look.at7 ?_ | refine Look.at8 ?_ | with_reducible refine Val.i64 (by omega) (by omega) ?_ | with_reducible refine Val.u8 (by omega) (by omega) ?_ | with_reducible refine Val.u32 (by omega) (by omega) ?_ | with_reducible refine Val.u64 (by omega) (by omega) ?_ | with_reducible refine Val.u8m ?_ | with_reducible refine Val.u32m ?_ | with_reducible refine Val.u64m ?_ | with_reducible refine Val.shr8 ?_ | with_reducible refine Val.shr16 (by decide) ?_ | with_reducible refine Val.shr24 (by decide) ?_ | with_reducible refine Val.raw ?_ | refine Branch.not ?_ | refine Branch.and ?_ | refine Branch.or ?_ | refine Branch.dt (by assumption) ?_ | refine Branch.df (by assumption) ?_ | refine Branch.dt rfl ?_ | refine Branch.dt (by omega) ?_ | refine Branch.df (by omega) ?_ | refine Branch.t rfl ?_ | refine Branch.f rfl ?_ | refine Branch.t (by assumption) ?_ | refine Branch.f (by assumption) ?_ | refine Branch.d (fun _ => ?_) (fun _ => ?_) | refine Branch.mk (fun _ => ?_) (fun _ => ?_) | refine Need.mk (by first | omega | decide | rfl) ?_ | refine Idx.nat (by omega) ?_ | refine Idx.auto (by first | omega | decide) (by first | omega | decide) ?_ | refine Cell.ro rfl ?_ | refine SDraw.all (by kernel_rfl) ?_ | refine Kept.k0 ?_ | refine Kept.k1 ?_ | refine Kept.k2 ?_ | refine Kept.k3 ?_ | refine Kept.k4 ?_))
      | false =>
        rw [h3, if_neg (by decide)] at hK
        rw [h3] at h94
        repeat' ((conv => whnf); (first | refine Branch.df (show ¬ (127 : Int) < (n : Int) by omega) ?_ | refine Branch.df (by omega) ?_ | refine h94 _ _ ?_ | refine Branch.f rfl ?_ | exact Keep.d1 hK | refine New.mk (fun _ => ?_) | refine Look.at0 ?_ | refine Cell.row ?_ | refine Cell.buf ?_ | refine Cells.row rfl ?_ | refine Put.row rfl ?_ | refine Put.buf rfl ?_ | refine Look.at1 ?_ | refine Look.at2 ?_ | refine Look.at3 ?_ | refine Look.at4 ?_ | refine Look.at5 ?_ | refine Look.at6 ?_ | refine Look.at7 ?_ | refine Look.at8 ?_ | with_reducible refine Val.i64 (by omega) (by omega) ?_ | with_reducible refine Val.u8 (by omega) (by omega) ?_ | with_reducible refine Val.u32 (by omega) (by omega) ?_ | with_reducible refine Val.u64 (by omega) (by omega) ?_ | with_reducible refine Val.u8m ?_ | with_reducible refine Val.u32m ?_ | with_reducible refine Val.u64m ?_ | with_reducible refine Val.shr8 ?_ | with_reducible refine Val.shr16 (by decide) ?_ | with_reducible refine Val.shr24 (by decide) ?_ | with_reducible refine Val.raw ?_ | refine Branch.not ?_ | refine Branch.and ?_ | refine Branch.or ?_ | refine Branch.dt (by assumption) ?_ | refine Branch.df (by assumption) ?_ | refine Branch.dt rfl ?_ | refine Branch.dt (by omega) ?_ | refine Branch.df (by omega) ?_ | refine Branch.t rfl ?_ | refine Branch.f rfl ?_ | refine Branch.t (by assumption) ?_ | refine Branch.f (by assumption) ?_ | refine Branch.d (fun _ => ?_) (fun _ => ?_) | refine Branch.mk (fun _ => ?_) (fun _ => ?_) | refine Need.mk (by first | omega | decide | rfl) ?_ | refine Idx.nat (by omega) ?_ | refine Idx.auto (by first | omega | decide) (by first | omega | decide) ?_ | refine Cell.ro rfl ?_ | refine SDraw.all (by kernel_rfl) ?_ | refine Kept.k0 ?_ | refine Kept.k1 ?_ | refine Kept.k2 ?_ | refine Kept.k3 ?_ | refine Kept.k4 ?_))
theorem c48 {n : Nat} (hn : n ≤ 127) (hK : ∀ e g, K (.agg ⟨[zi (-1), zi 11, .bool false, .slice (some ⟨e, 0, none⟩) n n, .slice (some ⟨g, 0, none⟩) n n]⟩) (eB e (List.replicate n 0) n :: gB g (List.replicate n false) n :: H)) : SCalls Tryz.prog 48 [.int .i64 (n : Int)] H K := by
  have hk : ∀ e g q, Keep (gB g (List.replicate n false) n :: eB e (List.replicate n 0) n :: (q : Nat × Blk) :: H) fun H' => K (.agg ⟨[zi (-1), zi 11, .bool false, .slice (some ⟨e, 0, none⟩) n n, .slice (some ⟨g, 0, none⟩) n n]⟩) H' := fun e g q =>
    Keep.glue [[gB g (List.replicate n false) n], [eB e (List.replicate n 0) n], [q], H] [0, 1, 2, 3] [1, 0, 3] [2] (by decide) rfl (hK e g)
  have hk2 : ∀ e g q, Keep (eB e (List.replicate n 0) n :: gB g (List.replicate n false) n :: (q : Nat × Blk) :: H) fun H' => K (.agg ⟨[zi (-1), zi 11, .bool false, .slice (some ⟨e, 0, none⟩) n n, .slice (some ⟨g, 0, none⟩) n n]⟩) H' := fun e g q =>
    Keep.glue [[gB g (List.replicate n false) n], [eB e (List.replicate n 0) n], [q], H] [1, 0, 2, 3] [1, 0, 3] [2] (by decide) rfl (hK e g)
  have e1 : (List.replicate n (0 : Int)).map zi = List.replicate n (zi 0) := by simp
  have e2 : (List.replicate n false).map Value.bool = List.replicate n (Value.bool false) := by simp
  simp only [eB, gB, e1, e2] at hk hk2
  clear hK
  refine enter48 ?_
  repeat' ((conv => whnf); (first | refine SDraw.held (by kernel_rfl) [] .nil ?_ | refine Kept.sub (List.nil_sublist _) ?_ | refine And.intro ?_ ?_ | refine RawV.make1 (t := 40) (k := .i64) (e := 24) (bytes := 8) (zv := .int .i64 0) (n := n) rfl (by kernel_rfl) (by kernel_rfl) rfl (by omega) (by simp only [maxLen]; omega) (fun e => ?_) | refine RawV.make1 (t := 41) (k := .i64) (e := 4) (bytes := 1) (zv := .bool false) (n := n) rfl (by kernel_rfl) (by kernel_rfl) rfl (by omega) (by simp only [maxLen]; omega) (fun g => ?_) | exact hk _ _ _ | exact hk2 _ _ _ | refine New.mk (fun _ => ?_) | refine Look.at0 ?_ | refine Cell.row ?_ | refine Cell.buf ?_ | refine Cells.row rfl ?_ | refine Put.row rfl ?_ | refine Put.buf rfl ?_ | refine Look.at1 ?_ | refine Look.at2 ?_ | refine Look.at3 ?_ | refine Look.at4 ?_ | refine Look.at5 ?_ | refine Look.at6 ?_ | refine Look.at7 ?_ | refine Look.at8 ?_ | with_reducible refine Val.i64 (by omega) (by omega) ?_ | with_reducible refine Val.u8 (by omega) (by omega) ?_ | with_reducible refine Val.u32 (by omega) (by omega) ?_ | with_reducible refine Val.u64 (by omega) (by omega) ?_ | with_reducible refine Val.u8m ?_ | with_reducible refine Val.u32m ?_ | with_reducible refine Val.u64m ?_ | with_reducible refine Val.shr8 ?_ | with_reducible refine Val.shr16 (by decide) ?_ | with_reducible refine Val.shr24 (by decide) ?_ | with_reducible refine Val.raw ?_ | refine Branch.not ?_ | refine Branch.and ?_ | refine Branch.or ?_ | refine Branch.dt (by assumption) ?_ | refine Branch.df (by assumption) ?_ | refine Branch.dt rfl ?_ | refine Branch.dt (by omega) ?_ | refine Branch.df (by omega) ?_ | refine Branch.t rfl ?_ | refine Branch.f rfl ?_ | refine Branch.t (by assumption) ?_ | refine Branch.f (by assumption) ?_ | refine Branch.d (fun _ => ?_) (fun _ => ?_) | refine Branch.mk (fun _ => ?_) (fun _ => ?_) | refine Need.mk (by first | omega | decide | rfl) ?_ | refine Idx.nat (by omega) ?_ | refine Idx.auto (by first | omega | decide) (by first | omega | decide) ?_ | refine Cell.ro rfl ?_ | refine SDraw.all (by kernel_rfl) ?_ | refine Kept.k0 ?_ | refine Kept.k1 ?_ | refine Kept.k2 ?_ | refine Kept.k3 ?_ | refine Kept.k4 ?_))
end
end Go.Proofs.YtiaginlnapiijaaGreatDoor


/- Ported (port.py) from WrJ. -/
set_option linter.unusedVariables false
set_option linter.unusedSimpArgs false
set_option maxRecDepth 100000
set_option maxHeartbeats 4000000
namespace Go.Proofs.YtiaginlnapiijaaGreatDoor
open Sx
abbrev rB (r : Nat) (w bits : Int) (sent : Bool) (e g m : Nat) (lv : Value) (nn : Nat) : Nat × Blk := (r, .row 76 [zi w, zi bits, .bool sent, .slice (some ⟨e, 0, none⟩) m m, .slice (some ⟨g, 0, none⟩) m m, lv, zi (nn : Int)] (0, 0))
theorem cmp_lt (a b c d : Int) : ((if cmpZ a b = 0 then cmpZ c d else cmpZ a b) < 0) ↔ (a < b ∨ (a = b ∧ c < d)) := by
  unfold cmpZ
  split <;> split <;> (try split) <;> (try split) <;> omega
theorem upAt_of {l : List Sn} {i : Int} {s : Sn} (h0 : 0 ≤ i) (h : l[i.toNat]? = some s) : upAt l i = s.up := by
  unfold upAt
  rw [List.getD_eq_getElem?_getD, List.getElem?_map, h]; rfl
inductive S26 (A0 A4 A5 A6 A9 A10 A11 : Value) : List Value → Prop
  | mk {r1 r2 r3 r7 r8 r12 r13 r14 r15 r16 r17 r18 r19 r20 r21 r22 r23 r24 r25 r26 r27 r28 r29 r30 r31 r32 r33 r34 r35 r36 r37 r38 r39 r40 r41 r42 r43 r44 r45 r46 r47 r48 r49 r50 r51 r52 r53 r54 r55 r56 r57 r58 r59 r60 r61 r62 r63 r64 r65 r66 r67 r68 r69 r70 r71 r72 r73 r74 r75 r76 r77 : Value} : S26 A0 A4 A5 A6 A9 A10 A11 [A0, r1, r2, r3, A4, A5, A6, r7, r8, A9, A10, A11, r12, r13, r14, r15, r16, r17, r18, r19, r20, r21, r22, r23, r24, r25, r26, r27, r28, r29, r30, r31, r32, r33, r34, r35, r36, r37, r38, r39, r40, r41, r42, r43, r44, r45, r46, r47, r48, r49, r50, r51, r52, r53, r54, r55, r56, r57, r58, r59, r60, r61, r62, r63, r64, r65, r66, r67, r68, r69, r70, r71, r72, r73, r74, r75, r76, r77]
section
variable {K : Value → Heap → Prop} {H : Heap}
theorem c26 {l : List Sn} {fl : List (Int × Int)} {r w nn e g m : Nat} {bits : Int} {sent : Bool} {lv fv : Value} (hr : rB r (w : Int) bits sent e g m lv nn ∈ H) (hl : InS snC 14 lv H l) (hf : InS xC 2 fv H fl)
    (hok : ∀ x ∈ fl, 0 ≤ x.1 ∧ x.1 < (l.length : Int)) (hnn : nn ≤ 1000)
    (hK : K (.tuple ⟨[.agg ⟨[zi (frF l nn w fl).node, zi (frF l nn w fl).bit]⟩, .bool (frF l nn w fl).any, .bool (frF l nn w fl).late]⟩) H) : SCalls Tryz.prog 26 [ptr r, fv] H K := by
  obtain ⟨fa, fc, rfl, hml⟩ := hf.sv
  simp only [maxLen] at hml
  refine enter26 ?_
  repeat' ((conv => whnf); (first | refine New.mk (fun _ => ?_)))
  rename_i p
  refine SLoop.invA (fun (k : Nat) S H' => k ≤ fl.length ∧ S26 (ptr r) (ptr p) (.bool ((fl.take k).foldl (frS l nn w) ⟨false, 0, 0, false⟩).any) (.bool ((fl.take k).foldl (frS l nn w) ⟨false, 0, 0, false⟩).late) (.slice fa fl.length fc) (.int .i64 (fl.length : Int)) (.int .i64 (k : Int)) S ∧
    H' = (p, .row 78 [zi ((fl.take k).foldl (frS l nn w) ⟨false, 0, 0, false⟩).node, zi ((fl.take k).foldl (frS l nn w) ⟨false, 0, 0, false⟩).bit] (0, 0)) :: H) (fun k => fl.length - k) 0 (Keep.all ⟨Nat.zero_le _, .mk, rfl⟩) ?_
  rintro k S H' ⟨hk, hS, rfl⟩ R hR
  by_cases hlt : k < fl.length
  · obtain ⟨⟨a, b⟩, hx, _, htake⟩ := list_at hlt
    obtain ⟨ha0, haL⟩ := hok _ (List.mem_of_getElem? hx)
    dsimp only at ha0 haL
    obtain ⟨ro, oo, c, bb, e1, hrb, hcc⟩ := inS_at hf xC_len hx
    injection e1 with e1 _ e3
    subst e1
    have hai : a.toNat < l.length := by omega
    obtain ⟨sn, hsn, _⟩ := list_at hai
    obtain ⟨lr, lo, lc, lb, e1, hlb, hlcc⟩ := inS_at hl snC_len hsn
    subst e1
    have hc0 : lb.cell (lo + a.toNat * 14 + 0) = some (.bool sn.up) := hlcc 0 _ rfl
    have hup := upAt_of ha0 hsn
    have hnext0 : ∀ s', ((fl.take k).foldl (frS l nn w) ⟨false, 0, 0, false⟩) = s' → ∀ s2, frS l nn w s' (a, b) = s2 → ∀ S, S26 (ptr r) (ptr p) (.bool s2.any) (.bool s2.late) (.slice (some ⟨ro, oo, none⟩) fl.length fc) (.int .i64 (fl.length : Int)) (.int .i64 ((k + 1 : Nat) : Int)) S → ∀ H2, Keep H2 (fun H3 => H3 = (p, .row 78 [zi s2.node, zi s2.bit] (0, 0)) :: H) → R S H2 := by
      intro s' e1 s2 e2 S hS H2 hk
      have e3 : (fl.take (k + 1)).foldl (frS l nn w) ⟨false, 0, 0, false⟩ = s2 := by rw [htake, List.foldl_append, e1]; exact e2
      refine hR (k + 1) S H2 (by omega) (hk.mono fun H3 e => ?_)
      refine ⟨hlt, ?_, ?_⟩
      · rw [e3]; exact hS
      · rw [e3]; exact e
    clear hR hK htake hok
    generalize (fl.take k).foldl (frS l nn w) ⟨false, 0, 0, false⟩ = s at hS hnext0 ⊢
    have hnext := hnext0 s rfl
    clear hnext0
    obtain ⟨any, node, bit, late⟩ := s
    dsimp only at hS ⊢
    cases hS
    have hm1 : ∀ y z : Nat × Blk, rB r (w : Int) bits sent e g m (.slice (some ⟨lr, lo, none⟩) l.length lc) nn ∈ y :: z :: H := fun y z => .tail _ (.tail _ hr)
    have hm2 : ∀ y z : Nat × Blk, (lr, lb) ∈ y :: z :: H := fun y z => .tail _ (.tail _ hlb)
    have g5 : (Blk.row 76 [zi (w : Int), zi bits, .bool sent, .slice (some ⟨e, 0, none⟩) m m, .slice (some ⟨g, 0, none⟩) m m, .slice (some ⟨lr, lo, none⟩) l.length lc, zi (nn : Int)] (0, 0)).cell 5 = some (.slice (some ⟨lr, lo, none⟩) l.length lc) := rfl
    have g6 : (Blk.row 76 [zi (w : Int), zi bits, .bool sent, .slice (some ⟨e, 0, none⟩) m m, .slice (some ⟨g, 0, none⟩) m m, .slice (some ⟨lr, lo, none⟩) l.length lc, zi (nn : Int)] (0, 0)).cell 6 = some (zi (nn : Int)) := rfl
    have g0 : (Blk.row 76 [zi (w : Int), zi bits, .bool sent, .slice (some ⟨e, 0, none⟩) m m, .slice (some ⟨g, 0, none⟩) m m, .slice (some ⟨lr, lo, none⟩) l.length lc, zi (nn : Int)] (0, 0)).cell 0 = some (zi (w : Int)) := rfl
    unfold frS at hnext
    dsimp only at hnext
    rw [hup] at hnext
    generalize hU : sn.up = U at *
    cases U with
    | false =>
      have hn := hnext _ (if_pos (.inl rfl))
      clear hnext
      repeat' ((conv => whnf); (first | refine Look.cells (.tail _ hrb) rfl hcc ?_ | refine Look.cell (hm1 _ _) g5 ?_ | refine Look.cell (hm1 _ _) g6 ?_ | refine Look.cell (hm1 _ _) g0 ?_ | refine Look.cell (hm2 _ _) hc0 ?_ | refine Idx.of a.toNat (by omega) hai ?_ | refine Branch.t rfl ?_ | exact hn _ .mk _ (Keep.d1 rfl) | refine New.mk (fun _ => ?_) | refine Look.at0 ?_ | refine Cell.row ?_ | refine Put.row rfl ?_ | with_reducible refine Val.i64 (by omega) (by omega) ?_ | refine Branch.dt (by omega) ?_ | refine Idx.nat (by omega) ?_ | refine SDraw.all (by kernel_rfl) ?_))
    | true =>
      by_cases hb : (nn : Int) ≤ b
      · have hn := hnext _ (if_pos (.inr hb))
        clear hnext
        repeat' ((conv => whnf); (first | refine Look.cells (.tail _ hrb) rfl hcc ?_ | refine Look.cell (hm1 _ _) g5 ?_ | refine Look.cell (hm1 _ _) g6 ?_ | refine Look.cell (hm1 _ _) g0 ?_ | refine Look.cell (hm2 _ _) hc0 ?_ | refine Idx.of a.toNat (by omega) hai ?_ | refine Branch.dt (by omega) ?_ | exact hn _ .mk _ (Keep.d1 rfl) | refine New.mk (fun _ => ?_) | refine Look.at0 ?_ | refine Cell.row ?_ | refine Put.row rfl ?_ | with_reducible refine Val.i64 (by omega) (by omega) ?_ | refine Branch.not ?_ | refine Branch.t rfl ?_ | refine Idx.nat (by omega) ?_ | refine SDraw.all (by kernel_rfl) ?_))
      · by_cases hb1 : b = (nn : Int) - 1
        · have hn := hnext _ (by rw [if_neg (by simp; omega), if_pos hb1])
          clear hnext
          cases late with
          | true =>
            repeat' ((conv => whnf); (first | refine Look.cells (.tail _ hrb) rfl hcc ?_ | refine Look.cell (hm1 _ _) g5 ?_ | refine Look.cell (hm1 _ _) g6 ?_ | refine Look.cell (hm1 _ _) g0 ?_ | refine Look.cell (hm2 _ _) hc0 ?_ | refine Idx.of a.toNat (by omega) hai ?_ | refine Branch.df hb ?_ | refine Branch.dt (by omega) ?_ | exact hn _ .mk _ (Keep.d1 rfl) | refine New.mk (fun _ => ?_) | refine Look.at0 ?_ | refine Cell.row ?_ | refine Put.row rfl ?_ | with_reducible refine Val.i64 (by omega) (by omega) ?_ | refine Branch.not ?_ | refine Branch.t rfl ?_ | refine Idx.nat (by omega) ?_ | refine SDraw.all (by kernel_rfl) ?_))
          | false =>
            repeat' ((conv => whnf); (first | refine Look.cells (.tail _ hrb) rfl hcc ?_ | refine Look.cell (hm1 _ _) g5 ?_ | refine Look.cell (hm1 _ _) g6 ?_ | refine Look.cell (hm1 _ _) g0 ?_ | refine Look.cell (hm2 _ _) hc0 ?_ | refine Idx.of a.toNat (by omega) hai ?_ | refine Branch.df hb ?_ | refine Branch.dt (by omega) ?_ | exact hn _ .mk _ (Keep.d1 rfl) | refine New.mk (fun _ => ?_) | refine Look.at0 ?_ | refine Cell.row ?_ | refine Put.row rfl ?_ | with_reducible refine Val.i64 (by omega) (by omega) ?_ | refine Branch.not ?_ | refine Branch.t rfl ?_ | refine Branch.f rfl ?_ | refine Idx.nat (by omega) ?_ | refine SDraw.all (by kernel_rfl) ?_))
        · have hn := fun s2 (e : (if any = false ∨ b < bit ∨ (b = bit ∧ a < node) then (⟨true, a, b, late⟩ : Fr) else ⟨any, node, bit, late⟩) = s2) => hnext s2 (by rw [if_neg (by simp; omega), if_neg hb1]; exact e)
          clear hnext
          cases any with
          | false =>
            have hn := hn _ (if_pos (.inl rfl))
            repeat' ((conv => whnf); (first | refine Look.cells (.tail _ hrb) rfl hcc ?_ | refine Look.cell (hm1 _ _) g5 ?_ | refine Look.cell (hm1 _ _) g6 ?_ | refine Look.cell (hm1 _ _) g0 ?_ | refine Look.cell (hm2 _ _) hc0 ?_ | refine Idx.of a.toNat (by omega) hai ?_ | refine Branch.df hb ?_ | refine Branch.df (by omega) ?_ | refine Branch.t rfl ?_ | exact hn _ .mk _ (Keep.d1 rfl) | refine New.mk (fun _ => ?_) | refine Look.at0 ?_ | refine Cell.row ?_ | refine Cells.row rfl ?_ | refine Put.row rfl ?_ | refine Look.at1 ?_ | with_reducible refine Val.i64 (by omega) (by omega) ?_ | refine Branch.not ?_ | refine Branch.dt (by omega) ?_ | refine Idx.nat (by omega) ?_ | refine SDraw.all (by kernel_rfl) ?_ | refine Kept.k0 ?_))
          | true =>
            have hcl := cmp_lt b bit a node
            by_cases hc : b < bit ∨ (b = bit ∧ a < node)
            · have hn := hn _ (if_pos (.inr hc))
              have hcl := hcl.2 hc
              repeat' ((conv => whnf); (first | refine Look.cells (.tail _ hrb) rfl hcc ?_ | refine Look.cell (hm1 _ _) g5 ?_ | refine Look.cell (hm1 _ _) g6 ?_ | refine Look.cell (hm1 _ _) g0 ?_ | refine Look.cell (hm2 _ _) hc0 ?_ | refine Idx.of a.toNat (by omega) hai ?_ | refine Branch.df hb ?_ | refine Branch.df (by omega) ?_ | with_reducible refine c52 ?_ | refine c51 ?_ | refine Branch.dt hcl ?_ | refine Branch.t rfl ?_ | exact hn _ .mk _ (Keep.d2 rfl) | refine New.mk (fun _ => ?_) | refine Look.at0 ?_ | refine Cell.row ?_ | refine Cells.row rfl ?_ | refine Put.row rfl ?_ | refine Look.at1 ?_ | refine Look.at2 ?_ | with_reducible refine Val.i64 (by omega) (by omega) ?_ | refine Branch.not ?_ | refine Branch.dt (by omega) ?_ | refine Idx.nat (by omega) ?_ | refine SDraw.all (by kernel_rfl) ?_ | refine Kept.k0 ?_))
            · have hn := hn _ (if_neg (by simpa using hc))
              have hcl : ¬ _ := fun h => hc (hcl.1 h)
              repeat' ((conv => whnf); (first | refine Look.cells (.tail _ hrb) rfl hcc ?_ | refine Look.cell (hm1 _ _) g5 ?_ | refine Look.cell (hm1 _ _) g6 ?_ | refine Look.cell (hm1 _ _) g0 ?_ | refine Look.cell (hm2 _ _) hc0 ?_ | refine Idx.of a.toNat (by omega) hai ?_ | refine Branch.df hb ?_ | refine Branch.df (by omega) ?_ | with_reducible refine c52 ?_ | refine c51 ?_ | refine Branch.df hcl ?_ | refine Branch.f rfl ?_ | exact hn _ .mk _ (Keep.d2 rfl) | refine New.mk (fun _ => ?_) | refine Look.at0 ?_ | refine Cell.row ?_ | refine Put.row rfl ?_ | refine Look.at1 ?_ | with_reducible refine Val.i64 (by omega) (by omega) ?_ | refine Branch.dt (by omega) ?_ | refine Idx.nat (by omega) ?_ | refine SDraw.all (by kernel_rfl) ?_ | refine Kept.k0 ?_))
  · obtain rfl : k = fl.length := by omega
    rw [List.take_length] at hS ⊢
    unfold frF at hK
    cases hS
    clear hR
    repeat' ((conv => whnf); (first | refine Branch.df (by omega) ?_ | exact Keep.d1 hK | refine Look.at0 ?_ | refine Cells.row rfl ?_ | refine Put.row rfl ?_))
end
end Go.Proofs.YtiaginlnapiijaaGreatDoor


/- Ported (port.py) from WrK. -/
set_option linter.unusedVariables false
set_option linter.unusedSimpArgs false
set_option maxRecDepth 100000
set_option maxHeartbeats 4000000
namespace Go.Proofs.YtiaginlnapiijaaGreatDoor
open Sx
def mixL {α : Type} (xs ys : List α) (k : Nat) : List α := xs.take k ++ ys.drop k
section
variable {α : Type} {xs ys : List α} {k : Nat} {x : α}
theorem mix_len (hl : xs.length = ys.length) (hk : k ≤ xs.length) : (mixL xs ys k).length = xs.length := by
  unfold mixL
  rw [List.length_append, List.length_take, List.length_drop]; omega
theorem mix_set (hl : xs.length = ys.length) (hx : xs[k]? = some x) : (mixL xs ys k).set k x = mixL xs ys (k + 1) := by
  obtain ⟨hk, rfl⟩ := List.getElem?_eq_some_iff.1 hx
  unfold mixL
  have h1 : (xs.take k).length = k := by rw [List.length_take]; omega
  rw [List.set_append_right _ _ (by omega), h1, Nat.sub_self, List.drop_eq_getElem_cons (show k < ys.length by omega), List.set_cons_zero, List.take_succ_eq_append_getElem hk, List.append_assoc]; rfl
theorem mix_same (hl : xs.length = ys.length) (hx : xs[k]? = some x) (hy : ys[k]? = some x) : mixL xs ys (k + 1) = mixL xs ys k := by
  obtain ⟨hk, e1⟩ := List.getElem?_eq_some_iff.1 hx
  obtain ⟨hk2, e2⟩ := List.getElem?_eq_some_iff.1 hy
  unfold mixL
  rw [List.take_succ_eq_append_getElem hk, List.drop_eq_getElem_cons hk2, e1, e2, List.append_assoc]; rfl
theorem mix_all (hl : xs.length = ys.length) : mixL xs ys xs.length = xs := by
  unfold mixL
  rw [List.take_length, List.drop_eq_nil_of_le (by omega), List.append_nil]
theorem mix_at (hl : xs.length = ys.length) (hk : k ≤ xs.length) : (mixL xs ys k)[k]? = ys[k]? := by
  unfold mixL
  have h1 : (xs.take k).length = k := by rw [List.length_take]; omega
  rw [List.getElem?_append_right (by omega), h1, Nat.sub_self, List.getElem?_drop, Nat.add_zero]
end
theorem stfE_len (l : List Sn) : (stfE l).length = l.length := by simp [stfE]
theorem stfE_at {l : List Sn} {k : Nat} {s : Sn} (h : l[k]? = some s) : (stfE l)[k]? = some (if s.up then 20 else 0) := by
  unfold stfE
  rw [List.getElem?_map, h]; rfl
inductive S73 (A0 A3 A9 A10 A11 : Value) : List Value → Prop
  | mk {r1 r2 r4 r5 r6 r7 r8 r12 r13 r14 r15 r16 r17 r18 r19 r20 r21 r22 r23 r24 r25 r26 r27 r28 r29 r30 r31 r32 r33 r34 r35 r36 r37 r38 r39 r40 r41 r42 r43 r44 r45 r46 r47 r48 : Value} : S73 A0 A3 A9 A10 A11 [A0, r1, r2, A3, r4, r5, r6, r7, r8, A9, A10, A11, r12, r13, r14, r15, r16, r17, r18, r19, r20, r21, r22, r23, r24, r25, r26, r27, r28, r29, r30, r31, r32, r33, r34, r35, r36, r37, r38, r39, r40, r41, r42, r43, r44, r45, r46, r47, r48]
section
variable {K : Value → Heap → Prop} {H : Heap} {l : List Sn} {r w nn e g : Nat} {bits : Int} {sent : Bool} {lv : Value}
theorem c73 {a b : Int} (hl : InS snC 14 lv H l) (hl127 : l.length ≤ 127) (ha0 : 0 ≤ a) (haL : a < (l.length : Int)) (hb0 : 0 ≤ b) (hb1 : b ≤ 1000) (hnn : 10 ≤ nn) (hnn2 : nn ≤ 1000)
    (hK : K (.tuple ⟨[]⟩) (rB r (w : Int) (b + 24) sent e g l.length lv nn :: eB e (if (nn : Int) - 10 ≤ b then (stfE l).set a.toNat 22 else stfE l) l.length :: H)) :
    SCalls Tryz.prog 73 [ptr r, .agg ⟨[zi a, zi b]⟩] (rB r (w : Int) bits sent e g l.length lv nn :: eB e (List.replicate l.length 0) l.length :: H) K := by
  obtain ⟨la, lc, rfl, hml⟩ := hl.sv
  have hlen : (stfE l).length = (List.replicate l.length (0 : Int)).length := by rw [stfE_len]; simp
  refine enter73 ?_
  repeat' ((conv => whnf); (first | refine New.mk (fun _ => ?_) | refine Cell.row ?_ | refine Look.at1 ?_))
  rename_i p
  refine SLoop.invA (fun (k : Nat) S H' => k ≤ l.length ∧ S73 (ptr r) (ptr p) (.slice la l.length lc) (.int .i64 (l.length : Int)) (.int .i64 (k : Int)) S ∧ H' = (p, .row 78 [zi a, zi b] (0, 0)) :: rB r (w : Int) bits sent e g l.length (.slice la l.length lc) nn :: eB e (mixL (stfE l) (List.replicate l.length 0) k) l.length :: H) (fun k => l.length - k) 0 (Keep.all ⟨Nat.zero_le _, .mk, rfl⟩) ?_
  rintro k S H' ⟨hk, hS, rfl⟩ R hR
  cases hS
  by_cases hlt : k < l.length
  · obtain ⟨sn, hsn, _⟩ := list_at hlt
    obtain ⟨lr, lo, lc2, lb, e1, hlb, hlcc⟩ := inS_at hl snC_len hsn
    injection e1 with e1 _ e3
    subst e1
    have hat := stfE_at hsn
    have hml2 := mix_len (k := k) hlen (by rw [stfE_len]; omega)
    rw [stfE_len] at hml2
    have hi : k < (mixL (stfE l) (List.replicate l.length 0) k).length := by omega
    have hnext := fun S q hS E (hE : E = mixL (stfE l) (List.replicate l.length 0) (k + 1)) => hR (k + 1) S (q :: (p, .row 78 [zi a, zi b] (0, 0)) :: rB r (w : Int) bits sent e g l.length (.slice (some ⟨lr, lo, none⟩) l.length lc) nn :: eB e E l.length :: H) (by omega) (Keep.d1 ⟨hlt, hS, by rw [hE]⟩)
    obtain ⟨up, sends, f⟩ := sn
    dsimp only at hat
    cases up with
    | true =>
      have hset := mix_set hlen hat
      have hn := fun S q hS => hnext S q hS _ hset
      clear hR hnext hK
      repeat' ((conv => whnf); (first | refine Branch.dt (by omega) ?_ | refine Branch.t rfl ?_ | refine Idx.nat (by omega) ?_ | refine Look.cells (.tail _ (.tail _ (.tail _ (.tail _ hlb)))) rfl hlcc ?_ | refine Look.cells (.tail _ (.tail _ (.tail _ hlb))) rfl hlcc ?_ | refine Put.nthG (g := zi) 20 hi ?_ | exact hn _ _ .mk | refine New.mk (fun _ => ?_) | refine Look.at0 ?_ | refine Cell.row ?_ | refine Put.row rfl ?_ | refine Look.at2 ?_ | refine Look.at3 ?_ | with_reducible refine Val.i64 (by omega) (by omega) ?_))
    | false =>
      have hset := mix_same (k := k) hlen hat (by rw [List.getElem?_replicate, if_pos hlt]; rfl)
      have hn := fun S q hS => hnext S q hS _ hset.symm
      clear hR hnext hK
      repeat' ((conv => whnf); (first | refine Branch.dt (by omega) ?_ | refine Branch.f rfl ?_ | refine Idx.nat (by omega) ?_ | refine Look.cells (.tail _ (.tail _ (.tail _ (.tail _ hlb)))) rfl hlcc ?_ | refine Look.cells (.tail _ (.tail _ (.tail _ hlb))) rfl hlcc ?_ | exact hn _ _ .mk | refine New.mk (fun _ => ?_) | refine Look.at0 ?_ | refine Cell.row ?_ | refine Put.row rfl ?_ | with_reducible refine Val.i64 (by omega) (by omega) ?_))
  · obtain rfl : k = l.length := by omega
    have hall : mixL (stfE l) (List.replicate l.length 0) l.length = stfE l := by
      have := mix_all hlen
      rwa [stfE_len] at this
    rw [hall]
    clear hR
    have hai : a.toNat < (stfE l).length := by rw [stfE_len]; omega
    by_cases hc : (nn : Int) - 10 ≤ b
    · rw [if_pos hc] at hK
      repeat' ((conv => whnf); (first | refine Branch.df (by omega) ?_ | refine Branch.dt hc ?_ | refine Idx.of a.toNat (by omega) (by omega) ?_ | refine Put.nthG (g := zi) 22 hai ?_ | exact Keep.d1 hK | refine Look.at0 ?_ | refine Cell.row ?_ | refine Put.row rfl ?_ | refine Look.at1 ?_ | refine Look.at2 ?_ | with_reducible refine Val.i64 (by omega) (by omega) ?_ | refine SDraw.all (by kernel_rfl) ?_))
    · rw [if_neg hc] at hK
      repeat' ((conv => whnf); (first | refine Branch.df (by omega) ?_ | refine Branch.df hc ?_ | exact Keep.d1 hK | refine Look.at0 ?_ | refine Cell.row ?_ | refine Put.row rfl ?_ | refine Look.at1 ?_ | with_reducible refine Val.i64 (by omega) (by omega) ?_ | refine SDraw.all (by kernel_rfl) ?_))
end
end Go.Proofs.YtiaginlnapiijaaGreatDoor


/- Ported (port.py) from WrL. -/
set_option linter.unusedVariables false
set_option linter.unusedSimpArgs false
set_option maxRecDepth 100000
set_option maxHeartbeats 4000000
namespace Go.Proofs.YtiaginlnapiijaaGreatDoor
open Sx
theorem frS_any {l : List Sn} {n w : Nat} {s : Fr} {x : Int × Int} (h : (frS l n w s x).any = true) : (s.any = true ∧ (frS l n w s x).node = s.node ∧ (frS l n w s x).bit = s.bit) ∨ ((frS l n w s x).node = x.1 ∧ (frS l n w s x).bit = x.2 ∧ x.2 < (n : Int) - 1) := by
  unfold frS at h ⊢
  by_cases h1 : upAt l x.1 = false ∨ (n : Int) ≤ x.2
  · rw [if_pos h1] at h ⊢
    exact .inl ⟨h, rfl, rfl⟩
  · rw [if_neg h1] at h ⊢
    by_cases h2 : x.2 = (n : Int) - 1
    · rw [if_pos h2] at h ⊢
      exact .inl ⟨h, rfl, rfl⟩
    · rw [if_neg h2] at h ⊢
      by_cases h3 : s.any = false ∨ x.2 < s.bit ∨ (x.2 = s.bit ∧ x.1 < s.node)
      · rw [if_pos h3]
        exact .inr ⟨rfl, rfl, by omega⟩
      · rw [if_neg h3] at h ⊢
        exact .inl ⟨h, rfl, rfl⟩
theorem frF_any {l : List Sn} {n w : Nat} : ∀ {fl : List (Int × Int)}, (frF l n w fl).any = true → ∃ x ∈ fl, (frF l n w fl).node = x.1 ∧ (frF l n w fl).bit = x.2 ∧ x.2 < (n : Int) - 1 := by
  intro fl
  induction fl using snoc_ind with
  | h0 => intro h; cases h
  | h1 L x ih =>
    intro h
    have e : frF l n w (L ++ [x]) = frS l n w (frF l n w L) x := by unfold frF; rw [List.foldl_append]; rfl
    rw [e] at h ⊢
    rcases frS_any h with ⟨k1, k2, k3⟩ | ⟨k1, k2, k3⟩
    · obtain ⟨y, hy, k4, k5, k6⟩ := ih k1
      exact ⟨y, List.mem_append_left _ hy, k2.trans k4, k3.trans k5, k6⟩
    · exact ⟨x, List.mem_append_right _ (.head _), k1, k2, k3⟩
theorem gotE_len (l : List Sn) (w : Nat) : (gotE l w).length = l.length := by simp [gotE]
theorem gotE_at {l : List Sn} {w k : Nat} {s : Sn} (h : l[k]? = some s) : (gotE l w)[k]? = some (s.up && !decide (k = w)) := by
  unfold gotE
  rw [List.getElem?_mapIdx, h]; rfl
inductive S50 (A0 A8 A21 A22 A23 : Value) : List Value → Prop
  | mk {r1 r2 r3 r4 r5 r6 r7 r9 r10 r11 r12 r13 r14 r15 r16 r17 r18 r19 r20 r24 r25 r26 r27 r28 r29 r30 r31 r32 r33 r34 r35 r36 r37 r38 r39 r40 r41 r42 r43 r44 r45 r46 r47 r48 r49 r50 r51 r52 r53 r54 r55 r56 r57 r58 r59 r60 r61 r62 r63 r64 r65 r66 r67 r68 r69 r70 r71 r72 r73 r74 r75 r76 r77 r78 r79 r80 r81 r82 r83 r84 r85 r86 r87 r88 r89 r90 r91 r92 r93 r94 r95 r96 r97 r98 r99 r100 r101 r102 r103 r104 r105 r106 r107 r108 r109 r110 r111 : Value} : S50 A0 A8 A21 A22 A23 [A0, r1, r2, r3, r4, r5, r6, r7, A8, r9, r10, r11, r12, r13, r14, r15, r16, r17, r18, r19, r20, A21, A22, A23, r24, r25, r26, r27, r28, r29, r30, r31, r32, r33, r34, r35, r36, r37, r38, r39, r40, r41, r42, r43, r44, r45, r46, r47, r48, r49, r50, r51, r52, r53, r54, r55, r56, r57, r58, r59, r60, r61, r62, r63, r64, r65, r66, r67, r68, r69, r70, r71, r72, r73, r74, r75, r76, r77, r78, r79, r80, r81, r82, r83, r84, r85, r86, r87, r88, r89, r90, r91, r92, r93, r94, r95, r96, r97, r98, r99, r100, r101, r102, r103, r104, r105, r106, r107, r108, r109, r110, r111]
section
variable {K : Value → Heap → Prop} {H : Heap} {l : List Sn} {r w nn e g : Nat} {bits : Int} {lv fv : Value} {fl : List (Int × Int)}
theorem l69 {Q : Post} {S0 : List Value} {la : Option Addr} {lc : Nat} {q : Nat × Blk} {late : Bool} {E : List Int} (hl : InS snC 14 (.slice la l.length lc) H l) (hl127 : l.length ≤ 127) (hw : w < l.length)
    (hS : S50 (ptr r) (.bool late) (.slice la l.length lc) (.int .i64 (l.length : Int)) (.int .i64 0) S0)
    (hQ : ∀ S, S50 (ptr r) (.bool late) (.slice la l.length lc) (.int .i64 (l.length : Int)) (.int .i64 (l.length : Int)) S → Q (.exit 1) S (q :: rB r (w : Int) bits false e g l.length (.slice la l.length lc) nn :: eB e E l.length :: gB g (gotE l w) l.length :: H)) :
    SLoop Tryz.prog X50_l0 Q S0 (q :: rB r (w : Int) bits false e g l.length (.slice la l.length lc) nn :: eB e E l.length :: gB g (List.replicate l.length false) l.length :: H) := by
  have hlen : (gotE l w).length = (List.replicate l.length false).length := by rw [gotE_len]; simp
  refine SLoop.invA (fun (k : Nat) S H' => k ≤ l.length ∧ S50 (ptr r) (.bool late) (.slice la l.length lc) (.int .i64 (l.length : Int)) (.int .i64 (k : Int)) S ∧ H' = q :: rB r (w : Int) bits false e g l.length (.slice la l.length lc) nn :: eB e E l.length :: gB g (mixL (gotE l w) (List.replicate l.length false) k) l.length :: H) (fun k => l.length - k) 0 (Keep.all ⟨Nat.zero_le _, hS, rfl⟩) ?_
  rintro k S H' ⟨hk, hS, rfl⟩ R hR
  cases hS
  by_cases hlt : k < l.length
  · obtain ⟨sn, hsn, _⟩ := list_at hlt
    obtain ⟨lr, lo, lc2, lb, e1, hlb, hlcc⟩ := inS_at hl snC_len hsn
    injection e1 with e1 _ e3
    subst e1
    have hat := gotE_at (w := w) hsn
    have hml2 := mix_len (k := k) hlen (by rw [gotE_len]; omega)
    rw [gotE_len] at hml2
    have hi : k < (mixL (gotE l w) (List.replicate l.length false) k).length := by omega
    have hset := mix_set hlen hat
    have hnext := fun S q2 hS E2 (hE : E2 = mixL (gotE l w) (List.replicate l.length false) (k + 1)) => hR (k + 1) S (q2 :: q :: rB r (w : Int) bits false e g l.length (.slice (some ⟨lr, lo, none⟩) l.length lc) nn :: eB e E l.length :: gB g E2 l.length :: H) (by omega) (Keep.d1 ⟨hlt, hS, by rw [hE]⟩)
    have hn := fun S q hS => hnext S q hS _ hset
    clear hR hnext hQ hset
    obtain ⟨up, sends, f⟩ := sn
    have hbb : (!decide (k = w)) = !decide ((k : Int) = (w : Int)) := by
      congr 1
      by_cases h : k = w
      · rw [decide_eq_true h, decide_eq_true (by omega)]
      · rw [decide_eq_false h, decide_eq_false (by omega)]
    dsimp only at hn
    rw [hbb] at hn
    cases up with
    | true =>
      rw [Bool.true_and] at hn
      repeat' ((conv => whnf); (first | refine Branch.dt (by omega) ?_ | refine Branch.t rfl ?_ | refine Idx.nat (by omega) ?_ | refine Look.cells (.tail _ (.tail _ (.tail _ (.tail _ (.tail _ hlb))))) rfl hlcc ?_ | refine Look.cells (.tail _ (.tail _ (.tail _ (.tail _ hlb)))) rfl hlcc ?_ | refine Put.nthG (g := Value.bool) _ hi ?_ | exact hn _ _ .mk | refine New.mk (fun _ => ?_) | refine Look.at0 ?_ | refine Cell.row ?_ | refine Put.row rfl ?_ | refine Look.at2 ?_ | refine Look.at4 ?_ | with_reducible refine Val.i64 (by omega) (by omega) ?_ | refine SDraw.all (by kernel_rfl) ?_))
    | false =>
      rw [Bool.false_and] at hn
      repeat' ((conv => whnf); (first | refine Branch.dt (by omega) ?_ | refine Branch.f rfl ?_ | refine Idx.nat (by omega) ?_ | refine Look.cells (.tail _ (.tail _ (.tail _ (.tail _ (.tail _ hlb))))) rfl hlcc ?_ | refine Look.cells (.tail _ (.tail _ (.tail _ (.tail _ hlb)))) rfl hlcc ?_ | refine Put.nthG (g := Value.bool) _ hi ?_ | exact hn _ _ .mk | refine New.mk (fun _ => ?_) | refine Look.at0 ?_ | refine Cell.row ?_ | refine Put.row rfl ?_ | refine Look.at2 ?_ | refine Look.at4 ?_ | with_reducible refine Val.i64 (by omega) (by omega) ?_ | refine SDraw.all (by kernel_rfl) ?_))
  · obtain rfl : k = l.length := by omega
    have hall : mixL (gotE l w) (List.replicate l.length false) l.length = gotE l w := by
      have := mix_all hlen
      rwa [gotE_len] at this
    have hq := fun S hS => hQ S hS
    rw [hall]
    clear hR hQ
    repeat' ((conv => whnf); (first | refine Branch.df (by omega) ?_ | exact Keep.all (hq _ .mk) | exact hq _ .mk))
theorem c50 {ot : Bool} (hl : InS snC 14 lv H l) (hl127 : l.length ≤ 127) (hf : InS xC 2 fv H fl) (hok : ∀ x ∈ fl, 0 ≤ x.1 ∧ x.1 < (l.length : Int) ∧ 0 ≤ x.2) (hw : w < l.length) (hnn : 10 ≤ nn) (hnn2 : nn ≤ 1000) (hot : ot = !decide (upN l ≤ 1))
    (hK : K (.tuple ⟨[]⟩) (rB r (w : Int) (comesV l nn w (frF l nn w fl)).bits (comesV l nn w (frF l nn w fl)).sent e g l.length lv nn :: eB e (comesV l nn w (frF l nn w fl)).errs l.length :: gB g (comesV l nn w (frF l nn w fl)).got l.length :: H)) :
    SCalls Tryz.prog 50 [ptr r, .bool ot, fv] (rB r (w : Int) bits false e g l.length lv nn :: eB e (List.replicate l.length 0) l.length :: gB g (List.replicate l.length false) l.length :: H) K := by
  have h38 := fun (K2 : Value → Heap → Prop) hk => c26 (K := K2) (H := rB r (w : Int) bits false e g l.length lv nn :: eB e (List.replicate l.length 0) l.length :: gB g (List.replicate l.length false) l.length :: H) (l := l) (fl := fl) (fv := fv) (.head _) (hl.mono fun z hz => .tail _ (.tail _ (.tail _ hz))) (hf.mono fun z hz => .tail _ (.tail _ (.tail _ hz))) (fun x hx => ⟨(hok x hx).1, (hok x hx).2.1⟩) hnn2 hk
  have han := frF_any (l := l) (n := nn) (w := w) (fl := fl)
  generalize frF l nn w fl = s at *
  obtain ⟨any, node, bit, late⟩ := s
  dsimp only at h38 han
  unfold comesV at hK
  dsimp only at hK
  obtain ⟨la, lc, rfl, hml⟩ := hl.sv
  obtain ⟨fa, fc, rfl, hml2⟩ := hf.sv
  refine enter50 ?_
  cases any with
  | true =>
    obtain ⟨x, hx, h1, h2, h3⟩ := han rfl
    obtain ⟨k1, k2, k3⟩ := hok x hx
    subst h1 h2
    rw [if_pos rfl] at hK
    dsimp only at hK
    have h96 : ∀ q (K2 : Value → Heap → Prop), K2 (.tuple ⟨[]⟩) (q :: rB r (w : Int) (x.2 + 24) false e g l.length (.slice la l.length lc) nn :: eB e (if (nn : Int) - 10 ≤ x.2 then (stfE l).set x.1.toNat 22 else stfE l) l.length :: gB g (List.replicate l.length false) l.length :: H) →
        SCalls Tryz.prog 73 [ptr r, .agg ⟨[zi x.1, zi x.2]⟩] (q :: rB r (w : Int) bits false e g l.length (.slice la l.length lc) nn :: eB e (List.replicate l.length 0) l.length :: gB g (List.replicate l.length false) l.length :: H) K2 := fun q K2 hk =>
      SCalls.under [q] (c73 (H := gB g (List.replicate l.length false) l.length :: H) (bits := bits) (sent := false) (r := r) (w := w) (e := e) (g := g) (nn := nn) (hl.mono fun z hz => .tail _ hz) hl127 k1 k2 k3 (by omega) hnn hnn2 hk)
    repeat' ((conv => whnf); (first | with_reducible refine h38 _ ?_ | refine Branch.t rfl ?_ | with_reducible refine h96 _ _ ?_ | exact Keep.d1 hK | refine New.mk (fun _ => ?_) | refine Look.at0 ?_ | refine Cells.row rfl ?_ | refine Put.row rfl ?_))
  | false =>
    rw [if_neg (by decide)] at hK
    have hwl : w < (List.replicate l.length (0 : Int)).length := by simpa using hw
    cases ot with
    | false =>
      have hu : upN l ≤ 1 := by simpa using hot.symm
      rw [if_pos hu] at hK
      dsimp only at hK
      have e12 : (nn : Int) + 12 = (nn : Int) - 8 + 20 := by omega
      rw [e12] at hK
      repeat' ((conv => whnf); (first | with_reducible refine h38 _ ?_ | refine Branch.f rfl ?_ | refine SDraw.held (by kernel_rfl) [] .nil ?_ | refine Kept.sub (List.nil_sublist _) ?_ | refine And.intro ?_ ?_ | refine Idx.nat hw ?_ | refine Put.nthG (g := zi) 23 hwl ?_ | exact Keep.d1 hK | refine New.mk (fun _ => ?_) | refine Look.at0 ?_ | refine Cell.row ?_ | refine Put.row rfl ?_ | refine Look.at1 ?_ | refine Look.at2 ?_ | with_reducible refine Val.i64 (by omega) (by omega) ?_ | refine Branch.not ?_))
    | true =>
      have hu : ¬ upN l ≤ 1 := by simpa using hot.symm
      rw [if_neg hu] at hK
      cases late with
      | true =>
        rw [if_pos rfl] at hK
        dsimp only at hK
        repeat' ((conv => whnf); (first | with_reducible refine h38 _ ?_ | refine Branch.f rfl ?_ | refine Branch.t rfl ?_ | (refine l69 hl hl127 hw .mk (fun S hS => ?_); cases hS) | refine SDraw.held (by kernel_rfl) [] .nil ?_ | refine Kept.sub (List.nil_sublist _) ?_ | refine And.intro ?_ ?_ | refine Idx.nat hw ?_ | refine Put.nthG (g := zi) 22 hwl ?_ | exact Keep.d1 hK | refine New.mk (fun _ => ?_) | refine Look.at0 ?_ | refine Cell.row ?_ | refine Put.row rfl ?_ | refine Look.at1 ?_ | refine Look.at2 ?_ | with_reducible refine Val.i64 (by omega) (by omega) ?_))
      | false =>
        rw [if_neg (by decide)] at hK
        dsimp only at hK
        repeat' ((conv => whnf); (first | with_reducible refine h38 _ ?_ | refine Branch.f rfl ?_ | (refine l69 hl hl127 hw .mk (fun S hS => ?_); cases hS) | exact Keep.d1 hK | refine New.mk (fun _ => ?_) | refine Look.at0 ?_ | refine Cell.row ?_ | refine Put.row rfl ?_ | refine Look.at1 ?_ | with_reducible refine Val.i64 (by omega) (by omega) ?_))
end
end Go.Proofs.YtiaginlnapiijaaGreatDoor


/- Ported (port.py) from WrM. -/
set_option linter.unusedVariables false
set_option linter.unusedSimpArgs false
set_option maxRecDepth 100000
set_option maxHeartbeats 4000000
namespace Go.Proofs.YtiaginlnapiijaaGreatDoor
open Sx
abbrev nC (n : Nat) : List Value := [zi (n : Int)]
theorem nC_len (n : Nat) : (nC n).length = 1 := rfl
theorem nC_one (n : Nat) : ∀ u ∈ nC n, u.oneCell' = true := fun u hu => by obtain rfl := List.mem_singleton.1 hu; rfl
theorem cand_snoc (s : Sn) : ∀ (a : List Sn) (i : Nat), cand i (a ++ [s]) = cand i a ++ (if s.up && s.sends then [(i + a.length, s.f)] else [])
  | [], i => by simp only [List.nil_append, cand, List.length_nil, Nat.add_zero]
  | x :: a, i => by
    rw [List.cons_append, cand, cand, cand_snoc s a (i + 1), List.length_cons, show i + 1 + a.length = i + (a.length + 1) by omega]
    split <;> rfl
theorem cand_len : ∀ (l : List Sn) (i : Nat), (cand i l).length ≤ l.length
  | [], _ => Nat.le_refl _
  | s :: l, i => by
    have := cand_len l (i + 1)
    unfold cand
    split <;> simp only [List.length_cons] <;> omega
theorem cand_mem {i : Nat} {f : Fm} : ∀ {l : List Sn} {j : Nat}, (i, f) ∈ cand j l → j ≤ i ∧ ∃ s, l[i - j]? = some s ∧ s.up = true ∧ s.sends = true ∧ s.f = f
  | [], j, h => by cases h
  | s :: l, j, h => by
    have key : (i, f) ∈ cand (j + 1) l → j ≤ i ∧ ∃ s', (s :: l)[i - j]? = some s' ∧ s'.up = true ∧ s'.sends = true ∧ s'.f = f := fun h => by
      obtain ⟨h1, s', h2, h3⟩ := cand_mem h
      refine ⟨by omega, s', ?_, h3⟩
      rw [show i - j = (i - (j + 1)) + 1 by omega]; exact h2
    unfold cand at h
    split at h
    · rename_i hc
      simp only [Bool.and_eq_true] at hc
      rcases List.mem_cons.1 h with h | h
      · injection h with h1 h2
        subst h1
        exact ⟨Nat.le_refl _, s, by rw [Nat.sub_self]; rfl, hc.1, hc.2, h2.symm⟩
      · exact key h
    · exact key h
theorem upN_snoc (a : List Sn) (s : Sn) : upN (a ++ [s]) = upN a + if s.up then 1 else 0 := by
  unfold upN
  rw [List.countP_append, List.countP_cons, List.countP_nil, Nat.zero_add]
theorem upN_le (a : List Sn) : upN a ≤ a.length := List.countP_le_length
inductive S23 (A0 A1 A4 A5 A7 A8 A9 A26 A27 A28 : Value) : List Value → Prop
  | mk {r2 r3 r6 r10 r11 r12 r13 r14 r15 r16 r17 r18 r19 r20 r21 r22 r23 r24 r25 r29 r30 r31 r32 r33 r34 r35 r36 r37 r38 r39 r40 r41 r42 r43 r44 r45 r46 r47 r48 r49 r50 r51 r52 r53 r54 r55 r56 r57 r58 r59 r60 r61 r62 r63 r64 r65 r66 r67 r68 r69 r70 r71 r72 r73 r74 r75 r76 r77 r78 r79 r80 r81 r82 r83 r84 r85 r86 r87 r88 r89 r90 r91 r92 r93 r94 r95 r96 r97 r98 : Value} : S23 A0 A1 A4 A5 A7 A8 A9 A26 A27 A28 [A0, A1, r2, r3, A4, A5, r6, A7, A8, A9, r10, r11, r12, r13, r14, r15, r16, r17, r18, r19, r20, r21, r22, r23, r24, r25, A26, A27, A28, r29, r30, r31, r32, r33, r34, r35, r36, r37, r38, r39, r40, r41, r42, r43, r44, r45, r46, r47, r48, r49, r50, r51, r52, r53, r54, r55, r56, r57, r58, r59, r60, r61, r62, r63, r64, r65, r66, r67, r68, r69, r70, r71, r72, r73, r74, r75, r76, r77, r78, r79, r80, r81, r82, r83, r84, r85, r86, r87, r88, r89, r90, r91, r92, r93, r94, r95, r96, r97, r98]
theorem firstV_ok {L : List Fm} (h : (firstV L).2 = 0) : L ≠ [] ∧ L.all okF = true ∧ (L.map fld).Nodup ∧ firstV L = (bstN (L.map fld) L.length, 0) ∧ (firstV L).1 < L.length := by
  unfold firstV at h ⊢
  by_cases h1 : L = []
  · rw [if_pos h1] at h; cases h
  · rw [if_neg h1] at h ⊢
    by_cases h2 : L.all okF = false
    · rw [if_pos h2] at h; cases h
    · rw [if_neg h2] at h ⊢
      by_cases h3 : (L.map fld).Nodup
      · rw [if_pos h3]
        refine ⟨h1, by simpa using h2, h3, rfl, ?_⟩
        have := bstN_lt (L.map fld) L.length
        have : L.length ≠ 0 := fun e => h1 (List.length_eq_zero_iff.1 e)
        show bstN _ _ < _
        omega
      · rw [if_neg h3] at h; cases h
def oZ : Value := .agg ⟨[zi 0, zi 0, .bool false, .slice none 0 0, .slice none 0 0]⟩
abbrev oV (o : Out) (e g n : Nat) : Value := .agg ⟨[zi o.win, zi o.bits, .bool o.sent, .slice (some ⟨e, 0, none⟩) n n, .slice (some ⟨g, 0, none⟩) n n]⟩
section
variable {K : Value → Heap → Prop} {H : Heap} {l : List Sn} {lv fv : Value} {fl : List (Int × Int)}
theorem chkX_ok {n : Nat} (h : chkX n fl = 0) : n ≤ 127 ∧ ∀ x ∈ fl, 0 ≤ x.1 ∧ x.1 < (n : Int) ∧ 0 ≤ x.2 := by
  unfold chkX at h
  by_cases h1 : 127 < n ∨ 65536 < fl.length
  · rw [if_pos h1] at h; cases h
  · rw [if_neg h1] at h
    cases h2 : fl.any (xBad n) with
    | true => rw [h2, if_pos rfl] at h; cases h
    | false =>
      refine ⟨by omega, fun x hx => ?_⟩
      have h3 := (List.any_eq_false.1 h2) x hx
      unfold xBad at h3
      simp only [Bool.or_eq_true, decide_eq_true_eq] at h3
      omega
theorem c23 (hD : Db H) (hl : InS snC 14 lv H l) (hwf : ∀ s ∈ l, s.f.id < 4294967296) (hf : InS xC 2 fv H fl)
    (hK0 : (roundV l fl).e ≠ 0 → K (.tuple ⟨[oZ, zi (roundV l fl).e]⟩) H)
    (hK1 : (roundV l fl).e = 0 → ∀ e g, K (.tuple ⟨[oV (roundV l fl).o e g l.length, zi 0]⟩) (eB e (roundV l fl).o.errs l.length :: gB g (roundV l fl).o.got l.length :: H)) : SCalls Tryz.prog 23 [lv, fv] H K := by
  obtain ⟨la, lc, rfl, hml⟩ := hl.sv
  obtain ⟨fa, fc, rfl, hml2⟩ := hf.sv
  have h66 : ∀ q (K2 : Value → Heap → Prop), K2 (zi (chkX l.length fl)) (q :: H) → SCalls Tryz.prog 47 [zi (l.length : Int), .slice fa fl.length fc] (q :: H) K2 := fun q K2 hk => c47 (hf.mono fun z hz => .tail _ hz) hk
  unfold roundV at hK0 hK1
  refine enter23 ?_
  by_cases hc : chkX l.length fl = 0
  · rw [if_pos hc] at hK0 hK1
    rw [hc] at h66
    obtain ⟨hl127, hok⟩ := chkX_ok hc
    repeat' ((conv => whnf); (first | with_reducible refine h66 _ _ ?_ | refine Branch.f rfl ?_ | refine New.mk (fun _ => ?_)))
    rename_i p
    refine SLoop.invA (fun (k : Nat) S H' => k ≤ l.length ∧ ∃ a1 c1 M1 a2 c2 M2, Grow frC 12 39 (.slice a1 (cand 0 (l.take k)).length c1) ((cand 0 (l.take k)).map (·.2)) M1 ∧ Grow nC 1 3 (.slice a2 (cand 0 (l.take k)).length c2) ((cand 0 (l.take k)).map (·.1)) M2 ∧
      S23 (.slice la l.length lc) (.slice fa fl.length fc) (ptr p) (zi 0) (.slice a1 (cand 0 (l.take k)).length c1) (.slice a2 (cand 0 (l.take k)).length c2) (zi (upN (l.take k) : Int)) (.slice la l.length lc) (zi (l.length : Int)) (zi (k : Int)) S ∧
      H' = (p, .row 43 [zi 0, zi 0, .bool false, .slice none 0 0, .slice none 0 0] (0, 0)) :: (M1 ++ (M2 ++ H))) (fun k => l.length - k) 0 (Keep.all ⟨Nat.zero_le _, none, 0, [], none, 0, [], .nil, .nil, .mk, rfl⟩) ?_
    rintro k S H' ⟨hk, a1, c1, M1, a2, c2, M2, hG1, hG2, hS, rfl⟩ R hR
    by_cases hlt : k < l.length
    · obtain ⟨sn, hsn, _, htake⟩ := list_at hlt
      obtain ⟨lr, lo, lc2, lb, e1, hlb, hlcc⟩ := inS_at hl snC_len hsn
      injection e1 with e1 _ e3
      subst e1
      have htl : (l.take k).length = k := by rw [List.length_take]; omega
      have hcs := cand_snoc sn (l.take k) 0
      rw [← htake, htl, Nat.zero_add] at hcs
      have hus := upN_snoc (l.take k) sn
      rw [← htake] at hus
      have hul := upN_le (l.take k)
      have hcl := cand_len (l.take k) 0
      rw [htl] at hul hcl
      have hm : ∀ x y : Nat × Blk, (lr, lb) ∈ x :: y :: (M1 ++ (M2 ++ H)) := fun x y => .tail _ (.tail _ (List.mem_append_right _ (List.mem_append_right _ hlb)))
      have hnext : ∀ S H2 a1' c1' M1' a2' c2' M2', Grow frC 12 39 (.slice a1' (cand 0 (l.take (k + 1))).length c1') ((cand 0 (l.take (k + 1))).map (·.2)) M1' → Grow nC 1 3 (.slice a2' (cand 0 (l.take (k + 1))).length c2') ((cand 0 (l.take (k + 1))).map (·.1)) M2' →
          S23 (.slice (some ⟨lr, lo, none⟩) l.length lc) (.slice fa fl.length fc) (ptr p) (zi 0) (.slice a1' (cand 0 (l.take (k + 1))).length c1') (.slice a2' (cand 0 (l.take (k + 1))).length c2') (zi (upN (l.take (k + 1)) : Int)) (.slice (some ⟨lr, lo, none⟩) l.length lc) (zi (l.length : Int)) (zi ((k + 1 : Nat) : Int)) S →
          Keep H2 (fun H3 => H3 = (p, .row 43 [zi 0, zi 0, .bool false, .slice none 0 0, .slice none 0 0] (0, 0)) :: (M1' ++ (M2' ++ H))) → R S H2 := fun S H2 a1' c1' M1' a2' c2' M2' g1 g2 g3 g4 =>
        hR (k + 1) S H2 (by omega) (g4.mono fun H3 e => ⟨hlt, a1', c1', M1', a2', c2', M2', g1, g2, g3, e⟩)
      rw [hcs, hus] at hnext
      clear hR hK0 hK1 htake hcs hus
      obtain ⟨up, sends, f⟩ := sn
      dsimp only at hnext hlcc
      generalize hC : cand 0 (l.take k) = C at *
      generalize hU : upN (l.take k) = U at *
      cases hS
      cases up with
      | false =>
        have hn := hnext
        simp only [Bool.false_and, if_neg (show ¬ false = true by decide), List.append_nil] at hn
        clear hnext
        repeat' ((conv => whnf); (first | refine Branch.dt (by omega) ?_ | refine Branch.f rfl ?_ | refine Idx.nat (by omega) ?_ | refine Look.cells (hm _ _) rfl hlcc ?_ | refine Look.cells (.tail _ (List.mem_append_right _ (List.mem_append_right _ hlb))) rfl hlcc ?_ | exact hn _ _ _ _ _ _ _ _ hG1 hG2 .mk (Keep.d1 rfl) | refine New.mk (fun _ => ?_) | refine Look.at0 ?_ | refine Cell.row ?_ | refine Put.row rfl ?_ | with_reducible refine Val.i64 (by omega) (by omega) ?_))
      | true =>
        cases sends with
        | false =>
          have hn := hnext
          simp only [Bool.true_and, if_neg (show ¬ false = true by decide), if_true, List.append_nil] at hn
          clear hnext
          repeat' ((conv => whnf); (first | refine Branch.dt (by omega) ?_ | refine Branch.t rfl ?_ | refine Branch.f rfl ?_ | refine Idx.nat (by omega) ?_ | refine Look.cells (hm _ _) rfl hlcc ?_ | refine Look.cells (.tail _ (List.mem_append_right _ (List.mem_append_right _ hlb))) rfl hlcc ?_ | exact hn _ _ _ _ _ _ _ _ hG1 hG2 .mk (Keep.d1 rfl) | refine New.mk (fun _ => ?_) | refine Look.at0 ?_ | refine Cell.row ?_ | refine Put.row rfl ?_ | with_reducible refine Val.i64 (by omega) (by omega) ?_))
        | true =>
          have hn := hnext
          simp only [Bool.true_and, if_true, List.map_append, List.map_cons, List.map_nil, List.length_append, List.length_cons, List.length_nil] at hn
          clear hnext
          have ha1 : ∀ q1 t (o : Oper) (xs xx : Operand) (K2 : Value → Heap → Prop), o.op = .call { callee := .builtin .append, args := #[xs, xx], argTypes := #[62, 62] } → (∀ a c M, Grow frC 12 39 (.slice a (C.length + 1) c) (C.map (·.2) ++ [f]) M → K2 (.slice a (C.length + 1) c) (M ++ ((q1, .row 39 (frC f) (0, 0)) :: t :: (p, .row 43 [zi 0, zi 0, .bool false, .slice none 0 0, .slice none 0 0] (0, 0)) :: (M2 ++ H)))) →
              RawV Tryz.prog o [.slice a1 C.length c1, .slice (some ⟨q1, 0, none⟩) 1 1] ((q1, .row 39 (frC f) (0, 0)) :: t :: (p, .row 43 [zi 0, zi 0, .bool false, .slice none 0 0, .slice none 0 0] (0, 0)) :: (M1 ++ (M2 ++ H))) K2 := by
            intro q1 t o xs xx K2 ho hk
            refine RawV.grow1 (A := [(q1, .row 39 (frC f) (0, 0)), t, (p, .row 43 [zi 0, zi 0, .bool false, .slice none 0 0, .slice none 0 0] (0, 0))]) (B := M2 ++ H) (x := f) (bytes := 24) hG1 rfl (.head _) ho (by kernel_rfl) (by decide) frC_len (frC_one f) (by rw [List.length_map]; simp only [maxLen]; omega) (by rw [List.length_map]; omega) (fun a c M' g1 => ?_)
            rw [List.length_map] at g1 ⊢
            exact hk a c M' g1
          have ha2 : ∀ q2 (M1' X : Heap) (o : Oper) (xs xx : Operand) (K2 : Value → Heap → Prop), o.op = .call { callee := .builtin .append, args := #[xs, xx], argTypes := #[117, 117] } → (∀ a c M, Grow nC 1 3 (.slice a (C.length + 1) c) (C.map (·.1) ++ [k]) M → K2 (.slice a (C.length + 1) c) (M ++ ((q2, .row 3 (nC k) (0, 0)) :: (M1' ++ X) ++ H))) →
              RawV Tryz.prog o [.slice a2 C.length c2, .slice (some ⟨q2, 0, none⟩) 1 1] ((q2, .row 3 (nC k) (0, 0)) :: (M1' ++ X) ++ (M2 ++ H)) K2 := by
            intro q2 M1' X o xs xx K2 ho hk
            refine RawV.grow1 (A := (q2, .row 3 (nC k) (0, 0)) :: (M1' ++ X)) (B := H) (x := k) (bytes := 8) hG2 rfl (.head _) ho (by kernel_rfl) (by decide) nC_len (nC_one k) (by rw [List.length_map]; simp only [maxLen]; omega) (by rw [List.length_map]; omega) (fun a c M' g1 => ?_)
            rw [List.length_map] at g1 ⊢
            exact hk a c M' g1
          have ha2' : ∀ q2 (M1' : Heap) (q1 t z : Nat × Blk) (o : Oper) (xs xx : Operand) (K2 : Value → Heap → Prop), o.op = .call { callee := .builtin .append, args := #[xs, xx], argTypes := #[117, 117] } → (∀ a c M, Grow nC 1 3 (.slice a (C.length + 1) c) (C.map (·.1) ++ [k]) M → K2 (.slice a (C.length + 1) c) (M ++ ((q2, .row 3 (nC k) (0, 0)) :: (M1' ++ (q1 :: t :: z :: H))))) →
              RawV Tryz.prog o [.slice a2 C.length c2, .slice (some ⟨q2, 0, none⟩) 1 1] ((q2, .row 3 (nC k) (0, 0)) :: (M1' ++ (q1 :: t :: z :: (M2 ++ H)))) K2 := by
            intro q2 M1' q1 t z o xs xx K2 ho hk
            have := ha2 q2 M1' [q1, t, z] o xs xx K2 ho (fun a c M g => by simpa using hk a c M g)
            simpa using this
          repeat' ((conv => whnf); (first | refine Branch.dt (by omega) ?_ | refine Branch.t rfl ?_ | refine Idx.nat (by omega) ?_ | refine Look.cells (hm _ _) rfl hlcc ?_ | refine Look.cells (.tail _ (List.mem_append_right _ (List.mem_append_right _ hlb))) rfl hlcc ?_ | with_reducible refine ha1 _ _ _ _ _ _ rfl (fun a1' c1' M1' g1 => ?_) | refine ha2' _ _ _ _ _ _ _ _ _ rfl (fun a2' c2' M2' g2 => ?_) | exact hn _ _ _ _ _ _ _ _ g1 g2 .mk (Keep.glue [M2', [_], M1', [_, _], [_], H] [0, 1, 2, 3, 4, 5] [4, 2, 0, 5] [1, 3] (by decide) rfl rfl) | refine New.mk (fun _ => ?_) | refine Look.at0 ?_ | refine Cell.row ?_ | refine Cells.row rfl ?_ | refine Put.row rfl ?_ | with_reducible refine Val.i64 (by omega) (by omega) ?_))
    · obtain rfl : k = l.length := by omega
      rw [List.take_length] at hG1 hG2 hS
      have hwfC : ∀ f ∈ (cand 0 l).map (·.2), f.id < 4294967296 := fun f hf => by
        obtain ⟨⟨i, f'⟩, h1, rfl⟩ := List.mem_map.1 hf
        obtain ⟨_, s, h2, _, _, rfl⟩ := cand_mem h1
        exact hwf s (List.mem_of_getElem? h2)
      have hcl := cand_len l 0
      have hlook : ∀ i f, (i, f) ∈ cand 0 l → i < l.length := fun i f h => by
        obtain ⟨_, s, h2, _⟩ := cand_mem h
        exact (List.getElem?_eq_some_iff.1 h2).1
      unfold winV at hK0 hK1
      dsimp only at hK0 hK1
      generalize cand 0 l = C at *
      have hul := upN_le l
      clear hR
      cases hS
      have h67 : ∀ X (K2 : Value → Heap → Prop), (∀ e g, K2 (.agg ⟨[zi (-1), zi 11, .bool false, .slice (some ⟨e, 0, none⟩) l.length l.length, .slice (some ⟨g, 0, none⟩) l.length l.length]⟩) (eB e (List.replicate l.length 0) l.length :: gB g (List.replicate l.length false) l.length :: X)) → SCalls Tryz.prog 48 [zi (l.length : Int)] X K2 := fun X K2 hk => c48 hl127 hk
      by_cases hC : C = []
      · rw [if_pos hC] at hK0 hK1
        subst hC
        have hk := fun e g (t z : Nat × Blk) => Keep.glue (K := fun H' => K (.tuple ⟨[oV (noneV l.length) e g l.length, zi 0]⟩) H') [[t], [eB e (List.replicate l.length 0) l.length, gB g (List.replicate l.length false) l.length], [z], M1, M2, H] [0, 1, 2, 3, 4, 5] [1, 5] [0, 2, 3, 4] (by decide) rfl (hK1 rfl e g)
        clear hK0 hK1 hG1 hG2
        repeat' ((conv => whnf); (first | refine Branch.df (by omega) ?_ | with_reducible refine h67 _ _ (fun e g => ?_) | exact hk _ _ _ _ | refine New.mk (fun _ => ?_) | refine Look.at0 ?_ | refine Cells.row rfl ?_ | refine Put.row rfl ?_ | refine Look.at3 ?_ | refine Branch.dt rfl ?_))
      · rw [if_neg hC] at hK0 hK1
        have hCl : ¬ C.length = 0 := fun h => hC (List.length_eq_zero_iff.1 h)
        have hi1 := hG1.ins frC_len (fun z hz => hz)
        have hi2 := hG2.ins nC_len (fun z hz => hz)
        have h68 : ∀ (t u v z : Nat × Blk) (K2 : Value → Heap → Prop), K2 (.tuple ⟨[zi ((firstV (C.map (·.2))).1 : Int), zi (firstV (C.map (·.2))).2]⟩) (t :: u :: v :: z :: (M1 ++ (M2 ++ H))) → SCalls Tryz.prog 49 [.slice a1 C.length c1] (t :: u :: v :: z :: (M1 ++ (M2 ++ H))) K2 := fun t u v z K2 hk =>
          c49 (hD.mono fun q hq => .tail _ (.tail _ (.tail _ (.tail _ (List.mem_append_right _ (List.mem_append_right _ hq)))))) (hi1.mono fun q hq => .tail _ (.tail _ (.tail _ (.tail _ (List.mem_append_left _ hq))))) hwfC hk
        by_cases hr : (firstV (C.map (·.2))).2 = 0
        · rw [if_pos hr] at hK0 hK1
          obtain ⟨_, hall, _, _, hlt1⟩ := firstV_ok hr
          rw [hr] at h68
          generalize (firstV (C.map (·.2))).1 = k0 at *
          rw [List.length_map] at hlt1
          obtain ⟨⟨w, f0⟩, hx, _⟩ := list_at hlt1
          have hgd : C.getD k0 (0, z0) = (w, f0) := by rw [List.getD_eq_getElem?_getD, hx]; rfl
          rw [hgd] at hK1
          dsimp only at hK1
          have hwl := hlook w f0 (List.mem_of_getElem? hx)
          have hx1 : (C.map (·.2))[k0]? = some f0 := by rw [List.getElem?_map, hx]; rfl
          have hx2 : (C.map (·.1))[k0]? = some w := by rw [List.getElem?_map, hx]; rfl
          have hok0 := List.all_eq_true.1 hall f0 (List.mem_of_getElem? hx1)
          obtain ⟨r1, o1, c1', b1, e1, hrb1, hcc1⟩ := inS_at hi1 frC_len hx1
          obtain ⟨r2, o2, c2', b2, e2, hrb2, hcc2⟩ := inS_at hi2 nC_len hx2
          injection e1 with e1 _ _
          injection e2 with e2 _ _
          subst e1 e2
          have hw0 := hcc2 0 _ rfl
          have hsz : (strOf (encB f0 (decide ((1 : Int) < (upN l : Int))))).size = encN f0 := by rw [strOf_size, encB_len]
          have hen := encN_lt f0
          have hot : decide ((1 : Int) < (upN l : Int)) = !decide (upN l ≤ 1) := by
            by_cases h : upN l ≤ 1
            · rw [decide_eq_true h, decide_eq_false (by omega)]; rfl
            · rw [decide_eq_false h, decide_eq_true (by omega)]; rfl
          rw [← hsz] at hK1 hen
          have hk1 := hK1 rfl
          clear hK0 hK1
          have h23 : ∀ (t u v z : Nat × Blk) (K2 : Value → Heap → Prop), K2 (.tuple ⟨[.string (strOf (encB f0 (decide ((1 : Int) < (upN l : Int))))), zi 0]⟩) (t :: u :: v :: z :: (M1 ++ (M2 ++ H))) → SCalls Tryz.prog 13 [frV f0, .bool (decide ((1 : Int) < (upN l : Int)))] (t :: u :: v :: z :: (M1 ++ (M2 ++ H))) K2 := fun t u v z K2 hk =>
            c13 hok0 (hD.mono fun q hq => .tail _ (.tail _ (.tail _ (.tail _ (List.mem_append_right _ (List.mem_append_right _ hq)))))) hk
          have h69 : ∀ (r e g : Nat) (t z : Nat × Blk) (K2 : Value → Heap → Prop), K2 (.tuple ⟨[]⟩) (rB r (w : Int) (comesV l (strOf (encB f0 (decide ((1 : Int) < (upN l : Int))))).size w (frF l (strOf (encB f0 (decide ((1 : Int) < (upN l : Int))))).size w fl)).bits (comesV l (strOf (encB f0 (decide ((1 : Int) < (upN l : Int))))).size w (frF l (strOf (encB f0 (decide ((1 : Int) < (upN l : Int))))).size w fl)).sent e g l.length (.slice la l.length lc) (strOf (encB f0 (decide ((1 : Int) < (upN l : Int))))).size :: eB e (comesV l (strOf (encB f0 (decide ((1 : Int) < (upN l : Int))))).size w (frF l (strOf (encB f0 (decide ((1 : Int) < (upN l : Int))))).size w fl)).errs l.length :: gB g (comesV l (strOf (encB f0 (decide ((1 : Int) < (upN l : Int))))).size w (frF l (strOf (encB f0 (decide ((1 : Int) < (upN l : Int))))).size w fl)).got l.length :: t :: z :: (M1 ++ (M2 ++ H))) →
              SCalls Tryz.prog 50 [ptr r, .bool (decide ((1 : Int) < (upN l : Int))), .slice fa fl.length fc] (rB r (w : Int) 11 false e g l.length (.slice la l.length lc) (strOf (encB f0 (decide ((1 : Int) < (upN l : Int))))).size :: t :: eB e (List.replicate l.length 0) l.length :: gB g (List.replicate l.length false) l.length :: z :: (M1 ++ (M2 ++ H))) K2 := by
            intro r e g t z K2 hk
            refine SCalls.glue [[rB r (w : Int) 11 false e g l.length (.slice la l.length lc) (strOf (encB f0 (decide ((1 : Int) < (upN l : Int))))).size], [t], [eB e (List.replicate l.length 0) l.length, gB g (List.replicate l.length false) l.length], [z], M1, M2, H] [0, 1, 2, 3, 4, 5, 6] [0, 2, 1, 3, 4, 5, 6] (by decide) (by simp [glue]) ?_
            refine c50 (H := t :: z :: (M1 ++ (M2 ++ H))) (hl.mono fun q hq => .tail _ (.tail _ (List.mem_append_right _ (List.mem_append_right _ hq)))) hl127 (hf.mono fun q hq => .tail _ (.tail _ (List.mem_append_right _ (List.mem_append_right _ hq)))) hok hwl (by omega) (by omega) hot hk
          have hwin : (comesV l (strOf (encB f0 (decide ((1 : Int) < (upN l : Int))))).size w (frF l (strOf (encB f0 (decide ((1 : Int) < (upN l : Int))))).size w fl)).win = (w : Int) := by
            unfold comesV
            split
            · rfl
            · split
              · rfl
              · split <;> rfl
          generalize comesV l (strOf (encB f0 (decide ((1 : Int) < (upN l : Int))))).size w (frF l (strOf (encB f0 (decide ((1 : Int) < (upN l : Int))))).size w fl) = O at *
          obtain ⟨win, bits, sent, errs, got⟩ := O
          dsimp only at hwin hk1 h69
          subst hwin
          have hk := fun (x : Nat × Blk) (t z : Nat × Blk) e g => Keep.glue (K := fun H' => K (.tuple ⟨[oV ⟨(w : Int), bits, sent, errs, got⟩ e g l.length, zi 0]⟩) H') [[x], [eB e errs l.length, gB g got l.length], [t, z], M1, M2, H] [0, 1, 2, 3, 4, 5] [1, 5] [0, 2, 3, 4] (by decide) rfl (hk1 e g)
          have hcC : ¬ ((C.length : Int) = 0) := by omega
          clear hk1 hi1 hi2 hG1 hG2
          repeat' ((conv => whnf); (first | refine Branch.df hcC ?_ | refine Branch.df (by omega) ?_ | with_reducible refine h67 _ _ (fun e g => ?_) | with_reducible refine h68 _ _ _ _ _ ?_ | refine Branch.f rfl ?_ | refine Idx.nat hlt1 ?_ | refine Look.cells (.tail _ (.tail _ (.tail _ (.tail _ (List.mem_append_left _ hrb1))))) rfl hcc1 ?_ | with_reducible refine h23 _ _ _ _ _ ?_ | refine Look.cell (.tail _ (.tail _ (.tail _ (.tail _ (List.mem_append_right _ (List.mem_append_left _ hrb2)))))) hw0 ?_ | with_reducible refine h69 _ _ _ _ _ _ ?_ | exact hk _ _ _ _ _ | refine New.mk (fun _ => ?_) | refine Look.at0 ?_ | refine Cells.row rfl ?_ | refine Put.row rfl ?_ | refine Look.at4 ?_))
        · rw [if_neg hr] at hK0 hK1
          have h := hK0 hr
          clear hK0 hK1
          have hb : decide ((firstV (C.map (·.2))).2 = 0) = false := decide_eq_false hr
          have hk := fun e g (t z : Nat × Blk) => Keep.glue (K := fun H' => K (.tuple ⟨[oZ, zi (firstV (C.map (·.2))).2]⟩) H') [[t, e, g, z], M1, M2, H] [0, 1, 2, 3] [3] [0, 1, 2] (by decide) rfl h
          have hcC : ¬ ((C.length : Int) = 0) := by omega
          clear h hG1 hG2
          repeat' ((conv => whnf); (first | refine Branch.df hcC ?_ | refine Branch.df (by omega) ?_ | with_reducible refine h67 _ _ (fun e g => ?_) | with_reducible refine h68 _ _ _ _ _ ?_ | refine Branch.t (by rw [hb]; rfl) ?_ | exact hk _ _ _ _ | refine New.mk (fun _ => ?_) | refine Look.at0 ?_ | refine Cells.row rfl ?_ | refine Put.row rfl ?_ | refine Look.at3 ?_))
  · rw [if_neg hc] at hK0
    have h := hK0 hc
    clear hK0 hK1
    have hb : decide (chkX l.length fl = 0) = false := decide_eq_false hc
    repeat' ((conv => whnf); (first | with_reducible refine h66 _ _ ?_ | refine Branch.t (by rw [hb]; rfl) ?_ | exact Keep.d1 h | refine New.mk (fun _ => ?_) | refine Look.at0 ?_ | refine Cells.row rfl ?_ | refine Put.row rfl ?_))
end
end Go.Proofs.YtiaginlnapiijaaGreatDoor


