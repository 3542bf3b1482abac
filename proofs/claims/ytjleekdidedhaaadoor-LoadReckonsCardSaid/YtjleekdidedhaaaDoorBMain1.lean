/- Layer 25: a message's arbitration field and its time, by the program and by the document: by walks. -/
import Derived.Test.YtjleekdidedhaaaDoorBMain
import Derived.Test.YtjleekdidedhaaaDoorBSx1

set_option linter.unusedVariables false
set_option linter.unusedSimpArgs false
set_option maxRecDepth 100000
set_option maxHeartbeats 4000000
namespace Go.Proofs.YtjleekdidedhaaaDoor
open Sx
/-- Whether a frame of such a number can be. -/
def okF (id : Nat) (x : Bool) (n : Int) : Bool := decide (0 ≤ n) && decide (n ≤ 15) && decide (id < if x then 536870912 else 2048)
def fldB (id : Nat) (x : Bool) : List UInt8 := if x then numB 11 (id / 2 ^ 18) ++ [49, 49] ++ numB 18 (id % 2 ^ 18) ++ [48] else numB 11 id ++ [48] ++ [48]
def fV (id : Nat) (x : Bool) (n : Int) : List UInt8 × Int := if okF id x n then (fldB id x, 0) else ([], 1)
abbrev frC (id : Nat) (x : Bool) (n : Int) : Value := .agg ⟨[.int .u32 (id : Int), .bool x, .bool false, .int .i64 n, .int .u8 0, .int .u8 0, .int .u8 0, .int .u8 0, .int .u8 0, .int .u8 0, .int .u8 0, .int .u8 0]⟩
abbrev mgC (id : Nat) (x : Bool) (n : Int) (p j : Nat) : Value := .agg ⟨[.int .u32 (id : Int), .bool x, .int .i64 n, .int .u64 (p : Int), .int .u64 (j : Int)]⟩
theorem bt105 : BT 105 0 := by unfold BT; kernel_rfl
section
variable {K : Value → Heap → Prop} {H : Heap} {id : Nat} {x : Bool} {n : Int} {p j : Nat}
theorem c42 (hid : id < 4294967296) (hK : K (.int .i64 (if okF id x n then 0 else 1)) H) : SCalls Tryd.prog 42 [frC id x n] H K := by
  refine enter42 ?_
  have h11 : shrI .u32 (id : Int) 11 = ((id / 2 ^ 11 : Nat) : Int) := shr_nat (k := .u32) (n := 11) (by decide)
  have h29 : shrI .u32 (id : Int) 29 = ((id / 2 ^ 29 : Nat) : Int) := shr_nat (k := .u32) (n := 29) (by decide)
  have e : ∀ b, okF id x n = b → (if okF id x n then (0 : Int) else 1) = if b then 0 else 1 := fun b h => by rw [h]
  cases x with
  | true =>
    by_cases hg : okF id true n = true
    · rw [e _ hg] at hK
      unfold okF at hg
      simp only [Bool.and_eq_true, decide_eq_true_eq, if_true] at hg
      rw [Nat.div_eq_of_lt (show id < 2 ^ 29 by omega)] at h29
      repeat' ((conv => whnf); (first
          | with_reducible refine Val.to _ h29 ?_
          | refine Branch.f rfl ?_
          | exact Keep.d1 hK
          | refine New.mk (fun _ => ?_)
          | refine Look.at0 ?_
          | refine Cell.row ?_
          | refine Cell.buf ?_
          | refine Cells.row rfl ?_
          | refine Put.row rfl ?_
          | refine Put.buf rfl ?_
          | refine Look.at1 ?_
          | refine Look.at2 ?_
          | refine Look.at3 ?_
          | refine Look.at4 ?_
          | refine Look.at5 ?_
          | refine Look.at6 ?_
          | refine Look.at7 ?_
          | refine Look.at8 ?_
          | with_reducible refine Val.i64 (by omega) (by omega) ?_
          | with_reducible refine Val.u8 (by omega) (by omega) ?_
          | with_reducible refine Val.u32 (by omega) (by omega) ?_
          | with_reducible refine Val.u64 (by omega) (by omega) ?_
          | with_reducible refine Val.u8m ?_
          | with_reducible refine Val.u32m ?_
          | with_reducible refine Val.u64m ?_
          | with_reducible refine Val.shr8 ?_
          | with_reducible refine Val.shr16 (by decide) ?_
          | with_reducible refine Val.shr24 (by decide) ?_
          | with_reducible refine Val.raw ?_
          | refine Branch.not ?_
          | refine Branch.and ?_
          | refine Branch.or ?_
          | refine Branch.dt (by assumption) ?_
          | refine Branch.df (by assumption) ?_
          | refine Branch.dt rfl ?_
          | refine Branch.dt (by omega) ?_
          | refine Branch.df (by omega) ?_
          | refine Branch.t rfl ?_
          | refine Branch.f rfl ?_
          | refine Branch.t (by assumption) ?_
          | refine Branch.f (by assumption) ?_
          | refine Branch.d (fun _ => ?_) (fun _ => ?_)
          | refine Branch.mk (fun _ => ?_) (fun _ => ?_)
          | refine Need.mk (by first | omega | decide | rfl) ?_
          | refine Idx.nat (by omega) ?_
          | refine Idx.auto (by first | omega | decide) (by first | omega | decide) ?_
          | refine Cell.ro rfl ?_
          | refine SDraw.all (by kernel_rfl) ?_
          | refine Kept.k0 ?_
          | refine Kept.k1 ?_
          | refine Kept.k2 ?_
          | refine Kept.k3 ?_
          | refine Kept.k4 ?_))
    · have hg' : okF id true n = false := by simpa using hg
      rw [e _ hg'] at hK
      unfold okF at hg'
      simp only [Bool.and_eq_false_iff, decide_eq_false_iff_not, if_true] at hg'
      have hz : ¬ id < 536870912 → ¬ ((id / 2 ^ 29 : Nat) : Int) = 0 := fun h => by omega
      have hz2 : id < 536870912 → ((id / 2 ^ 29 : Nat) : Int) = 0 := fun h => by omega
      by_cases h1 : id < 536870912
      · rw [hz2 h1] at h29
        by_cases h2 : 0 ≤ n
        · repeat' ((conv => whnf); (first
              | with_reducible refine Val.to _ h29 ?_
              | refine Branch.df (by omega) ?_
              | refine Branch.dt (by omega) ?_
              | refine Branch.f rfl ?_
              | exact Keep.d1 hK
              | refine New.mk (fun _ => ?_)
              | refine Look.at0 ?_
              | refine Cell.row ?_
              | refine Cell.buf ?_
              | refine Cells.row rfl ?_
              | refine Put.row rfl ?_
              | refine Put.buf rfl ?_
              | refine Look.at1 ?_
              | refine Look.at2 ?_
              | refine Look.at3 ?_
              | refine Look.at4 ?_
              | refine Look.at5 ?_
              | refine Look.at6 ?_
              | refine Look.at7 ?_
              | refine Look.at8 ?_
              | with_reducible refine Val.i64 (by omega) (by omega) ?_
              | with_reducible refine Val.u8 (by omega) (by omega) ?_
              | with_reducible refine Val.u32 (by omega) (by omega) ?_
              | with_reducible refine Val.u64 (by omega) (by omega) ?_
              | with_reducible refine Val.u8m ?_
              | with_reducible refine Val.u32m ?_
              | with_reducible refine Val.u64m ?_
              | with_reducible refine Val.shr8 ?_
              | with_reducible refine Val.shr16 (by decide) ?_
              | with_reducible refine Val.shr24 (by decide) ?_
              | with_reducible refine Val.raw ?_
              | refine Branch.not ?_
              | refine Branch.and ?_
              | refine Branch.or ?_
              | refine Branch.dt (by assumption) ?_
              | refine Branch.df (by assumption) ?_
              | refine Branch.dt rfl ?_
              | refine Branch.dt (by omega) ?_
              | refine Branch.df (by omega) ?_
              | refine Branch.t rfl ?_
              | refine Branch.f rfl ?_
              | refine Branch.t (by assumption) ?_
              | refine Branch.f (by assumption) ?_
              | refine Branch.d (fun _ => ?_) (fun _ => ?_)
              | refine Branch.mk (fun _ => ?_) (fun _ => ?_)
              | refine Need.mk (by first | omega | decide | rfl) ?_
              | refine Idx.nat (by omega) ?_
              | refine Idx.auto (by first | omega | decide) (by first | omega | decide) ?_
              | refine Cell.ro rfl ?_
              | refine SDraw.all (by kernel_rfl) ?_
              | refine Kept.k0 ?_
              | refine Kept.k1 ?_
              | refine Kept.k2 ?_
              | refine Kept.k3 ?_
              | refine Kept.k4 ?_))
        · repeat' ((conv => whnf); (first
              | with_reducible refine Val.to _ h29 ?_
              | refine Branch.df (by omega) ?_
              | refine Branch.dt (by omega) ?_
              | refine Branch.f rfl ?_
              | exact Keep.d1 hK
              | refine New.mk (fun _ => ?_)
              | refine Look.at0 ?_
              | refine Cell.row ?_
              | refine Cell.buf ?_
              | refine Cells.row rfl ?_
              | refine Put.row rfl ?_
              | refine Put.buf rfl ?_
              | refine Look.at1 ?_
              | refine Look.at2 ?_
              | refine Look.at3 ?_
              | refine Look.at4 ?_
              | refine Look.at5 ?_
              | refine Look.at6 ?_
              | refine Look.at7 ?_
              | refine Look.at8 ?_
              | with_reducible refine Val.i64 (by omega) (by omega) ?_
              | with_reducible refine Val.u8 (by omega) (by omega) ?_
              | with_reducible refine Val.u32 (by omega) (by omega) ?_
              | with_reducible refine Val.u64 (by omega) (by omega) ?_
              | with_reducible refine Val.u8m ?_
              | with_reducible refine Val.u32m ?_
              | with_reducible refine Val.u64m ?_
              | with_reducible refine Val.shr8 ?_
              | with_reducible refine Val.shr16 (by decide) ?_
              | with_reducible refine Val.shr24 (by decide) ?_
              | with_reducible refine Val.raw ?_
              | refine Branch.not ?_
              | refine Branch.and ?_
              | refine Branch.or ?_
              | refine Branch.dt (by assumption) ?_
              | refine Branch.df (by assumption) ?_
              | refine Branch.dt rfl ?_
              | refine Branch.dt (by omega) ?_
              | refine Branch.df (by omega) ?_
              | refine Branch.t rfl ?_
              | refine Branch.f rfl ?_
              | refine Branch.t (by assumption) ?_
              | refine Branch.f (by assumption) ?_
              | refine Branch.d (fun _ => ?_) (fun _ => ?_)
              | refine Branch.mk (fun _ => ?_) (fun _ => ?_)
              | refine Need.mk (by first | omega | decide | rfl) ?_
              | refine Idx.nat (by omega) ?_
              | refine Idx.auto (by first | omega | decide) (by first | omega | decide) ?_
              | refine Cell.ro rfl ?_
              | refine SDraw.all (by kernel_rfl) ?_
              | refine Kept.k0 ?_
              | refine Kept.k1 ?_
              | refine Kept.k2 ?_
              | refine Kept.k3 ?_
              | refine Kept.k4 ?_))
      · have hz := hz h1
        have h29' : shrI .u32 (id : Int) (11 + 18) = ((id / 2 ^ 29 : Nat) : Int) := h29
        repeat' ((conv => whnf); (first
            | refine Branch.df (by rw [h29']; exact hz) ?_
            | exact Keep.d1 hK
            | refine New.mk (fun _ => ?_)
            | refine Look.at0 ?_
            | refine Cell.row ?_
            | refine Cell.buf ?_
            | refine Cells.row rfl ?_
            | refine Put.row rfl ?_
            | refine Put.buf rfl ?_
            | refine Look.at1 ?_
            | refine Look.at2 ?_
            | refine Look.at3 ?_
            | refine Look.at4 ?_
            | refine Look.at5 ?_
            | refine Look.at6 ?_
            | refine Look.at7 ?_
            | refine Look.at8 ?_
            | with_reducible refine Val.i64 (by omega) (by omega) ?_
            | with_reducible refine Val.u8 (by omega) (by omega) ?_
            | with_reducible refine Val.u32 (by omega) (by omega) ?_
            | with_reducible refine Val.u64 (by omega) (by omega) ?_
            | with_reducible refine Val.u8m ?_
            | with_reducible refine Val.u32m ?_
            | with_reducible refine Val.u64m ?_
            | with_reducible refine Val.shr8 ?_
            | with_reducible refine Val.shr16 (by decide) ?_
            | with_reducible refine Val.shr24 (by decide) ?_
            | with_reducible refine Val.raw ?_
            | refine Branch.not ?_
            | refine Branch.and ?_
            | refine Branch.or ?_
            | refine Branch.dt (by assumption) ?_
            | refine Branch.df (by assumption) ?_
            | refine Branch.dt rfl ?_
            | refine Branch.dt (by omega) ?_
            | refine Branch.df (by omega) ?_
            | refine Branch.t rfl ?_
            | refine Branch.f rfl ?_
            | refine Branch.t (by assumption) ?_
            | refine Branch.f (by assumption) ?_
            | refine Branch.d (fun _ => ?_) (fun _ => ?_)
            | refine Branch.mk (fun _ => ?_) (fun _ => ?_)
            | refine Need.mk (by first | omega | decide | rfl) ?_
            | refine Idx.nat (by omega) ?_
            | refine Idx.auto (by first | omega | decide) (by first | omega | decide) ?_
            | refine Cell.ro rfl ?_
            | refine SDraw.all (by kernel_rfl) ?_
            | refine Kept.k0 ?_
            | refine Kept.k1 ?_
            | refine Kept.k2 ?_
            | refine Kept.k3 ?_
            | refine Kept.k4 ?_))
  | false =>
    by_cases hg : okF id false n = true
    · rw [e _ hg] at hK
      unfold okF at hg
      simp only [Bool.and_eq_true, decide_eq_true_eq, Bool.false_eq_true, if_false] at hg
      rw [Nat.div_eq_of_lt (show id < 2 ^ 11 by omega)] at h11
      repeat' ((conv => whnf); (first
          | with_reducible refine Val.to _ h11 ?_
          | refine Branch.f rfl ?_
          | exact Keep.d1 hK
          | refine New.mk (fun _ => ?_)
          | refine Look.at0 ?_
          | refine Cell.row ?_
          | refine Cell.buf ?_
          | refine Cells.row rfl ?_
          | refine Put.row rfl ?_
          | refine Put.buf rfl ?_
          | refine Look.at1 ?_
          | refine Look.at2 ?_
          | refine Look.at3 ?_
          | refine Look.at4 ?_
          | refine Look.at5 ?_
          | refine Look.at6 ?_
          | refine Look.at7 ?_
          | refine Look.at8 ?_
          | with_reducible refine Val.i64 (by omega) (by omega) ?_
          | with_reducible refine Val.u8 (by omega) (by omega) ?_
          | with_reducible refine Val.u32 (by omega) (by omega) ?_
          | with_reducible refine Val.u64 (by omega) (by omega) ?_
          | with_reducible refine Val.u8m ?_
          | with_reducible refine Val.u32m ?_
          | with_reducible refine Val.u64m ?_
          | with_reducible refine Val.shr8 ?_
          | with_reducible refine Val.shr16 (by decide) ?_
          | with_reducible refine Val.shr24 (by decide) ?_
          | with_reducible refine Val.raw ?_
          | refine Branch.not ?_
          | refine Branch.and ?_
          | refine Branch.or ?_
          | refine Branch.dt (by assumption) ?_
          | refine Branch.df (by assumption) ?_
          | refine Branch.dt rfl ?_
          | refine Branch.dt (by omega) ?_
          | refine Branch.df (by omega) ?_
          | refine Branch.t rfl ?_
          | refine Branch.f rfl ?_
          | refine Branch.t (by assumption) ?_
          | refine Branch.f (by assumption) ?_
          | refine Branch.d (fun _ => ?_) (fun _ => ?_)
          | refine Branch.mk (fun _ => ?_) (fun _ => ?_)
          | refine Need.mk (by first | omega | decide | rfl) ?_
          | refine Idx.nat (by omega) ?_
          | refine Idx.auto (by first | omega | decide) (by first | omega | decide) ?_
          | refine Cell.ro rfl ?_
          | refine SDraw.all (by kernel_rfl) ?_
          | refine Kept.k0 ?_
          | refine Kept.k1 ?_
          | refine Kept.k2 ?_
          | refine Kept.k3 ?_
          | refine Kept.k4 ?_))
    · have hg' : okF id false n = false := by simpa using hg
      rw [e _ hg'] at hK
      unfold okF at hg'
      simp only [Bool.and_eq_false_iff, decide_eq_false_iff_not, Bool.false_eq_true, if_false] at hg'
      have hz : ¬ id < 2048 → ¬ ((id / 2 ^ 11 : Nat) : Int) = 0 := fun h => by omega
      have hz2 : id < 2048 → ((id / 2 ^ 11 : Nat) : Int) = 0 := fun h => by omega
      by_cases h1 : id < 2048
      · rw [hz2 h1] at h11
        by_cases h2 : 0 ≤ n
        · repeat' ((conv => whnf); (first
              | with_reducible refine Val.to _ h11 ?_
              | refine Branch.df (by omega) ?_
              | refine Branch.dt (by omega) ?_
              | refine Branch.f rfl ?_
              | exact Keep.d1 hK
              | refine New.mk (fun _ => ?_)
              | refine Look.at0 ?_
              | refine Cell.row ?_
              | refine Cell.buf ?_
              | refine Cells.row rfl ?_
              | refine Put.row rfl ?_
              | refine Put.buf rfl ?_
              | refine Look.at1 ?_
              | refine Look.at2 ?_
              | refine Look.at3 ?_
              | refine Look.at4 ?_
              | refine Look.at5 ?_
              | refine Look.at6 ?_
              | refine Look.at7 ?_
              | refine Look.at8 ?_
              | with_reducible refine Val.i64 (by omega) (by omega) ?_
              | with_reducible refine Val.u8 (by omega) (by omega) ?_
              | with_reducible refine Val.u32 (by omega) (by omega) ?_
              | with_reducible refine Val.u64 (by omega) (by omega) ?_
              | with_reducible refine Val.u8m ?_
              | with_reducible refine Val.u32m ?_
              | with_reducible refine Val.u64m ?_
              | with_reducible refine Val.shr8 ?_
              | with_reducible refine Val.shr16 (by decide) ?_
              | with_reducible refine Val.shr24 (by decide) ?_
              | with_reducible refine Val.raw ?_
              | refine Branch.not ?_
              | refine Branch.and ?_
              | refine Branch.or ?_
              | refine Branch.dt (by assumption) ?_
              | refine Branch.df (by assumption) ?_
              | refine Branch.dt rfl ?_
              | refine Branch.dt (by omega) ?_
              | refine Branch.df (by omega) ?_
              | refine Branch.t rfl ?_
              | refine Branch.f rfl ?_
              | refine Branch.t (by assumption) ?_
              | refine Branch.f (by assumption) ?_
              | refine Branch.d (fun _ => ?_) (fun _ => ?_)
              | refine Branch.mk (fun _ => ?_) (fun _ => ?_)
              | refine Need.mk (by first | omega | decide | rfl) ?_
              | refine Idx.nat (by omega) ?_
              | refine Idx.auto (by first | omega | decide) (by first | omega | decide) ?_
              | refine Cell.ro rfl ?_
              | refine SDraw.all (by kernel_rfl) ?_
              | refine Kept.k0 ?_
              | refine Kept.k1 ?_
              | refine Kept.k2 ?_
              | refine Kept.k3 ?_
              | refine Kept.k4 ?_))
        · repeat' ((conv => whnf); (first
              | with_reducible refine Val.to _ h11 ?_
              | refine Branch.df (by omega) ?_
              | refine Branch.dt (by omega) ?_
              | refine Branch.f rfl ?_
              | exact Keep.d1 hK
              | refine New.mk (fun _ => ?_)
              | refine Look.at0 ?_
              | refine Cell.row ?_
              | refine Cell.buf ?_
              | refine Cells.row rfl ?_
              | refine Put.row rfl ?_
              | refine Put.buf rfl ?_
              | refine Look.at1 ?_
              | refine Look.at2 ?_
              | refine Look.at3 ?_
              | refine Look.at4 ?_
              | refine Look.at5 ?_
              | refine Look.at6 ?_
              | refine Look.at7 ?_
              | refine Look.at8 ?_
              | with_reducible refine Val.i64 (by omega) (by omega) ?_
              | with_reducible refine Val.u8 (by omega) (by omega) ?_
              | with_reducible refine Val.u32 (by omega) (by omega) ?_
              | with_reducible refine Val.u64 (by omega) (by omega) ?_
              | with_reducible refine Val.u8m ?_
              | with_reducible refine Val.u32m ?_
              | with_reducible refine Val.u64m ?_
              | with_reducible refine Val.shr8 ?_
              | with_reducible refine Val.shr16 (by decide) ?_
              | with_reducible refine Val.shr24 (by decide) ?_
              | with_reducible refine Val.raw ?_
              | refine Branch.not ?_
              | refine Branch.and ?_
              | refine Branch.or ?_
              | refine Branch.dt (by assumption) ?_
              | refine Branch.df (by assumption) ?_
              | refine Branch.dt rfl ?_
              | refine Branch.dt (by omega) ?_
              | refine Branch.df (by omega) ?_
              | refine Branch.t rfl ?_
              | refine Branch.f rfl ?_
              | refine Branch.t (by assumption) ?_
              | refine Branch.f (by assumption) ?_
              | refine Branch.d (fun _ => ?_) (fun _ => ?_)
              | refine Branch.mk (fun _ => ?_) (fun _ => ?_)
              | refine Need.mk (by first | omega | decide | rfl) ?_
              | refine Idx.nat (by omega) ?_
              | refine Idx.auto (by first | omega | decide) (by first | omega | decide) ?_
              | refine Cell.ro rfl ?_
              | refine SDraw.all (by kernel_rfl) ?_
              | refine Kept.k0 ?_
              | refine Kept.k1 ?_
              | refine Kept.k2 ?_
              | refine Kept.k3 ?_
              | refine Kept.k4 ?_))
      · have hz := hz h1
        repeat' ((conv => whnf); (first
            | with_reducible refine Val.to _ h11 ?_
            | refine Branch.t (by first | (simp [hz]; done) | omega) ?_
            | exact Keep.d1 hK
            | refine New.mk (fun _ => ?_)
            | refine Look.at0 ?_
            | refine Cell.row ?_
            | refine Cell.buf ?_
            | refine Cells.row rfl ?_
            | refine Put.row rfl ?_
            | refine Put.buf rfl ?_
            | refine Look.at1 ?_
            | refine Look.at2 ?_
            | refine Look.at3 ?_
            | refine Look.at4 ?_
            | refine Look.at5 ?_
            | refine Look.at6 ?_
            | refine Look.at7 ?_
            | refine Look.at8 ?_
            | with_reducible refine Val.i64 (by omega) (by omega) ?_
            | with_reducible refine Val.u8 (by omega) (by omega) ?_
            | with_reducible refine Val.u32 (by omega) (by omega) ?_
            | with_reducible refine Val.u64 (by omega) (by omega) ?_
            | with_reducible refine Val.u8m ?_
            | with_reducible refine Val.u32m ?_
            | with_reducible refine Val.u64m ?_
            | with_reducible refine Val.shr8 ?_
            | with_reducible refine Val.shr16 (by decide) ?_
            | with_reducible refine Val.shr24 (by decide) ?_
            | with_reducible refine Val.raw ?_
            | refine Branch.not ?_
            | refine Branch.and ?_
            | refine Branch.or ?_
            | refine Branch.dt (by assumption) ?_
            | refine Branch.df (by assumption) ?_
            | refine Branch.dt rfl ?_
            | refine Branch.dt (by omega) ?_
            | refine Branch.df (by omega) ?_
            | refine Branch.t rfl ?_
            | refine Branch.f rfl ?_
            | refine Branch.t (by assumption) ?_
            | refine Branch.f (by assumption) ?_
            | refine Branch.d (fun _ => ?_) (fun _ => ?_)
            | refine Branch.mk (fun _ => ?_) (fun _ => ?_)
            | refine Need.mk (by first | omega | decide | rfl) ?_
            | refine Idx.nat (by omega) ?_
            | refine Idx.auto (by first | omega | decide) (by first | omega | decide) ?_
            | refine Cell.ro rfl ?_
            | refine SDraw.all (by kernel_rfl) ?_
            | refine Kept.k0 ?_
            | refine Kept.k1 ?_
            | refine Kept.k2 ?_
            | refine Kept.k3 ?_
            | refine Kept.k4 ?_))
theorem c32 (hK : K (.int .i64 (if okF id x n then 0 else 1)) H) : SCalls Tryd.prog 32 [frC id x n] H K := by
  refine enter32 ?_
  have e : ∀ b, okF id x n = b → (if okF id x n then (0 : Int) else 1) = if b then 0 else 1 := fun b h => by rw [h]
  cases x with
  | true =>
    by_cases hg : okF id true n = true
    · rw [e _ hg] at hK
      unfold okF at hg
      simp only [Bool.and_eq_true, decide_eq_true_eq, if_true] at hg
      repeat' ((conv => whnf); (first
          | refine Branch.dt (by omega) ?_
          | refine Branch.df (by omega) ?_
          | refine Branch.f rfl ?_
          | exact Keep.d1 hK
          | refine New.mk (fun _ => ?_)
          | refine Look.at0 ?_
          | refine Cell.row ?_
          | refine Cell.buf ?_
          | refine Cells.row rfl ?_
          | refine Put.row rfl ?_
          | refine Put.buf rfl ?_
          | refine Look.at1 ?_
          | refine Look.at2 ?_
          | refine Look.at3 ?_
          | refine Look.at4 ?_
          | refine Look.at5 ?_
          | refine Look.at6 ?_
          | refine Look.at7 ?_
          | refine Look.at8 ?_
          | with_reducible refine Val.i64 (by omega) (by omega) ?_
          | with_reducible refine Val.u8 (by omega) (by omega) ?_
          | with_reducible refine Val.u32 (by omega) (by omega) ?_
          | with_reducible refine Val.u64 (by omega) (by omega) ?_
          | with_reducible refine Val.u8m ?_
          | with_reducible refine Val.u32m ?_
          | with_reducible refine Val.u64m ?_
          | with_reducible refine Val.shr8 ?_
          | with_reducible refine Val.shr16 (by decide) ?_
          | with_reducible refine Val.shr24 (by decide) ?_
          | with_reducible refine Val.raw ?_
          | refine Branch.not ?_
          | refine Branch.and ?_
          | refine Branch.or ?_
          | refine Branch.dt (by assumption) ?_
          | refine Branch.df (by assumption) ?_
          | refine Branch.dt rfl ?_
          | refine Branch.dt (by omega) ?_
          | refine Branch.df (by omega) ?_
          | refine Branch.t rfl ?_
          | refine Branch.f rfl ?_
          | refine Branch.t (by assumption) ?_
          | refine Branch.f (by assumption) ?_
          | refine Branch.d (fun _ => ?_) (fun _ => ?_)
          | refine Branch.mk (fun _ => ?_) (fun _ => ?_)
          | refine Need.mk (by first | omega | decide | rfl) ?_
          | refine Idx.nat (by omega) ?_
          | refine Idx.auto (by first | omega | decide) (by first | omega | decide) ?_
          | refine Cell.ro rfl ?_
          | refine SDraw.all (by kernel_rfl) ?_
          | refine Kept.k0 ?_
          | refine Kept.k1 ?_
          | refine Kept.k2 ?_
          | refine Kept.k3 ?_
          | refine Kept.k4 ?_))
    · have hg' : okF id true n = false := by simpa using hg
      rw [e _ hg'] at hK
      unfold okF at hg'
      simp only [Bool.and_eq_false_iff, decide_eq_false_iff_not, if_true] at hg'
      by_cases h2 : 0 ≤ n
      · by_cases h3 : n ≤ 15
        · repeat' ((conv => whnf); (first
              | refine Branch.dt (by omega) ?_
              | refine Branch.df (by omega) ?_
              | refine Branch.f rfl ?_
              | exact Keep.d1 hK
              | refine New.mk (fun _ => ?_)
              | refine Look.at0 ?_
              | refine Cell.row ?_
              | refine Cell.buf ?_
              | refine Cells.row rfl ?_
              | refine Put.row rfl ?_
              | refine Put.buf rfl ?_
              | refine Look.at1 ?_
              | refine Look.at2 ?_
              | refine Look.at3 ?_
              | refine Look.at4 ?_
              | refine Look.at5 ?_
              | refine Look.at6 ?_
              | refine Look.at7 ?_
              | refine Look.at8 ?_
              | with_reducible refine Val.i64 (by omega) (by omega) ?_
              | with_reducible refine Val.u8 (by omega) (by omega) ?_
              | with_reducible refine Val.u32 (by omega) (by omega) ?_
              | with_reducible refine Val.u64 (by omega) (by omega) ?_
              | with_reducible refine Val.u8m ?_
              | with_reducible refine Val.u32m ?_
              | with_reducible refine Val.u64m ?_
              | with_reducible refine Val.shr8 ?_
              | with_reducible refine Val.shr16 (by decide) ?_
              | with_reducible refine Val.shr24 (by decide) ?_
              | with_reducible refine Val.raw ?_
              | refine Branch.not ?_
              | refine Branch.and ?_
              | refine Branch.or ?_
              | refine Branch.dt (by assumption) ?_
              | refine Branch.df (by assumption) ?_
              | refine Branch.dt rfl ?_
              | refine Branch.dt (by omega) ?_
              | refine Branch.df (by omega) ?_
              | refine Branch.t rfl ?_
              | refine Branch.f rfl ?_
              | refine Branch.t (by assumption) ?_
              | refine Branch.f (by assumption) ?_
              | refine Branch.d (fun _ => ?_) (fun _ => ?_)
              | refine Branch.mk (fun _ => ?_) (fun _ => ?_)
              | refine Need.mk (by first | omega | decide | rfl) ?_
              | refine Idx.nat (by omega) ?_
              | refine Idx.auto (by first | omega | decide) (by first | omega | decide) ?_
              | refine Cell.ro rfl ?_
              | refine SDraw.all (by kernel_rfl) ?_
              | refine Kept.k0 ?_
              | refine Kept.k1 ?_
              | refine Kept.k2 ?_
              | refine Kept.k3 ?_
              | refine Kept.k4 ?_))
        · repeat' ((conv => whnf); (first
              | refine Branch.dt (by omega) ?_
              | refine Branch.df (by omega) ?_
              | refine Branch.f rfl ?_
              | exact Keep.d1 hK
              | refine New.mk (fun _ => ?_)
              | refine Look.at0 ?_
              | refine Cell.row ?_
              | refine Cell.buf ?_
              | refine Cells.row rfl ?_
              | refine Put.row rfl ?_
              | refine Put.buf rfl ?_
              | refine Look.at1 ?_
              | refine Look.at2 ?_
              | refine Look.at3 ?_
              | refine Look.at4 ?_
              | refine Look.at5 ?_
              | refine Look.at6 ?_
              | refine Look.at7 ?_
              | refine Look.at8 ?_
              | with_reducible refine Val.i64 (by omega) (by omega) ?_
              | with_reducible refine Val.u8 (by omega) (by omega) ?_
              | with_reducible refine Val.u32 (by omega) (by omega) ?_
              | with_reducible refine Val.u64 (by omega) (by omega) ?_
              | with_reducible refine Val.u8m ?_
              | with_reducible refine Val.u32m ?_
              | with_reducible refine Val.u64m ?_
              | with_reducible refine Val.shr8 ?_
              | with_reducible refine Val.shr16 (by decide) ?_
              | with_reducible refine Val.shr24 (by decide) ?_
              | with_reducible refine Val.raw ?_
              | refine Branch.not ?_
              | refine Branch.and ?_
              | refine Branch.or ?_
              | refine Branch.dt (by assumption) ?_
              | refine Branch.df (by assumption) ?_
              | refine Branch.dt rfl ?_
              | refine Branch.dt (by omega) ?_
              | refine Branch.df (by omega) ?_
              | refine Branch.t rfl ?_
              | refine Branch.f rfl ?_
              | refine Branch.t (by assumption) ?_
              | refine Branch.f (by assumption) ?_
              | refine Branch.d (fun _ => ?_) (fun _ => ?_)
              | refine Branch.mk (fun _ => ?_) (fun _ => ?_)
              | refine Need.mk (by first | omega | decide | rfl) ?_
              | refine Idx.nat (by omega) ?_
              | refine Idx.auto (by first | omega | decide) (by first | omega | decide) ?_
              | refine Cell.ro rfl ?_
              | refine SDraw.all (by kernel_rfl) ?_
              | refine Kept.k0 ?_
              | refine Kept.k1 ?_
              | refine Kept.k2 ?_
              | refine Kept.k3 ?_
              | refine Kept.k4 ?_))
      · repeat' ((conv => whnf); (first
            | refine Branch.dt (by omega) ?_
            | refine Branch.df (by omega) ?_
            | refine Branch.f rfl ?_
            | exact Keep.d1 hK
            | refine New.mk (fun _ => ?_)
            | refine Look.at0 ?_
            | refine Cell.row ?_
            | refine Cell.buf ?_
            | refine Cells.row rfl ?_
            | refine Put.row rfl ?_
            | refine Put.buf rfl ?_
            | refine Look.at1 ?_
            | refine Look.at2 ?_
            | refine Look.at3 ?_
            | refine Look.at4 ?_
            | refine Look.at5 ?_
            | refine Look.at6 ?_
            | refine Look.at7 ?_
            | refine Look.at8 ?_
            | with_reducible refine Val.i64 (by omega) (by omega) ?_
            | with_reducible refine Val.u8 (by omega) (by omega) ?_
            | with_reducible refine Val.u32 (by omega) (by omega) ?_
            | with_reducible refine Val.u64 (by omega) (by omega) ?_
            | with_reducible refine Val.u8m ?_
            | with_reducible refine Val.u32m ?_
            | with_reducible refine Val.u64m ?_
            | with_reducible refine Val.shr8 ?_
            | with_reducible refine Val.shr16 (by decide) ?_
            | with_reducible refine Val.shr24 (by decide) ?_
            | with_reducible refine Val.raw ?_
            | refine Branch.not ?_
            | refine Branch.and ?_
            | refine Branch.or ?_
            | refine Branch.dt (by assumption) ?_
            | refine Branch.df (by assumption) ?_
            | refine Branch.dt rfl ?_
            | refine Branch.dt (by omega) ?_
            | refine Branch.df (by omega) ?_
            | refine Branch.t rfl ?_
            | refine Branch.f rfl ?_
            | refine Branch.t (by assumption) ?_
            | refine Branch.f (by assumption) ?_
            | refine Branch.d (fun _ => ?_) (fun _ => ?_)
            | refine Branch.mk (fun _ => ?_) (fun _ => ?_)
            | refine Need.mk (by first | omega | decide | rfl) ?_
            | refine Idx.nat (by omega) ?_
            | refine Idx.auto (by first | omega | decide) (by first | omega | decide) ?_
            | refine Cell.ro rfl ?_
            | refine SDraw.all (by kernel_rfl) ?_
            | refine Kept.k0 ?_
            | refine Kept.k1 ?_
            | refine Kept.k2 ?_
            | refine Kept.k3 ?_
            | refine Kept.k4 ?_))
  | false =>
    by_cases hg : okF id false n = true
    · rw [e _ hg] at hK
      unfold okF at hg
      simp only [Bool.and_eq_true, decide_eq_true_eq, Bool.false_eq_true, if_false] at hg
      repeat' ((conv => whnf); (first
          | refine Branch.dt (by omega) ?_
          | refine Branch.df (by omega) ?_
          | refine Branch.f rfl ?_
          | exact Keep.d1 hK
          | refine New.mk (fun _ => ?_)
          | refine Look.at0 ?_
          | refine Cell.row ?_
          | refine Cell.buf ?_
          | refine Cells.row rfl ?_
          | refine Put.row rfl ?_
          | refine Put.buf rfl ?_
          | refine Look.at1 ?_
          | refine Look.at2 ?_
          | refine Look.at3 ?_
          | refine Look.at4 ?_
          | refine Look.at5 ?_
          | refine Look.at6 ?_
          | refine Look.at7 ?_
          | refine Look.at8 ?_
          | with_reducible refine Val.i64 (by omega) (by omega) ?_
          | with_reducible refine Val.u8 (by omega) (by omega) ?_
          | with_reducible refine Val.u32 (by omega) (by omega) ?_
          | with_reducible refine Val.u64 (by omega) (by omega) ?_
          | with_reducible refine Val.u8m ?_
          | with_reducible refine Val.u32m ?_
          | with_reducible refine Val.u64m ?_
          | with_reducible refine Val.shr8 ?_
          | with_reducible refine Val.shr16 (by decide) ?_
          | with_reducible refine Val.shr24 (by decide) ?_
          | with_reducible refine Val.raw ?_
          | refine Branch.not ?_
          | refine Branch.and ?_
          | refine Branch.or ?_
          | refine Branch.dt (by assumption) ?_
          | refine Branch.df (by assumption) ?_
          | refine Branch.dt rfl ?_
          | refine Branch.dt (by omega) ?_
          | refine Branch.df (by omega) ?_
          | refine Branch.t rfl ?_
          | refine Branch.f rfl ?_
          | refine Branch.t (by assumption) ?_
          | refine Branch.f (by assumption) ?_
          | refine Branch.d (fun _ => ?_) (fun _ => ?_)
          | refine Branch.mk (fun _ => ?_) (fun _ => ?_)
          | refine Need.mk (by first | omega | decide | rfl) ?_
          | refine Idx.nat (by omega) ?_
          | refine Idx.auto (by first | omega | decide) (by first | omega | decide) ?_
          | refine Cell.ro rfl ?_
          | refine SDraw.all (by kernel_rfl) ?_
          | refine Kept.k0 ?_
          | refine Kept.k1 ?_
          | refine Kept.k2 ?_
          | refine Kept.k3 ?_
          | refine Kept.k4 ?_))
    · have hg' : okF id false n = false := by simpa using hg
      rw [e _ hg'] at hK
      unfold okF at hg'
      simp only [Bool.and_eq_false_iff, decide_eq_false_iff_not, Bool.false_eq_true, if_false] at hg'
      by_cases h2 : 0 ≤ n
      · by_cases h3 : n ≤ 15
        · by_cases h4 : id < 536870912
          · repeat' ((conv => whnf); (first
                | refine Branch.dt (by omega) ?_
                | refine Branch.df (by omega) ?_
                | refine Branch.f rfl ?_
                | exact Keep.d1 hK
                | refine New.mk (fun _ => ?_)
                | refine Look.at0 ?_
                | refine Cell.row ?_
                | refine Cell.buf ?_
                | refine Cells.row rfl ?_
                | refine Put.row rfl ?_
                | refine Put.buf rfl ?_
                | refine Look.at1 ?_
                | refine Look.at2 ?_
                | refine Look.at3 ?_
                | refine Look.at4 ?_
                | refine Look.at5 ?_
                | refine Look.at6 ?_
                | refine Look.at7 ?_
                | refine Look.at8 ?_
                | with_reducible refine Val.i64 (by omega) (by omega) ?_
                | with_reducible refine Val.u8 (by omega) (by omega) ?_
                | with_reducible refine Val.u32 (by omega) (by omega) ?_
                | with_reducible refine Val.u64 (by omega) (by omega) ?_
                | with_reducible refine Val.u8m ?_
                | with_reducible refine Val.u32m ?_
                | with_reducible refine Val.u64m ?_
                | with_reducible refine Val.shr8 ?_
                | with_reducible refine Val.shr16 (by decide) ?_
                | with_reducible refine Val.shr24 (by decide) ?_
                | with_reducible refine Val.raw ?_
                | refine Branch.not ?_
                | refine Branch.and ?_
                | refine Branch.or ?_
                | refine Branch.dt (by assumption) ?_
                | refine Branch.df (by assumption) ?_
                | refine Branch.dt rfl ?_
                | refine Branch.dt (by omega) ?_
                | refine Branch.df (by omega) ?_
                | refine Branch.t rfl ?_
                | refine Branch.f rfl ?_
                | refine Branch.t (by assumption) ?_
                | refine Branch.f (by assumption) ?_
                | refine Branch.d (fun _ => ?_) (fun _ => ?_)
                | refine Branch.mk (fun _ => ?_) (fun _ => ?_)
                | refine Need.mk (by first | omega | decide | rfl) ?_
                | refine Idx.nat (by omega) ?_
                | refine Idx.auto (by first | omega | decide) (by first | omega | decide) ?_
                | refine Cell.ro rfl ?_
                | refine SDraw.all (by kernel_rfl) ?_
                | refine Kept.k0 ?_
                | refine Kept.k1 ?_
                | refine Kept.k2 ?_
                | refine Kept.k3 ?_
                | refine Kept.k4 ?_))
          · repeat' ((conv => whnf); (first
                | refine Branch.dt (by omega) ?_
                | refine Branch.df (by omega) ?_
                | refine Branch.f rfl ?_
                | exact Keep.d1 hK
                | refine New.mk (fun _ => ?_)
                | refine Look.at0 ?_
                | refine Cell.row ?_
                | refine Cell.buf ?_
                | refine Cells.row rfl ?_
                | refine Put.row rfl ?_
                | refine Put.buf rfl ?_
                | refine Look.at1 ?_
                | refine Look.at2 ?_
                | refine Look.at3 ?_
                | refine Look.at4 ?_
                | refine Look.at5 ?_
                | refine Look.at6 ?_
                | refine Look.at7 ?_
                | refine Look.at8 ?_
                | with_reducible refine Val.i64 (by omega) (by omega) ?_
                | with_reducible refine Val.u8 (by omega) (by omega) ?_
                | with_reducible refine Val.u32 (by omega) (by omega) ?_
                | with_reducible refine Val.u64 (by omega) (by omega) ?_
                | with_reducible refine Val.u8m ?_
                | with_reducible refine Val.u32m ?_
                | with_reducible refine Val.u64m ?_
                | with_reducible refine Val.shr8 ?_
                | with_reducible refine Val.shr16 (by decide) ?_
                | with_reducible refine Val.shr24 (by decide) ?_
                | with_reducible refine Val.raw ?_
                | refine Branch.not ?_
                | refine Branch.and ?_
                | refine Branch.or ?_
                | refine Branch.dt (by assumption) ?_
                | refine Branch.df (by assumption) ?_
                | refine Branch.dt rfl ?_
                | refine Branch.dt (by omega) ?_
                | refine Branch.df (by omega) ?_
                | refine Branch.t rfl ?_
                | refine Branch.f rfl ?_
                | refine Branch.t (by assumption) ?_
                | refine Branch.f (by assumption) ?_
                | refine Branch.d (fun _ => ?_) (fun _ => ?_)
                | refine Branch.mk (fun _ => ?_) (fun _ => ?_)
                | refine Need.mk (by first | omega | decide | rfl) ?_
                | refine Idx.nat (by omega) ?_
                | refine Idx.auto (by first | omega | decide) (by first | omega | decide) ?_
                | refine Cell.ro rfl ?_
                | refine SDraw.all (by kernel_rfl) ?_
                | refine Kept.k0 ?_
                | refine Kept.k1 ?_
                | refine Kept.k2 ?_
                | refine Kept.k3 ?_
                | refine Kept.k4 ?_))
        · repeat' ((conv => whnf); (first
              | refine Branch.dt (by omega) ?_
              | refine Branch.df (by omega) ?_
              | refine Branch.f rfl ?_
              | exact Keep.d1 hK
              | refine New.mk (fun _ => ?_)
              | refine Look.at0 ?_
              | refine Cell.row ?_
              | refine Cell.buf ?_
              | refine Cells.row rfl ?_
              | refine Put.row rfl ?_
              | refine Put.buf rfl ?_
              | refine Look.at1 ?_
              | refine Look.at2 ?_
              | refine Look.at3 ?_
              | refine Look.at4 ?_
              | refine Look.at5 ?_
              | refine Look.at6 ?_
              | refine Look.at7 ?_
              | refine Look.at8 ?_
              | with_reducible refine Val.i64 (by omega) (by omega) ?_
              | with_reducible refine Val.u8 (by omega) (by omega) ?_
              | with_reducible refine Val.u32 (by omega) (by omega) ?_
              | with_reducible refine Val.u64 (by omega) (by omega) ?_
              | with_reducible refine Val.u8m ?_
              | with_reducible refine Val.u32m ?_
              | with_reducible refine Val.u64m ?_
              | with_reducible refine Val.shr8 ?_
              | with_reducible refine Val.shr16 (by decide) ?_
              | with_reducible refine Val.shr24 (by decide) ?_
              | with_reducible refine Val.raw ?_
              | refine Branch.not ?_
              | refine Branch.and ?_
              | refine Branch.or ?_
              | refine Branch.dt (by assumption) ?_
              | refine Branch.df (by assumption) ?_
              | refine Branch.dt rfl ?_
              | refine Branch.dt (by omega) ?_
              | refine Branch.df (by omega) ?_
              | refine Branch.t rfl ?_
              | refine Branch.f rfl ?_
              | refine Branch.t (by assumption) ?_
              | refine Branch.f (by assumption) ?_
              | refine Branch.d (fun _ => ?_) (fun _ => ?_)
              | refine Branch.mk (fun _ => ?_) (fun _ => ?_)
              | refine Need.mk (by first | omega | decide | rfl) ?_
              | refine Idx.nat (by omega) ?_
              | refine Idx.auto (by first | omega | decide) (by first | omega | decide) ?_
              | refine Cell.ro rfl ?_
              | refine SDraw.all (by kernel_rfl) ?_
              | refine Kept.k0 ?_
              | refine Kept.k1 ?_
              | refine Kept.k2 ?_
              | refine Kept.k3 ?_
              | refine Kept.k4 ?_))
      · repeat' ((conv => whnf); (first
            | refine Branch.dt (by omega) ?_
            | refine Branch.df (by omega) ?_
            | refine Branch.f rfl ?_
            | exact Keep.d1 hK
            | refine New.mk (fun _ => ?_)
            | refine Look.at0 ?_
            | refine Cell.row ?_
            | refine Cell.buf ?_
            | refine Cells.row rfl ?_
            | refine Put.row rfl ?_
            | refine Put.buf rfl ?_
            | refine Look.at1 ?_
            | refine Look.at2 ?_
            | refine Look.at3 ?_
            | refine Look.at4 ?_
            | refine Look.at5 ?_
            | refine Look.at6 ?_
            | refine Look.at7 ?_
            | refine Look.at8 ?_
            | with_reducible refine Val.i64 (by omega) (by omega) ?_
            | with_reducible refine Val.u8 (by omega) (by omega) ?_
            | with_reducible refine Val.u32 (by omega) (by omega) ?_
            | with_reducible refine Val.u64 (by omega) (by omega) ?_
            | with_reducible refine Val.u8m ?_
            | with_reducible refine Val.u32m ?_
            | with_reducible refine Val.u64m ?_
            | with_reducible refine Val.shr8 ?_
            | with_reducible refine Val.shr16 (by decide) ?_
            | with_reducible refine Val.shr24 (by decide) ?_
            | with_reducible refine Val.raw ?_
            | refine Branch.not ?_
            | refine Branch.and ?_
            | refine Branch.or ?_
            | refine Branch.dt (by assumption) ?_
            | refine Branch.df (by assumption) ?_
            | refine Branch.dt rfl ?_
            | refine Branch.dt (by omega) ?_
            | refine Branch.df (by omega) ?_
            | refine Branch.t rfl ?_
            | refine Branch.f rfl ?_
            | refine Branch.t (by assumption) ?_
            | refine Branch.f (by assumption) ?_
            | refine Branch.d (fun _ => ?_) (fun _ => ?_)
            | refine Branch.mk (fun _ => ?_) (fun _ => ?_)
            | refine Need.mk (by first | omega | decide | rfl) ?_
            | refine Idx.nat (by omega) ?_
            | refine Idx.auto (by first | omega | decide) (by first | omega | decide) ?_
            | refine Cell.ro rfl ?_
            | refine SDraw.all (by kernel_rfl) ?_
            | refine Kept.k0 ?_
            | refine Kept.k1 ?_
            | refine Kept.k2 ?_
            | refine Kept.k3 ?_
            | refine Kept.k4 ?_))
theorem c35 (hK : K (frC id x n) H) : SCalls Tryd.prog 35 [mgC id x n p j] H K := by
  refine enter35 ?_
  repeat' ((conv => whnf); (first
      | exact Keep.d2 hK
      | refine New.mk (fun _ => ?_)
      | refine Look.at0 ?_
      | refine Cell.row ?_
      | refine Cell.buf ?_
      | refine Cells.row rfl ?_
      | refine Put.row rfl ?_
      | refine Put.buf rfl ?_
      | refine Look.at1 ?_
      | refine Look.at2 ?_
      | refine Look.at3 ?_
      | refine Look.at4 ?_
      | refine Look.at5 ?_
      | refine Look.at6 ?_
      | refine Look.at7 ?_
      | refine Look.at8 ?_
      | with_reducible refine Val.i64 (by omega) (by omega) ?_
      | with_reducible refine Val.u8 (by omega) (by omega) ?_
      | with_reducible refine Val.u32 (by omega) (by omega) ?_
      | with_reducible refine Val.u64 (by omega) (by omega) ?_
      | with_reducible refine Val.u8m ?_
      | with_reducible refine Val.u32m ?_
      | with_reducible refine Val.u64m ?_
      | with_reducible refine Val.shr8 ?_
      | with_reducible refine Val.shr16 (by decide) ?_
      | with_reducible refine Val.shr24 (by decide) ?_
      | with_reducible refine Val.raw ?_
      | refine Branch.not ?_
      | refine Branch.and ?_
      | refine Branch.or ?_
      | refine Branch.dt (by assumption) ?_
      | refine Branch.df (by assumption) ?_
      | refine Branch.dt rfl ?_
      | refine Branch.dt (by omega) ?_
      | refine Branch.df (by omega) ?_
      | refine Branch.t rfl ?_
      | refine Branch.f rfl ?_
      | refine Branch.t (by assumption) ?_
      | refine Branch.f (by assumption) ?_
      | refine Branch.d (fun _ => ?_) (fun _ => ?_)
      | refine Branch.mk (fun _ => ?_) (fun _ => ?_)
      | refine Need.mk (by first | omega | decide | rfl) ?_
      | refine Idx.nat (by omega) ?_
      | refine Idx.auto (by first | omega | decide) (by first | omega | decide) ?_
      | refine Cell.ro rfl ?_
      | refine SDraw.all (by kernel_rfl) ?_
      | refine Kept.k0 ?_
      | refine Kept.k1 ?_
      | refine Kept.k2 ?_
      | refine Kept.k3 ?_
      | refine Kept.k4 ?_))
theorem c26 (hK : K (frC id x n) H) : SCalls Tryd.prog 26 [mgC id x n p j] H K := by
  refine enter26 ?_
  repeat' ((conv => whnf); (first
      | exact Keep.d2 hK
      | refine New.mk (fun _ => ?_)
      | refine Look.at0 ?_
      | refine Cell.row ?_
      | refine Cell.buf ?_
      | refine Cells.row rfl ?_
      | refine Put.row rfl ?_
      | refine Put.buf rfl ?_
      | refine Look.at1 ?_
      | refine Look.at2 ?_
      | refine Look.at3 ?_
      | refine Look.at4 ?_
      | refine Look.at5 ?_
      | refine Look.at6 ?_
      | refine Look.at7 ?_
      | refine Look.at8 ?_
      | with_reducible refine Val.i64 (by omega) (by omega) ?_
      | with_reducible refine Val.u8 (by omega) (by omega) ?_
      | with_reducible refine Val.u32 (by omega) (by omega) ?_
      | with_reducible refine Val.u64 (by omega) (by omega) ?_
      | with_reducible refine Val.u8m ?_
      | with_reducible refine Val.u32m ?_
      | with_reducible refine Val.u64m ?_
      | with_reducible refine Val.shr8 ?_
      | with_reducible refine Val.shr16 (by decide) ?_
      | with_reducible refine Val.shr24 (by decide) ?_
      | with_reducible refine Val.raw ?_
      | refine Branch.not ?_
      | refine Branch.and ?_
      | refine Branch.or ?_
      | refine Branch.dt (by assumption) ?_
      | refine Branch.df (by assumption) ?_
      | refine Branch.dt rfl ?_
      | refine Branch.dt (by omega) ?_
      | refine Branch.df (by omega) ?_
      | refine Branch.t rfl ?_
      | refine Branch.f rfl ?_
      | refine Branch.t (by assumption) ?_
      | refine Branch.f (by assumption) ?_
      | refine Branch.d (fun _ => ?_) (fun _ => ?_)
      | refine Branch.mk (fun _ => ?_) (fun _ => ?_)
      | refine Need.mk (by first | omega | decide | rfl) ?_
      | refine Idx.nat (by omega) ?_
      | refine Idx.auto (by first | omega | decide) (by first | omega | decide) ?_
      | refine Cell.ro rfl ?_
      | refine SDraw.all (by kernel_rfl) ?_
      | refine Kept.k0 ?_
      | refine Kept.k1 ?_
      | refine Kept.k2 ?_
      | refine Kept.k3 ?_
      | refine Kept.k4 ?_))
/-- How long a frame is on the wire, with the pause. -/
def lng (n : Int) (x : Bool) : Int := if x then 54 + 8 * n + (53 + 8 * n) / 4 + 13 else 34 + 8 * n + (33 + 8 * n) / 4 + 13
theorem lng_b (h0 : 0 ≤ n) (h8 : n ≤ 8) : 55 ≤ lng n x ∧ lng n x ≤ 160 := by
  unfold lng
  split <;> omega
theorem wq {m : Int} (h1 : 1 ≤ m) (h2 : m ≤ 200) : IntKind.i64.wrap (IntKind.i64.wrap (m + IntKind.i64.wrap ((m - 1).tdiv 4)) + 10) = m + (m - 1) / 4 + 10 := by
  have e1 : (m - 1).tdiv 4 = (m - 1) / 4 := Int.tdiv_eq_ediv_of_nonneg (by omega)
  have e2 : IntKind.i64.wrap ((m - 1) / 4) = (m - 1) / 4 := wrap_i64 (by omega) (by omega)
  have e3 : IntKind.i64.wrap (m + (m - 1) / 4) = m + (m - 1) / 4 := wrap_i64 (by omega) (by omega)
  rw [e1, e2, e3, wrap_i64 (by omega) (by omega)]
theorem c39 (h0 : 0 ≤ n) (h8 : n ≤ 8) (hK : K (.tuple ⟨[.int .i64 (lng n x - 3), .int .i64 0]⟩) H) : SCalls Tryd.prog 39 [.int .i64 n, .bool x] H K := by
  refine enter39 ?_
  have hf : ∀ v, v = lng n x - 3 → Keep H fun H' => K (.tuple ⟨[.int .i64 v, .int .i64 0]⟩) H' := fun v e => by rw [e]; exact Keep.all hK
  have e1 : lng n true - 3 = (54 + 8 * n) + (54 + 8 * n - 1) / 4 + 10 := by
    show 54 + 8 * n + (53 + 8 * n) / 4 + 13 - 3 = _
    omega
  have e2 : lng n false - 3 = (34 + 8 * n) + (34 + 8 * n - 1) / 4 + 10 := by
    show 34 + 8 * n + (33 + 8 * n) / 4 + 13 - 3 = _
    omega
  cases x with
  | true =>
    rw [e1] at hf
    repeat' ((conv => whnf); (first
        | refine Branch.dt (by omega) ?_
        | refine Branch.df (by omega) ?_
        | refine Branch.f rfl ?_
        | refine Branch.t rfl ?_
        | (with_reducible refine hf _ ?_; exact wq (by omega) (by omega))
        | refine New.mk (fun _ => ?_)
        | refine Look.at0 ?_
        | refine Cell.row ?_
        | refine Cell.buf ?_
        | refine Cells.row rfl ?_
        | refine Put.row rfl ?_
        | refine Put.buf rfl ?_
        | refine Look.at1 ?_
        | refine Look.at2 ?_
        | refine Look.at3 ?_
        | refine Look.at4 ?_
        | refine Look.at5 ?_
        | refine Look.at6 ?_
        | refine Look.at7 ?_
        | refine Look.at8 ?_
        | with_reducible refine Val.i64 (by omega) (by omega) ?_
        | with_reducible refine Val.u8 (by omega) (by omega) ?_
        | with_reducible refine Val.u32 (by omega) (by omega) ?_
        | with_reducible refine Val.u64 (by omega) (by omega) ?_
        | with_reducible refine Val.u8m ?_
        | with_reducible refine Val.u32m ?_
        | with_reducible refine Val.u64m ?_
        | with_reducible refine Val.shr8 ?_
        | with_reducible refine Val.shr16 (by decide) ?_
        | with_reducible refine Val.shr24 (by decide) ?_
        | with_reducible refine Val.raw ?_
        | refine Branch.not ?_
        | refine Branch.and ?_
        | refine Branch.or ?_
        | refine Branch.dt (by assumption) ?_
        | refine Branch.df (by assumption) ?_
        | refine Branch.dt rfl ?_
        | refine Branch.dt (by omega) ?_
        | refine Branch.df (by omega) ?_
        | refine Branch.t rfl ?_
        | refine Branch.f rfl ?_
        | refine Branch.t (by assumption) ?_
        | refine Branch.f (by assumption) ?_
        | refine Branch.d (fun _ => ?_) (fun _ => ?_)
        | refine Branch.mk (fun _ => ?_) (fun _ => ?_)
        | refine Need.mk (by first | omega | decide | rfl) ?_
        | refine Idx.nat (by omega) ?_
        | refine Idx.auto (by first | omega | decide) (by first | omega | decide) ?_
        | refine Cell.ro rfl ?_
        | refine SDraw.all (by kernel_rfl) ?_
        | refine Kept.k0 ?_
        | refine Kept.k1 ?_
        | refine Kept.k2 ?_
        | refine Kept.k3 ?_
        | refine Kept.k4 ?_))
  | false =>
    rw [e2] at hf
    repeat' ((conv => whnf); (first
        | refine Branch.dt (by omega) ?_
        | refine Branch.df (by omega) ?_
        | refine Branch.f rfl ?_
        | refine Branch.t rfl ?_
        | (with_reducible refine hf _ ?_; exact wq (by omega) (by omega))
        | refine New.mk (fun _ => ?_)
        | refine Look.at0 ?_
        | refine Cell.row ?_
        | refine Cell.buf ?_
        | refine Cells.row rfl ?_
        | refine Put.row rfl ?_
        | refine Put.buf rfl ?_
        | refine Look.at1 ?_
        | refine Look.at2 ?_
        | refine Look.at3 ?_
        | refine Look.at4 ?_
        | refine Look.at5 ?_
        | refine Look.at6 ?_
        | refine Look.at7 ?_
        | refine Look.at8 ?_
        | with_reducible refine Val.i64 (by omega) (by omega) ?_
        | with_reducible refine Val.u8 (by omega) (by omega) ?_
        | with_reducible refine Val.u32 (by omega) (by omega) ?_
        | with_reducible refine Val.u64 (by omega) (by omega) ?_
        | with_reducible refine Val.u8m ?_
        | with_reducible refine Val.u32m ?_
        | with_reducible refine Val.u64m ?_
        | with_reducible refine Val.shr8 ?_
        | with_reducible refine Val.shr16 (by decide) ?_
        | with_reducible refine Val.shr24 (by decide) ?_
        | with_reducible refine Val.raw ?_
        | refine Branch.not ?_
        | refine Branch.and ?_
        | refine Branch.or ?_
        | refine Branch.dt (by assumption) ?_
        | refine Branch.df (by assumption) ?_
        | refine Branch.dt rfl ?_
        | refine Branch.dt (by omega) ?_
        | refine Branch.df (by omega) ?_
        | refine Branch.t rfl ?_
        | refine Branch.f rfl ?_
        | refine Branch.t (by assumption) ?_
        | refine Branch.f (by assumption) ?_
        | refine Branch.d (fun _ => ?_) (fun _ => ?_)
        | refine Branch.mk (fun _ => ?_) (fun _ => ?_)
        | refine Need.mk (by first | omega | decide | rfl) ?_
        | refine Idx.nat (by omega) ?_
        | refine Idx.auto (by first | omega | decide) (by first | omega | decide) ?_
        | refine Cell.ro rfl ?_
        | refine SDraw.all (by kernel_rfl) ?_
        | refine Kept.k0 ?_
        | refine Kept.k1 ?_
        | refine Kept.k2 ?_
        | refine Kept.k3 ?_
        | refine Kept.k4 ?_))
theorem c24 (h0 : 0 ≤ n) (h8 : n ≤ 8) (hK : K (.tuple ⟨[.int .i64 (lng n x - 3), .int .i64 0]⟩) H) : SCalls Tryd.prog 24 [.int .i64 n, .bool x] H K := by
  refine enter24 ?_
  have hf : ∀ v, v = lng n x - 3 → Keep H fun H' => K (.tuple ⟨[.int .i64 v, .int .i64 0]⟩) H' := fun v e => by rw [e]; exact Keep.all hK
  have e1 : lng n true - 3 = (34 + 8 * n + 20) + (34 + 8 * n + 20 - 1) / 4 + 10 := by
    show 54 + 8 * n + (53 + 8 * n) / 4 + 13 - 3 = _
    omega
  have e2 : lng n false - 3 = (34 + 8 * n) + (34 + 8 * n - 1) / 4 + 10 := by
    show 34 + 8 * n + (33 + 8 * n) / 4 + 13 - 3 = _
    omega
  cases x with
  | true =>
    rw [e1] at hf
    repeat' ((conv => whnf); (first
        | refine Branch.dt (by omega) ?_
        | refine Branch.df (by omega) ?_
        | refine Branch.f rfl ?_
        | refine Branch.t rfl ?_
        | (with_reducible refine hf _ ?_; exact wq (by omega) (by omega))
        | refine New.mk (fun _ => ?_)
        | refine Look.at0 ?_
        | refine Cell.row ?_
        | refine Cell.buf ?_
        | refine Cells.row rfl ?_
        | refine Put.row rfl ?_
        | refine Put.buf rfl ?_
        | refine Look.at1 ?_
        | refine Look.at2 ?_
        | refine Look.at3 ?_
        | refine Look.at4 ?_
        | refine Look.at5 ?_
        | refine Look.at6 ?_
        | refine Look.at7 ?_
        | refine Look.at8 ?_
        | with_reducible refine Val.i64 (by omega) (by omega) ?_
        | with_reducible refine Val.u8 (by omega) (by omega) ?_
        | with_reducible refine Val.u32 (by omega) (by omega) ?_
        | with_reducible refine Val.u64 (by omega) (by omega) ?_
        | with_reducible refine Val.u8m ?_
        | with_reducible refine Val.u32m ?_
        | with_reducible refine Val.u64m ?_
        | with_reducible refine Val.shr8 ?_
        | with_reducible refine Val.shr16 (by decide) ?_
        | with_reducible refine Val.shr24 (by decide) ?_
        | with_reducible refine Val.raw ?_
        | refine Branch.not ?_
        | refine Branch.and ?_
        | refine Branch.or ?_
        | refine Branch.dt (by assumption) ?_
        | refine Branch.df (by assumption) ?_
        | refine Branch.dt rfl ?_
        | refine Branch.dt (by omega) ?_
        | refine Branch.df (by omega) ?_
        | refine Branch.t rfl ?_
        | refine Branch.f rfl ?_
        | refine Branch.t (by assumption) ?_
        | refine Branch.f (by assumption) ?_
        | refine Branch.d (fun _ => ?_) (fun _ => ?_)
        | refine Branch.mk (fun _ => ?_) (fun _ => ?_)
        | refine Need.mk (by first | omega | decide | rfl) ?_
        | refine Idx.nat (by omega) ?_
        | refine Idx.auto (by first | omega | decide) (by first | omega | decide) ?_
        | refine Cell.ro rfl ?_
        | refine SDraw.all (by kernel_rfl) ?_
        | refine Kept.k0 ?_
        | refine Kept.k1 ?_
        | refine Kept.k2 ?_
        | refine Kept.k3 ?_
        | refine Kept.k4 ?_))
  | false =>
    rw [e2] at hf
    repeat' ((conv => whnf); (first
        | refine Branch.dt (by omega) ?_
        | refine Branch.df (by omega) ?_
        | refine Branch.f rfl ?_
        | refine Branch.t rfl ?_
        | (with_reducible refine hf _ ?_; exact wq (by omega) (by omega))
        | refine New.mk (fun _ => ?_)
        | refine Look.at0 ?_
        | refine Cell.row ?_
        | refine Cell.buf ?_
        | refine Cells.row rfl ?_
        | refine Put.row rfl ?_
        | refine Put.buf rfl ?_
        | refine Look.at1 ?_
        | refine Look.at2 ?_
        | refine Look.at3 ?_
        | refine Look.at4 ?_
        | refine Look.at5 ?_
        | refine Look.at6 ?_
        | refine Look.at7 ?_
        | refine Look.at8 ?_
        | with_reducible refine Val.i64 (by omega) (by omega) ?_
        | with_reducible refine Val.u8 (by omega) (by omega) ?_
        | with_reducible refine Val.u32 (by omega) (by omega) ?_
        | with_reducible refine Val.u64 (by omega) (by omega) ?_
        | with_reducible refine Val.u8m ?_
        | with_reducible refine Val.u32m ?_
        | with_reducible refine Val.u64m ?_
        | with_reducible refine Val.shr8 ?_
        | with_reducible refine Val.shr16 (by decide) ?_
        | with_reducible refine Val.shr24 (by decide) ?_
        | with_reducible refine Val.raw ?_
        | refine Branch.not ?_
        | refine Branch.and ?_
        | refine Branch.or ?_
        | refine Branch.dt (by assumption) ?_
        | refine Branch.df (by assumption) ?_
        | refine Branch.dt rfl ?_
        | refine Branch.dt (by omega) ?_
        | refine Branch.df (by omega) ?_
        | refine Branch.t rfl ?_
        | refine Branch.f rfl ?_
        | refine Branch.t (by assumption) ?_
        | refine Branch.f (by assumption) ?_
        | refine Branch.d (fun _ => ?_) (fun _ => ?_)
        | refine Branch.mk (fun _ => ?_) (fun _ => ?_)
        | refine Need.mk (by first | omega | decide | rfl) ?_
        | refine Idx.nat (by omega) ?_
        | refine Idx.auto (by first | omega | decide) (by first | omega | decide) ?_
        | refine Cell.ro rfl ?_
        | refine SDraw.all (by kernel_rfl) ?_
        | refine Kept.k0 ?_
        | refine Kept.k1 ?_
        | refine Kept.k2 ?_
        | refine Kept.k3 ?_
        | refine Kept.k4 ?_))
theorem c27 (h0 : 0 ≤ n) (h8 : n ≤ 8) (hK : K (.int .u64 (lng n x)) H) : SCalls Tryd.prog 27 [mgC id x n p j] H K := by
  refine enter27 ?_
  have hb := lng_b (x := x) h0 h8
  have e : lng n x - 3 + 3 = lng n x := by omega
  repeat' ((conv => whnf); (first
      | refine c39 h0 h8 ?_
      | with_reducible refine Val.to (lng n x) (by rw [wrap_i64 (by omega) (by omega)]; omega) ?_
      | with_reducible refine Val.to (lng n x) (by rw [wrap_u64]; omega) ?_
      | exact Keep.d1 hK
      | refine New.mk (fun _ => ?_)
      | refine Look.at0 ?_
      | refine Cell.row ?_
      | refine Cell.buf ?_
      | refine Cells.row rfl ?_
      | refine Put.row rfl ?_
      | refine Put.buf rfl ?_
      | refine Look.at1 ?_
      | refine Look.at2 ?_
      | refine Look.at3 ?_
      | refine Look.at4 ?_
      | refine Look.at5 ?_
      | refine Look.at6 ?_
      | refine Look.at7 ?_
      | refine Look.at8 ?_
      | with_reducible refine Val.i64 (by omega) (by omega) ?_
      | with_reducible refine Val.u8 (by omega) (by omega) ?_
      | with_reducible refine Val.u32 (by omega) (by omega) ?_
      | with_reducible refine Val.u64 (by omega) (by omega) ?_
      | with_reducible refine Val.u8m ?_
      | with_reducible refine Val.u32m ?_
      | with_reducible refine Val.u64m ?_
      | with_reducible refine Val.shr8 ?_
      | with_reducible refine Val.shr16 (by decide) ?_
      | with_reducible refine Val.shr24 (by decide) ?_
      | with_reducible refine Val.raw ?_
      | refine Branch.not ?_
      | refine Branch.and ?_
      | refine Branch.or ?_
      | refine Branch.dt (by assumption) ?_
      | refine Branch.df (by assumption) ?_
      | refine Branch.dt rfl ?_
      | refine Branch.dt (by omega) ?_
      | refine Branch.df (by omega) ?_
      | refine Branch.t rfl ?_
      | refine Branch.f rfl ?_
      | refine Branch.t (by assumption) ?_
      | refine Branch.f (by assumption) ?_
      | refine Branch.d (fun _ => ?_) (fun _ => ?_)
      | refine Branch.mk (fun _ => ?_) (fun _ => ?_)
      | refine Need.mk (by first | omega | decide | rfl) ?_
      | refine Idx.nat (by omega) ?_
      | refine Idx.auto (by first | omega | decide) (by first | omega | decide) ?_
      | refine Cell.ro rfl ?_
      | refine SDraw.all (by kernel_rfl) ?_
      | refine Kept.k0 ?_
      | refine Kept.k1 ?_
      | refine Kept.k2 ?_
      | refine Kept.k3 ?_
      | refine Kept.k4 ?_))
theorem c12 (h0 : 0 ≤ n) (h8 : n ≤ 8) (hK : K (.int .u64 (lng n x)) H) : SCalls Tryd.prog 12 [mgC id x n p j] H K := by
  refine enter12 ?_
  have hb := lng_b (x := x) h0 h8
  repeat' ((conv => whnf); (first
      | refine c24 h0 h8 ?_
      | with_reducible refine Val.to (lng n x) (by rw [wrap_u64]; omega) ?_
      | with_reducible refine Val.to (lng n x - 3) (by rw [wrap_u64]; omega) ?_
      | exact Keep.d1 hK
      | refine New.mk (fun _ => ?_)
      | refine Look.at0 ?_
      | refine Cell.row ?_
      | refine Cell.buf ?_
      | refine Cells.row rfl ?_
      | refine Put.row rfl ?_
      | refine Put.buf rfl ?_
      | refine Look.at1 ?_
      | refine Look.at2 ?_
      | refine Look.at3 ?_
      | refine Look.at4 ?_
      | refine Look.at5 ?_
      | refine Look.at6 ?_
      | refine Look.at7 ?_
      | refine Look.at8 ?_
      | with_reducible refine Val.i64 (by omega) (by omega) ?_
      | with_reducible refine Val.u8 (by omega) (by omega) ?_
      | with_reducible refine Val.u32 (by omega) (by omega) ?_
      | with_reducible refine Val.u64 (by omega) (by omega) ?_
      | with_reducible refine Val.u8m ?_
      | with_reducible refine Val.u32m ?_
      | with_reducible refine Val.u64m ?_
      | with_reducible refine Val.shr8 ?_
      | with_reducible refine Val.shr16 (by decide) ?_
      | with_reducible refine Val.shr24 (by decide) ?_
      | with_reducible refine Val.raw ?_
      | refine Branch.not ?_
      | refine Branch.and ?_
      | refine Branch.or ?_
      | refine Branch.dt (by assumption) ?_
      | refine Branch.df (by assumption) ?_
      | refine Branch.dt rfl ?_
      | refine Branch.dt (by omega) ?_
      | refine Branch.df (by omega) ?_
      | refine Branch.t rfl ?_
      | refine Branch.f rfl ?_
      | refine Branch.t (by assumption) ?_
      | refine Branch.f (by assumption) ?_
      | refine Branch.d (fun _ => ?_) (fun _ => ?_)
      | refine Branch.mk (fun _ => ?_) (fun _ => ?_)
      | refine Need.mk (by first | omega | decide | rfl) ?_
      | refine Idx.nat (by omega) ?_
      | refine Idx.auto (by first | omega | decide) (by first | omega | decide) ?_
      | refine Cell.ro rfl ?_
      | refine SDraw.all (by kernel_rfl) ?_
      | refine Kept.k0 ?_
      | refine Kept.k1 ?_
      | refine Kept.k2 ?_
      | refine Kept.k3 ?_
      | refine Kept.k4 ?_))
/-- How often a message is asked for while something waits. -/
theorem c37 {w : Nat} (hp : 1 ≤ p) (hs : w + j + p < 9223372036854775808) (hK : K (.int .u64 (((w + j) / p + 1 : Nat) : Int)) H) : SCalls Tryd.prog 37 [mgC id x n p j, .int .u64 (w : Int)] H K := by
  refine enter37 ?_
  have hf : ∀ v, v = (((w + j) / p + 1 : Nat) : Int) → ∀ q, Keep ((q : Nat × Blk) :: H) fun H' => K (.int .u64 v) H' := fun v e q => by rw [e]; exact Keep.d1 hK
  have hq : ((w + j + p : Nat) : Int).tdiv (p : Int) = (((w + j) / p + 1 : Nat) : Int) := by
    rw [Int.tdiv_eq_ediv_of_nonneg (by omega), ← Int.natCast_ediv, Nat.add_div_right _ hp]
  have hm : (w : Int) + j + 1 + p - 1 = ((w + j + p : Nat) : Int) := by omega
  have hle : (w + j) / p + 1 < 18446744073709551616 := by
    have := Nat.div_le_self (w + j) p
    omega
  have hv : IntKind.u64.wrap (((w : Int) + j + 1 + p - 1).tdiv p) = (((w + j) / p + 1 : Nat) : Int) := by rw [hm, hq]; exact wrap_nat rfl hle
  repeat' ((conv => whnf); (first
      | with_reducible refine Val.to _ hv ?_
      | with_reducible refine Val.u64 (by omega) (by omega) ?_
      | refine Need.mk (by simp; omega) ?_
      | exact Keep.d1 hK
      | refine New.mk (fun _ => ?_)
      | refine Look.at0 ?_
      | refine Cell.row ?_
      | refine Cell.buf ?_
      | refine Cells.row rfl ?_
      | refine Put.row rfl ?_
      | refine Put.buf rfl ?_
      | refine Look.at1 ?_
      | refine Look.at2 ?_
      | refine Look.at3 ?_
      | refine Look.at4 ?_
      | refine Look.at5 ?_
      | refine Look.at6 ?_
      | refine Look.at7 ?_
      | refine Look.at8 ?_
      | with_reducible refine Val.i64 (by omega) (by omega) ?_
      | with_reducible refine Val.u8 (by omega) (by omega) ?_
      | with_reducible refine Val.u32 (by omega) (by omega) ?_
      | with_reducible refine Val.u64 (by omega) (by omega) ?_
      | with_reducible refine Val.u8m ?_
      | with_reducible refine Val.u32m ?_
      | with_reducible refine Val.u64m ?_
      | with_reducible refine Val.shr8 ?_
      | with_reducible refine Val.shr16 (by decide) ?_
      | with_reducible refine Val.shr24 (by decide) ?_
      | with_reducible refine Val.raw ?_
      | refine Branch.not ?_
      | refine Branch.and ?_
      | refine Branch.or ?_
      | refine Branch.dt (by assumption) ?_
      | refine Branch.df (by assumption) ?_
      | refine Branch.dt rfl ?_
      | refine Branch.dt (by omega) ?_
      | refine Branch.df (by omega) ?_
      | refine Branch.t rfl ?_
      | refine Branch.f rfl ?_
      | refine Branch.t (by assumption) ?_
      | refine Branch.f (by assumption) ?_
      | refine Branch.d (fun _ => ?_) (fun _ => ?_)
      | refine Branch.mk (fun _ => ?_) (fun _ => ?_)
      | refine Need.mk (by first | omega | decide | rfl) ?_
      | refine Idx.nat (by omega) ?_
      | refine Idx.auto (by first | omega | decide) (by first | omega | decide) ?_
      | refine Cell.ro rfl ?_
      | refine SDraw.all (by kernel_rfl) ?_
      | refine Kept.k0 ?_
      | refine Kept.k1 ?_
      | refine Kept.k2 ?_
      | refine Kept.k3 ?_
      | refine Kept.k4 ?_))
/-- A number's bits. -/
theorem c45 {w : Int} {n : Nat} (hn : n < 2 ^ 64) (hK : K (.string (strOf (numV n w).1)) H) : SCalls Tryd.prog 45 [.int .u64 (n : Int), .int .i64 w] H K := by
  refine enter45 ?_
  repeat' ((conv => whnf); (first
      | refine c50 hn ?_
      | exact Keep.all hK
      | refine New.mk (fun _ => ?_)
      | refine Look.at0 ?_
      | refine Cell.row ?_
      | refine Cell.buf ?_
      | refine Cells.row rfl ?_
      | refine Put.row rfl ?_
      | refine Put.buf rfl ?_
      | refine Look.at1 ?_
      | refine Look.at2 ?_
      | refine Look.at3 ?_
      | refine Look.at4 ?_
      | refine Look.at5 ?_
      | refine Look.at6 ?_
      | refine Look.at7 ?_
      | refine Look.at8 ?_
      | with_reducible refine Val.i64 (by omega) (by omega) ?_
      | with_reducible refine Val.u8 (by omega) (by omega) ?_
      | with_reducible refine Val.u32 (by omega) (by omega) ?_
      | with_reducible refine Val.u64 (by omega) (by omega) ?_
      | with_reducible refine Val.u8m ?_
      | with_reducible refine Val.u32m ?_
      | with_reducible refine Val.u64m ?_
      | with_reducible refine Val.shr8 ?_
      | with_reducible refine Val.shr16 (by decide) ?_
      | with_reducible refine Val.shr24 (by decide) ?_
      | with_reducible refine Val.raw ?_
      | refine Branch.not ?_
      | refine Branch.and ?_
      | refine Branch.or ?_
      | refine Branch.dt (by assumption) ?_
      | refine Branch.df (by assumption) ?_
      | refine Branch.dt rfl ?_
      | refine Branch.dt (by omega) ?_
      | refine Branch.df (by omega) ?_
      | refine Branch.t rfl ?_
      | refine Branch.f rfl ?_
      | refine Branch.t (by assumption) ?_
      | refine Branch.f (by assumption) ?_
      | refine Branch.d (fun _ => ?_) (fun _ => ?_)
      | refine Branch.mk (fun _ => ?_) (fun _ => ?_)
      | refine Need.mk (by first | omega | decide | rfl) ?_
      | refine Idx.nat (by omega) ?_
      | refine Idx.auto (by first | omega | decide) (by first | omega | decide) ?_
      | refine Cell.ro rfl ?_
      | refine SDraw.all (by kernel_rfl) ?_
      | refine Kept.k0 ?_
      | refine Kept.k1 ?_
      | refine Kept.k2 ?_
      | refine Kept.k3 ?_
      | refine Kept.k4 ?_))
theorem c46 (hK : K (.string (strOf [48])) H) : SCalls Tryd.prog 46 [.bool false] H K := by
  refine enter46 ?_
  repeat' ((conv => whnf); (first
      | exact Keep.all hK
      | refine New.mk (fun _ => ?_)
      | refine Look.at0 ?_
      | refine Cell.row ?_
      | refine Cell.buf ?_
      | refine Cells.row rfl ?_
      | refine Put.row rfl ?_
      | refine Put.buf rfl ?_
      | refine Look.at1 ?_
      | refine Look.at2 ?_
      | refine Look.at3 ?_
      | refine Look.at4 ?_
      | refine Look.at5 ?_
      | refine Look.at6 ?_
      | refine Look.at7 ?_
      | refine Look.at8 ?_
      | with_reducible refine Val.i64 (by omega) (by omega) ?_
      | with_reducible refine Val.u8 (by omega) (by omega) ?_
      | with_reducible refine Val.u32 (by omega) (by omega) ?_
      | with_reducible refine Val.u64 (by omega) (by omega) ?_
      | with_reducible refine Val.u8m ?_
      | with_reducible refine Val.u32m ?_
      | with_reducible refine Val.u64m ?_
      | with_reducible refine Val.shr8 ?_
      | with_reducible refine Val.shr16 (by decide) ?_
      | with_reducible refine Val.shr24 (by decide) ?_
      | with_reducible refine Val.raw ?_
      | refine Branch.not ?_
      | refine Branch.and ?_
      | refine Branch.or ?_
      | refine Branch.dt (by assumption) ?_
      | refine Branch.df (by assumption) ?_
      | refine Branch.dt rfl ?_
      | refine Branch.dt (by omega) ?_
      | refine Branch.df (by omega) ?_
      | refine Branch.t rfl ?_
      | refine Branch.f rfl ?_
      | refine Branch.t (by assumption) ?_
      | refine Branch.f (by assumption) ?_
      | refine Branch.d (fun _ => ?_) (fun _ => ?_)
      | refine Branch.mk (fun _ => ?_) (fun _ => ?_)
      | refine Need.mk (by first | omega | decide | rfl) ?_
      | refine Idx.nat (by omega) ?_
      | refine Idx.auto (by first | omega | decide) (by first | omega | decide) ?_
      | refine Cell.ro rfl ?_
      | refine SDraw.all (by kernel_rfl) ?_
      | refine Kept.k0 ?_
      | refine Kept.k1 ?_
      | refine Kept.k2 ?_
      | refine Kept.k3 ?_
      | refine Kept.k4 ?_))
theorem c51 {r w : Nat} {bs : List UInt8} {N : Heap} {n : Nat} (hD : Db H) (hN : Bld 105 r [] bs N) (hn : n < 2 ^ 64) (hl : bs.length + (numV n w).1.length ≤ 140737488355328) (hK : ∀ N', Bld 105 r [] (bs ++ (numV n w).1) N' → K (.tuple ⟨[]⟩) (N' ++ H)) :
    SCalls Tryd.prog 51 [ptr r, .int .u64 (n : Int), .int .i64 (w : Int)] (N ++ H) K := by
  refine enter51 ?_
  have h52 : ∀ K2 : Value → Heap → Prop, (∀ N', Bld 105 r [] (bs ++ (numV n w).1) N' → K2 (.tuple ⟨[.int .i64 ((numV n w).1.length : Int), .nilIface]⟩) (N' ++ H)) → SCalls Tryd.prog 52 [ptr r, .string (strOf (numV n w).1)] (N ++ H) K2 :=
    fun K2 hk => SCalls.midH [] H (c52 (pre := []) (T := 105) bt105 hN hl (fun N' h => hk N' h))
  have hD' : Db (N ++ H) := hD.mono fun p hp => List.mem_append_right _ hp
  clear hN hD
  repeat' ((conv => whnf); (first
      | refine c54 hD' hn ?_
      | with_reducible refine h52 _ (fun N' hN' => ?_)
      | exact Keep.all (hK _ hN')
      | refine New.mk (fun _ => ?_)
      | refine Look.at0 ?_
      | refine Cell.row ?_
      | refine Cell.buf ?_
      | refine Cells.row rfl ?_
      | refine Put.row rfl ?_
      | refine Put.buf rfl ?_
      | refine Look.at1 ?_
      | refine Look.at2 ?_
      | refine Look.at3 ?_
      | refine Look.at4 ?_
      | refine Look.at5 ?_
      | refine Look.at6 ?_
      | refine Look.at7 ?_
      | refine Look.at8 ?_
      | with_reducible refine Val.i64 (by omega) (by omega) ?_
      | with_reducible refine Val.u8 (by omega) (by omega) ?_
      | with_reducible refine Val.u32 (by omega) (by omega) ?_
      | with_reducible refine Val.u64 (by omega) (by omega) ?_
      | with_reducible refine Val.u8m ?_
      | with_reducible refine Val.u32m ?_
      | with_reducible refine Val.u64m ?_
      | with_reducible refine Val.shr8 ?_
      | with_reducible refine Val.shr16 (by decide) ?_
      | with_reducible refine Val.shr24 (by decide) ?_
      | with_reducible refine Val.raw ?_
      | refine Branch.not ?_
      | refine Branch.and ?_
      | refine Branch.or ?_
      | refine Branch.dt (by assumption) ?_
      | refine Branch.df (by assumption) ?_
      | refine Branch.dt rfl ?_
      | refine Branch.dt (by omega) ?_
      | refine Branch.df (by omega) ?_
      | refine Branch.t rfl ?_
      | refine Branch.f rfl ?_
      | refine Branch.t (by assumption) ?_
      | refine Branch.f (by assumption) ?_
      | refine Branch.d (fun _ => ?_) (fun _ => ?_)
      | refine Branch.mk (fun _ => ?_) (fun _ => ?_)
      | refine Need.mk (by first | omega | decide | rfl) ?_
      | refine Idx.nat (by omega) ?_
      | refine Idx.auto (by first | omega | decide) (by first | omega | decide) ?_
      | refine Cell.ro rfl ?_
      | refine SDraw.all (by kernel_rfl) ?_
      | refine Kept.k0 ?_
      | refine Kept.k1 ?_
      | refine Kept.k2 ?_
      | refine Kept.k3 ?_
      | refine Kept.k4 ?_))
theorem num1 : (numV 1 1).1 = [49] := rfl
theorem num0 : (numV 0 1).1 = [48] := rfl
theorem c53 {r : Nat} {bs : List UInt8} {N : Heap} (hD : Db H) (hN : Bld 105 r [] bs N) (hl : bs.length ≤ 1000) (hK : ∀ N', Bld 105 r [] (bs ++ [48]) N' → K (.tuple ⟨[]⟩) (N' ++ H)) :
    SCalls Tryd.prog 53 [ptr r, .bool false] (N ++ H) K := by
  refine enter53 ?_
  have h51 : ∀ K2 : Value → Heap → Prop, (∀ N', Bld 105 r [] (bs ++ [48]) N' → K2 (.tuple ⟨[]⟩) (N' ++ H)) → SCalls Tryd.prog 51 [ptr r, .int .u64 0, .int .i64 1] (N ++ H) K2 :=
    fun K2 hk => c51 (K := K2) (w := 1) (n := 0) hD hN (by decide) (by show bs.length + 1 ≤ _; omega) hk
  clear hN hD
  repeat' ((conv => whnf); (first
      | with_reducible refine h51 _ (fun N' hN' => ?_)
      | exact Keep.all (hK _ hN')
      | refine New.mk (fun _ => ?_)
      | refine Look.at0 ?_
      | refine Cell.row ?_
      | refine Cell.buf ?_
      | refine Cells.row rfl ?_
      | refine Put.row rfl ?_
      | refine Put.buf rfl ?_
      | refine Look.at1 ?_
      | refine Look.at2 ?_
      | refine Look.at3 ?_
      | refine Look.at4 ?_
      | refine Look.at5 ?_
      | refine Look.at6 ?_
      | refine Look.at7 ?_
      | refine Look.at8 ?_
      | with_reducible refine Val.i64 (by omega) (by omega) ?_
      | with_reducible refine Val.u8 (by omega) (by omega) ?_
      | with_reducible refine Val.u32 (by omega) (by omega) ?_
      | with_reducible refine Val.u64 (by omega) (by omega) ?_
      | with_reducible refine Val.u8m ?_
      | with_reducible refine Val.u32m ?_
      | with_reducible refine Val.u64m ?_
      | with_reducible refine Val.shr8 ?_
      | with_reducible refine Val.shr16 (by decide) ?_
      | with_reducible refine Val.shr24 (by decide) ?_
      | with_reducible refine Val.raw ?_
      | refine Branch.not ?_
      | refine Branch.and ?_
      | refine Branch.or ?_
      | refine Branch.dt (by assumption) ?_
      | refine Branch.df (by assumption) ?_
      | refine Branch.dt rfl ?_
      | refine Branch.dt (by omega) ?_
      | refine Branch.df (by omega) ?_
      | refine Branch.t rfl ?_
      | refine Branch.f rfl ?_
      | refine Branch.t (by assumption) ?_
      | refine Branch.f (by assumption) ?_
      | refine Branch.d (fun _ => ?_) (fun _ => ?_)
      | refine Branch.mk (fun _ => ?_) (fun _ => ?_)
      | refine Need.mk (by first | omega | decide | rfl) ?_
      | refine Idx.nat (by omega) ?_
      | refine Idx.auto (by first | omega | decide) (by first | omega | decide) ?_
      | refine Cell.ro rfl ?_
      | refine SDraw.all (by kernel_rfl) ?_
      | refine Kept.k0 ?_
      | refine Kept.k1 ?_
      | refine Kept.k2 ?_
      | refine Kept.k3 ?_
      | refine Kept.k4 ?_))
theorem c48 {r : Nat} {N : Heap} (hid : okF id x n = true) (hD : Db H) (hN : Bld 105 r [] [] N) (hK : ∀ N', Bld 105 r [] (fldB id x) N' → K (.tuple ⟨[]⟩) (N' ++ H)) :
    SCalls Tryd.prog 48 [ptr r, frC id x n] (N ++ H) K := by
  refine enter48 ?_
  have h18 : shrI .u32 (id : Int) 18 = ((id / 2 ^ 18 : Nat) : Int) := shr_nat (k := .u32) (n := 18) (by decide)
  unfold okF at hid
  have big : (2 : Nat) ^ 64 = 18446744073709551616 := rfl
  cases x with
  | true =>
    simp only [Bool.and_eq_true, decide_eq_true_eq, if_true] at hid
    have hand : bitAnd .u32 (id : Int) 262143 = ((id % 2 ^ 18 : Nat) : Int) := bitMask_nat (k := .u32) rfl (a := id) (n := 18) (by show id < 4294967296; omega) (by decide)
    have n1 : (numV (id / 2 ^ 18) (11 : Nat)).1 = numB 11 (id / 2 ^ 18) := by
      unfold numV
      rw [if_pos ⟨by decide, by decide, by show id / 2 ^ 18 < 2 ^ 11; omega⟩]; rfl
    have n2 : (numV (id % 2 ^ 18) (18 : Nat)).1 = numB 18 (id % 2 ^ 18) := by
      unfold numV
      rw [if_pos ⟨by decide, by decide, by show id % 2 ^ 18 < 2 ^ 18; omega⟩]; rfl
    have h1 : ∀ q (K2 : Value → Heap → Prop), (∀ N', Bld 105 r [] (numB 11 (id / 2 ^ 18)) N' → K2 (.tuple ⟨[]⟩) (q :: (N' ++ H))) → SCalls Tryd.prog 51 [ptr r, .int .u64 ((id / 2 ^ 18 : Nat) : Int), .int .i64 11] (q :: (N ++ H)) K2 := by
      intro q K2 hk
      exact SCalls.under [q] (c51 (w := 11) (n := id / 2 ^ 18) hD hN (by omega) (by rw [n1, numB_len]; decide) (by rw [n1]; exact hk))
    have h2 : ∀ q N1 (K2 : Value → Heap → Prop), Bld 105 r [] (numB 11 (id / 2 ^ 18)) N1 → (∀ N', Bld 105 r [] (numB 11 (id / 2 ^ 18) ++ [49, 49]) N' → K2 (.tuple ⟨[.int .i64 2, .nilIface]⟩) (q :: (N' ++ H))) → SCalls Tryd.prog 52 [ptr r, .string ⟨#[49, 49]⟩] (q :: (N1 ++ H)) K2 :=
      fun q N1 K2 hb hk => SCalls.midH [q] H (c52 (pre := []) (T := 105) (l := [49, 49]) bt105 hb (by rw [numB_len]; decide) (fun N' h => hk N' h))
    have h3 : ∀ q N1 (K2 : Value → Heap → Prop), Bld 105 r [] (numB 11 (id / 2 ^ 18) ++ [49, 49]) N1 → (∀ N', Bld 105 r [] (numB 11 (id / 2 ^ 18) ++ [49, 49] ++ numB 18 (id % 2 ^ 18)) N' → K2 (.tuple ⟨[]⟩) (q :: (N' ++ H))) → SCalls Tryd.prog 51 [ptr r, .int .u64 ((id % 2 ^ 18 : Nat) : Int), .int .i64 18] (q :: (N1 ++ H)) K2 := by
      intro q N1 K2 hb hk
      exact SCalls.under [q] (c51 (w := 18) (n := id % 2 ^ 18) hD hb (by omega) (by rw [n2, List.length_append, numB_len, numB_len]; decide) (by rw [n2]; exact hk))
    have h4 : ∀ q N1 (K2 : Value → Heap → Prop), Bld 105 r [] (numB 11 (id / 2 ^ 18) ++ [49, 49] ++ numB 18 (id % 2 ^ 18)) N1 → (∀ N', Bld 105 r [] (numB 11 (id / 2 ^ 18) ++ [49, 49] ++ numB 18 (id % 2 ^ 18) ++ [48]) N' → K2 (.tuple ⟨[]⟩) (q :: (N' ++ H))) → SCalls Tryd.prog 53 [ptr r, .bool false] (q :: (N1 ++ H)) K2 :=
      fun q N1 K2 hb hk => SCalls.under [q] (c53 hD hb (by rw [List.length_append, List.length_append, numB_len, numB_len]; decide) hk)
    have hk : ∀ q N', Bld 105 r [] (numB 11 (id / 2 ^ 18) ++ [49, 49] ++ numB 18 (id % 2 ^ 18) ++ [48]) N' → Keep (q :: (N' ++ H)) fun H' => K (.tuple ⟨[]⟩) H' := fun q N' h => Keep.d1 (hK N' h)
    have hw1 : id / 2 ^ 18 < 18446744073709551616 := by omega
    have hw2 : id % 2 ^ 18 < 18446744073709551616 := by omega
    clear hN hK
    repeat' ((conv => whnf); (first
        | with_reducible refine Val.to _ h18 ?_
        | with_reducible refine Val.to _ hand ?_
        | with_reducible refine h1 _ _ (fun N1 hb1 => ?_)
        | with_reducible refine h2 _ _ _ hb1 (fun N2 hb2 => ?_)
        | with_reducible refine h3 _ _ _ hb2 (fun N3 hb3 => ?_)
        | with_reducible refine h4 _ _ _ hb3 (fun N4 hb4 => ?_)
        | exact hk _ _ hb4
        | refine New.mk (fun _ => ?_)
        | refine Look.at0 ?_
        | refine Cell.row ?_
        | refine Cell.buf ?_
        | refine Cells.row rfl ?_
        | refine Put.row rfl ?_
        | refine Put.buf rfl ?_
        | refine Look.at1 ?_
        | refine Look.at2 ?_
        | refine Look.at3 ?_
        | refine Look.at4 ?_
        | refine Look.at5 ?_
        | refine Look.at6 ?_
        | refine Look.at7 ?_
        | refine Look.at8 ?_
        | with_reducible refine Val.i64 (by omega) (by omega) ?_
        | with_reducible refine Val.u8 (by omega) (by omega) ?_
        | with_reducible refine Val.u32 (by omega) (by omega) ?_
        | with_reducible refine Val.u64 (by omega) (by omega) ?_
        | with_reducible refine Val.u8m ?_
        | with_reducible refine Val.u32m ?_
        | with_reducible refine Val.u64m ?_
        | with_reducible refine Val.shr8 ?_
        | with_reducible refine Val.shr16 (by decide) ?_
        | with_reducible refine Val.shr24 (by decide) ?_
        | with_reducible refine Val.raw ?_
        | refine Branch.not ?_
        | refine Branch.and ?_
        | refine Branch.or ?_
        | refine Branch.dt (by assumption) ?_
        | refine Branch.df (by assumption) ?_
        | refine Branch.dt rfl ?_
        | refine Branch.dt (by omega) ?_
        | refine Branch.df (by omega) ?_
        | refine Branch.t rfl ?_
        | refine Branch.f rfl ?_
        | refine Branch.t (by assumption) ?_
        | refine Branch.f (by assumption) ?_
        | refine Branch.d (fun _ => ?_) (fun _ => ?_)
        | refine Branch.mk (fun _ => ?_) (fun _ => ?_)
        | refine Need.mk (by first | omega | decide | rfl) ?_
        | refine Idx.nat (by omega) ?_
        | refine Idx.auto (by first | omega | decide) (by first | omega | decide) ?_
        | refine Cell.ro rfl ?_
        | refine SDraw.all (by kernel_rfl) ?_
        | refine Kept.k0 ?_
        | refine Kept.k1 ?_
        | refine Kept.k2 ?_
        | refine Kept.k3 ?_
        | refine Kept.k4 ?_))
  | false =>
    simp only [Bool.and_eq_true, decide_eq_true_eq, Bool.false_eq_true, if_false] at hid
    have n1 : (numV id (11 : Nat)).1 = numB 11 id := by
      unfold numV
      rw [if_pos ⟨by decide, by decide, by show id < 2 ^ 11; omega⟩]; rfl
    have h1 : ∀ q (K2 : Value → Heap → Prop), (∀ N', Bld 105 r [] (numB 11 id) N' → K2 (.tuple ⟨[]⟩) (q :: (N' ++ H))) → SCalls Tryd.prog 51 [ptr r, .int .u64 (id : Int), .int .i64 11] (q :: (N ++ H)) K2 := by
      intro q K2 hk
      exact SCalls.under [q] (c51 (w := 11) (n := id) hD hN (by omega) (by rw [n1, numB_len]; decide) (by rw [n1]; exact hk))
    have h2 : ∀ q N1 (K2 : Value → Heap → Prop), Bld 105 r [] (numB 11 id) N1 → (∀ N', Bld 105 r [] (numB 11 id ++ [48]) N' → K2 (.tuple ⟨[]⟩) (q :: (N' ++ H))) → SCalls Tryd.prog 53 [ptr r, .bool false] (q :: (N1 ++ H)) K2 :=
      fun q N1 K2 hb hk => SCalls.under [q] (c53 hD hb (by rw [numB_len]; decide) hk)
    have h3 : ∀ q N1 (K2 : Value → Heap → Prop), Bld 105 r [] (numB 11 id ++ [48]) N1 → (∀ N', Bld 105 r [] (numB 11 id ++ [48] ++ [48]) N' → K2 (.tuple ⟨[]⟩) (q :: (N' ++ H))) → SCalls Tryd.prog 53 [ptr r, .bool false] (q :: (N1 ++ H)) K2 :=
      fun q N1 K2 hb hk => SCalls.under [q] (c53 hD hb (by rw [List.length_append, numB_len]; decide) hk)
    have hk : ∀ q N', Bld 105 r [] (numB 11 id ++ [48] ++ [48]) N' → Keep (q :: (N' ++ H)) fun H' => K (.tuple ⟨[]⟩) H' := fun q N' h => Keep.d1 (hK N' h)
    clear hN hK
    repeat' ((conv => whnf); (first
        | with_reducible refine h1 _ _ (fun N1 hb1 => ?_)
        | with_reducible refine h2 _ _ _ hb1 (fun N2 hb2 => ?_)
        | with_reducible refine h3 _ _ _ hb2 (fun N3 hb3 => ?_)
        | exact hk _ _ hb3
        | refine New.mk (fun _ => ?_)
        | refine Look.at0 ?_
        | refine Cell.row ?_
        | refine Cell.buf ?_
        | refine Cells.row rfl ?_
        | refine Put.row rfl ?_
        | refine Put.buf rfl ?_
        | refine Look.at1 ?_
        | refine Look.at2 ?_
        | refine Look.at3 ?_
        | refine Look.at4 ?_
        | refine Look.at5 ?_
        | refine Look.at6 ?_
        | refine Look.at7 ?_
        | refine Look.at8 ?_
        | with_reducible refine Val.i64 (by omega) (by omega) ?_
        | with_reducible refine Val.u8 (by omega) (by omega) ?_
        | with_reducible refine Val.u32 (by omega) (by omega) ?_
        | with_reducible refine Val.u64 (by omega) (by omega) ?_
        | with_reducible refine Val.u8m ?_
        | with_reducible refine Val.u32m ?_
        | with_reducible refine Val.u64m ?_
        | with_reducible refine Val.shr8 ?_
        | with_reducible refine Val.shr16 (by decide) ?_
        | with_reducible refine Val.shr24 (by decide) ?_
        | with_reducible refine Val.raw ?_
        | refine Branch.not ?_
        | refine Branch.and ?_
        | refine Branch.or ?_
        | refine Branch.dt (by assumption) ?_
        | refine Branch.df (by assumption) ?_
        | refine Branch.dt rfl ?_
        | refine Branch.dt (by omega) ?_
        | refine Branch.df (by omega) ?_
        | refine Branch.t rfl ?_
        | refine Branch.f rfl ?_
        | refine Branch.t (by assumption) ?_
        | refine Branch.f (by assumption) ?_
        | refine Branch.d (fun _ => ?_) (fun _ => ?_)
        | refine Branch.mk (fun _ => ?_) (fun _ => ?_)
        | refine Need.mk (by first | omega | decide | rfl) ?_
        | refine Idx.nat (by omega) ?_
        | refine Idx.auto (by first | omega | decide) (by first | omega | decide) ?_
        | refine Cell.ro rfl ?_
        | refine SDraw.all (by kernel_rfl) ?_
        | refine Kept.k0 ?_
        | refine Kept.k1 ?_
        | refine Kept.k2 ?_
        | refine Kept.k3 ?_
        | refine Kept.k4 ?_))
theorem c43 (hid : okF id x n = true) (hD : Db H) (hK : K (.string (strOf (fldB id x))) H) : SCalls Tryd.prog 43 [frC id x n] H K := by
  refine enter43 ?_
  have h48 : ∀ r q (K2 : Value → Heap → Prop), (∀ N', Bld 105 r [] (fldB id x) N' → K2 (.tuple ⟨[]⟩) (N' ++ q :: H)) → SCalls Tryd.prog 48 [ptr r, frC id x n] ((r, .row 105 [.pointer none, .slice none 0 0] (0, 0)) :: q :: H) K2 :=
    fun r q K2 hk => c48 (H := q :: H) (N := [(r, .row 105 [.pointer none, .slice none 0 0] (0, 0))]) hid (hD.mono fun p hp => .tail _ hp) (Bld.new (T := 105) (r := r) (pre := [])) hk
  have h49 : ∀ r q N1 (K2 : Value → Heap → Prop), Bld 105 r [] (fldB id x) N1 → (∀ N', K2 (.string (strOf (fldB id x))) (N' ++ q :: H)) → SCalls Tryd.prog 49 [ptr r] (N1 ++ q :: H) K2 :=
    fun r q N1 K2 hb hk => SCalls.midH [] (q :: H) (c49 (pre := []) (T := 105) hb (fun N' _ => hk N'))
  have hk : ∀ (N' : Heap) q, Keep (N' ++ q :: H) fun H' => K (.string (strOf (fldB id x))) H' := fun N' q => Keep.sub _ ((List.sublist_cons_self q H).trans (List.sublist_append_right N' (q :: H))) hK
  clear hK
  repeat' ((conv => whnf); (first
      | with_reducible refine h48 _ _ _ (fun N1 hb1 => ?_)
      | with_reducible refine h49 _ _ _ _ hb1 (fun N2 => ?_)
      | exact hk _ _
      | refine New.mk (fun _ => ?_)
      | refine Look.at0 ?_
      | refine Cell.row ?_
      | refine Cell.buf ?_
      | refine Cells.row rfl ?_
      | refine Put.row rfl ?_
      | refine Put.buf rfl ?_
      | refine Look.at1 ?_
      | refine Look.at2 ?_
      | refine Look.at3 ?_
      | refine Look.at4 ?_
      | refine Look.at5 ?_
      | refine Look.at6 ?_
      | refine Look.at7 ?_
      | refine Look.at8 ?_
      | with_reducible refine Val.i64 (by omega) (by omega) ?_
      | with_reducible refine Val.u8 (by omega) (by omega) ?_
      | with_reducible refine Val.u32 (by omega) (by omega) ?_
      | with_reducible refine Val.u64 (by omega) (by omega) ?_
      | with_reducible refine Val.u8m ?_
      | with_reducible refine Val.u32m ?_
      | with_reducible refine Val.u64m ?_
      | with_reducible refine Val.shr8 ?_
      | with_reducible refine Val.shr16 (by decide) ?_
      | with_reducible refine Val.shr24 (by decide) ?_
      | with_reducible refine Val.raw ?_
      | refine Branch.not ?_
      | refine Branch.and ?_
      | refine Branch.or ?_
      | refine Branch.dt (by assumption) ?_
      | refine Branch.df (by assumption) ?_
      | refine Branch.dt rfl ?_
      | refine Branch.dt (by omega) ?_
      | refine Branch.df (by omega) ?_
      | refine Branch.t rfl ?_
      | refine Branch.f rfl ?_
      | refine Branch.t (by assumption) ?_
      | refine Branch.f (by assumption) ?_
      | refine Branch.d (fun _ => ?_) (fun _ => ?_)
      | refine Branch.mk (fun _ => ?_) (fun _ => ?_)
      | refine Need.mk (by first | omega | decide | rfl) ?_
      | refine Idx.nat (by omega) ?_
      | refine Idx.auto (by first | omega | decide) (by first | omega | decide) ?_
      | refine Cell.ro rfl ?_
      | refine SDraw.all (by kernel_rfl) ?_
      | refine Kept.k0 ?_
      | refine Kept.k1 ?_
      | refine Kept.k2 ?_
      | refine Kept.k3 ?_
      | refine Kept.k4 ?_))
theorem c34 (hid : id < 4294967296) (hD : Db H) (hK : K (.tuple ⟨[.string (strOf (fV id x n).1), .int .i64 (fV id x n).2]⟩) H) : SCalls Tryd.prog 34 [frC id x n] H K := by
  refine enter34 ?_
  unfold fV at hK
  have hD' : ∀ q : Nat × Blk, Db (q :: H) := fun q => hD.mono fun p hp => .tail _ hp
  cases hg : okF id x n with
  | true =>
    rw [hg] at hK
    have h42 := fun H (K2 : Value → Heap → Prop) (hk : K2 (.int .i64 (if okF id x n then 0 else 1)) H) => c42 (H := H) (K := K2) hid hk
    rw [hg] at h42
    repeat' ((conv => whnf); (first
        | refine h42 _ _ ?_
        | refine Branch.f rfl ?_
        | refine c43 hg (hD' _) ?_
        | exact Keep.d1 hK
        | refine New.mk (fun _ => ?_)
        | refine Look.at0 ?_
        | refine Cell.row ?_
        | refine Cell.buf ?_
        | refine Cells.row rfl ?_
        | refine Put.row rfl ?_
        | refine Put.buf rfl ?_
        | refine Look.at1 ?_
        | refine Look.at2 ?_
        | refine Look.at3 ?_
        | refine Look.at4 ?_
        | refine Look.at5 ?_
        | refine Look.at6 ?_
        | refine Look.at7 ?_
        | refine Look.at8 ?_
        | with_reducible refine Val.i64 (by omega) (by omega) ?_
        | with_reducible refine Val.u8 (by omega) (by omega) ?_
        | with_reducible refine Val.u32 (by omega) (by omega) ?_
        | with_reducible refine Val.u64 (by omega) (by omega) ?_
        | with_reducible refine Val.u8m ?_
        | with_reducible refine Val.u32m ?_
        | with_reducible refine Val.u64m ?_
        | with_reducible refine Val.shr8 ?_
        | with_reducible refine Val.shr16 (by decide) ?_
        | with_reducible refine Val.shr24 (by decide) ?_
        | with_reducible refine Val.raw ?_
        | refine Branch.not ?_
        | refine Branch.and ?_
        | refine Branch.or ?_
        | refine Branch.dt (by assumption) ?_
        | refine Branch.df (by assumption) ?_
        | refine Branch.dt rfl ?_
        | refine Branch.dt (by omega) ?_
        | refine Branch.df (by omega) ?_
        | refine Branch.t rfl ?_
        | refine Branch.f rfl ?_
        | refine Branch.t (by assumption) ?_
        | refine Branch.f (by assumption) ?_
        | refine Branch.d (fun _ => ?_) (fun _ => ?_)
        | refine Branch.mk (fun _ => ?_) (fun _ => ?_)
        | refine Need.mk (by first | omega | decide | rfl) ?_
        | refine Idx.nat (by omega) ?_
        | refine Idx.auto (by first | omega | decide) (by first | omega | decide) ?_
        | refine Cell.ro rfl ?_
        | refine SDraw.all (by kernel_rfl) ?_
        | refine Kept.k0 ?_
        | refine Kept.k1 ?_
        | refine Kept.k2 ?_
        | refine Kept.k3 ?_
        | refine Kept.k4 ?_))
  | false =>
    rw [hg] at hK
    have h42 := fun H (K2 : Value → Heap → Prop) (hk : K2 (.int .i64 (if okF id x n then 0 else 1)) H) => c42 (H := H) (K := K2) hid hk
    rw [hg] at h42
    repeat' ((conv => whnf); (first
        | refine h42 _ _ ?_
        | refine Branch.t rfl ?_
        | exact Keep.d1 hK
        | refine New.mk (fun _ => ?_)
        | refine Look.at0 ?_
        | refine Cell.row ?_
        | refine Cell.buf ?_
        | refine Cells.row rfl ?_
        | refine Put.row rfl ?_
        | refine Put.buf rfl ?_
        | refine Look.at1 ?_
        | refine Look.at2 ?_
        | refine Look.at3 ?_
        | refine Look.at4 ?_
        | refine Look.at5 ?_
        | refine Look.at6 ?_
        | refine Look.at7 ?_
        | refine Look.at8 ?_
        | with_reducible refine Val.i64 (by omega) (by omega) ?_
        | with_reducible refine Val.u8 (by omega) (by omega) ?_
        | with_reducible refine Val.u32 (by omega) (by omega) ?_
        | with_reducible refine Val.u64 (by omega) (by omega) ?_
        | with_reducible refine Val.u8m ?_
        | with_reducible refine Val.u32m ?_
        | with_reducible refine Val.u64m ?_
        | with_reducible refine Val.shr8 ?_
        | with_reducible refine Val.shr16 (by decide) ?_
        | with_reducible refine Val.shr24 (by decide) ?_
        | with_reducible refine Val.raw ?_
        | refine Branch.not ?_
        | refine Branch.and ?_
        | refine Branch.or ?_
        | refine Branch.dt (by assumption) ?_
        | refine Branch.df (by assumption) ?_
        | refine Branch.dt rfl ?_
        | refine Branch.dt (by omega) ?_
        | refine Branch.df (by omega) ?_
        | refine Branch.t rfl ?_
        | refine Branch.f rfl ?_
        | refine Branch.t (by assumption) ?_
        | refine Branch.f (by assumption) ?_
        | refine Branch.d (fun _ => ?_) (fun _ => ?_)
        | refine Branch.mk (fun _ => ?_) (fun _ => ?_)
        | refine Need.mk (by first | omega | decide | rfl) ?_
        | refine Idx.nat (by omega) ?_
        | refine Idx.auto (by first | omega | decide) (by first | omega | decide) ?_
        | refine Cell.ro rfl ?_
        | refine SDraw.all (by kernel_rfl) ?_
        | refine Kept.k0 ?_
        | refine Kept.k1 ?_
        | refine Kept.k2 ?_
        | refine Kept.k3 ?_
        | refine Kept.k4 ?_))
theorem c28 (hid : id < 4294967296) (hD : Db H) (hK : K (.string (strOf (fV id x n).1)) H) : SCalls Tryd.prog 28 [mgC id x n p j] H K := by
  refine enter28 ?_
  have hD' : ∀ q : Nat × Blk, Db (q :: H) := fun q => hD.mono fun p hp => .tail _ hp
  repeat' ((conv => whnf); (first
      | refine c35 ?_
      | refine c34 hid (hD' _) ?_
      | exact Keep.d1 hK
      | refine New.mk (fun _ => ?_)
      | refine Look.at0 ?_
      | refine Cell.row ?_
      | refine Cell.buf ?_
      | refine Cells.row rfl ?_
      | refine Put.row rfl ?_
      | refine Put.buf rfl ?_
      | refine Look.at1 ?_
      | refine Look.at2 ?_
      | refine Look.at3 ?_
      | refine Look.at4 ?_
      | refine Look.at5 ?_
      | refine Look.at6 ?_
      | refine Look.at7 ?_
      | refine Look.at8 ?_
      | with_reducible refine Val.i64 (by omega) (by omega) ?_
      | with_reducible refine Val.u8 (by omega) (by omega) ?_
      | with_reducible refine Val.u32 (by omega) (by omega) ?_
      | with_reducible refine Val.u64 (by omega) (by omega) ?_
      | with_reducible refine Val.u8m ?_
      | with_reducible refine Val.u32m ?_
      | with_reducible refine Val.u64m ?_
      | with_reducible refine Val.shr8 ?_
      | with_reducible refine Val.shr16 (by decide) ?_
      | with_reducible refine Val.shr24 (by decide) ?_
      | with_reducible refine Val.raw ?_
      | refine Branch.not ?_
      | refine Branch.and ?_
      | refine Branch.or ?_
      | refine Branch.dt (by assumption) ?_
      | refine Branch.df (by assumption) ?_
      | refine Branch.dt rfl ?_
      | refine Branch.dt (by omega) ?_
      | refine Branch.df (by omega) ?_
      | refine Branch.t rfl ?_
      | refine Branch.f rfl ?_
      | refine Branch.t (by assumption) ?_
      | refine Branch.f (by assumption) ?_
      | refine Branch.d (fun _ => ?_) (fun _ => ?_)
      | refine Branch.mk (fun _ => ?_) (fun _ => ?_)
      | refine Need.mk (by first | omega | decide | rfl) ?_
      | refine Idx.nat (by omega) ?_
      | refine Idx.auto (by first | omega | decide) (by first | omega | decide) ?_
      | refine Cell.ro rfl ?_
      | refine SDraw.all (by kernel_rfl) ?_
      | refine Kept.k0 ?_
      | refine Kept.k1 ?_
      | refine Kept.k2 ?_
      | refine Kept.k3 ?_
      | refine Kept.k4 ?_))
theorem c38 (hid : okF id x n = true) (hK : K (.string (strOf (fldB id x))) H) : SCalls Tryd.prog 38 [frC id x n] H K := by
  refine enter38 ?_
  have h18 : shrI .u32 (id : Int) 18 = ((id / 2 ^ 18 : Nat) : Int) := shr_nat (k := .u32) (n := 18) (by decide)
  unfold okF at hid
  have hf : ∀ s : ByteArray, s = strOf (fldB id x) → ∀ q, Keep ((q : Nat × Blk) :: H) fun H' => K (.string s) H' := fun s e q => by rw [e]; exact Keep.d1 hK
  cases x with
  | true =>
    simp only [Bool.and_eq_true, decide_eq_true_eq, if_true] at hid
    have hand : bitAnd .u32 (id : Int) 262143 = ((id % 2 ^ 18 : Nat) : Int) := bitMask_nat (k := .u32) rfl (a := id) (n := 18) (by show id < 4294967296; omega) (by decide)
    have n1 : (numV (id / 2 ^ 18) 11).1 = numB 11 (id / 2 ^ 18) := by
      unfold numV
      rw [if_pos ⟨by decide, by decide, by show id / 2 ^ 18 < 2 ^ 11; omega⟩]; rfl
    have n2 : (numV (id % 2 ^ 18) 18).1 = numB 18 (id % 2 ^ 18) := by
      unfold numV
      rw [if_pos ⟨by decide, by decide, by show id % 2 ^ 18 < 2 ^ 18; omega⟩]; rfl
    have h1 : ∀ H (K2 : Value → Heap → Prop), K2 (.string (strOf (numB 11 (id / 2 ^ 18)))) H → SCalls Tryd.prog 45 [.int .u64 ((id / 2 ^ 18 : Nat) : Int), .int .i64 11] H K2 := fun H K2 hk => c45 (by omega) (by rw [n1]; exact hk)
    have h2 : ∀ H (K2 : Value → Heap → Prop), K2 (.string (strOf (numB 18 (id % 2 ^ 18)))) H → SCalls Tryd.prog 45 [.int .u64 ((id % 2 ^ 18 : Nat) : Int), .int .i64 18] H K2 := fun H K2 hk => c45 (by omega) (by rw [n2]; exact hk)
    have hw1 : id / 2 ^ 18 < 18446744073709551616 := by omega
    have hw2 : id % 2 ^ 18 < 18446744073709551616 := by omega
    have hz : strOf (numB 11 (id / 2 ^ 18)) ++ ⟨#[49, 49]⟩ ++ strOf (numB 18 (id % 2 ^ 18)) ++ strOf [48] = strOf (fldB id true) := by
      have : strOf (numB 11 (id / 2 ^ 18)) ++ strOf [49, 49] ++ strOf (numB 18 (id % 2 ^ 18)) ++ strOf [48] = strOf (fldB id true) := by rw [strOf_app, strOf_app, strOf_app]; rfl
      exact this
    have s1 : ∀ w n, (strOf (numB w n)).size = w := fun w n => by rw [strOf_size, numB_len]
    repeat' ((conv => whnf); (first
        | with_reducible refine Val.to _ h18 ?_
        | with_reducible refine Val.to _ hand ?_
        | with_reducible refine h1 _ _ ?_
        | with_reducible refine h2 _ _ ?_
        | refine c46 ?_
        | refine Need.mk (by simp only [ByteArray.size_append, strOf_size, numB_len, List.length_cons, List.length_nil]; decide) ?_
        | exact hf _ hz _
        | refine New.mk (fun _ => ?_)
        | refine Look.at0 ?_
        | refine Cell.row ?_
        | refine Cell.buf ?_
        | refine Cells.row rfl ?_
        | refine Put.row rfl ?_
        | refine Put.buf rfl ?_
        | refine Look.at1 ?_
        | refine Look.at2 ?_
        | refine Look.at3 ?_
        | refine Look.at4 ?_
        | refine Look.at5 ?_
        | refine Look.at6 ?_
        | refine Look.at7 ?_
        | refine Look.at8 ?_
        | with_reducible refine Val.i64 (by omega) (by omega) ?_
        | with_reducible refine Val.u8 (by omega) (by omega) ?_
        | with_reducible refine Val.u32 (by omega) (by omega) ?_
        | with_reducible refine Val.u64 (by omega) (by omega) ?_
        | with_reducible refine Val.u8m ?_
        | with_reducible refine Val.u32m ?_
        | with_reducible refine Val.u64m ?_
        | with_reducible refine Val.shr8 ?_
        | with_reducible refine Val.shr16 (by decide) ?_
        | with_reducible refine Val.shr24 (by decide) ?_
        | with_reducible refine Val.raw ?_
        | refine Branch.not ?_
        | refine Branch.and ?_
        | refine Branch.or ?_
        | refine Branch.dt (by assumption) ?_
        | refine Branch.df (by assumption) ?_
        | refine Branch.dt rfl ?_
        | refine Branch.dt (by omega) ?_
        | refine Branch.df (by omega) ?_
        | refine Branch.t rfl ?_
        | refine Branch.f rfl ?_
        | refine Branch.t (by assumption) ?_
        | refine Branch.f (by assumption) ?_
        | refine Branch.d (fun _ => ?_) (fun _ => ?_)
        | refine Branch.mk (fun _ => ?_) (fun _ => ?_)
        | refine Need.mk (by first | omega | decide | rfl) ?_
        | refine Idx.nat (by omega) ?_
        | refine Idx.auto (by first | omega | decide) (by first | omega | decide) ?_
        | refine Cell.ro rfl ?_
        | refine SDraw.all (by kernel_rfl) ?_
        | refine Kept.k0 ?_
        | refine Kept.k1 ?_
        | refine Kept.k2 ?_
        | refine Kept.k3 ?_
        | refine Kept.k4 ?_))
  | false =>
    simp only [Bool.and_eq_true, decide_eq_true_eq, Bool.false_eq_true, if_false] at hid
    have n1 : (numV id 11).1 = numB 11 id := by
      unfold numV
      rw [if_pos ⟨by decide, by decide, by show id < 2 ^ 11; omega⟩]; rfl
    have h1 : ∀ H (K2 : Value → Heap → Prop), K2 (.string (strOf (numB 11 id))) H → SCalls Tryd.prog 45 [.int .u64 (id : Int), .int .i64 11] H K2 := fun H K2 hk => c45 (by omega) (by rw [n1]; exact hk)
    have hz : strOf (numB 11 id) ++ strOf [48] ++ ⟨#[48]⟩ = strOf (fldB id false) := by
      have : strOf (numB 11 id) ++ strOf [48] ++ strOf [48] = strOf (fldB id false) := by rw [strOf_app, strOf_app]; rfl
      exact this
    have s1 : ∀ w n, (strOf (numB w n)).size = w := fun w n => by rw [strOf_size, numB_len]
    repeat' ((conv => whnf); (first
        | with_reducible refine h1 _ _ ?_
        | refine c46 ?_
        | refine Need.mk (by simp only [ByteArray.size_append, strOf_size, numB_len, List.length_cons, List.length_nil]; decide) ?_
        | exact hf _ hz _
        | refine New.mk (fun _ => ?_)
        | refine Look.at0 ?_
        | refine Cell.row ?_
        | refine Cell.buf ?_
        | refine Cells.row rfl ?_
        | refine Put.row rfl ?_
        | refine Put.buf rfl ?_
        | refine Look.at1 ?_
        | refine Look.at2 ?_
        | refine Look.at3 ?_
        | refine Look.at4 ?_
        | refine Look.at5 ?_
        | refine Look.at6 ?_
        | refine Look.at7 ?_
        | refine Look.at8 ?_
        | with_reducible refine Val.i64 (by omega) (by omega) ?_
        | with_reducible refine Val.u8 (by omega) (by omega) ?_
        | with_reducible refine Val.u32 (by omega) (by omega) ?_
        | with_reducible refine Val.u64 (by omega) (by omega) ?_
        | with_reducible refine Val.u8m ?_
        | with_reducible refine Val.u32m ?_
        | with_reducible refine Val.u64m ?_
        | with_reducible refine Val.shr8 ?_
        | with_reducible refine Val.shr16 (by decide) ?_
        | with_reducible refine Val.shr24 (by decide) ?_
        | with_reducible refine Val.raw ?_
        | refine Branch.not ?_
        | refine Branch.and ?_
        | refine Branch.or ?_
        | refine Branch.dt (by assumption) ?_
        | refine Branch.df (by assumption) ?_
        | refine Branch.dt rfl ?_
        | refine Branch.dt (by omega) ?_
        | refine Branch.df (by omega) ?_
        | refine Branch.t rfl ?_
        | refine Branch.f rfl ?_
        | refine Branch.t (by assumption) ?_
        | refine Branch.f (by assumption) ?_
        | refine Branch.d (fun _ => ?_) (fun _ => ?_)
        | refine Branch.mk (fun _ => ?_) (fun _ => ?_)
        | refine Need.mk (by first | omega | decide | rfl) ?_
        | refine Idx.nat (by omega) ?_
        | refine Idx.auto (by first | omega | decide) (by first | omega | decide) ?_
        | refine Cell.ro rfl ?_
        | refine SDraw.all (by kernel_rfl) ?_
        | refine Kept.k0 ?_
        | refine Kept.k1 ?_
        | refine Kept.k2 ?_
        | refine Kept.k3 ?_
        | refine Kept.k4 ?_))
theorem c25 (hK : K (.tuple ⟨[.string (strOf (fV id x n).1), .int .i64 (fV id x n).2]⟩) H) : SCalls Tryd.prog 25 [frC id x n] H K := by
  refine enter25 ?_
  unfold fV at hK
  cases hg : okF id x n with
  | true =>
    rw [hg] at hK
    have h42 := fun H (K2 : Value → Heap → Prop) (hk : K2 (.int .i64 (if okF id x n then 0 else 1)) H) => c32 (H := H) (K := K2) hk
    rw [hg] at h42
    repeat' ((conv => whnf); (first
        | refine h42 _ _ ?_
        | refine Branch.f rfl ?_
        | refine c38 hg ?_
        | exact Keep.d1 hK
        | refine New.mk (fun _ => ?_)
        | refine Look.at0 ?_
        | refine Cell.row ?_
        | refine Cell.buf ?_
        | refine Cells.row rfl ?_
        | refine Put.row rfl ?_
        | refine Put.buf rfl ?_
        | refine Look.at1 ?_
        | refine Look.at2 ?_
        | refine Look.at3 ?_
        | refine Look.at4 ?_
        | refine Look.at5 ?_
        | refine Look.at6 ?_
        | refine Look.at7 ?_
        | refine Look.at8 ?_
        | with_reducible refine Val.i64 (by omega) (by omega) ?_
        | with_reducible refine Val.u8 (by omega) (by omega) ?_
        | with_reducible refine Val.u32 (by omega) (by omega) ?_
        | with_reducible refine Val.u64 (by omega) (by omega) ?_
        | with_reducible refine Val.u8m ?_
        | with_reducible refine Val.u32m ?_
        | with_reducible refine Val.u64m ?_
        | with_reducible refine Val.shr8 ?_
        | with_reducible refine Val.shr16 (by decide) ?_
        | with_reducible refine Val.shr24 (by decide) ?_
        | with_reducible refine Val.raw ?_
        | refine Branch.not ?_
        | refine Branch.and ?_
        | refine Branch.or ?_
        | refine Branch.dt (by assumption) ?_
        | refine Branch.df (by assumption) ?_
        | refine Branch.dt rfl ?_
        | refine Branch.dt (by omega) ?_
        | refine Branch.df (by omega) ?_
        | refine Branch.t rfl ?_
        | refine Branch.f rfl ?_
        | refine Branch.t (by assumption) ?_
        | refine Branch.f (by assumption) ?_
        | refine Branch.d (fun _ => ?_) (fun _ => ?_)
        | refine Branch.mk (fun _ => ?_) (fun _ => ?_)
        | refine Need.mk (by first | omega | decide | rfl) ?_
        | refine Idx.nat (by omega) ?_
        | refine Idx.auto (by first | omega | decide) (by first | omega | decide) ?_
        | refine Cell.ro rfl ?_
        | refine SDraw.all (by kernel_rfl) ?_
        | refine Kept.k0 ?_
        | refine Kept.k1 ?_
        | refine Kept.k2 ?_
        | refine Kept.k3 ?_
        | refine Kept.k4 ?_))
  | false =>
    rw [hg] at hK
    have h42 := fun H (K2 : Value → Heap → Prop) (hk : K2 (.int .i64 (if okF id x n then 0 else 1)) H) => c32 (H := H) (K := K2) hk
    rw [hg] at h42
    repeat' ((conv => whnf); (first
        | refine h42 _ _ ?_
        | refine Branch.t rfl ?_
        | exact Keep.d1 hK
        | refine New.mk (fun _ => ?_)
        | refine Look.at0 ?_
        | refine Cell.row ?_
        | refine Cell.buf ?_
        | refine Cells.row rfl ?_
        | refine Put.row rfl ?_
        | refine Put.buf rfl ?_
        | refine Look.at1 ?_
        | refine Look.at2 ?_
        | refine Look.at3 ?_
        | refine Look.at4 ?_
        | refine Look.at5 ?_
        | refine Look.at6 ?_
        | refine Look.at7 ?_
        | refine Look.at8 ?_
        | with_reducible refine Val.i64 (by omega) (by omega) ?_
        | with_reducible refine Val.u8 (by omega) (by omega) ?_
        | with_reducible refine Val.u32 (by omega) (by omega) ?_
        | with_reducible refine Val.u64 (by omega) (by omega) ?_
        | with_reducible refine Val.u8m ?_
        | with_reducible refine Val.u32m ?_
        | with_reducible refine Val.u64m ?_
        | with_reducible refine Val.shr8 ?_
        | with_reducible refine Val.shr16 (by decide) ?_
        | with_reducible refine Val.shr24 (by decide) ?_
        | with_reducible refine Val.raw ?_
        | refine Branch.not ?_
        | refine Branch.and ?_
        | refine Branch.or ?_
        | refine Branch.dt (by assumption) ?_
        | refine Branch.df (by assumption) ?_
        | refine Branch.dt rfl ?_
        | refine Branch.dt (by omega) ?_
        | refine Branch.df (by omega) ?_
        | refine Branch.t rfl ?_
        | refine Branch.f rfl ?_
        | refine Branch.t (by assumption) ?_
        | refine Branch.f (by assumption) ?_
        | refine Branch.d (fun _ => ?_) (fun _ => ?_)
        | refine Branch.mk (fun _ => ?_) (fun _ => ?_)
        | refine Need.mk (by first | omega | decide | rfl) ?_
        | refine Idx.nat (by omega) ?_
        | refine Idx.auto (by first | omega | decide) (by first | omega | decide) ?_
        | refine Cell.ro rfl ?_
        | refine SDraw.all (by kernel_rfl) ?_
        | refine Kept.k0 ?_
        | refine Kept.k1 ?_
        | refine Kept.k2 ?_
        | refine Kept.k3 ?_
        | refine Kept.k4 ?_))
theorem c13 (hK : K (.string (strOf (fV id x n).1)) H) : SCalls Tryd.prog 13 [mgC id x n p j] H K := by
  refine enter13 ?_
  repeat' ((conv => whnf); (first
      | refine c26 ?_
      | refine c25 ?_
      | exact Keep.d1 hK
      | refine New.mk (fun _ => ?_)
      | refine Look.at0 ?_
      | refine Cell.row ?_
      | refine Cell.buf ?_
      | refine Cells.row rfl ?_
      | refine Put.row rfl ?_
      | refine Put.buf rfl ?_
      | refine Look.at1 ?_
      | refine Look.at2 ?_
      | refine Look.at3 ?_
      | refine Look.at4 ?_
      | refine Look.at5 ?_
      | refine Look.at6 ?_
      | refine Look.at7 ?_
      | refine Look.at8 ?_
      | with_reducible refine Val.i64 (by omega) (by omega) ?_
      | with_reducible refine Val.u8 (by omega) (by omega) ?_
      | with_reducible refine Val.u32 (by omega) (by omega) ?_
      | with_reducible refine Val.u64 (by omega) (by omega) ?_
      | with_reducible refine Val.u8m ?_
      | with_reducible refine Val.u32m ?_
      | with_reducible refine Val.u64m ?_
      | with_reducible refine Val.shr8 ?_
      | with_reducible refine Val.shr16 (by decide) ?_
      | with_reducible refine Val.shr24 (by decide) ?_
      | with_reducible refine Val.raw ?_
      | refine Branch.not ?_
      | refine Branch.and ?_
      | refine Branch.or ?_
      | refine Branch.dt (by assumption) ?_
      | refine Branch.df (by assumption) ?_
      | refine Branch.dt rfl ?_
      | refine Branch.dt (by omega) ?_
      | refine Branch.df (by omega) ?_
      | refine Branch.t rfl ?_
      | refine Branch.f rfl ?_
      | refine Branch.t (by assumption) ?_
      | refine Branch.f (by assumption) ?_
      | refine Branch.d (fun _ => ?_) (fun _ => ?_)
      | refine Branch.mk (fun _ => ?_) (fun _ => ?_)
      | refine Need.mk (by first | omega | decide | rfl) ?_
      | refine Idx.nat (by omega) ?_
      | refine Idx.auto (by first | omega | decide) (by first | omega | decide) ?_
      | refine Cell.ro rfl ?_
      | refine SDraw.all (by kernel_rfl) ?_
      | refine Kept.k0 ?_
      | refine Kept.k1 ?_
      | refine Kept.k2 ?_
      | refine Kept.k3 ?_
      | refine Kept.k4 ?_))
end
end Go.Proofs.YtjleekdidedhaaaDoor

/- Layer 25: what is wrong with messages, by the program and by the document: by walks. -/
set_option linter.unusedVariables false
set_option linter.unusedSimpArgs false
set_option maxRecDepth 100000
set_option maxHeartbeats 4000000
namespace Go.Proofs.YtjleekdidedhaaaDoor
open Sx
theorem list_at {α : Type} {L : List α} {j : Nat} (hlt : j < L.length) : ∃ x, L[j]? = some x ∧ L.drop j = x :: L.drop (j + 1) ∧ L.take (j + 1) = L.take j ++ [x] :=
  ⟨L[j], List.getElem?_eq_getElem hlt, List.drop_eq_getElem_cons hlt, List.take_succ_eq_append_getElem hlt⟩
theorem inS_at {α : Type} {f : α → List Value} {k : Nat} {sv : Value} {H : Heap} {L : List α} (h : InS f k sv H L) (hk : ∀ x, (f x).length = k) {j : Nat} {x : α} (hj : L[j]? = some x) :
    ∃ r o c b, sv = .slice (some ⟨r, o, none⟩) L.length c ∧ (r, b) ∈ H ∧ ∀ i v, (f x)[i]? = some v → b.cell (o + j * k + i) = some v := by
  obtain ⟨a, c, rfl, h1, h2⟩ := h
  rcases h2 with rfl | ⟨r, o, b, rfl, hm, hc⟩
  · simp at hj
  · exact ⟨r, o, c, b, rfl, hm, fun i v hv => hc j x i v hj hv (by rw [← hk x]; exact (List.getElem?_eq_some_iff.1 hv).1)⟩
/-- A message. -/
structure Msg where
  (id : Nat) (x : Bool) (n : Int) (p j : Nat)
def Msg.wf (m : Msg) : Prop := m.id < 4294967296 ∧ -9223372036854775808 ≤ m.n ∧ m.n ≤ 9223372036854775807 ∧ m.p < 18446744073709551616 ∧ m.j < 18446744073709551616
abbrev mC (m : Msg) : List Value := [.int .u32 (m.id : Int), .bool m.x, .int .i64 m.n, .int .u64 (m.p : Int), .int .u64 (m.j : Int)]
abbrev fld (m : Msg) : List UInt8 := (fV m.id m.x m.n).1
def badN (n : Int) (p j : Nat) : Bool := decide (n < 0) || decide (8 < n) || decide (p < 1) || decide (4294967296 < p) || decide (p ≤ j)
def chkGo : List Msg → List Msg → Int
  | _, [] => 0
  | pre, m :: r => if badN m.n m.p m.j || !okF m.id m.x m.n then 1 else if pre.any (fun y => decide (fld y = fld m)) then 5 else chkGo (pre ++ [m]) r
def chk (L : List Msg) : Int := if 64 < L.length then 2 else chkGo [] L
abbrev kS : List UInt8 → Value := fun s => .string (strOf s)
theorem keysS : Keys .string kS := ⟨fun a => by simp [Go.MapKept.IsKey], fun a b h => by injection h with h; exact strOf_inj h⟩
theorem hty81 : mapTy Tryd.prog 81 9 4 .string (.bool false) := mapTy.mk' (by kernel_rfl) (by kernel_rfl) (by kernel_rfl)
inductive S22 (A3 A12 A13 A14 : Value) : List Value → Prop
  | mk {r0 r1 r2 r4 r5 r6 r7 r8 r9 r10 r11 r15 r16 r17 r18 r19 r20 r21 r22 r23 r24 r25 r26 r27 r28 r29 r30 r31 r32 r33 r34 r35 r36 r37 r38 r39 r40 r41 r42 r43 r44 r45 r46 r47 r48 r49 r50 r51 r52 r53 r54 r55 r56 r57 r58 : Value} : S22 A3 A12 A13 A14 [r0, r1, r2, A3, r4, r5, r6, r7, r8, r9, r10, r11, A12, A13, A14, r15, r16, r17, r18, r19, r20, r21, r22, r23, r24, r25, r26, r27, r28, r29, r30, r31, r32, r33, r34, r35, r36, r37, r38, r39, r40, r41, r42, r43, r44, r45, r46, r47, r48, r49, r50, r51, r52, r53, r54, r55, r56, r57, r58]
inductive S16 (A0 A3 : Value) : List Value → Prop
  | mk {r1 r2 r4 r5 r6 r7 r8 r9 r10 r11 r12 r13 r14 r15 r16 r17 r18 r19 r20 r21 r22 r23 r24 r25 r26 r27 r28 r29 r30 r31 r32 r33 r34 r35 r36 r37 r38 r39 r40 r41 r42 r43 r44 r45 r46 r47 r48 r49 r50 r51 r52 r53 r54 r55 r56 r57 r58 r59 r60 r61 r62 : Value} : S16 A0 A3 [A0, r1, r2, A3, r4, r5, r6, r7, r8, r9, r10, r11, r12, r13, r14, r15, r16, r17, r18, r19, r20, r21, r22, r23, r24, r25, r26, r27, r28, r29, r30, r31, r32, r33, r34, r35, r36, r37, r38, r39, r40, r41, r42, r43, r44, r45, r46, r47, r48, r49, r50, r51, r52, r53, r54, r55, r56, r57, r58, r59, r60, r61, r62]
inductive S16a (A0 A3 A4 A5 : Value) : List Value → Prop
  | mk {r1 r2 r6 r7 r8 r9 r10 r11 r12 r13 r14 r15 r16 r17 r18 r19 r20 r21 r22 r23 r24 r25 r26 r27 r28 r29 r30 r31 r32 r33 r34 r35 r36 r37 r38 r39 r40 r41 r42 r43 r44 r45 r46 r47 r48 r49 r50 r51 r52 r53 r54 r55 r56 r57 r58 r59 r60 r61 r62 : Value} : S16a A0 A3 A4 A5 [A0, r1, r2, A3, A4, A5, r6, r7, r8, r9, r10, r11, r12, r13, r14, r15, r16, r17, r18, r19, r20, r21, r22, r23, r24, r25, r26, r27, r28, r29, r30, r31, r32, r33, r34, r35, r36, r37, r38, r39, r40, r41, r42, r43, r44, r45, r46, r47, r48, r49, r50, r51, r52, r53, r54, r55, r56, r57, r58, r59, r60, r61, r62]
structure T22 where
  (k : Nat) (l : List (Ent (List UInt8))) (c : Nat)
def I22 (pm : Nat) (sv : Value) (L : List Msg) (T : Int) (H : Heap) (y : T22) (S : List Value) (H' : Heap) : Prop :=
  y.k ≤ L.length ∧ y.l.map Ent.key = (L.take y.k).map fld ∧ (∀ e ∈ y.l, e.val = .bool true) ∧ chkGo (L.take y.k) (L.drop y.k) = T ∧ S22 (.map (some pm)) sv (.int .i64 (L.length : Int)) (.int .i64 (y.k : Int)) S ∧ H' = (pm, mapB kS y.l y.c) :: H
section
variable {K : Value → Heap → Prop} {H : Heap} {sv : Value} {L : List Msg}
theorem c22 (hD : Db H) (hin : InS mC 5 sv H L) (hwf : ∀ m ∈ L, m.wf) (h : K (.int .i64 (chk L)) H) : SCalls Tryd.prog 22 [sv] H K := by
  obtain ⟨sa, sc, rfl, hml⟩ := hin.sv
  have hml' : L.length ≤ 9223372036854775807 := by simp only [maxLen] at hml; omega
  refine enter22 ?_
  unfold chk at h
  by_cases hl : 64 < L.length
  · rw [if_pos hl] at h
    repeat' ((conv => whnf); (first
        | exact Keep.all h
        | refine New.mk (fun _ => ?_)
        | refine Look.at0 ?_
        | refine Cell.row ?_
        | refine Cell.buf ?_
        | refine Cells.row rfl ?_
        | refine Put.row rfl ?_
        | refine Put.buf rfl ?_
        | refine Look.at1 ?_
        | refine Look.at2 ?_
        | refine Look.at3 ?_
        | refine Look.at4 ?_
        | refine Look.at5 ?_
        | refine Look.at6 ?_
        | refine Look.at7 ?_
        | refine Look.at8 ?_
        | with_reducible refine Val.i64 (by omega) (by omega) ?_
        | with_reducible refine Val.u8 (by omega) (by omega) ?_
        | with_reducible refine Val.u32 (by omega) (by omega) ?_
        | with_reducible refine Val.u64 (by omega) (by omega) ?_
        | with_reducible refine Val.u8m ?_
        | with_reducible refine Val.u32m ?_
        | with_reducible refine Val.u64m ?_
        | with_reducible refine Val.shr8 ?_
        | with_reducible refine Val.shr16 (by decide) ?_
        | with_reducible refine Val.shr24 (by decide) ?_
        | with_reducible refine Val.raw ?_
        | refine Branch.not ?_
        | refine Branch.and ?_
        | refine Branch.or ?_
        | refine Branch.dt (by assumption) ?_
        | refine Branch.df (by assumption) ?_
        | refine Branch.dt rfl ?_
        | refine Branch.dt (by omega) ?_
        | refine Branch.df (by omega) ?_
        | refine Branch.t rfl ?_
        | refine Branch.f rfl ?_
        | refine Branch.t (by assumption) ?_
        | refine Branch.f (by assumption) ?_
        | refine Branch.d (fun _ => ?_) (fun _ => ?_)
        | refine Branch.mk (fun _ => ?_) (fun _ => ?_)
        | refine Need.mk (by first | omega | decide | rfl) ?_
        | refine Idx.nat (by omega) ?_
        | refine Idx.auto (by first | omega | decide) (by first | omega | decide) ?_
        | refine Cell.ro rfl ?_
        | refine SDraw.all (by kernel_rfl) ?_
        | refine Kept.k0 ?_
        | refine Kept.k1 ?_
        | refine Kept.k2 ?_
        | refine Kept.k3 ?_
        | refine Kept.k4 ?_))
  · rw [if_neg hl] at h
    generalize hT : chkGo [] L = T at h
    repeat' ((conv => whnf); (first
        | refine RawV.mkMap kS rfl (fun pm => ?_)
        | refine New.mk (fun _ => ?_)
        | refine Look.at0 ?_
        | refine Cell.row ?_
        | refine Cell.buf ?_
        | refine Cells.row rfl ?_
        | refine Put.row rfl ?_
        | refine Put.buf rfl ?_
        | refine Look.at1 ?_
        | refine Look.at2 ?_
        | refine Look.at3 ?_
        | refine Look.at4 ?_
        | refine Look.at5 ?_
        | refine Look.at6 ?_
        | refine Look.at7 ?_
        | refine Look.at8 ?_
        | with_reducible refine Val.i64 (by omega) (by omega) ?_
        | with_reducible refine Val.u8 (by omega) (by omega) ?_
        | with_reducible refine Val.u32 (by omega) (by omega) ?_
        | with_reducible refine Val.u64 (by omega) (by omega) ?_
        | with_reducible refine Val.u8m ?_
        | with_reducible refine Val.u32m ?_
        | with_reducible refine Val.u64m ?_
        | with_reducible refine Val.shr8 ?_
        | with_reducible refine Val.shr16 (by decide) ?_
        | with_reducible refine Val.shr24 (by decide) ?_
        | with_reducible refine Val.raw ?_
        | refine Branch.not ?_
        | refine Branch.and ?_
        | refine Branch.or ?_
        | refine Branch.dt (by assumption) ?_
        | refine Branch.df (by assumption) ?_
        | refine Branch.dt rfl ?_
        | refine Branch.dt (by omega) ?_
        | refine Branch.df (by omega) ?_
        | refine Branch.t rfl ?_
        | refine Branch.f rfl ?_
        | refine Branch.t (by assumption) ?_
        | refine Branch.f (by assumption) ?_
        | refine Branch.d (fun _ => ?_) (fun _ => ?_)
        | refine Branch.mk (fun _ => ?_) (fun _ => ?_)
        | refine Need.mk (by first | omega | decide | rfl) ?_
        | refine Idx.nat (by omega) ?_
        | refine Idx.auto (by first | omega | decide) (by first | omega | decide) ?_
        | refine Cell.ro rfl ?_
        | refine SDraw.all (by kernel_rfl) ?_
        | refine Kept.k0 ?_
        | refine Kept.k1 ?_
        | refine Kept.k2 ?_
        | refine Kept.k3 ?_
        | refine Kept.k4 ?_))
    refine SLoop.invA (I22 pm (.slice sa L.length sc) L T H) (fun y => L.length - y.k) ⟨0, [], 0⟩ (Keep.all ⟨by simp, by simp, by simp, hT, .mk, rfl⟩) ?_
    rintro ⟨k, l, c2⟩ S H' ⟨hk, hkeys, hvals, hgo, hS, rfl⟩ R hR
    dsimp only at hk hkeys hvals hgo hS hR ⊢
    cases hS
    by_cases hlt : k < L.length
    · obtain ⟨m, hx, hdrop, htake⟩ := list_at hlt
      obtain ⟨r, o, c, b, e1, hm, hc⟩ := inS_at hin (fun _ => rfl) hx
      injection e1 with e1 _ e3
      subst e1
      have hmw := hwf m (List.mem_of_getElem? hx)
      have hin1 : ((L.take k).any fun y => decide (fld y = fld m)) = true ↔ ∃ e ∈ l, e.key = fld m := by
        rw [List.any_eq_true]
        constructor
        · rintro ⟨y, hy, he⟩
          have : fld y ∈ l.map Ent.key := by rw [hkeys]; exact List.mem_map_of_mem hy
          obtain ⟨e, he1, he2⟩ := List.mem_map.1 this
          exact ⟨e, he1, by rw [he2]; exact of_decide_eq_true he⟩
        · rintro ⟨e, he1, he2⟩
          have : e.key ∈ (L.take k).map fld := by rw [← hkeys]; exact List.mem_map_of_mem he1
          obtain ⟨y, hy, he⟩ := List.mem_map.1 this
          exact ⟨y, hy, by rw [he, he2]; simp⟩
      rw [hdrop, chkGo] at hgo
      have hnext : ∀ S (y1 : Nat × Blk), (badN m.n m.p m.j || !okF m.id m.x m.n) = false → ((L.take k).any fun y => decide (fld y = fld m)) = false → S22 (.map (some pm)) (.slice (some ⟨r, o, none⟩) L.length sc) (.int .i64 (L.length : Int)) (.int .i64 ((k + 1 : Nat) : Int)) S → R S (y1 :: (pm, mapB kS (l ++ [⟨fld m, .bool true, c2⟩]) (c2 + 1)) :: H) := fun S y1 h1 h2 h3 => by
        rw [if_neg (by rw [h1]; decide), if_neg (by rw [h2]; decide), ← htake] at hgo
        refine hR ⟨k + 1, l ++ [⟨fld m, .bool true, c2⟩], c2 + 1⟩ _ _ (by show L.length - (k + 1) < L.length - k; omega) (Keep.d1 ⟨by show k + 1 ≤ L.length; omega, ?_, ?_, hgo, h3, rfl⟩)
        · show (l ++ [(⟨fld m, .bool true, c2⟩ : Ent (List UInt8))]).map Ent.key = (L.take (k + 1)).map fld
          rw [List.map_append, hkeys, htake, List.map_append]; rfl
        · intro e he
          rcases List.mem_append.1 he with he | he
          · exact hvals e he
          · obtain rfl := List.mem_singleton.1 he; rfl
      clear hR hT hkeys htake
      have hD2 : ∀ y z : Nat × Blk, Db (y :: z :: H) := fun y z => hD.mono fun p hp => .tail _ (.tail _ hp)
      obtain ⟨id, x, n, p, j⟩ := m
      obtain ⟨w1, w2, w3, w4, w5⟩ := hmw
      have hc : ∀ i v, ([.int .u32 (id : Int), .bool x, .int .i64 n, .int .u64 (p : Int), .int .u64 (j : Int)] : List Value)[i]? = some v → b.cell (o + k * 5 + i) = some v := hc
      dsimp only at hgo hnext hc hx hin1 w1 w2 w3 w4 w5
      cases hb : badN n p j with
      | true =>
        rw [hb, Bool.true_or, if_pos rfl] at hgo
        rw [← hgo] at h
        unfold badN at hb
        simp only [Bool.or_eq_true, decide_eq_true_eq] at hb
        clear hnext hin1
        repeat' ((conv => whnf); (first
            | refine Look.cells (.tail _ hm) rfl hc ?_
            | refine New.mk (fun _ => ?_)
            | refine Look.at0 ?_
            | refine Cell.row ?_
            | refine Cell.buf ?_
            | refine Cells.row rfl ?_
            | refine Put.row rfl ?_
            | refine Put.buf rfl ?_
            | refine Look.at1 ?_
            | refine Look.at2 ?_
            | refine Look.at3 ?_
            | refine Look.at4 ?_
            | refine Look.at5 ?_
            | refine Look.at6 ?_
            | refine Look.at7 ?_
            | refine Look.at8 ?_
            | with_reducible refine Val.i64 (by omega) (by omega) ?_
            | with_reducible refine Val.u8 (by omega) (by omega) ?_
            | with_reducible refine Val.u32 (by omega) (by omega) ?_
            | with_reducible refine Val.u64 (by omega) (by omega) ?_
            | with_reducible refine Val.u8m ?_
            | with_reducible refine Val.u32m ?_
            | with_reducible refine Val.u64m ?_
            | with_reducible refine Val.shr8 ?_
            | with_reducible refine Val.shr16 (by decide) ?_
            | with_reducible refine Val.shr24 (by decide) ?_
            | with_reducible refine Val.raw ?_
            | refine Branch.not ?_
            | refine Branch.and ?_
            | refine Branch.or ?_
            | refine Branch.dt (by assumption) ?_
            | refine Branch.df (by assumption) ?_
            | refine Branch.dt rfl ?_
            | refine Branch.dt (by omega) ?_
            | refine Branch.df (by omega) ?_
            | refine Branch.t rfl ?_
            | refine Branch.f rfl ?_
            | refine Branch.t (by assumption) ?_
            | refine Branch.f (by assumption) ?_
            | refine Branch.d (fun _ => ?_) (fun _ => ?_)
            | refine Branch.mk (fun _ => ?_) (fun _ => ?_)
            | refine Need.mk (by first | omega | decide | rfl) ?_
            | refine Idx.nat (by omega) ?_
            | refine Idx.auto (by first | omega | decide) (by first | omega | decide) ?_
            | refine Cell.ro rfl ?_
            | refine SDraw.all (by kernel_rfl) ?_
            | refine Kept.k0 ?_
            | refine Kept.k1 ?_
            | refine Kept.k2 ?_
            | refine Kept.k3 ?_
            | refine Kept.k4 ?_))
        all_goals first
          | (conv => whnf); exact Keep.d2 h
          | (exfalso; omega)
      | false =>
        have hb2 := hb
        unfold badN at hb2
        simp only [Bool.or_eq_false_iff, decide_eq_false_iff_not] at hb2
        obtain ⟨⟨⟨⟨b1, b2⟩, b3⟩, b4⟩, b5⟩ := hb2
        rw [hb, Bool.false_or] at hgo hnext
        have hfld : fV id x n = (fld ⟨id, x, n, p, j⟩, if okF id x n then 0 else 1) := by
          unfold fld fV
          split <;> rfl
        have h34 := fun H (K2 : Value → Heap → Prop) (hD : Db H) (hk : K2 (.tuple ⟨[.string (strOf (fV id x n).1), .int .i64 (fV id x n).2]⟩) H) => c34 (x := x) (n := n) w1 hD hk
        rw [hfld] at h34
        generalize hF : fld ⟨id, x, n, p, j⟩ = F at *
        dsimp only at h34
        cases ho : okF id x n with
        | false =>
          rw [ho, Bool.not_false, if_pos rfl] at hgo
          rw [ho] at h34
          rw [← hgo] at h
          clear hnext hin1
          repeat' ((conv => whnf); (first
              | refine Look.cells (.tail _ hm) rfl hc ?_
              | refine c35 ?_
              | refine h34 _ _ (hD2 _ _) ?_
              | exact Keep.d2 h
              | refine New.mk (fun _ => ?_)
              | refine Look.at0 ?_
              | refine Cell.row ?_
              | refine Cell.buf ?_
              | refine Cells.row rfl ?_
              | refine Put.row rfl ?_
              | refine Put.buf rfl ?_
              | refine Look.at1 ?_
              | refine Look.at2 ?_
              | refine Look.at3 ?_
              | refine Look.at4 ?_
              | refine Look.at5 ?_
              | refine Look.at6 ?_
              | refine Look.at7 ?_
              | refine Look.at8 ?_
              | with_reducible refine Val.i64 (by omega) (by omega) ?_
              | with_reducible refine Val.u8 (by omega) (by omega) ?_
              | with_reducible refine Val.u32 (by omega) (by omega) ?_
              | with_reducible refine Val.u64 (by omega) (by omega) ?_
              | with_reducible refine Val.u8m ?_
              | with_reducible refine Val.u32m ?_
              | with_reducible refine Val.u64m ?_
              | with_reducible refine Val.shr8 ?_
              | with_reducible refine Val.shr16 (by decide) ?_
              | with_reducible refine Val.shr24 (by decide) ?_
              | with_reducible refine Val.raw ?_
              | refine Branch.not ?_
              | refine Branch.and ?_
              | refine Branch.or ?_
              | refine Branch.dt (by assumption) ?_
              | refine Branch.df (by assumption) ?_
              | refine Branch.dt rfl ?_
              | refine Branch.dt (by omega) ?_
              | refine Branch.df (by omega) ?_
              | refine Branch.t rfl ?_
              | refine Branch.f rfl ?_
              | refine Branch.t (by assumption) ?_
              | refine Branch.f (by assumption) ?_
              | refine Branch.d (fun _ => ?_) (fun _ => ?_)
              | refine Branch.mk (fun _ => ?_) (fun _ => ?_)
              | refine Need.mk (by first | omega | decide | rfl) ?_
              | refine Idx.nat (by omega) ?_
              | refine Idx.auto (by first | omega | decide) (by first | omega | decide) ?_
              | refine Cell.ro rfl ?_
              | refine SDraw.all (by kernel_rfl) ?_
              | refine Kept.k0 ?_
              | refine Kept.k1 ?_
              | refine Kept.k2 ?_
              | refine Kept.k3 ?_
              | refine Kept.k4 ?_))
        | true =>
          rw [ho, Bool.not_true, if_neg (by decide)] at hgo
          rw [ho] at h34 hnext
          repeat' ((conv => whnf); (first
              | refine Look.cells (.tail _ hm) rfl hc ?_
              | refine c35 ?_
              | refine h34 _ _ (hD2 _ _) ?_
              | refine RawV.look (f := kS) (a := F) rfl hty81 keysS (.tail _ (.head _)) (fun hno => ?_) (fun i e hi he => ?_)
              | refine RawV.upd (A := [_]) (f := kS) (a := F) rfl hty81 keysS (fun hno2 => ?_) (fun i e hi he => ?_)
              | (rw [hvals _ (List.mem_of_getElem? hi)])
              | refine New.mk (fun _ => ?_)
              | refine Look.at0 ?_
              | refine Cell.row ?_
              | refine Cell.buf ?_
              | refine Cells.row rfl ?_
              | refine Put.row rfl ?_
              | refine Put.buf rfl ?_
              | refine Look.at1 ?_
              | refine Look.at2 ?_
              | refine Look.at3 ?_
              | refine Look.at4 ?_
              | refine Look.at5 ?_
              | refine Look.at6 ?_
              | refine Look.at7 ?_
              | refine Look.at8 ?_
              | with_reducible refine Val.i64 (by omega) (by omega) ?_
              | with_reducible refine Val.u8 (by omega) (by omega) ?_
              | with_reducible refine Val.u32 (by omega) (by omega) ?_
              | with_reducible refine Val.u64 (by omega) (by omega) ?_
              | with_reducible refine Val.u8m ?_
              | with_reducible refine Val.u32m ?_
              | with_reducible refine Val.u64m ?_
              | with_reducible refine Val.shr8 ?_
              | with_reducible refine Val.shr16 (by decide) ?_
              | with_reducible refine Val.shr24 (by decide) ?_
              | with_reducible refine Val.raw ?_
              | refine Branch.not ?_
              | refine Branch.and ?_
              | refine Branch.or ?_
              | refine Branch.dt (by assumption) ?_
              | refine Branch.df (by assumption) ?_
              | refine Branch.dt rfl ?_
              | refine Branch.dt (by omega) ?_
              | refine Branch.df (by omega) ?_
              | refine Branch.t rfl ?_
              | refine Branch.f rfl ?_
              | refine Branch.t (by assumption) ?_
              | refine Branch.f (by assumption) ?_
              | refine Branch.d (fun _ => ?_) (fun _ => ?_)
              | refine Branch.mk (fun _ => ?_) (fun _ => ?_)
              | refine Need.mk (by first | omega | decide | rfl) ?_
              | refine Idx.nat (by omega) ?_
              | refine Idx.auto (by first | omega | decide) (by first | omega | decide) ?_
              | refine Cell.ro rfl ?_
              | refine SDraw.all (by kernel_rfl) ?_
              | refine Kept.k0 ?_
              | refine Kept.k1 ?_
              | refine Kept.k2 ?_
              | refine Kept.k3 ?_
              | refine Kept.k4 ?_))
          all_goals (conv => whnf)
          · have hnin : ((L.take k).any fun y => decide (fld y = F)) = false := by
              cases hq : ((L.take k).any fun y => decide (fld y = F)) with
              | false => rfl
              | true =>
                obtain ⟨e, he1, he2⟩ := hin1.1 hq
                exact absurd he2 (hno e he1)
            exact hnext _ _ rfl hnin .mk
          · exact absurd he (hno e (List.mem_of_getElem? hi))
          · rw [if_pos (hin1.2 ⟨e, List.mem_of_getElem? hi, he⟩)] at hgo
            rw [← hgo] at h
            exact Keep.d2 h
    · have e : k = L.length := by omega
      subst e
      rw [List.drop_length, chkGo] at hgo
      rw [← hgo] at h
      repeat' ((conv => whnf); (first
          | refine New.mk (fun _ => ?_)
          | refine Look.at0 ?_
          | refine Cell.row ?_
          | refine Cell.buf ?_
          | refine Cells.row rfl ?_
          | refine Put.row rfl ?_
          | refine Put.buf rfl ?_
          | refine Look.at1 ?_
          | refine Look.at2 ?_
          | refine Look.at3 ?_
          | refine Look.at4 ?_
          | refine Look.at5 ?_
          | refine Look.at6 ?_
          | refine Look.at7 ?_
          | refine Look.at8 ?_
          | with_reducible refine Val.i64 (by omega) (by omega) ?_
          | with_reducible refine Val.u8 (by omega) (by omega) ?_
          | with_reducible refine Val.u32 (by omega) (by omega) ?_
          | with_reducible refine Val.u64 (by omega) (by omega) ?_
          | with_reducible refine Val.u8m ?_
          | with_reducible refine Val.u32m ?_
          | with_reducible refine Val.u64m ?_
          | with_reducible refine Val.shr8 ?_
          | with_reducible refine Val.shr16 (by decide) ?_
          | with_reducible refine Val.shr24 (by decide) ?_
          | with_reducible refine Val.raw ?_
          | refine Branch.not ?_
          | refine Branch.and ?_
          | refine Branch.or ?_
          | refine Branch.dt (by assumption) ?_
          | refine Branch.df (by assumption) ?_
          | refine Branch.dt rfl ?_
          | refine Branch.dt (by omega) ?_
          | refine Branch.df (by omega) ?_
          | refine Branch.t rfl ?_
          | refine Branch.f rfl ?_
          | refine Branch.t (by assumption) ?_
          | refine Branch.f (by assumption) ?_
          | refine Branch.d (fun _ => ?_) (fun _ => ?_)
          | refine Branch.mk (fun _ => ?_) (fun _ => ?_)
          | refine Need.mk (by first | omega | decide | rfl) ?_
          | refine Idx.nat (by omega) ?_
          | refine Idx.auto (by first | omega | decide) (by first | omega | decide) ?_
          | refine Cell.ro rfl ?_
          | refine SDraw.all (by kernel_rfl) ?_
          | refine Kept.k0 ?_
          | refine Kept.k1 ?_
          | refine Kept.k2 ?_
          | refine Kept.k3 ?_
          | refine Kept.k4 ?_))
      all_goals (conv => whnf)
      exact Keep.d1 h
def I16 (sv : Value) (L : List Msg) (T : Int) (H : Heap) (k : Nat) (S : List Value) (H' : Heap) : Prop :=
  k ≤ L.length ∧ chkGo (L.take k) (L.drop k) = T ∧ S16 sv (.int .i64 (k : Int)) S ∧ H' = H
def I16a (sv : Value) (L : List Msg) (m : Msg) (k : Nat) (q : Nat) (H : Heap) (i : Nat) (S : List Value) (H' : Heap) : Prop :=
  i ≤ k ∧ (∀ y ∈ L.take i, fld y ≠ fld m) ∧ S16a sv (.int .i64 (k : Int)) (ptr q) (.int .i64 (i : Int)) S ∧ H' = (q, .row 30 (mC m) (0, 0)) :: H
theorem c16 (hin : InS mC 5 sv H L) (hwf : ∀ m ∈ L, m.wf) (h : K (.int .i64 (chk L)) H) : SCalls Tryd.prog 16 [sv] H K := by
  obtain ⟨sa, sc, rfl, hml⟩ := hin.sv
  have hml' : L.length ≤ 9223372036854775807 := by simp only [maxLen] at hml; omega
  refine enter16 ?_
  unfold chk at h
  by_cases hl : 64 < L.length
  · rw [if_pos hl] at h
    repeat' ((conv => whnf); (first
        | exact Keep.all h
        | refine New.mk (fun _ => ?_)
        | refine Look.at0 ?_
        | refine Cell.row ?_
        | refine Cell.buf ?_
        | refine Cells.row rfl ?_
        | refine Put.row rfl ?_
        | refine Put.buf rfl ?_
        | refine Look.at1 ?_
        | refine Look.at2 ?_
        | refine Look.at3 ?_
        | refine Look.at4 ?_
        | refine Look.at5 ?_
        | refine Look.at6 ?_
        | refine Look.at7 ?_
        | refine Look.at8 ?_
        | with_reducible refine Val.i64 (by omega) (by omega) ?_
        | with_reducible refine Val.u8 (by omega) (by omega) ?_
        | with_reducible refine Val.u32 (by omega) (by omega) ?_
        | with_reducible refine Val.u64 (by omega) (by omega) ?_
        | with_reducible refine Val.u8m ?_
        | with_reducible refine Val.u32m ?_
        | with_reducible refine Val.u64m ?_
        | with_reducible refine Val.shr8 ?_
        | with_reducible refine Val.shr16 (by decide) ?_
        | with_reducible refine Val.shr24 (by decide) ?_
        | with_reducible refine Val.raw ?_
        | refine Branch.not ?_
        | refine Branch.and ?_
        | refine Branch.or ?_
        | refine Branch.dt (by assumption) ?_
        | refine Branch.df (by assumption) ?_
        | refine Branch.dt rfl ?_
        | refine Branch.dt (by omega) ?_
        | refine Branch.df (by omega) ?_
        | refine Branch.t rfl ?_
        | refine Branch.f rfl ?_
        | refine Branch.t (by assumption) ?_
        | refine Branch.f (by assumption) ?_
        | refine Branch.d (fun _ => ?_) (fun _ => ?_)
        | refine Branch.mk (fun _ => ?_) (fun _ => ?_)
        | refine Need.mk (by first | omega | decide | rfl) ?_
        | refine Idx.nat (by omega) ?_
        | refine Idx.auto (by first | omega | decide) (by first | omega | decide) ?_
        | refine Cell.ro rfl ?_
        | refine SDraw.all (by kernel_rfl) ?_
        | refine Kept.k0 ?_
        | refine Kept.k1 ?_
        | refine Kept.k2 ?_
        | refine Kept.k3 ?_
        | refine Kept.k4 ?_))
  · rw [if_neg hl] at h
    generalize hT : chkGo [] L = T at h
    repeat' ((conv => whnf); (first
        | refine New.mk (fun _ => ?_)
        | refine Look.at0 ?_
        | refine Cell.row ?_
        | refine Cell.buf ?_
        | refine Cells.row rfl ?_
        | refine Put.row rfl ?_
        | refine Put.buf rfl ?_
        | refine Look.at1 ?_
        | refine Look.at2 ?_
        | refine Look.at3 ?_
        | refine Look.at4 ?_
        | refine Look.at5 ?_
        | refine Look.at6 ?_
        | refine Look.at7 ?_
        | refine Look.at8 ?_
        | with_reducible refine Val.i64 (by omega) (by omega) ?_
        | with_reducible refine Val.u8 (by omega) (by omega) ?_
        | with_reducible refine Val.u32 (by omega) (by omega) ?_
        | with_reducible refine Val.u64 (by omega) (by omega) ?_
        | with_reducible refine Val.u8m ?_
        | with_reducible refine Val.u32m ?_
        | with_reducible refine Val.u64m ?_
        | with_reducible refine Val.shr8 ?_
        | with_reducible refine Val.shr16 (by decide) ?_
        | with_reducible refine Val.shr24 (by decide) ?_
        | with_reducible refine Val.raw ?_
        | refine Branch.not ?_
        | refine Branch.and ?_
        | refine Branch.or ?_
        | refine Branch.dt (by assumption) ?_
        | refine Branch.df (by assumption) ?_
        | refine Branch.dt rfl ?_
        | refine Branch.dt (by omega) ?_
        | refine Branch.df (by omega) ?_
        | refine Branch.t rfl ?_
        | refine Branch.f rfl ?_
        | refine Branch.t (by assumption) ?_
        | refine Branch.f (by assumption) ?_
        | refine Branch.d (fun _ => ?_) (fun _ => ?_)
        | refine Branch.mk (fun _ => ?_) (fun _ => ?_)
        | refine Need.mk (by first | omega | decide | rfl) ?_
        | refine Idx.nat (by omega) ?_
        | refine Idx.auto (by first | omega | decide) (by first | omega | decide) ?_
        | refine Cell.ro rfl ?_
        | refine SDraw.all (by kernel_rfl) ?_
        | refine Kept.k0 ?_
        | refine Kept.k1 ?_
        | refine Kept.k2 ?_
        | refine Kept.k3 ?_
        | refine Kept.k4 ?_))
    refine SLoop.invA (I16 (.slice sa L.length sc) L T H) (fun y => L.length - y) 0 (Keep.all ⟨by simp, hT, .mk, rfl⟩) ?_
    rintro k S H' ⟨hk, hgo, hS, rfl⟩ R hR
    cases hS
    by_cases hlt : k < L.length
    · obtain ⟨m, hx, hdrop, htake⟩ := list_at hlt
      obtain ⟨r, o, c, b, e1, hm, hc⟩ := inS_at hin (fun _ => rfl) hx
      injection e1 with e1 _ e3
      subst e1
      have hmw := hwf m (List.mem_of_getElem? hx)
      rw [hdrop, chkGo] at hgo
      have hnext : ∀ S (y1 : Nat × Blk), (badN m.n m.p m.j || !okF m.id m.x m.n) = false → ((L.take k).any fun y => decide (fld y = fld m)) = false → S16 (.slice (some ⟨r, o, none⟩) L.length sc) (.int .i64 ((k + 1 : Nat) : Int)) S → R S (y1 :: H') := fun S y1 h1 h2 h3 => by
        rw [if_neg (by rw [h1]; decide), if_neg (by rw [h2]; decide), ← htake] at hgo
        exact hR (k + 1) _ _ (by show L.length - (k + 1) < L.length - k; omega) (Keep.d1 ⟨by show k + 1 ≤ L.length; omega, hgo, h3, rfl⟩)
      clear hR hT htake
      obtain ⟨id, x, n, p, j⟩ := m
      obtain ⟨w1, w2, w3, w4, w5⟩ := hmw
      have hc : ∀ i v, ([.int .u32 (id : Int), .bool x, .int .i64 n, .int .u64 (p : Int), .int .u64 (j : Int)] : List Value)[i]? = some v → b.cell (o + k * 5 + i) = some v := hc
      dsimp only at hgo hnext hc hx w1 w2 w3 w4 w5
      have h32 := fun H (K2 : Value → Heap → Prop) (hk : K2 (.int .i64 (if okF id x n then 0 else 1)) H) => c32 (H := H) (K := K2) hk
      cases hb : badN n p j with
      | true =>
        rw [hb, Bool.true_or, if_pos rfl] at hgo
        rw [← hgo] at h
        unfold badN at hb
        simp only [Bool.or_eq_true, decide_eq_true_eq] at hb
        clear hnext
        cases ho : okF id x n with
        | false =>
          rw [ho] at h32
          repeat' ((conv => whnf); (first
              | refine Look.cells hm rfl hc ?_
              | refine c26 ?_
              | refine h32 _ _ ?_
              | exact Keep.d1 h
              | refine New.mk (fun _ => ?_)
              | refine Look.at0 ?_
              | refine Cell.row ?_
              | refine Cell.buf ?_
              | refine Cells.row rfl ?_
              | refine Put.row rfl ?_
              | refine Put.buf rfl ?_
              | refine Look.at1 ?_
              | refine Look.at2 ?_
              | refine Look.at3 ?_
              | refine Look.at4 ?_
              | refine Look.at5 ?_
              | refine Look.at6 ?_
              | refine Look.at7 ?_
              | refine Look.at8 ?_
              | with_reducible refine Val.i64 (by omega) (by omega) ?_
              | with_reducible refine Val.u8 (by omega) (by omega) ?_
              | with_reducible refine Val.u32 (by omega) (by omega) ?_
              | with_reducible refine Val.u64 (by omega) (by omega) ?_
              | with_reducible refine Val.u8m ?_
              | with_reducible refine Val.u32m ?_
              | with_reducible refine Val.u64m ?_
              | with_reducible refine Val.shr8 ?_
              | with_reducible refine Val.shr16 (by decide) ?_
              | with_reducible refine Val.shr24 (by decide) ?_
              | with_reducible refine Val.raw ?_
              | refine Branch.not ?_
              | refine Branch.and ?_
              | refine Branch.or ?_
              | refine Branch.dt (by assumption) ?_
              | refine Branch.df (by assumption) ?_
              | refine Branch.dt rfl ?_
              | refine Branch.dt (by omega) ?_
              | refine Branch.df (by omega) ?_
              | refine Branch.t rfl ?_
              | refine Branch.f rfl ?_
              | refine Branch.t (by assumption) ?_
              | refine Branch.f (by assumption) ?_
              | refine Branch.d (fun _ => ?_) (fun _ => ?_)
              | refine Branch.mk (fun _ => ?_) (fun _ => ?_)
              | refine Need.mk (by first | omega | decide | rfl) ?_
              | refine Idx.nat (by omega) ?_
              | refine Idx.auto (by first | omega | decide) (by first | omega | decide) ?_
              | refine Cell.ro rfl ?_
              | refine SDraw.all (by kernel_rfl) ?_
              | refine Kept.k0 ?_
              | refine Kept.k1 ?_
              | refine Kept.k2 ?_
              | refine Kept.k3 ?_
              | refine Kept.k4 ?_))
        | true =>
          rw [ho] at h32
          repeat' ((conv => whnf); (first
              | refine Look.cells hm rfl hc ?_
              | refine c26 ?_
              | refine h32 _ _ ?_
              | exact Keep.d1 h
              | refine New.mk (fun _ => ?_)
              | refine Look.at0 ?_
              | refine Cell.row ?_
              | refine Cell.buf ?_
              | refine Cells.row rfl ?_
              | refine Put.row rfl ?_
              | refine Put.buf rfl ?_
              | refine Look.at1 ?_
              | refine Look.at2 ?_
              | refine Look.at3 ?_
              | refine Look.at4 ?_
              | refine Look.at5 ?_
              | refine Look.at6 ?_
              | refine Look.at7 ?_
              | refine Look.at8 ?_
              | with_reducible refine Val.i64 (by omega) (by omega) ?_
              | with_reducible refine Val.u8 (by omega) (by omega) ?_
              | with_reducible refine Val.u32 (by omega) (by omega) ?_
              | with_reducible refine Val.u64 (by omega) (by omega) ?_
              | with_reducible refine Val.u8m ?_
              | with_reducible refine Val.u32m ?_
              | with_reducible refine Val.u64m ?_
              | with_reducible refine Val.shr8 ?_
              | with_reducible refine Val.shr16 (by decide) ?_
              | with_reducible refine Val.shr24 (by decide) ?_
              | with_reducible refine Val.raw ?_
              | refine Branch.not ?_
              | refine Branch.and ?_
              | refine Branch.or ?_
              | refine Branch.dt (by assumption) ?_
              | refine Branch.df (by assumption) ?_
              | refine Branch.dt rfl ?_
              | refine Branch.dt (by omega) ?_
              | refine Branch.df (by omega) ?_
              | refine Branch.t rfl ?_
              | refine Branch.f rfl ?_
              | refine Branch.t (by assumption) ?_
              | refine Branch.f (by assumption) ?_
              | refine Branch.d (fun _ => ?_) (fun _ => ?_)
              | refine Branch.mk (fun _ => ?_) (fun _ => ?_)
              | refine Need.mk (by first | omega | decide | rfl) ?_
              | refine Idx.nat (by omega) ?_
              | refine Idx.auto (by first | omega | decide) (by first | omega | decide) ?_
              | refine Cell.ro rfl ?_
              | refine SDraw.all (by kernel_rfl) ?_
              | refine Kept.k0 ?_
              | refine Kept.k1 ?_
              | refine Kept.k2 ?_
              | refine Kept.k3 ?_
              | refine Kept.k4 ?_))
          all_goals (exfalso; omega)
      | false =>
        have hb2 := hb
        unfold badN at hb2
        simp only [Bool.or_eq_false_iff, decide_eq_false_iff_not] at hb2
        obtain ⟨⟨⟨⟨b1, b2⟩, b3⟩, b4⟩, b5⟩ := hb2
        rw [hb, Bool.false_or] at hgo hnext
        cases ho : okF id x n with
        | false =>
          rw [ho, Bool.not_false, if_pos rfl] at hgo
          rw [ho] at h32
          rw [← hgo] at h
          clear hnext
          repeat' ((conv => whnf); (first
              | refine Look.cells hm rfl hc ?_
              | refine c26 ?_
              | refine h32 _ _ ?_
              | exact Keep.d1 h
              | refine New.mk (fun _ => ?_)
              | refine Look.at0 ?_
              | refine Cell.row ?_
              | refine Cell.buf ?_
              | refine Cells.row rfl ?_
              | refine Put.row rfl ?_
              | refine Put.buf rfl ?_
              | refine Look.at1 ?_
              | refine Look.at2 ?_
              | refine Look.at3 ?_
              | refine Look.at4 ?_
              | refine Look.at5 ?_
              | refine Look.at6 ?_
              | refine Look.at7 ?_
              | refine Look.at8 ?_
              | with_reducible refine Val.i64 (by omega) (by omega) ?_
              | with_reducible refine Val.u8 (by omega) (by omega) ?_
              | with_reducible refine Val.u32 (by omega) (by omega) ?_
              | with_reducible refine Val.u64 (by omega) (by omega) ?_
              | with_reducible refine Val.u8m ?_
              | with_reducible refine Val.u32m ?_
              | with_reducible refine Val.u64m ?_
              | with_reducible refine Val.shr8 ?_
              | with_reducible refine Val.shr16 (by decide) ?_
              | with_reducible refine Val.shr24 (by decide) ?_
              | with_reducible refine Val.raw ?_
              | refine Branch.not ?_
              | refine Branch.and ?_
              | refine Branch.or ?_
              | refine Branch.dt (by assumption) ?_
              | refine Branch.df (by assumption) ?_
              | refine Branch.dt rfl ?_
              | refine Branch.dt (by omega) ?_
              | refine Branch.df (by omega) ?_
              | refine Branch.t rfl ?_
              | refine Branch.f rfl ?_
              | refine Branch.t (by assumption) ?_
              | refine Branch.f (by assumption) ?_
              | refine Branch.d (fun _ => ?_) (fun _ => ?_)
              | refine Branch.mk (fun _ => ?_) (fun _ => ?_)
              | refine Need.mk (by first | omega | decide | rfl) ?_
              | refine Idx.nat (by omega) ?_
              | refine Idx.auto (by first | omega | decide) (by first | omega | decide) ?_
              | refine Cell.ro rfl ?_
              | refine SDraw.all (by kernel_rfl) ?_
              | refine Kept.k0 ?_
              | refine Kept.k1 ?_
              | refine Kept.k2 ?_
              | refine Kept.k3 ?_
              | refine Kept.k4 ?_))
        | true =>
          rw [ho, Bool.not_true, if_neg (by decide)] at hgo
          rw [ho] at h32 hnext
          repeat' ((conv => whnf); (first
              | refine Look.cells hm rfl hc ?_
              | refine c26 ?_
              | refine h32 _ _ ?_
              | refine New.mk (fun _ => ?_)
              | refine Look.at0 ?_
              | refine Cell.row ?_
              | refine Cell.buf ?_
              | refine Cells.row rfl ?_
              | refine Put.row rfl ?_
              | refine Put.buf rfl ?_
              | refine Look.at1 ?_
              | refine Look.at2 ?_
              | refine Look.at3 ?_
              | refine Look.at4 ?_
              | refine Look.at5 ?_
              | refine Look.at6 ?_
              | refine Look.at7 ?_
              | refine Look.at8 ?_
              | with_reducible refine Val.i64 (by omega) (by omega) ?_
              | with_reducible refine Val.u8 (by omega) (by omega) ?_
              | with_reducible refine Val.u32 (by omega) (by omega) ?_
              | with_reducible refine Val.u64 (by omega) (by omega) ?_
              | with_reducible refine Val.u8m ?_
              | with_reducible refine Val.u32m ?_
              | with_reducible refine Val.u64m ?_
              | with_reducible refine Val.shr8 ?_
              | with_reducible refine Val.shr16 (by decide) ?_
              | with_reducible refine Val.shr24 (by decide) ?_
              | with_reducible refine Val.raw ?_
              | refine Branch.not ?_
              | refine Branch.and ?_
              | refine Branch.or ?_
              | refine Branch.dt (by assumption) ?_
              | refine Branch.df (by assumption) ?_
              | refine Branch.dt rfl ?_
              | refine Branch.dt (by omega) ?_
              | refine Branch.df (by omega) ?_
              | refine Branch.t rfl ?_
              | refine Branch.f rfl ?_
              | refine Branch.t (by assumption) ?_
              | refine Branch.f (by assumption) ?_
              | refine Branch.d (fun _ => ?_) (fun _ => ?_)
              | refine Branch.mk (fun _ => ?_) (fun _ => ?_)
              | refine Need.mk (by first | omega | decide | rfl) ?_
              | refine Idx.nat (by omega) ?_
              | refine Idx.auto (by first | omega | decide) (by first | omega | decide) ?_
              | refine Cell.ro rfl ?_
              | refine SDraw.all (by kernel_rfl) ?_
              | refine Kept.k0 ?_
              | refine Kept.k1 ?_
              | refine Kept.k2 ?_
              | refine Kept.k3 ?_
              | refine Kept.k4 ?_))
          rename_i q
          refine SLoop.invA (I16a (.slice (some ⟨r, o, none⟩) L.length sc) L ⟨id, x, n, p, j⟩ k q H') (fun i => k - i) 0 (Keep.all ⟨by simp, by simp, .mk, rfl⟩) ?_
          rintro i S H2 ⟨hi, hno, hS, rfl⟩ R2 hR2
          cases hS
          by_cases hik : i < k
          · obtain ⟨y, hy, hdrop2, htake2⟩ := list_at (L := L) (j := i) (by omega)
            obtain ⟨r', o', c', b', e1', hm', hc'⟩ := inS_at hin (fun _ => rfl) hy
            injection e1' with e1' _ e3'
            injection e1' with e1'
            injection e1' with e4 e5
            subst e4 e5
            have hnext2 := fun S (hne : fld y ≠ fld ⟨id, x, n, p, j⟩) (hS : S16a (.slice (some ⟨r, o, none⟩) L.length sc) (.int .i64 (k : Int)) (ptr q) (.int .i64 ((i + 1 : Nat) : Int)) S) => hR2 (i + 1) S ((q, .row 30 (mC ⟨id, x, n, p, j⟩) (0, 0)) :: H') (by omega) (Keep.all ⟨by omega, (by
              intro z hz
              rw [htake2] at hz
              rcases List.mem_append.1 hz with hz | hz
              · exact hno z hz
              · obtain rfl := List.mem_singleton.1 hz
                exact hne), hS, rfl⟩)
            clear hnext hR2
            have hany : fld y = fld ⟨id, x, n, p, j⟩ → ((L.take k).any fun y => decide (fld y = fld ⟨id, x, n, p, j⟩)) = true := fun he => by
              rw [List.any_eq_true]
              exact ⟨y, List.mem_of_getElem? (i := i) (by rw [List.getElem?_take_of_lt hik]; exact hy), by rw [he]; simp⟩
            obtain ⟨yid, yx, yn, yp, yj⟩ := y
            have hc' : ∀ i' v, ([.int .u32 (yid : Int), .bool yx, .int .i64 yn, .int .u64 (yp : Int), .int .u64 (yj : Int)] : List Value)[i']? = some v → b'.cell (o + i * 5 + i') = some v := hc'
            dsimp only [fld] at hany hnext2 hgo
            by_cases he : (fV yid yx yn).1 = (fV id x n).1
            · rw [if_pos (hany he)] at hgo
              rw [← hgo] at h
              have he2 : decide (strOf (fV yid yx yn).1 = strOf (fV id x n).1) = true := by rw [he]; simp
              repeat' ((conv => whnf); (first
                  | refine Look.cells (.tail _ hm') rfl hc' ?_
                  | refine c13 ?_
                  | refine Branch.t he2 ?_
                  | exact Keep.d1 h
                  | refine New.mk (fun _ => ?_)
                  | refine Look.at0 ?_
                  | refine Cell.row ?_
                  | refine Cell.buf ?_
                  | refine Cells.row rfl ?_
                  | refine Put.row rfl ?_
                  | refine Put.buf rfl ?_
                  | refine Look.at1 ?_
                  | refine Look.at2 ?_
                  | refine Look.at3 ?_
                  | refine Look.at4 ?_
                  | refine Look.at5 ?_
                  | refine Look.at6 ?_
                  | refine Look.at7 ?_
                  | refine Look.at8 ?_
                  | with_reducible refine Val.i64 (by omega) (by omega) ?_
                  | with_reducible refine Val.u8 (by omega) (by omega) ?_
                  | with_reducible refine Val.u32 (by omega) (by omega) ?_
                  | with_reducible refine Val.u64 (by omega) (by omega) ?_
                  | with_reducible refine Val.u8m ?_
                  | with_reducible refine Val.u32m ?_
                  | with_reducible refine Val.u64m ?_
                  | with_reducible refine Val.shr8 ?_
                  | with_reducible refine Val.shr16 (by decide) ?_
                  | with_reducible refine Val.shr24 (by decide) ?_
                  | with_reducible refine Val.raw ?_
                  | refine Branch.not ?_
                  | refine Branch.and ?_
                  | refine Branch.or ?_
                  | refine Branch.dt (by assumption) ?_
                  | refine Branch.df (by assumption) ?_
                  | refine Branch.dt rfl ?_
                  | refine Branch.dt (by omega) ?_
                  | refine Branch.df (by omega) ?_
                  | refine Branch.t rfl ?_
                  | refine Branch.f rfl ?_
                  | refine Branch.t (by assumption) ?_
                  | refine Branch.f (by assumption) ?_
                  | refine Branch.d (fun _ => ?_) (fun _ => ?_)
                  | refine Branch.mk (fun _ => ?_) (fun _ => ?_)
                  | refine Need.mk (by first | omega | decide | rfl) ?_
                  | refine Idx.nat (by omega) ?_
                  | refine Idx.auto (by first | omega | decide) (by first | omega | decide) ?_
                  | refine Cell.ro rfl ?_
                  | refine SDraw.all (by kernel_rfl) ?_
                  | refine Kept.k0 ?_
                  | refine Kept.k1 ?_
                  | refine Kept.k2 ?_
                  | refine Kept.k3 ?_
                  | refine Kept.k4 ?_))
            · have he2 : decide (strOf (fV yid yx yn).1 = strOf (fV id x n).1) = false := by rw [strOf_eq]; exact decide_eq_false he
              repeat' ((conv => whnf); (first
                  | refine Look.cells (.tail _ hm') rfl hc' ?_
                  | refine c13 ?_
                  | refine Branch.f he2 ?_
                  | exact hnext2 _ he .mk
                  | refine New.mk (fun _ => ?_)
                  | refine Look.at0 ?_
                  | refine Cell.row ?_
                  | refine Cell.buf ?_
                  | refine Cells.row rfl ?_
                  | refine Put.row rfl ?_
                  | refine Put.buf rfl ?_
                  | refine Look.at1 ?_
                  | refine Look.at2 ?_
                  | refine Look.at3 ?_
                  | refine Look.at4 ?_
                  | refine Look.at5 ?_
                  | refine Look.at6 ?_
                  | refine Look.at7 ?_
                  | refine Look.at8 ?_
                  | with_reducible refine Val.i64 (by omega) (by omega) ?_
                  | with_reducible refine Val.u8 (by omega) (by omega) ?_
                  | with_reducible refine Val.u32 (by omega) (by omega) ?_
                  | with_reducible refine Val.u64 (by omega) (by omega) ?_
                  | with_reducible refine Val.u8m ?_
                  | with_reducible refine Val.u32m ?_
                  | with_reducible refine Val.u64m ?_
                  | with_reducible refine Val.shr8 ?_
                  | with_reducible refine Val.shr16 (by decide) ?_
                  | with_reducible refine Val.shr24 (by decide) ?_
                  | with_reducible refine Val.raw ?_
                  | refine Branch.not ?_
                  | refine Branch.and ?_
                  | refine Branch.or ?_
                  | refine Branch.dt (by assumption) ?_
                  | refine Branch.df (by assumption) ?_
                  | refine Branch.dt rfl ?_
                  | refine Branch.dt (by omega) ?_
                  | refine Branch.df (by omega) ?_
                  | refine Branch.t rfl ?_
                  | refine Branch.f rfl ?_
                  | refine Branch.t (by assumption) ?_
                  | refine Branch.f (by assumption) ?_
                  | refine Branch.d (fun _ => ?_) (fun _ => ?_)
                  | refine Branch.mk (fun _ => ?_) (fun _ => ?_)
                  | refine Need.mk (by first | omega | decide | rfl) ?_
                  | refine Idx.nat (by omega) ?_
                  | refine Idx.auto (by first | omega | decide) (by first | omega | decide) ?_
                  | refine Cell.ro rfl ?_
                  | refine SDraw.all (by kernel_rfl) ?_
                  | refine Kept.k0 ?_
                  | refine Kept.k1 ?_
                  | refine Kept.k2 ?_
                  | refine Kept.k3 ?_
                  | refine Kept.k4 ?_))
          · obtain rfl : i = k := by omega
            have hany : ((L.take i).any fun y => decide (fld y = fld ⟨id, x, n, p, j⟩)) = false := by
              rw [List.any_eq_false]
              intro y hy
              simpa using hno y hy
            clear hR2
            repeat' ((conv => whnf); (first
                | exact hnext _ _ rfl hany .mk
                | refine New.mk (fun _ => ?_)
                | refine Look.at0 ?_
                | refine Cell.row ?_
                | refine Cell.buf ?_
                | refine Cells.row rfl ?_
                | refine Put.row rfl ?_
                | refine Put.buf rfl ?_
                | refine Look.at1 ?_
                | refine Look.at2 ?_
                | refine Look.at3 ?_
                | refine Look.at4 ?_
                | refine Look.at5 ?_
                | refine Look.at6 ?_
                | refine Look.at7 ?_
                | refine Look.at8 ?_
                | with_reducible refine Val.i64 (by omega) (by omega) ?_
                | with_reducible refine Val.u8 (by omega) (by omega) ?_
                | with_reducible refine Val.u32 (by omega) (by omega) ?_
                | with_reducible refine Val.u64 (by omega) (by omega) ?_
                | with_reducible refine Val.u8m ?_
                | with_reducible refine Val.u32m ?_
                | with_reducible refine Val.u64m ?_
                | with_reducible refine Val.shr8 ?_
                | with_reducible refine Val.shr16 (by decide) ?_
                | with_reducible refine Val.shr24 (by decide) ?_
                | with_reducible refine Val.raw ?_
                | refine Branch.not ?_
                | refine Branch.and ?_
                | refine Branch.or ?_
                | refine Branch.dt (by assumption) ?_
                | refine Branch.df (by assumption) ?_
                | refine Branch.dt rfl ?_
                | refine Branch.dt (by omega) ?_
                | refine Branch.df (by omega) ?_
                | refine Branch.t rfl ?_
                | refine Branch.f rfl ?_
                | refine Branch.t (by assumption) ?_
                | refine Branch.f (by assumption) ?_
                | refine Branch.d (fun _ => ?_) (fun _ => ?_)
                | refine Branch.mk (fun _ => ?_) (fun _ => ?_)
                | refine Need.mk (by first | omega | decide | rfl) ?_
                | refine Idx.nat (by omega) ?_
                | refine Idx.auto (by first | omega | decide) (by first | omega | decide) ?_
                | refine Cell.ro rfl ?_
                | refine SDraw.all (by kernel_rfl) ?_
                | refine Kept.k0 ?_
                | refine Kept.k1 ?_
                | refine Kept.k2 ?_
                | refine Kept.k3 ?_
                | refine Kept.k4 ?_))
    · have e : k = L.length := by omega
      subst e
      rw [List.drop_length, chkGo] at hgo
      rw [← hgo] at h
      repeat' ((conv => whnf); (first
          | exact Keep.all h
          | refine New.mk (fun _ => ?_)
          | refine Look.at0 ?_
          | refine Cell.row ?_
          | refine Cell.buf ?_
          | refine Cells.row rfl ?_
          | refine Put.row rfl ?_
          | refine Put.buf rfl ?_
          | refine Look.at1 ?_
          | refine Look.at2 ?_
          | refine Look.at3 ?_
          | refine Look.at4 ?_
          | refine Look.at5 ?_
          | refine Look.at6 ?_
          | refine Look.at7 ?_
          | refine Look.at8 ?_
          | with_reducible refine Val.i64 (by omega) (by omega) ?_
          | with_reducible refine Val.u8 (by omega) (by omega) ?_
          | with_reducible refine Val.u32 (by omega) (by omega) ?_
          | with_reducible refine Val.u64 (by omega) (by omega) ?_
          | with_reducible refine Val.u8m ?_
          | with_reducible refine Val.u32m ?_
          | with_reducible refine Val.u64m ?_
          | with_reducible refine Val.shr8 ?_
          | with_reducible refine Val.shr16 (by decide) ?_
          | with_reducible refine Val.shr24 (by decide) ?_
          | with_reducible refine Val.raw ?_
          | refine Branch.not ?_
          | refine Branch.and ?_
          | refine Branch.or ?_
          | refine Branch.dt (by assumption) ?_
          | refine Branch.df (by assumption) ?_
          | refine Branch.dt rfl ?_
          | refine Branch.dt (by omega) ?_
          | refine Branch.df (by omega) ?_
          | refine Branch.t rfl ?_
          | refine Branch.f rfl ?_
          | refine Branch.t (by assumption) ?_
          | refine Branch.f (by assumption) ?_
          | refine Branch.d (fun _ => ?_) (fun _ => ?_)
          | refine Branch.mk (fun _ => ?_) (fun _ => ?_)
          | refine Need.mk (by first | omega | decide | rfl) ?_
          | refine Idx.nat (by omega) ?_
          | refine Idx.auto (by first | omega | decide) (by first | omega | decide) ?_
          | refine Cell.ro rfl ?_
          | refine SDraw.all (by kernel_rfl) ?_
          | refine Kept.k0 ?_
          | refine Kept.k1 ?_
          | refine Kept.k2 ?_
          | refine Kept.k3 ?_
          | refine Kept.k4 ?_))
end
end Go.Proofs.YtjleekdidedhaaaDoor

/- Layer 25: how long one takes at most: what is reckoned, and the program's walk. -/
set_option linter.unusedVariables false
set_option linter.unusedSimpArgs false
set_option maxRecDepth 100000
set_option maxHeartbeats 4000000
namespace Go.Proofs.YtjleekdidedhaaaDoor
open Sx
abbrev tlt (a b : List UInt8) : Bool := Op.bytesLess a b
theorem strLt_of (a b : List UInt8) : strLt (strOf a) (strOf b) = tlt a b := by
  unfold strLt
  rw [ByteArray.toList_eq, ByteArray.toList_eq]; rfl
theorem strGt_of (a b : List UInt8) : (!(strLt (strOf a) (strOf b) || decide (strOf a = strOf b))) = tlt b a := by
  rw [strLt_of, strOf_eq]
  cases h : tlt a b with
  | true =>
    have : tlt b a = false := Hp.bl_asym h
    rw [this]; rfl
  | false =>
    by_cases e : a = b
    · subst e
      rw [show tlt a a = false from Hp.bl_irr a]; simp
    · rw [decide_eq_false e]
      cases h2 : tlt b a with
      | true => rfl
      | false => exact absurd (Hp.bl_tri _ _ h h2) e
/-- A message that can be. -/
structure Good (m : Msg) : Prop where
  id : m.id < 4294967296
  n0 : 0 ≤ m.n
  n8 : m.n ≤ 8
  p1 : 1 ≤ m.p
  p2 : m.p ≤ 4294967296
  j : m.j < m.p
  ok : okF m.id m.x m.n = true
/-- Messages that can be. -/
structure Goods (L : List Msg) : Prop where
  len : L.length ≤ 64
  good : ∀ m ∈ L, Good m
  one : (L.map fld).Nodup
theorem chkGo0 : ∀ (L pre : List Msg), (∀ m ∈ L, m.wf) → chkGo pre L = 0 → (∀ m ∈ L, Good m) ∧ (L.map fld).Nodup ∧ ∀ m ∈ L, ∀ y ∈ pre, fld y ≠ fld m
  | [], pre, _, _ => ⟨(fun _ h => by cases h), List.nodup_nil, (fun _ h => by cases h)⟩
  | m :: r, pre, hw, h => by
    rw [chkGo] at h
    by_cases hb : (badN m.n m.p m.j || !okF m.id m.x m.n) = true
    · rw [if_pos hb] at h; cases h
    · rw [if_neg hb] at h
      by_cases ha : (pre.any fun y => decide (fld y = fld m)) = true
      · rw [if_pos ha] at h; cases h
      · rw [if_neg ha] at h
        obtain ⟨g1, g2, g3⟩ := chkGo0 r (pre ++ [m]) (fun x hx => hw x (.tail _ hx)) h
        have hb : (badN m.n m.p m.j || !okF m.id m.x m.n) = false := by simpa using hb
        unfold badN at hb
        simp only [Bool.or_eq_false_iff, decide_eq_false_iff_not, Bool.not_eq_false'] at hb
        obtain ⟨⟨⟨⟨⟨b1, b2⟩, b3⟩, b4⟩, b5⟩, b6⟩ := hb
        have hm : ∀ y ∈ pre, fld y ≠ fld m := fun y hy he => ha (List.any_eq_true.2 ⟨y, hy, decide_eq_true he⟩)
        refine ⟨fun x hx => ?_, ?_, fun x hx y hy => ?_⟩
        · rcases List.mem_cons.1 hx with rfl | hx
          · exact ⟨(hw _ (.head _)).1, by omega, by omega, by omega, by omega, by omega, b6⟩
          · exact g1 x hx
        · rw [List.map_cons, List.nodup_cons]
          refine ⟨fun hx => ?_, g2⟩
          obtain ⟨y, hy, he⟩ := List.mem_map.1 hx
          exact g3 y hy m (by simp) he.symm
        · rcases List.mem_cons.1 hx with rfl | hx
          · exact hm y hy
          · exact g3 x hx y (List.mem_append_left _ hy)
theorem goods_of {L : List Msg} (hw : ∀ m ∈ L, m.wf) (h : chk L = 0) : Goods L := by
  unfold chk at h
  split at h
  · cases h
  · obtain ⟨g1, g2, _⟩ := chkGo0 L [] hw h
    exact ⟨by omega, g1, g2⟩
theorem Goods.ne {L : List Msg} (h : Goods L) {i k : Nat} {a b : Msg} (hi : L[i]? = some a) (hk : L[k]? = some b) (hik : i ≠ k) : fld a ≠ fld b := by
  intro he
  have h1 : (L.map fld)[i]? = some (fld a) := by rw [List.getElem?_map, hi]; rfl
  have h2 : (L.map fld)[k]? = some (fld a) := by rw [List.getElem?_map, hk, he]; rfl
  have hlt := (List.getElem?_eq_some_iff.1 h1).1
  exact hik ((List.getElem?_inj hlt h.one).1 (by rw [h1, h2]))
/-- How long a message is on the wire. -/
def tm (m : Msg) : Nat := (lng m.n m.x).toNat
theorem Good.tm {m : Msg} (h : Good m) : 55 ≤ tm m ∧ tm m ≤ 160 ∧ lng m.n m.x = (tm m : Int) := by
  have := lng_b (x := m.x) h.n0 h.n8
  unfold YtjleekdidedhaaaDoor.tm
  omega
def wB (L : List Msg) (m : Msg) : Nat := L.foldl (fun b y => if tlt (fld m) (fld y) then max b (tm y) else b) (tm m)
def wF (L : List Msg) (m : Msg) : List Msg := L.filter fun y => tlt (fld y) (fld m)
def wAdd (w : Nat) (a : Nat) (y : Msg) : Nat := a + tm y * ((w + y.j) / y.p + 1)
def wStep (L : List Msg) (m : Msg) (w : Nat) : Nat := (wF L m).foldl (wAdd w) (wB L m)
def wIter (L : List Msg) (m : Msg) : Nat → Nat → Nat × Bool
  | 0, _ => (0, false)
  | f + 1, w => if m.p < m.j + w + tm m then (0, false) else if wStep L m w = w then (m.j + w + tm m, true) else wIter L m f (wStep L m w)
def worstS (L : List Msg) (m : Msg) : Nat × Bool := wIter L m (m.p + 1) (wB L m)
theorem wAdd_le (w : Nat) : ∀ (F : List Msg) (a : Nat), a ≤ F.foldl (wAdd w) a
  | [], a => Nat.le_refl a
  | y :: F, a => Nat.le_trans (Nat.le_add_right _ _) (wAdd_le w F (wAdd w a y))
theorem wAdd_mono {w w' : Nat} (hw : w ≤ w') : ∀ (F : List Msg) {a a' : Nat}, a ≤ a' → F.foldl (wAdd w) a ≤ F.foldl (wAdd w') a'
  | [], a, a', h => h
  | y :: F, a, a', h => wAdd_mono hw F (Nat.add_le_add h (Nat.mul_le_mul_left _ (Nat.add_le_add_right (Nat.div_le_div_right (Nat.add_le_add_right hw _)) 1)))
theorem wStep_mono (L : List Msg) (m : Msg) {w w' : Nat} (hw : w ≤ w') : wStep L m w ≤ wStep L m w' := wAdd_mono hw _ (Nat.le_refl _)
theorem wB_le (L : List Msg) (m : Msg) (w : Nat) : wB L m ≤ wStep L m w := wAdd_le w _ _
theorem wIter_fuel (L : List Msg) (m : Msg) : ∀ f g w, m.p + 1 ≤ f + w → m.p + 1 ≤ g + w → w ≤ wStep L m w → wIter L m f w = wIter L m g w
  | 0, 0, _, _, _, _ => rfl
  | 0, g + 1, w, h1, _, _ => by
    show (0, false) = _
    rw [wIter, if_pos (by omega)]
  | f + 1, 0, w, _, h2, _ => by
    show _ = (0, false)
    rw [wIter, if_pos (by omega)]
  | f + 1, g + 1, w, h1, h2, hw => by
    rw [wIter, wIter]
    by_cases hp : m.p < m.j + w + tm m
    · rw [if_pos hp, if_pos hp]
    · rw [if_neg hp, if_neg hp]
      by_cases he : wStep L m w = w
      · rw [if_pos he, if_pos he]
      · rw [if_neg he, if_neg he]
        exact wIter_fuel L m f g _ (by omega) (by omega) (wStep_mono L m hw)
theorem wB_b {L : List Msg} (hG : ∀ y ∈ L, Good y) {m : Msg} (h : Good m) (F : List Msg) (hF : ∀ y ∈ F, y ∈ L) : ∀ b, b ≤ 160 → F.foldl (fun b y => if tlt (fld m) (fld y) then max b (tm y) else b) b ≤ 160 := by
  induction F with
  | nil => exact fun b hb => hb
  | cons y F ih =>
    intro b hb
    refine ih (fun z hz => hF z (.tail _ hz)) _ ?_
    have := (hG y (hF y (.head _))).tm
    dsimp only
    split <;> omega
theorem wAdd_b {y : Msg} (h : Good y) {w : Nat} (hw : w ≤ 4294967296) : tm y * ((w + y.j) / y.p + 1) ≤ 1374389534880 := by
  have h1 := h.tm
  have h2 : (w + y.j) / y.p ≤ 8589934591 := Nat.le_trans (Nat.div_le_self _ _) (by have := h.p2; have := h.j; omega)
  exact Nat.le_trans (Nat.mul_le_mul h1.2.1 (Nat.add_le_add_right h2 1)) (by decide)
theorem wSum_b {w : Nat} (hw : w ≤ 4294967296) : ∀ (F : List Msg) (a : Nat), (∀ y ∈ F, Good y) → F.foldl (wAdd w) a ≤ a + F.length * 1374389534880
  | [], a, _ => by simp
  | y :: F, a, h => by
    have h1 := wSum_b hw F (wAdd w a y) (fun z hz => h z (.tail _ hz))
    have h2 := wAdd_b (h y (.head _)) hw
    rw [List.length_cons, Nat.succ_mul]
    show F.foldl (wAdd w) (wAdd w a y) ≤ _
    unfold wAdd at h1 ⊢
    omega
end Go.Proofs.YtjleekdidedhaaaDoor

/- Layer 25: how long one takes at most: the program's walk. -/
set_option linter.unusedVariables false
set_option linter.unusedSimpArgs false
set_option maxRecDepth 100000
set_option maxHeartbeats 4000000
namespace Go.Proofs.YtjleekdidedhaaaDoor
open Sx
def cmpS (a b : List UInt8) : Int := if tlt a b then -1 else if tlt b a then 1 else 0
inductive S23a (A0 A1 A6 A7 A8 A26 A27 A28 : Value) : List Value → Prop
  | mk {r2 r3 r4 r5 r9 r10 r11 r12 r13 r14 r15 r16 r17 r18 r19 r20 r21 r22 r23 r24 r25 r29 r30 r31 r32 r33 r34 r35 r36 r37 r38 r39 r40 r41 r42 r43 r44 r45 r46 r47 r48 r49 r50 r51 r52 r53 r54 r55 r56 r57 r58 r59 r60 r61 r62 r63 r64 r65 r66 r67 r68 r69 r70 r71 r72 r73 r74 r75 r76 r77 r78 r79 r80 r81 r82 r83 r84 r85 r86 r87 r88 r89 r90 r91 r92 r93 r94 r95 r96 r97 r98 r99 r100 r101 r102 r103 r104 r105 : Value} : S23a A0 A1 A6 A7 A8 A26 A27 A28 [A0, A1, r2, r3, r4, r5, A6, A7, A8, r9, r10, r11, r12, r13, r14, r15, r16, r17, r18, r19, r20, r21, r22, r23, r24, r25, A26, A27, A28, r29, r30, r31, r32, r33, r34, r35, r36, r37, r38, r39, r40, r41, r42, r43, r44, r45, r46, r47, r48, r49, r50, r51, r52, r53, r54, r55, r56, r57, r58, r59, r60, r61, r62, r63, r64, r65, r66, r67, r68, r69, r70, r71, r72, r73, r74, r75, r76, r77, r78, r79, r80, r81, r82, r83, r84, r85, r86, r87, r88, r89, r90, r91, r92, r93, r94, r95, r96, r97, r98, r99, r100, r101, r102, r103, r104, r105]
inductive S23b (A0 A1 A7 A8 A12 : Value) : List Value → Prop
  | mk {r2 r3 r4 r5 r6 r9 r10 r11 r13 r14 r15 r16 r17 r18 r19 r20 r21 r22 r23 r24 r25 r26 r27 r28 r29 r30 r31 r32 r33 r34 r35 r36 r37 r38 r39 r40 r41 r42 r43 r44 r45 r46 r47 r48 r49 r50 r51 r52 r53 r54 r55 r56 r57 r58 r59 r60 r61 r62 r63 r64 r65 r66 r67 r68 r69 r70 r71 r72 r73 r74 r75 r76 r77 r78 r79 r80 r81 r82 r83 r84 r85 r86 r87 r88 r89 r90 r91 r92 r93 r94 r95 r96 r97 r98 r99 r100 r101 r102 r103 r104 r105 : Value} : S23b A0 A1 A7 A8 A12 [A0, A1, r2, r3, r4, r5, r6, A7, A8, r9, r10, r11, A12, r13, r14, r15, r16, r17, r18, r19, r20, r21, r22, r23, r24, r25, r26, r27, r28, r29, r30, r31, r32, r33, r34, r35, r36, r37, r38, r39, r40, r41, r42, r43, r44, r45, r46, r47, r48, r49, r50, r51, r52, r53, r54, r55, r56, r57, r58, r59, r60, r61, r62, r63, r64, r65, r66, r67, r68, r69, r70, r71, r72, r73, r74, r75, r76, r77, r78, r79, r80, r81, r82, r83, r84, r85, r86, r87, r88, r89, r90, r91, r92, r93, r94, r95, r96, r97, r98, r99, r100, r101, r102, r103, r104, r105]
inductive S23c (A0 A1 A7 A8 A12 A13 A75 A76 A77 : Value) : List Value → Prop
  | mk {r2 r3 r4 r5 r6 r9 r10 r11 r14 r15 r16 r17 r18 r19 r20 r21 r22 r23 r24 r25 r26 r27 r28 r29 r30 r31 r32 r33 r34 r35 r36 r37 r38 r39 r40 r41 r42 r43 r44 r45 r46 r47 r48 r49 r50 r51 r52 r53 r54 r55 r56 r57 r58 r59 r60 r61 r62 r63 r64 r65 r66 r67 r68 r69 r70 r71 r72 r73 r74 r78 r79 r80 r81 r82 r83 r84 r85 r86 r87 r88 r89 r90 r91 r92 r93 r94 r95 r96 r97 r98 r99 r100 r101 r102 r103 r104 r105 : Value} : S23c A0 A1 A7 A8 A12 A13 A75 A76 A77 [A0, A1, r2, r3, r4, r5, r6, A7, A8, r9, r10, r11, A12, A13, r14, r15, r16, r17, r18, r19, r20, r21, r22, r23, r24, r25, r26, r27, r28, r29, r30, r31, r32, r33, r34, r35, r36, r37, r38, r39, r40, r41, r42, r43, r44, r45, r46, r47, r48, r49, r50, r51, r52, r53, r54, r55, r56, r57, r58, r59, r60, r61, r62, r63, r64, r65, r66, r67, r68, r69, r70, r71, r72, r73, r74, A75, A76, A77, r78, r79, r80, r81, r82, r83, r84, r85, r86, r87, r88, r89, r90, r91, r92, r93, r94, r95, r96, r97, r98, r99, r100, r101, r102, r103, r104, r105]
theorem one5 (y : Msg) : ∀ u ∈ mC y, u.oneCell' = true := by
  intro u hu
  simp only [mC, List.mem_cons, List.not_mem_nil, or_false] at hu
  rcases hu with rfl | rfl | rfl | rfl | rfl <;> rfl
section
variable {K : Value → Heap → Prop} {H : Heap} {sv : Value} {L : List Msg} {m y : Msg}
theorem c36 {a b : List UInt8} (hK : K (.int .i64 (cmpS a b)) H) : SCalls Tryd.prog 36 [.string (strOf a), .string (strOf b)] H K := by
  refine enter36 ?_
  have h44 : ∀ a H (K2 : Value → Heap → Prop), K2 (.bool false) H → SCalls Tryd.prog 44 [.string (strOf a)] H K2 := by
    intro a H K2 hk
    refine enter44 ?_
    have : (!decide (strOf a = strOf a)) = false := by simp
    repeat' ((conv => whnf); (first
        | (rw [this]; exact Keep.all hk)
        | (show Keep _ fun H' => K2 (.bool (!decide (strOf a = strOf a))) H'; rw [this]; exact Keep.all hk)
        | refine New.mk (fun _ => ?_)
        | refine Look.at0 ?_
        | refine Cell.row ?_
        | refine Cell.buf ?_
        | refine Cells.row rfl ?_
        | refine Put.row rfl ?_
        | refine Put.buf rfl ?_
        | refine Look.at1 ?_
        | refine Look.at2 ?_
        | refine Look.at3 ?_
        | refine Look.at4 ?_
        | refine Look.at5 ?_
        | refine Look.at6 ?_
        | refine Look.at7 ?_
        | refine Look.at8 ?_
        | with_reducible refine Val.i64 (by omega) (by omega) ?_
        | with_reducible refine Val.u8 (by omega) (by omega) ?_
        | with_reducible refine Val.u32 (by omega) (by omega) ?_
        | with_reducible refine Val.u64 (by omega) (by omega) ?_
        | with_reducible refine Val.u8m ?_
        | with_reducible refine Val.u32m ?_
        | with_reducible refine Val.u64m ?_
        | with_reducible refine Val.shr8 ?_
        | with_reducible refine Val.shr16 (by decide) ?_
        | with_reducible refine Val.shr24 (by decide) ?_
        | with_reducible refine Val.raw ?_
        | refine Branch.not ?_
        | refine Branch.and ?_
        | refine Branch.or ?_
        | refine Branch.dt (by assumption) ?_
        | refine Branch.df (by assumption) ?_
        | refine Branch.dt rfl ?_
        | refine Branch.dt (by omega) ?_
        | refine Branch.df (by omega) ?_
        | refine Branch.t rfl ?_
        | refine Branch.f rfl ?_
        | refine Branch.t (by assumption) ?_
        | refine Branch.f (by assumption) ?_
        | refine Branch.d (fun _ => ?_) (fun _ => ?_)
        | refine Branch.mk (fun _ => ?_) (fun _ => ?_)
        | refine Need.mk (by first | omega | decide | rfl) ?_
        | refine Idx.nat (by omega) ?_
        | refine Idx.auto (by first | omega | decide) (by first | omega | decide) ?_
        | refine Cell.ro rfl ?_
        | refine SDraw.all (by kernel_rfl) ?_
        | refine Kept.k0 ?_
        | refine Kept.k1 ?_
        | refine Kept.k2 ?_
        | refine Kept.k3 ?_
        | refine Kept.k4 ?_))
  unfold cmpS at hK
  have h1 := strLt_of a b
  have h2 := strGt_of a b
  cases ha : tlt a b with
  | true =>
    rw [ha] at hK h1
    repeat' ((conv => whnf); (first
        | with_reducible refine h44 _ _ _ ?_
        | refine Branch.t h1 ?_
        | exact Keep.all hK
        | refine New.mk (fun _ => ?_)
        | refine Look.at0 ?_
        | refine Cell.row ?_
        | refine Cell.buf ?_
        | refine Cells.row rfl ?_
        | refine Put.row rfl ?_
        | refine Put.buf rfl ?_
        | refine Look.at1 ?_
        | refine Look.at2 ?_
        | refine Look.at3 ?_
        | refine Look.at4 ?_
        | refine Look.at5 ?_
        | refine Look.at6 ?_
        | refine Look.at7 ?_
        | refine Look.at8 ?_
        | with_reducible refine Val.i64 (by omega) (by omega) ?_
        | with_reducible refine Val.u8 (by omega) (by omega) ?_
        | with_reducible refine Val.u32 (by omega) (by omega) ?_
        | with_reducible refine Val.u64 (by omega) (by omega) ?_
        | with_reducible refine Val.u8m ?_
        | with_reducible refine Val.u32m ?_
        | with_reducible refine Val.u64m ?_
        | with_reducible refine Val.shr8 ?_
        | with_reducible refine Val.shr16 (by decide) ?_
        | with_reducible refine Val.shr24 (by decide) ?_
        | with_reducible refine Val.raw ?_
        | refine Branch.not ?_
        | refine Branch.and ?_
        | refine Branch.or ?_
        | refine Branch.dt (by assumption) ?_
        | refine Branch.df (by assumption) ?_
        | refine Branch.dt rfl ?_
        | refine Branch.dt (by omega) ?_
        | refine Branch.df (by omega) ?_
        | refine Branch.t rfl ?_
        | refine Branch.f rfl ?_
        | refine Branch.t (by assumption) ?_
        | refine Branch.f (by assumption) ?_
        | refine Branch.d (fun _ => ?_) (fun _ => ?_)
        | refine Branch.mk (fun _ => ?_) (fun _ => ?_)
        | refine Need.mk (by first | omega | decide | rfl) ?_
        | refine Idx.nat (by omega) ?_
        | refine Idx.auto (by first | omega | decide) (by first | omega | decide) ?_
        | refine Cell.ro rfl ?_
        | refine SDraw.all (by kernel_rfl) ?_
        | refine Kept.k0 ?_
        | refine Kept.k1 ?_
        | refine Kept.k2 ?_
        | refine Kept.k3 ?_
        | refine Kept.k4 ?_))
  | false =>
    rw [ha] at hK h1
    cases hb : tlt b a with
    | true =>
      rw [hb] at hK h2
      repeat' ((conv => whnf); (first
          | with_reducible refine h44 _ _ _ ?_
          | refine Branch.f h1 ?_
          | refine Branch.t h2 ?_
          | exact Keep.all hK
          | refine New.mk (fun _ => ?_)
          | refine Look.at0 ?_
          | refine Cell.row ?_
          | refine Cell.buf ?_
          | refine Cells.row rfl ?_
          | refine Put.row rfl ?_
          | refine Put.buf rfl ?_
          | refine Look.at1 ?_
          | refine Look.at2 ?_
          | refine Look.at3 ?_
          | refine Look.at4 ?_
          | refine Look.at5 ?_
          | refine Look.at6 ?_
          | refine Look.at7 ?_
          | refine Look.at8 ?_
          | with_reducible refine Val.i64 (by omega) (by omega) ?_
          | with_reducible refine Val.u8 (by omega) (by omega) ?_
          | with_reducible refine Val.u32 (by omega) (by omega) ?_
          | with_reducible refine Val.u64 (by omega) (by omega) ?_
          | with_reducible refine Val.u8m ?_
          | with_reducible refine Val.u32m ?_
          | with_reducible refine Val.u64m ?_
          | with_reducible refine Val.shr8 ?_
          | with_reducible refine Val.shr16 (by decide) ?_
          | with_reducible refine Val.shr24 (by decide) ?_
          | with_reducible refine Val.raw ?_
          | refine Branch.not ?_
          | refine Branch.and ?_
          | refine Branch.or ?_
          | refine Branch.dt (by assumption) ?_
          | refine Branch.df (by assumption) ?_
          | refine Branch.dt rfl ?_
          | refine Branch.dt (by omega) ?_
          | refine Branch.df (by omega) ?_
          | refine Branch.t rfl ?_
          | refine Branch.f rfl ?_
          | refine Branch.t (by assumption) ?_
          | refine Branch.f (by assumption) ?_
          | refine Branch.d (fun _ => ?_) (fun _ => ?_)
          | refine Branch.mk (fun _ => ?_) (fun _ => ?_)
          | refine Need.mk (by first | omega | decide | rfl) ?_
          | refine Idx.nat (by omega) ?_
          | refine Idx.auto (by first | omega | decide) (by first | omega | decide) ?_
          | refine Cell.ro rfl ?_
          | refine SDraw.all (by kernel_rfl) ?_
          | refine Kept.k0 ?_
          | refine Kept.k1 ?_
          | refine Kept.k2 ?_
          | refine Kept.k3 ?_
          | refine Kept.k4 ?_))
    | false =>
      rw [hb] at hK h2
      repeat' ((conv => whnf); (first
          | with_reducible refine h44 _ _ _ ?_
          | refine Branch.f h1 ?_
          | refine Branch.f h2 ?_
          | exact Keep.all hK
          | refine New.mk (fun _ => ?_)
          | refine Look.at0 ?_
          | refine Cell.row ?_
          | refine Cell.buf ?_
          | refine Cells.row rfl ?_
          | refine Put.row rfl ?_
          | refine Put.buf rfl ?_
          | refine Look.at1 ?_
          | refine Look.at2 ?_
          | refine Look.at3 ?_
          | refine Look.at4 ?_
          | refine Look.at5 ?_
          | refine Look.at6 ?_
          | refine Look.at7 ?_
          | refine Look.at8 ?_
          | with_reducible refine Val.i64 (by omega) (by omega) ?_
          | with_reducible refine Val.u8 (by omega) (by omega) ?_
          | with_reducible refine Val.u32 (by omega) (by omega) ?_
          | with_reducible refine Val.u64 (by omega) (by omega) ?_
          | with_reducible refine Val.u8m ?_
          | with_reducible refine Val.u32m ?_
          | with_reducible refine Val.u64m ?_
          | with_reducible refine Val.shr8 ?_
          | with_reducible refine Val.shr16 (by decide) ?_
          | with_reducible refine Val.shr24 (by decide) ?_
          | with_reducible refine Val.raw ?_
          | refine Branch.not ?_
          | refine Branch.and ?_
          | refine Branch.or ?_
          | refine Branch.dt (by assumption) ?_
          | refine Branch.df (by assumption) ?_
          | refine Branch.dt rfl ?_
          | refine Branch.dt (by omega) ?_
          | refine Branch.df (by omega) ?_
          | refine Branch.t rfl ?_
          | refine Branch.f rfl ?_
          | refine Branch.t (by assumption) ?_
          | refine Branch.f (by assumption) ?_
          | refine Branch.d (fun _ => ?_) (fun _ => ?_)
          | refine Branch.mk (fun _ => ?_) (fun _ => ?_)
          | refine Need.mk (by first | omega | decide | rfl) ?_
          | refine Idx.nat (by omega) ?_
          | refine Idx.auto (by first | omega | decide) (by first | omega | decide) ?_
          | refine Cell.ro rfl ?_
          | refine SDraw.all (by kernel_rfl) ?_
          | refine Kept.k0 ?_
          | refine Kept.k1 ?_
          | refine Kept.k2 ?_
          | refine Kept.k3 ?_
          | refine Kept.k4 ?_))
theorem t27 (h : Good y) (hK : K (.int .u64 (tm y : Int)) H) : SCalls Tryd.prog 27 [.agg ⟨mC y⟩] H K :=
  c27 h.n0 h.n8 (by rw [h.tm.2.2]; exact hK)
theorem t12 (h : Good y) (hK : K (.int .u64 (tm y : Int)) H) : SCalls Tryd.prog 12 [.agg ⟨mC y⟩] H K :=
  c12 h.n0 h.n8 (by rw [h.tm.2.2]; exact hK)
theorem t37 {w : Nat} (h : Good y) (hw : w ≤ 4294967296) (hK : K (.int .u64 (((w + y.j) / y.p + 1 : Nat) : Int)) H) : SCalls Tryd.prog 37 [.agg ⟨mC y⟩, .int .u64 (w : Int)] H K :=
  c37 h.p1 (by have := h.p2; have := h.j; omega) hK
def bK (L : List Msg) (m : Msg) (k : Nat) : Nat := (L.take k).foldl (fun b y => if tlt (fld m) (fld y) then max b (tm y) else b) (tm m)
def fK (L : List Msg) (m : Msg) (k : Nat) : List Msg := (L.take k).filter fun y => tlt (fld y) (fld m)
theorem bK_succ {k : Nat} (h : L.take (k + 1) = L.take k ++ [y]) : bK L m (k + 1) = if tlt (fld m) (fld y) then max (bK L m k) (tm y) else bK L m k := by
  unfold bK
  rw [h, List.foldl_append]; rfl
theorem fK_succ {k : Nat} (h : L.take (k + 1) = L.take k ++ [y]) : fK L m (k + 1) = if tlt (fld y) (fld m) then fK L m k ++ [y] else fK L m k := by
  unfold fK
  rw [h, List.filter_append]
  cases hq : tlt (fld y) (fld m) <;> simp [List.filter_cons, hq]
def I23a (sv : Value) (i : Nat) (L : List Msg) (m : Msg) (H : Heap) (k : Nat) (S : List Value) (H' : Heap) : Prop :=
  k ≤ L.length ∧ ∃ fv M, Grow mC 5 30 fv (fK L m k) M ∧ S23a sv (.int .i64 (i : Int)) (.string (strOf (fV m.id m.x m.n).1)) fv (.int .u64 (bK L m k : Int)) sv (.int .i64 (L.length : Int)) (.int .i64 (k : Int)) S ∧ H' = M ++ H
def I23b (sv fv : Value) (i : Nat) (L : List Msg) (m : Msg) (T : Nat × Bool) (H : Heap) (w : Nat) (S : List Value) (H' : Heap) : Prop :=
  w ≤ 140737488355328 ∧ w ≤ wStep L m w ∧ wIter L m (m.p + 1 - w) w = T ∧ S23b sv (.int .i64 (i : Int)) fv (.int .u64 (wB L m : Int)) (.int .u64 (w : Int)) S ∧ H' = H
def I23c (sv fv : Value) (i : Nat) (L : List Msg) (m : Msg) (w : Nat) (H : Heap) (k : Nat) (S : List Value) (H' : Heap) : Prop :=
  k ≤ (wF L m).length ∧ S23c sv (.int .i64 (i : Int)) fv (.int .u64 (wB L m : Int)) (.int .u64 ((((wF L m).take k).foldl (wAdd w) (wB L m) : Nat) : Int)) (.int .u64 (w : Int)) fv (.int .i64 ((wF L m).length : Int)) (.int .i64 (k : Int)) S ∧ H' = H
theorem c23 {i : Nat} (hD : Db H) (hin : InS mC 5 sv H L) (hG : Goods L) (hi : L[i]? = some m) (h : K (.tuple ⟨[.int .u64 ((worstS L m).1 : Int), .bool (worstS L m).2]⟩) H) : SCalls Tryd.prog 23 [sv, .int .i64 (i : Int)] H K := by
  have hm := List.mem_of_getElem? hi
  have hg := hG.good m hm
  have hlen := hG.len
  have hil : i < L.length := (List.getElem?_eq_some_iff.1 hi).1
  obtain ⟨r, o, c, b, rfl, hrb, hc⟩ := inS_at hin (fun _ => rfl) hi
  have hc3 := hc 3 _ rfl
  have hc4 := hc 4 _ rfl
  refine enter23 ?_
  repeat' ((conv => whnf); (first
      | refine Look.cells hrb rfl hc ?_
      | refine c28 hg.id hD ?_
      | refine t27 hg ?_
      | refine New.mk (fun _ => ?_)
      | refine Look.at0 ?_
      | refine Cell.row ?_
      | refine Cell.buf ?_
      | refine Cells.row rfl ?_
      | refine Put.row rfl ?_
      | refine Put.buf rfl ?_
      | refine Look.at1 ?_
      | refine Look.at2 ?_
      | refine Look.at3 ?_
      | refine Look.at4 ?_
      | refine Look.at5 ?_
      | refine Look.at6 ?_
      | refine Look.at7 ?_
      | refine Look.at8 ?_
      | with_reducible refine Val.i64 (by omega) (by omega) ?_
      | with_reducible refine Val.u8 (by omega) (by omega) ?_
      | with_reducible refine Val.u32 (by omega) (by omega) ?_
      | with_reducible refine Val.u64 (by omega) (by omega) ?_
      | with_reducible refine Val.u8m ?_
      | with_reducible refine Val.u32m ?_
      | with_reducible refine Val.u64m ?_
      | with_reducible refine Val.shr8 ?_
      | with_reducible refine Val.shr16 (by decide) ?_
      | with_reducible refine Val.shr24 (by decide) ?_
      | with_reducible refine Val.raw ?_
      | refine Branch.not ?_
      | refine Branch.and ?_
      | refine Branch.or ?_
      | refine Branch.dt (by assumption) ?_
      | refine Branch.df (by assumption) ?_
      | refine Branch.dt rfl ?_
      | refine Branch.dt (by omega) ?_
      | refine Branch.df (by omega) ?_
      | refine Branch.t rfl ?_
      | refine Branch.f rfl ?_
      | refine Branch.t (by assumption) ?_
      | refine Branch.f (by assumption) ?_
      | refine Branch.d (fun _ => ?_) (fun _ => ?_)
      | refine Branch.mk (fun _ => ?_) (fun _ => ?_)
      | refine Need.mk (by first | omega | decide | rfl) ?_
      | refine Idx.nat (by omega) ?_
      | refine Idx.auto (by first | omega | decide) (by first | omega | decide) ?_
      | refine Cell.ro rfl ?_
      | refine SDraw.all (by kernel_rfl) ?_
      | refine Kept.k0 ?_
      | refine Kept.k1 ?_
      | refine Kept.k2 ?_
      | refine Kept.k3 ?_
      | refine Kept.k4 ?_))
  refine SLoop.invA (I23a (.slice (some ⟨r, o, none⟩) L.length c) i L m H) (fun k => L.length - k) 0 (Keep.all ⟨Nat.zero_le _, _, [], .nil, .mk, rfl⟩) ?_
  rintro k S H' ⟨hk, fv, M, hGr, hS, rfl⟩ R hR
  cases hS
  by_cases hlt : k < L.length
  · obtain ⟨y, hx, hdrop, htake⟩ := list_at hlt
    obtain ⟨r2, o2, c2, b2, e1, hrb2, hc2⟩ := inS_at hin (fun _ => rfl) hx
    injection e1 with e1 _ e3
    injection e1 with e1
    injection e1 with e4 e5
    subst e4 e5
    have hgy := hG.good y (List.mem_of_getElem? hx)
    have hD' : ∀ q : Nat × Blk, Db (q :: (M ++ H)) := fun q => hD.mono fun p hp => .tail _ (List.mem_append_right _ hp)
    have hM : (r, b2) ∈ M ++ H := List.mem_append_right _ hrb2
    have hb1 := bK_succ (m := m) htake
    have hf1 := fK_succ (m := m) htake
    have hbb : bK L m k ≤ 160 := wB_b hG.good hg (L.take k) (fun z hz => List.mem_of_mem_take hz) _ hg.tm.2.1
    have hbt := hgy.tm
    have hfl : (fK L m k).length ≤ 64 := Nat.le_trans (List.length_filter_le _ _) (Nat.le_trans (List.length_take_le _ _) (by omega))
    by_cases hki : k = i
    · subst hki
      rw [hi] at hx
      injection hx with hx
      subst hx
      rw [show tlt (fld m) (fld m) = false from Hp.bl_irr _] at hb1 hf1
      have hnext := fun S q (hS : S23a (.slice (some ⟨r, o, none⟩) L.length c) (.int .i64 (k : Int)) (.string (strOf (fV m.id m.x m.n).1)) fv (.int .u64 (bK L m k : Int)) (.slice (some ⟨r, o, none⟩) L.length c) (.int .i64 (L.length : Int)) (.int .i64 ((k + 1 : Nat) : Int)) S) => hR (k + 1) S (q :: (M ++ H)) (by omega) (Keep.d1 ⟨by omega, fv, M, by rw [hf1]; exact hGr, by rw [hb1]; exact hS, rfl⟩)
      clear hR
      repeat' ((conv => whnf); (first
          | refine Look.cells hM rfl hc2 ?_
          | refine c28 hg.id (hD' _) ?_
          | refine c36 ?_
          | exact hnext _ _ .mk
          | refine New.mk (fun _ => ?_)
          | refine Look.at0 ?_
          | refine Cell.row ?_
          | refine Cell.buf ?_
          | refine Cells.row rfl ?_
          | refine Put.row rfl ?_
          | refine Put.buf rfl ?_
          | refine Look.at1 ?_
          | refine Look.at2 ?_
          | refine Look.at3 ?_
          | refine Look.at4 ?_
          | refine Look.at5 ?_
          | refine Look.at6 ?_
          | refine Look.at7 ?_
          | refine Look.at8 ?_
          | with_reducible refine Val.i64 (by omega) (by omega) ?_
          | with_reducible refine Val.u8 (by omega) (by omega) ?_
          | with_reducible refine Val.u32 (by omega) (by omega) ?_
          | with_reducible refine Val.u64 (by omega) (by omega) ?_
          | with_reducible refine Val.u8m ?_
          | with_reducible refine Val.u32m ?_
          | with_reducible refine Val.u64m ?_
          | with_reducible refine Val.shr8 ?_
          | with_reducible refine Val.shr16 (by decide) ?_
          | with_reducible refine Val.shr24 (by decide) ?_
          | with_reducible refine Val.raw ?_
          | refine Branch.not ?_
          | refine Branch.and ?_
          | refine Branch.or ?_
          | refine Branch.dt (by assumption) ?_
          | refine Branch.df (by assumption) ?_
          | refine Branch.dt rfl ?_
          | refine Branch.dt (by omega) ?_
          | refine Branch.df (by omega) ?_
          | refine Branch.t rfl ?_
          | refine Branch.f rfl ?_
          | refine Branch.t (by assumption) ?_
          | refine Branch.f (by assumption) ?_
          | refine Branch.d (fun _ => ?_) (fun _ => ?_)
          | refine Branch.mk (fun _ => ?_) (fun _ => ?_)
          | refine Need.mk (by first | omega | decide | rfl) ?_
          | refine Idx.nat (by omega) ?_
          | refine Idx.auto (by first | omega | decide) (by first | omega | decide) ?_
          | refine Cell.ro rfl ?_
          | refine SDraw.all (by kernel_rfl) ?_
          | refine Kept.k0 ?_
          | refine Kept.k1 ?_
          | refine Kept.k2 ?_
          | refine Kept.k3 ?_
          | refine Kept.k4 ?_))
    · have hne := hG.ne hx hi hki
      cases hlt2 : tlt (fld y) (fld m) with
      | true =>
        rw [hlt2] at hf1
        rw [show tlt (fld m) (fld y) = false from Hp.bl_asym hlt2] at hb1
        have hcmp1 : cmpS (fld y) (fld m) = -1 := by unfold cmpS; rw [hlt2]; rfl
        have hcmp : cmpS (fV y.id y.x y.n).1 (fV m.id m.x m.n).1 < 0 := by rw [show cmpS (fV y.id y.x y.n).1 (fV m.id m.x m.n).1 = -1 from hcmp1]; decide
        obtain ⟨fa, fc, rfl, _⟩ := hGr.sv
        have hnext := fun S fv' M' (q q2 : Nat × Blk) (hg2 : Grow mC 5 30 fv' (fK L m k ++ [y]) M') (hS : S23a (.slice (some ⟨r, o, none⟩) L.length c) (.int .i64 (i : Int)) (.string (strOf (fV m.id m.x m.n).1)) fv' (.int .u64 (bK L m k : Int)) (.slice (some ⟨r, o, none⟩) L.length c) (.int .i64 (L.length : Int)) (.int .i64 ((k + 1 : Nat) : Int)) S) => hR (k + 1) S (M' ++ ([q, q2] ++ H)) (by omega) (Keep.sub _ ((List.Sublist.refl M').append (List.sublist_append_right [q, q2] H)) ⟨by omega, fv', M', by rw [hf1]; exact hg2, by rw [hb1]; exact hS, rfl⟩)
        clear hR
        repeat' ((conv => whnf); (first
            | refine Look.cells hM rfl hc2 ?_
            | refine c28 hgy.id (hD' _) ?_
            | refine c36 ?_
            | refine Branch.df (by omega) ?_
            | refine Branch.dt (by omega) ?_
            | refine RawV.grow1 (A := [_, _]) (x := y) (bytes := 32) hGr rfl (.head _) rfl (by kernel_rfl) (by decide) (fun _ => rfl) (one5 y) (by simp only [maxLen]; omega) (by omega) (fun fa' fc' M' hg2 => ?_)
            | exact hnext _ _ _ _ _ hg2 .mk
            | refine New.mk (fun _ => ?_)
            | refine Look.at0 ?_
            | refine Cell.row ?_
            | refine Cell.buf ?_
            | refine Cells.row rfl ?_
            | refine Put.row rfl ?_
            | refine Put.buf rfl ?_
            | refine Look.at1 ?_
            | refine Look.at2 ?_
            | refine Look.at3 ?_
            | refine Look.at4 ?_
            | refine Look.at5 ?_
            | refine Look.at6 ?_
            | refine Look.at7 ?_
            | refine Look.at8 ?_
            | with_reducible refine Val.i64 (by omega) (by omega) ?_
            | with_reducible refine Val.u8 (by omega) (by omega) ?_
            | with_reducible refine Val.u32 (by omega) (by omega) ?_
            | with_reducible refine Val.u64 (by omega) (by omega) ?_
            | with_reducible refine Val.u8m ?_
            | with_reducible refine Val.u32m ?_
            | with_reducible refine Val.u64m ?_
            | with_reducible refine Val.shr8 ?_
            | with_reducible refine Val.shr16 (by decide) ?_
            | with_reducible refine Val.shr24 (by decide) ?_
            | with_reducible refine Val.raw ?_
            | refine Branch.not ?_
            | refine Branch.and ?_
            | refine Branch.or ?_
            | refine Branch.dt (by assumption) ?_
            | refine Branch.df (by assumption) ?_
            | refine Branch.dt rfl ?_
            | refine Branch.dt (by omega) ?_
            | refine Branch.df (by omega) ?_
            | refine Branch.t rfl ?_
            | refine Branch.f rfl ?_
            | refine Branch.t (by assumption) ?_
            | refine Branch.f (by assumption) ?_
            | refine Branch.d (fun _ => ?_) (fun _ => ?_)
            | refine Branch.mk (fun _ => ?_) (fun _ => ?_)
            | refine Need.mk (by first | omega | decide | rfl) ?_
            | refine Idx.nat (by omega) ?_
            | refine Idx.auto (by first | omega | decide) (by first | omega | decide) ?_
            | refine Cell.ro rfl ?_
            | refine SDraw.all (by kernel_rfl) ?_
            | refine Kept.k0 ?_
            | refine Kept.k1 ?_
            | refine Kept.k2 ?_
            | refine Kept.k3 ?_
            | refine Kept.k4 ?_))
      | false =>
        rw [hlt2] at hf1
        have hlt3 : tlt (fld m) (fld y) = true := by
          cases h3 : tlt (fld m) (fld y) with
          | true => rfl
          | false => exact absurd (Hp.bl_tri _ _ hlt2 h3) hne
        rw [hlt3] at hb1
        have hcmp1 : cmpS (fld y) (fld m) = 1 := by unfold cmpS; rw [hlt2, hlt3]; rfl
        have hcmp : cmpS (fV y.id y.x y.n).1 (fV m.id m.x m.n).1 = 1 := hcmp1
        have hmax : (if (bK L m k : Int) < (tm y : Int) then (tm y : Int) else (bK L m k : Int)) = ((max (bK L m k) (tm y) : Nat) : Int) := by
          split <;> omega
        have hnext := fun S q (hS : S23a (.slice (some ⟨r, o, none⟩) L.length c) (.int .i64 (i : Int)) (.string (strOf (fV m.id m.x m.n).1)) fv (.int .u64 ((max (bK L m k) (tm y) : Nat) : Int)) (.slice (some ⟨r, o, none⟩) L.length c) (.int .i64 (L.length : Int)) (.int .i64 ((k + 1 : Nat) : Int)) S) => hR (k + 1) S (q :: (M ++ H)) (by omega) (Keep.d1 ⟨by omega, fv, M, by rw [hf1]; exact hGr, by rw [hb1]; exact hS, rfl⟩)
        clear hR
        repeat' ((conv => whnf); (first
            | refine Look.cells hM rfl hc2 ?_
            | refine c28 hgy.id (hD' _) ?_
            | refine c36 ?_
            | refine Branch.df (by omega) ?_
            | refine t27 hgy ?_
            | refine RawV.max2 rfl hmax ?_
            | exact hnext _ _ .mk
            | refine New.mk (fun _ => ?_)
            | refine Look.at0 ?_
            | refine Cell.row ?_
            | refine Cell.buf ?_
            | refine Cells.row rfl ?_
            | refine Put.row rfl ?_
            | refine Put.buf rfl ?_
            | refine Look.at1 ?_
            | refine Look.at2 ?_
            | refine Look.at3 ?_
            | refine Look.at4 ?_
            | refine Look.at5 ?_
            | refine Look.at6 ?_
            | refine Look.at7 ?_
            | refine Look.at8 ?_
            | with_reducible refine Val.i64 (by omega) (by omega) ?_
            | with_reducible refine Val.u8 (by omega) (by omega) ?_
            | with_reducible refine Val.u32 (by omega) (by omega) ?_
            | with_reducible refine Val.u64 (by omega) (by omega) ?_
            | with_reducible refine Val.u8m ?_
            | with_reducible refine Val.u32m ?_
            | with_reducible refine Val.u64m ?_
            | with_reducible refine Val.shr8 ?_
            | with_reducible refine Val.shr16 (by decide) ?_
            | with_reducible refine Val.shr24 (by decide) ?_
            | with_reducible refine Val.raw ?_
            | refine Branch.not ?_
            | refine Branch.and ?_
            | refine Branch.or ?_
            | refine Branch.dt (by assumption) ?_
            | refine Branch.df (by assumption) ?_
            | refine Branch.dt rfl ?_
            | refine Branch.dt (by omega) ?_
            | refine Branch.df (by omega) ?_
            | refine Branch.t rfl ?_
            | refine Branch.f rfl ?_
            | refine Branch.t (by assumption) ?_
            | refine Branch.f (by assumption) ?_
            | refine Branch.d (fun _ => ?_) (fun _ => ?_)
            | refine Branch.mk (fun _ => ?_) (fun _ => ?_)
            | refine Need.mk (by first | omega | decide | rfl) ?_
            | refine Idx.nat (by omega) ?_
            | refine Idx.auto (by first | omega | decide) (by first | omega | decide) ?_
            | refine Cell.ro rfl ?_
            | refine SDraw.all (by kernel_rfl) ?_
            | refine Kept.k0 ?_
            | refine Kept.k1 ?_
            | refine Kept.k2 ?_
            | refine Kept.k3 ?_
            | refine Kept.k4 ?_))
  · have e : k = L.length := by omega
    subst e
    clear hR
    have eb : bK L m L.length = wB L m := by unfold bK wB; rw [List.take_length]
    have ef : fK L m L.length = wF L m := by unfold fK wF; rw [List.take_length]
    rw [ef] at hGr
    rw [eb]
    have hbb : wB L m ≤ 160 := wB_b hG.good hg L (fun z hz => hz) _ hg.tm.2.1
    generalize hT : worstS L m = T at h
    have hM : (r, b) ∈ M ++ H := List.mem_append_right _ hrb
    have hfin := hGr.ins (fun _ => rfl) (H := M ++ H) (fun p hp => List.mem_append_left _ hp)
    obtain ⟨fa, fc, rfl, hml⟩ := hGr.sv
    have hml' : (wF L m).length ≤ 64 := Nat.le_trans (List.length_filter_le _ _) hlen
    have hgF : ∀ y ∈ wF L m, Good y := fun y hy => hG.good y (List.mem_filter.1 hy).1
    have h' : ∀ q : Heap, Keep (q ++ H) fun H' => K (.tuple ⟨[.int .u64 (T.1 : Int), .bool T.2]⟩) H' := fun q => Keep.sub _ (List.sublist_append_right q H) h
    have hgt := hg.tm
    have hp2 := hg.p2
    have hj := hg.j
    clear h
    repeat' ((conv => whnf); (first
        | refine New.mk (fun _ => ?_)
        | refine Look.at0 ?_
        | refine Cell.row ?_
        | refine Cell.buf ?_
        | refine Cells.row rfl ?_
        | refine Put.row rfl ?_
        | refine Put.buf rfl ?_
        | refine Look.at1 ?_
        | refine Look.at2 ?_
        | refine Look.at3 ?_
        | refine Look.at4 ?_
        | refine Look.at5 ?_
        | refine Look.at6 ?_
        | refine Look.at7 ?_
        | refine Look.at8 ?_
        | with_reducible refine Val.i64 (by omega) (by omega) ?_
        | with_reducible refine Val.u8 (by omega) (by omega) ?_
        | with_reducible refine Val.u32 (by omega) (by omega) ?_
        | with_reducible refine Val.u64 (by omega) (by omega) ?_
        | with_reducible refine Val.u8m ?_
        | with_reducible refine Val.u32m ?_
        | with_reducible refine Val.u64m ?_
        | with_reducible refine Val.shr8 ?_
        | with_reducible refine Val.shr16 (by decide) ?_
        | with_reducible refine Val.shr24 (by decide) ?_
        | with_reducible refine Val.raw ?_
        | refine Branch.not ?_
        | refine Branch.and ?_
        | refine Branch.or ?_
        | refine Branch.dt (by assumption) ?_
        | refine Branch.df (by assumption) ?_
        | refine Branch.dt rfl ?_
        | refine Branch.dt (by omega) ?_
        | refine Branch.df (by omega) ?_
        | refine Branch.t rfl ?_
        | refine Branch.f rfl ?_
        | refine Branch.t (by assumption) ?_
        | refine Branch.f (by assumption) ?_
        | refine Branch.d (fun _ => ?_) (fun _ => ?_)
        | refine Branch.mk (fun _ => ?_) (fun _ => ?_)
        | refine Need.mk (by first | omega | decide | rfl) ?_
        | refine Idx.nat (by omega) ?_
        | refine Idx.auto (by first | omega | decide) (by first | omega | decide) ?_
        | refine Cell.ro rfl ?_
        | refine SDraw.all (by kernel_rfl) ?_
        | refine Kept.k0 ?_
        | refine Kept.k1 ?_
        | refine Kept.k2 ?_
        | refine Kept.k3 ?_
        | refine Kept.k4 ?_))
    refine SLoop.invA (I23b (.slice (some ⟨r, o, none⟩) L.length c) (.slice fa (wF L m).length fc) i L m T (M ++ H)) (fun w => m.p + 1 - w) (wB L m) (Keep.all ⟨by omega, wB_le _ _ _, by rw [← hT]; exact wIter_fuel _ _ _ _ _ (by omega) (by omega) (wB_le _ _ _), .mk, rfl⟩) ?_
    rintro w S H' ⟨hwb, hw, hgo, hS, rfl⟩ R hR
    cases hS
    by_cases hp : m.p < m.j + w + tm m
    · have e : T = (0, false) := by
        rw [← hgo]
        cases hf : m.p + 1 - w with
        | zero => rfl
        | succ f => rw [wIter, if_pos hp]
      subst e
      clear hR
      repeat' ((conv => whnf); (first
          | refine Look.cell hM hc4 ?_
          | refine Look.cell hM hc3 ?_
          | refine Look.cells hM rfl hc ?_
          | refine t27 hg ?_
          | refine Branch.dt (by omega) ?_
          | exact h' _
          | refine New.mk (fun _ => ?_)
          | refine Look.at0 ?_
          | refine Cell.row ?_
          | refine Cell.buf ?_
          | refine Cells.row rfl ?_
          | refine Put.row rfl ?_
          | refine Put.buf rfl ?_
          | refine Look.at1 ?_
          | refine Look.at2 ?_
          | refine Look.at3 ?_
          | refine Look.at4 ?_
          | refine Look.at5 ?_
          | refine Look.at6 ?_
          | refine Look.at7 ?_
          | refine Look.at8 ?_
          | with_reducible refine Val.i64 (by omega) (by omega) ?_
          | with_reducible refine Val.u8 (by omega) (by omega) ?_
          | with_reducible refine Val.u32 (by omega) (by omega) ?_
          | with_reducible refine Val.u64 (by omega) (by omega) ?_
          | with_reducible refine Val.u8m ?_
          | with_reducible refine Val.u32m ?_
          | with_reducible refine Val.u64m ?_
          | with_reducible refine Val.shr8 ?_
          | with_reducible refine Val.shr16 (by decide) ?_
          | with_reducible refine Val.shr24 (by decide) ?_
          | with_reducible refine Val.raw ?_
          | refine Branch.not ?_
          | refine Branch.and ?_
          | refine Branch.or ?_
          | refine Branch.dt (by assumption) ?_
          | refine Branch.df (by assumption) ?_
          | refine Branch.dt rfl ?_
          | refine Branch.dt (by omega) ?_
          | refine Branch.df (by omega) ?_
          | refine Branch.t rfl ?_
          | refine Branch.f rfl ?_
          | refine Branch.t (by assumption) ?_
          | refine Branch.f (by assumption) ?_
          | refine Branch.d (fun _ => ?_) (fun _ => ?_)
          | refine Branch.mk (fun _ => ?_) (fun _ => ?_)
          | refine Need.mk (by first | omega | decide | rfl) ?_
          | refine Idx.nat (by omega) ?_
          | refine Idx.auto (by first | omega | decide) (by first | omega | decide) ?_
          | refine Cell.ro rfl ?_
          | refine SDraw.all (by kernel_rfl) ?_
          | refine Kept.k0 ?_
          | refine Kept.k1 ?_
          | refine Kept.k2 ?_
          | refine Kept.k3 ?_
          | refine Kept.k4 ?_))
    · obtain ⟨f, hf⟩ : ∃ f, m.p + 1 - w = f + 1 := ⟨m.p - w, by omega⟩
      rw [hf, wIter, if_neg hp] at hgo
      repeat' ((conv => whnf); (first
          | refine Look.cell hM hc4 ?_
          | refine Look.cell hM hc3 ?_
          | refine Look.cells hM rfl hc ?_
          | refine t27 hg ?_
          | refine Branch.df (by omega) ?_
          | refine New.mk (fun _ => ?_)
          | refine Look.at0 ?_
          | refine Cell.row ?_
          | refine Cell.buf ?_
          | refine Cells.row rfl ?_
          | refine Put.row rfl ?_
          | refine Put.buf rfl ?_
          | refine Look.at1 ?_
          | refine Look.at2 ?_
          | refine Look.at3 ?_
          | refine Look.at4 ?_
          | refine Look.at5 ?_
          | refine Look.at6 ?_
          | refine Look.at7 ?_
          | refine Look.at8 ?_
          | with_reducible refine Val.i64 (by omega) (by omega) ?_
          | with_reducible refine Val.u8 (by omega) (by omega) ?_
          | with_reducible refine Val.u32 (by omega) (by omega) ?_
          | with_reducible refine Val.u64 (by omega) (by omega) ?_
          | with_reducible refine Val.u8m ?_
          | with_reducible refine Val.u32m ?_
          | with_reducible refine Val.u64m ?_
          | with_reducible refine Val.shr8 ?_
          | with_reducible refine Val.shr16 (by decide) ?_
          | with_reducible refine Val.shr24 (by decide) ?_
          | with_reducible refine Val.raw ?_
          | refine Branch.not ?_
          | refine Branch.and ?_
          | refine Branch.or ?_
          | refine Branch.dt (by assumption) ?_
          | refine Branch.df (by assumption) ?_
          | refine Branch.dt rfl ?_
          | refine Branch.dt (by omega) ?_
          | refine Branch.df (by omega) ?_
          | refine Branch.t rfl ?_
          | refine Branch.f rfl ?_
          | refine Branch.t (by assumption) ?_
          | refine Branch.f (by assumption) ?_
          | refine Branch.d (fun _ => ?_) (fun _ => ?_)
          | refine Branch.mk (fun _ => ?_) (fun _ => ?_)
          | refine Need.mk (by first | omega | decide | rfl) ?_
          | refine Idx.nat (by omega) ?_
          | refine Idx.auto (by first | omega | decide) (by first | omega | decide) ?_
          | refine Cell.ro rfl ?_
          | refine SDraw.all (by kernel_rfl) ?_
          | refine Kept.k0 ?_
          | refine Kept.k1 ?_
          | refine Kept.k2 ?_
          | refine Kept.k3 ?_
          | refine Kept.k4 ?_))
      refine SLoop.invA (I23c (.slice (some ⟨r, o, none⟩) L.length c) (.slice fa (wF L m).length fc) i L m w (M ++ H)) (fun k => (wF L m).length - k) 0 (Keep.all ⟨Nat.zero_le _, .mk, rfl⟩) ?_
      rintro k S H' ⟨hk, hS, rfl⟩ R2 hR2
      cases hS
      have hw32 : w ≤ 4294967296 := by omega
      have hsum := wSum_b hw32 ((wF L m).take k) (wB L m) (fun z hz => hgF z (List.mem_of_mem_take hz))
      have hlk : ((wF L m).take k).length ≤ 64 := Nat.le_trans (List.length_take_le _ _) (by omega)
      have hlk2 : ((wF L m).take k).length * 1374389534880 ≤ 64 * 1374389534880 := Nat.mul_le_mul_right _ hlk
      by_cases hlt : k < (wF L m).length
      · obtain ⟨y, hx, hdrop, htake⟩ := list_at hlt
        obtain ⟨r2, o2, c2, b2, e1, hrb2, hc2⟩ := inS_at hfin (fun _ => rfl) hx
        injection e1 with e1 _ e3
        subst e1
        have hgy := hgF y (List.mem_of_getElem? hx)
        have hv := wAdd_b hgy hw32
        generalize hacc : ((wF L m).take k).foldl (wAdd w) (wB L m) = acc at *
        have hacc2 : ((wF L m).take (k + 1)).foldl (wAdd w) (wB L m) = wAdd w acc y := by
          rw [htake, List.foldl_append, hacc]; rfl
        have hv1 : IntKind.u64.wrap ((tm y : Int) * (((w + y.j) / y.p + 1 : Nat) : Int)) = ((tm y * ((w + y.j) / y.p + 1) : Nat) : Int) := by
          rw [← Int.natCast_mul]; exact wrap_nat rfl (by show _ < 18446744073709551616; omega)
        have hv2 : IntKind.u64.wrap ((acc : Int) + ((tm y * ((w + y.j) / y.p + 1) : Nat) : Int)) = ((wAdd w acc y : Nat) : Int) := by
          rw [← Int.natCast_add]; exact wrap_nat rfl (by show _ < 18446744073709551616; omega)
        have hnext := fun S q (hS : S23c (.slice (some ⟨r, o, none⟩) L.length c) (.int .i64 (i : Int)) (.slice (some ⟨r2, o2, none⟩) (wF L m).length fc) (.int .u64 (wB L m : Int)) (.int .u64 ((wAdd w acc y : Nat) : Int)) (.int .u64 (w : Int)) (.slice (some ⟨r2, o2, none⟩) (wF L m).length fc) (.int .i64 ((wF L m).length : Int)) (.int .i64 ((k + 1 : Nat) : Int)) S) => hR2 (k + 1) S (q :: (M ++ H)) (by omega) (Keep.d1 ⟨by omega, by rw [hacc2]; exact hS, rfl⟩)
        clear hR hR2
        repeat' ((conv => whnf); (first
            | refine Look.cells hrb2 rfl hc2 ?_
            | refine t27 hgy ?_
            | refine t37 hgy hw32 ?_
            | with_reducible refine Val.to _ hv1 ?_
            | with_reducible refine Val.to _ hv2 ?_
            | exact hnext _ _ .mk
            | refine New.mk (fun _ => ?_)
            | refine Look.at0 ?_
            | refine Cell.row ?_
            | refine Cell.buf ?_
            | refine Cells.row rfl ?_
            | refine Put.row rfl ?_
            | refine Put.buf rfl ?_
            | refine Look.at1 ?_
            | refine Look.at2 ?_
            | refine Look.at3 ?_
            | refine Look.at4 ?_
            | refine Look.at5 ?_
            | refine Look.at6 ?_
            | refine Look.at7 ?_
            | refine Look.at8 ?_
            | with_reducible refine Val.i64 (by omega) (by omega) ?_
            | with_reducible refine Val.u8 (by omega) (by omega) ?_
            | with_reducible refine Val.u32 (by omega) (by omega) ?_
            | with_reducible refine Val.u64 (by omega) (by omega) ?_
            | with_reducible refine Val.u8m ?_
            | with_reducible refine Val.u32m ?_
            | with_reducible refine Val.u64m ?_
            | with_reducible refine Val.shr8 ?_
            | with_reducible refine Val.shr16 (by decide) ?_
            | with_reducible refine Val.shr24 (by decide) ?_
            | with_reducible refine Val.raw ?_
            | refine Branch.not ?_
            | refine Branch.and ?_
            | refine Branch.or ?_
            | refine Branch.dt (by assumption) ?_
            | refine Branch.df (by assumption) ?_
            | refine Branch.dt rfl ?_
            | refine Branch.dt (by omega) ?_
            | refine Branch.df (by omega) ?_
            | refine Branch.t rfl ?_
            | refine Branch.f rfl ?_
            | refine Branch.t (by assumption) ?_
            | refine Branch.f (by assumption) ?_
            | refine Branch.d (fun _ => ?_) (fun _ => ?_)
            | refine Branch.mk (fun _ => ?_) (fun _ => ?_)
            | refine Need.mk (by first | omega | decide | rfl) ?_
            | refine Idx.nat (by omega) ?_
            | refine Idx.auto (by first | omega | decide) (by first | omega | decide) ?_
            | refine Cell.ro rfl ?_
            | refine SDraw.all (by kernel_rfl) ?_
            | refine Kept.k0 ?_
            | refine Kept.k1 ?_
            | refine Kept.k2 ?_
            | refine Kept.k3 ?_
            | refine Kept.k4 ?_))
      · have e : k = (wF L m).length := by omega
        subst e
        have es : ((wF L m).take (wF L m).length).foldl (wAdd w) (wB L m) = wStep L m w := by rw [List.take_length]; rfl
        rw [es] at hsum
        rw [es]
        generalize hS' : wStep L m w = n at *
        have hmono : w ≤ n → n ≤ wStep L m n := fun hh => by
          have := wStep_mono L m hh
          rw [hS'] at this; exact this
        clear hR2 es
        by_cases he : n = w
        · subst he
          rw [if_pos rfl] at hgo
          subst hgo
          clear hR
          have hk' : Keep (M ++ H) fun H' => K (.tuple ⟨[.int .u64 ((m.j : Int) + (n : Int) + (tm m : Int)), .bool true]⟩) H' := h' M
          repeat' ((conv => whnf); (first
              | refine Look.cell hM hc4 ?_
              | refine Look.cell hM hc3 ?_
              | refine Look.cells hM rfl hc ?_
              | refine t27 hg ?_
              | exact hk'
              | refine New.mk (fun _ => ?_)
              | refine Look.at0 ?_
              | refine Cell.row ?_
              | refine Cell.buf ?_
              | refine Cells.row rfl ?_
              | refine Put.row rfl ?_
              | refine Put.buf rfl ?_
              | refine Look.at1 ?_
              | refine Look.at2 ?_
              | refine Look.at3 ?_
              | refine Look.at4 ?_
              | refine Look.at5 ?_
              | refine Look.at6 ?_
              | refine Look.at7 ?_
              | refine Look.at8 ?_
              | with_reducible refine Val.i64 (by omega) (by omega) ?_
              | with_reducible refine Val.u8 (by omega) (by omega) ?_
              | with_reducible refine Val.u32 (by omega) (by omega) ?_
              | with_reducible refine Val.u64 (by omega) (by omega) ?_
              | with_reducible refine Val.u8m ?_
              | with_reducible refine Val.u32m ?_
              | with_reducible refine Val.u64m ?_
              | with_reducible refine Val.shr8 ?_
              | with_reducible refine Val.shr16 (by decide) ?_
              | with_reducible refine Val.shr24 (by decide) ?_
              | with_reducible refine Val.raw ?_
              | refine Branch.not ?_
              | refine Branch.and ?_
              | refine Branch.or ?_
              | refine Branch.dt (by assumption) ?_
              | refine Branch.df (by assumption) ?_
              | refine Branch.dt rfl ?_
              | refine Branch.dt (by omega) ?_
              | refine Branch.df (by omega) ?_
              | refine Branch.t rfl ?_
              | refine Branch.f rfl ?_
              | refine Branch.t (by assumption) ?_
              | refine Branch.f (by assumption) ?_
              | refine Branch.d (fun _ => ?_) (fun _ => ?_)
              | refine Branch.mk (fun _ => ?_) (fun _ => ?_)
              | refine Need.mk (by first | omega | decide | rfl) ?_
              | refine Idx.nat (by omega) ?_
              | refine Idx.auto (by first | omega | decide) (by first | omega | decide) ?_
              | refine Cell.ro rfl ?_
              | refine SDraw.all (by kernel_rfl) ?_
              | refine Kept.k0 ?_
              | refine Kept.k1 ?_
              | refine Kept.k2 ?_
              | refine Kept.k3 ?_
              | refine Kept.k4 ?_))
        · rw [if_neg he] at hgo
          have hnext := fun S (hS : S23b (.slice (some ⟨r, o, none⟩) L.length c) (.int .i64 (i : Int)) (.slice fa (wF L m).length fc) (.int .u64 (wB L m : Int)) (.int .u64 (n : Int)) S) => hR n S (M ++ H) (by omega) (Keep.all ⟨by omega, hmono hw, by rw [← hgo]; exact wIter_fuel _ _ _ _ _ (by omega) (by omega) (hmono hw), hS, rfl⟩)
          clear hR
          repeat' ((conv => whnf); (first
              | refine Branch.df (by omega) ?_
              | exact hnext _ .mk
              | refine New.mk (fun _ => ?_)
              | refine Look.at0 ?_
              | refine Cell.row ?_
              | refine Cell.buf ?_
              | refine Cells.row rfl ?_
              | refine Put.row rfl ?_
              | refine Put.buf rfl ?_
              | refine Look.at1 ?_
              | refine Look.at2 ?_
              | refine Look.at3 ?_
              | refine Look.at4 ?_
              | refine Look.at5 ?_
              | refine Look.at6 ?_
              | refine Look.at7 ?_
              | refine Look.at8 ?_
              | with_reducible refine Val.i64 (by omega) (by omega) ?_
              | with_reducible refine Val.u8 (by omega) (by omega) ?_
              | with_reducible refine Val.u32 (by omega) (by omega) ?_
              | with_reducible refine Val.u64 (by omega) (by omega) ?_
              | with_reducible refine Val.u8m ?_
              | with_reducible refine Val.u32m ?_
              | with_reducible refine Val.u64m ?_
              | with_reducible refine Val.shr8 ?_
              | with_reducible refine Val.shr16 (by decide) ?_
              | with_reducible refine Val.shr24 (by decide) ?_
              | with_reducible refine Val.raw ?_
              | refine Branch.not ?_
              | refine Branch.and ?_
              | refine Branch.or ?_
              | refine Branch.dt (by assumption) ?_
              | refine Branch.df (by assumption) ?_
              | refine Branch.dt rfl ?_
              | refine Branch.dt (by omega) ?_
              | refine Branch.df (by omega) ?_
              | refine Branch.t rfl ?_
              | refine Branch.f rfl ?_
              | refine Branch.t (by assumption) ?_
              | refine Branch.f (by assumption) ?_
              | refine Branch.d (fun _ => ?_) (fun _ => ?_)
              | refine Branch.mk (fun _ => ?_) (fun _ => ?_)
              | refine Need.mk (by first | omega | decide | rfl) ?_
              | refine Idx.nat (by omega) ?_
              | refine Idx.auto (by first | omega | decide) (by first | omega | decide) ?_
              | refine Cell.ro rfl ?_
              | refine SDraw.all (by kernel_rfl) ?_
              | refine Kept.k0 ?_
              | refine Kept.k1 ?_
              | refine Kept.k2 ?_
              | refine Kept.k3 ?_
              | refine Kept.k4 ?_))
end
end Go.Proofs.YtjleekdidedhaaaDoor

