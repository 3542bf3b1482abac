/- Layer 1: numbers as bits, by the program and by the document: by walks. -/
import Derived.Test.YtijnjklofdmelaaDoorBMain1
import Derived.Test.YtijnjklofdmelaaDoorBX
import Derived.Lib.LaidTab
import Derived.Stop.LaidErr

set_option linter.unusedVariables false
set_option linter.unusedSimpArgs false
set_option maxRecDepth 100000
set_option maxHeartbeats 4000000
namespace Go.Proofs.YtijnjklofdmelaaDoor
open Sx
def numV (n : Nat) (w : Int) : List UInt8 × Int := if 0 ≤ w ∧ w ≤ 64 ∧ n < 2 ^ w.toNat then (numB w.toNat n, 0) else ([], 1)
inductive S25 (A0 A6 A7 : Value) : List Value → Prop
  | mk {r1 r2 r3 r4 r5 r8 r9 r10 r11 r12 r13 r14 r15 r16 r17 r18 r19 r20 r21 r22 r23 r24 r25 r26 r27 r28 r29 r30 r31 r32 r33 r34 : Value} : S25 A0 A6 A7 [A0, r1, r2, r3, r4, r5, A6, A7, r8, r9, r10, r11, r12, r13, r14, r15, r16, r17, r18, r19, r20, r21, r22, r23, r24, r25, r26, r27, r28, r29, r30, r31, r32, r33, r34]
section
variable {K : Value → Heap → Prop} {H : Heap}
theorem c61 {k : Nat} (hk : k ≤ 64) (hK : K (.tuple ⟨[.int .u64 0, .int .u64 (k : Int)]⟩) H) : SCalls Tryd.prog 61 [.int .u64 1, .int .u64 (k : Int)] H K := by
  refine enter61 ?_
  have h1 : bitAnd .u64 (k : Int) 4294967295 = (k : Int) := by
    have := bitMask_nat (k := .u64) rfl (a := k) (n := 32) (by show k < 18446744073709551616; omega) (by decide)
    rw [Nat.mod_eq_of_lt (show k < 2 ^ 32 by omega)] at this
    exact this
  have h2 : shrI .u64 (k : Int) 32 = 0 := by
    have := shr_nat (k := .u64) (a := k) (n := 32) (by decide)
    rw [Nat.div_eq_of_lt (show k < 2 ^ 32 by omega)] at this
    exact this
  repeat' ((conv => whnf); (first
      | with_reducible refine Val.to _ h1 ?_
      | with_reducible refine Val.to _ h2 ?_
      | refine Val.to 0 (by decide) ?_
      | refine Val.to 1 (by decide) ?_
      | refine Val.to (k : Int) (by rw [wrap_u64]; omega) ?_
      | refine Val.to 0 (by rw [wrap_u64]; omega) ?_
      | exact Keep.all hK
      | refine New.mk (fun _ => ?_)
      | refine Look.at0 ?_
      | refine Cell.row ?_
      | refine Cell.buf ?_
      | refine Cells.row rfl ?_
      | refine Put.row rfl ?_
      | refine Put.buf rfl ?_
      | refine Look.at1 ?_
      | refine Look.at2 ?_
      | refine Look.at3 ?_
      | refine Look.at4 ?_
      | refine Look.at5 ?_
      | refine Look.at6 ?_
      | refine Look.at7 ?_
      | refine Look.at8 ?_
      | with_reducible refine Val.i64 (by omega) (by omega) ?_
      | with_reducible refine Val.u8 (by omega) (by omega) ?_
      | with_reducible refine Val.u32 (by omega) (by omega) ?_
      | with_reducible refine Val.u64 (by omega) (by omega) ?_
      | with_reducible refine Val.u8m ?_
      | with_reducible refine Val.u32m ?_
      | with_reducible refine Val.u64m ?_
      | with_reducible refine Val.shr8 ?_
      | with_reducible refine Val.shr16 (by decide) ?_
      | with_reducible refine Val.shr24 (by decide) ?_
      | with_reducible refine Val.raw ?_
      | refine Branch.not ?_
      | refine Branch.and ?_
      | refine Branch.or ?_
      | refine Branch.dt (by assumption) ?_
      | refine Branch.df (by assumption) ?_
      | refine Branch.dt rfl ?_
      | refine Branch.dt (by omega) ?_
      | refine Branch.df (by omega) ?_
      | refine Branch.t rfl ?_
      | refine Branch.f rfl ?_
      | refine Branch.t (by assumption) ?_
      | refine Branch.f (by assumption) ?_
      | refine Branch.d (fun _ => ?_) (fun _ => ?_)
      | refine Branch.mk (fun _ => ?_) (fun _ => ?_)
      | refine Need.mk (by first | omega | decide | rfl) ?_
      | refine Idx.nat (by omega) ?_
      | refine Idx.auto (by first | omega | decide) (by first | omega | decide) ?_
      | refine Cell.ro rfl ?_
      | refine SDraw.all (by kernel_rfl) ?_
      | refine Kept.k0 ?_
      | refine Kept.k1 ?_
      | refine Kept.k2 ?_
      | refine Kept.k3 ?_
      | refine Kept.k4 ?_))
theorem c43 {k : Nat} (hk : k ≤ 64) (hK : K (.tuple ⟨[.int .u64 0, .int .u64 (k : Int)]⟩) H) : SCalls Tryd.prog 43 [.int .u64 1, .int .u64 (k : Int)] H K := by
  refine enter43 ?_
  repeat' ((conv => whnf); (first
      | refine c61 hk ?_
      | refine Branch.f rfl ?_
      | exact Keep.all hK
      | refine New.mk (fun _ => ?_)
      | refine Look.at0 ?_
      | refine Cell.row ?_
      | refine Cell.buf ?_
      | refine Cells.row rfl ?_
      | refine Put.row rfl ?_
      | refine Put.buf rfl ?_
      | refine Look.at1 ?_
      | refine Look.at2 ?_
      | refine Look.at3 ?_
      | refine Look.at4 ?_
      | refine Look.at5 ?_
      | refine Look.at6 ?_
      | refine Look.at7 ?_
      | refine Look.at8 ?_
      | with_reducible refine Val.i64 (by omega) (by omega) ?_
      | with_reducible refine Val.u8 (by omega) (by omega) ?_
      | with_reducible refine Val.u32 (by omega) (by omega) ?_
      | with_reducible refine Val.u64 (by omega) (by omega) ?_
      | with_reducible refine Val.u8m ?_
      | with_reducible refine Val.u32m ?_
      | with_reducible refine Val.u64m ?_
      | with_reducible refine Val.shr8 ?_
      | with_reducible refine Val.shr16 (by decide) ?_
      | with_reducible refine Val.shr24 (by decide) ?_
      | with_reducible refine Val.raw ?_
      | refine Branch.not ?_
      | refine Branch.and ?_
      | refine Branch.or ?_
      | refine Branch.dt (by assumption) ?_
      | refine Branch.df (by assumption) ?_
      | refine Branch.dt rfl ?_
      | refine Branch.dt (by omega) ?_
      | refine Branch.df (by omega) ?_
      | refine Branch.t rfl ?_
      | refine Branch.f rfl ?_
      | refine Branch.t (by assumption) ?_
      | refine Branch.f (by assumption) ?_
      | refine Branch.d (fun _ => ?_) (fun _ => ?_)
      | refine Branch.mk (fun _ => ?_) (fun _ => ?_)
      | refine Need.mk (by first | omega | decide | rfl) ?_
      | refine Idx.nat (by omega) ?_
      | refine Idx.auto (by first | omega | decide) (by first | omega | decide) ?_
      | refine Cell.ro rfl ?_
      | refine SDraw.all (by kernel_rfl) ?_
      | refine Kept.k0 ?_
      | refine Kept.k1 ?_
      | refine Kept.k2 ?_
      | refine Kept.k3 ?_
      | refine Kept.k4 ?_))
theorem c62 {l p : List UInt8} (hK : K (.bool (decide (p.length ≤ l.length) && decide (l.take p.length = p))) H) : SCalls Tryd.prog 62 [.string (strOf l), .string (strOf p)] H K := by
  refine enter62 ?_
  have hl : (strOf l).size = l.length := strOf_size l
  have hp : (strOf p).size = p.length := strOf_size p
  by_cases h : p.length ≤ l.length
  · have hcut : decide ((strOf l).extract 0 p.length = strOf p) = decide (l.take p.length = p) := by
      rw [strOf_cut, strOf_eq]; simp
    rw [decide_eq_true h, Bool.true_and, ← hcut] at hK
    repeat' ((conv => whnf); (first
        | refine Branch.dt (by omega) ?_
        | refine Idx.of p.length (by omega) (by omega) ?_
        | exact Keep.all hK
        | refine New.mk (fun _ => ?_)
        | refine Look.at0 ?_
        | refine Cell.row ?_
        | refine Cell.buf ?_
        | refine Cells.row rfl ?_
        | refine Put.row rfl ?_
        | refine Put.buf rfl ?_
        | refine Look.at1 ?_
        | refine Look.at2 ?_
        | refine Look.at3 ?_
        | refine Look.at4 ?_
        | refine Look.at5 ?_
        | refine Look.at6 ?_
        | refine Look.at7 ?_
        | refine Look.at8 ?_
        | with_reducible refine Val.i64 (by omega) (by omega) ?_
        | with_reducible refine Val.u8 (by omega) (by omega) ?_
        | with_reducible refine Val.u32 (by omega) (by omega) ?_
        | with_reducible refine Val.u64 (by omega) (by omega) ?_
        | with_reducible refine Val.u8m ?_
        | with_reducible refine Val.u32m ?_
        | with_reducible refine Val.u64m ?_
        | with_reducible refine Val.shr8 ?_
        | with_reducible refine Val.shr16 (by decide) ?_
        | with_reducible refine Val.shr24 (by decide) ?_
        | with_reducible refine Val.raw ?_
        | refine Branch.not ?_
        | refine Branch.and ?_
        | refine Branch.or ?_
        | refine Branch.dt (by assumption) ?_
        | refine Branch.df (by assumption) ?_
        | refine Branch.dt rfl ?_
        | refine Branch.dt (by omega) ?_
        | refine Branch.df (by omega) ?_
        | refine Branch.t rfl ?_
        | refine Branch.f rfl ?_
        | refine Branch.t (by assumption) ?_
        | refine Branch.f (by assumption) ?_
        | refine Branch.d (fun _ => ?_) (fun _ => ?_)
        | refine Branch.mk (fun _ => ?_) (fun _ => ?_)
        | refine Need.mk (by first | omega | decide | rfl) ?_
        | refine Idx.nat (by omega) ?_
        | refine Idx.auto (by first | omega | decide) (by first | omega | decide) ?_
        | refine Cell.ro rfl ?_
        | refine SDraw.all (by kernel_rfl) ?_
        | refine Kept.k0 ?_
        | refine Kept.k1 ?_
        | refine Kept.k2 ?_
        | refine Kept.k3 ?_
        | refine Kept.k4 ?_))
  · rw [decide_eq_false h, Bool.false_and] at hK
    repeat' ((conv => whnf); (first
        | refine Branch.df (by omega) ?_
        | exact Keep.all hK
        | refine New.mk (fun _ => ?_)
        | refine Look.at0 ?_
        | refine Cell.row ?_
        | refine Cell.buf ?_
        | refine Cells.row rfl ?_
        | refine Put.row rfl ?_
        | refine Put.buf rfl ?_
        | refine Look.at1 ?_
        | refine Look.at2 ?_
        | refine Look.at3 ?_
        | refine Look.at4 ?_
        | refine Look.at5 ?_
        | refine Look.at6 ?_
        | refine Look.at7 ?_
        | refine Look.at8 ?_
        | with_reducible refine Val.i64 (by omega) (by omega) ?_
        | with_reducible refine Val.u8 (by omega) (by omega) ?_
        | with_reducible refine Val.u32 (by omega) (by omega) ?_
        | with_reducible refine Val.u64 (by omega) (by omega) ?_
        | with_reducible refine Val.u8m ?_
        | with_reducible refine Val.u32m ?_
        | with_reducible refine Val.u64m ?_
        | with_reducible refine Val.shr8 ?_
        | with_reducible refine Val.shr16 (by decide) ?_
        | with_reducible refine Val.shr24 (by decide) ?_
        | with_reducible refine Val.raw ?_
        | refine Branch.not ?_
        | refine Branch.and ?_
        | refine Branch.or ?_
        | refine Branch.dt (by assumption) ?_
        | refine Branch.df (by assumption) ?_
        | refine Branch.dt rfl ?_
        | refine Branch.dt (by omega) ?_
        | refine Branch.df (by omega) ?_
        | refine Branch.t rfl ?_
        | refine Branch.f rfl ?_
        | refine Branch.t (by assumption) ?_
        | refine Branch.f (by assumption) ?_
        | refine Branch.d (fun _ => ?_) (fun _ => ?_)
        | refine Branch.mk (fun _ => ?_) (fun _ => ?_)
        | refine Need.mk (by first | omega | decide | rfl) ?_
        | refine Idx.nat (by omega) ?_
        | refine Idx.auto (by first | omega | decide) (by first | omega | decide) ?_
        | refine Cell.ro rfl ?_
        | refine SDraw.all (by kernel_rfl) ?_
        | refine Kept.k0 ?_
        | refine Kept.k1 ?_
        | refine Kept.k2 ?_
        | refine Kept.k3 ?_
        | refine Kept.k4 ?_))
theorem c44 {l p : List UInt8} (hK : K (.bool (decide (p.length ≤ l.length) && decide (l.take p.length = p))) H) : SCalls Tryd.prog 44 [.string (strOf l), .string (strOf p)] H K := by
  refine enter44 ?_
  repeat' ((conv => whnf); (first
      | refine c62 ?_
      | exact Keep.all hK
      | refine New.mk (fun _ => ?_)
      | refine Look.at0 ?_
      | refine Cell.row ?_
      | refine Cell.buf ?_
      | refine Cells.row rfl ?_
      | refine Put.row rfl ?_
      | refine Put.buf rfl ?_
      | refine Look.at1 ?_
      | refine Look.at2 ?_
      | refine Look.at3 ?_
      | refine Look.at4 ?_
      | refine Look.at5 ?_
      | refine Look.at6 ?_
      | refine Look.at7 ?_
      | refine Look.at8 ?_
      | with_reducible refine Val.i64 (by omega) (by omega) ?_
      | with_reducible refine Val.u8 (by omega) (by omega) ?_
      | with_reducible refine Val.u32 (by omega) (by omega) ?_
      | with_reducible refine Val.u64 (by omega) (by omega) ?_
      | with_reducible refine Val.u8m ?_
      | with_reducible refine Val.u32m ?_
      | with_reducible refine Val.u64m ?_
      | with_reducible refine Val.shr8 ?_
      | with_reducible refine Val.shr16 (by decide) ?_
      | with_reducible refine Val.shr24 (by decide) ?_
      | with_reducible refine Val.raw ?_
      | refine Branch.not ?_
      | refine Branch.and ?_
      | refine Branch.or ?_
      | refine Branch.dt (by assumption) ?_
      | refine Branch.df (by assumption) ?_
      | refine Branch.dt rfl ?_
      | refine Branch.dt (by omega) ?_
      | refine Branch.df (by omega) ?_
      | refine Branch.t rfl ?_
      | refine Branch.f rfl ?_
      | refine Branch.t (by assumption) ?_
      | refine Branch.f (by assumption) ?_
      | refine Branch.d (fun _ => ?_) (fun _ => ?_)
      | refine Branch.mk (fun _ => ?_) (fun _ => ?_)
      | refine Need.mk (by first | omega | decide | rfl) ?_
      | refine Idx.nat (by omega) ?_
      | refine Idx.auto (by first | omega | decide) (by first | omega | decide) ?_
      | refine Cell.ro rfl ?_
      | refine SDraw.all (by kernel_rfl) ?_
      | refine Kept.k0 ?_
      | refine Kept.k1 ?_
      | refine Kept.k2 ?_
      | refine Kept.k3 ?_
      | refine Kept.k4 ?_))
theorem c37z {k : Nat} (hk : k ≤ 64) (hK : K (.string (strOf (List.replicate k 48))) H) : SCalls Tryd.prog 37 [.string ⟨#[48]⟩, .int .i64 (k : Int)] H K := by
  refine enter37 ?_
  rcases (by omega : k = 0 ∨ k = 1 ∨ 2 ≤ k) with rfl | rfl | h2
  · repeat' ((conv => whnf); (first
        | refine Branch.t rfl ?_
        | exact Keep.all hK
        | refine New.mk (fun _ => ?_)
        | refine Look.at0 ?_
        | refine Cell.row ?_
        | refine Cell.buf ?_
        | refine Cells.row rfl ?_
        | refine Put.row rfl ?_
        | refine Put.buf rfl ?_
        | refine Look.at1 ?_
        | refine Look.at2 ?_
        | refine Look.at3 ?_
        | refine Look.at4 ?_
        | refine Look.at5 ?_
        | refine Look.at6 ?_
        | refine Look.at7 ?_
        | refine Look.at8 ?_
        | with_reducible refine Val.i64 (by omega) (by omega) ?_
        | with_reducible refine Val.u8 (by omega) (by omega) ?_
        | with_reducible refine Val.u32 (by omega) (by omega) ?_
        | with_reducible refine Val.u64 (by omega) (by omega) ?_
        | with_reducible refine Val.u8m ?_
        | with_reducible refine Val.u32m ?_
        | with_reducible refine Val.u64m ?_
        | with_reducible refine Val.shr8 ?_
        | with_reducible refine Val.shr16 (by decide) ?_
        | with_reducible refine Val.shr24 (by decide) ?_
        | with_reducible refine Val.raw ?_
        | refine Branch.not ?_
        | refine Branch.and ?_
        | refine Branch.or ?_
        | refine Branch.dt (by assumption) ?_
        | refine Branch.df (by assumption) ?_
        | refine Branch.dt rfl ?_
        | refine Branch.dt (by omega) ?_
        | refine Branch.df (by omega) ?_
        | refine Branch.t rfl ?_
        | refine Branch.f rfl ?_
        | refine Branch.t (by assumption) ?_
        | refine Branch.f (by assumption) ?_
        | refine Branch.d (fun _ => ?_) (fun _ => ?_)
        | refine Branch.mk (fun _ => ?_) (fun _ => ?_)
        | refine Need.mk (by first | omega | decide | rfl) ?_
        | refine Idx.nat (by omega) ?_
        | refine Idx.auto (by first | omega | decide) (by first | omega | decide) ?_
        | refine Cell.ro rfl ?_
        | refine SDraw.all (by kernel_rfl) ?_
        | refine Kept.k0 ?_
        | refine Kept.k1 ?_
        | refine Kept.k2 ?_
        | refine Kept.k3 ?_
        | refine Kept.k4 ?_))
  · repeat' ((conv => whnf); (first
        | refine Branch.t rfl ?_
        | refine Branch.f rfl ?_
        | exact Keep.all hK
        | refine New.mk (fun _ => ?_)
        | refine Look.at0 ?_
        | refine Cell.row ?_
        | refine Cell.buf ?_
        | refine Cells.row rfl ?_
        | refine Put.row rfl ?_
        | refine Put.buf rfl ?_
        | refine Look.at1 ?_
        | refine Look.at2 ?_
        | refine Look.at3 ?_
        | refine Look.at4 ?_
        | refine Look.at5 ?_
        | refine Look.at6 ?_
        | refine Look.at7 ?_
        | refine Look.at8 ?_
        | with_reducible refine Val.i64 (by omega) (by omega) ?_
        | with_reducible refine Val.u8 (by omega) (by omega) ?_
        | with_reducible refine Val.u32 (by omega) (by omega) ?_
        | with_reducible refine Val.u64 (by omega) (by omega) ?_
        | with_reducible refine Val.u8m ?_
        | with_reducible refine Val.u32m ?_
        | with_reducible refine Val.u64m ?_
        | with_reducible refine Val.shr8 ?_
        | with_reducible refine Val.shr16 (by decide) ?_
        | with_reducible refine Val.shr24 (by decide) ?_
        | with_reducible refine Val.raw ?_
        | refine Branch.not ?_
        | refine Branch.and ?_
        | refine Branch.or ?_
        | refine Branch.dt (by assumption) ?_
        | refine Branch.df (by assumption) ?_
        | refine Branch.dt rfl ?_
        | refine Branch.dt (by omega) ?_
        | refine Branch.df (by omega) ?_
        | refine Branch.t rfl ?_
        | refine Branch.f rfl ?_
        | refine Branch.t (by assumption) ?_
        | refine Branch.f (by assumption) ?_
        | refine Branch.d (fun _ => ?_) (fun _ => ?_)
        | refine Branch.mk (fun _ => ?_) (fun _ => ?_)
        | refine Need.mk (by first | omega | decide | rfl) ?_
        | refine Idx.nat (by omega) ?_
        | refine Idx.auto (by first | omega | decide) (by first | omega | decide) ?_
        | refine Cell.ro rfl ?_
        | refine SDraw.all (by kernel_rfl) ?_
        | refine Kept.k0 ?_
        | refine Kept.k1 ?_
        | refine Kept.k2 ?_
        | refine Kept.k3 ?_
        | refine Kept.k4 ?_))
  · have e1 : ∀ (K : Value → Heap → Prop), K (.bool false) H → SCalls Tryd.prog 44 [.string (strOf (List.replicate 128 32)), .string (strOf [48])] H K := fun K hk => c44 hk
    have e2 : ∀ (K : Value → Heap → Prop), K (.bool false) H → SCalls Tryd.prog 44 [.string (strOf (List.replicate 128 45)), .string (strOf [48])] H K := fun K hk => c44 hk
    have e3 : ∀ (K : Value → Heap → Prop), K (.bool true) H → SCalls Tryd.prog 44 [.string (strOf (List.replicate 64 48)), .string (strOf [48])] H K := fun K hk => c44 hk
    have hz : (strOf (List.replicate 64 48)).extract 0 k = strOf (List.replicate k 48) := by
      rw [strOf_cut]
      congr 1
      rw [List.drop_zero, List.take_replicate]; congr 1; omega
    have hfin : ∀ s : ByteArray, s = strOf (List.replicate k 48) → Keep H fun H' => K (.string s) H' := fun s e => by rw [e]; exact Keep.all hK
    repeat' ((conv => whnf); (first
        | refine c43 hk ?_
        | refine e1 _ ?_
        | refine e2 _ ?_
        | refine e3 _ ?_
        | with_reducible refine Val.u64 (by omega) (by omega) ?_
        | refine Branch.df (by omega) ?_
        | refine Branch.dt (by omega) ?_
        | refine Branch.t rfl ?_
        | refine Branch.f rfl ?_
        | refine Idx.of 0 rfl (by decide) ?_
        | refine Idx.of k rfl (by first | decide | (show k < 65; omega)) ?_
        | (refine hfin _ ?_; exact hz)
        | refine New.mk (fun _ => ?_)
        | refine Look.at0 ?_
        | refine Cell.row ?_
        | refine Cell.buf ?_
        | refine Cells.row rfl ?_
        | refine Put.row rfl ?_
        | refine Put.buf rfl ?_
        | refine Look.at1 ?_
        | refine Look.at2 ?_
        | refine Look.at3 ?_
        | refine Look.at4 ?_
        | refine Look.at5 ?_
        | refine Look.at6 ?_
        | refine Look.at7 ?_
        | refine Look.at8 ?_
        | with_reducible refine Val.i64 (by omega) (by omega) ?_
        | with_reducible refine Val.u8 (by omega) (by omega) ?_
        | with_reducible refine Val.u32 (by omega) (by omega) ?_
        | with_reducible refine Val.u64 (by omega) (by omega) ?_
        | with_reducible refine Val.u8m ?_
        | with_reducible refine Val.u32m ?_
        | with_reducible refine Val.u64m ?_
        | with_reducible refine Val.shr8 ?_
        | with_reducible refine Val.shr16 (by decide) ?_
        | with_reducible refine Val.shr24 (by decide) ?_
        | with_reducible refine Val.raw ?_
        | refine Branch.not ?_
        | refine Branch.and ?_
        | refine Branch.or ?_
        | refine Branch.dt (by assumption) ?_
        | refine Branch.df (by assumption) ?_
        | refine Branch.dt rfl ?_
        | refine Branch.dt (by omega) ?_
        | refine Branch.df (by omega) ?_
        | refine Branch.t rfl ?_
        | refine Branch.f rfl ?_
        | refine Branch.t (by assumption) ?_
        | refine Branch.f (by assumption) ?_
        | refine Branch.d (fun _ => ?_) (fun _ => ?_)
        | refine Branch.mk (fun _ => ?_) (fun _ => ?_)
        | refine Need.mk (by first | omega | decide | rfl) ?_
        | refine Idx.nat (by omega) ?_
        | refine Idx.auto (by first | omega | decide) (by first | omega | decide) ?_
        | refine Cell.ro rfl ?_
        | refine SDraw.all (by kernel_rfl) ?_
        | refine Kept.k0 ?_
        | refine Kept.k1 ?_
        | refine Kept.k2 ?_
        | refine Kept.k3 ?_
        | refine Kept.k4 ?_))
theorem c24 {n : Nat} {w : Int} (hD : Db H) (hn : n < 2 ^ 64) (hK : K (.tuple ⟨[.string (strOf (numV n w).1), .int .i64 (numV n w).2]⟩) H) : SCalls Tryd.prog 24 [.int .u64 (n : Int), .int .i64 w] H K := by
  refine enter24 ?_
  unfold numV at hK
  have h24 : (2 : Nat) ^ 64 = 18446744073709551616 := rfl
  by_cases h0 : 0 ≤ w
  · by_cases h64 : w ≤ 64
    · obtain ⟨k, rfl⟩ : ∃ k : Nat, w = (k : Int) := ⟨w.toNat, by omega⟩
      rw [Int.toNat_natCast] at hK
      have hk : k ≤ 64 := by omega
      have hshr : ∀ K : Int → Prop, K ((n / 2 ^ k : Nat) : Int) → Val (shrI .u64 (n : Int) (k : Int)) K := fun K hk2 => Val.to _ (shr_nat (k := .u64) (n := k) hk) hk2
      by_cases hlt : n < 2 ^ k
      · rw [if_pos ⟨h0, h64, hlt⟩] at hK
        have hz : n / 2 ^ k = 0 := Nat.div_eq_of_lt hlt
        rw [hz] at hshr
        rcases (by omega : k = 0 ∨ 1 ≤ k) with rfl | hk1
        · repeat' ((conv => whnf); (first
              | with_reducible refine hshr _ ?_
              | refine Branch.df (by omega) ?_
              | refine Branch.dt (by omega) ?_
              | refine Branch.t rfl ?_
              | refine Branch.f rfl ?_
              | exact Keep.all hK
              | refine New.mk (fun _ => ?_)
              | refine Look.at0 ?_
              | refine Cell.row ?_
              | refine Cell.buf ?_
              | refine Cells.row rfl ?_
              | refine Put.row rfl ?_
              | refine Put.buf rfl ?_
              | refine Look.at1 ?_
              | refine Look.at2 ?_
              | refine Look.at3 ?_
              | refine Look.at4 ?_
              | refine Look.at5 ?_
              | refine Look.at6 ?_
              | refine Look.at7 ?_
              | refine Look.at8 ?_
              | with_reducible refine Val.i64 (by omega) (by omega) ?_
              | with_reducible refine Val.u8 (by omega) (by omega) ?_
              | with_reducible refine Val.u32 (by omega) (by omega) ?_
              | with_reducible refine Val.u64 (by omega) (by omega) ?_
              | with_reducible refine Val.u8m ?_
              | with_reducible refine Val.u32m ?_
              | with_reducible refine Val.u64m ?_
              | with_reducible refine Val.shr8 ?_
              | with_reducible refine Val.shr16 (by decide) ?_
              | with_reducible refine Val.shr24 (by decide) ?_
              | with_reducible refine Val.raw ?_
              | refine Branch.not ?_
              | refine Branch.and ?_
              | refine Branch.or ?_
              | refine Branch.dt (by assumption) ?_
              | refine Branch.df (by assumption) ?_
              | refine Branch.dt rfl ?_
              | refine Branch.dt (by omega) ?_
              | refine Branch.df (by omega) ?_
              | refine Branch.t rfl ?_
              | refine Branch.f rfl ?_
              | refine Branch.t (by assumption) ?_
              | refine Branch.f (by assumption) ?_
              | refine Branch.d (fun _ => ?_) (fun _ => ?_)
              | refine Branch.mk (fun _ => ?_) (fun _ => ?_)
              | refine Need.mk (by first | omega | decide | rfl) ?_
              | refine Idx.nat (by omega) ?_
              | refine Idx.auto (by first | omega | decide) (by first | omega | decide) ?_
              | refine Cell.ro rfl ?_
              | refine SDraw.all (by kernel_rfl) ?_
              | refine Kept.k0 ?_
              | refine Kept.k1 ?_
              | refine Kept.k2 ?_
              | refine Kept.k3 ?_
              | refine Kept.k4 ?_))
        · obtain ⟨hlen, hpad⟩ := pad 64 k n hn hlt hk1
          have hsz : (strOf (binF 64 n)).size = (binF 64 n).length := strOf_size _
          have hcat : ∀ s : ByteArray, s = strOf (numB k n) → Keep H fun H' => K (.tuple ⟨[.string s, .int .i64 0]⟩) H' := fun s e => by rw [e]; exact Keep.all hK
          have h37 := fun (K : Value → Heap → Prop) hk2 => c37z (K := K) (H := H) (k := k - (binF 64 n).length) (by omega) hk2
          have hrs : (strOf (List.replicate (k - (binF 64 n).length) 48)).size = k - (binF 64 n).length := by rw [strOf_size]; simp
          by_cases hk64 : k < 64
          · repeat' ((conv => whnf); (first
                | refine c38 hD hn ?_
                | with_reducible refine h37 _ ?_
                | with_reducible refine hshr _ ?_
                | with_reducible refine Val.to ((k - (binF 64 n).length : Nat) : Int) (by rw [wrap_i64 (by omega) (by omega)]; omega) ?_
                | refine Branch.df (by omega) ?_
                | refine Branch.dt (by omega) ?_
                | refine Branch.t rfl ?_
                | refine Branch.f rfl ?_
                | refine Need.mk (by omega) ?_
                | (refine hcat _ ?_; rw [strOf_app, hpad])
                | refine New.mk (fun _ => ?_)
                | refine Look.at0 ?_
                | refine Cell.row ?_
                | refine Cell.buf ?_
                | refine Cells.row rfl ?_
                | refine Put.row rfl ?_
                | refine Put.buf rfl ?_
                | refine Look.at1 ?_
                | refine Look.at2 ?_
                | refine Look.at3 ?_
                | refine Look.at4 ?_
                | refine Look.at5 ?_
                | refine Look.at6 ?_
                | refine Look.at7 ?_
                | refine Look.at8 ?_
                | with_reducible refine Val.i64 (by omega) (by omega) ?_
                | with_reducible refine Val.u8 (by omega) (by omega) ?_
                | with_reducible refine Val.u32 (by omega) (by omega) ?_
                | with_reducible refine Val.u64 (by omega) (by omega) ?_
                | with_reducible refine Val.u8m ?_
                | with_reducible refine Val.u32m ?_
                | with_reducible refine Val.u64m ?_
                | with_reducible refine Val.shr8 ?_
                | with_reducible refine Val.shr16 (by decide) ?_
                | with_reducible refine Val.shr24 (by decide) ?_
                | with_reducible refine Val.raw ?_
                | refine Branch.not ?_
                | refine Branch.and ?_
                | refine Branch.or ?_
                | refine Branch.dt (by assumption) ?_
                | refine Branch.df (by assumption) ?_
                | refine Branch.dt rfl ?_
                | refine Branch.dt (by omega) ?_
                | refine Branch.df (by omega) ?_
                | refine Branch.t rfl ?_
                | refine Branch.f rfl ?_
                | refine Branch.t (by assumption) ?_
                | refine Branch.f (by assumption) ?_
                | refine Branch.d (fun _ => ?_) (fun _ => ?_)
                | refine Branch.mk (fun _ => ?_) (fun _ => ?_)
                | refine Need.mk (by first | omega | decide | rfl) ?_
                | refine Idx.nat (by omega) ?_
                | refine Idx.auto (by first | omega | decide) (by first | omega | decide) ?_
                | refine Cell.ro rfl ?_
                | refine SDraw.all (by kernel_rfl) ?_
                | refine Kept.k0 ?_
                | refine Kept.k1 ?_
                | refine Kept.k2 ?_
                | refine Kept.k3 ?_
                | refine Kept.k4 ?_))
          · repeat' ((conv => whnf); (first
                | refine c38 hD hn ?_
                | with_reducible refine h37 _ ?_
                | with_reducible refine hshr _ ?_
                | with_reducible refine Val.to ((k - (binF 64 n).length : Nat) : Int) (by rw [wrap_i64 (by omega) (by omega)]; omega) ?_
                | refine Branch.df (by omega) ?_
                | refine Branch.dt (by omega) ?_
                | refine Branch.t rfl ?_
                | refine Branch.f rfl ?_
                | refine Need.mk (by omega) ?_
                | (refine hcat _ ?_; rw [strOf_app, hpad])
                | refine New.mk (fun _ => ?_)
                | refine Look.at0 ?_
                | refine Cell.row ?_
                | refine Cell.buf ?_
                | refine Cells.row rfl ?_
                | refine Put.row rfl ?_
                | refine Put.buf rfl ?_
                | refine Look.at1 ?_
                | refine Look.at2 ?_
                | refine Look.at3 ?_
                | refine Look.at4 ?_
                | refine Look.at5 ?_
                | refine Look.at6 ?_
                | refine Look.at7 ?_
                | refine Look.at8 ?_
                | with_reducible refine Val.i64 (by omega) (by omega) ?_
                | with_reducible refine Val.u8 (by omega) (by omega) ?_
                | with_reducible refine Val.u32 (by omega) (by omega) ?_
                | with_reducible refine Val.u64 (by omega) (by omega) ?_
                | with_reducible refine Val.u8m ?_
                | with_reducible refine Val.u32m ?_
                | with_reducible refine Val.u64m ?_
                | with_reducible refine Val.shr8 ?_
                | with_reducible refine Val.shr16 (by decide) ?_
                | with_reducible refine Val.shr24 (by decide) ?_
                | with_reducible refine Val.raw ?_
                | refine Branch.not ?_
                | refine Branch.and ?_
                | refine Branch.or ?_
                | refine Branch.dt (by assumption) ?_
                | refine Branch.df (by assumption) ?_
                | refine Branch.dt rfl ?_
                | refine Branch.dt (by omega) ?_
                | refine Branch.df (by omega) ?_
                | refine Branch.t rfl ?_
                | refine Branch.f rfl ?_
                | refine Branch.t (by assumption) ?_
                | refine Branch.f (by assumption) ?_
                | refine Branch.d (fun _ => ?_) (fun _ => ?_)
                | refine Branch.mk (fun _ => ?_) (fun _ => ?_)
                | refine Need.mk (by first | omega | decide | rfl) ?_
                | refine Idx.nat (by omega) ?_
                | refine Idx.auto (by first | omega | decide) (by first | omega | decide) ?_
                | refine Cell.ro rfl ?_
                | refine SDraw.all (by kernel_rfl) ?_
                | refine Kept.k0 ?_
                | refine Kept.k1 ?_
                | refine Kept.k2 ?_
                | refine Kept.k3 ?_
                | refine Kept.k4 ?_))
      · rw [if_neg (fun h => hlt h.2.2)] at hK
        have hk64 : k < 64 := by
          rcases Nat.lt_or_ge k 64 with h | h
          · exact h
          · obtain rfl : k = 64 := by omega
            exact absurd hn hlt
        have hz : 0 < n / 2 ^ k := Nat.div_pos (by omega) (Nat.two_pow_pos k)
        repeat' ((conv => whnf); (first
            | with_reducible refine hshr _ ?_
            | refine Branch.df (by omega) ?_
            | refine Branch.dt (by omega) ?_
            | refine Branch.t rfl ?_
            | refine Branch.f rfl ?_
            | exact Keep.all hK
            | refine New.mk (fun _ => ?_)
            | refine Look.at0 ?_
            | refine Cell.row ?_
            | refine Cell.buf ?_
            | refine Cells.row rfl ?_
            | refine Put.row rfl ?_
            | refine Put.buf rfl ?_
            | refine Look.at1 ?_
            | refine Look.at2 ?_
            | refine Look.at3 ?_
            | refine Look.at4 ?_
            | refine Look.at5 ?_
            | refine Look.at6 ?_
            | refine Look.at7 ?_
            | refine Look.at8 ?_
            | with_reducible refine Val.i64 (by omega) (by omega) ?_
            | with_reducible refine Val.u8 (by omega) (by omega) ?_
            | with_reducible refine Val.u32 (by omega) (by omega) ?_
            | with_reducible refine Val.u64 (by omega) (by omega) ?_
            | with_reducible refine Val.u8m ?_
            | with_reducible refine Val.u32m ?_
            | with_reducible refine Val.u64m ?_
            | with_reducible refine Val.shr8 ?_
            | with_reducible refine Val.shr16 (by decide) ?_
            | with_reducible refine Val.shr24 (by decide) ?_
            | with_reducible refine Val.raw ?_
            | refine Branch.not ?_
            | refine Branch.and ?_
            | refine Branch.or ?_
            | refine Branch.dt (by assumption) ?_
            | refine Branch.df (by assumption) ?_
            | refine Branch.dt rfl ?_
            | refine Branch.dt (by omega) ?_
            | refine Branch.df (by omega) ?_
            | refine Branch.t rfl ?_
            | refine Branch.f rfl ?_
            | refine Branch.t (by assumption) ?_
            | refine Branch.f (by assumption) ?_
            | refine Branch.d (fun _ => ?_) (fun _ => ?_)
            | refine Branch.mk (fun _ => ?_) (fun _ => ?_)
            | refine Need.mk (by first | omega | decide | rfl) ?_
            | refine Idx.nat (by omega) ?_
            | refine Idx.auto (by first | omega | decide) (by first | omega | decide) ?_
            | refine Cell.ro rfl ?_
            | refine SDraw.all (by kernel_rfl) ?_
            | refine Kept.k0 ?_
            | refine Kept.k1 ?_
            | refine Kept.k2 ?_
            | refine Kept.k3 ?_
            | refine Kept.k4 ?_))
    · rw [if_neg (fun h => h64 h.2.1)] at hK
      repeat' ((conv => whnf); (first
          | refine Branch.df (by omega) ?_
          | refine Branch.dt (by omega) ?_
          | refine Branch.t rfl ?_
          | exact Keep.all hK
          | refine New.mk (fun _ => ?_)
          | refine Look.at0 ?_
          | refine Cell.row ?_
          | refine Cell.buf ?_
          | refine Cells.row rfl ?_
          | refine Put.row rfl ?_
          | refine Put.buf rfl ?_
          | refine Look.at1 ?_
          | refine Look.at2 ?_
          | refine Look.at3 ?_
          | refine Look.at4 ?_
          | refine Look.at5 ?_
          | refine Look.at6 ?_
          | refine Look.at7 ?_
          | refine Look.at8 ?_
          | with_reducible refine Val.i64 (by omega) (by omega) ?_
          | with_reducible refine Val.u8 (by omega) (by omega) ?_
          | with_reducible refine Val.u32 (by omega) (by omega) ?_
          | with_reducible refine Val.u64 (by omega) (by omega) ?_
          | with_reducible refine Val.u8m ?_
          | with_reducible refine Val.u32m ?_
          | with_reducible refine Val.u64m ?_
          | with_reducible refine Val.shr8 ?_
          | with_reducible refine Val.shr16 (by decide) ?_
          | with_reducible refine Val.shr24 (by decide) ?_
          | with_reducible refine Val.raw ?_
          | refine Branch.not ?_
          | refine Branch.and ?_
          | refine Branch.or ?_
          | refine Branch.dt (by assumption) ?_
          | refine Branch.df (by assumption) ?_
          | refine Branch.dt rfl ?_
          | refine Branch.dt (by omega) ?_
          | refine Branch.df (by omega) ?_
          | refine Branch.t rfl ?_
          | refine Branch.f rfl ?_
          | refine Branch.t (by assumption) ?_
          | refine Branch.f (by assumption) ?_
          | refine Branch.d (fun _ => ?_) (fun _ => ?_)
          | refine Branch.mk (fun _ => ?_) (fun _ => ?_)
          | refine Need.mk (by first | omega | decide | rfl) ?_
          | refine Idx.nat (by omega) ?_
          | refine Idx.auto (by first | omega | decide) (by first | omega | decide) ?_
          | refine Cell.ro rfl ?_
          | refine SDraw.all (by kernel_rfl) ?_
          | refine Kept.k0 ?_
          | refine Kept.k1 ?_
          | refine Kept.k2 ?_
          | refine Kept.k3 ?_
          | refine Kept.k4 ?_))
  · rw [if_neg (fun h => h0 h.1)] at hK
    repeat' ((conv => whnf); (first
        | refine Branch.dt (by omega) ?_
        | refine Branch.t rfl ?_
        | exact Keep.all hK
        | refine New.mk (fun _ => ?_)
        | refine Look.at0 ?_
        | refine Cell.row ?_
        | refine Cell.buf ?_
        | refine Cells.row rfl ?_
        | refine Put.row rfl ?_
        | refine Put.buf rfl ?_
        | refine Look.at1 ?_
        | refine Look.at2 ?_
        | refine Look.at3 ?_
        | refine Look.at4 ?_
        | refine Look.at5 ?_
        | refine Look.at6 ?_
        | refine Look.at7 ?_
        | refine Look.at8 ?_
        | with_reducible refine Val.i64 (by omega) (by omega) ?_
        | with_reducible refine Val.u8 (by omega) (by omega) ?_
        | with_reducible refine Val.u32 (by omega) (by omega) ?_
        | with_reducible refine Val.u64 (by omega) (by omega) ?_
        | with_reducible refine Val.u8m ?_
        | with_reducible refine Val.u32m ?_
        | with_reducible refine Val.u64m ?_
        | with_reducible refine Val.shr8 ?_
        | with_reducible refine Val.shr16 (by decide) ?_
        | with_reducible refine Val.shr24 (by decide) ?_
        | with_reducible refine Val.raw ?_
        | refine Branch.not ?_
        | refine Branch.and ?_
        | refine Branch.or ?_
        | refine Branch.dt (by assumption) ?_
        | refine Branch.df (by assumption) ?_
        | refine Branch.dt rfl ?_
        | refine Branch.dt (by omega) ?_
        | refine Branch.df (by omega) ?_
        | refine Branch.t rfl ?_
        | refine Branch.f rfl ?_
        | refine Branch.t (by assumption) ?_
        | refine Branch.f (by assumption) ?_
        | refine Branch.d (fun _ => ?_) (fun _ => ?_)
        | refine Branch.mk (fun _ => ?_) (fun _ => ?_)
        | refine Need.mk (by first | omega | decide | rfl) ?_
        | refine Idx.nat (by omega) ?_
        | refine Idx.auto (by first | omega | decide) (by first | omega | decide) ?_
        | refine Cell.ro rfl ?_
        | refine SDraw.all (by kernel_rfl) ?_
        | refine Kept.k0 ?_
        | refine Kept.k1 ?_
        | refine Kept.k2 ?_
        | refine Kept.k3 ?_
        | refine Kept.k4 ?_))
abbrev digB (p k m : Nat) (ds : List UInt8) : Nat × Blk := (p, .buf 5 (List.replicate m zv ++ cel ds) k)
theorem digb_put {k n : Nat} {ds : List UInt8} (b : UInt8) : PutOk (.buf 5 (List.replicate (n + 1) zv ++ cel ds) k) (0 + n * 1) [.int .u8 (b.toNat : Int)] (.buf 5 (List.replicate n zv ++ cel (b :: ds)) k) := by
  obtain ⟨h1, _, h3⟩ := dig_put (n := n) (ds := ds) b
  injection h3 with _ h3 _
  exact PutOk.buf h1 h3.symm
theorem c25 {n : Nat} {w : Int} (hn : n < 2 ^ 64) (hK : K (.tuple ⟨[.string (strOf (numV n w).1), .int .i64 (numV n w).2]⟩) H) : SCalls Tryd.prog 25 [.int .u64 (n : Int), .int .i64 w] H K := by
  refine enter25 ?_
  unfold numV at hK
  by_cases h0 : 0 ≤ w
  · by_cases h64 : w ≤ 64
    · obtain ⟨k, rfl⟩ : ∃ k : Nat, w = (k : Int) := ⟨w.toNat, by omega⟩
      rw [Int.toNat_natCast] at hK
      have hk : k ≤ 64 := by omega
      repeat' ((conv => whnf); (first
          | refine Branch.df (by omega) ?_
          | refine Branch.f rfl ?_
          | refine RawV.make1 (e := 5) (bytes := 1) (zv := zv) rfl (by kernel_rfl) (by kernel_rfl) rfl (by omega) (by simp only [maxLen]; omega) (fun p => ?_)
          | refine New.mk (fun _ => ?_)
          | refine Look.at0 ?_
          | refine Cell.row ?_
          | refine Cell.buf ?_
          | refine Cells.row rfl ?_
          | refine Put.row rfl ?_
          | refine Put.buf rfl ?_
          | refine Look.at1 ?_
          | refine Look.at2 ?_
          | refine Look.at3 ?_
          | refine Look.at4 ?_
          | refine Look.at5 ?_
          | refine Look.at6 ?_
          | refine Look.at7 ?_
          | refine Look.at8 ?_
          | with_reducible refine Val.i64 (by omega) (by omega) ?_
          | with_reducible refine Val.u8 (by omega) (by omega) ?_
          | with_reducible refine Val.u32 (by omega) (by omega) ?_
          | with_reducible refine Val.u64 (by omega) (by omega) ?_
          | with_reducible refine Val.u8m ?_
          | with_reducible refine Val.u32m ?_
          | with_reducible refine Val.u64m ?_
          | with_reducible refine Val.shr8 ?_
          | with_reducible refine Val.shr16 (by decide) ?_
          | with_reducible refine Val.shr24 (by decide) ?_
          | with_reducible refine Val.raw ?_
          | refine Branch.not ?_
          | refine Branch.and ?_
          | refine Branch.or ?_
          | refine Branch.dt (by assumption) ?_
          | refine Branch.df (by assumption) ?_
          | refine Branch.dt rfl ?_
          | refine Branch.dt (by omega) ?_
          | refine Branch.df (by omega) ?_
          | refine Branch.t rfl ?_
          | refine Branch.f rfl ?_
          | refine Branch.t (by assumption) ?_
          | refine Branch.f (by assumption) ?_
          | refine Branch.d (fun _ => ?_) (fun _ => ?_)
          | refine Branch.mk (fun _ => ?_) (fun _ => ?_)
          | refine Need.mk (by first | omega | decide | rfl) ?_
          | refine Idx.nat (by omega) ?_
          | refine Idx.auto (by first | omega | decide) (by first | omega | decide) ?_
          | refine Cell.ro rfl ?_
          | refine SDraw.all (by kernel_rfl) ?_
          | refine Kept.k0 ?_
          | refine Kept.k1 ?_
          | refine Kept.k2 ?_
          | refine Kept.k3 ?_
          | refine Kept.k4 ?_))
      refine SLoop.invA (fun (x : Nat × Nat × List UInt8) S H' => x.2.2.length + x.1 = k ∧ x.2.1 < 2 ^ 64 ∧ numB k n = numB x.1 x.2.1 ++ x.2.2 ∧ x.2.1 = n / 2 ^ (k - x.1) ∧ S25 (.int .u64 (x.2.1 : Int)) (.slice (some ⟨p, 0, none⟩) k k) (.int .i64 ((x.1 : Int) - 1)) S ∧ H' = digB p k x.1 x.2.2 :: H) (fun x => x.1) (k, n, []) (Keep.all ⟨Nat.zero_add _, hn, (List.append_nil _).symm, by simp, .mk, by simp [digB, cel]⟩) ?_
      rintro ⟨m, c, ds⟩ S H' ⟨h1, h2, h3, h4, hS, rfl⟩ R hR
      dsimp only at h1 h2 h3 h4 hS hR ⊢
      cases hS
      rcases m with _ | m
      · have h3' : numB k n = ds := h3
        rw [Nat.sub_zero] at h4
        have hstr : ∀ (o : Oper) (xx : Operand) (K2 : Value → Heap → Prop), o.op = .convert 27 9 xx → K2 (.string (strOf ds)) (digB p k 0 ds :: H) → RawV Tryd.prog o [.slice (some ⟨p, 0, none⟩) k k] (digB p k 0 ds :: H) K2 := fun o xx K2 ho hk2 =>
          RawV.toStr (e := 5) (l := ds) ho (by kernel_rfl) (by kernel_rfl) (by kernel_rfl) (.head _) (by omega) (fun j x hj => by
            show (List.replicate 0 zv ++ cel ds)[0 + j]? = _
            rw [Nat.zero_add]; exact cel_at hj) hk2
        by_cases hlt : n < 2 ^ k
        · rw [if_pos ⟨h0, h64, hlt⟩, h3'] at hK
          obtain rfl : c = 0 := by rw [h4]; exact Nat.div_eq_of_lt hlt
          clear hR
          repeat' ((conv => whnf); (first
              | refine Branch.df (by omega) ?_
              | refine Branch.f rfl ?_
              | refine hstr _ _ _ rfl ?_
              | exact Keep.d1 hK
              | refine New.mk (fun _ => ?_)
              | refine Look.at0 ?_
              | refine Cell.row ?_
              | refine Cell.buf ?_
              | refine Cells.row rfl ?_
              | refine Put.row rfl ?_
              | refine Put.buf rfl ?_
              | refine Look.at1 ?_
              | refine Look.at2 ?_
              | refine Look.at3 ?_
              | refine Look.at4 ?_
              | refine Look.at5 ?_
              | refine Look.at6 ?_
              | refine Look.at7 ?_
              | refine Look.at8 ?_
              | with_reducible refine Val.i64 (by omega) (by omega) ?_
              | with_reducible refine Val.u8 (by omega) (by omega) ?_
              | with_reducible refine Val.u32 (by omega) (by omega) ?_
              | with_reducible refine Val.u64 (by omega) (by omega) ?_
              | with_reducible refine Val.u8m ?_
              | with_reducible refine Val.u32m ?_
              | with_reducible refine Val.u64m ?_
              | with_reducible refine Val.shr8 ?_
              | with_reducible refine Val.shr16 (by decide) ?_
              | with_reducible refine Val.shr24 (by decide) ?_
              | with_reducible refine Val.raw ?_
              | refine Branch.not ?_
              | refine Branch.and ?_
              | refine Branch.or ?_
              | refine Branch.dt (by assumption) ?_
              | refine Branch.df (by assumption) ?_
              | refine Branch.dt rfl ?_
              | refine Branch.dt (by omega) ?_
              | refine Branch.df (by omega) ?_
              | refine Branch.t rfl ?_
              | refine Branch.f rfl ?_
              | refine Branch.t (by assumption) ?_
              | refine Branch.f (by assumption) ?_
              | refine Branch.d (fun _ => ?_) (fun _ => ?_)
              | refine Branch.mk (fun _ => ?_) (fun _ => ?_)
              | refine Need.mk (by first | omega | decide | rfl) ?_
              | refine Idx.nat (by omega) ?_
              | refine Idx.auto (by first | omega | decide) (by first | omega | decide) ?_
              | refine Cell.ro rfl ?_
              | refine SDraw.all (by kernel_rfl) ?_
              | refine Kept.k0 ?_
              | refine Kept.k1 ?_
              | refine Kept.k2 ?_
              | refine Kept.k3 ?_
              | refine Kept.k4 ?_))
        · rw [if_neg (fun h => hlt h.2.2)] at hK
          have hz : 0 < c := by rw [h4]; exact Nat.div_pos (by omega) (Nat.two_pow_pos k)
          have hz' : ¬ (c : Int) = 0 := by omega
          clear hR
          repeat' ((conv => whnf); (first
              | refine Branch.df (by omega) ?_
              | refine Branch.t (by first | (simp [hz']; done) | omega) ?_
              | exact Keep.d1 hK
              | refine New.mk (fun _ => ?_)
              | refine Look.at0 ?_
              | refine Cell.row ?_
              | refine Cell.buf ?_
              | refine Cells.row rfl ?_
              | refine Put.row rfl ?_
              | refine Put.buf rfl ?_
              | refine Look.at1 ?_
              | refine Look.at2 ?_
              | refine Look.at3 ?_
              | refine Look.at4 ?_
              | refine Look.at5 ?_
              | refine Look.at6 ?_
              | refine Look.at7 ?_
              | refine Look.at8 ?_
              | with_reducible refine Val.i64 (by omega) (by omega) ?_
              | with_reducible refine Val.u8 (by omega) (by omega) ?_
              | with_reducible refine Val.u32 (by omega) (by omega) ?_
              | with_reducible refine Val.u64 (by omega) (by omega) ?_
              | with_reducible refine Val.u8m ?_
              | with_reducible refine Val.u32m ?_
              | with_reducible refine Val.u64m ?_
              | with_reducible refine Val.shr8 ?_
              | with_reducible refine Val.shr16 (by decide) ?_
              | with_reducible refine Val.shr24 (by decide) ?_
              | with_reducible refine Val.raw ?_
              | refine Branch.not ?_
              | refine Branch.and ?_
              | refine Branch.or ?_
              | refine Branch.dt (by assumption) ?_
              | refine Branch.df (by assumption) ?_
              | refine Branch.dt rfl ?_
              | refine Branch.dt (by omega) ?_
              | refine Branch.df (by omega) ?_
              | refine Branch.t rfl ?_
              | refine Branch.f rfl ?_
              | refine Branch.t (by assumption) ?_
              | refine Branch.f (by assumption) ?_
              | refine Branch.d (fun _ => ?_) (fun _ => ?_)
              | refine Branch.mk (fun _ => ?_) (fun _ => ?_)
              | refine Need.mk (by first | omega | decide | rfl) ?_
              | refine Idx.nat (by omega) ?_
              | refine Idx.auto (by first | omega | decide) (by first | omega | decide) ?_
              | refine Cell.ro rfl ?_
              | refine SDraw.all (by kernel_rfl) ?_
              | refine Kept.k0 ?_
              | refine Kept.k1 ?_
              | refine Kept.k2 ?_
              | refine Kept.k3 ?_
              | refine Kept.k4 ?_))
      · have h3' : numB k n = numB m (c / 2) ++ (bitB (c % 2) :: ds) := by rw [h3]; show (numB m (c / 2) ++ [bitB (c % 2)]) ++ ds = _; simp
        have hput := digb_put (k := k) (n := m) (ds := ds) (bitB (c % 2))
        have hbn := bitB_n (Nat.mod_lt c (by decide : 0 < 2))
        have h4' : c / 2 = n / 2 ^ (k - m) := by
          rw [h4, Nat.div_div_eq_div_mul, ← Nat.pow_succ]
          congr 2; omega
        have hnext : ∀ S, S25 (.int .u64 ((c / 2 : Nat) : Int)) (.slice (some ⟨p, 0, none⟩) k k) (.int .i64 ((m : Int) - 1)) S → R S (digB p k m (bitB (c % 2) :: ds) :: H) := fun S hS => hR (m, c / 2, bitB (c % 2) :: ds) _ _ (by show m < m + 1; omega) (Keep.all ⟨by show (ds.length + 1) + m = k; omega, by show c / 2 < 2 ^ 64; omega, h3', h4', hS, rfl⟩)
        have hshr : ∀ K : Int → Prop, K ((c / 2 : Nat) : Int) → Val (shrI .u64 (c : Int) 1) K := fun K hk => Val.to _ (shr_nat (k := .u64) (n := 1) (by decide)) hk
        have hand : bitAnd .u64 (c : Int) 1 = ((c % 2 : Nat) : Int) := bitMask_nat (k := .u64) rfl (a := c) (n := 1) h2 (by decide)
        have hm1 : (((m + 1 : Nat) : Int) - 1) = (m : Int) := by omega
        clear hR hK
        rw [hbn] at hput
        repeat' ((conv => whnf); (first
            | refine Branch.dt (by omega) ?_
            | with_reducible refine Val.to _ hand ?_
            | with_reducible refine Val.u8 (by omega) (by omega) ?_
            | refine Idx.of m (by omega) (by omega) ?_
            | refine ⟨[], _, H, rfl, _, hput, appK_to ?_⟩
            | with_reducible refine hshr _ ?_
            | with_reducible refine Val.to ((m : Int) - 1) (by rw [wrap_i64 (by omega) (by omega)]; omega) ?_
            | exact hnext _ .mk
            | refine New.mk (fun _ => ?_)
            | refine Look.at0 ?_
            | refine Cell.row ?_
            | refine Cell.buf ?_
            | refine Cells.row rfl ?_
            | refine Put.row rfl ?_
            | refine Put.buf rfl ?_
            | refine Look.at1 ?_
            | refine Look.at2 ?_
            | refine Look.at3 ?_
            | refine Look.at4 ?_
            | refine Look.at5 ?_
            | refine Look.at6 ?_
            | refine Look.at7 ?_
            | refine Look.at8 ?_
            | with_reducible refine Val.i64 (by omega) (by omega) ?_
            | with_reducible refine Val.u8 (by omega) (by omega) ?_
            | with_reducible refine Val.u32 (by omega) (by omega) ?_
            | with_reducible refine Val.u64 (by omega) (by omega) ?_
            | with_reducible refine Val.u8m ?_
            | with_reducible refine Val.u32m ?_
            | with_reducible refine Val.u64m ?_
            | with_reducible refine Val.shr8 ?_
            | with_reducible refine Val.shr16 (by decide) ?_
            | with_reducible refine Val.shr24 (by decide) ?_
            | with_reducible refine Val.raw ?_
            | refine Branch.not ?_
            | refine Branch.and ?_
            | refine Branch.or ?_
            | refine Branch.dt (by assumption) ?_
            | refine Branch.df (by assumption) ?_
            | refine Branch.dt rfl ?_
            | refine Branch.dt (by omega) ?_
            | refine Branch.df (by omega) ?_
            | refine Branch.t rfl ?_
            | refine Branch.f rfl ?_
            | refine Branch.t (by assumption) ?_
            | refine Branch.f (by assumption) ?_
            | refine Branch.d (fun _ => ?_) (fun _ => ?_)
            | refine Branch.mk (fun _ => ?_) (fun _ => ?_)
            | refine Need.mk (by first | omega | decide | rfl) ?_
            | refine Idx.nat (by omega) ?_
            | refine Idx.auto (by first | omega | decide) (by first | omega | decide) ?_
            | refine Cell.ro rfl ?_
            | refine SDraw.all (by kernel_rfl) ?_
            | refine Kept.k0 ?_
            | refine Kept.k1 ?_
            | refine Kept.k2 ?_
            | refine Kept.k3 ?_
            | refine Kept.k4 ?_))
    · rw [if_neg (fun h => h64 h.2.1)] at hK
      repeat' ((conv => whnf); (first
          | refine Branch.df (by omega) ?_
          | refine Branch.dt (by omega) ?_
          | refine Branch.t rfl ?_
          | exact Keep.all hK
          | refine New.mk (fun _ => ?_)
          | refine Look.at0 ?_
          | refine Cell.row ?_
          | refine Cell.buf ?_
          | refine Cells.row rfl ?_
          | refine Put.row rfl ?_
          | refine Put.buf rfl ?_
          | refine Look.at1 ?_
          | refine Look.at2 ?_
          | refine Look.at3 ?_
          | refine Look.at4 ?_
          | refine Look.at5 ?_
          | refine Look.at6 ?_
          | refine Look.at7 ?_
          | refine Look.at8 ?_
          | with_reducible refine Val.i64 (by omega) (by omega) ?_
          | with_reducible refine Val.u8 (by omega) (by omega) ?_
          | with_reducible refine Val.u32 (by omega) (by omega) ?_
          | with_reducible refine Val.u64 (by omega) (by omega) ?_
          | with_reducible refine Val.u8m ?_
          | with_reducible refine Val.u32m ?_
          | with_reducible refine Val.u64m ?_
          | with_reducible refine Val.shr8 ?_
          | with_reducible refine Val.shr16 (by decide) ?_
          | with_reducible refine Val.shr24 (by decide) ?_
          | with_reducible refine Val.raw ?_
          | refine Branch.not ?_
          | refine Branch.and ?_
          | refine Branch.or ?_
          | refine Branch.dt (by assumption) ?_
          | refine Branch.df (by assumption) ?_
          | refine Branch.dt rfl ?_
          | refine Branch.dt (by omega) ?_
          | refine Branch.df (by omega) ?_
          | refine Branch.t rfl ?_
          | refine Branch.f rfl ?_
          | refine Branch.t (by assumption) ?_
          | refine Branch.f (by assumption) ?_
          | refine Branch.d (fun _ => ?_) (fun _ => ?_)
          | refine Branch.mk (fun _ => ?_) (fun _ => ?_)
          | refine Need.mk (by first | omega | decide | rfl) ?_
          | refine Idx.nat (by omega) ?_
          | refine Idx.auto (by first | omega | decide) (by first | omega | decide) ?_
          | refine Cell.ro rfl ?_
          | refine SDraw.all (by kernel_rfl) ?_
          | refine Kept.k0 ?_
          | refine Kept.k1 ?_
          | refine Kept.k2 ?_
          | refine Kept.k3 ?_
          | refine Kept.k4 ?_))
  · rw [if_neg (fun h => h0 h.1)] at hK
    repeat' ((conv => whnf); (first
        | refine Branch.dt (by omega) ?_
        | refine Branch.t rfl ?_
        | exact Keep.all hK
        | refine New.mk (fun _ => ?_)
        | refine Look.at0 ?_
        | refine Cell.row ?_
        | refine Cell.buf ?_
        | refine Cells.row rfl ?_
        | refine Put.row rfl ?_
        | refine Put.buf rfl ?_
        | refine Look.at1 ?_
        | refine Look.at2 ?_
        | refine Look.at3 ?_
        | refine Look.at4 ?_
        | refine Look.at5 ?_
        | refine Look.at6 ?_
        | refine Look.at7 ?_
        | refine Look.at8 ?_
        | with_reducible refine Val.i64 (by omega) (by omega) ?_
        | with_reducible refine Val.u8 (by omega) (by omega) ?_
        | with_reducible refine Val.u32 (by omega) (by omega) ?_
        | with_reducible refine Val.u64 (by omega) (by omega) ?_
        | with_reducible refine Val.u8m ?_
        | with_reducible refine Val.u32m ?_
        | with_reducible refine Val.u64m ?_
        | with_reducible refine Val.shr8 ?_
        | with_reducible refine Val.shr16 (by decide) ?_
        | with_reducible refine Val.shr24 (by decide) ?_
        | with_reducible refine Val.raw ?_
        | refine Branch.not ?_
        | refine Branch.and ?_
        | refine Branch.or ?_
        | refine Branch.dt (by assumption) ?_
        | refine Branch.df (by assumption) ?_
        | refine Branch.dt rfl ?_
        | refine Branch.dt (by omega) ?_
        | refine Branch.df (by omega) ?_
        | refine Branch.t rfl ?_
        | refine Branch.f rfl ?_
        | refine Branch.t (by assumption) ?_
        | refine Branch.f (by assumption) ?_
        | refine Branch.d (fun _ => ?_) (fun _ => ?_)
        | refine Branch.mk (fun _ => ?_) (fun _ => ?_)
        | refine Need.mk (by first | omega | decide | rfl) ?_
        | refine Idx.nat (by omega) ?_
        | refine Idx.auto (by first | omega | decide) (by first | omega | decide) ?_
        | refine Cell.ro rfl ?_
        | refine SDraw.all (by kernel_rfl) ?_
        | refine Kept.k0 ?_
        | refine Kept.k1 ?_
        | refine Kept.k2 ?_
        | refine Kept.k3 ?_
        | refine Kept.k4 ?_))
end
end Go.Proofs.YtijnjklofdmelaaDoor

/- Layer 1: bits become numbers: by walks; the law of numbers. -/
set_option linter.unusedVariables false
set_option linter.unusedSimpArgs false
set_option maxRecDepth 100000
set_option maxHeartbeats 4000000
namespace Go.Proofs.YtijnjklofdmelaaDoor
open Sx
def val (l : List UInt8) : Nat := l.foldl (fun r b => r * 2 + (if bitOf b then 1 else 0)) 0
theorem val_snoc (l : List UInt8) (b : UInt8) : val (l ++ [b]) = val l * 2 + (if bitOf b then 1 else 0) := by simp [val]
theorem val_lt (l : List UInt8) : val l < 2 ^ l.length := by
  induction l using snoc_ind with
  | h0 => decide
  | h1 l b ih =>
    rw [val_snoc, List.length_append, List.length_singleton, Nat.pow_succ]
    split <;> omega
theorem val_zero (l : List UInt8) : val (48 :: l) = val l := rfl
theorem val_numB : ∀ w n, n < 2 ^ w → val (numB w n) = n
  | 0, n, h => by
    obtain rfl : n = 0 := by simpa using h
    rfl
  | w + 1, n, h => by
    rw [Nat.pow_succ] at h
    show val (numB w (n / 2) ++ [bitB (n % 2)]) = n
    rw [val_snoc, val_numB w (n / 2) (by omega)]
    have : (if bitOf (bitB (n % 2)) then 1 else 0) = n % 2 := by
      rcases (by omega : n % 2 = 0 ∨ n % 2 = 1) with h | h <;> rw [h] <;> rfl
    rw [this]; omega
def valV (l : List UInt8) : Nat × Int := if chk l = 0 then (if 64 < l.length then (0, 2) else (val l, 0)) else (0, chk l)
/-- A row of bytes that a text was turned into. -/
abbrev txtR (r : Nat) (l : List UInt8) (z : List Value) (cap : Nat) : Nat × Blk := (r, .row 5 (cel l ++ z) (cap, cap + 1))
inductive S49 (A1 A8 A10 A11 A12 A13 A99 A100 A101 : Value) : List Value → Prop
  | mk {r0 r2 r3 r4 r5 r6 r7 r9 r14 r15 r16 r17 r18 r19 r20 r21 r22 r23 r24 r25 r26 r27 r28 r29 r30 r31 r32 r33 r34 r35 r36 r37 r38 r39 r40 r41 r42 r43 r44 r45 r46 r47 r48 r49 r50 r51 r52 r53 r54 r55 r56 r57 r58 r59 r60 r61 r62 r63 r64 r65 r66 r67 r68 r69 r70 r71 r72 r73 r74 r75 r76 r77 r78 r79 r80 r81 r82 r83 r84 r85 r86 r87 r88 r89 r90 r91 r92 r93 r94 r95 r96 r97 r98 r102 r103 r104 r105 r106 r107 r108 r109 r110 r111 r112 r113 r114 r115 r116 r117 r118 r119 r120 r121 r122 r123 r124 r125 r126 r127 r128 r129 r130 r131 r132 r133 r134 r135 r136 r137 r138 r139 r140 r141 r142 r143 r144 r145 r146 r147 r148 r149 r150 r151 r152 r153 r154 r155 r156 r157 r158 r159 r160 r161 r162 r163 r164 r165 r166 r167 r168 r169 r170 r171 : Value} : S49 A1 A8 A10 A11 A12 A13 A99 A100 A101 [r0, A1, r2, r3, r4, r5, r6, r7, A8, r9, A10, A11, A12, A13, r14, r15, r16, r17, r18, r19, r20, r21, r22, r23, r24, r25, r26, r27, r28, r29, r30, r31, r32, r33, r34, r35, r36, r37, r38, r39, r40, r41, r42, r43, r44, r45, r46, r47, r48, r49, r50, r51, r52, r53, r54, r55, r56, r57, r58, r59, r60, r61, r62, r63, r64, r65, r66, r67, r68, r69, r70, r71, r72, r73, r74, r75, r76, r77, r78, r79, r80, r81, r82, r83, r84, r85, r86, r87, r88, r89, r90, r91, r92, r93, r94, r95, r96, r97, r98, A99, A100, A101, r102, r103, r104, r105, r106, r107, r108, r109, r110, r111, r112, r113, r114, r115, r116, r117, r118, r119, r120, r121, r122, r123, r124, r125, r126, r127, r128, r129, r130, r131, r132, r133, r134, r135, r136, r137, r138, r139, r140, r141, r142, r143, r144, r145, r146, r147, r148, r149, r150, r151, r152, r153, r154, r155, r156, r157, r158, r159, r160, r161, r162, r163, r164, r165, r166, r167, r168, r169, r170, r171]
inductive S27 (A0 A4 A5 A6 : Value) : List Value → Prop
  | mk {r1 r2 r3 r7 r8 r9 r10 r11 r12 r13 r14 r15 r16 r17 r18 r19 r20 r21 r22 r23 r24 r25 r26 r27 r28 r29 : Value} : S27 A0 A4 A5 A6 [A0, r1, r2, r3, A4, A5, A6, r7, r8, r9, r10, r11, r12, r13, r14, r15, r16, r17, r18, r19, r20, r21, r22, r23, r24, r25, r26, r27, r28, r29]
section
variable {K : Value → Heap → Prop} {H : Heap}
theorem c49 {l : List UInt8} (hl : l.length ≤ 64) (hB : ∀ b ∈ l, isB b = true) (hK : K (.tuple ⟨[.int .u64 (val l : Int), .nilIface]⟩) H) : SCalls Tryd.prog 49 [.string (strOf (48 :: l)), .int .i64 2, .int .i64 64] H K := by
  refine enter49 ?_
  have hne : ¬ strOf (48 :: l) = (⟨#[]⟩ : ByteArray) := fun e => by have := strOf_inj (e.trans emp); cases this
  have hB' : ∀ b ∈ (48 :: l), isB b = true := fun b hb => by
    rcases List.mem_cons.1 hb with rfl | hb
    · rfl
    · exact hB b hb
  have hvl : val (48 :: l) = val l := val_zero l
  have hll : (48 :: l : List UInt8).length = l.length + 1 := rfl
  have hpre : ∀ j, j < (48 :: l : List UInt8).length → val ((48 :: l).take j) < 9223372036854775808 := fun j hj => by
    rcases j with _ | j
    · show (0 : Nat) < 9223372036854775808; decide
    · rw [List.take_succ_cons, val_zero]
      have h1 := val_lt (l.take j)
      have h2 : (l.take j).length ≤ 63 := by rw [List.length_take]; omega
      have h3 : (2 : Nat) ^ (l.take j).length ≤ 2 ^ 63 := Nat.pow_le_pow_right (by decide) h2
      exact Nat.lt_of_lt_of_le h1 h3
  generalize (48 :: l : List UInt8) = m at hne hB' hvl hll hpre
  rw [← hvl] at hK
  repeat' ((conv => whnf); (first
      | refine Branch.f (by first | (simp only [hne, decide_false]; done) | rfl) ?_
      | refine Branch.t rfl ?_
      | refine Branch.f rfl ?_
      | refine Val.to 9223372036854775807 (by decide) ?_
      | refine Val.to 9223372036854775808 (by decide) ?_
      | refine Val.to 64 (by decide) ?_
      | refine Val.to 0 (by decide) ?_
      | refine Val.to 18446744073709551615 (by decide) ?_
      | refine RawV.toBytes (e := 5) (l := m) rfl (by kernel_rfl) (by kernel_rfl) (by kernel_rfl) (by simp only [maxLen]; omega) (fun r cap z h1 h2 h3 => ?_)
      | refine New.mk (fun _ => ?_)
      | refine Look.at0 ?_
      | refine Cell.row ?_
      | refine Cell.buf ?_
      | refine Cells.row rfl ?_
      | refine Put.row rfl ?_
      | refine Put.buf rfl ?_
      | refine Look.at1 ?_
      | refine Look.at2 ?_
      | refine Look.at3 ?_
      | refine Look.at4 ?_
      | refine Look.at5 ?_
      | refine Look.at6 ?_
      | refine Look.at7 ?_
      | refine Look.at8 ?_
      | with_reducible refine Val.i64 (by omega) (by omega) ?_
      | with_reducible refine Val.u8 (by omega) (by omega) ?_
      | with_reducible refine Val.u32 (by omega) (by omega) ?_
      | with_reducible refine Val.u64 (by omega) (by omega) ?_
      | with_reducible refine Val.u8m ?_
      | with_reducible refine Val.u32m ?_
      | with_reducible refine Val.u64m ?_
      | with_reducible refine Val.shr8 ?_
      | with_reducible refine Val.shr16 (by decide) ?_
      | with_reducible refine Val.shr24 (by decide) ?_
      | with_reducible refine Val.raw ?_
      | refine Branch.not ?_
      | refine Branch.and ?_
      | refine Branch.or ?_
      | refine Branch.dt (by assumption) ?_
      | refine Branch.df (by assumption) ?_
      | refine Branch.dt rfl ?_
      | refine Branch.dt (by omega) ?_
      | refine Branch.df (by omega) ?_
      | refine Branch.t rfl ?_
      | refine Branch.f rfl ?_
      | refine Branch.t (by assumption) ?_
      | refine Branch.f (by assumption) ?_
      | refine Branch.d (fun _ => ?_) (fun _ => ?_)
      | refine Branch.mk (fun _ => ?_) (fun _ => ?_)
      | refine Need.mk (by first | omega | decide | rfl) ?_
      | refine Idx.nat (by omega) ?_
      | refine Idx.auto (by first | omega | decide) (by first | omega | decide) ?_
      | refine Cell.ro rfl ?_
      | refine SDraw.all (by kernel_rfl) ?_
      | refine Kept.k0 ?_
      | refine Kept.k1 ?_
      | refine Kept.k2 ?_
      | refine Kept.k3 ?_
      | refine Kept.k4 ?_))
  refine SLoop.invA (fun (j : Nat) S H' => j ≤ m.length ∧ S49 (.int .i64 2) (.bool false) (.int .u64 9223372036854775808) (.int .u64 18446744073709551615) (.bool false) (.int .u64 (val (m.take j) : Int)) (.slice (some ⟨r, 0, none⟩) m.length cap) (.int .i64 (m.length : Int)) (.int .i64 (j : Int)) S ∧ H' = txtR r m z cap :: H) (fun j => m.length - j) 0 (Keep.all ⟨Nat.zero_le _, .mk, rfl⟩) ?_
  rintro j S H' ⟨hj, hS, rfl⟩ R hR
  cases hS
  by_cases hlt : j < m.length
  · have hx := List.getElem?_eq_getElem hlt
    generalize m[j] = c at hx
    have hcc : (Blk.row 5 (cel m ++ z) (cap, cap + 1)).cell (0 + j * 1) = some (.int .u8 (c.toNat : Int)) := by
      have := cel_at hx
      show (cel m ++ z)[0 + j * 1]? = _
      rw [Nat.zero_add, Nat.mul_one, List.getElem?_append_left (List.getElem?_eq_some_iff.1 this).1, this]
    have htk : m.take (j + 1) = m.take j ++ [c] := by rw [List.take_add_one, hx]; rfl
    have hnext : ∀ S, S49 (.int .i64 2) (.bool false) (.int .u64 9223372036854775808) (.int .u64 18446744073709551615) (.bool false) (.int .u64 ((val (m.take j) * 2 + (if bitOf c then 1 else 0) : Nat) : Int)) (.slice (some ⟨r, 0, none⟩) m.length cap) (.int .i64 (m.length : Int)) (.int .i64 ((j + 1 : Nat) : Int)) S → R S (txtR r m z cap :: H) := fun S hS => hR (j + 1) _ _ (by omega) (Keep.all ⟨hlt, by rw [htk, val_snoc]; exact hS, rfl⟩)
    have hv := hpre j hlt
    have hcB := isB_cases (hB' c (List.mem_of_getElem? hx))
    clear hR hK htk hpre
    generalize val (m.take j) = v at hnext hv
    have hge : ¬ (9223372036854775808 : Int) ≤ (v : Int) := by omega
    have hmul : ∀ K : Int → Prop, K ((v * 2 : Nat) : Int) → Val (IntKind.u64.wrap ((v : Int) * 2)) K := fun K hk => Val.to _ (by rw [wrap_u64]; omega) hk
    rcases hcB with ⟨e1, e2⟩ | ⟨e1, e2⟩ <;> rw [e1] at hcc <;> rw [e2] at hnext
    · have hadd : ∀ K : Int → Prop, K ((v * 2 + 0 : Nat) : Int) → Val (IntKind.u64.wrap (((v * 2 : Nat) : Int) + 0)) K := fun K hk => Val.to _ (by rw [wrap_u64]; omega) hk
      repeat' ((conv => whnf); (first
          | refine Branch.dt (by omega) ?_
          | refine Branch.df hge ?_
          | refine Branch.t rfl ?_
          | refine Branch.f rfl ?_
          | refine Look.cell (.head _) hcc ?_
          | refine Val.to 0 (by decide) ?_
          | refine Val.to 2 (by decide) ?_
          | with_reducible refine hmul _ ?_
          | refine hadd _ ?_
          | refine Branch.df (by omega) ?_
          | exact hnext _ .mk
          | refine New.mk (fun _ => ?_)
          | refine Look.at0 ?_
          | refine Cell.row ?_
          | refine Cell.buf ?_
          | refine Cells.row rfl ?_
          | refine Put.row rfl ?_
          | refine Put.buf rfl ?_
          | refine Look.at1 ?_
          | refine Look.at2 ?_
          | refine Look.at3 ?_
          | refine Look.at4 ?_
          | refine Look.at5 ?_
          | refine Look.at6 ?_
          | refine Look.at7 ?_
          | refine Look.at8 ?_
          | with_reducible refine Val.i64 (by omega) (by omega) ?_
          | with_reducible refine Val.u8 (by omega) (by omega) ?_
          | with_reducible refine Val.u32 (by omega) (by omega) ?_
          | with_reducible refine Val.u64 (by omega) (by omega) ?_
          | with_reducible refine Val.u8m ?_
          | with_reducible refine Val.u32m ?_
          | with_reducible refine Val.u64m ?_
          | with_reducible refine Val.shr8 ?_
          | with_reducible refine Val.shr16 (by decide) ?_
          | with_reducible refine Val.shr24 (by decide) ?_
          | with_reducible refine Val.raw ?_
          | refine Branch.not ?_
          | refine Branch.and ?_
          | refine Branch.or ?_
          | refine Branch.dt (by assumption) ?_
          | refine Branch.df (by assumption) ?_
          | refine Branch.dt rfl ?_
          | refine Branch.dt (by omega) ?_
          | refine Branch.df (by omega) ?_
          | refine Branch.t rfl ?_
          | refine Branch.f rfl ?_
          | refine Branch.t (by assumption) ?_
          | refine Branch.f (by assumption) ?_
          | refine Branch.d (fun _ => ?_) (fun _ => ?_)
          | refine Branch.mk (fun _ => ?_) (fun _ => ?_)
          | refine Need.mk (by first | omega | decide | rfl) ?_
          | refine Idx.nat (by omega) ?_
          | refine Idx.auto (by first | omega | decide) (by first | omega | decide) ?_
          | refine Cell.ro rfl ?_
          | refine SDraw.all (by kernel_rfl) ?_
          | refine Kept.k0 ?_
          | refine Kept.k1 ?_
          | refine Kept.k2 ?_
          | refine Kept.k3 ?_
          | refine Kept.k4 ?_))
    · have hadd : ∀ K : Int → Prop, K ((v * 2 + 1 : Nat) : Int) → Val (IntKind.u64.wrap (((v * 2 : Nat) : Int) + 1)) K := fun K hk => Val.to _ (by rw [wrap_u64]; omega) hk
      repeat' ((conv => whnf); (first
          | refine Branch.dt (by omega) ?_
          | refine Branch.df hge ?_
          | refine Branch.t rfl ?_
          | refine Branch.f rfl ?_
          | refine Look.cell (.head _) hcc ?_
          | refine Val.to 1 (by decide) ?_
          | refine Val.to 2 (by decide) ?_
          | with_reducible refine hmul _ ?_
          | refine hadd _ ?_
          | refine Branch.df (by omega) ?_
          | exact hnext _ .mk
          | refine New.mk (fun _ => ?_)
          | refine Look.at0 ?_
          | refine Cell.row ?_
          | refine Cell.buf ?_
          | refine Cells.row rfl ?_
          | refine Put.row rfl ?_
          | refine Put.buf rfl ?_
          | refine Look.at1 ?_
          | refine Look.at2 ?_
          | refine Look.at3 ?_
          | refine Look.at4 ?_
          | refine Look.at5 ?_
          | refine Look.at6 ?_
          | refine Look.at7 ?_
          | refine Look.at8 ?_
          | with_reducible refine Val.i64 (by omega) (by omega) ?_
          | with_reducible refine Val.u8 (by omega) (by omega) ?_
          | with_reducible refine Val.u32 (by omega) (by omega) ?_
          | with_reducible refine Val.u64 (by omega) (by omega) ?_
          | with_reducible refine Val.u8m ?_
          | with_reducible refine Val.u32m ?_
          | with_reducible refine Val.u64m ?_
          | with_reducible refine Val.shr8 ?_
          | with_reducible refine Val.shr16 (by decide) ?_
          | with_reducible refine Val.shr24 (by decide) ?_
          | with_reducible refine Val.raw ?_
          | refine Branch.not ?_
          | refine Branch.and ?_
          | refine Branch.or ?_
          | refine Branch.dt (by assumption) ?_
          | refine Branch.df (by assumption) ?_
          | refine Branch.dt rfl ?_
          | refine Branch.dt (by omega) ?_
          | refine Branch.df (by omega) ?_
          | refine Branch.t rfl ?_
          | refine Branch.f rfl ?_
          | refine Branch.t (by assumption) ?_
          | refine Branch.f (by assumption) ?_
          | refine Branch.d (fun _ => ?_) (fun _ => ?_)
          | refine Branch.mk (fun _ => ?_) (fun _ => ?_)
          | refine Need.mk (by first | omega | decide | rfl) ?_
          | refine Idx.nat (by omega) ?_
          | refine Idx.auto (by first | omega | decide) (by first | omega | decide) ?_
          | refine Cell.ro rfl ?_
          | refine SDraw.all (by kernel_rfl) ?_
          | refine Kept.k0 ?_
          | refine Kept.k1 ?_
          | refine Kept.k2 ?_
          | refine Kept.k3 ?_
          | refine Kept.k4 ?_))
  · have e : j = m.length := by omega
    subst e
    rw [List.take_length]
    clear hR hpre
    repeat' ((conv => whnf); (first
        | refine Branch.df (by omega) ?_
        | refine Branch.f rfl ?_
        | exact Keep.d1 hK
        | refine New.mk (fun _ => ?_)
        | refine Look.at0 ?_
        | refine Cell.row ?_
        | refine Cell.buf ?_
        | refine Cells.row rfl ?_
        | refine Put.row rfl ?_
        | refine Put.buf rfl ?_
        | refine Look.at1 ?_
        | refine Look.at2 ?_
        | refine Look.at3 ?_
        | refine Look.at4 ?_
        | refine Look.at5 ?_
        | refine Look.at6 ?_
        | refine Look.at7 ?_
        | refine Look.at8 ?_
        | with_reducible refine Val.i64 (by omega) (by omega) ?_
        | with_reducible refine Val.u8 (by omega) (by omega) ?_
        | with_reducible refine Val.u32 (by omega) (by omega) ?_
        | with_reducible refine Val.u64 (by omega) (by omega) ?_
        | with_reducible refine Val.u8m ?_
        | with_reducible refine Val.u32m ?_
        | with_reducible refine Val.u64m ?_
        | with_reducible refine Val.shr8 ?_
        | with_reducible refine Val.shr16 (by decide) ?_
        | with_reducible refine Val.shr24 (by decide) ?_
        | with_reducible refine Val.raw ?_
        | refine Branch.not ?_
        | refine Branch.and ?_
        | refine Branch.or ?_
        | refine Branch.dt (by assumption) ?_
        | refine Branch.df (by assumption) ?_
        | refine Branch.dt rfl ?_
        | refine Branch.dt (by omega) ?_
        | refine Branch.df (by omega) ?_
        | refine Branch.t rfl ?_
        | refine Branch.f rfl ?_
        | refine Branch.t (by assumption) ?_
        | refine Branch.f (by assumption) ?_
        | refine Branch.d (fun _ => ?_) (fun _ => ?_)
        | refine Branch.mk (fun _ => ?_) (fun _ => ?_)
        | refine Need.mk (by first | omega | decide | rfl) ?_
        | refine Idx.nat (by omega) ?_
        | refine Idx.auto (by first | omega | decide) (by first | omega | decide) ?_
        | refine Cell.ro rfl ?_
        | refine SDraw.all (by kernel_rfl) ?_
        | refine Kept.k0 ?_
        | refine Kept.k1 ?_
        | refine Kept.k2 ?_
        | refine Kept.k3 ?_
        | refine Kept.k4 ?_))
theorem c39 {l : List UInt8} (hl : l.length ≤ 64) (hB : ∀ b ∈ l, isB b = true) (hK : K (.tuple ⟨[.int .u64 (val l : Int), .nilIface]⟩) H) : SCalls Tryd.prog 39 [.string (strOf (48 :: l)), .int .i64 2, .int .i64 64] H K := by
  refine enter39 ?_
  repeat' ((conv => whnf); (first
      | refine c49 hl hB ?_
      | refine RawV.neqNil rfl (by kernel_rfl) false (.inl ⟨rfl, rfl⟩) ?_
      | refine Branch.f rfl ?_
      | exact Keep.all hK
      | refine New.mk (fun _ => ?_)
      | refine Look.at0 ?_
      | refine Cell.row ?_
      | refine Cell.buf ?_
      | refine Cells.row rfl ?_
      | refine Put.row rfl ?_
      | refine Put.buf rfl ?_
      | refine Look.at1 ?_
      | refine Look.at2 ?_
      | refine Look.at3 ?_
      | refine Look.at4 ?_
      | refine Look.at5 ?_
      | refine Look.at6 ?_
      | refine Look.at7 ?_
      | refine Look.at8 ?_
      | with_reducible refine Val.i64 (by omega) (by omega) ?_
      | with_reducible refine Val.u8 (by omega) (by omega) ?_
      | with_reducible refine Val.u32 (by omega) (by omega) ?_
      | with_reducible refine Val.u64 (by omega) (by omega) ?_
      | with_reducible refine Val.u8m ?_
      | with_reducible refine Val.u32m ?_
      | with_reducible refine Val.u64m ?_
      | with_reducible refine Val.shr8 ?_
      | with_reducible refine Val.shr16 (by decide) ?_
      | with_reducible refine Val.shr24 (by decide) ?_
      | with_reducible refine Val.raw ?_
      | refine Branch.not ?_
      | refine Branch.and ?_
      | refine Branch.or ?_
      | refine Branch.dt (by assumption) ?_
      | refine Branch.df (by assumption) ?_
      | refine Branch.dt rfl ?_
      | refine Branch.dt (by omega) ?_
      | refine Branch.df (by omega) ?_
      | refine Branch.t rfl ?_
      | refine Branch.f rfl ?_
      | refine Branch.t (by assumption) ?_
      | refine Branch.f (by assumption) ?_
      | refine Branch.d (fun _ => ?_) (fun _ => ?_)
      | refine Branch.mk (fun _ => ?_) (fun _ => ?_)
      | refine Need.mk (by first | omega | decide | rfl) ?_
      | refine Idx.nat (by omega) ?_
      | refine Idx.auto (by first | omega | decide) (by first | omega | decide) ?_
      | refine Cell.ro rfl ?_
      | refine SDraw.all (by kernel_rfl) ?_
      | refine Kept.k0 ?_
      | refine Kept.k1 ?_
      | refine Kept.k2 ?_
      | refine Kept.k3 ?_
      | refine Kept.k4 ?_))
theorem c26 {l : List UInt8} (hK : K (.tuple ⟨[.int .u64 ((valV l).1 : Int), .int .i64 (valV l).2]⟩) H) : SCalls Tryd.prog 26 [.string (strOf l)] H K := by
  refine enter26 ?_
  unfold valV at hK
  have hsz : (strOf l).size = l.length := strOf_size l
  rcases chk_cases l with ⟨h0, hl, hB⟩ | ⟨h0, _⟩
  · rw [if_pos h0] at hK
    have h32 := fun (K : Value → Heap → Prop) (hk : K (.int .i64 0) H) => c32 (l := l) (K := K) (H := H) (by rw [h0]; exact hk)
    by_cases h64 : 64 < l.length
    · rw [if_pos h64] at hK
      repeat' ((conv => whnf); (first
          | with_reducible refine h32 _ ?_
          | refine Branch.f rfl ?_
          | refine Branch.dt (by omega) ?_
          | exact Keep.all hK
          | refine New.mk (fun _ => ?_)
          | refine Look.at0 ?_
          | refine Cell.row ?_
          | refine Cell.buf ?_
          | refine Cells.row rfl ?_
          | refine Put.row rfl ?_
          | refine Put.buf rfl ?_
          | refine Look.at1 ?_
          | refine Look.at2 ?_
          | refine Look.at3 ?_
          | refine Look.at4 ?_
          | refine Look.at5 ?_
          | refine Look.at6 ?_
          | refine Look.at7 ?_
          | refine Look.at8 ?_
          | with_reducible refine Val.i64 (by omega) (by omega) ?_
          | with_reducible refine Val.u8 (by omega) (by omega) ?_
          | with_reducible refine Val.u32 (by omega) (by omega) ?_
          | with_reducible refine Val.u64 (by omega) (by omega) ?_
          | with_reducible refine Val.u8m ?_
          | with_reducible refine Val.u32m ?_
          | with_reducible refine Val.u64m ?_
          | with_reducible refine Val.shr8 ?_
          | with_reducible refine Val.shr16 (by decide) ?_
          | with_reducible refine Val.shr24 (by decide) ?_
          | with_reducible refine Val.raw ?_
          | refine Branch.not ?_
          | refine Branch.and ?_
          | refine Branch.or ?_
          | refine Branch.dt (by assumption) ?_
          | refine Branch.df (by assumption) ?_
          | refine Branch.dt rfl ?_
          | refine Branch.dt (by omega) ?_
          | refine Branch.df (by omega) ?_
          | refine Branch.t rfl ?_
          | refine Branch.f rfl ?_
          | refine Branch.t (by assumption) ?_
          | refine Branch.f (by assumption) ?_
          | refine Branch.d (fun _ => ?_) (fun _ => ?_)
          | refine Branch.mk (fun _ => ?_) (fun _ => ?_)
          | refine Need.mk (by first | omega | decide | rfl) ?_
          | refine Idx.nat (by omega) ?_
          | refine Idx.auto (by first | omega | decide) (by first | omega | decide) ?_
          | refine Cell.ro rfl ?_
          | refine SDraw.all (by kernel_rfl) ?_
          | refine Kept.k0 ?_
          | refine Kept.k1 ?_
          | refine Kept.k2 ?_
          | refine Kept.k3 ?_
          | refine Kept.k4 ?_))
    · rw [if_neg h64] at hK
      have e : (⟨#[48]⟩ : ByteArray) ++ strOf l = strOf (48 :: l) := strOf_app [48] l
      have h39 : ∀ (K : Value → Heap → Prop), K (.tuple ⟨[.int .u64 (val l : Int), .nilIface]⟩) H → SCalls Tryd.prog 39 [.string ((⟨#[48]⟩ : ByteArray) ++ strOf l), .int .i64 2, .int .i64 64] H K := fun K hk => by rw [e]; exact c39 (by omega) hB hk
      have e48 : (⟨#[48]⟩ : ByteArray).size = 1 := rfl
      repeat' ((conv => whnf); (first
          | with_reducible refine h32 _ ?_
          | refine Branch.f rfl ?_
          | refine Branch.df (by omega) ?_
          | refine Need.mk (by omega) ?_
          | with_reducible refine h39 _ ?_
          | exact Keep.all hK
          | refine New.mk (fun _ => ?_)
          | refine Look.at0 ?_
          | refine Cell.row ?_
          | refine Cell.buf ?_
          | refine Cells.row rfl ?_
          | refine Put.row rfl ?_
          | refine Put.buf rfl ?_
          | refine Look.at1 ?_
          | refine Look.at2 ?_
          | refine Look.at3 ?_
          | refine Look.at4 ?_
          | refine Look.at5 ?_
          | refine Look.at6 ?_
          | refine Look.at7 ?_
          | refine Look.at8 ?_
          | with_reducible refine Val.i64 (by omega) (by omega) ?_
          | with_reducible refine Val.u8 (by omega) (by omega) ?_
          | with_reducible refine Val.u32 (by omega) (by omega) ?_
          | with_reducible refine Val.u64 (by omega) (by omega) ?_
          | with_reducible refine Val.u8m ?_
          | with_reducible refine Val.u32m ?_
          | with_reducible refine Val.u64m ?_
          | with_reducible refine Val.shr8 ?_
          | with_reducible refine Val.shr16 (by decide) ?_
          | with_reducible refine Val.shr24 (by decide) ?_
          | with_reducible refine Val.raw ?_
          | refine Branch.not ?_
          | refine Branch.and ?_
          | refine Branch.or ?_
          | refine Branch.dt (by assumption) ?_
          | refine Branch.df (by assumption) ?_
          | refine Branch.dt rfl ?_
          | refine Branch.dt (by omega) ?_
          | refine Branch.df (by omega) ?_
          | refine Branch.t rfl ?_
          | refine Branch.f rfl ?_
          | refine Branch.t (by assumption) ?_
          | refine Branch.f (by assumption) ?_
          | refine Branch.d (fun _ => ?_) (fun _ => ?_)
          | refine Branch.mk (fun _ => ?_) (fun _ => ?_)
          | refine Need.mk (by first | omega | decide | rfl) ?_
          | refine Idx.nat (by omega) ?_
          | refine Idx.auto (by first | omega | decide) (by first | omega | decide) ?_
          | refine Cell.ro rfl ?_
          | refine SDraw.all (by kernel_rfl) ?_
          | refine Kept.k0 ?_
          | refine Kept.k1 ?_
          | refine Kept.k2 ?_
          | refine Kept.k3 ?_
          | refine Kept.k4 ?_))
  · rw [if_neg h0] at hK
    have h32 := fun (K : Value → Heap → Prop) hk => c32 (l := l) (K := K) (H := H) hk
    generalize chk l = v at h0 hK h32
    repeat' ((conv => whnf); (first
        | with_reducible refine h32 _ ?_
        | refine Branch.t (by first | (simp [h0]; done) | omega) ?_
        | exact Keep.all hK
        | refine New.mk (fun _ => ?_)
        | refine Look.at0 ?_
        | refine Cell.row ?_
        | refine Cell.buf ?_
        | refine Cells.row rfl ?_
        | refine Put.row rfl ?_
        | refine Put.buf rfl ?_
        | refine Look.at1 ?_
        | refine Look.at2 ?_
        | refine Look.at3 ?_
        | refine Look.at4 ?_
        | refine Look.at5 ?_
        | refine Look.at6 ?_
        | refine Look.at7 ?_
        | refine Look.at8 ?_
        | with_reducible refine Val.i64 (by omega) (by omega) ?_
        | with_reducible refine Val.u8 (by omega) (by omega) ?_
        | with_reducible refine Val.u32 (by omega) (by omega) ?_
        | with_reducible refine Val.u64 (by omega) (by omega) ?_
        | with_reducible refine Val.u8m ?_
        | with_reducible refine Val.u32m ?_
        | with_reducible refine Val.u64m ?_
        | with_reducible refine Val.shr8 ?_
        | with_reducible refine Val.shr16 (by decide) ?_
        | with_reducible refine Val.shr24 (by decide) ?_
        | with_reducible refine Val.raw ?_
        | refine Branch.not ?_
        | refine Branch.and ?_
        | refine Branch.or ?_
        | refine Branch.dt (by assumption) ?_
        | refine Branch.df (by assumption) ?_
        | refine Branch.dt rfl ?_
        | refine Branch.dt (by omega) ?_
        | refine Branch.df (by omega) ?_
        | refine Branch.t rfl ?_
        | refine Branch.f rfl ?_
        | refine Branch.t (by assumption) ?_
        | refine Branch.f (by assumption) ?_
        | refine Branch.d (fun _ => ?_) (fun _ => ?_)
        | refine Branch.mk (fun _ => ?_) (fun _ => ?_)
        | refine Need.mk (by first | omega | decide | rfl) ?_
        | refine Idx.nat (by omega) ?_
        | refine Idx.auto (by first | omega | decide) (by first | omega | decide) ?_
        | refine Cell.ro rfl ?_
        | refine SDraw.all (by kernel_rfl) ?_
        | refine Kept.k0 ?_
        | refine Kept.k1 ?_
        | refine Kept.k2 ?_
        | refine Kept.k3 ?_
        | refine Kept.k4 ?_))
theorem c27 {l : List UInt8} (hK : K (.tuple ⟨[.int .u64 ((valV l).1 : Int), .int .i64 (valV l).2]⟩) H) : SCalls Tryd.prog 27 [.string (strOf l)] H K := by
  refine enter27 ?_
  unfold valV at hK
  have hsz : (strOf l).size = l.length := strOf_size l
  rcases chk_cases l with ⟨h0, hl, hB⟩ | ⟨h0, _⟩
  · rw [if_pos h0] at hK
    have h29 := fun (K : Value → Heap → Prop) (hk : K (.int .i64 0) H) => c29 (l := l) (K := K) (H := H) (by rw [h0]; exact hk)
    by_cases h64 : 64 < l.length
    · rw [if_pos h64] at hK
      repeat' ((conv => whnf); (first
          | with_reducible refine h29 _ ?_
          | refine Branch.f rfl ?_
          | refine Branch.dt (by omega) ?_
          | exact Keep.all hK
          | refine New.mk (fun _ => ?_)
          | refine Look.at0 ?_
          | refine Cell.row ?_
          | refine Cell.buf ?_
          | refine Cells.row rfl ?_
          | refine Put.row rfl ?_
          | refine Put.buf rfl ?_
          | refine Look.at1 ?_
          | refine Look.at2 ?_
          | refine Look.at3 ?_
          | refine Look.at4 ?_
          | refine Look.at5 ?_
          | refine Look.at6 ?_
          | refine Look.at7 ?_
          | refine Look.at8 ?_
          | with_reducible refine Val.i64 (by omega) (by omega) ?_
          | with_reducible refine Val.u8 (by omega) (by omega) ?_
          | with_reducible refine Val.u32 (by omega) (by omega) ?_
          | with_reducible refine Val.u64 (by omega) (by omega) ?_
          | with_reducible refine Val.u8m ?_
          | with_reducible refine Val.u32m ?_
          | with_reducible refine Val.u64m ?_
          | with_reducible refine Val.shr8 ?_
          | with_reducible refine Val.shr16 (by decide) ?_
          | with_reducible refine Val.shr24 (by decide) ?_
          | with_reducible refine Val.raw ?_
          | refine Branch.not ?_
          | refine Branch.and ?_
          | refine Branch.or ?_
          | refine Branch.dt (by assumption) ?_
          | refine Branch.df (by assumption) ?_
          | refine Branch.dt rfl ?_
          | refine Branch.dt (by omega) ?_
          | refine Branch.df (by omega) ?_
          | refine Branch.t rfl ?_
          | refine Branch.f rfl ?_
          | refine Branch.t (by assumption) ?_
          | refine Branch.f (by assumption) ?_
          | refine Branch.d (fun _ => ?_) (fun _ => ?_)
          | refine Branch.mk (fun _ => ?_) (fun _ => ?_)
          | refine Need.mk (by first | omega | decide | rfl) ?_
          | refine Idx.nat (by omega) ?_
          | refine Idx.auto (by first | omega | decide) (by first | omega | decide) ?_
          | refine Cell.ro rfl ?_
          | refine SDraw.all (by kernel_rfl) ?_
          | refine Kept.k0 ?_
          | refine Kept.k1 ?_
          | refine Kept.k2 ?_
          | refine Kept.k3 ?_
          | refine Kept.k4 ?_))
    · rw [if_neg h64] at hK
      repeat' ((conv => whnf); (first
          | with_reducible refine h29 _ ?_
          | refine Branch.f rfl ?_
          | refine Branch.df (by omega) ?_
          | refine New.mk (fun _ => ?_)
          | refine Look.at0 ?_
          | refine Cell.row ?_
          | refine Cell.buf ?_
          | refine Cells.row rfl ?_
          | refine Put.row rfl ?_
          | refine Put.buf rfl ?_
          | refine Look.at1 ?_
          | refine Look.at2 ?_
          | refine Look.at3 ?_
          | refine Look.at4 ?_
          | refine Look.at5 ?_
          | refine Look.at6 ?_
          | refine Look.at7 ?_
          | refine Look.at8 ?_
          | with_reducible refine Val.i64 (by omega) (by omega) ?_
          | with_reducible refine Val.u8 (by omega) (by omega) ?_
          | with_reducible refine Val.u32 (by omega) (by omega) ?_
          | with_reducible refine Val.u64 (by omega) (by omega) ?_
          | with_reducible refine Val.u8m ?_
          | with_reducible refine Val.u32m ?_
          | with_reducible refine Val.u64m ?_
          | with_reducible refine Val.shr8 ?_
          | with_reducible refine Val.shr16 (by decide) ?_
          | with_reducible refine Val.shr24 (by decide) ?_
          | with_reducible refine Val.raw ?_
          | refine Branch.not ?_
          | refine Branch.and ?_
          | refine Branch.or ?_
          | refine Branch.dt (by assumption) ?_
          | refine Branch.df (by assumption) ?_
          | refine Branch.dt rfl ?_
          | refine Branch.dt (by omega) ?_
          | refine Branch.df (by omega) ?_
          | refine Branch.t rfl ?_
          | refine Branch.f rfl ?_
          | refine Branch.t (by assumption) ?_
          | refine Branch.f (by assumption) ?_
          | refine Branch.d (fun _ => ?_) (fun _ => ?_)
          | refine Branch.mk (fun _ => ?_) (fun _ => ?_)
          | refine Need.mk (by first | omega | decide | rfl) ?_
          | refine Idx.nat (by omega) ?_
          | refine Idx.auto (by first | omega | decide) (by first | omega | decide) ?_
          | refine Cell.ro rfl ?_
          | refine SDraw.all (by kernel_rfl) ?_
          | refine Kept.k0 ?_
          | refine Kept.k1 ?_
          | refine Kept.k2 ?_
          | refine Kept.k3 ?_
          | refine Kept.k4 ?_))
      refine SLoop.invA (fun (j : Nat) S H' => j ≤ l.length ∧ S27 (.string (strOf l)) (.int .i64 0) (.int .u64 (val (l.take j) : Int)) (.int .i64 (j : Int)) S ∧ H' = H) (fun j => l.length - j) 0 (Keep.all ⟨Nat.zero_le _, .mk, rfl⟩) ?_
      rintro j S H' ⟨hj, hS, rfl⟩ R hR
      cases hS
      by_cases hlt : j < l.length
      · have hx := List.getElem?_eq_getElem hlt
        generalize l[j] = c at hx
        have hat := byteAt_of hx
        have htk : l.take (j + 1) = l.take j ++ [c] := by rw [List.take_add_one, hx]; rfl
        have hnext : ∀ S, S27 (.string (strOf l)) (.int .i64 0) (.int .u64 ((val (l.take j) * 2 + (if bitOf c then 1 else 0) : Nat) : Int)) (.int .i64 ((j + 1 : Nat) : Int)) S → R S H' := fun S hS => hR (j + 1) _ _ (by omega) (Keep.all ⟨hlt, by rw [htk, val_snoc]; exact hS, rfl⟩)
        have hv : val (l.take j) < 9223372036854775808 := by
          have h1 := val_lt (l.take j)
          have h2 : (l.take j).length ≤ 63 := by rw [List.length_take]; omega
          have h3 : (2 : Nat) ^ (l.take j).length ≤ 2 ^ 63 := Nat.pow_le_pow_right (by decide) h2
          exact Nat.lt_of_lt_of_le h1 h3
        have hcB := isB_cases (hB c (List.mem_of_getElem? hx))
        clear hR hK htk h29
        generalize val (l.take j) = v at hnext hv
        have hshl : shlI .u64 (v : Int) 1 = ((v * 2 : Nat) : Int) := by
          have := shl_nat (k := .u64) rfl (a := v) (n := 1) (by decide)
          rw [show v * 2 ^ 1 % 2 ^ IntKind.u64.bits = v * 2 by show v * 2 % 18446744073709551616 = _; omega] at this
          exact this
        have hor : ∀ d : Nat, d < 2 → bitOr .u64 ((v * 2 : Nat) : Int) (d : Int) = ((v * 2 + d : Nat) : Int) := fun d hd => by
          rw [bitOr_nat rfl (by show v * 2 < 18446744073709551616; omega) (by show d < 18446744073709551616; omega)]
          have := Nat.two_pow_add_eq_or_of_lt (i := 1) (b := d) hd v
          rw [show v * 2 = 2 ^ 1 * v by omega, ← this]
        rcases hcB with ⟨e1, e2⟩ | ⟨e1, e2⟩ <;> rw [e1] at hat <;> rw [e2] at hnext
        · have h0r : bitOr .u64 ((v * 2 : Nat) : Int) 0 = ((v * 2 + 0 : Nat) : Int) := hor 0 (by decide)
          repeat' ((conv => whnf); (first
              | refine Branch.dt (by omega) ?_
              | refine Idx.nat (by omega) ?_
              | with_reducible rw [hat]
              | with_reducible refine Val.to _ hshl ?_
              | with_reducible refine Val.to _ h0r ?_
              | refine Val.to 0 (by decide) ?_
              | exact hnext _ .mk
              | refine New.mk (fun _ => ?_)
              | refine Look.at0 ?_
              | refine Cell.row ?_
              | refine Cell.buf ?_
              | refine Cells.row rfl ?_
              | refine Put.row rfl ?_
              | refine Put.buf rfl ?_
              | refine Look.at1 ?_
              | refine Look.at2 ?_
              | refine Look.at3 ?_
              | refine Look.at4 ?_
              | refine Look.at5 ?_
              | refine Look.at6 ?_
              | refine Look.at7 ?_
              | refine Look.at8 ?_
              | with_reducible refine Val.i64 (by omega) (by omega) ?_
              | with_reducible refine Val.u8 (by omega) (by omega) ?_
              | with_reducible refine Val.u32 (by omega) (by omega) ?_
              | with_reducible refine Val.u64 (by omega) (by omega) ?_
              | with_reducible refine Val.u8m ?_
              | with_reducible refine Val.u32m ?_
              | with_reducible refine Val.u64m ?_
              | with_reducible refine Val.shr8 ?_
              | with_reducible refine Val.shr16 (by decide) ?_
              | with_reducible refine Val.shr24 (by decide) ?_
              | with_reducible refine Val.raw ?_
              | refine Branch.not ?_
              | refine Branch.and ?_
              | refine Branch.or ?_
              | refine Branch.dt (by assumption) ?_
              | refine Branch.df (by assumption) ?_
              | refine Branch.dt rfl ?_
              | refine Branch.dt (by omega) ?_
              | refine Branch.df (by omega) ?_
              | refine Branch.t rfl ?_
              | refine Branch.f rfl ?_
              | refine Branch.t (by assumption) ?_
              | refine Branch.f (by assumption) ?_
              | refine Branch.d (fun _ => ?_) (fun _ => ?_)
              | refine Branch.mk (fun _ => ?_) (fun _ => ?_)
              | refine Need.mk (by first | omega | decide | rfl) ?_
              | refine Idx.nat (by omega) ?_
              | refine Idx.auto (by first | omega | decide) (by first | omega | decide) ?_
              | refine Cell.ro rfl ?_
              | refine SDraw.all (by kernel_rfl) ?_
              | refine Kept.k0 ?_
              | refine Kept.k1 ?_
              | refine Kept.k2 ?_
              | refine Kept.k3 ?_
              | refine Kept.k4 ?_))
        · have h1r : bitOr .u64 ((v * 2 : Nat) : Int) 1 = ((v * 2 + 1 : Nat) : Int) := hor 1 (by decide)
          repeat' ((conv => whnf); (first
              | refine Branch.dt (by omega) ?_
              | refine Idx.nat (by omega) ?_
              | with_reducible rw [hat]
              | with_reducible refine Val.to _ hshl ?_
              | with_reducible refine Val.to _ h1r ?_
              | refine Val.to 1 (by decide) ?_
              | exact hnext _ .mk
              | refine New.mk (fun _ => ?_)
              | refine Look.at0 ?_
              | refine Cell.row ?_
              | refine Cell.buf ?_
              | refine Cells.row rfl ?_
              | refine Put.row rfl ?_
              | refine Put.buf rfl ?_
              | refine Look.at1 ?_
              | refine Look.at2 ?_
              | refine Look.at3 ?_
              | refine Look.at4 ?_
              | refine Look.at5 ?_
              | refine Look.at6 ?_
              | refine Look.at7 ?_
              | refine Look.at8 ?_
              | with_reducible refine Val.i64 (by omega) (by omega) ?_
              | with_reducible refine Val.u8 (by omega) (by omega) ?_
              | with_reducible refine Val.u32 (by omega) (by omega) ?_
              | with_reducible refine Val.u64 (by omega) (by omega) ?_
              | with_reducible refine Val.u8m ?_
              | with_reducible refine Val.u32m ?_
              | with_reducible refine Val.u64m ?_
              | with_reducible refine Val.shr8 ?_
              | with_reducible refine Val.shr16 (by decide) ?_
              | with_reducible refine Val.shr24 (by decide) ?_
              | with_reducible refine Val.raw ?_
              | refine Branch.not ?_
              | refine Branch.and ?_
              | refine Branch.or ?_
              | refine Branch.dt (by assumption) ?_
              | refine Branch.df (by assumption) ?_
              | refine Branch.dt rfl ?_
              | refine Branch.dt (by omega) ?_
              | refine Branch.df (by omega) ?_
              | refine Branch.t rfl ?_
              | refine Branch.f rfl ?_
              | refine Branch.t (by assumption) ?_
              | refine Branch.f (by assumption) ?_
              | refine Branch.d (fun _ => ?_) (fun _ => ?_)
              | refine Branch.mk (fun _ => ?_) (fun _ => ?_)
              | refine Need.mk (by first | omega | decide | rfl) ?_
              | refine Idx.nat (by omega) ?_
              | refine Idx.auto (by first | omega | decide) (by first | omega | decide) ?_
              | refine Cell.ro rfl ?_
              | refine SDraw.all (by kernel_rfl) ?_
              | refine Kept.k0 ?_
              | refine Kept.k1 ?_
              | refine Kept.k2 ?_
              | refine Kept.k3 ?_
              | refine Kept.k4 ?_))
      · have e : j = l.length := by omega
        subst e
        rw [List.take_length]
        clear hR h29
        repeat' ((conv => whnf); (first
            | refine Branch.df (by omega) ?_
            | exact Keep.all hK
            | refine New.mk (fun _ => ?_)
            | refine Look.at0 ?_
            | refine Cell.row ?_
            | refine Cell.buf ?_
            | refine Cells.row rfl ?_
            | refine Put.row rfl ?_
            | refine Put.buf rfl ?_
            | refine Look.at1 ?_
            | refine Look.at2 ?_
            | refine Look.at3 ?_
            | refine Look.at4 ?_
            | refine Look.at5 ?_
            | refine Look.at6 ?_
            | refine Look.at7 ?_
            | refine Look.at8 ?_
            | with_reducible refine Val.i64 (by omega) (by omega) ?_
            | with_reducible refine Val.u8 (by omega) (by omega) ?_
            | with_reducible refine Val.u32 (by omega) (by omega) ?_
            | with_reducible refine Val.u64 (by omega) (by omega) ?_
            | with_reducible refine Val.u8m ?_
            | with_reducible refine Val.u32m ?_
            | with_reducible refine Val.u64m ?_
            | with_reducible refine Val.shr8 ?_
            | with_reducible refine Val.shr16 (by decide) ?_
            | with_reducible refine Val.shr24 (by decide) ?_
            | with_reducible refine Val.raw ?_
            | refine Branch.not ?_
            | refine Branch.and ?_
            | refine Branch.or ?_
            | refine Branch.dt (by assumption) ?_
            | refine Branch.df (by assumption) ?_
            | refine Branch.dt rfl ?_
            | refine Branch.dt (by omega) ?_
            | refine Branch.df (by omega) ?_
            | refine Branch.t rfl ?_
            | refine Branch.f rfl ?_
            | refine Branch.t (by assumption) ?_
            | refine Branch.f (by assumption) ?_
            | refine Branch.d (fun _ => ?_) (fun _ => ?_)
            | refine Branch.mk (fun _ => ?_) (fun _ => ?_)
            | refine Need.mk (by first | omega | decide | rfl) ?_
            | refine Idx.nat (by omega) ?_
            | refine Idx.auto (by first | omega | decide) (by first | omega | decide) ?_
            | refine Cell.ro rfl ?_
            | refine SDraw.all (by kernel_rfl) ?_
            | refine Kept.k0 ?_
            | refine Kept.k1 ?_
            | refine Kept.k2 ?_
            | refine Kept.k3 ?_
            | refine Kept.k4 ?_))
  · rw [if_neg h0] at hK
    have h29 := fun (K : Value → Heap → Prop) hk => c29 (l := l) (K := K) (H := H) hk
    generalize chk l = v at h0 hK h29
    repeat' ((conv => whnf); (first
        | with_reducible refine h29 _ ?_
        | refine Branch.t (by first | (simp [h0]; done) | omega) ?_
        | exact Keep.all hK
        | refine New.mk (fun _ => ?_)
        | refine Look.at0 ?_
        | refine Cell.row ?_
        | refine Cell.buf ?_
        | refine Cells.row rfl ?_
        | refine Put.row rfl ?_
        | refine Put.buf rfl ?_
        | refine Look.at1 ?_
        | refine Look.at2 ?_
        | refine Look.at3 ?_
        | refine Look.at4 ?_
        | refine Look.at5 ?_
        | refine Look.at6 ?_
        | refine Look.at7 ?_
        | refine Look.at8 ?_
        | with_reducible refine Val.i64 (by omega) (by omega) ?_
        | with_reducible refine Val.u8 (by omega) (by omega) ?_
        | with_reducible refine Val.u32 (by omega) (by omega) ?_
        | with_reducible refine Val.u64 (by omega) (by omega) ?_
        | with_reducible refine Val.u8m ?_
        | with_reducible refine Val.u32m ?_
        | with_reducible refine Val.u64m ?_
        | with_reducible refine Val.shr8 ?_
        | with_reducible refine Val.shr16 (by decide) ?_
        | with_reducible refine Val.shr24 (by decide) ?_
        | with_reducible refine Val.raw ?_
        | refine Branch.not ?_
        | refine Branch.and ?_
        | refine Branch.or ?_
        | refine Branch.dt (by assumption) ?_
        | refine Branch.df (by assumption) ?_
        | refine Branch.dt rfl ?_
        | refine Branch.dt (by omega) ?_
        | refine Branch.df (by omega) ?_
        | refine Branch.t rfl ?_
        | refine Branch.f rfl ?_
        | refine Branch.t (by assumption) ?_
        | refine Branch.f (by assumption) ?_
        | refine Branch.d (fun _ => ?_) (fun _ => ?_)
        | refine Branch.mk (fun _ => ?_) (fun _ => ?_)
        | refine Need.mk (by first | omega | decide | rfl) ?_
        | refine Idx.nat (by omega) ?_
        | refine Idx.auto (by first | omega | decide) (by first | omega | decide) ?_
        | refine Cell.ro rfl ?_
        | refine SDraw.all (by kernel_rfl) ?_
        | refine Kept.k0 ?_
        | refine Kept.k1 ?_
        | refine Kept.k2 ?_
        | refine Kept.k3 ?_
        | refine Kept.k4 ?_))
theorem numbers_c {n : Nat} {w : Int} {l : List UInt8} (hD : Db H) (hn : n < 2 ^ 64) : SCalls Tryd.prog 8 [.int .u64 (n : Int), .int .i64 w, .string (strOf l)] H fun v _ => v = .bool true := by
  refine enter8 ?_
  have e24 := fun (K : Value → Heap → Prop) hk => c24 (K := K) (w := w) hD hn hk
  have e25 := fun (K : Value → Heap → Prop) hk => c25 (K := K) (H := H) (w := w) hn hk
  have e26 := fun (K : Value → Heap → Prop) hk => c26 (K := K) (H := H) (l := l) hk
  have e27 := fun (K : Value → Heap → Prop) hk => c27 (K := K) (H := H) (l := l) hk
  have e28 := fun (K : Value → Heap → Prop) hk => c28 (K := K) (H := H) (l := l) hk
  have e29 := fun (K : Value → Heap → Prop) hk => c29 (K := K) (H := H) (l := l) hk
  generalize valV l = vv at e26 e27
  generalize chk l = cc at e28 e29
  obtain ⟨v1, v2⟩ := vv
  by_cases hok : 0 ≤ w ∧ w ≤ 64 ∧ n < 2 ^ w.toNat
  · have en : numV n w = (numB w.toNat n, 0) := by unfold numV; rw [if_pos hok]
    rw [en] at e24 e25
    have hvB : valV (numB w.toNat n) = (n, 0) := by
      unfold valV
      have hlen := numB_len w.toNat n
      rw [if_pos (chk_ok (by omega) (numB_ok _ _)), if_neg (by omega), val_numB _ _ hok.2.2]
    have e26b : ∀ K : Value → Heap → Prop, K (.tuple ⟨[.int .u64 (n : Int), .int .i64 0]⟩) H → SCalls Tryd.prog 26 [.string (strOf (numB w.toNat n))] H K := fun K hk => c26 (by rw [hvB]; exact hk)
    repeat' ((conv => whnf); (first
        | refine e24 _ ?_
        | refine e25 _ ?_
        | with_reducible refine e26 _ ?_
        | with_reducible refine e27 _ ?_
        | with_reducible refine e28 _ ?_
        | with_reducible refine e29 _ ?_
        | refine e26b _ ?_
        | refine c12 ?_
        | refine Branch.f (by first | (simp; done) | rfl) ?_
        | refine Branch.t (by first | (simp; done) | rfl) ?_
        | exact Keep.sub [] (List.nil_sublist _) rfl
        | refine New.mk (fun _ => ?_)
        | refine Look.at0 ?_
        | refine Cell.row ?_
        | refine Cell.buf ?_
        | refine Cells.row rfl ?_
        | refine Put.row rfl ?_
        | refine Put.buf rfl ?_
        | refine Look.at1 ?_
        | refine Look.at2 ?_
        | refine Look.at3 ?_
        | refine Look.at4 ?_
        | refine Look.at5 ?_
        | refine Look.at6 ?_
        | refine Look.at7 ?_
        | refine Look.at8 ?_
        | with_reducible refine Val.i64 (by omega) (by omega) ?_
        | with_reducible refine Val.u8 (by omega) (by omega) ?_
        | with_reducible refine Val.u32 (by omega) (by omega) ?_
        | with_reducible refine Val.u64 (by omega) (by omega) ?_
        | with_reducible refine Val.u8m ?_
        | with_reducible refine Val.u32m ?_
        | with_reducible refine Val.u64m ?_
        | with_reducible refine Val.shr8 ?_
        | with_reducible refine Val.shr16 (by decide) ?_
        | with_reducible refine Val.shr24 (by decide) ?_
        | with_reducible refine Val.raw ?_
        | refine Branch.not ?_
        | refine Branch.and ?_
        | refine Branch.or ?_
        | refine Branch.dt (by assumption) ?_
        | refine Branch.df (by assumption) ?_
        | refine Branch.dt rfl ?_
        | refine Branch.dt (by omega) ?_
        | refine Branch.df (by omega) ?_
        | refine Branch.t rfl ?_
        | refine Branch.f rfl ?_
        | refine Branch.t (by assumption) ?_
        | refine Branch.f (by assumption) ?_
        | refine Branch.d (fun _ => ?_) (fun _ => ?_)
        | refine Branch.mk (fun _ => ?_) (fun _ => ?_)
        | refine Need.mk (by first | omega | decide | rfl) ?_
        | refine Idx.nat (by omega) ?_
        | refine Idx.auto (by first | omega | decide) (by first | omega | decide) ?_
        | refine Cell.ro rfl ?_
        | refine SDraw.all (by kernel_rfl) ?_
        | refine Kept.k0 ?_
        | refine Kept.k1 ?_
        | refine Kept.k2 ?_
        | refine Kept.k3 ?_
        | refine Kept.k4 ?_))
  · have en : numV n w = ([], 1) := by unfold numV; rw [if_neg hok]
    rw [en] at e24 e25
    repeat' ((conv => whnf); (first
        | refine e24 _ ?_
        | refine e25 _ ?_
        | with_reducible refine e26 _ ?_
        | with_reducible refine e27 _ ?_
        | with_reducible refine e28 _ ?_
        | with_reducible refine e29 _ ?_
        | refine c12 ?_
        | refine Branch.f (by first | (simp; done) | rfl) ?_
        | refine Branch.t (by first | (simp; done) | rfl) ?_
        | exact Keep.sub [] (List.nil_sublist _) rfl
        | refine New.mk (fun _ => ?_)
        | refine Look.at0 ?_
        | refine Cell.row ?_
        | refine Cell.buf ?_
        | refine Cells.row rfl ?_
        | refine Put.row rfl ?_
        | refine Put.buf rfl ?_
        | refine Look.at1 ?_
        | refine Look.at2 ?_
        | refine Look.at3 ?_
        | refine Look.at4 ?_
        | refine Look.at5 ?_
        | refine Look.at6 ?_
        | refine Look.at7 ?_
        | refine Look.at8 ?_
        | with_reducible refine Val.i64 (by omega) (by omega) ?_
        | with_reducible refine Val.u8 (by omega) (by omega) ?_
        | with_reducible refine Val.u32 (by omega) (by omega) ?_
        | with_reducible refine Val.u64 (by omega) (by omega) ?_
        | with_reducible refine Val.u8m ?_
        | with_reducible refine Val.u32m ?_
        | with_reducible refine Val.u64m ?_
        | with_reducible refine Val.shr8 ?_
        | with_reducible refine Val.shr16 (by decide) ?_
        | with_reducible refine Val.shr24 (by decide) ?_
        | with_reducible refine Val.raw ?_
        | refine Branch.not ?_
        | refine Branch.and ?_
        | refine Branch.or ?_
        | refine Branch.dt (by assumption) ?_
        | refine Branch.df (by assumption) ?_
        | refine Branch.dt rfl ?_
        | refine Branch.dt (by omega) ?_
        | refine Branch.df (by omega) ?_
        | refine Branch.t rfl ?_
        | refine Branch.f rfl ?_
        | refine Branch.t (by assumption) ?_
        | refine Branch.f (by assumption) ?_
        | refine Branch.d (fun _ => ?_) (fun _ => ?_)
        | refine Branch.mk (fun _ => ?_) (fun _ => ?_)
        | refine Need.mk (by first | omega | decide | rfl) ?_
        | refine Idx.nat (by omega) ?_
        | refine Idx.auto (by first | omega | decide) (by first | omega | decide) ?_
        | refine Cell.ro rfl ?_
        | refine SDraw.all (by kernel_rfl) ?_
        | refine Kept.k0 ?_
        | refine Kept.k1 ?_
        | refine Kept.k2 ?_
        | refine Kept.k3 ?_
        | refine Kept.k4 ?_))
end
end Go.Proofs.YtijnjklofdmelaaDoor

/- Layer 1: what the sum tells of bits that are turned about: plain law, with no program in sight. -/
set_option linter.unusedVariables false
set_option linter.unusedSimpArgs false
set_option maxRecDepth 100000
set_option maxHeartbeats 4000000
namespace Go.Proofs.YtijnjklofdmelaaDoor
open Sx
theorem xor_zero {a b : Nat} (h : a ^^^ b = 0) : a = b := by
  have : (a ^^^ b) ^^^ b = b := by rw [h, Nat.zero_xor]
  rwa [Nat.xor_assoc, Nat.xor_self, Nat.xor_zero] at this
/-- The sum goes on by a bit that is 0; so often. -/
def dbl (r : Nat) : Nat := (r * 2 % 32768) ^^^ (if 16384 ≤ r then 17817 else 0)
def dl : Nat → Nat → Nat
  | 0, r => r
  | n + 1, r => dl n (dbl r)
theorem dbl_lt {r : Nat} : dbl r < 32768 := Nat.xor_lt_two_pow (n := 15) (Nat.mod_lt _ (by decide)) (by split <;> decide)
theorem dl_lt : ∀ (n : Nat) {r : Nat}, r < 32768 → dl n r < 32768
  | 0, _, h => h
  | n + 1, _, _ => dl_lt n dbl_lt
theorem cStep_f {r : Nat} (h : r < 32768) : cStep r false = dbl r := by
  rw [cStep_eq]
  unfold dbl
  by_cases h2 : 16384 ≤ r
  · rw [if_pos h2, decide_eq_true (show r / 16384 = 1 by omega)]; rfl
  · rw [if_neg h2, decide_eq_false (show ¬ r / 16384 = 1 by omega)]; rfl
theorem dbl_xor2 {r s : Nat} (h : r < 32768) (h' : s < 32768) : dbl (r ^^^ s) = dbl r ^^^ dbl s := by
  have := cStep_xor h h' false false
  rw [show (false != false) = false from rfl, cStep_f (Nat.xor_lt_two_pow (n := 15) h h'), cStep_f h, cStep_f h'] at this
  exact this
theorem dl_xor : ∀ (n : Nat) {r s : Nat}, r < 32768 → s < 32768 → dl n (r ^^^ s) = dl n r ^^^ dl n s
  | 0, _, _, _, _ => rfl
  | n + 1, r, s, h, h' => by
    show dl n (dbl (r ^^^ s)) = _
    rw [dbl_xor2 h h']
    exact dl_xor n dbl_lt dbl_lt
theorem dbl_zero {r : Nat} (h : r < 32768) (hz : dbl r = 0) : r = 0 := by
  unfold dbl at hz
  by_cases h2 : 16384 ≤ r
  · rw [if_pos h2] at hz
    have e : r * 2 % 32768 = 17817 := xor_zero hz
    omega
  · rw [if_neg h2, Nat.xor_zero] at hz
    omega
theorem dl_zero : ∀ (n : Nat) {r : Nat}, r < 32768 → dl n r = 0 → r = 0
  | 0, _, _, h => h
  | n + 1, _, h, hz => dbl_zero h (dl_zero n dbl_lt hz)
theorem dl_add : ∀ (m n r : Nat), dl n (dl m r) = dl (m + n) r
  | 0, n, r => by rw [Nat.zero_add]; rfl
  | m + 1, n, r => by
    rw [show m + 1 + n = (m + n) + 1 by omega]
    exact dl_add m n (dbl r)
/-- What a bit at the place i, from the end, adds. -/
def pw (i : Nat) : Nat := dl i 1
theorem pw_lt (i : Nat) : pw i < 32768 := dl_lt i (by decide)
def pwl : Nat → Nat → List Nat
  | 0, _ => []
  | n + 1, r => r :: pwl n (dbl r)
theorem pwl_at : ∀ (n r i : Nat), i < n → (pwl n r)[i]? = some (dl i r)
  | n + 1, r, 0, _ => rfl
  | n + 1, r, i + 1, h => by
    show (pwl n (dbl r))[i]? = _
    exact pwl_at n (dbl r) i (by omega)
/-- Which numbers they are, as a set. -/
def pset : Nat := (pwl 127 1).foldl (fun m r => m ||| (1 <<< r)) 0
def pairsOk (m : Nat) : List Nat → Bool
  | [] => true
  | r :: rs => (rs.all fun s => !(Nat.testBit m ((r ^^^ s) ^^^ 1))) && pairsOk m rs
/-- The parity of a number's bits. -/
def par (r : Nat) : Bool := (List.range 15).foldl (fun a i => a != r.testBit i) false
theorem par_xor (r s : Nat) : par (r ^^^ s) = (par r != par s) := by
  have key : ∀ (l : List Nat) (a b : Bool), l.foldl (fun a i => a != (r ^^^ s).testBit i) (a != b) = (l.foldl (fun a i => a != r.testBit i) a != l.foldl (fun a i => a != s.testBit i) b) := by
    intro l
    induction l with
    | nil => intro a b; rfl
    | cons i l ih =>
      intro a b
      simp only [List.foldl_cons]
      rw [Nat.testBit_xor, ← ih]
      congr 1
      cases a <;> cases b <;> cases r.testBit i <;> cases s.testBit i <;> rfl
  exact key _ false false
theorem fact_set : ((pwl 127 1).all fun r => Nat.testBit pset r) = true := by decide +kernel
theorem fact_pairs : pairsOk pset (pwl 127 1).tail = true := by decide +kernel
theorem fact_one : ((pwl 127 1).tail.all fun r => !(Nat.beq r 1)) = true := by decide +kernel
theorem fact_par : ((pwl 127 1).all par) = true := by decide +kernel
theorem pw_par {i : Nat} (h : i < 127) : par (pw i) = true := List.all_eq_true.1 fact_par _ (List.mem_of_getElem? (pwl_at 127 1 i h))
theorem pw_set {i : Nat} (h : i < 127) : Nat.testBit pset (pw i) = true := List.all_eq_true.1 fact_set _ (List.mem_of_getElem? (pwl_at 127 1 i h))
theorem tail_at {i : Nat} (h : i + 1 < 127) : (pwl 127 1).tail[i]? = some (pw (i + 1)) := by
  show (pwl 126 (dbl 1))[i]? = some (dl i (dbl 1))
  exact pwl_at 126 (dbl 1) i (by omega)
theorem pw_one {i : Nat} (h : i + 1 < 127) : pw (i + 1) ≠ 1 := by
  have := List.all_eq_true.1 fact_one _ (List.mem_of_getElem? (tail_at h))
  intro e
  rw [e] at this
  cases this
theorem pairs_at (m : Nat) : ∀ (l : List Nat), pairsOk m l = true → ∀ (i j : Nat) (r s : Nat), i < j → l[i]? = some r → l[j]? = some s → Nat.testBit m ((r ^^^ s) ^^^ 1) = false
  | x :: l, h, 0, j + 1, r, s, _, hi, hj => by
    injection hi with hi
    subst hi
    have := (Bool.and_eq_true_iff.1 h).1
    have := List.all_eq_true.1 this s (List.mem_of_getElem? (show l[j]? = some s from hj))
    simpa using this
  | x :: l, h, i + 1, j + 1, r, s, hij, hi, hj => pairs_at m l (Bool.and_eq_true_iff.1 h).2 i j r s (by omega) hi hj
  | [], _, i, j, r, s, _, hi, _ => by cases hi
theorem pw_pair {i j : Nat} (h : i < j) (hj : j + 1 < 127) : Nat.testBit pset ((pw (i + 1) ^^^ pw (j + 1)) ^^^ 1) = false :=
  pairs_at pset _ fact_pairs i j _ _ h (tail_at (by omega)) (tail_at hj)
theorem pw_split (m i : Nat) (h : m ≤ i) : pw i = dl m (pw (i - m)) := by
  unfold pw
  rw [dl_add, show i - m + m = i by omega]
theorem pw_ne {a b : Nat} (hab : a < b) (hb : b < 127) : pw a ^^^ pw b ≠ 0 := by
  intro h
  rw [pw_split a b (by omega), pw_split a a (Nat.le_refl _), Nat.sub_self, ← dl_xor a (pw_lt _) (pw_lt _)] at h
  have h0 := dl_zero a (Nat.xor_lt_two_pow (n := 15) (pw_lt _) (pw_lt _)) h
  have e : pw 0 = pw (b - a) := xor_zero h0
  exact pw_one (i := b - a - 1) (by omega) (by rw [show b - a - 1 + 1 = b - a by omega, ← e]; rfl)
/-- Four different ones, in order. -/
theorem pw_four {a b c d : Nat} (hab : a < b) (hbc : b < c) (hcd : c < d) (hd : d < 127) : pw a ^^^ (pw b ^^^ (pw c ^^^ pw d)) ≠ 0 := by
  intro h
  have l2 : ∀ x y : Nat, pw x ^^^ pw y < 32768 := fun x y => Nat.xor_lt_two_pow (n := 15) (pw_lt _) (pw_lt _)
  have l3 : ∀ x y z : Nat, pw x ^^^ (pw y ^^^ pw z) < 32768 := fun x y z => Nat.xor_lt_two_pow (n := 15) (pw_lt _) (l2 _ _)
  rw [pw_split a b (by omega), pw_split a c (by omega), pw_split a d (by omega), pw_split a a (Nat.le_refl _), Nat.sub_self, ← dl_xor a (pw_lt _) (pw_lt _), ← dl_xor a (pw_lt _) (l2 _ _), ← dl_xor a (pw_lt _) (l3 _ _ _)] at h
  have h0 := dl_zero a (Nat.xor_lt_two_pow (n := 15) (pw_lt _) (l3 _ _ _)) h
  have hp := pw_pair (i := c - a - 1) (j := d - a - 1) (by omega) (by omega)
  rw [show c - a - 1 + 1 = c - a by omega, show d - a - 1 + 1 = d - a by omega] at hp
  have hs := pw_set (i := b - a) (by omega)
  have e : pw (b - a) = (pw (c - a) ^^^ pw (d - a)) ^^^ 1 := by
    have e1 : pw 0 = 1 := rfl
    rw [e1] at h0
    generalize pw (b - a) = x at h0
    generalize pw (c - a) ^^^ pw (d - a) = y at h0
    have : x ^^^ (y ^^^ 1) = 0 := by
      rw [← h0, ← Nat.xor_assoc, ← Nat.xor_assoc, Nat.xor_comm (x ^^^ y) 1, ← Nat.xor_assoc]
    exact xor_zero this
  rw [e, hp] at hs
  cases hs
/-- All of them together. -/
def xs (l : List Nat) : Nat := l.foldr (fun i a => pw i ^^^ a) 0
theorem xs_perm {l k : List Nat} (h : l.Perm k) : xs l = xs k := by
  induction h with
  | nil => rfl
  | cons x _ ih => show pw x ^^^ xs _ = pw x ^^^ xs _; rw [ih]
  | swap x y l =>
    show pw y ^^^ (pw x ^^^ xs l) = pw x ^^^ (pw y ^^^ xs l)
    rw [← Nat.xor_assoc, Nat.xor_comm (pw y), Nat.xor_assoc]
  | trans _ _ h1 h2 => exact h1.trans h2
theorem xs_par : ∀ (l : List Nat), (∀ i ∈ l, i < 127) → par (xs l) = decide (l.length % 2 = 1)
  | [], _ => rfl
  | i :: l, h => by
    show par (pw i ^^^ xs l) = _
    rw [par_xor, pw_par (h i (.head _)), xs_par l fun j hj => h j (.tail _ hj), List.length_cons]
    by_cases hl : l.length % 2 = 1
    · rw [decide_eq_true hl, decide_eq_false (by omega)]; rfl
    · rw [decide_eq_false hl, decide_eq_true (by omega)]; rfl
/-- Up to five that are different leave something. -/
theorem xs_five {l : List Nat} (h : ∀ i ∈ l, i < 127) (hn : l.Nodup) (h0 : l ≠ []) (h5 : l.length ≤ 5) : xs l ≠ 0 := by
  by_cases hodd : l.length % 2 = 1
  · intro e
    have := xs_par l h
    rw [e, decide_eq_true hodd] at this
    cases this
  · have hpm := List.mergeSort_perm l (fun a b => decide (a ≤ b))
    have hpw : (l.mergeSort (fun a b => decide (a ≤ b))).Pairwise (fun a b => decide (a ≤ b) = true) := List.pairwise_mergeSort (by intro a b c h1 h2; simp at h1 h2 ⊢; omega) (by intro a b; simp; omega) l
    rw [← xs_perm hpm]
    have hlen := hpm.length_eq
    have hnd : (l.mergeSort (fun a b => decide (a ≤ b))).Nodup := hpm.nodup_iff.2 hn
    have hb : ∀ i ∈ l.mergeSort (fun a b => decide (a ≤ b)), i < 127 := fun i hi => h i (hpm.mem_iff.1 hi)
    generalize l.mergeSort (fun a b => decide (a ≤ b)) = k at hpw hlen hnd hb
    have hl0 : l.length ≠ 0 := by simpa using h0
    rw [← hlen] at hodd h5 hl0
    match k, hpw, hnd, hb, hodd, h5, hl0 with
    | [a, b], hpw, hnd, hb, _, _, _ =>
      simp at hpw hnd hb
      have := pw_ne (a := a) (b := b) (by omega) (by omega)
      simpa [xs] using this
    | [a, b, c, d], hpw, hnd, hb, _, _, _ =>
      simp at hpw hnd hb
      have := pw_four (a := a) (b := b) (c := c) (d := d) (by omega) (by omega) (by omega) (by omega)
      simpa [xs] using this
    | [], _, _, _, _, _, h => exact absurd rfl h
    | [a], _, _, _, h, _, _ => exact (h (by simp)).elim
    | [a, b, c], _, _, _, h, _, _ => exact (h (by simp)).elim
    | [a, b, c, d, e], _, _, _, h, _, _ => exact (h (by simp)).elim
    | a :: b :: c :: d :: e :: f :: k, _, _, _, _, h, _ => exact absurd h (by simp)
theorem pw_small : ∀ i, i < 15 → pw i = 2 ^ i := by decide +kernel
theorem xs_bits : ∀ (l : List Nat), (∀ i ∈ l, i < 15) → l.Nodup → ∀ j, (xs l).testBit j = decide (j ∈ l)
  | [], _, _, j => by simp [xs]
  | i :: l, h, hn, j => by
    have hi := h i (.head _)
    show (pw i ^^^ xs l).testBit j = _
    rw [Nat.testBit_xor, pw_small i hi, Nat.testBit_two_pow, xs_bits l (fun k hk => h k (.tail _ hk)) (List.nodup_cons.1 hn).2 j]
    have hni := (List.nodup_cons.1 hn).1
    by_cases h1 : i = j
    · subst h1
      simp [hni]
    · by_cases h2 : j ∈ l
      · simp [h1, h2]
      · simp [h1, h2, Ne.symm h1]
theorem xs_shift (m : Nat) : ∀ (l : List Nat), xs (l.map (· + m)) = dl m (xs l) ∧ xs l < 32768
  | [] => by
    refine ⟨?_, by decide⟩
    have : ∀ m, dl m 0 = 0 := fun m => by
      induction m with
      | zero => rfl
      | succ m ih => exact ih
    exact (this m).symm
  | i :: l => by
    obtain ⟨h1, h2⟩ := xs_shift m l
    refine ⟨?_, Nat.xor_lt_two_pow (n := 15) (pw_lt _) h2⟩
    show pw (i + m) ^^^ xs (l.map (· + m)) = dl m (pw i ^^^ xs l)
    rw [h1, dl_xor m (pw_lt _) h2]
    congr 1
    unfold pw
    rw [dl_add]
/-- Different ones within fifteen in a row leave something. -/
theorem xs_burst {l : List Nat} (m : Nat) (h : ∀ i ∈ l, i < 15) (hn : l.Nodup) (h0 : l ≠ []) : xs (l.map (· + m)) ≠ 0 := by
  obtain ⟨h1, h2⟩ := xs_shift m l
  rw [h1]
  intro hz
  have hz := dl_zero m h2 hz
  obtain ⟨i, hi⟩ : ∃ i, i ∈ l := by
    cases l with
    | nil => exact absurd rfl h0
    | cons i l => exact ⟨i, .head _⟩
  have := xs_bits l h hn i
  rw [hz, decide_eq_true hi] at this
  simp at this
end Go.Proofs.YtijnjklofdmelaaDoor

/- Layer 1: words and their sums, and what is turned about in them: plain law, and by walks. -/
set_option linter.unusedVariables false
set_option linter.unusedSimpArgs false
set_option maxRecDepth 100000
set_option maxHeartbeats 4000000
namespace Go.Proofs.YtijnjklofdmelaaDoor
open Sx
theorem bitOf_oth (b : UInt8) : bitOf (oth b) = !bitOf b := by
  unfold oth
  cases bitOf b <;> rfl
theorem cStep_not (r : Nat) (b : Bool) : cStep r (!b) = cStep r b ^^^ 17817 := by
  rw [cStep_eq, cStep_eq, Nat.xor_assoc]
  congr 1
  generalize decide (r / 16384 = 1) = d
  cases d <;> cases b <;> rfl
theorem fold_d : ∀ (l : List UInt8) (r d : Nat), r < 32768 → d < 32768 → l.foldl (fun r b => cStep r (bitOf b)) (r ^^^ d) = l.foldl (fun r b => cStep r (bitOf b)) r ^^^ dl l.length d
  | [], _, _, _, _ => rfl
  | b :: l, r, d, h, h' => by
    simp only [List.foldl_cons]
    have := cStep_xor h h' (bitOf b) false
    rw [show (bitOf b != false) = bitOf b by cases bitOf b <;> rfl, cStep_f h'] at this
    rw [this, fold_d l _ _ (cStep_lt _ _) dbl_lt]
    rfl
theorem split_at {l : List UInt8} {p : Nat} {c : UInt8} (h : l[p]? = some c) : l = l.take p ++ c :: l.drop (p + 1) ∧ ∀ x, l.set p x = l.take p ++ x :: l.drop (p + 1) := by
  obtain ⟨hlt, rfl⟩ := List.getElem?_eq_some_iff.1 h
  refine ⟨?_, fun x => ?_⟩
  · conv => lhs; rw [← List.take_append_drop p l, List.drop_eq_getElem_cons hlt]
  · rw [List.set_eq_take_append_cons_drop, if_pos hlt]
theorem crc_flip {l : List UInt8} {p : Nat} {c : UInt8} (h : l[p]? = some c) : crc (l.set p (oth c)) = crc l ^^^ dl (l.length - 1 - p) 17817 := by
  obtain ⟨e1, e2⟩ := split_at h
  have hlt := (List.getElem?_eq_some_iff.1 h).1
  have hlen : (l.drop (p + 1)).length = l.length - 1 - p := by rw [List.length_drop]; omega
  rw [e2]
  conv => rhs; rw [e1]
  unfold crc
  rw [List.foldl_append, List.foldl_append, List.foldl_cons, List.foldl_cons, bitOf_oth, cStep_not, fold_d _ _ _ (cStep_lt _ _) (by decide), hlen]
  rw [← e1]
theorem dbl_add (x c : Nat) (h : c < 2) : x * 2 + c = (x * 2) ^^^ c := by
  have := Nat.two_pow_add_eq_or_of_lt (i := 1) (b := c) h x
  rw [show x * 2 + c = 2 ^ 1 * x + c by omega, this]
  apply Nat.eq_of_testBit_eq
  intro i
  rw [Nat.testBit_or, Nat.testBit_xor, show x * 2 = x <<< 1 by rw [Nat.shiftLeft_eq], show 2 ^ 1 * x = x <<< 1 by rw [Nat.shiftLeft_eq]; omega, Nat.testBit_shiftLeft]
  rcases i with _ | i
  · simp
  · have : c.testBit (i + 1) = false := by
      rw [Nat.testBit_succ, show c / 2 = 0 by omega]; simp
    rw [this]; simp
theorem dbl_x (x y : Nat) : (x ^^^ y) * 2 = (x * 2) ^^^ (y * 2) := by
  apply Nat.eq_of_testBit_eq
  intro i
  rw [Nat.testBit_xor, show x * 2 = x <<< 1 by rw [Nat.shiftLeft_eq], show y * 2 = y <<< 1 by rw [Nat.shiftLeft_eq], show (x ^^^ y) * 2 = (x ^^^ y) <<< 1 by rw [Nat.shiftLeft_eq], Nat.testBit_shiftLeft, Nat.testBit_shiftLeft, Nat.testBit_shiftLeft, Nat.testBit_xor]
  cases decide (i ≥ 1) <;> simp
theorem val_d : ∀ (l : List UInt8) (v d : Nat), l.foldl (fun r b => r * 2 + (if bitOf b then 1 else 0)) (v ^^^ d) = l.foldl (fun r b => r * 2 + (if bitOf b then 1 else 0)) v ^^^ (d * 2 ^ l.length)
  | [], _, _ => by simp
  | b :: l, v, d => by
    simp only [List.foldl_cons]
    have hc : (if bitOf b then 1 else 0) < 2 := by split <;> decide
    generalize (if bitOf b then 1 else 0) = c at hc
    rw [dbl_add _ _ hc, dbl_x, Nat.xor_assoc, Nat.xor_comm (d * 2), ← Nat.xor_assoc, ← dbl_add _ _ hc, val_d l, List.length_cons, Nat.pow_succ]
    congr 1
    rw [Nat.mul_assoc, Nat.mul_comm 2]
theorem val_flip {l : List UInt8} {p : Nat} {c : UInt8} (h : l[p]? = some c) : val (l.set p (oth c)) = val l ^^^ 2 ^ (l.length - 1 - p) := by
  obtain ⟨e1, e2⟩ := split_at h
  have hlt := (List.getElem?_eq_some_iff.1 h).1
  have hlen : (l.drop (p + 1)).length = l.length - 1 - p := by rw [List.length_drop]; omega
  rw [e2]
  conv => rhs; rw [e1]
  unfold val
  rw [List.foldl_append, List.foldl_append, List.foldl_cons, List.foldl_cons, bitOf_oth]
  generalize (l.take p).foldl _ 0 = v
  have e : v * 2 + (if (!bitOf c) = true then 1 else 0) = (v * 2 + (if bitOf c then 1 else 0)) ^^^ 1 := by
    cases bitOf c
    · show v * 2 + 1 = (v * 2 + 0) ^^^ 1
      rw [Nat.add_zero]; exact dbl_add v 1 (by decide)
    · show v * 2 + 0 = (v * 2 + 1) ^^^ 1
      rw [dbl_add v 1 (by decide), Nat.xor_assoc, Nat.xor_self, Nat.xor_zero, Nat.add_zero]
  rw [e, val_d, hlen, Nat.one_mul, ← e1]
/-- What the sum of a word tells. -/
def syn (y : List UInt8) : Nat := crc (y.take (y.length - 15)) ^^^ val (y.drop (y.length - 15))
theorem syn_flip {y : List UInt8} {p : Nat} {c : UInt8} (h : y[p]? = some c) (hl : 15 ≤ y.length) : syn (y.set p (oth c)) = syn y ^^^ pw (y.length - 1 - p) := by
  have hlt := (List.getElem?_eq_some_iff.1 h).1
  unfold syn
  rw [List.length_set]
  by_cases hp : p < y.length - 15
  · have e1 : (y.set p (oth c)).take (y.length - 15) = (y.take (y.length - 15)).set p (oth c) := by rw [List.take_set]
    have e2 : (y.set p (oth c)).drop (y.length - 15) = y.drop (y.length - 15) := by rw [List.drop_set, if_pos hp]
    have h2 : (y.take (y.length - 15))[p]? = some c := by rw [List.getElem?_take_of_lt hp, h]
    rw [e1, e2, crc_flip h2, Nat.xor_assoc, Nat.xor_comm (dl _ _), ← Nat.xor_assoc]
    congr 1
    have hlen : (y.take (y.length - 15)).length = y.length - 15 := by rw [List.length_take]; omega
    rw [hlen, show (17817 : Nat) = dl 15 1 by decide +kernel]
    unfold pw
    rw [dl_add, show 15 + (y.length - 15 - 1 - p) = y.length - 1 - p by omega]
  · have e1 : (y.set p (oth c)).take (y.length - 15) = y.take (y.length - 15) := by
      rw [List.take_set, List.set_eq_of_length_le (by rw [List.length_take]; omega)]
    have e2 : (y.set p (oth c)).drop (y.length - 15) = (y.drop (y.length - 15)).set (p - (y.length - 15)) (oth c) := by rw [List.drop_set, if_neg hp]
    have h2 : (y.drop (y.length - 15))[p - (y.length - 15)]? = some c := by
      rw [List.getElem?_drop, show y.length - 15 + (p - (y.length - 15)) = p by omega, h]
    rw [e1, e2, val_flip h2, ← Nat.xor_assoc]
    congr 1
    rw [List.length_drop, show y.length - (y.length - 15) - 1 - (p - (y.length - 15)) = y.length - 1 - p by omega, pw_small _ (by omega)]
/-- A word with the places ps turned about. -/
def fl (x : List UInt8) (ps : List Nat) : List UInt8 := x.mapIdx fun k c => if k ∈ ps then oth c else c
theorem fl_len (x : List UInt8) (ps : List Nat) : (fl x ps).length = x.length := by simp [fl]
theorem fl_nil (x : List UInt8) : fl x [] = x := by
  refine List.ext_getElem? fun i => ?_
  rw [fl, List.getElem?_mapIdx]
  cases x[i]? <;> simp
theorem fl_at {x : List UInt8} {ps : List Nat} {k : Nat} {c : UInt8} (h : x[k]? = some c) : (fl x ps)[k]? = some (if k ∈ ps then oth c else c) := by
  rw [fl, List.getElem?_mapIdx, h]; rfl
theorem fl_cons {x : List UInt8} {ps : List Nat} {k : Nat} {c : UInt8} (h : x[k]? = some c) : (fl x ps).set k (oth c) = fl x (k :: ps) := by
  refine List.ext_getElem? fun i => ?_
  have hlt := (List.getElem?_eq_some_iff.1 h).1
  rw [List.getElem?_set, fl_len]
  by_cases hik : k = i
  · subst hik
    rw [if_pos rfl, if_pos hlt, fl_at h, if_pos (.head _)]
  · rw [if_neg hik, fl, fl, List.getElem?_mapIdx, List.getElem?_mapIdx]
    cases x[i]? with
    | none => rfl
    | some y =>
      simp only [Option.map_some, List.mem_cons]
      by_cases hm : i ∈ ps
      · rw [if_pos hm, if_pos (.inr hm)]
      · rw [if_neg hm, if_neg (fun h => h.elim (fun e => hik e.symm) hm)]
theorem fl_ok {x : List UInt8} {ps : List Nat} (h : ∀ b ∈ x, isB b = true) : ∀ b ∈ fl x ps, isB b = true := by
  intro b hb
  obtain ⟨i, hi, rfl⟩ := List.getElem_of_mem hb
  rw [fl_len] at hi
  have := fl_at (ps := ps) (List.getElem?_eq_getElem hi)
  rw [List.getElem?_eq_getElem (by rw [fl_len]; exact hi)] at this
  injection this with this
  rw [this]
  split
  · exact oth_b
  · exact h _ (List.getElem_mem hi)
theorem syn_fl {x : List UInt8} (hl : 15 ≤ x.length) : ∀ (ps : List Nat), ps.Nodup → (∀ p ∈ ps, p < x.length) → syn (fl x ps) = syn x ^^^ xs (ps.map fun p => x.length - 1 - p)
  | [], _, _ => by rw [fl_nil]; simp [xs]
  | p :: ps, hn, hp => by
    have hx := List.getElem?_eq_getElem (hp p (.head _))
    generalize x[p]'(hp p (.head _)) = c at hx
    have hnp := (List.nodup_cons.1 hn).1
    have hfl := fl_at (ps := ps) hx
    rw [if_neg hnp] at hfl
    rw [← fl_cons hx, syn_flip hfl (by rw [fl_len]; exact hl), fl_len, syn_fl hl ps (List.nodup_cons.1 hn).2 fun q hq => hp q (.tail _ hq), Nat.xor_assoc, List.map_cons]
    congr 1
    show _ = pw (x.length - 1 - p) ^^^ xs _
    rw [Nat.xor_comm]
theorem syn_word (s : List UInt8) : syn (s ++ numB 15 (crc s)) = 0 := by
  unfold syn
  have e : (s ++ numB 15 (crc s)).length - 15 = s.length := by rw [List.length_append, numB_len]; omega
  rw [e, List.take_left, List.drop_left, val_numB 15 _ (crc_lt s), Nat.xor_self]
theorem nodup_map {f : Nat → Nat} : ∀ {l : List Nat}, l.Nodup → (∀ a ∈ l, ∀ b ∈ l, f a = f b → a = b) → (l.map f).Nodup
  | [], _, _ => List.nodup_nil
  | a :: l, hn, h => by
    obtain ⟨h1, h2⟩ := List.nodup_cons.1 hn
    refine List.nodup_cons.2 ⟨fun hm => ?_, nodup_map h2 fun x hx y hy => h x (.tail _ hx) y (.tail _ hy)⟩
    obtain ⟨b, hb, e⟩ := List.mem_map.1 hm
    have := h b (.tail _ hb) a (.head _) e
    exact h1 (this ▸ hb)
theorem five_told {x : List UInt8} {ps : List Nat} (hl : 15 ≤ x.length) (hl2 : x.length ≤ 127) (h0 : syn x = 0) (hn : ps.Nodup) (hp : ∀ p ∈ ps, p < x.length) (h5 : ps.length ≤ 5) : decide (syn (fl x ps) ≠ 0) = decide (0 < ps.length) := by
  rw [syn_fl hl ps hn hp, h0, Nat.zero_xor]
  cases ps with
  | nil => rfl
  | cons p ps =>
    have h1 : ∀ i ∈ (p :: ps).map (fun p => x.length - 1 - p), i < 127 := fun i hi => by
      obtain ⟨q, hq, rfl⟩ := List.mem_map.1 hi
      have := hp q hq
      omega
    have h2 : ((p :: ps).map fun p => x.length - 1 - p).Nodup := nodup_map hn fun a ha b hb e => by
      have := hp a ha
      have := hp b hb
      omega
    rw [decide_eq_true (xs_five h1 h2 (by simp) (by simpa using h5))]
    simp
theorem burst_told {x : List UInt8} {ps : List Nat} {f : Nat} (hl : 15 ≤ x.length) (h0 : syn x = 0) (hn : ps.Nodup) (hp : ∀ p ∈ ps, p < x.length ∧ f ≤ p ∧ p < f + 15) : decide (syn (fl x ps) ≠ 0) = !ps.isEmpty := by
  rw [syn_fl hl ps hn fun p h => (hp p h).1, h0, Nat.zero_xor]
  cases ps with
  | nil => rfl
  | cons p ps =>
    have e : (p :: ps).map (fun p => x.length - 1 - p) = ((p :: ps).map fun p => x.length - 1 - p - (x.length - 15 - f)).map (· + (x.length - 15 - f)) := by
      rw [List.map_map]
      refine List.map_congr_left fun q hq => ?_
      have := hp q hq
      show _ = x.length - 1 - q - (x.length - 15 - f) + (x.length - 15 - f)
      omega
    have h1 : ∀ i ∈ (p :: ps).map (fun p => x.length - 1 - p - (x.length - 15 - f)), i < 15 := fun i hi => by
      obtain ⟨q, hq, rfl⟩ := List.mem_map.1 hi
      have := hp q hq
      omega
    have h2 : ((p :: ps).map fun p => x.length - 1 - p - (x.length - 15 - f)).Nodup := nodup_map hn fun a ha b hb e => by
      have := hp a ha
      have := hp b hb
      omega
    rw [e, decide_eq_true (xs_burst _ h1 h2 (by simp))]
    rfl
theorem txt_put {l : List UInt8} {z : List Value} {cap k : Nat} {b : UInt8} (hk : k < l.length) (hc : (cel l ++ z).length = cap) : PutOk (.row 5 (cel l ++ z) (cap, cap + 1)) (0 + k * 1) [.int .u8 (b.toNat : Int)] (.row 5 (cel (l.set k b) ++ z) (cap, cap + 1)) := by
  have hcl := cel_len l
  rw [List.length_append, hcl] at hc
  refine ⟨?_, .inr ?_, ?_⟩
  · rw [List.length_append, hcl, List.length_singleton]; omega
  · show 0 + k * 1 + 1 ≤ cap; omega
  · congr 1
    rw [Nat.zero_add, Nat.mul_one, List.length_singleton, List.take_append_of_le_length (by omega), List.drop_append_of_le_length (by omega), ← List.append_assoc]
    congr 1
    unfold cel
    rw [List.map_set, List.set_eq_take_append_cons_drop, if_pos (by simpa using hk)]
    simp
section
variable {K : Value → Heap → Prop} {H : Heap}
theorem c31 {y : List UInt8} (hl : 15 ≤ y.length) (hl2 : y.length ≤ 127) (hB : ∀ b ∈ y, isB b = true) (hK : K (.bool (decide (syn y ≠ 0))) H) : SCalls Tryd.prog 31 [.string (strOf y)] H K := by
  refine enter31 ?_
  have hsz : (strOf y).size = y.length := strOf_size y
  have e1 : (strOf y).extract 0 (y.length - 15) = strOf (y.take (y.length - 15)) := by rw [strOf_cut]; simp
  have e2 : (strOf y).extract (y.length - 15) (strOf y).size = strOf (y.drop (y.length - 15)) := by rw [strOf_cut, hsz, List.take_of_length_le (by rw [List.length_drop]; omega)]
  have k1 : chk (y.take (y.length - 15)) = 0 := chk_ok (by rw [List.length_take]; omega) (fun b hb => hB b (List.mem_of_mem_take hb))
  have k2 : chk (y.drop (y.length - 15)) = 0 := chk_ok (by rw [List.length_drop]; omega) (fun b hb => hB b (List.mem_of_mem_drop hb))
  have h11 : ∀ K : Value → Heap → Prop, K (.tuple ⟨[.int .u16 (crc (y.take (y.length - 15)) : Int), .int .i64 0]⟩) H → SCalls Tryd.prog 11 [.string ((strOf y).extract 0 (y.length - 15))] H K := fun K hk => by
    rw [e1]
    exact c11 (by unfold crcV; rw [if_pos k1, k1]; exact hk)
  have h26 : ∀ K : Value → Heap → Prop, K (.tuple ⟨[.int .u64 (val (y.drop (y.length - 15)) : Int), .int .i64 0]⟩) H → SCalls Tryd.prog 26 [.string ((strOf y).extract (y.length - 15) (strOf y).size)] H K := fun K hk => by
    rw [e2]
    exact c26 (by unfold valV; rw [if_pos k2, if_neg (show ¬ 64 < (y.drop (y.length - 15)).length by rw [List.length_drop]; omega)]; exact hk)
  have hr : decide (syn y ≠ 0) = !decide ((crc (y.take (y.length - 15)) : Int) = (val (y.drop (y.length - 15)) : Int)) := by
    unfold syn
    by_cases h : crc (y.take (y.length - 15)) = val (y.drop (y.length - 15))
    · rw [h, Nat.xor_self]; simp
    · have h1 : ¬ crc (y.take (y.length - 15)) ^^^ val (y.drop (y.length - 15)) = 0 := fun e => h (xor_zero e)
      have h2 : ¬ (crc (y.take (y.length - 15)) : Int) = (val (y.drop (y.length - 15)) : Int) := by omega
      simp [h1, h2]
  rw [hr] at hK
  have hc16 := crc_lt (y.take (y.length - 15))
  repeat' ((conv => whnf); (first
      | with_reducible refine Val.to ((y.length - 15 : Nat) : Int) (by rw [wrap_i64 (by omega) (by omega)]; omega) ?_
      | refine Idx.of (y.length - 15) rfl (by omega) ?_
      | with_reducible refine h11 _ ?_
      | refine h26 _ ?_
      | refine Branch.t rfl ?_
      | with_reducible refine Val.u64 (by omega) (by omega) ?_
      | exact Keep.all hK
      | refine New.mk (fun _ => ?_)
      | refine Look.at0 ?_
      | refine Cell.row ?_
      | refine Cell.buf ?_
      | refine Cells.row rfl ?_
      | refine Put.row rfl ?_
      | refine Put.buf rfl ?_
      | refine Look.at1 ?_
      | refine Look.at2 ?_
      | refine Look.at3 ?_
      | refine Look.at4 ?_
      | refine Look.at5 ?_
      | refine Look.at6 ?_
      | refine Look.at7 ?_
      | refine Look.at8 ?_
      | with_reducible refine Val.i64 (by omega) (by omega) ?_
      | with_reducible refine Val.u8 (by omega) (by omega) ?_
      | with_reducible refine Val.u32 (by omega) (by omega) ?_
      | with_reducible refine Val.u64 (by omega) (by omega) ?_
      | with_reducible refine Val.u8m ?_
      | with_reducible refine Val.u32m ?_
      | with_reducible refine Val.u64m ?_
      | with_reducible refine Val.shr8 ?_
      | with_reducible refine Val.shr16 (by decide) ?_
      | with_reducible refine Val.shr24 (by decide) ?_
      | with_reducible refine Val.raw ?_
      | refine Branch.not ?_
      | refine Branch.and ?_
      | refine Branch.or ?_
      | refine Branch.dt (by assumption) ?_
      | refine Branch.df (by assumption) ?_
      | refine Branch.dt rfl ?_
      | refine Branch.dt (by omega) ?_
      | refine Branch.df (by omega) ?_
      | refine Branch.t rfl ?_
      | refine Branch.f rfl ?_
      | refine Branch.t (by assumption) ?_
      | refine Branch.f (by assumption) ?_
      | refine Branch.d (fun _ => ?_) (fun _ => ?_)
      | refine Branch.mk (fun _ => ?_) (fun _ => ?_)
      | refine Need.mk (by first | omega | decide | rfl) ?_
      | refine Idx.nat (by omega) ?_
      | refine Idx.auto (by first | omega | decide) (by first | omega | decide) ?_
      | refine Cell.ro rfl ?_
      | refine SDraw.all (by kernel_rfl) ?_
      | refine Kept.k0 ?_
      | refine Kept.k1 ?_
      | refine Kept.k2 ?_
      | refine Kept.k3 ?_
      | refine Kept.k4 ?_))
theorem c30 {s : List UInt8} (hD : Db H) (h1 : chk s = 0 → s.length + 15 ≤ 127 → K (.tuple ⟨[.string (strOf (s ++ numB 15 (crc s))), .bool true]⟩) H) (h2 : ∀ t, K (.tuple ⟨[.string t, .bool false]⟩) H) (hs : s.length ≤ 140737488355328) : SCalls Tryd.prog 30 [.string (strOf s)] H K := by
  refine enter30 ?_
  have hsz : (strOf s).size = s.length := strOf_size s
  have h24 : ∀ (n : Nat) (K : Value → Heap → Prop), n < 32768 → K (.tuple ⟨[.string (strOf (numB 15 n)), .int .i64 0]⟩) H → SCalls Tryd.prog 24 [.int .u64 (n : Int), .int .i64 15] H K := fun n K hn hk => c24 (w := 15) hD (Nat.lt_trans hn (by decide)) (by
    unfold numV; rw [if_pos ⟨by decide, by decide, hn⟩]; exact hk)
  have hnl : ∀ n, (strOf (numB 15 n)).size = 15 := fun n => by rw [strOf_size, numB_len]
  rcases chk_cases s with ⟨h0, hl, hB⟩ | ⟨h0, _⟩
  · have e11 : ∀ (K : Value → Heap → Prop), K (.tuple ⟨[.int .u16 (crc s : Int), .int .i64 0]⟩) H → SCalls Tryd.prog 11 [.string (strOf s)] H K := fun K hk => c11 (by
      unfold crcV; rw [if_pos h0, h0]; exact hk)
    have hc := crc_lt s
    have hn := hnl (crc s)
    by_cases h127 : s.length + 15 ≤ 127
    · have h1 := h1 h0 h127
      rw [← strOf_app] at h1
      repeat' ((conv => whnf); (first
          | with_reducible refine e11 _ ?_
          | with_reducible refine Val.u64 (by omega) (by omega) ?_
          | with_reducible refine h24 _ _ hc ?_
          | refine Need.mk (by omega) ?_
          | refine Branch.dt (by omega) ?_
          | refine Branch.t (by assumption) ?_
          | (rw [decide_eq_true (show ((strOf s).size : Int) + 15 ≤ 127 by omega)]; exact Keep.all h1)
          | refine New.mk (fun _ => ?_)
          | refine Look.at0 ?_
          | refine Cell.row ?_
          | refine Cell.buf ?_
          | refine Cells.row rfl ?_
          | refine Put.row rfl ?_
          | refine Put.buf rfl ?_
          | refine Look.at1 ?_
          | refine Look.at2 ?_
          | refine Look.at3 ?_
          | refine Look.at4 ?_
          | refine Look.at5 ?_
          | refine Look.at6 ?_
          | refine Look.at7 ?_
          | refine Look.at8 ?_
          | with_reducible refine Val.i64 (by omega) (by omega) ?_
          | with_reducible refine Val.u8 (by omega) (by omega) ?_
          | with_reducible refine Val.u32 (by omega) (by omega) ?_
          | with_reducible refine Val.u64 (by omega) (by omega) ?_
          | with_reducible refine Val.u8m ?_
          | with_reducible refine Val.u32m ?_
          | with_reducible refine Val.u64m ?_
          | with_reducible refine Val.shr8 ?_
          | with_reducible refine Val.shr16 (by decide) ?_
          | with_reducible refine Val.shr24 (by decide) ?_
          | with_reducible refine Val.raw ?_
          | refine Branch.not ?_
          | refine Branch.and ?_
          | refine Branch.or ?_
          | refine Branch.dt (by assumption) ?_
          | refine Branch.df (by assumption) ?_
          | refine Branch.dt rfl ?_
          | refine Branch.dt (by omega) ?_
          | refine Branch.df (by omega) ?_
          | refine Branch.t rfl ?_
          | refine Branch.f rfl ?_
          | refine Branch.t (by assumption) ?_
          | refine Branch.f (by assumption) ?_
          | refine Branch.d (fun _ => ?_) (fun _ => ?_)
          | refine Branch.mk (fun _ => ?_) (fun _ => ?_)
          | refine Need.mk (by first | omega | decide | rfl) ?_
          | refine Idx.nat (by omega) ?_
          | refine Idx.auto (by first | omega | decide) (by first | omega | decide) ?_
          | refine Cell.ro rfl ?_
          | refine SDraw.all (by kernel_rfl) ?_
          | refine Kept.k0 ?_
          | refine Kept.k1 ?_
          | refine Kept.k2 ?_
          | refine Kept.k3 ?_
          | refine Kept.k4 ?_))
    · have h2 := h2 (strOf s ++ strOf (numB 15 (crc s)))
      repeat' ((conv => whnf); (first
          | with_reducible refine e11 _ ?_
          | with_reducible refine Val.u64 (by omega) (by omega) ?_
          | with_reducible refine h24 _ _ hc ?_
          | refine Need.mk (by omega) ?_
          | refine Branch.dt (by omega) ?_
          | refine Branch.t (by assumption) ?_
          | (rw [decide_eq_false (show ¬ ((strOf s).size : Int) + 15 ≤ 127 by omega)]; exact Keep.all h2)
          | refine New.mk (fun _ => ?_)
          | refine Look.at0 ?_
          | refine Cell.row ?_
          | refine Cell.buf ?_
          | refine Cells.row rfl ?_
          | refine Put.row rfl ?_
          | refine Put.buf rfl ?_
          | refine Look.at1 ?_
          | refine Look.at2 ?_
          | refine Look.at3 ?_
          | refine Look.at4 ?_
          | refine Look.at5 ?_
          | refine Look.at6 ?_
          | refine Look.at7 ?_
          | refine Look.at8 ?_
          | with_reducible refine Val.i64 (by omega) (by omega) ?_
          | with_reducible refine Val.u8 (by omega) (by omega) ?_
          | with_reducible refine Val.u32 (by omega) (by omega) ?_
          | with_reducible refine Val.u64 (by omega) (by omega) ?_
          | with_reducible refine Val.u8m ?_
          | with_reducible refine Val.u32m ?_
          | with_reducible refine Val.u64m ?_
          | with_reducible refine Val.shr8 ?_
          | with_reducible refine Val.shr16 (by decide) ?_
          | with_reducible refine Val.shr24 (by decide) ?_
          | with_reducible refine Val.raw ?_
          | refine Branch.not ?_
          | refine Branch.and ?_
          | refine Branch.or ?_
          | refine Branch.dt (by assumption) ?_
          | refine Branch.df (by assumption) ?_
          | refine Branch.dt rfl ?_
          | refine Branch.dt (by omega) ?_
          | refine Branch.df (by omega) ?_
          | refine Branch.t rfl ?_
          | refine Branch.f rfl ?_
          | refine Branch.t (by assumption) ?_
          | refine Branch.f (by assumption) ?_
          | refine Branch.d (fun _ => ?_) (fun _ => ?_)
          | refine Branch.mk (fun _ => ?_) (fun _ => ?_)
          | refine Need.mk (by first | omega | decide | rfl) ?_
          | refine Idx.nat (by omega) ?_
          | refine Idx.auto (by first | omega | decide) (by first | omega | decide) ?_
          | refine Cell.ro rfl ?_
          | refine SDraw.all (by kernel_rfl) ?_
          | refine Kept.k0 ?_
          | refine Kept.k1 ?_
          | refine Kept.k2 ?_
          | refine Kept.k3 ?_
          | refine Kept.k4 ?_))
  · have e11 : ∀ (K : Value → Heap → Prop), K (.tuple ⟨[.int .u16 0, .int .i64 (chk s)]⟩) H → SCalls Tryd.prog 11 [.string (strOf s)] H K := fun K hk => c11 (by
      unfold crcV; rw [if_neg h0]; exact hk)
    have h2 := h2 (strOf s ++ strOf (numB 15 0))
    have hn := hnl 0
    generalize chk s = v at h0 e11
    have h24z := h24 0
    repeat' ((conv => whnf); (first
        | with_reducible refine e11 _ ?_
        | with_reducible refine Val.u64 (by omega) (by omega) ?_
        | refine h24z _ (by decide) ?_
        | refine Need.mk (by omega) ?_
        | refine Branch.df h0 ?_
        | refine Branch.f rfl ?_
        | exact Keep.all h2
        | refine New.mk (fun _ => ?_)
        | refine Look.at0 ?_
        | refine Cell.row ?_
        | refine Cell.buf ?_
        | refine Cells.row rfl ?_
        | refine Put.row rfl ?_
        | refine Put.buf rfl ?_
        | refine Look.at1 ?_
        | refine Look.at2 ?_
        | refine Look.at3 ?_
        | refine Look.at4 ?_
        | refine Look.at5 ?_
        | refine Look.at6 ?_
        | refine Look.at7 ?_
        | refine Look.at8 ?_
        | with_reducible refine Val.i64 (by omega) (by omega) ?_
        | with_reducible refine Val.u8 (by omega) (by omega) ?_
        | with_reducible refine Val.u32 (by omega) (by omega) ?_
        | with_reducible refine Val.u64 (by omega) (by omega) ?_
        | with_reducible refine Val.u8m ?_
        | with_reducible refine Val.u32m ?_
        | with_reducible refine Val.u64m ?_
        | with_reducible refine Val.shr8 ?_
        | with_reducible refine Val.shr16 (by decide) ?_
        | with_reducible refine Val.shr24 (by decide) ?_
        | with_reducible refine Val.raw ?_
        | refine Branch.not ?_
        | refine Branch.and ?_
        | refine Branch.or ?_
        | refine Branch.dt (by assumption) ?_
        | refine Branch.df (by assumption) ?_
        | refine Branch.dt rfl ?_
        | refine Branch.dt (by omega) ?_
        | refine Branch.df (by omega) ?_
        | refine Branch.t rfl ?_
        | refine Branch.f rfl ?_
        | refine Branch.t (by assumption) ?_
        | refine Branch.f (by assumption) ?_
        | refine Branch.d (fun _ => ?_) (fun _ => ?_)
        | refine Branch.mk (fun _ => ?_) (fun _ => ?_)
        | refine Need.mk (by first | omega | decide | rfl) ?_
        | refine Idx.nat (by omega) ?_
        | refine Idx.auto (by first | omega | decide) (by first | omega | decide) ?_
        | refine Cell.ro rfl ?_
        | refine SDraw.all (by kernel_rfl) ?_
        | refine Kept.k0 ?_
        | refine Kept.k1 ?_
        | refine Kept.k2 ?_
        | refine Kept.k3 ?_
        | refine Kept.k4 ?_))
end
end Go.Proofs.YtijnjklofdmelaaDoor

/- Layer 1: the laws of numbers, of up to five bits and of bursts: by walks. -/
set_option linter.unusedVariables false
set_option linter.unusedSimpArgs false
set_option maxRecDepth 100000
set_option maxHeartbeats 4000000
namespace Go.Proofs.YtijnjklofdmelaaDoor
open Sx
inductive S9 (A1 A5 A7 A8 A9 : Value) : List Value → Prop
  | mk {r0 r2 r3 r4 r6 r10 r11 r12 r13 r14 r15 r16 r17 r18 r19 r20 r21 r22 r23 r24 r25 r26 r27 r28 r29 r30 r31 r32 r33 r34 r35 r36 r37 r38 r39 r40 r41 r42 r43 r44 r45 r46 r47 r48 r49 r50 r51 r52 r53 r54 r55 r56 r57 r58 r59 r60 r61 r62 r63 r64 r65 : Value} : S9 A1 A5 A7 A8 A9 [r0, A1, r2, r3, r4, A5, r6, A7, A8, A9, r10, r11, r12, r13, r14, r15, r16, r17, r18, r19, r20, r21, r22, r23, r24, r25, r26, r27, r28, r29, r30, r31, r32, r33, r34, r35, r36, r37, r38, r39, r40, r41, r42, r43, r44, r45, r46, r47, r48, r49, r50, r51, r52, r53, r54, r55, r56, r57, r58, r59, r60, r61, r62, r63, r64, r65]
inductive S10 (A2 A9 A10 A11 A12 : Value) : List Value → Prop
  | mk {r0 r1 r3 r4 r5 r6 r7 r8 r13 r14 r15 r16 r17 r18 r19 r20 r21 r22 r23 r24 r25 r26 r27 r28 r29 r30 r31 r32 r33 r34 r35 r36 r37 r38 r39 r40 r41 r42 r43 r44 r45 r46 r47 r48 r49 r50 r51 r52 r53 r54 r55 r56 r57 r58 r59 r60 r61 r62 r63 r64 r65 : Value} : S10 A2 A9 A10 A11 A12 [r0, r1, A2, r3, r4, r5, r6, r7, r8, A9, A10, A11, A12, r13, r14, r15, r16, r17, r18, r19, r20, r21, r22, r23, r24, r25, r26, r27, r28, r29, r30, r31, r32, r33, r34, r35, r36, r37, r38, r39, r40, r41, r42, r43, r44, r45, r46, r47, r48, r49, r50, r51, r52, r53, r54, r55, r56, r57, r58, r59, r60, r61, r62, r63, r64, r65]
section
variable {H : Heap}
theorem five_c {sv : Value} {s l : List UInt8} (hD : Db H) (hin : InS cB 1 sv H l) (hs : s.length ≤ 140737488355328) : SCalls Tryd.prog 9 [.string (strOf s), sv] H fun v _ => v = .bool true := by
  refine enter9 ?_
  obtain ⟨sa, sc, rfl, hml⟩ := hin.sv
  have hml' : l.length ≤ 9223372036854775807 := by simp only [maxLen] at hml; omega
  have h30 := fun (K : Value → Heap → Prop) h1 h2 => c30 (K := K) hD h1 h2 hs
  repeat' ((conv => whnf); (first
      | with_reducible refine h30 _ (fun h0 h127 => ?_) (fun t => ?_)
      | refine New.mk (fun _ => ?_)
      | refine Look.at0 ?_
      | refine Cell.row ?_
      | refine Cell.buf ?_
      | refine Cells.row rfl ?_
      | refine Put.row rfl ?_
      | refine Put.buf rfl ?_
      | refine Look.at1 ?_
      | refine Look.at2 ?_
      | refine Look.at3 ?_
      | refine Look.at4 ?_
      | refine Look.at5 ?_
      | refine Look.at6 ?_
      | refine Look.at7 ?_
      | refine Look.at8 ?_
      | with_reducible refine Val.i64 (by omega) (by omega) ?_
      | with_reducible refine Val.u8 (by omega) (by omega) ?_
      | with_reducible refine Val.u32 (by omega) (by omega) ?_
      | with_reducible refine Val.u64 (by omega) (by omega) ?_
      | with_reducible refine Val.u8m ?_
      | with_reducible refine Val.u32m ?_
      | with_reducible refine Val.u64m ?_
      | with_reducible refine Val.shr8 ?_
      | with_reducible refine Val.shr16 (by decide) ?_
      | with_reducible refine Val.shr24 (by decide) ?_
      | with_reducible refine Val.raw ?_
      | refine Branch.not ?_
      | refine Branch.and ?_
      | refine Branch.or ?_
      | refine Branch.dt (by assumption) ?_
      | refine Branch.df (by assumption) ?_
      | refine Branch.dt rfl ?_
      | refine Branch.dt (by omega) ?_
      | refine Branch.df (by omega) ?_
      | refine Branch.t rfl ?_
      | refine Branch.f rfl ?_
      | refine Branch.t (by assumption) ?_
      | refine Branch.f (by assumption) ?_
      | refine Branch.d (fun _ => ?_) (fun _ => ?_)
      | refine Branch.mk (fun _ => ?_) (fun _ => ?_)
      | refine Need.mk (by first | omega | decide | rfl) ?_
      | refine Idx.nat (by omega) ?_
      | refine Idx.auto (by first | omega | decide) (by first | omega | decide) ?_
      | refine Cell.ro rfl ?_
      | refine SDraw.all (by kernel_rfl) ?_
      | refine Kept.k0 ?_
      | refine Kept.k1 ?_
      | refine Kept.k2 ?_
      | refine Kept.k3 ?_
      | refine Kept.k4 ?_))
  · have hB : ∀ b ∈ s, isB b = true := by
      rcases chk_cases s with h | ⟨h, _⟩
      · exact h.2.2
      · exact absurd h0 h
    have hx0 := syn_word s
    have hxl : (s ++ numB 15 (crc s)).length = s.length + 15 := by rw [List.length_append, numB_len]
    have hxB : ∀ b ∈ s ++ numB 15 (crc s), isB b = true := fun b hb => by
      rcases List.mem_append.1 hb with hb | hb
      · exact hB b hb
      · exact numB_ok _ _ b hb
    clear h30
    generalize s ++ numB 15 (crc s) = x at hx0 hxl hxB
    repeat' ((conv => whnf); (first
        | refine Branch.f rfl ?_
        | refine RawV.toBytes (e := 5) (l := x) rfl (by kernel_rfl) (by kernel_rfl) (by kernel_rfl) (by simp only [maxLen]; omega) (fun r cap z h1 h2 h3 => ?_)
        | refine New.mk (fun _ => ?_)
        | refine Look.at0 ?_
        | refine Cell.row ?_
        | refine Cell.buf ?_
        | refine Cells.row rfl ?_
        | refine Put.row rfl ?_
        | refine Put.buf rfl ?_
        | refine Look.at1 ?_
        | refine Look.at2 ?_
        | refine Look.at3 ?_
        | refine Look.at4 ?_
        | refine Look.at5 ?_
        | refine Look.at6 ?_
        | refine Look.at7 ?_
        | refine Look.at8 ?_
        | with_reducible refine Val.i64 (by omega) (by omega) ?_
        | with_reducible refine Val.u8 (by omega) (by omega) ?_
        | with_reducible refine Val.u32 (by omega) (by omega) ?_
        | with_reducible refine Val.u64 (by omega) (by omega) ?_
        | with_reducible refine Val.u8m ?_
        | with_reducible refine Val.u32m ?_
        | with_reducible refine Val.u64m ?_
        | with_reducible refine Val.shr8 ?_
        | with_reducible refine Val.shr16 (by decide) ?_
        | with_reducible refine Val.shr24 (by decide) ?_
        | with_reducible refine Val.raw ?_
        | refine Branch.not ?_
        | refine Branch.and ?_
        | refine Branch.or ?_
        | refine Branch.dt (by assumption) ?_
        | refine Branch.df (by assumption) ?_
        | refine Branch.dt rfl ?_
        | refine Branch.dt (by omega) ?_
        | refine Branch.df (by omega) ?_
        | refine Branch.t rfl ?_
        | refine Branch.f rfl ?_
        | refine Branch.t (by assumption) ?_
        | refine Branch.f (by assumption) ?_
        | refine Branch.d (fun _ => ?_) (fun _ => ?_)
        | refine Branch.mk (fun _ => ?_) (fun _ => ?_)
        | refine Need.mk (by first | omega | decide | rfl) ?_
        | refine Idx.nat (by omega) ?_
        | refine Idx.auto (by first | omega | decide) (by first | omega | decide) ?_
        | refine Cell.ro rfl ?_
        | refine SDraw.all (by kernel_rfl) ?_
        | refine Kept.k0 ?_
        | refine Kept.k1 ?_
        | refine Kept.k2 ?_
        | refine Kept.k3 ?_
        | refine Kept.k4 ?_))
    refine SLoop.invA (fun (w : Nat × List Nat) S H' => w.1 ≤ l.length ∧ w.2.Nodup ∧ (∀ p ∈ w.2, p < x.length) ∧ w.2.length ≤ 5 ∧ S9 (.slice sa l.length sc) (.string (strOf x)) (.slice (some ⟨r, 0, none⟩) x.length cap) (.int .i64 (w.2.length : Int)) (.int .i64 (w.1 : Int)) S ∧ H' = txtR r (fl x w.2) z cap :: H) (fun w => l.length - w.1) (0, []) (Keep.all ⟨Nat.zero_le _, List.nodup_nil, (fun p hp => by cases hp), Nat.zero_le _, .mk, by rw [fl_nil]⟩) ?_
    rintro ⟨j, ps⟩ S H' ⟨hj, hnd, hps, hp5, hS, rfl⟩ R hR
    dsimp only at hj hnd hps hp5 hS hR ⊢
    cases hS
    have hfl := fl_len x ps
    have hexit : ∀ (S : List Value), S9 (.slice sa l.length sc) (.string (strOf x)) (.slice (some ⟨r, 0, none⟩) x.length cap) (.int .i64 (ps.length : Int)) (.int .i64 (j : Int)) S → True := fun _ _ => trivial
    have h31 : ∀ (K : Value → Heap → Prop), K (.bool (decide (0 < ps.length))) (txtR r (fl x ps) z cap :: H) → SCalls Tryd.prog 31 [.string (strOf (fl x ps))] (txtR r (fl x ps) z cap :: H) K := fun K hk =>
      c31 (by omega) (by omega) (fl_ok hxB) (by rw [five_told (by omega) (by omega) hx0 hnd hps hp5]; exact hk)
    have hstr : ∀ (o : Oper) (xx : Operand) (K2 : Value → Heap → Prop), o.op = .convert 27 9 xx → K2 (.string (strOf (fl x ps))) (txtR r (fl x ps) z cap :: H) → RawV Tryd.prog o [.slice (some ⟨r, 0, none⟩) x.length cap] (txtR r (fl x ps) z cap :: H) K2 := fun o xx K2 ho hk =>
      RawV.toStr (e := 5) (l := fl x ps) ho (by kernel_rfl) (by kernel_rfl) (by kernel_rfl) (.head _) hfl (fun k y hk => by
        have := cel_at hk
        show (cel (fl x ps) ++ z)[0 + k]? = _
        rw [Nat.zero_add, List.getElem?_append_left (List.getElem?_eq_some_iff.1 this).1, this]) hk
    have hdec : decide ((0 : Int) < (ps.length : Int)) = decide (0 < ps.length) := by
      by_cases h : 0 < ps.length
      · rw [decide_eq_true h, decide_eq_true (by omega)]
      · rw [decide_eq_false h, decide_eq_false (by omega)]
    by_cases hlt : j < l.length
    · by_cases hlt5 : ps.length < 5
      · have hx := List.getElem?_eq_getElem hlt
        generalize l[j] = a at hx
        obtain ⟨ra, oa, ca, b, e, hm, hc⟩ := hin.at1 hx rfl
        injection e with e _ _
        subst e
        obtain ⟨k, hk⟩ : ∃ k, a.toNat % x.length = k := ⟨_, rfl⟩
        have hkl : k < x.length := by rw [← hk]; exact Nat.mod_lt _ (by omega)
        have hy := List.getElem?_eq_getElem hkl
        generalize x[k] = y at hy
        have ha8 := u8_lt a
        have hyB := hxB y (List.mem_of_getElem? hy)
        have hat := byteAt_of hy
        have hyo := oth_n hyB
        have hyc := isB_cases hyB
        have hfa := fl_at (ps := ps) hy
        have hmod : ∀ K : Int → Prop, K (k : Int) → Val ((a.toNat : Int).tmod (x.length : Int)) K := fun K hk2 => Val.to _ (by rw [Int.tmod_eq_emod_of_nonneg (by omega), ← Int.natCast_emod, hk]) hk2
        have hcell : ∀ v : UInt8, (fl x ps)[k]? = some v → (Blk.row 5 (cel (fl x ps) ++ z) (cap, cap + 1)).cell (0 + k * 1) = some (.int .u8 (v.toNat : Int)) := fun v hv => by
          have := cel_at hv
          show (cel (fl x ps) ++ z)[0 + k * 1]? = _
          rw [Nat.zero_add, Nat.mul_one, List.getElem?_append_left (List.getElem?_eq_some_iff.1 this).1, this]
        have hx127 : ¬ (x.length : Int) = 0 := by omega
        by_cases hkp : k ∈ ps
        · rw [if_pos hkp] at hfa
          have hcell := hcell _ hfa
          have hne : ¬ ((oth y).toNat : Int) = (y.toNat : Int) := by omega
          have hnext : ∀ S, S9 (.slice (some ⟨ra, oa, none⟩) l.length sc) (.string (strOf x)) (.slice (some ⟨r, 0, none⟩) x.length cap) (.int .i64 (ps.length : Int)) (.int .i64 ((j + 1 : Nat) : Int)) S → R S (txtR r (fl x ps) z cap :: H) := fun S hS => hR (j + 1, ps) _ _ (by show l.length - (j + 1) < l.length - j; omega) (Keep.all ⟨hlt, hnd, hps, hp5, hS, rfl⟩)
          clear hR h31 hstr hexit
          repeat' ((conv => whnf); (first
              | refine Branch.dt (by omega) ?_
              | refine Look.cell (.tail _ hm) hc ?_
              | refine Need.mk hx127 ?_
              | with_reducible refine hmod _ ?_
              | refine Idx.of k rfl (by omega) ?_
              | refine Idx.of k rfl (by rw [strOf_size]; omega) ?_
              | refine Look.cell (.head _) hcell ?_
              | with_reducible rw [hat]
              | refine Branch.df hne ?_
              | exact hnext _ .mk
              | refine New.mk (fun _ => ?_)
              | refine Look.at0 ?_
              | refine Cell.row ?_
              | refine Cell.buf ?_
              | refine Cells.row rfl ?_
              | refine Put.row rfl ?_
              | refine Put.buf rfl ?_
              | refine Look.at1 ?_
              | refine Look.at2 ?_
              | refine Look.at3 ?_
              | refine Look.at4 ?_
              | refine Look.at5 ?_
              | refine Look.at6 ?_
              | refine Look.at7 ?_
              | refine Look.at8 ?_
              | with_reducible refine Val.i64 (by omega) (by omega) ?_
              | with_reducible refine Val.u8 (by omega) (by omega) ?_
              | with_reducible refine Val.u32 (by omega) (by omega) ?_
              | with_reducible refine Val.u64 (by omega) (by omega) ?_
              | with_reducible refine Val.u8m ?_
              | with_reducible refine Val.u32m ?_
              | with_reducible refine Val.u64m ?_
              | with_reducible refine Val.shr8 ?_
              | with_reducible refine Val.shr16 (by decide) ?_
              | with_reducible refine Val.shr24 (by decide) ?_
              | with_reducible refine Val.raw ?_
              | refine Branch.not ?_
              | refine Branch.and ?_
              | refine Branch.or ?_
              | refine Branch.dt (by assumption) ?_
              | refine Branch.df (by assumption) ?_
              | refine Branch.dt rfl ?_
              | refine Branch.dt (by omega) ?_
              | refine Branch.df (by omega) ?_
              | refine Branch.t rfl ?_
              | refine Branch.f rfl ?_
              | refine Branch.t (by assumption) ?_
              | refine Branch.f (by assumption) ?_
              | refine Branch.d (fun _ => ?_) (fun _ => ?_)
              | refine Branch.mk (fun _ => ?_) (fun _ => ?_)
              | refine Need.mk (by first | omega | decide | rfl) ?_
              | refine Idx.nat (by omega) ?_
              | refine Idx.auto (by first | omega | decide) (by first | omega | decide) ?_
              | refine Cell.ro rfl ?_
              | refine SDraw.all (by kernel_rfl) ?_
              | refine Kept.k0 ?_
              | refine Kept.k1 ?_
              | refine Kept.k2 ?_
              | refine Kept.k3 ?_
              | refine Kept.k4 ?_))
        · rw [if_neg hkp] at hfa
          have hcell := hcell _ hfa
          have hput := txt_put (l := fl x ps) (z := z) (cap := cap) (k := k) (b := oth y) (by omega) (by rw [← h3, List.length_append, List.length_append, cel_len, cel_len, hfl])
          rw [fl_cons hy] at hput
          have h97 : ∀ K : Int → Prop, K ((oth y).toNat : Int) → Val (IntKind.u8.wrap (97 - (y.toNat : Int))) K := fun K hk2 => Val.to _ (by rw [wrap_u8]; omega) hk2
          have hnext : ∀ S, S9 (.slice (some ⟨ra, oa, none⟩) l.length sc) (.string (strOf x)) (.slice (some ⟨r, 0, none⟩) x.length cap) (.int .i64 ((ps.length : Int) + 1)) (.int .i64 ((j + 1 : Nat) : Int)) S → R S (txtR r (fl x (k :: ps)) z cap :: H) := fun S hS => hR (j + 1, k :: ps) _ _ (by show l.length - (j + 1) < l.length - j; omega) (Keep.all ⟨hlt, List.nodup_cons.2 ⟨hkp, hnd⟩, (fun q hq => by
            rcases List.mem_cons.1 hq with rfl | hq
            · exact hkl
            · exact hps q hq), by show ps.length + 1 ≤ 5; omega, hS, rfl⟩)
          clear hR h31 hstr hexit
          repeat' ((conv => whnf); (first
              | refine Branch.dt (by omega) ?_
              | refine Look.cell (.tail _ hm) hc ?_
              | refine Need.mk hx127 ?_
              | with_reducible refine hmod _ ?_
              | refine Idx.of k rfl (by omega) ?_
              | refine Idx.of k rfl (by rw [strOf_size]; omega) ?_
              | refine Look.cell (.head _) hcell ?_
              | with_reducible rw [hat]
              | refine Branch.dt rfl ?_
              | with_reducible refine h97 _ ?_
              | refine ⟨[], _, H, rfl, _, hput, appK_to ?_⟩
              | exact hnext _ .mk
              | refine New.mk (fun _ => ?_)
              | refine Look.at0 ?_
              | refine Cell.row ?_
              | refine Cell.buf ?_
              | refine Cells.row rfl ?_
              | refine Put.row rfl ?_
              | refine Put.buf rfl ?_
              | refine Look.at1 ?_
              | refine Look.at2 ?_
              | refine Look.at3 ?_
              | refine Look.at4 ?_
              | refine Look.at5 ?_
              | refine Look.at6 ?_
              | refine Look.at7 ?_
              | refine Look.at8 ?_
              | with_reducible refine Val.i64 (by omega) (by omega) ?_
              | with_reducible refine Val.u8 (by omega) (by omega) ?_
              | with_reducible refine Val.u32 (by omega) (by omega) ?_
              | with_reducible refine Val.u64 (by omega) (by omega) ?_
              | with_reducible refine Val.u8m ?_
              | with_reducible refine Val.u32m ?_
              | with_reducible refine Val.u64m ?_
              | with_reducible refine Val.shr8 ?_
              | with_reducible refine Val.shr16 (by decide) ?_
              | with_reducible refine Val.shr24 (by decide) ?_
              | with_reducible refine Val.raw ?_
              | refine Branch.not ?_
              | refine Branch.and ?_
              | refine Branch.or ?_
              | refine Branch.dt (by assumption) ?_
              | refine Branch.df (by assumption) ?_
              | refine Branch.dt rfl ?_
              | refine Branch.dt (by omega) ?_
              | refine Branch.df (by omega) ?_
              | refine Branch.t rfl ?_
              | refine Branch.f rfl ?_
              | refine Branch.t (by assumption) ?_
              | refine Branch.f (by assumption) ?_
              | refine Branch.d (fun _ => ?_) (fun _ => ?_)
              | refine Branch.mk (fun _ => ?_) (fun _ => ?_)
              | refine Need.mk (by first | omega | decide | rfl) ?_
              | refine Idx.nat (by omega) ?_
              | refine Idx.auto (by first | omega | decide) (by first | omega | decide) ?_
              | refine Cell.ro rfl ?_
              | refine SDraw.all (by kernel_rfl) ?_
              | refine Kept.k0 ?_
              | refine Kept.k1 ?_
              | refine Kept.k2 ?_
              | refine Kept.k3 ?_
              | refine Kept.k4 ?_))
      · clear hR hexit
        repeat' ((conv => whnf); (first
            | refine Branch.dt (by omega) ?_
            | refine Branch.df (by omega) ?_
            | refine hstr _ _ _ rfl ?_
            | with_reducible refine h31 _ ?_
            | refine Branch.t (by rw [hdec]; first | (simp; done) | rfl) ?_
            | refine c12 ?_
            | exact Keep.sub [] (List.nil_sublist _) rfl
            | refine New.mk (fun _ => ?_)
            | refine Look.at0 ?_
            | refine Cell.row ?_
            | refine Cell.buf ?_
            | refine Cells.row rfl ?_
            | refine Put.row rfl ?_
            | refine Put.buf rfl ?_
            | refine Look.at1 ?_
            | refine Look.at2 ?_
            | refine Look.at3 ?_
            | refine Look.at4 ?_
            | refine Look.at5 ?_
            | refine Look.at6 ?_
            | refine Look.at7 ?_
            | refine Look.at8 ?_
            | with_reducible refine Val.i64 (by omega) (by omega) ?_
            | with_reducible refine Val.u8 (by omega) (by omega) ?_
            | with_reducible refine Val.u32 (by omega) (by omega) ?_
            | with_reducible refine Val.u64 (by omega) (by omega) ?_
            | with_reducible refine Val.u8m ?_
            | with_reducible refine Val.u32m ?_
            | with_reducible refine Val.u64m ?_
            | with_reducible refine Val.shr8 ?_
            | with_reducible refine Val.shr16 (by decide) ?_
            | with_reducible refine Val.shr24 (by decide) ?_
            | with_reducible refine Val.raw ?_
            | refine Branch.not ?_
            | refine Branch.and ?_
            | refine Branch.or ?_
            | refine Branch.dt (by assumption) ?_
            | refine Branch.df (by assumption) ?_
            | refine Branch.dt rfl ?_
            | refine Branch.dt (by omega) ?_
            | refine Branch.df (by omega) ?_
            | refine Branch.t rfl ?_
            | refine Branch.f rfl ?_
            | refine Branch.t (by assumption) ?_
            | refine Branch.f (by assumption) ?_
            | refine Branch.d (fun _ => ?_) (fun _ => ?_)
            | refine Branch.mk (fun _ => ?_) (fun _ => ?_)
            | refine Need.mk (by first | omega | decide | rfl) ?_
            | refine Idx.nat (by omega) ?_
            | refine Idx.auto (by first | omega | decide) (by first | omega | decide) ?_
            | refine Cell.ro rfl ?_
            | refine SDraw.all (by kernel_rfl) ?_
            | refine Kept.k0 ?_
            | refine Kept.k1 ?_
            | refine Kept.k2 ?_
            | refine Kept.k3 ?_
            | refine Kept.k4 ?_))
    · clear hR hexit
      repeat' ((conv => whnf); (first
          | refine Branch.df (by omega) ?_
          | refine hstr _ _ _ rfl ?_
          | with_reducible refine h31 _ ?_
          | refine Branch.t (by rw [hdec]; first | (simp; done) | rfl) ?_
          | refine c12 ?_
          | exact Keep.sub [] (List.nil_sublist _) rfl
          | refine New.mk (fun _ => ?_)
          | refine Look.at0 ?_
          | refine Cell.row ?_
          | refine Cell.buf ?_
          | refine Cells.row rfl ?_
          | refine Put.row rfl ?_
          | refine Put.buf rfl ?_
          | refine Look.at1 ?_
          | refine Look.at2 ?_
          | refine Look.at3 ?_
          | refine Look.at4 ?_
          | refine Look.at5 ?_
          | refine Look.at6 ?_
          | refine Look.at7 ?_
          | refine Look.at8 ?_
          | with_reducible refine Val.i64 (by omega) (by omega) ?_
          | with_reducible refine Val.u8 (by omega) (by omega) ?_
          | with_reducible refine Val.u32 (by omega) (by omega) ?_
          | with_reducible refine Val.u64 (by omega) (by omega) ?_
          | with_reducible refine Val.u8m ?_
          | with_reducible refine Val.u32m ?_
          | with_reducible refine Val.u64m ?_
          | with_reducible refine Val.shr8 ?_
          | with_reducible refine Val.shr16 (by decide) ?_
          | with_reducible refine Val.shr24 (by decide) ?_
          | with_reducible refine Val.raw ?_
          | refine Branch.not ?_
          | refine Branch.and ?_
          | refine Branch.or ?_
          | refine Branch.dt (by assumption) ?_
          | refine Branch.df (by assumption) ?_
          | refine Branch.dt rfl ?_
          | refine Branch.dt (by omega) ?_
          | refine Branch.df (by omega) ?_
          | refine Branch.t rfl ?_
          | refine Branch.f rfl ?_
          | refine Branch.t (by assumption) ?_
          | refine Branch.f (by assumption) ?_
          | refine Branch.d (fun _ => ?_) (fun _ => ?_)
          | refine Branch.mk (fun _ => ?_) (fun _ => ?_)
          | refine Need.mk (by first | omega | decide | rfl) ?_
          | refine Idx.nat (by omega) ?_
          | refine Idx.auto (by first | omega | decide) (by first | omega | decide) ?_
          | refine Cell.ro rfl ?_
          | refine SDraw.all (by kernel_rfl) ?_
          | refine Kept.k0 ?_
          | refine Kept.k1 ?_
          | refine Kept.k2 ?_
          | refine Kept.k3 ?_
          | refine Kept.k4 ?_))
  · clear h30
    repeat' ((conv => whnf); (first
        | refine Branch.t rfl ?_
        | refine c12 ?_
        | exact Keep.sub [] (List.nil_sublist _) rfl
        | refine New.mk (fun _ => ?_)
        | refine Look.at0 ?_
        | refine Cell.row ?_
        | refine Cell.buf ?_
        | refine Cells.row rfl ?_
        | refine Put.row rfl ?_
        | refine Put.buf rfl ?_
        | refine Look.at1 ?_
        | refine Look.at2 ?_
        | refine Look.at3 ?_
        | refine Look.at4 ?_
        | refine Look.at5 ?_
        | refine Look.at6 ?_
        | refine Look.at7 ?_
        | refine Look.at8 ?_
        | with_reducible refine Val.i64 (by omega) (by omega) ?_
        | with_reducible refine Val.u8 (by omega) (by omega) ?_
        | with_reducible refine Val.u32 (by omega) (by omega) ?_
        | with_reducible refine Val.u64 (by omega) (by omega) ?_
        | with_reducible refine Val.u8m ?_
        | with_reducible refine Val.u32m ?_
        | with_reducible refine Val.u64m ?_
        | with_reducible refine Val.shr8 ?_
        | with_reducible refine Val.shr16 (by decide) ?_
        | with_reducible refine Val.shr24 (by decide) ?_
        | with_reducible refine Val.raw ?_
        | refine Branch.not ?_
        | refine Branch.and ?_
        | refine Branch.or ?_
        | refine Branch.dt (by assumption) ?_
        | refine Branch.df (by assumption) ?_
        | refine Branch.dt rfl ?_
        | refine Branch.dt (by omega) ?_
        | refine Branch.df (by omega) ?_
        | refine Branch.t rfl ?_
        | refine Branch.f rfl ?_
        | refine Branch.t (by assumption) ?_
        | refine Branch.f (by assumption) ?_
        | refine Branch.d (fun _ => ?_) (fun _ => ?_)
        | refine Branch.mk (fun _ => ?_) (fun _ => ?_)
        | refine Need.mk (by first | omega | decide | rfl) ?_
        | refine Idx.nat (by omega) ?_
        | refine Idx.auto (by first | omega | decide) (by first | omega | decide) ?_
        | refine Cell.ro rfl ?_
        | refine SDraw.all (by kernel_rfl) ?_
        | refine Kept.k0 ?_
        | refine Kept.k1 ?_
        | refine Kept.k2 ?_
        | refine Kept.k3 ?_
        | refine Kept.k4 ?_))
theorem bursts_c {at0 wi : Nat} {s : List UInt8} (hD : Db H) (ha : at0 < 256) (hw : wi < 65536) (hs : s.length ≤ 140737488355328) : SCalls Tryd.prog 10 [.string (strOf s), .int .u8 (at0 : Int), .int .u16 (wi : Int)] H fun v _ => v = .bool true := by
  refine enter10 ?_
  have h30 := fun (K : Value → Heap → Prop) h1 h2 => c30 (K := K) hD h1 h2 hs
  repeat' ((conv => whnf); (first
      | with_reducible refine h30 _ (fun h0 h127 => ?_) (fun t => ?_)
      | refine New.mk (fun _ => ?_)
      | refine Look.at0 ?_
      | refine Cell.row ?_
      | refine Cell.buf ?_
      | refine Cells.row rfl ?_
      | refine Put.row rfl ?_
      | refine Put.buf rfl ?_
      | refine Look.at1 ?_
      | refine Look.at2 ?_
      | refine Look.at3 ?_
      | refine Look.at4 ?_
      | refine Look.at5 ?_
      | refine Look.at6 ?_
      | refine Look.at7 ?_
      | refine Look.at8 ?_
      | with_reducible refine Val.i64 (by omega) (by omega) ?_
      | with_reducible refine Val.u8 (by omega) (by omega) ?_
      | with_reducible refine Val.u32 (by omega) (by omega) ?_
      | with_reducible refine Val.u64 (by omega) (by omega) ?_
      | with_reducible refine Val.u8m ?_
      | with_reducible refine Val.u32m ?_
      | with_reducible refine Val.u64m ?_
      | with_reducible refine Val.shr8 ?_
      | with_reducible refine Val.shr16 (by decide) ?_
      | with_reducible refine Val.shr24 (by decide) ?_
      | with_reducible refine Val.raw ?_
      | refine Branch.not ?_
      | refine Branch.and ?_
      | refine Branch.or ?_
      | refine Branch.dt (by assumption) ?_
      | refine Branch.df (by assumption) ?_
      | refine Branch.dt rfl ?_
      | refine Branch.dt (by omega) ?_
      | refine Branch.df (by omega) ?_
      | refine Branch.t rfl ?_
      | refine Branch.f rfl ?_
      | refine Branch.t (by assumption) ?_
      | refine Branch.f (by assumption) ?_
      | refine Branch.d (fun _ => ?_) (fun _ => ?_)
      | refine Branch.mk (fun _ => ?_) (fun _ => ?_)
      | refine Need.mk (by first | omega | decide | rfl) ?_
      | refine Idx.nat (by omega) ?_
      | refine Idx.auto (by first | omega | decide) (by first | omega | decide) ?_
      | refine Cell.ro rfl ?_
      | refine SDraw.all (by kernel_rfl) ?_
      | refine Kept.k0 ?_
      | refine Kept.k1 ?_
      | refine Kept.k2 ?_
      | refine Kept.k3 ?_
      | refine Kept.k4 ?_))
  · have hB : ∀ b ∈ s, isB b = true := by
      rcases chk_cases s with h | ⟨h, _⟩
      · exact h.2.2
      · exact absurd h0 h
    have hx0 := syn_word s
    have hxl : (s ++ numB 15 (crc s)).length = s.length + 15 := by rw [List.length_append, numB_len]
    have hxB : ∀ b ∈ s ++ numB 15 (crc s), isB b = true := fun b hb => by
      rcases List.mem_append.1 hb with hb | hb
      · exact hB b hb
      · exact numB_ok _ _ b hb
    clear h30
    generalize s ++ numB 15 (crc s) = x at hx0 hxl hxB
    obtain ⟨f, hf⟩ : ∃ f, at0 % x.length = f := ⟨_, rfl⟩
    have hfl0 : f < x.length := by rw [← hf]; exact Nat.mod_lt _ (by omega)
    have hmod : ∀ K : Int → Prop, K (f : Int) → Val ((at0 : Int).tmod (x.length : Int)) K := fun K hk2 => Val.to _ (by rw [Int.tmod_eq_emod_of_nonneg (by omega), ← Int.natCast_emod, hf]) hk2
    have hx127 : ¬ (x.length : Int) = 0 := by omega
    repeat' ((conv => whnf); (first
        | refine Branch.f rfl ?_
        | refine Need.mk hx127 ?_
        | with_reducible refine hmod _ ?_
        | refine RawV.toBytes (e := 5) (l := x) rfl (by kernel_rfl) (by kernel_rfl) (by kernel_rfl) (by simp only [maxLen]; omega) (fun r cap z h1 h2 h3 => ?_)
        | refine New.mk (fun _ => ?_)
        | refine Look.at0 ?_
        | refine Cell.row ?_
        | refine Cell.buf ?_
        | refine Cells.row rfl ?_
        | refine Put.row rfl ?_
        | refine Put.buf rfl ?_
        | refine Look.at1 ?_
        | refine Look.at2 ?_
        | refine Look.at3 ?_
        | refine Look.at4 ?_
        | refine Look.at5 ?_
        | refine Look.at6 ?_
        | refine Look.at7 ?_
        | refine Look.at8 ?_
        | with_reducible refine Val.i64 (by omega) (by omega) ?_
        | with_reducible refine Val.u8 (by omega) (by omega) ?_
        | with_reducible refine Val.u32 (by omega) (by omega) ?_
        | with_reducible refine Val.u64 (by omega) (by omega) ?_
        | with_reducible refine Val.u8m ?_
        | with_reducible refine Val.u32m ?_
        | with_reducible refine Val.u64m ?_
        | with_reducible refine Val.shr8 ?_
        | with_reducible refine Val.shr16 (by decide) ?_
        | with_reducible refine Val.shr24 (by decide) ?_
        | with_reducible refine Val.raw ?_
        | refine Branch.not ?_
        | refine Branch.and ?_
        | refine Branch.or ?_
        | refine Branch.dt (by assumption) ?_
        | refine Branch.df (by assumption) ?_
        | refine Branch.dt rfl ?_
        | refine Branch.dt (by omega) ?_
        | refine Branch.df (by omega) ?_
        | refine Branch.t rfl ?_
        | refine Branch.f rfl ?_
        | refine Branch.t (by assumption) ?_
        | refine Branch.f (by assumption) ?_
        | refine Branch.d (fun _ => ?_) (fun _ => ?_)
        | refine Branch.mk (fun _ => ?_) (fun _ => ?_)
        | refine Need.mk (by first | omega | decide | rfl) ?_
        | refine Idx.nat (by omega) ?_
        | refine Idx.auto (by first | omega | decide) (by first | omega | decide) ?_
        | refine Cell.ro rfl ?_
        | refine SDraw.all (by kernel_rfl) ?_
        | refine Kept.k0 ?_
        | refine Kept.k1 ?_
        | refine Kept.k2 ?_
        | refine Kept.k3 ?_
        | refine Kept.k4 ?_))
    refine SLoop.invA (fun (w : Nat × List Nat) S H' => w.1 ≤ 15 ∧ w.2.Nodup ∧ (∀ p ∈ w.2, p < x.length ∧ f ≤ p ∧ p < f + w.1) ∧ S10 (.int .u16 (wi : Int)) (.slice (some ⟨r, 0, none⟩) x.length cap) (.int .i64 (f : Int)) (.bool (!w.2.isEmpty)) (.int .i64 (w.1 : Int)) S ∧ H' = txtR r (fl x w.2) z cap :: H) (fun w => 15 - w.1) (0, []) (Keep.all ⟨Nat.zero_le _, List.nodup_nil, (fun p hp => by cases hp), .mk, by rw [fl_nil]⟩) ?_
    rintro ⟨j, ps⟩ S H' ⟨hj, hnd, hps, hS, rfl⟩ R hR
    dsimp only at hj hnd hps hS hR ⊢
    cases hS
    have hfl := fl_len x ps
    have h31 : ∀ (K : Value → Heap → Prop), K (.bool (!ps.isEmpty)) (txtR r (fl x ps) z cap :: H) → SCalls Tryd.prog 31 [.string (strOf (fl x ps))] (txtR r (fl x ps) z cap :: H) K := fun K hk =>
      c31 (by omega) (by omega) (fl_ok hxB) (by rw [burst_told (f := f) (by omega) hx0 hnd (fun p hp => by have := hps p hp; omega)]; exact hk)
    have hstr : ∀ (o : Oper) (xx : Operand) (K2 : Value → Heap → Prop), o.op = .convert 27 9 xx → K2 (.string (strOf (fl x ps))) (txtR r (fl x ps) z cap :: H) → RawV Tryd.prog o [.slice (some ⟨r, 0, none⟩) x.length cap] (txtR r (fl x ps) z cap :: H) K2 := fun o xx K2 ho hk =>
      RawV.toStr (e := 5) (l := fl x ps) ho (by kernel_rfl) (by kernel_rfl) (by kernel_rfl) (.head _) hfl (fun k y hk => by
        have := cel_at hk
        show (cel (fl x ps) ++ z)[0 + k]? = _
        rw [Nat.zero_add, List.getElem?_append_left (List.getElem?_eq_some_iff.1 this).1, this]) hk
    by_cases hlt : j < 15
    · by_cases hltx : f + j < x.length
      · have hy := List.getElem?_eq_getElem hltx
        generalize x[f + j] = y at hy
        have hyB := hxB y (List.mem_of_getElem? hy)
        have hyo := oth_n hyB
        have hyc := isB_cases hyB
        have hkp : f + j ∉ ps := fun h => by have := hps _ h; omega
        have hfa := fl_at (ps := ps) hy
        rw [if_neg hkp] at hfa
        have hcell : (Blk.row 5 (cel (fl x ps) ++ z) (cap, cap + 1)).cell (0 + (f + j) * 1) = some (.int .u8 (y.toNat : Int)) := by
          have := cel_at hfa
          show (cel (fl x ps) ++ z)[0 + (f + j) * 1]? = _
          rw [Nat.zero_add, Nat.mul_one, List.getElem?_append_left (List.getElem?_eq_some_iff.1 this).1, this]
        have hshr : ∀ K : Int → Prop, K ((wi / 2 ^ j : Nat) : Int) → Val (shrI .u16 (wi : Int) (j : Int)) K := fun K hk2 => Val.to _ (shr_nat (k := .u16) (n := j) (by show j ≤ 16; omega)) hk2
        have hand : ∀ K : Int → Prop, K ((wi / 2 ^ j % 2 : Nat) : Int) → Val (bitAnd .u16 ((wi / 2 ^ j : Nat) : Int) 1) K := fun K hk2 => Val.to _ (bitMask_nat (k := .u16) rfl (a := wi / 2 ^ j) (n := 1) (Nat.lt_of_le_of_lt (Nat.div_le_self _ _) hw) (by decide)) hk2
        have hidx : ∀ K : Int → Prop, K ((f + j : Nat) : Int) → Val (IntKind.i64.wrap ((f : Int) + (j : Int))) K := fun K hk2 => Val.to _ (by rw [wrap_i64 (by omega) (by omega)]; omega) hk2
        have hju : ∀ K : Int → Prop, K (j : Int) → Val (IntKind.u64.wrap (j : Int)) K := fun K hk2 => Val.to _ (by rw [wrap_u64]; omega) hk2
        rcases (by omega : wi / 2 ^ j % 2 = 0 ∨ wi / 2 ^ j % 2 = 1) with hb | hb <;> rw [hb] at hand
        · have hnext : ∀ S, S10 (.int .u16 (wi : Int)) (.slice (some ⟨r, 0, none⟩) x.length cap) (.int .i64 (f : Int)) (.bool (!ps.isEmpty)) (.int .i64 ((j + 1 : Nat) : Int)) S → R S (txtR r (fl x ps) z cap :: H) := fun S hS => hR (j + 1, ps) _ _ (by show 15 - (j + 1) < 15 - j; omega) (Keep.all ⟨hlt, hnd, (fun q hq => by have := hps q hq; show _ ∧ _ ∧ q < f + (j + 1); omega), hS, rfl⟩)
          clear hR h31 hstr
          repeat' ((conv => whnf); (first
              | with_reducible refine hidx _ ?_
              | with_reducible refine hju _ ?_
              | with_reducible refine hshr _ ?_
              | with_reducible refine hand _ ?_
              | refine Branch.dt (by omega) ?_
              | refine Branch.f rfl ?_
              | exact hnext _ .mk
              | refine New.mk (fun _ => ?_)
              | refine Look.at0 ?_
              | refine Cell.row ?_
              | refine Cell.buf ?_
              | refine Cells.row rfl ?_
              | refine Put.row rfl ?_
              | refine Put.buf rfl ?_
              | refine Look.at1 ?_
              | refine Look.at2 ?_
              | refine Look.at3 ?_
              | refine Look.at4 ?_
              | refine Look.at5 ?_
              | refine Look.at6 ?_
              | refine Look.at7 ?_
              | refine Look.at8 ?_
              | with_reducible refine Val.i64 (by omega) (by omega) ?_
              | with_reducible refine Val.u8 (by omega) (by omega) ?_
              | with_reducible refine Val.u32 (by omega) (by omega) ?_
              | with_reducible refine Val.u64 (by omega) (by omega) ?_
              | with_reducible refine Val.u8m ?_
              | with_reducible refine Val.u32m ?_
              | with_reducible refine Val.u64m ?_
              | with_reducible refine Val.shr8 ?_
              | with_reducible refine Val.shr16 (by decide) ?_
              | with_reducible refine Val.shr24 (by decide) ?_
              | with_reducible refine Val.raw ?_
              | refine Branch.not ?_
              | refine Branch.and ?_
              | refine Branch.or ?_
              | refine Branch.dt (by assumption) ?_
              | refine Branch.df (by assumption) ?_
              | refine Branch.dt rfl ?_
              | refine Branch.dt (by omega) ?_
              | refine Branch.df (by omega) ?_
              | refine Branch.t rfl ?_
              | refine Branch.f rfl ?_
              | refine Branch.t (by assumption) ?_
              | refine Branch.f (by assumption) ?_
              | refine Branch.d (fun _ => ?_) (fun _ => ?_)
              | refine Branch.mk (fun _ => ?_) (fun _ => ?_)
              | refine Need.mk (by first | omega | decide | rfl) ?_
              | refine Idx.nat (by omega) ?_
              | refine Idx.auto (by first | omega | decide) (by first | omega | decide) ?_
              | refine Cell.ro rfl ?_
              | refine SDraw.all (by kernel_rfl) ?_
              | refine Kept.k0 ?_
              | refine Kept.k1 ?_
              | refine Kept.k2 ?_
              | refine Kept.k3 ?_
              | refine Kept.k4 ?_))
        · have hput := txt_put (l := fl x ps) (z := z) (cap := cap) (k := f + j) (b := oth y) (by omega) (by rw [← h3, List.length_append, List.length_append, cel_len, cel_len, hfl])
          rw [fl_cons hy] at hput
          have h97 : ∀ K : Int → Prop, K ((oth y).toNat : Int) → Val (IntKind.u8.wrap (97 - (y.toNat : Int))) K := fun K hk2 => Val.to _ (by rw [wrap_u8]; omega) hk2
          have hnext : ∀ S, S10 (.int .u16 (wi : Int)) (.slice (some ⟨r, 0, none⟩) x.length cap) (.int .i64 (f : Int)) (.bool true) (.int .i64 ((j + 1 : Nat) : Int)) S → R S (txtR r (fl x ((f + j) :: ps)) z cap :: H) := fun S hS => hR (j + 1, (f + j) :: ps) _ _ (by show 15 - (j + 1) < 15 - j; omega) (Keep.all ⟨hlt, List.nodup_cons.2 ⟨hkp, hnd⟩, (fun q hq => by
            show q < x.length ∧ f ≤ q ∧ q < f + (j + 1)
            rcases List.mem_cons.1 hq with rfl | hq
            · omega
            · have := hps q hq; omega), hS, rfl⟩)
          clear hR h31 hstr
          repeat' ((conv => whnf); (first
              | with_reducible refine hidx _ ?_
              | with_reducible refine hju _ ?_
              | with_reducible refine hshr _ ?_
              | with_reducible refine hand _ ?_
              | refine Branch.dt (by omega) ?_
              | refine Branch.t rfl ?_
              | refine Idx.of (f + j) rfl (by omega) ?_
              | refine Look.cell (.head _) hcell ?_
              | with_reducible refine h97 _ ?_
              | refine ⟨[], _, H, rfl, _, hput, appK_to ?_⟩
              | exact hnext _ .mk
              | refine New.mk (fun _ => ?_)
              | refine Look.at0 ?_
              | refine Cell.row ?_
              | refine Cell.buf ?_
              | refine Cells.row rfl ?_
              | refine Put.row rfl ?_
              | refine Put.buf rfl ?_
              | refine Look.at1 ?_
              | refine Look.at2 ?_
              | refine Look.at3 ?_
              | refine Look.at4 ?_
              | refine Look.at5 ?_
              | refine Look.at6 ?_
              | refine Look.at7 ?_
              | refine Look.at8 ?_
              | with_reducible refine Val.i64 (by omega) (by omega) ?_
              | with_reducible refine Val.u8 (by omega) (by omega) ?_
              | with_reducible refine Val.u32 (by omega) (by omega) ?_
              | with_reducible refine Val.u64 (by omega) (by omega) ?_
              | with_reducible refine Val.u8m ?_
              | with_reducible refine Val.u32m ?_
              | with_reducible refine Val.u64m ?_
              | with_reducible refine Val.shr8 ?_
              | with_reducible refine Val.shr16 (by decide) ?_
              | with_reducible refine Val.shr24 (by decide) ?_
              | with_reducible refine Val.raw ?_
              | refine Branch.not ?_
              | refine Branch.and ?_
              | refine Branch.or ?_
              | refine Branch.dt (by assumption) ?_
              | refine Branch.df (by assumption) ?_
              | refine Branch.dt rfl ?_
              | refine Branch.dt (by omega) ?_
              | refine Branch.df (by omega) ?_
              | refine Branch.t rfl ?_
              | refine Branch.f rfl ?_
              | refine Branch.t (by assumption) ?_
              | refine Branch.f (by assumption) ?_
              | refine Branch.d (fun _ => ?_) (fun _ => ?_)
              | refine Branch.mk (fun _ => ?_) (fun _ => ?_)
              | refine Need.mk (by first | omega | decide | rfl) ?_
              | refine Idx.nat (by omega) ?_
              | refine Idx.auto (by first | omega | decide) (by first | omega | decide) ?_
              | refine Cell.ro rfl ?_
              | refine SDraw.all (by kernel_rfl) ?_
              | refine Kept.k0 ?_
              | refine Kept.k1 ?_
              | refine Kept.k2 ?_
              | refine Kept.k3 ?_
              | refine Kept.k4 ?_))
      · have hidx : ∀ K : Int → Prop, K ((f + j : Nat) : Int) → Val (IntKind.i64.wrap ((f : Int) + (j : Int))) K := fun K hk2 => Val.to _ (by rw [wrap_i64 (by omega) (by omega)]; omega) hk2
        clear hR
        repeat' ((conv => whnf); (first
            | with_reducible refine hidx _ ?_
            | refine Branch.dt (by omega) ?_
            | refine Branch.df (by omega) ?_
            | refine hstr _ _ _ rfl ?_
            | with_reducible refine h31 _ ?_
            | refine Branch.t (by first | (simp; done) | rfl) ?_
            | refine c12 ?_
            | exact Keep.sub [] (List.nil_sublist _) rfl
            | refine New.mk (fun _ => ?_)
            | refine Look.at0 ?_
            | refine Cell.row ?_
            | refine Cell.buf ?_
            | refine Cells.row rfl ?_
            | refine Put.row rfl ?_
            | refine Put.buf rfl ?_
            | refine Look.at1 ?_
            | refine Look.at2 ?_
            | refine Look.at3 ?_
            | refine Look.at4 ?_
            | refine Look.at5 ?_
            | refine Look.at6 ?_
            | refine Look.at7 ?_
            | refine Look.at8 ?_
            | with_reducible refine Val.i64 (by omega) (by omega) ?_
            | with_reducible refine Val.u8 (by omega) (by omega) ?_
            | with_reducible refine Val.u32 (by omega) (by omega) ?_
            | with_reducible refine Val.u64 (by omega) (by omega) ?_
            | with_reducible refine Val.u8m ?_
            | with_reducible refine Val.u32m ?_
            | with_reducible refine Val.u64m ?_
            | with_reducible refine Val.shr8 ?_
            | with_reducible refine Val.shr16 (by decide) ?_
            | with_reducible refine Val.shr24 (by decide) ?_
            | with_reducible refine Val.raw ?_
            | refine Branch.not ?_
            | refine Branch.and ?_
            | refine Branch.or ?_
            | refine Branch.dt (by assumption) ?_
            | refine Branch.df (by assumption) ?_
            | refine Branch.dt rfl ?_
            | refine Branch.dt (by omega) ?_
            | refine Branch.df (by omega) ?_
            | refine Branch.t rfl ?_
            | refine Branch.f rfl ?_
            | refine Branch.t (by assumption) ?_
            | refine Branch.f (by assumption) ?_
            | refine Branch.d (fun _ => ?_) (fun _ => ?_)
            | refine Branch.mk (fun _ => ?_) (fun _ => ?_)
            | refine Need.mk (by first | omega | decide | rfl) ?_
            | refine Idx.nat (by omega) ?_
            | refine Idx.auto (by first | omega | decide) (by first | omega | decide) ?_
            | refine Cell.ro rfl ?_
            | refine SDraw.all (by kernel_rfl) ?_
            | refine Kept.k0 ?_
            | refine Kept.k1 ?_
            | refine Kept.k2 ?_
            | refine Kept.k3 ?_
            | refine Kept.k4 ?_))
    · clear hR
      repeat' ((conv => whnf); (first
          | refine Branch.df (by omega) ?_
          | refine hstr _ _ _ rfl ?_
          | with_reducible refine h31 _ ?_
          | refine Branch.t (by first | (simp; done) | rfl) ?_
          | refine c12 ?_
          | exact Keep.sub [] (List.nil_sublist _) rfl
          | refine New.mk (fun _ => ?_)
          | refine Look.at0 ?_
          | refine Cell.row ?_
          | refine Cell.buf ?_
          | refine Cells.row rfl ?_
          | refine Put.row rfl ?_
          | refine Put.buf rfl ?_
          | refine Look.at1 ?_
          | refine Look.at2 ?_
          | refine Look.at3 ?_
          | refine Look.at4 ?_
          | refine Look.at5 ?_
          | refine Look.at6 ?_
          | refine Look.at7 ?_
          | refine Look.at8 ?_
          | with_reducible refine Val.i64 (by omega) (by omega) ?_
          | with_reducible refine Val.u8 (by omega) (by omega) ?_
          | with_reducible refine Val.u32 (by omega) (by omega) ?_
          | with_reducible refine Val.u64 (by omega) (by omega) ?_
          | with_reducible refine Val.u8m ?_
          | with_reducible refine Val.u32m ?_
          | with_reducible refine Val.u64m ?_
          | with_reducible refine Val.shr8 ?_
          | with_reducible refine Val.shr16 (by decide) ?_
          | with_reducible refine Val.shr24 (by decide) ?_
          | with_reducible refine Val.raw ?_
          | refine Branch.not ?_
          | refine Branch.and ?_
          | refine Branch.or ?_
          | refine Branch.dt (by assumption) ?_
          | refine Branch.df (by assumption) ?_
          | refine Branch.dt rfl ?_
          | refine Branch.dt (by omega) ?_
          | refine Branch.df (by omega) ?_
          | refine Branch.t rfl ?_
          | refine Branch.f rfl ?_
          | refine Branch.t (by assumption) ?_
          | refine Branch.f (by assumption) ?_
          | refine Branch.d (fun _ => ?_) (fun _ => ?_)
          | refine Branch.mk (fun _ => ?_) (fun _ => ?_)
          | refine Need.mk (by first | omega | decide | rfl) ?_
          | refine Idx.nat (by omega) ?_
          | refine Idx.auto (by first | omega | decide) (by first | omega | decide) ?_
          | refine Cell.ro rfl ?_
          | refine SDraw.all (by kernel_rfl) ?_
          | refine Kept.k0 ?_
          | refine Kept.k1 ?_
          | refine Kept.k2 ?_
          | refine Kept.k3 ?_
          | refine Kept.k4 ?_))
  · clear h30
    repeat' ((conv => whnf); (first
        | refine Branch.t rfl ?_
        | refine c12 ?_
        | exact Keep.sub [] (List.nil_sublist _) rfl
        | refine New.mk (fun _ => ?_)
        | refine Look.at0 ?_
        | refine Cell.row ?_
        | refine Cell.buf ?_
        | refine Cells.row rfl ?_
        | refine Put.row rfl ?_
        | refine Put.buf rfl ?_
        | refine Look.at1 ?_
        | refine Look.at2 ?_
        | refine Look.at3 ?_
        | refine Look.at4 ?_
        | refine Look.at5 ?_
        | refine Look.at6 ?_
        | refine Look.at7 ?_
        | refine Look.at8 ?_
        | with_reducible refine Val.i64 (by omega) (by omega) ?_
        | with_reducible refine Val.u8 (by omega) (by omega) ?_
        | with_reducible refine Val.u32 (by omega) (by omega) ?_
        | with_reducible refine Val.u64 (by omega) (by omega) ?_
        | with_reducible refine Val.u8m ?_
        | with_reducible refine Val.u32m ?_
        | with_reducible refine Val.u64m ?_
        | with_reducible refine Val.shr8 ?_
        | with_reducible refine Val.shr16 (by decide) ?_
        | with_reducible refine Val.shr24 (by decide) ?_
        | with_reducible refine Val.raw ?_
        | refine Branch.not ?_
        | refine Branch.and ?_
        | refine Branch.or ?_
        | refine Branch.dt (by assumption) ?_
        | refine Branch.df (by assumption) ?_
        | refine Branch.dt rfl ?_
        | refine Branch.dt (by omega) ?_
        | refine Branch.df (by omega) ?_
        | refine Branch.t rfl ?_
        | refine Branch.f rfl ?_
        | refine Branch.t (by assumption) ?_
        | refine Branch.f (by assumption) ?_
        | refine Branch.d (fun _ => ?_) (fun _ => ?_)
        | refine Branch.mk (fun _ => ?_) (fun _ => ?_)
        | refine Need.mk (by first | omega | decide | rfl) ?_
        | refine Idx.nat (by omega) ?_
        | refine Idx.auto (by first | omega | decide) (by first | omega | decide) ?_
        | refine Cell.ro rfl ?_
        | refine SDraw.all (by kernel_rfl) ?_
        | refine Kept.k0 ?_
        | refine Kept.k1 ?_
        | refine Kept.k2 ?_
        | refine Kept.k3 ?_
        | refine Kept.k4 ?_))
end
end Go.Proofs.YtijnjklofdmelaaDoor

/- Layer 1: the laws of numbers, of up to five bits and of bursts, where the listed table is as the row says. -/
set_option linter.unusedVariables false
set_option linter.unusedSimpArgs false
set_option maxRecDepth 100000
set_option maxHeartbeats 4000000
namespace Go.Proofs.YtijnjklofdmelaaDoor
open Sx
theorem g7 : Tryd.prog.globalNamed "math/bits.deBruijn64tab" = some 7 := by kernel_rfl
theorem g7t : ∃ t, (Tryd.prog.globals[7]?).map (·.type) = some t ∧ Tryd.prog.underlying t = some (.array 64 5) ∧ Tryd.prog.cellsOf t = 64 := ⟨131, by kernel_rfl, by kernel_rfl, by kernel_rfl⟩
/-- What the row's list gives a walk. -/
theorem db_of {W : World} {d : DataW Unit} {rest : List (String × DataW Unit)} (h : laidMet Tryd.prog (("math/bits.deBruijn32tab", d) :: ("math/bits.deBruijn64tab", Rows.laid_math_bits_deBruijn64tab) :: rest) W) :
    Db [(7, .ro fun j => if j = 1 then some (.int .u8 1) else none)] ∧ Holds W [(7, .ro fun j => if j = 1 then some (.int .u8 1) else none)] ∧ ∀ p ∈ [((7 : Nat), Blk.ro fun j => if j = 1 then some (.int .u8 1) else none)], p.2.excl = false := by
  obtain ⟨t, h1, h2, h3⟩ := g7t
  have hT := Lib.tabIs_of_head (k := .u8) (zs := [0, 1, 56, 2, 57, 49, 28, 3, 61, 58, 42, 50, 38, 29, 17, 4, 62, 47, 59, 36, 45, 43, 51, 22, 53, 39, 33, 30, 24, 18, 12, 5, 63, 55, 48, 27, 60, 41, 37, 16, 46, 35, 44, 21, 52, 32, 23, 11, 54, 26, 40, 15, 34, 20, 31, 10, 25, 14, 19, 9, 13, 8, 7, 6]) g7 h1 h2 (show Tryd.prog.underlying 5 = some (.int .u8) by kernel_rfl) (by kernel_rfl) h3 h.tail
  have hc : W.cell? ⟨7, 1, none⟩ = some (.int .u8 1) := hT.cell g7 1 (by decide)
  refine ⟨⟨_, .head _, rfl⟩, ⟨fun p hp => ?_, List.pairwise_singleton _ _⟩, fun p hp => ?_⟩
  · obtain rfl := List.mem_singleton.1 hp
    refine ⟨World.block_lt_of_cell? W _ hc, fun j v hj => ?_⟩
    by_cases h : j = 1
    · subst h
      injection hj with hj
      subst hj
      exact hc
    · simp only [h, if_false] at hj
      cases hj
  · obtain rfl := List.mem_singleton.1 hp
    rfl
theorem BitsNumbersW (a0 : Int) (a1 : Int) (a2 : ByteArray) (w : World) (h0_0 : (Lit.int .u64 a0).wf = true) (h1_0 : (Lit.int .i64 a1).wf = true) (h2_0 : a2.size ≤ reachBytes) (hL : laidMet Tryd.prog Rows.bitsNumbersRow.laid w) :
    Calls Tryd.prog 8 #[.int .u64 a0, .int .i64 a1, .string a2] w fun e w' => e = .returned (.bool true) ∧ Go.RowKit.Below w.heap.size w w' := by
  obtain ⟨hD, hw, hx⟩ := db_of hL
  have h0 := wf_u64 h0_0
  obtain ⟨n, rfl⟩ : ∃ n : Nat, a0 = (n : Int) := ⟨a0.toNat, by omega⟩
  exact (numbers_c (w := a1) (l := a2.data.toList) hD (by show n < 18446744073709551616; omega)).fin w hw hx
theorem BitsFiveW (a0 : ByteArray) (a1a : Option Addr) (a1l : Nat) (a1c : Nat) (w : World) (h0_0 : a0.size ≤ reachBytes) (h1_0 : SliceAt 1 B5 R5 w a1a a1l a1c) (hL : laidMet Tryd.prog Rows.bitsFiveRow.laid w) :
    Calls Tryd.prog 9 #[.string a0, .slice a1a a1l a1c] w fun e w' => e = .returned (.bool true) ∧ Go.RowKit.Below w.heap.size w w' := by
  obtain ⟨hD, hw, hx⟩ := db_of hL
  obtain ⟨H, L, rfl, hin, _, hw2, x2⟩ := inS_of (f := cB) (Good := fun _ => True) h1_0 (by decide) (fun _ => rfl) (fun cs hc => byte_of hc)
  have hs : a0.data.toList.length ≤ 140737488355328 := by
    simp only [reachBytes] at h0_0
    have : a0.data.toList.length = a0.size := Array.length_toList
    omega
  exact (five_c (s := a0.data.toList) (hD.mono fun p hp => List.mem_append_left _ hp) (hin.mono fun p hp => List.mem_append_right _ hp) hs).fin w (Holds.join hw hw2 hx x2) (excl_join hx x2)
theorem BitsBurstsW (a0 : ByteArray) (a1 : Int) (a2 : Int) (w : World) (h0_0 : a0.size ≤ reachBytes) (h1_0 : (Lit.int .u8 a1).wf = true) (h2_0 : (Lit.int .u16 a2).wf = true) (hL : laidMet Tryd.prog Rows.bitsBurstsRow.laid w) :
    Calls Tryd.prog 10 #[.string a0, .int .u8 a1, .int .u16 a2] w fun e w' => e = .returned (.bool true) ∧ Go.RowKit.Below w.heap.size w w' := by
  obtain ⟨hD, hw, hx⟩ := db_of hL
  have h1 := wf_u8 h1_0
  have h2 := wf_u16 h2_0
  obtain ⟨n, rfl⟩ : ∃ n : Nat, a1 = (n : Int) := ⟨a1.toNat, by omega⟩
  obtain ⟨m, rfl⟩ : ∃ n : Nat, a2 = (n : Int) := ⟨a2.toNat, by omega⟩
  have hs : a0.data.toList.length ≤ 140737488355328 := by
    simp only [reachBytes] at h0_0
    have : a0.data.toList.length = a0.size := Array.length_toList
    omega
  exact (bursts_c (s := a0.data.toList) hD (by omega) (by omega) hs).fin w hw hx
end Go.Proofs.YtijnjklofdmelaaDoor

