/- Layer 1: whether a text is bits: by walks. -/
import Derived.Test.YtijnjklofdmelaaDoorBX
import Derived.Test.YtijnjklofdmelaaDoorBSx1
import Derived.Test.YtijnjklofdmelaaDoorRd
import Derived.Test.YtijnjklofdmelaaDoorTy
import Derived.Lib.LaidTab
import Derived.Stop.LaidErr
import Derived.Recover
import Derived.Lib.MakeNoZero
import Derived.Laws.CopyRow
import Derived.Laws.Small

set_option linter.unusedVariables false
set_option linter.unusedSimpArgs false
set_option maxRecDepth 100000
set_option maxHeartbeats 4000000
namespace Go.Proofs.YtijnjklofdmelaaDoor
open Sx
abbrev ptr (r : Nat) : Value := .pointer (some ⟨r, 0, none⟩)
/-- A byte that is a bit. -/
def isB (b : UInt8) : Bool := Nat.beq b.toNat 48 || Nat.beq b.toNat 49
/-- The set of them. -/
def asc : List Value := (List.range 256).map fun n => .bool (Nat.beq n 48 || Nat.beq n 49)
theorem asc_at (b : UInt8) : asc[b.toNat]? = some (.bool (isB b)) := by
  have := b.toNat_lt
  rw [asc, List.getElem?_map, List.getElem?_range (by omega)]; rfl
section
variable {K : Value → Heap → Prop} {H : Heap}
theorem c74 {r : Nat} {b : UInt8} {t : TypeId} {fz : Nat × Nat} (hm : (r, Blk.row t asc fz) ∈ H) (hK : K (.bool (isB b)) H) : SCalls Tryd.prog 74 [ptr r, .int .u8 (b.toNat : Int)] H K := by
  have hb : b.toNat < 256 := by have := b.toNat_lt; omega
  have hc : (Blk.row t asc fz).cell (0 + b.toNat * 1) = some (.bool (isB b)) := by
    show asc[0 + b.toNat * 1]? = _
    rw [Nat.zero_add, Nat.mul_one]; exact asc_at b
  refine enter74 ?_
  repeat' ((conv => whnf); (first | refine Look.cell hm hc ?_ | with_reducible exact Keep.all hK | refine New.mk (fun _ => ?_) | refine Look.at0 ?_ | refine Cell.row ?_ | refine Cell.buf ?_ | refine Cells.row rfl ?_ | refine Put.row rfl ?_ | refine Put.buf rfl ?_ | refine Look.at1 ?_ | refine Look.at2 ?_ | refine Look.at3 ?_ | refine Look.at4 ?_ | refine Look.at5 ?_ | refine Look.at6 ?_ | refine Look.at7 ?_ | refine Look.at8 ?_ | with_reducible refine Val.i64 (by omega) (by omega) ?_ | with_reducible refine Val.u8 (by omega) (by omega) ?_ | with_reducible refine Val.u32 (by omega) (by omega) ?_ | with_reducible refine Val.u64 (by omega) (by omega) ?_ | with_reducible refine Val.u8m ?_ | with_reducible refine Val.u32m ?_ | with_reducible refine Val.u64m ?_ | with_reducible refine Val.shr8 ?_ | with_reducible refine Val.shr16 (by decide) ?_ | with_reducible refine Val.shr24 (by decide) ?_ | with_reducible refine Val.raw ?_ | refine Branch.not ?_ | refine Branch.and ?_ | refine Branch.or ?_ | refine Branch.dt (by assumption) ?_ | refine Branch.df (by assumption) ?_ | refine Branch.dt rfl ?_ | refine Branch.dt (by omega) ?_ | refine Branch.df (by omega) ?_ | refine Branch.t rfl ?_ | refine Branch.f rfl ?_ | refine Branch.t (by assumption) ?_ | refine Branch.f (by assumption) ?_ | refine Branch.d (fun _ => ?_) (fun _ => ?_) | refine Branch.mk (fun _ => ?_) (fun _ => ?_) | refine Need.mk (by first | omega | decide | rfl) ?_ | refine Idx.nat (by omega) ?_ | refine Idx.auto (by first | omega | decide) (by first | omega | decide) ?_ | refine Cell.ro rfl ?_ | refine SDraw.all (by kernel_rfl) ?_ | refine Kept.k0 ?_ | refine Kept.k1 ?_ | refine Kept.k2 ?_ | refine Kept.k3 ?_ | refine Kept.k4 ?_))
theorem c53 (hK : K (.tuple ⟨[.agg ⟨asc⟩, .bool true]⟩) H) : SCalls Tryd.prog 53 [.string ⟨#[48, 49]⟩] H K := by
  have e : ∀ (r : Nat) (b : Blk) cs, cs = asc → Keep ((r, b) :: H) fun H' => K (.tuple ⟨[.agg ⟨cs⟩, .bool true]⟩) H' := by rintro r b _ rfl; exact Keep.d1 hK
  refine enter53 ?_
  repeat' ((conv => whnf); (first | refine SLoop.round ?_ | with_reducible refine e _ _ _ ?_ | refine New.mk (fun _ => ?_) | refine Look.at0 ?_ | refine Cell.row ?_ | refine Cell.buf ?_ | refine Cells.row rfl ?_ | refine Put.row rfl ?_ | refine Put.buf rfl ?_ | refine Look.at1 ?_ | refine Look.at2 ?_ | refine Look.at3 ?_ | refine Look.at4 ?_ | refine Look.at5 ?_ | refine Look.at6 ?_ | refine Look.at7 ?_ | refine Look.at8 ?_ | with_reducible refine Val.i64 (by omega) (by omega) ?_ | with_reducible refine Val.u8 (by omega) (by omega) ?_ | with_reducible refine Val.u32 (by omega) (by omega) ?_ | with_reducible refine Val.u64 (by omega) (by omega) ?_ | with_reducible refine Val.u8m ?_ | with_reducible refine Val.u32m ?_ | with_reducible refine Val.u64m ?_ | with_reducible refine Val.shr8 ?_ | with_reducible refine Val.shr16 (by decide) ?_ | with_reducible refine Val.shr24 (by decide) ?_ | with_reducible refine Val.raw ?_ | refine Branch.not ?_ | refine Branch.and ?_ | refine Branch.or ?_ | refine Branch.dt (by assumption) ?_ | refine Branch.df (by assumption) ?_ | refine Branch.dt rfl ?_ | refine Branch.dt (by omega) ?_ | refine Branch.df (by omega) ?_ | refine Branch.t rfl ?_ | refine Branch.f rfl ?_ | refine Branch.t (by assumption) ?_ | refine Branch.f (by assumption) ?_ | refine Branch.d (fun _ => ?_) (fun _ => ?_) | refine Branch.mk (fun _ => ?_) (fun _ => ?_) | refine Need.mk (by first | omega | decide | rfl) ?_ | refine Idx.nat (by omega) ?_ | refine Idx.auto (by first | omega | decide) (by first | omega | decide) ?_ | refine Cell.ro rfl ?_ | refine SDraw.all (by kernel_rfl) ?_ | refine Kept.k0 ?_ | refine Kept.k1 ?_ | refine Kept.k2 ?_ | refine Kept.k3 ?_ | refine Kept.k4 ?_))
  all_goals kernel_rfl
/-- What is left, right and left. -/
inductive S55 (A0 A1 : Value) : List Value → Prop
  | mk {r2 r3 r4 r5 r6 r7 r8 r9 r10 r11 r12 r13 r14 r15 r16 r17 r18 r19 r20 r21 : Value} : S55 A0 A1 [A0, A1, r2, r3, r4, r5, r6, r7, r8, r9, r10, r11, r12, r13, r14, r15, r16, r17, r18, r19, r20, r21]
def rT (l : List UInt8) (m : List UInt8) : Prop := ∃ t, l = m ++ t ∧ ∀ b ∈ t, isB b = true
def lT (l : List UInt8) (m : List UInt8) : Prop := ∃ t, l = t ++ m ∧ ∀ b ∈ t, isB b = true
theorem c55 {r : Nat} {l : List UInt8} {t : TypeId} {fz : Nat × Nat} (hm : (r, Blk.row t asc fz) ∈ H) (hl : l.length ≤ 65536) (hK : ∀ m, rT l m → (m = [] ∨ ∃ a b, m = a ++ [b] ∧ isB b = false) → K (.string (strOf m)) H) : SCalls Tryd.prog 55 [.string (strOf l), ptr r] H K := by
  refine enter55 ?_
  repeat' ((conv => whnf); (first | refine New.mk (fun _ => ?_) | refine Look.at0 ?_ | refine Cell.row ?_ | refine Cell.buf ?_ | refine Cells.row rfl ?_ | refine Put.row rfl ?_ | refine Put.buf rfl ?_ | refine Look.at1 ?_ | refine Look.at2 ?_ | refine Look.at3 ?_ | refine Look.at4 ?_ | refine Look.at5 ?_ | refine Look.at6 ?_ | refine Look.at7 ?_ | refine Look.at8 ?_ | with_reducible refine Val.i64 (by omega) (by omega) ?_ | with_reducible refine Val.u8 (by omega) (by omega) ?_ | with_reducible refine Val.u32 (by omega) (by omega) ?_ | with_reducible refine Val.u64 (by omega) (by omega) ?_ | with_reducible refine Val.u8m ?_ | with_reducible refine Val.u32m ?_ | with_reducible refine Val.u64m ?_ | with_reducible refine Val.shr8 ?_ | with_reducible refine Val.shr16 (by decide) ?_ | with_reducible refine Val.shr24 (by decide) ?_ | with_reducible refine Val.raw ?_ | refine Branch.not ?_ | refine Branch.and ?_ | refine Branch.or ?_ | refine Branch.dt (by assumption) ?_ | refine Branch.df (by assumption) ?_ | refine Branch.dt rfl ?_ | refine Branch.dt (by omega) ?_ | refine Branch.df (by omega) ?_ | refine Branch.t rfl ?_ | refine Branch.f rfl ?_ | refine Branch.t (by assumption) ?_ | refine Branch.f (by assumption) ?_ | refine Branch.d (fun _ => ?_) (fun _ => ?_) | refine Branch.mk (fun _ => ?_) (fun _ => ?_) | refine Need.mk (by first | omega | decide | rfl) ?_ | refine Idx.nat (by omega) ?_ | refine Idx.auto (by first | omega | decide) (by first | omega | decide) ?_ | refine Cell.ro rfl ?_ | refine SDraw.all (by kernel_rfl) ?_ | refine Kept.k0 ?_ | refine Kept.k1 ?_ | refine Kept.k2 ?_ | refine Kept.k3 ?_ | refine Kept.k4 ?_))
  refine SLoop.invA (fun (m : List UInt8) S H' => rT l m ∧ S55 (.string (strOf m)) (ptr r) S ∧ H' = H) (fun m => m.length) l (Keep.all ⟨⟨[], by simp, fun b hb => by cases hb⟩, .mk, rfl⟩) ?_
  rintro m S H' ⟨hT, hS, rfl⟩ R hR
  cases hS
  have hml : m.length ≤ 65536 := by
    obtain ⟨t, h1, _⟩ := hT
    have := congrArg List.length h1
    rw [List.length_append] at this; omega
  by_cases h0 : m = []
  · have hk := hK m hT (.inl h0)
    subst h0
    clear hR hK
    repeat' ((conv => whnf); (first | refine Branch.f rfl ?_ | with_reducible exact Keep.all hk | refine New.mk (fun _ => ?_) | refine Look.at0 ?_ | refine Cell.row ?_ | refine Cell.buf ?_ | refine Cells.row rfl ?_ | refine Put.row rfl ?_ | refine Put.buf rfl ?_ | refine Look.at1 ?_ | refine Look.at2 ?_ | refine Look.at3 ?_ | refine Look.at4 ?_ | refine Look.at5 ?_ | refine Look.at6 ?_ | refine Look.at7 ?_ | refine Look.at8 ?_ | with_reducible refine Val.i64 (by omega) (by omega) ?_ | with_reducible refine Val.u8 (by omega) (by omega) ?_ | with_reducible refine Val.u32 (by omega) (by omega) ?_ | with_reducible refine Val.u64 (by omega) (by omega) ?_ | with_reducible refine Val.u8m ?_ | with_reducible refine Val.u32m ?_ | with_reducible refine Val.u64m ?_ | with_reducible refine Val.shr8 ?_ | with_reducible refine Val.shr16 (by decide) ?_ | with_reducible refine Val.shr24 (by decide) ?_ | with_reducible refine Val.raw ?_ | refine Branch.not ?_ | refine Branch.and ?_ | refine Branch.or ?_ | refine Branch.dt (by assumption) ?_ | refine Branch.df (by assumption) ?_ | refine Branch.dt rfl ?_ | refine Branch.dt (by omega) ?_ | refine Branch.df (by omega) ?_ | refine Branch.t rfl ?_ | refine Branch.f rfl ?_ | refine Branch.t (by assumption) ?_ | refine Branch.f (by assumption) ?_ | refine Branch.d (fun _ => ?_) (fun _ => ?_) | refine Branch.mk (fun _ => ?_) (fun _ => ?_) | refine Need.mk (by first | omega | decide | rfl) ?_ | refine Idx.nat (by omega) ?_ | refine Idx.auto (by first | omega | decide) (by first | omega | decide) ?_ | refine Cell.ro rfl ?_ | refine SDraw.all (by kernel_rfl) ?_ | refine Kept.k0 ?_ | refine Kept.k1 ?_ | refine Kept.k2 ?_ | refine Kept.k3 ?_ | refine Kept.k4 ?_))
  · obtain ⟨a, b, rfl⟩ : ∃ a b, m = a ++ [b] := ⟨m.dropLast, m.getLast h0, (List.dropLast_concat_getLast h0).symm⟩
    rw [List.length_append, List.length_singleton] at hml
    have hsz : ((strOf (a ++ [b])).size : Int) = (a.length : Int) + 1 := by rw [strOf_size]; simp
    have hat : byteAt (strOf (a ++ [b])) a.length = (b.toNat : Int) := byteAt_of (by simp)
    have hcut : (strOf (a ++ [b])).extract 0 a.length = strOf a := by rw [strOf_cut]; simp
    have h74 := fun (K : Value → Heap → Prop) (hk : K (.bool (isB b)) H') => c74 (b := b) hm hk
    have hsz2 : (strOf (a ++ [b])).size = a.length + 1 := by rw [strOf_size]; simp
    cases hb : isB b with
    | false =>
      have hk := hK _ hT (.inr ⟨a, b, rfl, hb⟩)
      rw [hb] at h74
      clear hR hK
      repeat' ((conv => whnf); (first | refine Branch.dt (by omega) ?_ | with_reducible refine Val.to (a.length : Int) (by rw [wrap_i64 (by omega) (by omega)]; omega) ?_ | refine Idx.of a.length rfl (by omega) ?_ | with_reducible rw [hat] | with_reducible refine h74 _ ?_ | with_reducible exact Keep.all hk | refine New.mk (fun _ => ?_) | refine Look.at0 ?_ | refine Cell.row ?_ | refine Cell.buf ?_ | refine Cells.row rfl ?_ | refine Put.row rfl ?_ | refine Put.buf rfl ?_ | refine Look.at1 ?_ | refine Look.at2 ?_ | refine Look.at3 ?_ | refine Look.at4 ?_ | refine Look.at5 ?_ | refine Look.at6 ?_ | refine Look.at7 ?_ | refine Look.at8 ?_ | with_reducible refine Val.i64 (by omega) (by omega) ?_ | with_reducible refine Val.u8 (by omega) (by omega) ?_ | with_reducible refine Val.u32 (by omega) (by omega) ?_ | with_reducible refine Val.u64 (by omega) (by omega) ?_ | with_reducible refine Val.u8m ?_ | with_reducible refine Val.u32m ?_ | with_reducible refine Val.u64m ?_ | with_reducible refine Val.shr8 ?_ | with_reducible refine Val.shr16 (by decide) ?_ | with_reducible refine Val.shr24 (by decide) ?_ | with_reducible refine Val.raw ?_ | refine Branch.not ?_ | refine Branch.and ?_ | refine Branch.or ?_ | refine Branch.dt (by assumption) ?_ | refine Branch.df (by assumption) ?_ | refine Branch.dt rfl ?_ | refine Branch.dt (by omega) ?_ | refine Branch.df (by omega) ?_ | refine Branch.t rfl ?_ | refine Branch.f rfl ?_ | refine Branch.t (by assumption) ?_ | refine Branch.f (by assumption) ?_ | refine Branch.d (fun _ => ?_) (fun _ => ?_) | refine Branch.mk (fun _ => ?_) (fun _ => ?_) | refine Need.mk (by first | omega | decide | rfl) ?_ | refine Idx.nat (by omega) ?_ | refine Idx.auto (by first | omega | decide) (by first | omega | decide) ?_ | refine Cell.ro rfl ?_ | refine SDraw.all (by kernel_rfl) ?_ | refine Kept.k0 ?_ | refine Kept.k1 ?_ | refine Kept.k2 ?_ | refine Kept.k3 ?_ | refine Kept.k4 ?_))
    | true =>
      have hk := fun S (hS : S55 (.string (strOf a)) (ptr r) S) => hR a S H' (by simp) (Keep.all ⟨by
        obtain ⟨t, h1, h2⟩ := hT
        exact ⟨b :: t, by rw [h1]; simp, fun x hx => by rcases List.mem_cons.1 hx with rfl | hx; exact hb; exact h2 x hx⟩, hS, rfl⟩)
      rw [hb] at h74
      clear hR hK
      repeat' ((conv => whnf); (first | refine Branch.dt (by omega) ?_ | with_reducible refine Val.to (a.length : Int) (by rw [wrap_i64 (by omega) (by omega)]; omega) ?_ | refine Idx.of a.length rfl (by omega) ?_ | with_reducible rw [hat] | with_reducible refine h74 _ ?_ | with_reducible rw [hcut] | with_reducible refine hk _ .mk | refine New.mk (fun _ => ?_) | refine Look.at0 ?_ | refine Cell.row ?_ | refine Cell.buf ?_ | refine Cells.row rfl ?_ | refine Put.row rfl ?_ | refine Put.buf rfl ?_ | refine Look.at1 ?_ | refine Look.at2 ?_ | refine Look.at3 ?_ | refine Look.at4 ?_ | refine Look.at5 ?_ | refine Look.at6 ?_ | refine Look.at7 ?_ | refine Look.at8 ?_ | with_reducible refine Val.i64 (by omega) (by omega) ?_ | with_reducible refine Val.u8 (by omega) (by omega) ?_ | with_reducible refine Val.u32 (by omega) (by omega) ?_ | with_reducible refine Val.u64 (by omega) (by omega) ?_ | with_reducible refine Val.u8m ?_ | with_reducible refine Val.u32m ?_ | with_reducible refine Val.u64m ?_ | with_reducible refine Val.shr8 ?_ | with_reducible refine Val.shr16 (by decide) ?_ | with_reducible refine Val.shr24 (by decide) ?_ | with_reducible refine Val.raw ?_ | refine Branch.not ?_ | refine Branch.and ?_ | refine Branch.or ?_ | refine Branch.dt (by assumption) ?_ | refine Branch.df (by assumption) ?_ | refine Branch.dt rfl ?_ | refine Branch.dt (by omega) ?_ | refine Branch.df (by omega) ?_ | refine Branch.t rfl ?_ | refine Branch.f rfl ?_ | refine Branch.t (by assumption) ?_ | refine Branch.f (by assumption) ?_ | refine Branch.d (fun _ => ?_) (fun _ => ?_) | refine Branch.mk (fun _ => ?_) (fun _ => ?_) | refine Need.mk (by first | omega | decide | rfl) ?_ | refine Idx.nat (by omega) ?_ | refine Idx.auto (by first | omega | decide) (by first | omega | decide) ?_ | refine Cell.ro rfl ?_ | refine SDraw.all (by kernel_rfl) ?_ | refine Kept.k0 ?_ | refine Kept.k1 ?_ | refine Kept.k2 ?_ | refine Kept.k3 ?_ | refine Kept.k4 ?_))
end
end Go.Proofs.YtijnjklofdmelaaDoor


/- Layer 1: whether a text is bits: Trim and check: by walks. -/
set_option linter.unusedVariables false
set_option linter.unusedSimpArgs false
set_option maxRecDepth 100000
set_option maxHeartbeats 4000000
namespace Go.Proofs.YtijnjklofdmelaaDoor
open Sx
inductive S54 (A0 A1 : Value) : List Value → Prop
  | mk {r2 r3 r4 r5 r6 r7 r8 r9 r10 r11 r12 r13 r14 r15 : Value} : S54 A0 A1 [A0, A1, r2, r3, r4, r5, r6, r7, r8, r9, r10, r11, r12, r13, r14, r15]
inductive S29 (A0 A3 : Value) : List Value → Prop
  | mk {r1 r2 r4 r5 r6 r7 r8 r9 r10 r11 r12 r13 r14 r15 r16 r17 r18 r19 r20 r21 r22 : Value} : S29 A0 A3 [A0, r1, r2, A3, r4, r5, r6, r7, r8, r9, r10, r11, r12, r13, r14, r15, r16, r17, r18, r19, r20, r21, r22]
/-- What is wrong with a text. -/
def chk (l : List UInt8) : Int := if 65536 < l.length then 2 else if l.all isB then 0 else 8
section
variable {K : Value → Heap → Prop} {H : Heap}
theorem c54 {r : Nat} {l : List UInt8} {t : TypeId} {fz : Nat × Nat} (hm : (r, Blk.row t asc fz) ∈ H) (hl : l.length ≤ 65536) (hK : ∀ m, lT l m → (m = [] ∨ ∃ a b, m = b :: a ∧ isB b = false) → K (.string (strOf m)) H) : SCalls Tryd.prog 54 [.string (strOf l), ptr r] H K := by
  refine enter54 ?_
  repeat' ((conv => whnf); (first | refine New.mk (fun _ => ?_) | refine Look.at0 ?_ | refine Cell.row ?_ | refine Cell.buf ?_ | refine Cells.row rfl ?_ | refine Put.row rfl ?_ | refine Put.buf rfl ?_ | refine Look.at1 ?_ | refine Look.at2 ?_ | refine Look.at3 ?_ | refine Look.at4 ?_ | refine Look.at5 ?_ | refine Look.at6 ?_ | refine Look.at7 ?_ | refine Look.at8 ?_ | with_reducible refine Val.i64 (by omega) (by omega) ?_ | with_reducible refine Val.u8 (by omega) (by omega) ?_ | with_reducible refine Val.u32 (by omega) (by omega) ?_ | with_reducible refine Val.u64 (by omega) (by omega) ?_ | with_reducible refine Val.u8m ?_ | with_reducible refine Val.u32m ?_ | with_reducible refine Val.u64m ?_ | with_reducible refine Val.shr8 ?_ | with_reducible refine Val.shr16 (by decide) ?_ | with_reducible refine Val.shr24 (by decide) ?_ | with_reducible refine Val.raw ?_ | refine Branch.not ?_ | refine Branch.and ?_ | refine Branch.or ?_ | refine Branch.dt (by assumption) ?_ | refine Branch.df (by assumption) ?_ | refine Branch.dt rfl ?_ | refine Branch.dt (by omega) ?_ | refine Branch.df (by omega) ?_ | refine Branch.t rfl ?_ | refine Branch.f rfl ?_ | refine Branch.t (by assumption) ?_ | refine Branch.f (by assumption) ?_ | refine Branch.d (fun _ => ?_) (fun _ => ?_) | refine Branch.mk (fun _ => ?_) (fun _ => ?_) | refine Need.mk (by first | omega | decide | rfl) ?_ | refine Idx.nat (by omega) ?_ | refine Idx.auto (by first | omega | decide) (by first | omega | decide) ?_ | refine Cell.ro rfl ?_ | refine SDraw.all (by kernel_rfl) ?_ | refine Kept.k0 ?_ | refine Kept.k1 ?_ | refine Kept.k2 ?_ | refine Kept.k3 ?_ | refine Kept.k4 ?_))
  refine SLoop.invA (fun (m : List UInt8) S H' => lT l m ∧ S54 (.string (strOf m)) (ptr r) S ∧ H' = H) (fun m => m.length) l (Keep.all ⟨⟨[], by simp, fun b hb => by cases hb⟩, .mk, rfl⟩) ?_
  rintro m S H' ⟨hT, hS, rfl⟩ R hR
  cases hS
  cases m with
  | nil =>
    have hk := hK [] hT (.inl rfl)
    clear hR hK
    repeat' ((conv => whnf); (first | refine Branch.f rfl ?_ | with_reducible exact Keep.all hk | refine New.mk (fun _ => ?_) | refine Look.at0 ?_ | refine Cell.row ?_ | refine Cell.buf ?_ | refine Cells.row rfl ?_ | refine Put.row rfl ?_ | refine Put.buf rfl ?_ | refine Look.at1 ?_ | refine Look.at2 ?_ | refine Look.at3 ?_ | refine Look.at4 ?_ | refine Look.at5 ?_ | refine Look.at6 ?_ | refine Look.at7 ?_ | refine Look.at8 ?_ | with_reducible refine Val.i64 (by omega) (by omega) ?_ | with_reducible refine Val.u8 (by omega) (by omega) ?_ | with_reducible refine Val.u32 (by omega) (by omega) ?_ | with_reducible refine Val.u64 (by omega) (by omega) ?_ | with_reducible refine Val.u8m ?_ | with_reducible refine Val.u32m ?_ | with_reducible refine Val.u64m ?_ | with_reducible refine Val.shr8 ?_ | with_reducible refine Val.shr16 (by decide) ?_ | with_reducible refine Val.shr24 (by decide) ?_ | with_reducible refine Val.raw ?_ | refine Branch.not ?_ | refine Branch.and ?_ | refine Branch.or ?_ | refine Branch.dt (by assumption) ?_ | refine Branch.df (by assumption) ?_ | refine Branch.dt rfl ?_ | refine Branch.dt (by omega) ?_ | refine Branch.df (by omega) ?_ | refine Branch.t rfl ?_ | refine Branch.f rfl ?_ | refine Branch.t (by assumption) ?_ | refine Branch.f (by assumption) ?_ | refine Branch.d (fun _ => ?_) (fun _ => ?_) | refine Branch.mk (fun _ => ?_) (fun _ => ?_) | refine Need.mk (by first | omega | decide | rfl) ?_ | refine Idx.nat (by omega) ?_ | refine Idx.auto (by first | omega | decide) (by first | omega | decide) ?_ | refine Cell.ro rfl ?_ | refine SDraw.all (by kernel_rfl) ?_ | refine Kept.k0 ?_ | refine Kept.k1 ?_ | refine Kept.k2 ?_ | refine Kept.k3 ?_ | refine Kept.k4 ?_))
  | cons b a =>
    have hsz2 : (strOf (b :: a)).size = a.length + 1 := by rw [strOf_size]; rfl
    have hat : byteAt (strOf (b :: a)) 0 = (b.toNat : Int) := byteAt_of rfl
    have hcut : (strOf (b :: a)).extract 1 (strOf (b :: a)).size = strOf a := by rw [strOf_cut, hsz2]; simp
    have h74 := fun (K : Value → Heap → Prop) (hk : K (.bool (isB b)) H') => c74 (b := b) hm hk
    cases hb : isB b with
    | false =>
      have hk := hK _ hT (.inr ⟨a, b, rfl, hb⟩)
      rw [hb] at h74
      clear hR hK
      repeat' ((conv => whnf); (first | refine Branch.dt (by omega) ?_ | refine Idx.of 0 rfl (by omega) ?_ | with_reducible rw [hat] | with_reducible refine h74 _ ?_ | with_reducible exact Keep.all hk | refine New.mk (fun _ => ?_) | refine Look.at0 ?_ | refine Cell.row ?_ | refine Cell.buf ?_ | refine Cells.row rfl ?_ | refine Put.row rfl ?_ | refine Put.buf rfl ?_ | refine Look.at1 ?_ | refine Look.at2 ?_ | refine Look.at3 ?_ | refine Look.at4 ?_ | refine Look.at5 ?_ | refine Look.at6 ?_ | refine Look.at7 ?_ | refine Look.at8 ?_ | with_reducible refine Val.i64 (by omega) (by omega) ?_ | with_reducible refine Val.u8 (by omega) (by omega) ?_ | with_reducible refine Val.u32 (by omega) (by omega) ?_ | with_reducible refine Val.u64 (by omega) (by omega) ?_ | with_reducible refine Val.u8m ?_ | with_reducible refine Val.u32m ?_ | with_reducible refine Val.u64m ?_ | with_reducible refine Val.shr8 ?_ | with_reducible refine Val.shr16 (by decide) ?_ | with_reducible refine Val.shr24 (by decide) ?_ | with_reducible refine Val.raw ?_ | refine Branch.not ?_ | refine Branch.and ?_ | refine Branch.or ?_ | refine Branch.dt (by assumption) ?_ | refine Branch.df (by assumption) ?_ | refine Branch.dt rfl ?_ | refine Branch.dt (by omega) ?_ | refine Branch.df (by omega) ?_ | refine Branch.t rfl ?_ | refine Branch.f rfl ?_ | refine Branch.t (by assumption) ?_ | refine Branch.f (by assumption) ?_ | refine Branch.d (fun _ => ?_) (fun _ => ?_) | refine Branch.mk (fun _ => ?_) (fun _ => ?_) | refine Need.mk (by first | omega | decide | rfl) ?_ | refine Idx.nat (by omega) ?_ | refine Idx.auto (by first | omega | decide) (by first | omega | decide) ?_ | refine Cell.ro rfl ?_ | refine SDraw.all (by kernel_rfl) ?_ | refine Kept.k0 ?_ | refine Kept.k1 ?_ | refine Kept.k2 ?_ | refine Kept.k3 ?_ | refine Kept.k4 ?_))
    | true =>
      have hk := fun S (hS : S54 (.string (strOf a)) (ptr r) S) => hR a S H' (by simp) (Keep.all ⟨by
        obtain ⟨t, h1, h2⟩ := hT
        exact ⟨t ++ [b], by rw [h1]; simp, fun x hx => by
          rcases List.mem_append.1 hx with hx | hx
          · exact h2 x hx
          · rw [List.mem_singleton.1 hx]; exact hb⟩, hS, rfl⟩)
      rw [hb] at h74
      clear hR hK
      repeat' ((conv => whnf); (first | refine Branch.dt (by omega) ?_ | refine Idx.of 0 rfl (by omega) ?_ | refine Idx.of 1 rfl (by omega) ?_ | with_reducible rw [hat] | with_reducible refine h74 _ ?_ | with_reducible rw [hcut] | with_reducible refine hk _ .mk | refine New.mk (fun _ => ?_) | refine Look.at0 ?_ | refine Cell.row ?_ | refine Cell.buf ?_ | refine Cells.row rfl ?_ | refine Put.row rfl ?_ | refine Put.buf rfl ?_ | refine Look.at1 ?_ | refine Look.at2 ?_ | refine Look.at3 ?_ | refine Look.at4 ?_ | refine Look.at5 ?_ | refine Look.at6 ?_ | refine Look.at7 ?_ | refine Look.at8 ?_ | with_reducible refine Val.i64 (by omega) (by omega) ?_ | with_reducible refine Val.u8 (by omega) (by omega) ?_ | with_reducible refine Val.u32 (by omega) (by omega) ?_ | with_reducible refine Val.u64 (by omega) (by omega) ?_ | with_reducible refine Val.u8m ?_ | with_reducible refine Val.u32m ?_ | with_reducible refine Val.u64m ?_ | with_reducible refine Val.shr8 ?_ | with_reducible refine Val.shr16 (by decide) ?_ | with_reducible refine Val.shr24 (by decide) ?_ | with_reducible refine Val.raw ?_ | refine Branch.not ?_ | refine Branch.and ?_ | refine Branch.or ?_ | refine Branch.dt (by assumption) ?_ | refine Branch.df (by assumption) ?_ | refine Branch.dt rfl ?_ | refine Branch.dt (by omega) ?_ | refine Branch.df (by omega) ?_ | refine Branch.t rfl ?_ | refine Branch.f rfl ?_ | refine Branch.t (by assumption) ?_ | refine Branch.f (by assumption) ?_ | refine Branch.d (fun _ => ?_) (fun _ => ?_) | refine Branch.mk (fun _ => ?_) (fun _ => ?_) | refine Need.mk (by first | omega | decide | rfl) ?_ | refine Idx.nat (by omega) ?_ | refine Idx.auto (by first | omega | decide) (by first | omega | decide) ?_ | refine Cell.ro rfl ?_ | refine SDraw.all (by kernel_rfl) ?_ | refine Kept.k0 ?_ | refine Kept.k1 ?_ | refine Kept.k2 ?_ | refine Kept.k3 ?_ | refine Kept.k4 ?_))
theorem emp : (⟨#[]⟩ : ByteArray) = strOf [] := rfl
/-- Behind Trim nothing is left of bits alone. -/
theorem c40 {l : List UInt8} (hl : l.length ≤ 65536) (hK : ∀ m, (m = [] ↔ l.all isB = true) → K (.string (strOf m)) H) : SCalls Tryd.prog 40 [.string (strOf l), .string ⟨#[48, 49]⟩] H K := by
  refine enter40 ?_
  by_cases h0 : l = []
  · subst h0
    have hk := hK [] (by simp)
    clear hK
    repeat' ((conv => whnf); (first | refine Branch.t rfl ?_ | refine Branch.f rfl ?_ | with_reducible exact Keep.all hk | refine New.mk (fun _ => ?_) | refine Look.at0 ?_ | refine Cell.row ?_ | refine Cell.buf ?_ | refine Cells.row rfl ?_ | refine Put.row rfl ?_ | refine Put.buf rfl ?_ | refine Look.at1 ?_ | refine Look.at2 ?_ | refine Look.at3 ?_ | refine Look.at4 ?_ | refine Look.at5 ?_ | refine Look.at6 ?_ | refine Look.at7 ?_ | refine Look.at8 ?_ | with_reducible refine Val.i64 (by omega) (by omega) ?_ | with_reducible refine Val.u8 (by omega) (by omega) ?_ | with_reducible refine Val.u32 (by omega) (by omega) ?_ | with_reducible refine Val.u64 (by omega) (by omega) ?_ | with_reducible refine Val.u8m ?_ | with_reducible refine Val.u32m ?_ | with_reducible refine Val.u64m ?_ | with_reducible refine Val.shr8 ?_ | with_reducible refine Val.shr16 (by decide) ?_ | with_reducible refine Val.shr24 (by decide) ?_ | with_reducible refine Val.raw ?_ | refine Branch.not ?_ | refine Branch.and ?_ | refine Branch.or ?_ | refine Branch.dt (by assumption) ?_ | refine Branch.df (by assumption) ?_ | refine Branch.dt rfl ?_ | refine Branch.dt (by omega) ?_ | refine Branch.df (by omega) ?_ | refine Branch.t rfl ?_ | refine Branch.f rfl ?_ | refine Branch.t (by assumption) ?_ | refine Branch.f (by assumption) ?_ | refine Branch.d (fun _ => ?_) (fun _ => ?_) | refine Branch.mk (fun _ => ?_) (fun _ => ?_) | refine Need.mk (by first | omega | decide | rfl) ?_ | refine Idx.nat (by omega) ?_ | refine Idx.auto (by first | omega | decide) (by first | omega | decide) ?_ | refine Cell.ro rfl ?_ | refine SDraw.all (by kernel_rfl) ?_ | refine Kept.k0 ?_ | refine Kept.k1 ?_ | refine Kept.k2 ?_ | refine Kept.k3 ?_ | refine Kept.k4 ?_))
  · have he : strOf l ≠ ⟨#[]⟩ := fun e => h0 (strOf_inj e)
    have h2 : ∀ (r : Nat) (b : Blk) m m', rT l m → (m = [] ∨ ∃ a b, m = a ++ [b] ∧ isB b = false) → lT m m' → (m' = [] ∨ ∃ a b, m' = b :: a ∧ isB b = false) → Keep ((r, b) :: H) fun H' => K (.string (strOf m')) H' := by
      intro r b m m' ⟨t, e1, e2⟩ e3 ⟨t', e4, e5⟩ e6
      refine Keep.d1 (hK m' ?_)
      rw [List.all_eq_true]
      constructor
      · rintro rfl
        rw [List.append_nil] at e4
        subst e4
        intro x hx
        rw [e1] at hx
        rcases List.mem_append.1 hx with hx | hx
        · exact e5 x hx
        · exact e2 x hx
      · intro hall
        rcases e6 with e6 | ⟨a, c, rfl, hc⟩
        · exact e6
        · have := hall c (by rw [e1, e4]; simp)
          rw [hc] at this; cases this
    have h55 := fun (r : Nat) (t : TypeId) (fz : Nat × Nat) (H : Heap) (K : Value → Heap → Prop) hk => c55 (K := K) (H := (r, Blk.row t asc fz) :: H) (.head _) hl hk
    have hlen : ∀ m, rT l m → m.length ≤ 65536 := by
      rintro m ⟨t, e1, _⟩
      have := congrArg List.length e1
      rw [List.length_append] at this; omega
    clear hK
    repeat' ((conv => whnf); (first | refine Branch.f (by first | (simp only [he, decide_false]; done)) ?_ | refine Branch.f rfl ?_ | refine Branch.t rfl ?_ | refine c53 ?_ | refine h55 _ _ _ _ _ (fun m hm1 hm2 => ?_) | refine c54 (.head _) (hlen m hm1) (fun m' hm3 hm4 => ?_) | with_reducible exact h2 _ _ _ _ hm1 hm2 hm3 hm4 | refine New.mk (fun _ => ?_) | refine Look.at0 ?_ | refine Cell.row ?_ | refine Cell.buf ?_ | refine Cells.row rfl ?_ | refine Put.row rfl ?_ | refine Put.buf rfl ?_ | refine Look.at1 ?_ | refine Look.at2 ?_ | refine Look.at3 ?_ | refine Look.at4 ?_ | refine Look.at5 ?_ | refine Look.at6 ?_ | refine Look.at7 ?_ | refine Look.at8 ?_ | with_reducible refine Val.i64 (by omega) (by omega) ?_ | with_reducible refine Val.u8 (by omega) (by omega) ?_ | with_reducible refine Val.u32 (by omega) (by omega) ?_ | with_reducible refine Val.u64 (by omega) (by omega) ?_ | with_reducible refine Val.u8m ?_ | with_reducible refine Val.u32m ?_ | with_reducible refine Val.u64m ?_ | with_reducible refine Val.shr8 ?_ | with_reducible refine Val.shr16 (by decide) ?_ | with_reducible refine Val.shr24 (by decide) ?_ | with_reducible refine Val.raw ?_ | refine Branch.not ?_ | refine Branch.and ?_ | refine Branch.or ?_ | refine Branch.dt (by assumption) ?_ | refine Branch.df (by assumption) ?_ | refine Branch.dt rfl ?_ | refine Branch.dt (by omega) ?_ | refine Branch.df (by omega) ?_ | refine Branch.t rfl ?_ | refine Branch.f rfl ?_ | refine Branch.t (by assumption) ?_ | refine Branch.f (by assumption) ?_ | refine Branch.d (fun _ => ?_) (fun _ => ?_) | refine Branch.mk (fun _ => ?_) (fun _ => ?_) | refine Need.mk (by first | omega | decide | rfl) ?_ | refine Idx.nat (by omega) ?_ | refine Idx.auto (by first | omega | decide) (by first | omega | decide) ?_ | refine Cell.ro rfl ?_ | refine SDraw.all (by kernel_rfl) ?_ | refine Kept.k0 ?_ | refine Kept.k1 ?_ | refine Kept.k2 ?_ | refine Kept.k3 ?_ | refine Kept.k4 ?_))
theorem c32 {l : List UInt8} (hK : K (.int .i64 (chk l)) H) : SCalls Tryd.prog 32 [.string (strOf l)] H K := by
  refine enter32 ?_
  unfold chk at hK
  by_cases h1 : 65536 < l.length
  · rw [if_pos h1] at hK
    have hsz : (65536 : Int) < ((strOf l).size : Int) := by rw [strOf_size]; omega
    repeat' ((conv => whnf); (first | refine Branch.dt hsz ?_ | with_reducible exact Keep.all hK | refine New.mk (fun _ => ?_) | refine Look.at0 ?_ | refine Cell.row ?_ | refine Cell.buf ?_ | refine Cells.row rfl ?_ | refine Put.row rfl ?_ | refine Put.buf rfl ?_ | refine Look.at1 ?_ | refine Look.at2 ?_ | refine Look.at3 ?_ | refine Look.at4 ?_ | refine Look.at5 ?_ | refine Look.at6 ?_ | refine Look.at7 ?_ | refine Look.at8 ?_ | with_reducible refine Val.i64 (by omega) (by omega) ?_ | with_reducible refine Val.u8 (by omega) (by omega) ?_ | with_reducible refine Val.u32 (by omega) (by omega) ?_ | with_reducible refine Val.u64 (by omega) (by omega) ?_ | with_reducible refine Val.u8m ?_ | with_reducible refine Val.u32m ?_ | with_reducible refine Val.u64m ?_ | with_reducible refine Val.shr8 ?_ | with_reducible refine Val.shr16 (by decide) ?_ | with_reducible refine Val.shr24 (by decide) ?_ | with_reducible refine Val.raw ?_ | refine Branch.not ?_ | refine Branch.and ?_ | refine Branch.or ?_ | refine Branch.dt (by assumption) ?_ | refine Branch.df (by assumption) ?_ | refine Branch.dt rfl ?_ | refine Branch.dt (by omega) ?_ | refine Branch.df (by omega) ?_ | refine Branch.t rfl ?_ | refine Branch.f rfl ?_ | refine Branch.t (by assumption) ?_ | refine Branch.f (by assumption) ?_ | refine Branch.d (fun _ => ?_) (fun _ => ?_) | refine Branch.mk (fun _ => ?_) (fun _ => ?_) | refine Need.mk (by first | omega | decide | rfl) ?_ | refine Idx.nat (by omega) ?_ | refine Idx.auto (by first | omega | decide) (by first | omega | decide) ?_ | refine Cell.ro rfl ?_ | refine SDraw.all (by kernel_rfl) ?_ | refine Kept.k0 ?_ | refine Kept.k1 ?_ | refine Kept.k2 ?_ | refine Kept.k3 ?_ | refine Kept.k4 ?_))
  · rw [if_neg h1] at hK
    have hsz : ¬ (65536 : Int) < ((strOf l).size : Int) := by rw [strOf_size]; omega
    have h2 : ∀ m, (m = [] ↔ l.all isB = true) → (strOf m = ⟨#[]⟩ ↔ l.all isB = true) := fun m hm => ⟨fun e => hm.1 (strOf_inj (e.trans emp)), fun e => by rw [hm.2 e]; rfl⟩
    cases hb : l.all isB with
    | true =>
      rw [hb, if_pos rfl] at hK
      rw [hb] at h2
      have h40 := fun (K : Value → Heap → Prop) hk => c40 (l := l) (K := K) (H := H) (by omega) hk
      repeat' ((conv => whnf); (first | refine Branch.df hsz ?_ | with_reducible refine h40 _ (fun m hm => ?_) | refine Branch.f (by have := (h2 m (by rw [hm, hb])).2 rfl; simp [this]) ?_ | with_reducible exact Keep.all hK | refine New.mk (fun _ => ?_) | refine Look.at0 ?_ | refine Cell.row ?_ | refine Cell.buf ?_ | refine Cells.row rfl ?_ | refine Put.row rfl ?_ | refine Put.buf rfl ?_ | refine Look.at1 ?_ | refine Look.at2 ?_ | refine Look.at3 ?_ | refine Look.at4 ?_ | refine Look.at5 ?_ | refine Look.at6 ?_ | refine Look.at7 ?_ | refine Look.at8 ?_ | with_reducible refine Val.i64 (by omega) (by omega) ?_ | with_reducible refine Val.u8 (by omega) (by omega) ?_ | with_reducible refine Val.u32 (by omega) (by omega) ?_ | with_reducible refine Val.u64 (by omega) (by omega) ?_ | with_reducible refine Val.u8m ?_ | with_reducible refine Val.u32m ?_ | with_reducible refine Val.u64m ?_ | with_reducible refine Val.shr8 ?_ | with_reducible refine Val.shr16 (by decide) ?_ | with_reducible refine Val.shr24 (by decide) ?_ | with_reducible refine Val.raw ?_ | refine Branch.not ?_ | refine Branch.and ?_ | refine Branch.or ?_ | refine Branch.dt (by assumption) ?_ | refine Branch.df (by assumption) ?_ | refine Branch.dt rfl ?_ | refine Branch.dt (by omega) ?_ | refine Branch.df (by omega) ?_ | refine Branch.t rfl ?_ | refine Branch.f rfl ?_ | refine Branch.t (by assumption) ?_ | refine Branch.f (by assumption) ?_ | refine Branch.d (fun _ => ?_) (fun _ => ?_) | refine Branch.mk (fun _ => ?_) (fun _ => ?_) | refine Need.mk (by first | omega | decide | rfl) ?_ | refine Idx.nat (by omega) ?_ | refine Idx.auto (by first | omega | decide) (by first | omega | decide) ?_ | refine Cell.ro rfl ?_ | refine SDraw.all (by kernel_rfl) ?_ | refine Kept.k0 ?_ | refine Kept.k1 ?_ | refine Kept.k2 ?_ | refine Kept.k3 ?_ | refine Kept.k4 ?_))
    | false =>
      rw [hb, if_neg (by decide)] at hK
      rw [hb] at h2
      have h40 := fun (K : Value → Heap → Prop) hk => c40 (l := l) (K := K) (H := H) (by omega) hk
      repeat' ((conv => whnf); (first | refine Branch.df hsz ?_ | with_reducible refine h40 _ (fun m hm => ?_) | refine Branch.t (by have : ¬ strOf m = ⟨#[]⟩ := (fun e => by have := (h2 m (by rw [hm, hb])).1 e; cases this); simp [this]) ?_ | with_reducible exact Keep.all hK | refine New.mk (fun _ => ?_) | refine Look.at0 ?_ | refine Cell.row ?_ | refine Cell.buf ?_ | refine Cells.row rfl ?_ | refine Put.row rfl ?_ | refine Put.buf rfl ?_ | refine Look.at1 ?_ | refine Look.at2 ?_ | refine Look.at3 ?_ | refine Look.at4 ?_ | refine Look.at5 ?_ | refine Look.at6 ?_ | refine Look.at7 ?_ | refine Look.at8 ?_ | with_reducible refine Val.i64 (by omega) (by omega) ?_ | with_reducible refine Val.u8 (by omega) (by omega) ?_ | with_reducible refine Val.u32 (by omega) (by omega) ?_ | with_reducible refine Val.u64 (by omega) (by omega) ?_ | with_reducible refine Val.u8m ?_ | with_reducible refine Val.u32m ?_ | with_reducible refine Val.u64m ?_ | with_reducible refine Val.shr8 ?_ | with_reducible refine Val.shr16 (by decide) ?_ | with_reducible refine Val.shr24 (by decide) ?_ | with_reducible refine Val.raw ?_ | refine Branch.not ?_ | refine Branch.and ?_ | refine Branch.or ?_ | refine Branch.dt (by assumption) ?_ | refine Branch.df (by assumption) ?_ | refine Branch.dt rfl ?_ | refine Branch.dt (by omega) ?_ | refine Branch.df (by omega) ?_ | refine Branch.t rfl ?_ | refine Branch.f rfl ?_ | refine Branch.t (by assumption) ?_ | refine Branch.f (by assumption) ?_ | refine Branch.d (fun _ => ?_) (fun _ => ?_) | refine Branch.mk (fun _ => ?_) (fun _ => ?_) | refine Need.mk (by first | omega | decide | rfl) ?_ | refine Idx.nat (by omega) ?_ | refine Idx.auto (by first | omega | decide) (by first | omega | decide) ?_ | refine Cell.ro rfl ?_ | refine SDraw.all (by kernel_rfl) ?_ | refine Kept.k0 ?_ | refine Kept.k1 ?_ | refine Kept.k2 ?_ | refine Kept.k3 ?_ | refine Kept.k4 ?_))
/-- The document's. -/
theorem c29 {l : List UInt8} (hK : K (.int .i64 (chk l)) H) : SCalls Tryd.prog 29 [.string (strOf l)] H K := by
  refine enter29 ?_
  unfold chk at hK
  by_cases h1 : 65536 < l.length
  · rw [if_pos h1] at hK
    have hsz : (65536 : Int) < ((strOf l).size : Int) := by rw [strOf_size]; omega
    repeat' ((conv => whnf); (first | refine Branch.dt hsz ?_ | with_reducible exact Keep.all hK | refine New.mk (fun _ => ?_) | refine Look.at0 ?_ | refine Cell.row ?_ | refine Cell.buf ?_ | refine Cells.row rfl ?_ | refine Put.row rfl ?_ | refine Put.buf rfl ?_ | refine Look.at1 ?_ | refine Look.at2 ?_ | refine Look.at3 ?_ | refine Look.at4 ?_ | refine Look.at5 ?_ | refine Look.at6 ?_ | refine Look.at7 ?_ | refine Look.at8 ?_ | with_reducible refine Val.i64 (by omega) (by omega) ?_ | with_reducible refine Val.u8 (by omega) (by omega) ?_ | with_reducible refine Val.u32 (by omega) (by omega) ?_ | with_reducible refine Val.u64 (by omega) (by omega) ?_ | with_reducible refine Val.u8m ?_ | with_reducible refine Val.u32m ?_ | with_reducible refine Val.u64m ?_ | with_reducible refine Val.shr8 ?_ | with_reducible refine Val.shr16 (by decide) ?_ | with_reducible refine Val.shr24 (by decide) ?_ | with_reducible refine Val.raw ?_ | refine Branch.not ?_ | refine Branch.and ?_ | refine Branch.or ?_ | refine Branch.dt (by assumption) ?_ | refine Branch.df (by assumption) ?_ | refine Branch.dt rfl ?_ | refine Branch.dt (by omega) ?_ | refine Branch.df (by omega) ?_ | refine Branch.t rfl ?_ | refine Branch.f rfl ?_ | refine Branch.t (by assumption) ?_ | refine Branch.f (by assumption) ?_ | refine Branch.d (fun _ => ?_) (fun _ => ?_) | refine Branch.mk (fun _ => ?_) (fun _ => ?_) | refine Need.mk (by first | omega | decide | rfl) ?_ | refine Idx.nat (by omega) ?_ | refine Idx.auto (by first | omega | decide) (by first | omega | decide) ?_ | refine Cell.ro rfl ?_ | refine SDraw.all (by kernel_rfl) ?_ | refine Kept.k0 ?_ | refine Kept.k1 ?_ | refine Kept.k2 ?_ | refine Kept.k3 ?_ | refine Kept.k4 ?_))
  · rw [if_neg h1] at hK
    have hsz : ¬ (65536 : Int) < ((strOf l).size : Int) := by rw [strOf_size]; omega
    repeat' ((conv => whnf); (first | refine Branch.df hsz ?_ | refine New.mk (fun _ => ?_) | refine Look.at0 ?_ | refine Cell.row ?_ | refine Cell.buf ?_ | refine Cells.row rfl ?_ | refine Put.row rfl ?_ | refine Put.buf rfl ?_ | refine Look.at1 ?_ | refine Look.at2 ?_ | refine Look.at3 ?_ | refine Look.at4 ?_ | refine Look.at5 ?_ | refine Look.at6 ?_ | refine Look.at7 ?_ | refine Look.at8 ?_ | with_reducible refine Val.i64 (by omega) (by omega) ?_ | with_reducible refine Val.u8 (by omega) (by omega) ?_ | with_reducible refine Val.u32 (by omega) (by omega) ?_ | with_reducible refine Val.u64 (by omega) (by omega) ?_ | with_reducible refine Val.u8m ?_ | with_reducible refine Val.u32m ?_ | with_reducible refine Val.u64m ?_ | with_reducible refine Val.shr8 ?_ | with_reducible refine Val.shr16 (by decide) ?_ | with_reducible refine Val.shr24 (by decide) ?_ | with_reducible refine Val.raw ?_ | refine Branch.not ?_ | refine Branch.and ?_ | refine Branch.or ?_ | refine Branch.dt (by assumption) ?_ | refine Branch.df (by assumption) ?_ | refine Branch.dt rfl ?_ | refine Branch.dt (by omega) ?_ | refine Branch.df (by omega) ?_ | refine Branch.t rfl ?_ | refine Branch.f rfl ?_ | refine Branch.t (by assumption) ?_ | refine Branch.f (by assumption) ?_ | refine Branch.d (fun _ => ?_) (fun _ => ?_) | refine Branch.mk (fun _ => ?_) (fun _ => ?_) | refine Need.mk (by first | omega | decide | rfl) ?_ | refine Idx.nat (by omega) ?_ | refine Idx.auto (by first | omega | decide) (by first | omega | decide) ?_ | refine Cell.ro rfl ?_ | refine SDraw.all (by kernel_rfl) ?_ | refine Kept.k0 ?_ | refine Kept.k1 ?_ | refine Kept.k2 ?_ | refine Kept.k3 ?_ | refine Kept.k4 ?_))
    refine SLoop.invA (fun (j : Nat) S H' => j ≤ l.length ∧ (l.take j).all isB = true ∧ S29 (.string (strOf l)) (.int .i64 (j : Int)) S ∧ H' = H) (fun j => l.length - j) 0 (Keep.all ⟨Nat.zero_le _, rfl, .mk, rfl⟩) ?_
    rintro j S H' ⟨hj, ha, hS, rfl⟩ R hR
    cases hS
    have hsz3 : (strOf l).size = l.length := strOf_size l
    by_cases hlt : j < l.length
    · have hx := List.getElem?_eq_getElem hlt
      generalize l[j] = b at hx
      have hat := byteAt_of hx
      have htk : (l.take (j + 1)).all isB = isB b := by
        rw [List.take_add_one, hx, List.all_append, ha]; simp
      cases hb : isB b with
      | true =>
        rw [hb] at htk
        have hk := fun S hS => hR (j + 1) S H' (by omega) (Keep.all ⟨hlt, htk, hS, rfl⟩)
        have hor : (b.toNat : Int) = 48 ∨ (b.toNat : Int) = 49 := by
          unfold isB at hb
          rcases Bool.or_eq_true_iff.1 hb with h | h
          · have := Nat.eq_of_beq_eq_true h; omega
          · have := Nat.eq_of_beq_eq_true h; omega
        clear hR hK
        rcases hor with hor | hor
        · repeat' ((conv => whnf); (first | refine Branch.dt (by omega) ?_ | refine Idx.nat (by omega) ?_ | with_reducible rw [hat] | refine Branch.f (by simp [hor]) ?_ | with_reducible refine hk _ .mk | refine New.mk (fun _ => ?_) | refine Look.at0 ?_ | refine Cell.row ?_ | refine Cell.buf ?_ | refine Cells.row rfl ?_ | refine Put.row rfl ?_ | refine Put.buf rfl ?_ | refine Look.at1 ?_ | refine Look.at2 ?_ | refine Look.at3 ?_ | refine Look.at4 ?_ | refine Look.at5 ?_ | refine Look.at6 ?_ | refine Look.at7 ?_ | refine Look.at8 ?_ | with_reducible refine Val.i64 (by omega) (by omega) ?_ | with_reducible refine Val.u8 (by omega) (by omega) ?_ | with_reducible refine Val.u32 (by omega) (by omega) ?_ | with_reducible refine Val.u64 (by omega) (by omega) ?_ | with_reducible refine Val.u8m ?_ | with_reducible refine Val.u32m ?_ | with_reducible refine Val.u64m ?_ | with_reducible refine Val.shr8 ?_ | with_reducible refine Val.shr16 (by decide) ?_ | with_reducible refine Val.shr24 (by decide) ?_ | with_reducible refine Val.raw ?_ | refine Branch.not ?_ | refine Branch.and ?_ | refine Branch.or ?_ | refine Branch.dt (by assumption) ?_ | refine Branch.df (by assumption) ?_ | refine Branch.dt rfl ?_ | refine Branch.dt (by omega) ?_ | refine Branch.df (by omega) ?_ | refine Branch.t rfl ?_ | refine Branch.f rfl ?_ | refine Branch.t (by assumption) ?_ | refine Branch.f (by assumption) ?_ | refine Branch.d (fun _ => ?_) (fun _ => ?_) | refine Branch.mk (fun _ => ?_) (fun _ => ?_) | refine Need.mk (by first | omega | decide | rfl) ?_ | refine Idx.nat (by omega) ?_ | refine Idx.auto (by first | omega | decide) (by first | omega | decide) ?_ | refine Cell.ro rfl ?_ | refine SDraw.all (by kernel_rfl) ?_ | refine Kept.k0 ?_ | refine Kept.k1 ?_ | refine Kept.k2 ?_ | refine Kept.k3 ?_ | refine Kept.k4 ?_))
        · repeat' ((conv => whnf); (first | refine Branch.dt (by omega) ?_ | refine Idx.nat (by omega) ?_ | with_reducible rw [hat] | refine Branch.t (by rw [hor]; rfl) ?_ | refine Branch.f (by rw [hor]; rfl) ?_ | with_reducible refine hk _ .mk | refine New.mk (fun _ => ?_) | refine Look.at0 ?_ | refine Cell.row ?_ | refine Cell.buf ?_ | refine Cells.row rfl ?_ | refine Put.row rfl ?_ | refine Put.buf rfl ?_ | refine Look.at1 ?_ | refine Look.at2 ?_ | refine Look.at3 ?_ | refine Look.at4 ?_ | refine Look.at5 ?_ | refine Look.at6 ?_ | refine Look.at7 ?_ | refine Look.at8 ?_ | with_reducible refine Val.i64 (by omega) (by omega) ?_ | with_reducible refine Val.u8 (by omega) (by omega) ?_ | with_reducible refine Val.u32 (by omega) (by omega) ?_ | with_reducible refine Val.u64 (by omega) (by omega) ?_ | with_reducible refine Val.u8m ?_ | with_reducible refine Val.u32m ?_ | with_reducible refine Val.u64m ?_ | with_reducible refine Val.shr8 ?_ | with_reducible refine Val.shr16 (by decide) ?_ | with_reducible refine Val.shr24 (by decide) ?_ | with_reducible refine Val.raw ?_ | refine Branch.not ?_ | refine Branch.and ?_ | refine Branch.or ?_ | refine Branch.dt (by assumption) ?_ | refine Branch.df (by assumption) ?_ | refine Branch.dt rfl ?_ | refine Branch.dt (by omega) ?_ | refine Branch.df (by omega) ?_ | refine Branch.t rfl ?_ | refine Branch.f rfl ?_ | refine Branch.t (by assumption) ?_ | refine Branch.f (by assumption) ?_ | refine Branch.d (fun _ => ?_) (fun _ => ?_) | refine Branch.mk (fun _ => ?_) (fun _ => ?_) | refine Need.mk (by first | omega | decide | rfl) ?_ | refine Idx.nat (by omega) ?_ | refine Idx.auto (by first | omega | decide) (by first | omega | decide) ?_ | refine Cell.ro rfl ?_ | refine SDraw.all (by kernel_rfl) ?_ | refine Kept.k0 ?_ | refine Kept.k1 ?_ | refine Kept.k2 ?_ | refine Kept.k3 ?_ | refine Kept.k4 ?_))
      | false =>
        have hall : l.all isB = false := by
          cases h : l.all isB with
          | false => rfl
          | true => have := List.all_eq_true.1 h b (List.mem_of_getElem? hx); rw [hb] at this; cases this
        rw [hall, if_neg (by decide)] at hK
        have h48 : ¬ (b.toNat : Int) = 48 := fun e => by
          have : b.toNat = 48 := by omega
          unfold isB at hb; rw [this] at hb; cases hb
        have h49 : ¬ (b.toNat : Int) = 49 := fun e => by
          have : b.toNat = 49 := by omega
          unfold isB at hb; rw [this] at hb; cases hb
        clear hR
        repeat' ((conv => whnf); (first | refine Branch.dt (by omega) ?_ | refine Idx.nat (by omega) ?_ | with_reducible rw [hat] | refine Branch.t (by first | (simp [h48]; done) | (simp [h49]; done)) ?_ | with_reducible exact Keep.all hK | refine New.mk (fun _ => ?_) | refine Look.at0 ?_ | refine Cell.row ?_ | refine Cell.buf ?_ | refine Cells.row rfl ?_ | refine Put.row rfl ?_ | refine Put.buf rfl ?_ | refine Look.at1 ?_ | refine Look.at2 ?_ | refine Look.at3 ?_ | refine Look.at4 ?_ | refine Look.at5 ?_ | refine Look.at6 ?_ | refine Look.at7 ?_ | refine Look.at8 ?_ | with_reducible refine Val.i64 (by omega) (by omega) ?_ | with_reducible refine Val.u8 (by omega) (by omega) ?_ | with_reducible refine Val.u32 (by omega) (by omega) ?_ | with_reducible refine Val.u64 (by omega) (by omega) ?_ | with_reducible refine Val.u8m ?_ | with_reducible refine Val.u32m ?_ | with_reducible refine Val.u64m ?_ | with_reducible refine Val.shr8 ?_ | with_reducible refine Val.shr16 (by decide) ?_ | with_reducible refine Val.shr24 (by decide) ?_ | with_reducible refine Val.raw ?_ | refine Branch.not ?_ | refine Branch.and ?_ | refine Branch.or ?_ | refine Branch.dt (by assumption) ?_ | refine Branch.df (by assumption) ?_ | refine Branch.dt rfl ?_ | refine Branch.dt (by omega) ?_ | refine Branch.df (by omega) ?_ | refine Branch.t rfl ?_ | refine Branch.f rfl ?_ | refine Branch.t (by assumption) ?_ | refine Branch.f (by assumption) ?_ | refine Branch.d (fun _ => ?_) (fun _ => ?_) | refine Branch.mk (fun _ => ?_) (fun _ => ?_) | refine Need.mk (by first | omega | decide | rfl) ?_ | refine Idx.nat (by omega) ?_ | refine Idx.auto (by first | omega | decide) (by first | omega | decide) ?_ | refine Cell.ro rfl ?_ | refine SDraw.all (by kernel_rfl) ?_ | refine Kept.k0 ?_ | refine Kept.k1 ?_ | refine Kept.k2 ?_ | refine Kept.k3 ?_ | refine Kept.k4 ?_))
    · have e : j = l.length := by omega
      subst e
      rw [List.take_length] at ha
      rw [ha, if_pos rfl] at hK
      clear hR
      repeat' ((conv => whnf); (first | refine Branch.df (by omega) ?_ | with_reducible exact Keep.all hK | refine New.mk (fun _ => ?_) | refine Look.at0 ?_ | refine Cell.row ?_ | refine Cell.buf ?_ | refine Cells.row rfl ?_ | refine Put.row rfl ?_ | refine Put.buf rfl ?_ | refine Look.at1 ?_ | refine Look.at2 ?_ | refine Look.at3 ?_ | refine Look.at4 ?_ | refine Look.at5 ?_ | refine Look.at6 ?_ | refine Look.at7 ?_ | refine Look.at8 ?_ | with_reducible refine Val.i64 (by omega) (by omega) ?_ | with_reducible refine Val.u8 (by omega) (by omega) ?_ | with_reducible refine Val.u32 (by omega) (by omega) ?_ | with_reducible refine Val.u64 (by omega) (by omega) ?_ | with_reducible refine Val.u8m ?_ | with_reducible refine Val.u32m ?_ | with_reducible refine Val.u64m ?_ | with_reducible refine Val.shr8 ?_ | with_reducible refine Val.shr16 (by decide) ?_ | with_reducible refine Val.shr24 (by decide) ?_ | with_reducible refine Val.raw ?_ | refine Branch.not ?_ | refine Branch.and ?_ | refine Branch.or ?_ | refine Branch.dt (by assumption) ?_ | refine Branch.df (by assumption) ?_ | refine Branch.dt rfl ?_ | refine Branch.dt (by omega) ?_ | refine Branch.df (by omega) ?_ | refine Branch.t rfl ?_ | refine Branch.f rfl ?_ | refine Branch.t (by assumption) ?_ | refine Branch.f (by assumption) ?_ | refine Branch.d (fun _ => ?_) (fun _ => ?_) | refine Branch.mk (fun _ => ?_) (fun _ => ?_) | refine Need.mk (by first | omega | decide | rfl) ?_ | refine Idx.nat (by omega) ?_ | refine Idx.auto (by first | omega | decide) (by first | omega | decide) ?_ | refine Cell.ro rfl ?_ | refine SDraw.all (by kernel_rfl) ?_ | refine Kept.k0 ?_ | refine Kept.k1 ?_ | refine Kept.k2 ?_ | refine Kept.k3 ?_ | refine Kept.k4 ?_))
end
end Go.Proofs.YtijnjklofdmelaaDoor


/- Layer 1: the sums of bits and of bytes: by walks. -/
set_option linter.unusedVariables false
set_option linter.unusedSimpArgs false
set_option maxRecDepth 100000
set_option maxHeartbeats 4000000
namespace Go.Proofs.YtijnjklofdmelaaDoor
open Sx
/-- A bit into the sum. -/
def cStep (r : Nat) (b : Bool) : Nat := if decide (r / 16384 = 1) = b then r * 2 % 32768 else (r * 2 % 32768) ^^^ 17817
def bitOf (b : UInt8) : Bool := Nat.beq b.toNat 49
def crc (l : List UInt8) : Nat := l.foldl (fun r b => cStep r (bitOf b)) 0
theorem cStep_lt (r : Nat) (b : Bool) : cStep r b < 32768 := by
  unfold cStep
  split
  · exact Nat.mod_lt _ (by decide)
  · exact Nat.xor_lt_two_pow (n := 15) (Nat.mod_lt _ (by decide)) (by decide)
theorem fold_lt (l : List UInt8) : ∀ r, r < 32768 → l.foldl (fun r b => cStep r (bitOf b)) r < 32768 := by
  induction l with
  | nil => exact fun r h => h
  | cons b l ih => exact fun r h => ih _ (cStep_lt _ _)
theorem crc_lt (l : List UInt8) : crc l < 32768 := fold_lt l 0 (by decide)
theorem crc_snoc (l : List UInt8) (b : UInt8) : crc (l ++ [b]) = cStep (crc l) (bitOf b) := by simp [crc]
theorem isB_cases {b : UInt8} (h : isB b = true) : (b.toNat = 48 ∧ bitOf b = false) ∨ (b.toNat = 49 ∧ bitOf b = true) := by
  unfold isB at h
  rcases Bool.or_eq_true_iff.1 h with h | h
  · have := Nat.eq_of_beq_eq_true h
    exact .inl ⟨this, by unfold bitOf; rw [this]; rfl⟩
  · have := Nat.eq_of_beq_eq_true h
    exact .inr ⟨this, by unfold bitOf; rw [this]; rfl⟩
/-- The numbers of a round. -/
theorem crc_nums {k : IntKind} (hk : k.signed = false) (h16 : 16 ≤ k.bits) (r : Nat) (hr : r < 32768) : ∃ q t : Nat, (q = 0 ∨ q = 1) ∧ t < 32768 ∧ shrI k (r : Int) 14 = (q : Int) ∧ bitAnd k (q : Int) 1 = (q : Int) ∧
    shlI k (r : Int) 1 = ((r * 2 : Nat) : Int) ∧ bitAnd k ((r * 2 : Nat) : Int) 32767 = (t : Int) ∧ bitXor k (t : Int) 17817 = ((t ^^^ 17817 : Nat) : Int) ∧ (∀ b, cStep r b = if decide (q = 1) = b then t else t ^^^ 17817) := by
  have hp : (65536 : Nat) ≤ 2 ^ k.bits := by
    have : (2 : Nat) ^ 16 ≤ 2 ^ k.bits := Nat.pow_le_pow_right (by decide) h16
    exact this
  have ht : r * 2 % 32768 < 32768 := Nat.mod_lt _ (by decide)
  refine ⟨r / 16384, r * 2 % 32768, by omega, ht, ?_, ?_, ?_, ?_, ?_, fun b => rfl⟩
  · exact shr_nat (k := k) (n := 14) (by omega)
  · have := bitMask_nat (k := k) hk (a := r / 16384) (n := 1) (by omega) (by omega)
    rw [show r / 16384 % 2 ^ 1 = r / 16384 by omega] at this
    exact this
  · have := shl_nat (k := k) hk (a := r) (n := 1) (by omega)
    rw [Nat.mod_eq_of_lt (show r * 2 ^ 1 < 2 ^ k.bits by omega)] at this
    exact this
  · exact bitMask_nat (k := k) hk (a := r * 2) (n := 15) (by omega) (by omega)
  · exact bitXor_nat hk (a := r * 2 % 32768) (b := 17817) (Nat.lt_of_lt_of_le ht (Nat.le_trans (by decide) hp)) (Nat.lt_of_lt_of_le (by decide) hp)
def crcV (l : List UInt8) : Int := if chk l = 0 then (crc l : Int) else 0
theorem chk_cases (l : List UInt8) : (chk l = 0 ∧ l.length ≤ 65536 ∧ ∀ b ∈ l, isB b = true) ∨ (chk l ≠ 0 ∧ (65536 < l.length ∨ l.all isB = false)) := by
  unfold chk
  split
  · exact .inr ⟨by decide, .inl (by omega)⟩
  · split
    · rename_i h1 h2
      exact .inl ⟨rfl, by omega, List.all_eq_true.1 h2⟩
    · rename_i h1 h2
      exact .inr ⟨by decide, .inr (by simpa using h2)⟩
theorem ascii {l : List UInt8} (h : ∀ b ∈ l, isB b = true) : ∀ b ∈ l, b.toNat < 128 := fun b hb => by
  rcases isB_cases (h b hb) with ⟨h, _⟩ | ⟨h, _⟩ <;> omega
inductive S11 (A4 A5 A15 : Value) : List Value → Prop
  | mk {r0 r1 r2 r3 r6 r7 r8 r9 r10 r11 r12 r13 r14 r16 r17 r18 r19 r20 r21 r22 r23 r24 r25 r26 r27 r28 r29 r30 r31 r32 : Value} : S11 A4 A5 A15 [r0, r1, r2, r3, A4, A5, r6, r7, r8, r9, r10, r11, r12, r13, r14, A15, r16, r17, r18, r19, r20, r21, r22, r23, r24, r25, r26, r27, r28, r29, r30, r31, r32]
section
variable {K : Value → Heap → Prop} {H : Heap}
theorem c11 {l : List UInt8} (hK : K (.tuple ⟨[.int .u16 (crcV l), .int .i64 (chk l)]⟩) H) : SCalls Tryd.prog 11 [.string (strOf l)] H K := by
  refine enter11 ?_
  unfold crcV at hK
  rcases chk_cases l with ⟨h0, hl, hB⟩ | ⟨h0, _⟩
  · rw [if_pos h0] at hK
    have h32 := fun (K : Value → Heap → Prop) (hk : K (.int .i64 0) H) => c32 (l := l) (K := K) (H := H) (by rw [h0]; exact hk)
    rw [h0] at hK
    repeat' ((conv => whnf); (first | with_reducible refine h32 _ ?_ | refine Branch.f rfl ?_ | refine RawV.rangeStr rfl (by kernel_rfl) (fun q => ?_) | refine New.mk (fun _ => ?_) | refine Look.at0 ?_ | refine Cell.row ?_ | refine Cell.buf ?_ | refine Cells.row rfl ?_ | refine Put.row rfl ?_ | refine Put.buf rfl ?_ | refine Look.at1 ?_ | refine Look.at2 ?_ | refine Look.at3 ?_ | refine Look.at4 ?_ | refine Look.at5 ?_ | refine Look.at6 ?_ | refine Look.at7 ?_ | refine Look.at8 ?_ | with_reducible refine Val.i64 (by omega) (by omega) ?_ | with_reducible refine Val.u8 (by omega) (by omega) ?_ | with_reducible refine Val.u32 (by omega) (by omega) ?_ | with_reducible refine Val.u64 (by omega) (by omega) ?_ | with_reducible refine Val.u8m ?_ | with_reducible refine Val.u32m ?_ | with_reducible refine Val.u64m ?_ | with_reducible refine Val.shr8 ?_ | with_reducible refine Val.shr16 (by decide) ?_ | with_reducible refine Val.shr24 (by decide) ?_ | with_reducible refine Val.raw ?_ | refine Branch.not ?_ | refine Branch.and ?_ | refine Branch.or ?_ | refine Branch.dt (by assumption) ?_ | refine Branch.df (by assumption) ?_ | refine Branch.dt rfl ?_ | refine Branch.dt (by omega) ?_ | refine Branch.df (by omega) ?_ | refine Branch.t rfl ?_ | refine Branch.f rfl ?_ | refine Branch.t (by assumption) ?_ | refine Branch.f (by assumption) ?_ | refine Branch.d (fun _ => ?_) (fun _ => ?_) | refine Branch.mk (fun _ => ?_) (fun _ => ?_) | refine Need.mk (by first | omega | decide | rfl) ?_ | refine Idx.nat (by omega) ?_ | refine Idx.auto (by first | omega | decide) (by first | omega | decide) ?_ | refine Cell.ro rfl ?_ | refine SDraw.all (by kernel_rfl) ?_ | refine Kept.k0 ?_ | refine Kept.k1 ?_ | refine Kept.k2 ?_ | refine Kept.k3 ?_ | refine Kept.k4 ?_))
    refine SLoop.invA (fun (j : Nat) S H' => j ≤ l.length ∧ S11 (.int .i64 0) (.int .u16 (crc (l.take j) : Int)) (ptr q) S ∧ H' = (q, sIter (strOf l) j) :: H) (fun j => l.length - j) 0 (Keep.all ⟨Nat.zero_le _, .mk, rfl⟩) ?_
    rintro j S H' ⟨hj, hS, rfl⟩ R hR
    cases hS
    by_cases hlt : j < l.length
    · have hx := List.getElem?_eq_getElem hlt
      generalize l[j] = b at hx
      have htk : l.take (j + 1) = l.take j ++ [b] := by rw [List.take_add_one, hx]; rfl
      obtain ⟨q2, t, hq, ht, e1, e2, e3, e4, e5, e6⟩ := crc_nums (k := .u16) rfl (by decide) (crc (l.take j)) (crc_lt _)
      have hnext : ∀ S, S11 (.int .i64 0) (.int .u16 (cStep (crc (l.take j)) (bitOf b) : Int)) (ptr q) S → R S ((q, sIter (strOf l) (j + 1)) :: H) := fun S hS => hR (j + 1) _ _ (by omega) (Keep.all ⟨hlt, by rw [htk, crc_snoc]; exact hS, rfl⟩)
      have hb := isB_cases (hB b (List.mem_of_getElem? hx))
      rw [e6] at hnext
      clear hR hK h32
      clear e6
      generalize crc (l.take j) = r at e1 e3 e4
      have hnx : ∀ (K2 : Value → Heap → Prop), K2 (.tuple ⟨[.bool true, .int .i64 (j : Int), .int .i32 (b.toNat : Int)]⟩) ((q, sIter (strOf l) (j + 1)) :: H) → ∀ o xm, Oper.op o = .next xm true → RawV Tryd.prog o [ptr q] ((q, sIter (strOf l) j) :: H) K2 := fun K2 hk o xm ho =>
        RawV.nextS0 ho (ascii hB) (fun h => by omega) (fun b2 hb2 => by rw [hx] at hb2; injection hb2 with hb2; subst hb2; exact hk)
      rcases hb with ⟨h1, h2⟩ | ⟨h1, h2⟩ <;> rw [h1] at hnx <;> rw [h2] at hnext <;> rcases hq with rfl | rfl
      · repeat' ((conv => whnf); (first | with_reducible refine hnx _ ?_ _ _ rfl | with_reducible refine Val.to _ e1 ?_ | with_reducible refine Val.to _ e2 ?_ | with_reducible refine Val.to _ e3 ?_ | with_reducible refine Val.to _ e4 ?_ | with_reducible refine Val.to _ e5 ?_ | with_reducible refine Val.i32 (by omega) (by omega) ?_ | with_reducible refine Val.u16 (by omega) (by omega) ?_ | refine Branch.f rfl ?_ | refine hnext _ .mk | refine New.mk (fun _ => ?_) | refine Look.at0 ?_ | refine Cell.row ?_ | refine Cell.buf ?_ | refine Cells.row rfl ?_ | refine Put.row rfl ?_ | refine Put.buf rfl ?_ | refine Look.at1 ?_ | refine Look.at2 ?_ | refine Look.at3 ?_ | refine Look.at4 ?_ | refine Look.at5 ?_ | refine Look.at6 ?_ | refine Look.at7 ?_ | refine Look.at8 ?_ | with_reducible refine Val.i64 (by omega) (by omega) ?_ | with_reducible refine Val.u8 (by omega) (by omega) ?_ | with_reducible refine Val.u32 (by omega) (by omega) ?_ | with_reducible refine Val.u64 (by omega) (by omega) ?_ | with_reducible refine Val.u8m ?_ | with_reducible refine Val.u32m ?_ | with_reducible refine Val.u64m ?_ | with_reducible refine Val.shr8 ?_ | with_reducible refine Val.shr16 (by decide) ?_ | with_reducible refine Val.shr24 (by decide) ?_ | with_reducible refine Val.raw ?_ | refine Branch.not ?_ | refine Branch.and ?_ | refine Branch.or ?_ | refine Branch.dt (by assumption) ?_ | refine Branch.df (by assumption) ?_ | refine Branch.dt rfl ?_ | refine Branch.dt (by omega) ?_ | refine Branch.df (by omega) ?_ | refine Branch.t rfl ?_ | refine Branch.f rfl ?_ | refine Branch.t (by assumption) ?_ | refine Branch.f (by assumption) ?_ | refine Branch.d (fun _ => ?_) (fun _ => ?_) | refine Branch.mk (fun _ => ?_) (fun _ => ?_) | refine Need.mk (by first | omega | decide | rfl) ?_ | refine Idx.nat (by omega) ?_ | refine Idx.auto (by first | omega | decide) (by first | omega | decide) ?_ | refine Cell.ro rfl ?_ | refine SDraw.all (by kernel_rfl) ?_ | refine Kept.k0 ?_ | refine Kept.k1 ?_ | refine Kept.k2 ?_ | refine Kept.k3 ?_ | refine Kept.k4 ?_))
      · repeat' ((conv => whnf); (first | with_reducible refine hnx _ ?_ _ _ rfl | with_reducible refine Val.to _ e1 ?_ | with_reducible refine Val.to _ e2 ?_ | with_reducible refine Val.to _ e3 ?_ | with_reducible refine Val.to _ e4 ?_ | with_reducible refine Val.to _ e5 ?_ | with_reducible refine Val.i32 (by omega) (by omega) ?_ | with_reducible refine Val.u16 (by omega) (by omega) ?_ | refine Branch.t rfl ?_ | refine hnext _ .mk | refine New.mk (fun _ => ?_) | refine Look.at0 ?_ | refine Cell.row ?_ | refine Cell.buf ?_ | refine Cells.row rfl ?_ | refine Put.row rfl ?_ | refine Put.buf rfl ?_ | refine Look.at1 ?_ | refine Look.at2 ?_ | refine Look.at3 ?_ | refine Look.at4 ?_ | refine Look.at5 ?_ | refine Look.at6 ?_ | refine Look.at7 ?_ | refine Look.at8 ?_ | with_reducible refine Val.i64 (by omega) (by omega) ?_ | with_reducible refine Val.u8 (by omega) (by omega) ?_ | with_reducible refine Val.u32 (by omega) (by omega) ?_ | with_reducible refine Val.u64 (by omega) (by omega) ?_ | with_reducible refine Val.u8m ?_ | with_reducible refine Val.u32m ?_ | with_reducible refine Val.u64m ?_ | with_reducible refine Val.shr8 ?_ | with_reducible refine Val.shr16 (by decide) ?_ | with_reducible refine Val.shr24 (by decide) ?_ | with_reducible refine Val.raw ?_ | refine Branch.not ?_ | refine Branch.and ?_ | refine Branch.or ?_ | refine Branch.dt (by assumption) ?_ | refine Branch.df (by assumption) ?_ | refine Branch.dt rfl ?_ | refine Branch.dt (by omega) ?_ | refine Branch.df (by omega) ?_ | refine Branch.t rfl ?_ | refine Branch.f rfl ?_ | refine Branch.t (by assumption) ?_ | refine Branch.f (by assumption) ?_ | refine Branch.d (fun _ => ?_) (fun _ => ?_) | refine Branch.mk (fun _ => ?_) (fun _ => ?_) | refine Need.mk (by first | omega | decide | rfl) ?_ | refine Idx.nat (by omega) ?_ | refine Idx.auto (by first | omega | decide) (by first | omega | decide) ?_ | refine Cell.ro rfl ?_ | refine SDraw.all (by kernel_rfl) ?_ | refine Kept.k0 ?_ | refine Kept.k1 ?_ | refine Kept.k2 ?_ | refine Kept.k3 ?_ | refine Kept.k4 ?_))
      · repeat' ((conv => whnf); (first | with_reducible refine hnx _ ?_ _ _ rfl | with_reducible refine Val.to _ e1 ?_ | with_reducible refine Val.to _ e2 ?_ | with_reducible refine Val.to _ e3 ?_ | with_reducible refine Val.to _ e4 ?_ | with_reducible refine Val.to _ e5 ?_ | with_reducible refine Val.i32 (by omega) (by omega) ?_ | with_reducible refine Val.u16 (by omega) (by omega) ?_ | refine Branch.t rfl ?_ | refine hnext _ .mk | refine New.mk (fun _ => ?_) | refine Look.at0 ?_ | refine Cell.row ?_ | refine Cell.buf ?_ | refine Cells.row rfl ?_ | refine Put.row rfl ?_ | refine Put.buf rfl ?_ | refine Look.at1 ?_ | refine Look.at2 ?_ | refine Look.at3 ?_ | refine Look.at4 ?_ | refine Look.at5 ?_ | refine Look.at6 ?_ | refine Look.at7 ?_ | refine Look.at8 ?_ | with_reducible refine Val.i64 (by omega) (by omega) ?_ | with_reducible refine Val.u8 (by omega) (by omega) ?_ | with_reducible refine Val.u32 (by omega) (by omega) ?_ | with_reducible refine Val.u64 (by omega) (by omega) ?_ | with_reducible refine Val.u8m ?_ | with_reducible refine Val.u32m ?_ | with_reducible refine Val.u64m ?_ | with_reducible refine Val.shr8 ?_ | with_reducible refine Val.shr16 (by decide) ?_ | with_reducible refine Val.shr24 (by decide) ?_ | with_reducible refine Val.raw ?_ | refine Branch.not ?_ | refine Branch.and ?_ | refine Branch.or ?_ | refine Branch.dt (by assumption) ?_ | refine Branch.df (by assumption) ?_ | refine Branch.dt rfl ?_ | refine Branch.dt (by omega) ?_ | refine Branch.df (by omega) ?_ | refine Branch.t rfl ?_ | refine Branch.f rfl ?_ | refine Branch.t (by assumption) ?_ | refine Branch.f (by assumption) ?_ | refine Branch.d (fun _ => ?_) (fun _ => ?_) | refine Branch.mk (fun _ => ?_) (fun _ => ?_) | refine Need.mk (by first | omega | decide | rfl) ?_ | refine Idx.nat (by omega) ?_ | refine Idx.auto (by first | omega | decide) (by first | omega | decide) ?_ | refine Cell.ro rfl ?_ | refine SDraw.all (by kernel_rfl) ?_ | refine Kept.k0 ?_ | refine Kept.k1 ?_ | refine Kept.k2 ?_ | refine Kept.k3 ?_ | refine Kept.k4 ?_))
      · repeat' ((conv => whnf); (first | with_reducible refine hnx _ ?_ _ _ rfl | with_reducible refine Val.to _ e1 ?_ | with_reducible refine Val.to _ e2 ?_ | with_reducible refine Val.to _ e3 ?_ | with_reducible refine Val.to _ e4 ?_ | with_reducible refine Val.to _ e5 ?_ | with_reducible refine Val.i32 (by omega) (by omega) ?_ | with_reducible refine Val.u16 (by omega) (by omega) ?_ | refine Branch.f rfl ?_ | refine hnext _ .mk | refine New.mk (fun _ => ?_) | refine Look.at0 ?_ | refine Cell.row ?_ | refine Cell.buf ?_ | refine Cells.row rfl ?_ | refine Put.row rfl ?_ | refine Put.buf rfl ?_ | refine Look.at1 ?_ | refine Look.at2 ?_ | refine Look.at3 ?_ | refine Look.at4 ?_ | refine Look.at5 ?_ | refine Look.at6 ?_ | refine Look.at7 ?_ | refine Look.at8 ?_ | with_reducible refine Val.i64 (by omega) (by omega) ?_ | with_reducible refine Val.u8 (by omega) (by omega) ?_ | with_reducible refine Val.u32 (by omega) (by omega) ?_ | with_reducible refine Val.u64 (by omega) (by omega) ?_ | with_reducible refine Val.u8m ?_ | with_reducible refine Val.u32m ?_ | with_reducible refine Val.u64m ?_ | with_reducible refine Val.shr8 ?_ | with_reducible refine Val.shr16 (by decide) ?_ | with_reducible refine Val.shr24 (by decide) ?_ | with_reducible refine Val.raw ?_ | refine Branch.not ?_ | refine Branch.and ?_ | refine Branch.or ?_ | refine Branch.dt (by assumption) ?_ | refine Branch.df (by assumption) ?_ | refine Branch.dt rfl ?_ | refine Branch.dt (by omega) ?_ | refine Branch.df (by omega) ?_ | refine Branch.t rfl ?_ | refine Branch.f rfl ?_ | refine Branch.t (by assumption) ?_ | refine Branch.f (by assumption) ?_ | refine Branch.d (fun _ => ?_) (fun _ => ?_) | refine Branch.mk (fun _ => ?_) (fun _ => ?_) | refine Need.mk (by first | omega | decide | rfl) ?_ | refine Idx.nat (by omega) ?_ | refine Idx.auto (by first | omega | decide) (by first | omega | decide) ?_ | refine Cell.ro rfl ?_ | refine SDraw.all (by kernel_rfl) ?_ | refine Kept.k0 ?_ | refine Kept.k1 ?_ | refine Kept.k2 ?_ | refine Kept.k3 ?_ | refine Kept.k4 ?_))
    · have e : j = l.length := by omega
      subst e
      rw [List.take_length]
      have hnx : ∀ (K2 : Value → Heap → Prop), K2 (.tuple ⟨[.bool false]⟩) ((q, sIter (strOf l) l.length) :: H) → ∀ o xm, Oper.op o = .next xm true → RawV Tryd.prog o [ptr q] ((q, sIter (strOf l) l.length) :: H) K2 := fun K2 hk o xm ho =>
        RawV.nextS0 ho (ascii hB) (fun h => hk) (fun b2 hb2 => by have := (List.getElem?_eq_some_iff.1 hb2).1; omega)
      clear hR h32
      repeat' ((conv => whnf); (first | with_reducible refine hnx _ ?_ _ _ rfl | refine Branch.f rfl ?_ | with_reducible exact Keep.d1 hK | refine New.mk (fun _ => ?_) | refine Look.at0 ?_ | refine Cell.row ?_ | refine Cell.buf ?_ | refine Cells.row rfl ?_ | refine Put.row rfl ?_ | refine Put.buf rfl ?_ | refine Look.at1 ?_ | refine Look.at2 ?_ | refine Look.at3 ?_ | refine Look.at4 ?_ | refine Look.at5 ?_ | refine Look.at6 ?_ | refine Look.at7 ?_ | refine Look.at8 ?_ | with_reducible refine Val.i64 (by omega) (by omega) ?_ | with_reducible refine Val.u8 (by omega) (by omega) ?_ | with_reducible refine Val.u32 (by omega) (by omega) ?_ | with_reducible refine Val.u64 (by omega) (by omega) ?_ | with_reducible refine Val.u8m ?_ | with_reducible refine Val.u32m ?_ | with_reducible refine Val.u64m ?_ | with_reducible refine Val.shr8 ?_ | with_reducible refine Val.shr16 (by decide) ?_ | with_reducible refine Val.shr24 (by decide) ?_ | with_reducible refine Val.raw ?_ | refine Branch.not ?_ | refine Branch.and ?_ | refine Branch.or ?_ | refine Branch.dt (by assumption) ?_ | refine Branch.df (by assumption) ?_ | refine Branch.dt rfl ?_ | refine Branch.dt (by omega) ?_ | refine Branch.df (by omega) ?_ | refine Branch.t rfl ?_ | refine Branch.f rfl ?_ | refine Branch.t (by assumption) ?_ | refine Branch.f (by assumption) ?_ | refine Branch.d (fun _ => ?_) (fun _ => ?_) | refine Branch.mk (fun _ => ?_) (fun _ => ?_) | refine Need.mk (by first | omega | decide | rfl) ?_ | refine Idx.nat (by omega) ?_ | refine Idx.auto (by first | omega | decide) (by first | omega | decide) ?_ | refine Cell.ro rfl ?_ | refine SDraw.all (by kernel_rfl) ?_ | refine Kept.k0 ?_ | refine Kept.k1 ?_ | refine Kept.k2 ?_ | refine Kept.k3 ?_ | refine Kept.k4 ?_))
  · rw [if_neg h0] at hK
    have h32 := fun (K : Value → Heap → Prop) hk => c32 (l := l) (K := K) (H := H) hk
    generalize chk l = v at h0 hK h32
    repeat' ((conv => whnf); (first | with_reducible refine h32 _ ?_ | refine Branch.t (by simp [h0]; done) ?_ | with_reducible exact Keep.all hK | refine New.mk (fun _ => ?_) | refine Look.at0 ?_ | refine Cell.row ?_ | refine Cell.buf ?_ | refine Cells.row rfl ?_ | refine Put.row rfl ?_ | refine Put.buf rfl ?_ | refine Look.at1 ?_ | refine Look.at2 ?_ | refine Look.at3 ?_ | refine Look.at4 ?_ | refine Look.at5 ?_ | refine Look.at6 ?_ | refine Look.at7 ?_ | refine Look.at8 ?_ | with_reducible refine Val.i64 (by omega) (by omega) ?_ | with_reducible refine Val.u8 (by omega) (by omega) ?_ | with_reducible refine Val.u32 (by omega) (by omega) ?_ | with_reducible refine Val.u64 (by omega) (by omega) ?_ | with_reducible refine Val.u8m ?_ | with_reducible refine Val.u32m ?_ | with_reducible refine Val.u64m ?_ | with_reducible refine Val.shr8 ?_ | with_reducible refine Val.shr16 (by decide) ?_ | with_reducible refine Val.shr24 (by decide) ?_ | with_reducible refine Val.raw ?_ | refine Branch.not ?_ | refine Branch.and ?_ | refine Branch.or ?_ | refine Branch.dt (by assumption) ?_ | refine Branch.df (by assumption) ?_ | refine Branch.dt rfl ?_ | refine Branch.dt (by omega) ?_ | refine Branch.df (by omega) ?_ | refine Branch.t rfl ?_ | refine Branch.f rfl ?_ | refine Branch.t (by assumption) ?_ | refine Branch.f (by assumption) ?_ | refine Branch.d (fun _ => ?_) (fun _ => ?_) | refine Branch.mk (fun _ => ?_) (fun _ => ?_) | refine Need.mk (by first | omega | decide | rfl) ?_ | refine Idx.nat (by omega) ?_ | refine Idx.auto (by first | omega | decide) (by first | omega | decide) ?_ | refine Cell.ro rfl ?_ | refine SDraw.all (by kernel_rfl) ?_ | refine Kept.k0 ?_ | refine Kept.k1 ?_ | refine Kept.k2 ?_ | refine Kept.k3 ?_ | refine Kept.k4 ?_))
end
end Go.Proofs.YtijnjklofdmelaaDoor


/- Layer 1: the builder of a text: by walks. -/
set_option linter.unusedVariables false
set_option linter.unusedSimpArgs false
set_option maxRecDepth 100000
set_option maxHeartbeats 4000000
namespace Go.Proofs.YtijnjklofdmelaaDoor
open Sx
/-- A builder may lie at place o of a row of type T. -/
def BT (T o : Nat) : Prop := liesAt Tryd.prog Tryd.prog.depth T ((o + 2) / Tryd.prog.cellsOf T) o 55 1 = true
theorem bt55 : BT 55 0 := by unfold BT; kernel_rfl
abbrev bRow (T r : Nat) (pre : List Value) (p sv : Value) : Nat × Blk := (r, .row T (pre ++ [p, sv]) (0, 0))
abbrev bPtr (r : Nat) (pre : List Value) : Value := .pointer (some ⟨r, pre.length, none⟩)
/-- A builder behind pre, with the bytes bs. -/
inductive Bld (T r : Nat) (pre : List Value) (bs : List UInt8) : Heap → Prop
  | mk {p sv : Value} {M : Heap} : (p = .pointer none ∨ p = bPtr r pre) → BufV 5 sv bs M → Bld T r pre bs (bRow T r pre p sv :: M)
theorem Bld.new {T r : Nat} {pre : List Value} : Bld T r pre [] [(r, .row T (pre ++ [.pointer none, .slice none 0 0]) (0, 0))] := .mk (.inl rfl) .nil
section
variable {K : Value → Heap → Prop} {H : Heap} {T r : Nat} {pre : List Value} {bs l : List UInt8} {N : Heap}
theorem pre0 (p sv : Value) : (pre ++ [p, sv])[pre.length + 0]? = some p := by simp
theorem pre1 (p sv : Value) : (pre ++ [p, sv])[pre.length + 1]? = some sv := by
  rw [List.getElem?_append_right (by omega)]; simp
theorem set0 (p sv p' : Value) : (pre ++ [p, sv]).take (pre.length + 0) ++ [p'] ++ (pre ++ [p, sv]).drop (pre.length + 0 + [p'].length) = pre ++ [p', sv] := by
  rw [Nat.add_zero, List.take_left, List.drop_append]; simp
theorem set1 (p sv sv' : Value) : (pre ++ [p, sv]).take (pre.length + 1) ++ [sv'] ++ (pre ++ [p, sv]).drop (pre.length + 1 + [sv'].length) = pre ++ [p, sv'] := by
  rw [List.take_append, List.drop_append, List.take_of_length_le (show pre.length ≤ pre.length + 1 by omega), List.drop_eq_nil_of_le (show pre.length ≤ pre.length + 1 + [sv'].length by omega), show pre.length + 1 - pre.length = 1 by omega, show pre.length + 1 + [sv'].length - pre.length = 2 by simp; omega]
  simp
theorem c41 (hT : BT T pre.length) (hN : Bld T r pre bs N) (hK : ∀ sv M, BufV 5 sv bs M → K (.tuple ⟨[]⟩) (bRow T r pre (bPtr r pre) sv :: M)) : SCalls Tryd.prog 41 [bPtr r pre] N K := by
  cases hN with
  | @mk p sv M hp hb =>
    have hk := hK sv M hb
    refine enter41 ?_
    have h0 : (Blk.row T (pre ++ [p, sv]) (0, 0)).cell (pre.length + 0) = some p := pre0 p sv
    have hput : PutOk (.row T (pre ++ [p, sv]) (0, 0)) (pre.length + 0) [bPtr r pre] (.row T (pre ++ [bPtr r pre, sv]) (0, 0)) := PutOk.row (by simp) (set0 p sv _)
    have hlt : pre.length < (pre ++ [p, sv]).length := by simp
    have hlies : liesAt Tryd.prog Tryd.prog.depth T ((pre ++ [p, sv]).length / Tryd.prog.cellsOf T) pre.length 55 1 = true := by
      rw [List.length_append]; exact hT
    rcases hp with rfl | rfl
    · repeat' ((conv => whnf); (first | refine Look.cell (.head _) h0 ?_ | refine Branch.t rfl ?_ | refine RawV.toUnsafe (src := 53) (dst := 86) (t := 55) rfl (by kernel_rfl) (by kernel_rfl) (by kernel_rfl) (.head _) hlt ?_ | refine RawV.extern rfl Tryd.func58 (by kernel_rfl) (by kernel_rfl) (by kernel_rfl) (e := Extern.AbiNoEscape.same) (v := bPtr r pre) (by kernel_rfl) (fun _ => rfl) ?_ | refine RawV.ofUnsafe (src := 86) (dst := 53) (t := 55) rfl (by kernel_rfl) (by kernel_rfl) (by kernel_rfl) (.head _) hlies ?_ | refine ⟨[], _, M, rfl, _, hput, appK_to ?_⟩ | exact Keep.all hk | refine New.mk (fun _ => ?_) | refine Look.at0 ?_ | refine Cell.row ?_ | refine Cell.buf ?_ | refine Cells.row rfl ?_ | refine Put.row rfl ?_ | refine Put.buf rfl ?_ | refine Look.at1 ?_ | refine Look.at2 ?_ | refine Look.at3 ?_ | refine Look.at4 ?_ | refine Look.at5 ?_ | refine Look.at6 ?_ | refine Look.at7 ?_ | refine Look.at8 ?_ | with_reducible refine Val.i64 (by omega) (by omega) ?_ | with_reducible refine Val.u8 (by omega) (by omega) ?_ | with_reducible refine Val.u32 (by omega) (by omega) ?_ | with_reducible refine Val.u64 (by omega) (by omega) ?_ | with_reducible refine Val.u8m ?_ | with_reducible refine Val.u32m ?_ | with_reducible refine Val.u64m ?_ | with_reducible refine Val.shr8 ?_ | with_reducible refine Val.shr16 (by decide) ?_ | with_reducible refine Val.shr24 (by decide) ?_ | with_reducible refine Val.raw ?_ | refine Branch.not ?_ | refine Branch.and ?_ | refine Branch.or ?_ | refine Branch.dt (by assumption) ?_ | refine Branch.df (by assumption) ?_ | refine Branch.dt rfl ?_ | refine Branch.dt (by omega) ?_ | refine Branch.df (by omega) ?_ | refine Branch.t rfl ?_ | refine Branch.f rfl ?_ | refine Branch.t (by assumption) ?_ | refine Branch.f (by assumption) ?_ | refine Branch.d (fun _ => ?_) (fun _ => ?_) | refine Branch.mk (fun _ => ?_) (fun _ => ?_) | refine Need.mk (by first | omega | decide | rfl) ?_ | refine Idx.nat (by omega) ?_ | refine Idx.auto (by first | omega | decide) (by first | omega | decide) ?_ | refine Cell.ro rfl ?_ | refine SDraw.all (by kernel_rfl) ?_ | refine Kept.k0 ?_ | refine Kept.k1 ?_ | refine Kept.k2 ?_ | refine Kept.k3 ?_ | refine Kept.k4 ?_))
    · repeat' ((conv => whnf); (first | refine Look.cell (.head _) h0 ?_ | refine Branch.f rfl ?_ | refine PEq.same rfl ?_ | refine Branch.f (by simp; done) ?_ | exact Keep.all hk | refine New.mk (fun _ => ?_) | refine Look.at0 ?_ | refine Cell.row ?_ | refine Cell.buf ?_ | refine Cells.row rfl ?_ | refine Put.row rfl ?_ | refine Put.buf rfl ?_ | refine Look.at1 ?_ | refine Look.at2 ?_ | refine Look.at3 ?_ | refine Look.at4 ?_ | refine Look.at5 ?_ | refine Look.at6 ?_ | refine Look.at7 ?_ | refine Look.at8 ?_ | with_reducible refine Val.i64 (by omega) (by omega) ?_ | with_reducible refine Val.u8 (by omega) (by omega) ?_ | with_reducible refine Val.u32 (by omega) (by omega) ?_ | with_reducible refine Val.u64 (by omega) (by omega) ?_ | with_reducible refine Val.u8m ?_ | with_reducible refine Val.u32m ?_ | with_reducible refine Val.u64m ?_ | with_reducible refine Val.shr8 ?_ | with_reducible refine Val.shr16 (by decide) ?_ | with_reducible refine Val.shr24 (by decide) ?_ | with_reducible refine Val.raw ?_ | refine Branch.not ?_ | refine Branch.and ?_ | refine Branch.or ?_ | refine Branch.dt (by assumption) ?_ | refine Branch.df (by assumption) ?_ | refine Branch.dt rfl ?_ | refine Branch.dt (by omega) ?_ | refine Branch.df (by omega) ?_ | refine Branch.t rfl ?_ | refine Branch.f rfl ?_ | refine Branch.t (by assumption) ?_ | refine Branch.f (by assumption) ?_ | refine Branch.d (fun _ => ?_) (fun _ => ?_) | refine Branch.mk (fun _ => ?_) (fun _ => ?_) | refine Need.mk (by first | omega | decide | rfl) ?_ | refine Idx.nat (by omega) ?_ | refine Idx.auto (by first | omega | decide) (by first | omega | decide) ?_ | refine Cell.ro rfl ?_ | refine SDraw.all (by kernel_rfl) ?_ | refine Kept.k0 ?_ | refine Kept.k1 ?_ | refine Kept.k2 ?_ | refine Kept.k3 ?_ | refine Kept.k4 ?_))
theorem c42 {M : Heap} {sv : Value} {b : UInt8} (hb : BufV 5 sv bs M) (h128 : b.toNat < 128) (hl : bs.length + 1 ≤ 140737488355328) (hK : ∀ sv' M', BufV 5 sv' (bs ++ [b]) M' → K sv' M') : SCalls Tryd.prog 42 [sv, .int .i32 (b.toNat : Int)] M K := by
  refine enter42 ?_
  have hc : ∀ (q : Nat) j x, [b][j]? = some x → (Blk.row 5 [.int .u8 (b.toNat : Int)] (0, 0)).cell (0 + j) = some (.int .u8 (x.toNat : Int)) := by
    intro q j x hj
    match j, hj with
    | 0, hj => injection hj with hj; subst hj; rfl
  have happ : ∀ (q : Nat) (o : Oper) (xs xx : Operand) (K2 : Value → Heap → Prop), o.op = .call { callee := .builtin .append, args := #[xs, xx], argTypes := #[27, 27] } → (∀ a' c' M', BufV 5 (.slice a' (bs ++ [b]).length c') (bs ++ [b]) M' → K2 (.slice a' (bs ++ [b]).length c') ((q, Blk.row 5 [.int .u8 (b.toNat : Int)] (0, 0)) :: M')) →
      RawV Tryd.prog o [sv, .slice (some ⟨q, 0, none⟩) 1 1] ((q, Blk.row 5 [.int .u8 (b.toNat : Int)] (0, 0)) :: M) K2 := by
    intro q o xs xx K2 ho hk
    have := RawV.appBytes (P := Tryd.prog) (c := 1) (A := [(q, Blk.row 5 [.int .u8 (b.toNat : Int)] (0, 0))]) (B := []) (l := [b]) (K := K2) ho (by kernel_rfl) (by kernel_rfl) hb (.head _) rfl Nat.one_pos (hc q) hl (fun sv' N' h => by rw [List.append_nil]; obtain ⟨a', c', rfl⟩ := h.len; exact hk a' c' N' h)
    rw [List.append_nil] at this
    exact this
  obtain ⟨a, c, rfl⟩ := hb.len
  repeat' ((conv => whnf); (first | with_reducible refine Val.u32 (by omega) (by omega) ?_ | refine Branch.dt (by omega) ?_ | with_reducible refine happ _ _ _ _ _ rfl (fun a' c' M' hb' => ?_) | exact Keep.d1 (hK _ _ hb') | refine New.mk (fun _ => ?_) | refine Look.at0 ?_ | refine Cell.row ?_ | refine Cell.buf ?_ | refine Cells.row rfl ?_ | refine Put.row rfl ?_ | refine Put.buf rfl ?_ | refine Look.at1 ?_ | refine Look.at2 ?_ | refine Look.at3 ?_ | refine Look.at4 ?_ | refine Look.at5 ?_ | refine Look.at6 ?_ | refine Look.at7 ?_ | refine Look.at8 ?_ | with_reducible refine Val.i64 (by omega) (by omega) ?_ | with_reducible refine Val.u8 (by omega) (by omega) ?_ | with_reducible refine Val.u32 (by omega) (by omega) ?_ | with_reducible refine Val.u64 (by omega) (by omega) ?_ | with_reducible refine Val.u8m ?_ | with_reducible refine Val.u32m ?_ | with_reducible refine Val.u64m ?_ | with_reducible refine Val.shr8 ?_ | with_reducible refine Val.shr16 (by decide) ?_ | with_reducible refine Val.shr24 (by decide) ?_ | with_reducible refine Val.raw ?_ | refine Branch.not ?_ | refine Branch.and ?_ | refine Branch.or ?_ | refine Branch.dt (by assumption) ?_ | refine Branch.df (by assumption) ?_ | refine Branch.dt rfl ?_ | refine Branch.dt (by omega) ?_ | refine Branch.df (by omega) ?_ | refine Branch.t rfl ?_ | refine Branch.f rfl ?_ | refine Branch.t (by assumption) ?_ | refine Branch.f (by assumption) ?_ | refine Branch.d (fun _ => ?_) (fun _ => ?_) | refine Branch.mk (fun _ => ?_) (fun _ => ?_) | refine Need.mk (by first | omega | decide | rfl) ?_ | refine Idx.nat (by omega) ?_ | refine Idx.auto (by first | omega | decide) (by first | omega | decide) ?_ | refine Cell.ro rfl ?_ | refine SDraw.all (by kernel_rfl) ?_ | refine Kept.k0 ?_ | refine Kept.k1 ?_ | refine Kept.k2 ?_ | refine Kept.k3 ?_ | refine Kept.k4 ?_))
theorem c33 {b : UInt8} (hT : BT T pre.length) (hN : Bld T r pre bs N) (h128 : b.toNat < 128) (hl : bs.length + 1 ≤ 140737488355328) (hK : ∀ N', Bld T r pre (bs ++ [b]) N' → K (.tuple ⟨[.int .i64 1, .nilIface]⟩) N') : SCalls Tryd.prog 33 [bPtr r pre, .int .i32 (b.toNat : Int)] N K := by
  refine enter33 ?_
  have h41 : ∀ (K2 : Value → Heap → Prop), (∀ a c M, BufV 5 (.slice a bs.length c) bs M → K2 (.tuple ⟨[]⟩) (bRow T r pre (bPtr r pre) (.slice a bs.length c) :: M)) → SCalls Tryd.prog 41 [bPtr r pre] N K2 := fun K2 hk => c41 hT hN (fun sv M hb => by
    obtain ⟨a, c, rfl⟩ := hb.len
    exact hk a c M hb)
  have h1 : ∀ sv, (Blk.row T (pre ++ [bPtr r pre, sv]) (0, 0)).cell (pre.length + 1) = some sv := fun sv => pre1 _ sv
  have hput : ∀ sv sv', PutOk (.row T (pre ++ [bPtr r pre, sv]) (0, 0)) (pre.length + 1) [sv'] (.row T (pre ++ [bPtr r pre, sv']) (0, 0)) := fun sv sv' => PutOk.row (by simp) (set1 _ sv sv')
  have h42 : ∀ a c M (K2 : Value → Heap → Prop), BufV 5 (.slice a bs.length c) bs M → (∀ a' c' M', BufV 5 (.slice a' (bs ++ [b]).length c') (bs ++ [b]) M' → K2 (.slice a' (bs ++ [b]).length c') (bRow T r pre (bPtr r pre) (.slice a bs.length c) :: M')) →
      SCalls Tryd.prog 42 [.slice a bs.length c, .int .i32 (b.toNat : Int)] (bRow T r pre (bPtr r pre) (.slice a bs.length c) :: M) K2 := by
    intro a c M K2 hb hk
    refine SCalls.under [_] (c42 hb h128 hl (fun sv' M' hb' => ?_))
    obtain ⟨a', c', rfl⟩ := hb'.len
    exact hk a' c' M' hb'
  have hlen : ((bs ++ [b]).length : Int) = (bs.length : Int) + 1 := by simp
  clear hN
  repeat' ((conv => whnf); (first | with_reducible refine h41 _ (fun a c M hb => ?_) | refine Look.cell (.head _) (h1 _) ?_ | with_reducible refine h42 _ _ _ _ hb (fun a' c' M' hb' => ?_) | refine ⟨[], _, M', rfl, _, hput _ _, appK_to ?_⟩ | with_reducible refine Val.to 1 (by rw [wrap_i64 (by omega) (by omega)]; omega) ?_ | exact Keep.all (hK _ (.mk (.inr rfl) hb')) | refine New.mk (fun _ => ?_) | refine Look.at0 ?_ | refine Cell.row ?_ | refine Cell.buf ?_ | refine Cells.row rfl ?_ | refine Put.row rfl ?_ | refine Put.buf rfl ?_ | refine Look.at1 ?_ | refine Look.at2 ?_ | refine Look.at3 ?_ | refine Look.at4 ?_ | refine Look.at5 ?_ | refine Look.at6 ?_ | refine Look.at7 ?_ | refine Look.at8 ?_ | with_reducible refine Val.i64 (by omega) (by omega) ?_ | with_reducible refine Val.u8 (by omega) (by omega) ?_ | with_reducible refine Val.u32 (by omega) (by omega) ?_ | with_reducible refine Val.u64 (by omega) (by omega) ?_ | with_reducible refine Val.u8m ?_ | with_reducible refine Val.u32m ?_ | with_reducible refine Val.u64m ?_ | with_reducible refine Val.shr8 ?_ | with_reducible refine Val.shr16 (by decide) ?_ | with_reducible refine Val.shr24 (by decide) ?_ | with_reducible refine Val.raw ?_ | refine Branch.not ?_ | refine Branch.and ?_ | refine Branch.or ?_ | refine Branch.dt (by assumption) ?_ | refine Branch.df (by assumption) ?_ | refine Branch.dt rfl ?_ | refine Branch.dt (by omega) ?_ | refine Branch.df (by omega) ?_ | refine Branch.t rfl ?_ | refine Branch.f rfl ?_ | refine Branch.t (by assumption) ?_ | refine Branch.f (by assumption) ?_ | refine Branch.d (fun _ => ?_) (fun _ => ?_) | refine Branch.mk (fun _ => ?_) (fun _ => ?_) | refine Need.mk (by first | omega | decide | rfl) ?_ | refine Idx.nat (by omega) ?_ | refine Idx.auto (by first | omega | decide) (by first | omega | decide) ?_ | refine Cell.ro rfl ?_ | refine SDraw.all (by kernel_rfl) ?_ | refine Kept.k0 ?_ | refine Kept.k1 ?_ | refine Kept.k2 ?_ | refine Kept.k3 ?_ | refine Kept.k4 ?_))
theorem c41s (hT : BT T pre.length) (hN : Bld T r pre bs N) (K2 : Value → Heap → Prop) (hk : ∀ a c M, BufV 5 (.slice a bs.length c) bs M → K2 (.tuple ⟨[]⟩) (bRow T r pre (bPtr r pre) (.slice a bs.length c) :: M)) : SCalls Tryd.prog 41 [bPtr r pre] N K2 :=
  c41 hT hN (fun sv M hb => by
    obtain ⟨a, c, rfl⟩ := hb.len
    exact hk a c M hb)
theorem c46 (hT : BT T pre.length) (hN : Bld T r pre bs N) (hl : bs.length + l.length ≤ 140737488355328) (hK : ∀ N', Bld T r pre (bs ++ l) N' → K (.tuple ⟨[.int .i64 (l.length : Int), .nilIface]⟩) N') : SCalls Tryd.prog 46 [bPtr r pre, .string (strOf l)] N K := by
  refine enter46 ?_
  have h41 := c41s hT hN
  have h1 : ∀ sv, (Blk.row T (pre ++ [bPtr r pre, sv]) (0, 0)).cell (pre.length + 1) = some sv := fun sv => pre1 _ sv
  have hput : ∀ sv sv', PutOk (.row T (pre ++ [bPtr r pre, sv]) (0, 0)) (pre.length + 1) [sv'] (.row T (pre ++ [bPtr r pre, sv']) (0, 0)) := fun sv sv' => PutOk.row (by simp) (set1 _ sv sv')
  have happ : ∀ a c M, BufV 5 (.slice a bs.length c) bs M → ∀ (o : Oper) (xs xx : Operand) (K2 : Value → Heap → Prop), o.op = .call { callee := .builtin .append, args := #[xs, xx], argTypes := #[27, 9] } →
      (∀ a' c' M', BufV 5 (.slice a' (bs ++ l).length c') (bs ++ l) M' → K2 (.slice a' (bs ++ l).length c') (bRow T r pre (bPtr r pre) (.slice a bs.length c) :: M')) →
      RawV Tryd.prog o [.slice a bs.length c, .string (strOf l)] (bRow T r pre (bPtr r pre) (.slice a bs.length c) :: M) K2 := by
    intro a c M hb o xs xx K2 ho hk
    have := RawV.appStr (P := Tryd.prog) (A := [bRow T r pre (bPtr r pre) (.slice a bs.length c)]) (B := []) (l := l) (K := K2) ho (by kernel_rfl) (by kernel_rfl) (by kernel_rfl) hb hl (fun sv' N' h => by rw [List.append_nil]; obtain ⟨a', c', rfl⟩ := h.len; exact hk a' c' N' h)
    rw [List.append_nil] at this
    exact this
  have hsz : ((strOf l).size : Int) = (l.length : Int) := by rw [strOf_size]
  clear hN
  repeat' ((conv => whnf); (first | with_reducible refine h41 _ (fun a c M hb => ?_) | refine Look.cell (.head _) (h1 _) ?_ | with_reducible refine happ _ _ _ hb _ _ _ _ rfl (fun a' c' M' hb' => ?_) | refine ⟨[], _, M', rfl, _, hput _ _, appK_to ?_⟩ | (rw [hsz]; exact Keep.all (hK _ (.mk (.inr rfl) hb'))) | refine New.mk (fun _ => ?_) | refine Look.at0 ?_ | refine Cell.row ?_ | refine Cell.buf ?_ | refine Cells.row rfl ?_ | refine Put.row rfl ?_ | refine Put.buf rfl ?_ | refine Look.at1 ?_ | refine Look.at2 ?_ | refine Look.at3 ?_ | refine Look.at4 ?_ | refine Look.at5 ?_ | refine Look.at6 ?_ | refine Look.at7 ?_ | refine Look.at8 ?_ | with_reducible refine Val.i64 (by omega) (by omega) ?_ | with_reducible refine Val.u8 (by omega) (by omega) ?_ | with_reducible refine Val.u32 (by omega) (by omega) ?_ | with_reducible refine Val.u64 (by omega) (by omega) ?_ | with_reducible refine Val.u8m ?_ | with_reducible refine Val.u32m ?_ | with_reducible refine Val.u64m ?_ | with_reducible refine Val.shr8 ?_ | with_reducible refine Val.shr16 (by decide) ?_ | with_reducible refine Val.shr24 (by decide) ?_ | with_reducible refine Val.raw ?_ | refine Branch.not ?_ | refine Branch.and ?_ | refine Branch.or ?_ | refine Branch.dt (by assumption) ?_ | refine Branch.df (by assumption) ?_ | refine Branch.dt rfl ?_ | refine Branch.dt (by omega) ?_ | refine Branch.df (by omega) ?_ | refine Branch.t rfl ?_ | refine Branch.f rfl ?_ | refine Branch.t (by assumption) ?_ | refine Branch.f (by assumption) ?_ | refine Branch.d (fun _ => ?_) (fun _ => ?_) | refine Branch.mk (fun _ => ?_) (fun _ => ?_) | refine Need.mk (by first | omega | decide | rfl) ?_ | refine Idx.nat (by omega) ?_ | refine Idx.auto (by first | omega | decide) (by first | omega | decide) ?_ | refine Cell.ro rfl ?_ | refine SDraw.all (by kernel_rfl) ?_ | refine Kept.k0 ?_ | refine Kept.k1 ?_ | refine Kept.k2 ?_ | refine Kept.k3 ?_ | refine Kept.k4 ?_))
theorem c36 (hN : Bld T r pre bs N) (hK : ∀ N', Bld T r pre bs N' → K (.string (strOf bs)) N') : SCalls Tryd.prog 36 [bPtr r pre] N K := by
  refine enter36 ?_
  cases hN with
  | @mk p sv M hp hb =>
    obtain ⟨a, c, rfl⟩ := hb.len
    have h1 : (Blk.row T (pre ++ [p, .slice a bs.length c]) (0, 0)).cell (pre.length + 1) = some (.slice a bs.length c) := pre1 _ _
    have hcn : a = none ∨ c ≠ 0 := by
      generalize hsv : Value.slice a bs.length c = sv at hb
      cases hb with
      | nil => injection hsv with e1 _ _; exact .inl e1
      | row _ _ _ h0 => injection hsv with _ _ e3; exact .inr (by omega)
    have hun : ∀ (o : Oper) (x y : Operand) (K2 : Value → Heap → Prop), o.op = .call { callee := .builtin .unsafeString, args := #[x, y], argTypes := #[72, 3] } → (∀ M', BufV 5 (.slice a bs.length c) bs M' → K2 (.string (strOf bs)) (bRow T r pre p (.slice a bs.length c) :: M')) →
        RawV Tryd.prog o [.pointer a, .int .i64 (bs.length : Int)] (bRow T r pre p (.slice a bs.length c) :: M) K2 := by
      intro o x y K2 ho hk
      have := RawV.unsafeStr (P := Tryd.prog) (A := [bRow T r pre p (.slice a bs.length c)]) (B := []) (K := K2) ho (by kernel_rfl) (by kernel_rfl) hb (fun N' h => by rw [List.append_nil]; exact hk N' h)
      rw [List.append_nil] at this
      exact this
    repeat' ((conv => whnf); (first | refine Look.cell (.head _) h1 ?_ | refine RawV.sliceData rfl hcn ?_ | with_reducible refine hun _ _ _ _ rfl (fun M' hb' => ?_) | exact Keep.all (hK _ (.mk hp hb')) | refine New.mk (fun _ => ?_) | refine Look.at0 ?_ | refine Cell.row ?_ | refine Cell.buf ?_ | refine Cells.row rfl ?_ | refine Put.row rfl ?_ | refine Put.buf rfl ?_ | refine Look.at1 ?_ | refine Look.at2 ?_ | refine Look.at3 ?_ | refine Look.at4 ?_ | refine Look.at5 ?_ | refine Look.at6 ?_ | refine Look.at7 ?_ | refine Look.at8 ?_ | with_reducible refine Val.i64 (by omega) (by omega) ?_ | with_reducible refine Val.u8 (by omega) (by omega) ?_ | with_reducible refine Val.u32 (by omega) (by omega) ?_ | with_reducible refine Val.u64 (by omega) (by omega) ?_ | with_reducible refine Val.u8m ?_ | with_reducible refine Val.u32m ?_ | with_reducible refine Val.u64m ?_ | with_reducible refine Val.shr8 ?_ | with_reducible refine Val.shr16 (by decide) ?_ | with_reducible refine Val.shr24 (by decide) ?_ | with_reducible refine Val.raw ?_ | refine Branch.not ?_ | refine Branch.and ?_ | refine Branch.or ?_ | refine Branch.dt (by assumption) ?_ | refine Branch.df (by assumption) ?_ | refine Branch.dt rfl ?_ | refine Branch.dt (by omega) ?_ | refine Branch.df (by omega) ?_ | refine Branch.t rfl ?_ | refine Branch.f rfl ?_ | refine Branch.t (by assumption) ?_ | refine Branch.f (by assumption) ?_ | refine Branch.d (fun _ => ?_) (fun _ => ?_) | refine Branch.mk (fun _ => ?_) (fun _ => ?_) | refine Need.mk (by first | omega | decide | rfl) ?_ | refine Idx.nat (by omega) ?_ | refine Idx.auto (by first | omega | decide) (by first | omega | decide) ?_ | refine Cell.ro rfl ?_ | refine SDraw.all (by kernel_rfl) ?_ | refine Kept.k0 ?_ | refine Kept.k1 ?_ | refine Kept.k2 ?_ | refine Kept.k3 ?_ | refine Kept.k4 ?_))
end
end Go.Proofs.YtijnjklofdmelaaDoor


/- Layer 1: bits are stuffed: by walks. -/
set_option linter.unusedVariables false
set_option linter.unusedSimpArgs false
set_option maxRecDepth 100000
set_option maxHeartbeats 4000000
namespace Go.Proofs.YtijnjklofdmelaaDoor
open Sx
/-- The other bit. -/
def oth (b : UInt8) : UInt8 := if bitOf b then 48 else 49
/-- How many of one level there are, behind one more. -/
def tk (lv n c : Nat) : Nat := if c = lv then n + 1 else 1
structure St where
  out : List UInt8
  lv : Nat
  n : Nat
def St.step (s : St) (b : UInt8) : St := if tk s.lv s.n b.toNat = 5 then ⟨s.out ++ [b] ++ [oth b], (oth b).toNat, 1⟩ else ⟨s.out ++ [b], b.toNat, tk s.lv s.n b.toNat⟩
def stf (l : List UInt8) : St := l.foldl St.step ⟨[], 0, 0⟩
theorem stf_snoc (l : List UInt8) (b : UInt8) : stf (l ++ [b]) = (stf l).step b := by simp [stf]
theorem oth_n {b : UInt8} (h : isB b = true) : (oth b).toNat + b.toNat = 97 := by
  unfold oth
  rcases isB_cases h with ⟨h1, h2⟩ | ⟨h1, h2⟩ <;> rw [h2, h1] <;> rfl
theorem oth_b {b : UInt8} : isB (oth b) = true := by unfold oth; split <;> rfl
theorem snoc_ind {α : Type} {p : List α → Prop} (h0 : p []) (h1 : ∀ l b, p l → p (l ++ [b])) (l : List α) : p l := by
  have : ∀ r : List α, p r.reverse := by
    intro r
    induction r with
    | nil => exact h0
    | cons b r ih => rw [List.reverse_cons]; exact h1 _ _ ih
  have := this l.reverse
  rwa [List.reverse_reverse] at this
theorem St.ok : ∀ (l : List UInt8), (stf l).n ≤ 4 ∧ (stf l).out.length ≤ 2 * l.length ∧ (((stf l).out = [] ∧ (stf l).lv = 0 ∧ (stf l).n = 0 ∧ l = []) ∨ ∃ a b, (stf l).out = a ++ [b] ∧ (stf l).lv = b.toNat) := by
  intro l
  induction l using snoc_ind with
  | h0 => exact ⟨by decide, by decide, .inl ⟨rfl, rfl, rfl, rfl⟩⟩
  | h1 l b ih =>
    obtain ⟨h1, h2, h3⟩ := ih
    rw [stf_snoc]
    unfold St.step
    split
    · refine ⟨(by show (1 : Nat) ≤ 4; decide), ?_, .inr ⟨_, _, rfl, rfl⟩⟩
      simp; omega
    · rename_i hne
      refine ⟨?_, ?_, .inr ⟨_, _, rfl, rfl⟩⟩
      · show tk _ _ _ ≤ 4
        have h5 : tk (stf l).lv (stf l).n b.toNat ≤ (stf l).n + 1 := by unfold tk; split <;> omega
        omega
      · simp; omega
abbrev runB (q : Nat) (lv n : Nat) : Nat × Blk := (q, .row 57 [.int .i32 (lv : Int), .int .i64 (n : Int)] (0, 0))
inductive S16 (A4 A5 A6 A16 : Value) : List Value → Prop
  | mk {r0 r1 r2 r3 r7 r8 r9 r10 r11 r12 r13 r14 r15 r17 r18 r19 r20 r21 r22 r23 r24 r25 r26 r27 r28 r29 r30 r31 r32 r33 : Value} : S16 A4 A5 A6 A16 [r0, r1, r2, r3, A4, A5, A6, r7, r8, r9, r10, r11, r12, r13, r14, r15, A16, r17, r18, r19, r20, r21, r22, r23, r24, r25, r26, r27, r28, r29, r30, r31, r32, r33]
section
variable {K : Value → Heap → Prop} {H : Heap}
theorem c34 {q lv n c : Nat} (hn : n ≤ 100000) (hK : K (.tuple ⟨[]⟩) [runB q c (tk lv n c)]) : SCalls Tryd.prog 34 [ptr q, .int .i32 (c : Int)] [runB q lv n] K := by
  refine enter34 ?_
  unfold tk at hK
  by_cases h : c = lv
  · subst h
    rw [if_pos rfl] at hK
    have e : ((n + 1 : Nat) : Int) = (n : Int) + 1 := by omega
    simp only [runB, e] at hK
    repeat' ((conv => whnf); (first | refine Branch.f (by simp; done) ?_ | with_reducible exact Keep.all hK | refine New.mk (fun _ => ?_) | refine Look.at0 ?_ | refine Cell.row ?_ | refine Cell.buf ?_ | refine Cells.row rfl ?_ | refine Put.row rfl ?_ | refine Put.buf rfl ?_ | refine Look.at1 ?_ | refine Look.at2 ?_ | refine Look.at3 ?_ | refine Look.at4 ?_ | refine Look.at5 ?_ | refine Look.at6 ?_ | refine Look.at7 ?_ | refine Look.at8 ?_ | with_reducible refine Val.i64 (by omega) (by omega) ?_ | with_reducible refine Val.u8 (by omega) (by omega) ?_ | with_reducible refine Val.u32 (by omega) (by omega) ?_ | with_reducible refine Val.u64 (by omega) (by omega) ?_ | with_reducible refine Val.u8m ?_ | with_reducible refine Val.u32m ?_ | with_reducible refine Val.u64m ?_ | with_reducible refine Val.shr8 ?_ | with_reducible refine Val.shr16 (by decide) ?_ | with_reducible refine Val.shr24 (by decide) ?_ | with_reducible refine Val.raw ?_ | refine Branch.not ?_ | refine Branch.and ?_ | refine Branch.or ?_ | refine Branch.dt (by assumption) ?_ | refine Branch.df (by assumption) ?_ | refine Branch.dt rfl ?_ | refine Branch.dt (by omega) ?_ | refine Branch.df (by omega) ?_ | refine Branch.t rfl ?_ | refine Branch.f rfl ?_ | refine Branch.t (by assumption) ?_ | refine Branch.f (by assumption) ?_ | refine Branch.d (fun _ => ?_) (fun _ => ?_) | refine Branch.mk (fun _ => ?_) (fun _ => ?_) | refine Need.mk (by first | omega | decide | rfl) ?_ | refine Idx.nat (by omega) ?_ | refine Idx.auto (by first | omega | decide) (by first | omega | decide) ?_ | refine Cell.ro rfl ?_ | refine SDraw.all (by kernel_rfl) ?_ | refine Kept.k0 ?_ | refine Kept.k1 ?_ | refine Kept.k2 ?_ | refine Kept.k3 ?_ | refine Kept.k4 ?_))
  · rw [if_neg h] at hK
    have h' : ¬ (c : Int) = (lv : Int) := by omega
    repeat' ((conv => whnf); (first | refine Branch.t (by first | (simp [h']; done)) ?_ | with_reducible refine Val.to 1 rfl ?_ | exact Keep.all hK | refine New.mk (fun _ => ?_) | refine Look.at0 ?_ | refine Cell.row ?_ | refine Cell.buf ?_ | refine Cells.row rfl ?_ | refine Put.row rfl ?_ | refine Put.buf rfl ?_ | refine Look.at1 ?_ | refine Look.at2 ?_ | refine Look.at3 ?_ | refine Look.at4 ?_ | refine Look.at5 ?_ | refine Look.at6 ?_ | refine Look.at7 ?_ | refine Look.at8 ?_ | with_reducible refine Val.i64 (by omega) (by omega) ?_ | with_reducible refine Val.u8 (by omega) (by omega) ?_ | with_reducible refine Val.u32 (by omega) (by omega) ?_ | with_reducible refine Val.u64 (by omega) (by omega) ?_ | with_reducible refine Val.u8m ?_ | with_reducible refine Val.u32m ?_ | with_reducible refine Val.u64m ?_ | with_reducible refine Val.shr8 ?_ | with_reducible refine Val.shr16 (by decide) ?_ | with_reducible refine Val.shr24 (by decide) ?_ | with_reducible refine Val.raw ?_ | refine Branch.not ?_ | refine Branch.and ?_ | refine Branch.or ?_ | refine Branch.dt (by assumption) ?_ | refine Branch.df (by assumption) ?_ | refine Branch.dt rfl ?_ | refine Branch.dt (by omega) ?_ | refine Branch.df (by omega) ?_ | refine Branch.t rfl ?_ | refine Branch.f rfl ?_ | refine Branch.t (by assumption) ?_ | refine Branch.f (by assumption) ?_ | refine Branch.d (fun _ => ?_) (fun _ => ?_) | refine Branch.mk (fun _ => ?_) (fun _ => ?_) | refine Need.mk (by first | omega | decide | rfl) ?_ | refine Idx.nat (by omega) ?_ | refine Idx.auto (by first | omega | decide) (by first | omega | decide) ?_ | refine Cell.ro rfl ?_ | refine SDraw.all (by kernel_rfl) ?_ | refine Kept.k0 ?_ | refine Kept.k1 ?_ | refine Kept.k2 ?_ | refine Kept.k3 ?_ | refine Kept.k4 ?_))
theorem c35 {b : UInt8} (hb : isB b = true) (hK : K (.int .i32 ((oth b).toNat : Int)) H) : SCalls Tryd.prog 35 [.int .i32 (b.toNat : Int)] H K := by
  refine enter35 ?_
  have := oth_n hb
  repeat' ((conv => whnf); (first | with_reducible refine Val.to ((oth b).toNat : Int) (by rw [wrap_i32 (by omega) (by omega)]; omega) ?_ | with_reducible exact Keep.all hK | refine New.mk (fun _ => ?_) | refine Look.at0 ?_ | refine Cell.row ?_ | refine Cell.buf ?_ | refine Cells.row rfl ?_ | refine Put.row rfl ?_ | refine Put.buf rfl ?_ | refine Look.at1 ?_ | refine Look.at2 ?_ | refine Look.at3 ?_ | refine Look.at4 ?_ | refine Look.at5 ?_ | refine Look.at6 ?_ | refine Look.at7 ?_ | refine Look.at8 ?_ | with_reducible refine Val.i64 (by omega) (by omega) ?_ | with_reducible refine Val.u8 (by omega) (by omega) ?_ | with_reducible refine Val.u32 (by omega) (by omega) ?_ | with_reducible refine Val.u64 (by omega) (by omega) ?_ | with_reducible refine Val.u8m ?_ | with_reducible refine Val.u32m ?_ | with_reducible refine Val.u64m ?_ | with_reducible refine Val.shr8 ?_ | with_reducible refine Val.shr16 (by decide) ?_ | with_reducible refine Val.shr24 (by decide) ?_ | with_reducible refine Val.raw ?_ | refine Branch.not ?_ | refine Branch.and ?_ | refine Branch.or ?_ | refine Branch.dt (by assumption) ?_ | refine Branch.df (by assumption) ?_ | refine Branch.dt rfl ?_ | refine Branch.dt (by omega) ?_ | refine Branch.df (by omega) ?_ | refine Branch.t rfl ?_ | refine Branch.f rfl ?_ | refine Branch.t (by assumption) ?_ | refine Branch.f (by assumption) ?_ | refine Branch.d (fun _ => ?_) (fun _ => ?_) | refine Branch.mk (fun _ => ?_) (fun _ => ?_) | refine Need.mk (by first | omega | decide | rfl) ?_ | refine Idx.nat (by omega) ?_ | refine Idx.auto (by first | omega | decide) (by first | omega | decide) ?_ | refine Cell.ro rfl ?_ | refine SDraw.all (by kernel_rfl) ?_ | refine Kept.k0 ?_ | refine Kept.k1 ?_ | refine Kept.k2 ?_ | refine Kept.k3 ?_ | refine Kept.k4 ?_))
theorem c16 {l : List UInt8} (h0 : chk l = 0) (hK : K (.tuple ⟨[.string (strOf (stf l).out), .int .i64 0]⟩) H) : SCalls Tryd.prog 16 [.string (strOf l)] H K := by
  refine enter16 ?_
  rcases chk_cases l with ⟨_, hl, hB⟩ | ⟨h0', _⟩
  · have h32 := fun (K : Value → Heap → Prop) (hk : K (.int .i64 0) H) => c32 (l := l) (K := K) (H := H) (by rw [h0]; exact hk)
    repeat' ((conv => whnf); (first | with_reducible refine h32 _ ?_ | refine Branch.f rfl ?_ | refine RawV.rangeStr rfl (by kernel_rfl) (fun q => ?_) | refine New.mk (fun _ => ?_) | refine Look.at0 ?_ | refine Cell.row ?_ | refine Cell.buf ?_ | refine Cells.row rfl ?_ | refine Put.row rfl ?_ | refine Put.buf rfl ?_ | refine Look.at1 ?_ | refine Look.at2 ?_ | refine Look.at3 ?_ | refine Look.at4 ?_ | refine Look.at5 ?_ | refine Look.at6 ?_ | refine Look.at7 ?_ | refine Look.at8 ?_ | with_reducible refine Val.i64 (by omega) (by omega) ?_ | with_reducible refine Val.u8 (by omega) (by omega) ?_ | with_reducible refine Val.u32 (by omega) (by omega) ?_ | with_reducible refine Val.u64 (by omega) (by omega) ?_ | with_reducible refine Val.u8m ?_ | with_reducible refine Val.u32m ?_ | with_reducible refine Val.u64m ?_ | with_reducible refine Val.shr8 ?_ | with_reducible refine Val.shr16 (by decide) ?_ | with_reducible refine Val.shr24 (by decide) ?_ | with_reducible refine Val.raw ?_ | refine Branch.not ?_ | refine Branch.and ?_ | refine Branch.or ?_ | refine Branch.dt (by assumption) ?_ | refine Branch.df (by assumption) ?_ | refine Branch.dt rfl ?_ | refine Branch.dt (by omega) ?_ | refine Branch.df (by omega) ?_ | refine Branch.t rfl ?_ | refine Branch.f rfl ?_ | refine Branch.t (by assumption) ?_ | refine Branch.f (by assumption) ?_ | refine Branch.d (fun _ => ?_) (fun _ => ?_) | refine Branch.mk (fun _ => ?_) (fun _ => ?_) | refine Need.mk (by first | omega | decide | rfl) ?_ | refine Idx.nat (by omega) ?_ | refine Idx.auto (by first | omega | decide) (by first | omega | decide) ?_ | refine Cell.ro rfl ?_ | refine SDraw.all (by kernel_rfl) ?_ | refine Kept.k0 ?_ | refine Kept.k1 ?_ | refine Kept.k2 ?_ | refine Kept.k3 ?_ | refine Kept.k4 ?_))
    rename_i b q6
    refine SLoop.invA (fun (j : Nat) S H' => j ≤ l.length ∧ S16 (.int .i64 0) (ptr b) (ptr q6) (ptr q) S ∧ ∃ N, Bld 55 b [] (stf (l.take j)).out N ∧ H' = (q, sIter (strOf l) j) :: runB q6 (stf (l.take j)).lv (stf (l.take j)).n :: (N ++ H)) (fun j => l.length - j) 0 (Keep.all ⟨Nat.zero_le _, .mk, _, Bld.new, rfl⟩) ?_
    rintro j S H' ⟨hj, hS, N, hN, rfl⟩ R hR
    cases hS
    obtain ⟨k1, k2, k3⟩ := St.ok (l.take j)
    have k4 : (l.take j).length ≤ 65536 := by rw [List.length_take]; omega
    by_cases hlt : j < l.length
    · have hx := List.getElem?_eq_getElem hlt
      generalize l[j] = c at hx
      have htk : l.take (j + 1) = l.take j ++ [c] := by rw [List.take_add_one, hx]; rfl
      have hcB := hB c (List.mem_of_getElem? hx)
      have hnx : ∀ (H : Heap) (K2 : Value → Heap → Prop), K2 (.tuple ⟨[.bool true, .int .i64 (j : Int), .int .i32 (c.toNat : Int)]⟩) ((q, sIter (strOf l) (j + 1)) :: H) → ∀ o xm, Oper.op o = .next xm true → RawV Tryd.prog o [ptr q] ((q, sIter (strOf l) j) :: H) K2 := fun H K2 hk o xm ho =>
        RawV.nextS0 ho (ascii hB) (fun h => by omega) (fun b2 hb2 => by rw [hx] at hb2; injection hb2 with hb2; subst hb2; exact hk)
      have hnext : ∀ S N, S16 (.int .i64 0) (ptr b) (ptr q6) (ptr q) S → Bld 55 b [] (St.step ⟨(stf (l.take j)).out, (stf (l.take j)).lv, (stf (l.take j)).n⟩ c).out N → R S ((q, sIter (strOf l) (j + 1)) :: runB q6 (St.step ⟨(stf (l.take j)).out, (stf (l.take j)).lv, (stf (l.take j)).n⟩ c).lv (St.step ⟨(stf (l.take j)).out, (stf (l.take j)).lv, (stf (l.take j)).n⟩ c).n :: (N ++ H)) := fun S N hS hN => hR (j + 1) _ _ (by omega) (Keep.all ⟨hlt, hS, N, by rw [htk, stf_snoc]; exact hN, by rw [htk, stf_snoc]⟩)
      clear hR hK h32 htk k3
      generalize (stf (l.take j)).out = out at hN hnext k2
      generalize (stf (l.take j)).lv = lv at hnext
      generalize (stf (l.take j)).n = n at hnext k1
      have h33 : ∀ (x y : Nat × Blk) (c : UInt8) (out : List UInt8) (N : Heap) (K2 : Value → Heap → Prop), Bld 55 b [] out N → isB c = true → out.length ≤ 140737488355320 → (∀ N', Bld 55 b [] (out ++ [c]) N' → K2 (.tuple ⟨[.int .i64 1, .nilIface]⟩) (x :: y :: (N' ++ H))) → SCalls Tryd.prog 33 [ptr b, .int .i32 (c.toNat : Int)] (x :: y :: (N ++ H)) K2 := fun x y c out N K2 hN hc hl hk =>
        SCalls.midH [x, y] H (c33 (pre := []) bt55 hN (by rcases isB_cases hc with ⟨h, _⟩ | ⟨h, _⟩ <;> omega) (by omega) hk)
      have h34 : ∀ (x : Nat × Blk) (H : Heap) (lv n c : Nat) (K2 : Value → Heap → Prop), n ≤ 100000 → K2 (.tuple ⟨[]⟩) (x :: runB q6 c (tk lv n c) :: H) → SCalls Tryd.prog 34 [ptr q6, .int .i32 (c : Int)] (x :: runB q6 lv n :: H) K2 := fun x H lv n c K2 hn hk => SCalls.at1 (c34 hn hk)
      unfold St.step at hnext
      dsimp only at hnext
      by_cases h5 : tk lv n c.toNat = 5
      · rw [if_pos h5] at hnext
        have h1 : tk c.toNat 5 (oth c).toNat = 1 := by
          have := oth_n hcB
          unfold tk
          rw [if_neg (by omega)]
        repeat' ((conv => whnf); (first | with_reducible refine hnx _ _ ?_ _ _ rfl | with_reducible refine h33 _ _ _ _ _ _ hN hcB (by omega) (fun N' hN' => ?_) | with_reducible refine h33 _ _ _ _ _ _ hN' oth_b (by simp; omega) (fun N2 hN2 => ?_) | with_reducible refine h34 _ _ _ _ _ _ (by omega) ?_ | refine Branch.t (by rw [h5]; rfl) ?_ | with_reducible refine c35 hcB ?_ | (rw [h5, h1]; exact hnext _ _ .mk hN2) | refine New.mk (fun _ => ?_) | refine Look.at0 ?_ | refine Cell.row ?_ | refine Cell.buf ?_ | refine Cells.row rfl ?_ | refine Put.row rfl ?_ | refine Put.buf rfl ?_ | refine Look.at1 ?_ | refine Look.at2 ?_ | refine Look.at3 ?_ | refine Look.at4 ?_ | refine Look.at5 ?_ | refine Look.at6 ?_ | refine Look.at7 ?_ | refine Look.at8 ?_ | with_reducible refine Val.i64 (by omega) (by omega) ?_ | with_reducible refine Val.u8 (by omega) (by omega) ?_ | with_reducible refine Val.u32 (by omega) (by omega) ?_ | with_reducible refine Val.u64 (by omega) (by omega) ?_ | with_reducible refine Val.u8m ?_ | with_reducible refine Val.u32m ?_ | with_reducible refine Val.u64m ?_ | with_reducible refine Val.shr8 ?_ | with_reducible refine Val.shr16 (by decide) ?_ | with_reducible refine Val.shr24 (by decide) ?_ | with_reducible refine Val.raw ?_ | refine Branch.not ?_ | refine Branch.and ?_ | refine Branch.or ?_ | refine Branch.dt (by assumption) ?_ | refine Branch.df (by assumption) ?_ | refine Branch.dt rfl ?_ | refine Branch.dt (by omega) ?_ | refine Branch.df (by omega) ?_ | refine Branch.t rfl ?_ | refine Branch.f rfl ?_ | refine Branch.t (by assumption) ?_ | refine Branch.f (by assumption) ?_ | refine Branch.d (fun _ => ?_) (fun _ => ?_) | refine Branch.mk (fun _ => ?_) (fun _ => ?_) | refine Need.mk (by first | omega | decide | rfl) ?_ | refine Idx.nat (by omega) ?_ | refine Idx.auto (by first | omega | decide) (by first | omega | decide) ?_ | refine Cell.ro rfl ?_ | refine SDraw.all (by kernel_rfl) ?_ | refine Kept.k0 ?_ | refine Kept.k1 ?_ | refine Kept.k2 ?_ | refine Kept.k3 ?_ | refine Kept.k4 ?_))
      · rw [if_neg h5] at hnext
        repeat' ((conv => whnf); (first | with_reducible refine hnx _ _ ?_ _ _ rfl | with_reducible refine h33 _ _ _ _ _ _ hN hcB (by omega) (fun N' hN' => ?_) | with_reducible refine h34 _ _ _ _ _ _ (by omega) ?_ | refine Branch.df (by omega) ?_ | refine hnext _ _ .mk hN' | refine New.mk (fun _ => ?_) | refine Look.at0 ?_ | refine Cell.row ?_ | refine Cell.buf ?_ | refine Cells.row rfl ?_ | refine Put.row rfl ?_ | refine Put.buf rfl ?_ | refine Look.at1 ?_ | refine Look.at2 ?_ | refine Look.at3 ?_ | refine Look.at4 ?_ | refine Look.at5 ?_ | refine Look.at6 ?_ | refine Look.at7 ?_ | refine Look.at8 ?_ | with_reducible refine Val.i64 (by omega) (by omega) ?_ | with_reducible refine Val.u8 (by omega) (by omega) ?_ | with_reducible refine Val.u32 (by omega) (by omega) ?_ | with_reducible refine Val.u64 (by omega) (by omega) ?_ | with_reducible refine Val.u8m ?_ | with_reducible refine Val.u32m ?_ | with_reducible refine Val.u64m ?_ | with_reducible refine Val.shr8 ?_ | with_reducible refine Val.shr16 (by decide) ?_ | with_reducible refine Val.shr24 (by decide) ?_ | with_reducible refine Val.raw ?_ | refine Branch.not ?_ | refine Branch.and ?_ | refine Branch.or ?_ | refine Branch.dt (by assumption) ?_ | refine Branch.df (by assumption) ?_ | refine Branch.dt rfl ?_ | refine Branch.dt (by omega) ?_ | refine Branch.df (by omega) ?_ | refine Branch.t rfl ?_ | refine Branch.f rfl ?_ | refine Branch.t (by assumption) ?_ | refine Branch.f (by assumption) ?_ | refine Branch.d (fun _ => ?_) (fun _ => ?_) | refine Branch.mk (fun _ => ?_) (fun _ => ?_) | refine Need.mk (by first | omega | decide | rfl) ?_ | refine Idx.nat (by omega) ?_ | refine Idx.auto (by first | omega | decide) (by first | omega | decide) ?_ | refine Cell.ro rfl ?_ | refine SDraw.all (by kernel_rfl) ?_ | refine Kept.k0 ?_ | refine Kept.k1 ?_ | refine Kept.k2 ?_ | refine Kept.k3 ?_ | refine Kept.k4 ?_))
    · have e : j = l.length := by omega
      subst e
      rw [List.take_length] at hN ⊢
      have hnx : ∀ (H : Heap) (K2 : Value → Heap → Prop), K2 (.tuple ⟨[.bool false]⟩) ((q, sIter (strOf l) l.length) :: H) → ∀ o xm, Oper.op o = .next xm true → RawV Tryd.prog o [ptr q] ((q, sIter (strOf l) l.length) :: H) K2 := fun H K2 hk o xm ho =>
        RawV.nextS0 ho (ascii hB) (fun h => hk) (fun b2 hb2 => by have := (List.getElem?_eq_some_iff.1 hb2).1; omega)
      have h36 : ∀ (x y : Nat × Blk) (K2 : Value → Heap → Prop), (∀ N', K2 (.string (strOf (stf l).out)) (x :: y :: (N' ++ H))) → SCalls Tryd.prog 36 [ptr b] (x :: y :: (N ++ H)) K2 := fun x y K2 hk =>
        SCalls.midH [x, y] H (c36 (pre := []) hN fun N' _ => hk N')
      have hk2 : ∀ (x y : Nat × Blk) (N : Heap), Keep (x :: y :: (N ++ H)) fun H' => K (.tuple ⟨[.string (strOf (stf l).out), .int .i64 0]⟩) H' := fun x y N => Keep.sub H (List.sublist_append_right (x :: y :: N) H) hK
      clear hR h32 hK
      repeat' ((conv => whnf); (first | with_reducible refine hnx _ _ ?_ _ _ rfl | refine Branch.f rfl ?_ | with_reducible refine h36 _ _ _ (fun N' => ?_) | with_reducible exact hk2 _ _ _ | refine New.mk (fun _ => ?_) | refine Look.at0 ?_ | refine Cell.row ?_ | refine Cell.buf ?_ | refine Cells.row rfl ?_ | refine Put.row rfl ?_ | refine Put.buf rfl ?_ | refine Look.at1 ?_ | refine Look.at2 ?_ | refine Look.at3 ?_ | refine Look.at4 ?_ | refine Look.at5 ?_ | refine Look.at6 ?_ | refine Look.at7 ?_ | refine Look.at8 ?_ | with_reducible refine Val.i64 (by omega) (by omega) ?_ | with_reducible refine Val.u8 (by omega) (by omega) ?_ | with_reducible refine Val.u32 (by omega) (by omega) ?_ | with_reducible refine Val.u64 (by omega) (by omega) ?_ | with_reducible refine Val.u8m ?_ | with_reducible refine Val.u32m ?_ | with_reducible refine Val.u64m ?_ | with_reducible refine Val.shr8 ?_ | with_reducible refine Val.shr16 (by decide) ?_ | with_reducible refine Val.shr24 (by decide) ?_ | with_reducible refine Val.raw ?_ | refine Branch.not ?_ | refine Branch.and ?_ | refine Branch.or ?_ | refine Branch.dt (by assumption) ?_ | refine Branch.df (by assumption) ?_ | refine Branch.dt rfl ?_ | refine Branch.dt (by omega) ?_ | refine Branch.df (by omega) ?_ | refine Branch.t rfl ?_ | refine Branch.f rfl ?_ | refine Branch.t (by assumption) ?_ | refine Branch.f (by assumption) ?_ | refine Branch.d (fun _ => ?_) (fun _ => ?_) | refine Branch.mk (fun _ => ?_) (fun _ => ?_) | refine Need.mk (by first | omega | decide | rfl) ?_ | refine Idx.nat (by omega) ?_ | refine Idx.auto (by first | omega | decide) (by first | omega | decide) ?_ | refine Cell.ro rfl ?_ | refine SDraw.all (by kernel_rfl) ?_ | refine Kept.k0 ?_ | refine Kept.k1 ?_ | refine Kept.k2 ?_ | refine Kept.k3 ?_ | refine Kept.k4 ?_))
  · exact absurd h0 h0'
end
end Go.Proofs.YtijnjklofdmelaaDoor


/- Layer 1: bits are unstuffed: by walks. -/
set_option linter.unusedVariables false
set_option linter.unusedSimpArgs false
set_option maxRecDepth 100000
set_option maxHeartbeats 4000000
namespace Go.Proofs.YtijnjklofdmelaaDoor
open Sx
/-- What is left of the bits from place j on. -/
def unsR : St → Nat → List UInt8 → List UInt8 × Nat × Int
  | s, j, [] => if s.n = 5 then ([], j, 3) else (s.out, j, 0)
  | s, j, b :: r => if s.n = 5 ∧ b.toNat = s.lv then ([], j, 20) else unsR ⟨if s.n = 5 then s.out else s.out ++ [b], b.toNat, tk s.lv s.n b.toNat⟩ (j + 1) r
def uns (l : List UInt8) : List UInt8 × Nat × Int := unsR ⟨[], 0, 0⟩ 0 l
/-- Where the work is at place j. -/
structure At (l : List UInt8) (j : Nat) (out : List UInt8) (lv n : Nat) : Prop where
  le : j ≤ l.length
  eq : uns l = unsR ⟨out, lv, n⟩ j (l.drop j)
  n5 : n ≤ 5
  len : out.length ≤ j
  last : (j = 0 ∧ lv = 0 ∧ n = 0) ∨ (0 < j ∧ ∃ b, l[j - 1]? = some b ∧ lv = b.toNat)
theorem At.zero (l : List UInt8) : At l 0 [] 0 0 := ⟨Nat.zero_le _, rfl, by decide, Nat.le_refl _, .inl ⟨rfl, rfl, rfl⟩⟩
theorem drop_cons' {l : List UInt8} {j : Nat} {b : UInt8} (h : l[j]? = some b) : l.drop j = b :: l.drop (j + 1) := by
  obtain ⟨hlt, rfl⟩ := List.getElem?_eq_some_iff.1 h
  exact List.drop_eq_getElem_cons hlt
theorem At.next {l out : List UInt8} {j lv n : Nat} {b : UInt8} (h : At l j out lv n) (hx : l[j]? = some b) (hn : ¬ (n = 5 ∧ b.toNat = lv)) : At l (j + 1) (if n = 5 then out else out ++ [b]) b.toNat (tk lv n b.toNat) := by
  refine ⟨(List.getElem?_eq_some_iff.1 hx).1, ?_, ?_, ?_, .inr ⟨by omega, b, hx, rfl⟩⟩
  · rw [h.eq, drop_cons' hx]
    show (if n = 5 ∧ b.toNat = lv then _ else _) = _
    rw [if_neg hn]
  · have := h.n5
    unfold tk
    split
    · rename_i e
      have : n ≠ 5 := fun e5 => hn ⟨e5, e⟩
      omega
    · omega
  · have := h.len
    split
    · omega
    · simp; omega
theorem At.fin {l out : List UInt8} {lv n : Nat} (h : At l l.length out lv n) : uns l = if n = 5 then ([], l.length, 3) else (out, l.length, 0) := by
  have := h.eq
  rw [List.drop_length] at this
  exact this
section
variable {K : Value → Heap → Prop} {H : Heap}
end
end Go.Proofs.YtijnjklofdmelaaDoor


/- Layer 1: the document's stuffing and unstuffing: by walks. -/
set_option linter.unusedVariables false
set_option linter.unusedSimpArgs false
set_option maxRecDepth 100000
set_option maxHeartbeats 4000000
namespace Go.Proofs.YtijnjklofdmelaaDoor
open Sx
section
variable {K : Value → Heap → Prop} {H : Heap}
end
end Go.Proofs.YtijnjklofdmelaaDoor


/- Layer 1: the document's stuffing: by walks. -/
set_option linter.unusedVariables false
set_option linter.unusedSimpArgs false
set_option maxRecDepth 100000
set_option maxHeartbeats 4000000
namespace Go.Proofs.YtijnjklofdmelaaDoor
open Sx
section
variable {K : Value → Heap → Prop} {H : Heap}
/-- A text of bits. -/
theorem c28 {l : List UInt8} (hK : K (.bool (decide (chk l = 0))) H) : SCalls Tryd.prog 28 [.string (strOf l)] H K := by
  refine enter28 ?_
  repeat' ((conv => whnf); (first | refine c32 ?_ | exact Keep.all hK | refine New.mk (fun _ => ?_) | refine Look.at0 ?_ | refine Cell.row ?_ | refine Cell.buf ?_ | refine Cells.row rfl ?_ | refine Put.row rfl ?_ | refine Put.buf rfl ?_ | refine Look.at1 ?_ | refine Look.at2 ?_ | refine Look.at3 ?_ | refine Look.at4 ?_ | refine Look.at5 ?_ | refine Look.at6 ?_ | refine Look.at7 ?_ | refine Look.at8 ?_ | with_reducible refine Val.i64 (by omega) (by omega) ?_ | with_reducible refine Val.u8 (by omega) (by omega) ?_ | with_reducible refine Val.u32 (by omega) (by omega) ?_ | with_reducible refine Val.u64 (by omega) (by omega) ?_ | with_reducible refine Val.u8m ?_ | with_reducible refine Val.u32m ?_ | with_reducible refine Val.u64m ?_ | with_reducible refine Val.shr8 ?_ | with_reducible refine Val.shr16 (by decide) ?_ | with_reducible refine Val.shr24 (by decide) ?_ | with_reducible refine Val.raw ?_ | refine Branch.not ?_ | refine Branch.and ?_ | refine Branch.or ?_ | refine Branch.dt (by assumption) ?_ | refine Branch.df (by assumption) ?_ | refine Branch.dt rfl ?_ | refine Branch.dt (by omega) ?_ | refine Branch.df (by omega) ?_ | refine Branch.t rfl ?_ | refine Branch.f rfl ?_ | refine Branch.t (by assumption) ?_ | refine Branch.f (by assumption) ?_ | refine Branch.d (fun _ => ?_) (fun _ => ?_) | refine Branch.mk (fun _ => ?_) (fun _ => ?_) | refine Need.mk (by first | omega | decide | rfl) ?_ | refine Idx.nat (by omega) ?_ | refine Idx.auto (by first | omega | decide) (by first | omega | decide) ?_ | refine Cell.ro rfl ?_ | refine SDraw.all (by kernel_rfl) ?_ | refine Kept.k0 ?_ | refine Kept.k1 ?_ | refine Kept.k2 ?_ | refine Kept.k3 ?_ | refine Kept.k4 ?_))
theorem c12 (hK : K (.bool true) H) : SCalls Tryd.prog 12 [] H K := by
  refine enter12 (_u := .bool false) ?_
  have e1 : ∀ (K : Value → Heap → Prop), K (.tuple ⟨[.string ⟨#[48, 48, 48, 48, 48, 49]⟩, .int .i64 0]⟩) H → SCalls Tryd.prog 16 [.string ⟨#[48, 48, 48, 48, 48]⟩] H K := fun K hk => c16 (l := [48, 48, 48, 48, 48]) (by decide) hk
  have e2 : ∀ (K : Value → Heap → Prop), K (.tuple ⟨[.int .u16 17817, .int .i64 0]⟩) H → SCalls Tryd.prog 11 [.string ⟨#[49]⟩] H K := fun K hk => c11 (l := [49]) hk
  have e3 : ∀ (K : Value → Heap → Prop), K (.bool true) H → SCalls Tryd.prog 28 [.string ⟨#[48, 49]⟩] H K := fun K hk => c28 (l := [48, 49]) hk
  have e4 : ∀ (K : Value → Heap → Prop), K (.bool false) H → SCalls Tryd.prog 28 [.string ⟨#[50]⟩] H K := fun K hk => c28 (l := [50]) hk
  repeat' ((conv => whnf); (first | with_reducible refine e1 _ ?_ | with_reducible refine e2 _ ?_ | with_reducible refine e3 _ ?_ | with_reducible refine e4 _ ?_ | refine Branch.t rfl ?_ | exact Keep.all hK | refine New.mk (fun _ => ?_) | refine Look.at0 ?_ | refine Cell.row ?_ | refine Cell.buf ?_ | refine Cells.row rfl ?_ | refine Put.row rfl ?_ | refine Put.buf rfl ?_ | refine Look.at1 ?_ | refine Look.at2 ?_ | refine Look.at3 ?_ | refine Look.at4 ?_ | refine Look.at5 ?_ | refine Look.at6 ?_ | refine Look.at7 ?_ | refine Look.at8 ?_ | with_reducible refine Val.i64 (by omega) (by omega) ?_ | with_reducible refine Val.u8 (by omega) (by omega) ?_ | with_reducible refine Val.u32 (by omega) (by omega) ?_ | with_reducible refine Val.u64 (by omega) (by omega) ?_ | with_reducible refine Val.u8m ?_ | with_reducible refine Val.u32m ?_ | with_reducible refine Val.u64m ?_ | with_reducible refine Val.shr8 ?_ | with_reducible refine Val.shr16 (by decide) ?_ | with_reducible refine Val.shr24 (by decide) ?_ | with_reducible refine Val.raw ?_ | refine Branch.not ?_ | refine Branch.and ?_ | refine Branch.or ?_ | refine Branch.dt (by assumption) ?_ | refine Branch.df (by assumption) ?_ | refine Branch.dt rfl ?_ | refine Branch.dt (by omega) ?_ | refine Branch.df (by omega) ?_ | refine Branch.t rfl ?_ | refine Branch.f rfl ?_ | refine Branch.t (by assumption) ?_ | refine Branch.f (by assumption) ?_ | refine Branch.d (fun _ => ?_) (fun _ => ?_) | refine Branch.mk (fun _ => ?_) (fun _ => ?_) | refine Need.mk (by first | omega | decide | rfl) ?_ | refine Idx.nat (by omega) ?_ | refine Idx.auto (by first | omega | decide) (by first | omega | decide) ?_ | refine Cell.ro rfl ?_ | refine SDraw.all (by kernel_rfl) ?_ | refine Kept.k0 ?_ | refine Kept.k1 ?_ | refine Kept.k2 ?_ | refine Kept.k3 ?_ | refine Kept.k4 ?_))
end
end Go.Proofs.YtijnjklofdmelaaDoor


/- Layer 1: the sums of bytes: by walks; and that bytes with their sum behind them have the sum 0. -/
set_option linter.unusedVariables false
set_option linter.unusedSimpArgs false
set_option maxRecDepth 100000
set_option maxHeartbeats 4000000
namespace Go.Proofs.YtijnjklofdmelaaDoor
open Sx
abbrev cB (b : UInt8) : List Value := [.int .u8 (b.toNat : Int)]
section
variable {K : Value → Heap → Prop} {H : Heap}
end
end Go.Proofs.YtijnjklofdmelaaDoor


/- Input slices: from what the row tells of one to what a walk knows of it. -/
set_option linter.unusedVariables false
set_option linter.unusedSimpArgs false
namespace Go.Proofs.YtijnjklofdmelaaDoor
open Sx
theorem inS_of {α : Type} {f : α → List Value} {k B : Nat} {R : World → List Value → Prop} {Good : α → Prop} {w : World} {a : Option Addr} {n c : Nat} (h : SliceAt k B R w a n c) (hk0 : 0 < k) (hk : ∀ x, (f x).length = k) (hR : ∀ cs, R w cs → ∃ x, cs = f x ∧ Good x) :
    ∃ H L, L.length = n ∧ InS f k (.slice a L.length c) H L ∧ (∀ x ∈ L, Good x) ∧ Holds w H ∧ ∀ p ∈ H, p.2.excl = false := by
  have hml : n ≤ maxLen := Nat.le_trans h.1 h.2.1
  by_cases hl : 0 < n
  · obtain ⟨b, o, rfl, hb, hc⟩ := h.plain hk0 hl
    obtain ⟨L, h1, h2⟩ := list_of (P := fun j (m : α) => Good m ∧ ∀ i v, (f m)[i]? = some v → w.cell? ⟨b, o + j * k + i, none⟩ = some v) n fun j hj => by
      obtain ⟨cs, hlc, hcell, hr⟩ := hc j hj
      obtain ⟨x, rfl, hg⟩ := hR cs hr
      refine ⟨x, hg, fun i v hi => ?_⟩
      have hik : i < k := by rw [← hk x]; exact (List.getElem?_eq_some_iff.1 hi).1
      exact (hcell i hik).trans hi
    refine ⟨[(b, .ro fun j => w.cell? ⟨b, j, none⟩)], L, h1, ⟨_, c, rfl, by omega, .inr ⟨b, o, _, rfl, .head _, fun j x i v hj hv hi => (h2 j x hj).2 i v hv⟩⟩, fun x hx => ?_, ⟨fun p hp => ?_, List.pairwise_singleton _ _⟩, fun p hp => ?_⟩
    · obtain ⟨j, hlt, rfl⟩ := List.getElem_of_mem hx
      exact (h2 j _ (List.getElem?_eq_getElem hlt)).1
    · obtain rfl := List.mem_singleton.1 hp
      exact ⟨hb, fun _ _ h => h⟩
    · obtain rfl := List.mem_singleton.1 hp
      rfl
  · obtain rfl : n = 0 := by omega
    exact ⟨[], [], rfl, ⟨a, c, rfl, by simp, .inl rfl⟩, fun x hx => (by cases hx), Holds.empty w, fun p hp => by cases hp⟩
/-- Two inputs, side by side. -/
theorem Holds.join {w : World} {H G : Heap} (h1 : Holds w H) (h2 : Holds w G) (x1 : ∀ p ∈ H, p.2.excl = false) (x2 : ∀ p ∈ G, p.2.excl = false) : Holds w (H ++ G) := by
  refine ⟨fun p hp => ?_, List.pairwise_append.2 ⟨h1.sep, h2.sep, fun p hp q hq hx => ?_⟩⟩
  · rcases List.mem_append.1 hp with hp | hp
    · exact h1.at_ p hp
    · exact h2.at_ p hp
  · rw [x1 p hp, x2 q hq] at hx
    rcases hx with hx | hx <;> cases hx
theorem excl_join {H G : Heap} (x1 : ∀ p ∈ H, p.2.excl = false) (x2 : ∀ p ∈ G, p.2.excl = false) : ∀ p ∈ H ++ G, p.2.excl = false := fun p hp => by
  rcases List.mem_append.1 hp with hp | hp
  · exact x1 p hp
  · exact x2 p hp
end Go.Proofs.YtijnjklofdmelaaDoor


/- Layer 1: the laws of the sums of bytes: by walks. -/
set_option linter.unusedVariables false
set_option linter.unusedSimpArgs false
set_option maxRecDepth 100000
set_option maxHeartbeats 4000000
namespace Go.Proofs.YtijnjklofdmelaaDoor
open Sx
theorem cB_one : ∀ (x : UInt8), ∀ u ∈ cB x, u.oneCell' = true := fun x u hu => by obtain rfl := List.mem_singleton.1 hu; rfl
section
variable {K : Value → Heap → Prop} {H : Heap}
end
end Go.Proofs.YtijnjklofdmelaaDoor


/- Layer 1: the law of stuffing: by walks. -/
set_option linter.unusedVariables false
set_option linter.unusedSimpArgs false
set_option maxRecDepth 100000
set_option maxHeartbeats 4000000
namespace Go.Proofs.YtijnjklofdmelaaDoor
open Sx
end Go.Proofs.YtijnjklofdmelaaDoor


/- Layer 1: the sum is linear: by walks. -/
set_option linter.unusedVariables false
set_option linter.unusedSimpArgs false
set_option maxRecDepth 100000
set_option maxHeartbeats 4000000
namespace Go.Proofs.YtijnjklofdmelaaDoor
open Sx
section
variable {H : Heap} {A B : List UInt8}
end
end Go.Proofs.YtijnjklofdmelaaDoor


/- Layer 1: numbers become bits: by walks. -/
set_option linter.unusedVariables false
set_option linter.unusedSimpArgs false
set_option maxRecDepth 100000
set_option maxHeartbeats 4000000
namespace Go.Proofs.YtijnjklofdmelaaDoor
open Sx
/-- The table that tells where a number's lowest bit is. -/
def Db (H : Heap) : Prop := ∃ b, (7, b) ∈ H ∧ b.cell 1 = some (.int .u8 1)
theorem Db.mono {H H' : Heap} (h : Db H) (hs : ∀ p ∈ H, p ∈ H') : Db H' := by
  obtain ⟨b, h1, h2⟩ := h
  exact ⟨b, hs _ h1, h2⟩
abbrev zv : Value := .int .u8 0
section
variable {K : Value → Heap → Prop} {H : Heap}
end
end Go.Proofs.YtijnjklofdmelaaDoor


/- Layer 1: numbers as bits, by the program and by the document: by walks. -/
set_option linter.unusedVariables false
set_option linter.unusedSimpArgs false
set_option maxRecDepth 100000
set_option maxHeartbeats 4000000
namespace Go.Proofs.YtijnjklofdmelaaDoor
open Sx
section
variable {K : Value → Heap → Prop} {H : Heap}
end
end Go.Proofs.YtijnjklofdmelaaDoor


/- Layer 1: bits become numbers: by walks; the law of numbers. -/
set_option linter.unusedVariables false
set_option linter.unusedSimpArgs false
set_option maxRecDepth 100000
set_option maxHeartbeats 4000000
namespace Go.Proofs.YtijnjklofdmelaaDoor
open Sx
def val (l : List UInt8) : Nat := l.foldl (fun r b => r * 2 + (if bitOf b then 1 else 0)) 0
/-- A row of bytes that a text was turned into. -/
abbrev txtR (r : Nat) (l : List UInt8) (z : List Value) (cap : Nat) : Nat × Blk := (r, .row 5 (cel l ++ z) (cap, cap + 1))
section
variable {K : Value → Heap → Prop} {H : Heap}
end
end Go.Proofs.YtijnjklofdmelaaDoor


/- Layer 1: what the sum tells of bits that are turned about: plain law, with no program in sight. -/
set_option linter.unusedVariables false
set_option linter.unusedSimpArgs false
set_option maxRecDepth 100000
set_option maxHeartbeats 4000000
namespace Go.Proofs.YtijnjklofdmelaaDoor
open Sx
/-- The sum goes on by a bit that is 0; so often. -/
def dbl (r : Nat) : Nat := (r * 2 % 32768) ^^^ (if 16384 ≤ r then 17817 else 0)
def dl : Nat → Nat → Nat
  | 0, r => r
  | n + 1, r => dl n (dbl r)
/-- What a bit at the place i, from the end, adds. -/
def pw (i : Nat) : Nat := dl i 1
/-- All of them together. -/
def xs (l : List Nat) : Nat := l.foldr (fun i a => pw i ^^^ a) 0
end Go.Proofs.YtijnjklofdmelaaDoor


/- Layer 1: words and their sums, and what is turned about in them: plain law, and by walks. -/
set_option linter.unusedVariables false
set_option linter.unusedSimpArgs false
set_option maxRecDepth 100000
set_option maxHeartbeats 4000000
namespace Go.Proofs.YtijnjklofdmelaaDoor
open Sx
/-- A word with the places ps turned about. -/
def fl (x : List UInt8) (ps : List Nat) : List UInt8 := x.mapIdx fun k c => if k ∈ ps then oth c else c
theorem txt_put {l : List UInt8} {z : List Value} {cap k : Nat} {b : UInt8} (hk : k < l.length) (hc : (cel l ++ z).length = cap) : PutOk (.row 5 (cel l ++ z) (cap, cap + 1)) (0 + k * 1) [.int .u8 (b.toNat : Int)] (.row 5 (cel (l.set k b) ++ z) (cap, cap + 1)) := by
  have hcl := cel_len l
  rw [List.length_append, hcl] at hc
  refine ⟨?_, .inr ?_, ?_⟩
  · rw [List.length_append, hcl, List.length_singleton]; omega
  · show 0 + k * 1 + 1 ≤ cap; omega
  · congr 1
    rw [Nat.zero_add, Nat.mul_one, List.length_singleton, List.take_append_of_le_length (by omega), List.drop_append_of_le_length (by omega), ← List.append_assoc]
    congr 1
    unfold cel
    rw [List.map_set, List.set_eq_take_append_cons_drop, if_pos (by simpa using hk)]
    simp
section
variable {K : Value → Heap → Prop} {H : Heap}
end
end Go.Proofs.YtijnjklofdmelaaDoor


/- Layer 1: the laws of numbers, of up to five bits and of bursts: by walks. -/
set_option linter.unusedVariables false
set_option linter.unusedSimpArgs false
set_option maxRecDepth 100000
set_option maxHeartbeats 4000000
namespace Go.Proofs.YtijnjklofdmelaaDoor
open Sx
section
variable {H : Heap}
end
end Go.Proofs.YtijnjklofdmelaaDoor


/- Layer 1: the laws of numbers, of up to five bits and of bursts, where the listed table is as the row says. -/
set_option linter.unusedVariables false
set_option linter.unusedSimpArgs false
set_option maxRecDepth 100000
set_option maxHeartbeats 4000000
namespace Go.Proofs.YtijnjklofdmelaaDoor
open Sx
end Go.Proofs.YtijnjklofdmelaaDoor


/- Sy, part A: an array's end as a slice; a part of a row is cleared. -/
set_option linter.unusedVariables false
set_option linter.unusedSectionVars false
set_option linter.unusedSimpArgs false
namespace Go.Proofs.YtijnjklofdmelaaDoor.Sx
open Go.RowKit
section
variable [Dies] {P : Program} {o : Oper} {t e : TypeId} {xx xl xh : Operand} {H : Heap} {K : Value → Heap → Prop} {r o1 n k h : Nat} {i : TypeInfo}
end
end Go.Proofs.YtijnjklofdmelaaDoor.Sx


/- Sy, part B: what gives up, and where it is caught: a contract holds wherever more may be given up with; 'panic'; a deferred text that begins with 'recover'. -/
set_option linter.unusedVariables false
set_option linter.unusedSectionVars false
set_option linter.unusedSimpArgs false
namespace Go.Proofs.YtijnjklofdmelaaDoor.Sx
open Go.RowKit
/-- A contract holds wherever more may be given up with. -/
theorem SCalls.lift {δ δ' : Dies} (hd : ∀ ch, δ.D ch → δ'.D ch) {P : Program} {f : FuncId} {args : List Value} {H : Heap} {K : Value → Heap → Prop} (h : @SCalls δ P f args H K) : @SCalls δ' P f args H K :=
  @SCalls.mk δ' P f args H K (@SCalls.enter δ P f args H K h) fun w hw => (@SCalls.run δ P f args H K h w hw).mono fun e w' he => by
    rcases he with he | ⟨ch, H', e1, g1, g2, g3⟩
    · exact .inl he
    · exact .inr ⟨ch, H', e1, g1, g2, hd _ g3⟩
theorem SCalls.calm [δ : Dies] {P : Program} {f : FuncId} {args : List Value} {H : Heap} {K : Value → Heap → Prop} (h : @SCalls noDies P f args H K) : SCalls P f args H K := SCalls.lift (δ := noDies) (fun _ h => h.elim) h
section
variable [Dies] {P : Program} {o : Oper} {xx : Operand} {H : Heap} {K : Value → Heap → Prop} {T : TypeId} {v : Value}
theorem RawV.panic (ho : o.op = .panic xx) (hd : Dies.D [{ v := .iface T v, recovered := false }]) : RawV P o [.iface T v] H K := by
  refine ⟨fun ρ w hm hw => .inr (.inr ⟨.iface T v, ?_, hd⟩)⟩
  rw [ho] at hm
  have hm : [ρ xx] = [.iface T v] := hm
  injection hm with e1 _
  simp only [execOp, ho, e1]
  rfl
end
section
variable [Dies] {P : Program} {ds : List Deferred} {fn : Func} {rs : List RV} {H : Heap} {K : Value → Heap → Prop}
end
section
variable {P : Program} {ops : Array Oper}
/-- What a deferred text catches: nothing, or what was given up with. -/
inductive Caught : FrameMode → Value → FrameMode → Prop
  | calm : Caught .returning .nilIface .returning
  | gave (v : Value) : Caught (.panicking [{ v := v, recovered := false }]) v (.panicking [{ v := v, recovered := true }])
theorem Caught.run {u u' : FrameMode} {rv : Value} (h : Caught u rv u') : u ≠ .run := by cases h <;> exact fun h => nomatch h
end
section
variable [Dies] {ds : List Deferred} {P : Program} {ops : Array Oper} {l : List Value} {H : Heap} {w : World}
end
end Go.Proofs.YtijnjklofdmelaaDoor.Sx


/- Sy, part C: the built-in 'cap'; bytes.MakeNoZero; a copy of nothing. -/
set_option linter.unusedVariables false
set_option linter.unusedSectionVars false
set_option linter.unusedSimpArgs false
namespace Go.Proofs.YtijnjklofdmelaaDoor.Sx
open Go.RowKit
section
variable [Dies] {P : Program} {o : Oper} {H : Heap} {K : Value → Heap → Prop} {f : FuncId} {t e : TypeId} {xs xx : Operand} {ts ps : Array TypeId}
theorem RawV.cap {a : Option Addr} {n c : Nat} (ho : o.op = .call { callee := .builtin .cap, args := #[xx], argTypes := #[t] }) (ht : P.underlying t = some (.slice e)) (h : K (.int .i64 (c : Int)) H) : RawV P o [.slice a n c] H K := by
  refine ⟨fun ρ w hm hw => .inl ?_⟩
  have e1 := builtin_op1 ρ ho hm
  have hex : execOp ρ o = (Builtin.cap_ #[t] o.type #[.slice a n c] >>= fun v => pure (.value v)) := by
    simp only [execOp, ho, resolve, invoke, builtin, List.map_toArray, List.map_cons, List.map_nil, e1]
    rfl
  have hr : (Builtin.cap_ #[t] o.type #[.slice a n c]).run P w = .ok (goInt c) w := by
    simp [Builtin.cap_, run_underlying ht]
  exact ⟨_, _, _, .inl (by rw [hex, Sem.run_bind, hr]; rfl), hw, Step.refl _ _, h⟩
/-- Space for n bytes: what lies there is not told. -/
theorem RawV.makeNZ {fn : Func} {n : Nat} (ho : o.op = .call { callee := .value (.func f), args := #[xx], argTypes := ts }) (hf : P.funcs[f]? = some fn) (hname : (fn.name == "runtime.NumGoroutine") = false)
    (hb : fn.body.isNone = true) (hn : Extern.findNext fn = none) (he : Extern.find fn = some (Extern.BytealgMakeNoZero.makeNoZero ps #[t])) (ht : P.underlying t = some (.slice e)) (hl : n ≤ 140737488355328)
    (h : ∀ (q : Nat) (cs : List Value), n ≤ cs.length → cs.length ≤ maxLen → K (.slice (some ⟨q, 0, none⟩) n cs.length) ((q, .row e cs (0, 0)) :: H)) : RawV P o [.func (.func f) ⟨[]⟩ ⟨[]⟩, .int .i64 (n : Int)] H K := by
  refine ⟨fun ρ w hm hw => .inl ?_⟩
  have hm : [ρ (.func f), ρ xx] = [.func (.func f) ⟨[]⟩ ⟨[]⟩, .int .i64 (n : Int)] := by
    rw [ho] at hm
    simpa [Op.operands, Call.operands] using hm
  have e1 : ρ (.func f) = .func (.func f) #[] #[] := by injection hm
  have e2 : ρ xx = .int .i64 (n : Int) := by injection hm with _ hm; injection hm
  obtain ⟨cs, hr, hge, hcm⟩ := Lib.run_makeNoZero (P := P) w ps t e ht n (by omega)
  have hcm := hcm (by simp only [maxLen]; omega)
  have hex : (execOp ρ o).run P w = .ok (.value (.slice (some ⟨w.heap.size, 0, none⟩) n cs.size)) (w.drew.drew.alloc (.cells cs e)) := by
    simp only [execOp, resolve, ho, e1, Deferred.ofValue, Sem.run_bind, Sem.run_pure, Result.andThen_ok, invoke, Array.empty_append, Array.append_empty, List.map_toArray, List.map_cons, List.map_nil, e2]
    change Sem.run P (callFunc f (#[] ++ #[Value.int IntKind.i64 (n : Int)])) w = _
    rw [Array.empty_append, run_callFunc_extern hf hname hb hn he, hr]
    rfl
  have hal := (hw.drew (w.drawn + 1 + 1)).alloc (.cells cs e) (.row e cs.toList (0, 0)) (by
    show _ = _
    rw [heap_alloc_new])
  have hst := (Step.drew w H (w.drawn + 1 + 1)).trans hal.2
  have := h w.heap.size cs.toList (by simpa using hge) (by simpa using hcm)
  rw [Array.length_toList] at this
  exact ⟨_, _, _, .inl hex, hal.1, hst, this⟩
theorem RawV.min3 {t1 t2 t3 : TypeId} {xz : Operand} {k k' k3 : IntKind} {a b c m : Int} (ho : o.op = .call { callee := .builtin .min, args := #[xs, xx, xz], argTypes := #[t1, t2, t3] }) (hmin : (if c < (if b < a then b else a) then c else (if b < a then b else a)) = m) (h : K (.int k m) H) : RawV P o [.int k a, .int k' b, .int k3 c] H K := by
  subst hmin
  refine ⟨fun ρ w hm hw => .inl ?_⟩
  rw [ho] at hm
  have hm : [ρ xs, ρ xx, ρ xz] = [.int k a, .int k' b, .int k3 c] := hm
  injection hm with e1 hm
  injection hm with e2 hm
  injection hm with e3 hm
  have hex : execOp ρ o = (Builtin.min_ #[t1, t2, t3] o.type #[.int k a, .int k' b, .int k3 c] >>= fun v => pure (.value v)) := by
    simp only [execOp, ho, resolve, invoke, builtin, List.map_toArray, List.map_cons, List.map_nil, e1, e2, e3]
    rfl
  have hr : (Builtin.min_ #[t1, t2, t3] o.type #[.int k a, .int k' b, .int k3 c]).run P w = .ok (.int k (if c < (if b < a then b else a) then c else (if b < a then b else a))) w := by
    simp [Builtin.min_, Builtin.min2]
  exact ⟨_, _, _, .inl (by rw [hex, Sem.run_bind, hr]; rfl), hw, Step.refl _ _, h⟩
/-- Nothing is copied. -/
theorem RawV.copy0 {t2 : TypeId} {a : Addr} {n c : Nat} (ho : o.op = .call { callee := .builtin .copy, args := #[xs, xx], argTypes := #[t, t2] }) (ht : P.underlying t = some (.slice e)) (hs : ((P.info? e).map (·.size)).isSome = true)
    (h : K (.int .i64 0) H) : RawV P o [.slice (some a) n c, .slice none 0 0] H K := by
  refine ⟨fun ρ w hmm hw => .inl ?_⟩
  have hmm : [ρ xs, ρ xx] = [.slice (some a) n c, .slice none 0 0] := by
    rw [ho] at hmm; exact hmm
  injection hmm with e1 hmm
  injection hmm with e2 hmm
  have hex : execOp ρ o = (Builtin.copy_ #[t, t2] o.type #[.slice (some a) n c, .slice none 0 0] >>= fun v => pure (.value v)) := by
    simp only [execOp, ho, resolve, invoke, builtin, List.map_toArray, List.map_cons, List.map_nil, e1, e2]
    rfl
  exact ⟨_, _, _, .inl (by rw [hex, Sem.run_bind, run_copy_nil P w t t2 o.type e a n c ht hs]; rfl), hw, Step.refl _ _, h⟩
end
end Go.Proofs.YtijnjklofdmelaaDoor.Sx


/- Layer 1: room for a text; one bit written again and again: by walks. -/
set_option linter.unusedVariables false
set_option linter.unusedSimpArgs false
set_option maxRecDepth 100000
set_option maxHeartbeats 4000000
namespace Go.Proofs.YtijnjklofdmelaaDoor
open Sx
inductive S37 (A0 A7 A8 A9 : Value) : List Value → Prop
  | mk {r1 r2 r3 r4 r5 r6 r10 r11 r12 r13 r14 r15 r16 r17 r18 r19 r20 r21 r22 r23 r24 r25 r26 r27 r28 r29 r30 r31 r32 r33 r34 r35 r36 r37 r38 r39 r40 r41 r42 r43 r44 r45 r46 r47 r48 r49 r50 r51 r52 r53 r54 r55 r56 r57 r58 r59 r60 r61 r62 r63 r64 r65 r66 r67 r68 r69 r70 r71 r72 r73 r74 r75 r76 r77 r78 r79 r80 r81 r82 r83 r84 r85 r86 r87 r88 r89 r90 r91 r92 r93 r94 r95 r96 r97 r98 r99 r100 r101 r102 r103 r104 r105 r106 r107 r108 r109 r110 r111 r112 r113 r114 r115 r116 r117 r118 r119 r120 r121 r122 r123 r124 : Value} : S37 A0 A7 A8 A9 [A0, r1, r2, r3, r4, r5, r6, A7, A8, A9, r10, r11, r12, r13, r14, r15, r16, r17, r18, r19, r20, r21, r22, r23, r24, r25, r26, r27, r28, r29, r30, r31, r32, r33, r34, r35, r36, r37, r38, r39, r40, r41, r42, r43, r44, r45, r46, r47, r48, r49, r50, r51, r52, r53, r54, r55, r56, r57, r58, r59, r60, r61, r62, r63, r64, r65, r66, r67, r68, r69, r70, r71, r72, r73, r74, r75, r76, r77, r78, r79, r80, r81, r82, r83, r84, r85, r86, r87, r88, r89, r90, r91, r92, r93, r94, r95, r96, r97, r98, r99, r100, r101, r102, r103, r104, r105, r106, r107, r108, r109, r110, r111, r112, r113, r114, r115, r116, r117, r118, r119, r120, r121, r122, r123, r124]
/-- A new builder. -/
abbrev nB (r : Nat) (p : Value) : Nat × Blk := (r, .row 55 [p, .slice none 0 0] (0, 0))
abbrev ones (k : Nat) : List UInt8 := List.replicate k 49
section
variable {K : Value → Heap → Prop} {H : Heap}
theorem c63 {r n : Nat} (h0 : 0 < n) (hn : n ≤ 100000) (hK : ∀ N', Bld 55 r [] [] N' → K (.tuple ⟨[]⟩) N') : SCalls Tryd.prog 63 [ptr r, .int .i64 (n : Int)] [nB r (ptr r)] K := by
  refine enter63 ?_
  have hmk : ∀ (o : Oper) (x : Operand) (K2 : Value → Heap → Prop), o.op = .call { callee := .value (.func 78), args := #[x], argTypes := #[3] } → (∀ q cs, n ≤ cs.length → cs.length ≤ maxLen → K2 (.slice (some ⟨q, 0, none⟩) n cs.length) [(q, .row 5 cs (0, 0)), nB r (ptr r)]) →
      RawV Tryd.prog o [.func (.func 78) ⟨[]⟩ ⟨[]⟩, .int .i64 (n : Int)] [nB r (ptr r)] K2 := fun o x K2 ho hk =>
    RawV.makeNZ (ps := #[3]) (t := 27) (e := 5) ho Tryd.func78 (by kernel_rfl) (by kernel_rfl) (by kernel_rfl) (by kernel_rfl) (by kernel_rfl) (by omega) hk
  have hcp : ∀ (q c : Nat) (o : Oper) (x y : Operand) (H : Heap) (K2 : Value → Heap → Prop), o.op = .call { callee := .builtin .copy, args := #[x, y], argTypes := #[27, 27] } → K2 (.int .i64 0) H → RawV Tryd.prog o [.slice (some ⟨q, 0, none⟩) 0 c, .slice none 0 0] H K2 := fun q c o x y H K2 ho hk =>
    RawV.copy0 (e := 5) ho (by kernel_rfl) (by kernel_rfl) hk
  repeat' ((conv => whnf); (first | with_reducible refine Val.to (n : Int) (by rw [wrap_i64 (by omega) (by omega)]; omega) ?_ | refine RawV.cap (t := 27) (e := 5) rfl (by kernel_rfl) ?_ | with_reducible refine hmk _ _ _ rfl (fun q cs h1 h2 => ?_) | with_reducible refine hcp _ _ _ _ _ _ _ rfl ?_ | exact Keep.perm _ (.swap _ _ _) (hK _ (.mk (pre := []) (.inr rfl) (.row (bs := []) (sl := cs) rfl (Nat.le_refl _) h2 (by omega)))) | refine New.mk (fun _ => ?_) | refine Look.at0 ?_ | refine Cell.row ?_ | refine Cell.buf ?_ | refine Cells.row rfl ?_ | refine Put.row rfl ?_ | refine Put.buf rfl ?_ | refine Look.at1 ?_ | refine Look.at2 ?_ | refine Look.at3 ?_ | refine Look.at4 ?_ | refine Look.at5 ?_ | refine Look.at6 ?_ | refine Look.at7 ?_ | refine Look.at8 ?_ | with_reducible refine Val.i64 (by omega) (by omega) ?_ | with_reducible refine Val.u8 (by omega) (by omega) ?_ | with_reducible refine Val.u32 (by omega) (by omega) ?_ | with_reducible refine Val.u64 (by omega) (by omega) ?_ | with_reducible refine Val.u8m ?_ | with_reducible refine Val.u32m ?_ | with_reducible refine Val.u64m ?_ | with_reducible refine Val.shr8 ?_ | with_reducible refine Val.shr16 (by decide) ?_ | with_reducible refine Val.shr24 (by decide) ?_ | with_reducible refine Val.raw ?_ | refine Branch.not ?_ | refine Branch.and ?_ | refine Branch.or ?_ | refine Branch.dt (by assumption) ?_ | refine Branch.df (by assumption) ?_ | refine Branch.dt rfl ?_ | refine Branch.dt (by omega) ?_ | refine Branch.df (by omega) ?_ | refine Branch.t rfl ?_ | refine Branch.f rfl ?_ | refine Branch.t (by assumption) ?_ | refine Branch.f (by assumption) ?_ | refine Branch.d (fun _ => ?_) (fun _ => ?_) | refine Branch.mk (fun _ => ?_) (fun _ => ?_) | refine Need.mk (by first | omega | decide | rfl) ?_ | refine Idx.nat (by omega) ?_ | refine Idx.auto (by first | omega | decide) (by first | omega | decide) ?_ | refine Cell.ro rfl ?_ | refine SDraw.all (by kernel_rfl) ?_ | refine Kept.k0 ?_ | refine Kept.k1 ?_ | refine Kept.k2 ?_ | refine Kept.k3 ?_ | refine Kept.k4 ?_))
theorem c41n {r : Nat} (hK : K (.tuple ⟨[]⟩) [nB r (ptr r)]) : SCalls Tryd.prog 41 [ptr r] [nB r (.pointer none)] K := by
  refine enter41 ?_
  have hlies : liesAt Tryd.prog Tryd.prog.depth 55 (2 / Tryd.prog.cellsOf 55) 0 55 1 = true := bt55
  repeat' ((conv => whnf); (first | refine Branch.t rfl ?_ | refine RawV.toUnsafe (src := 53) (dst := 86) (t := 55) rfl (by kernel_rfl) (by kernel_rfl) (by kernel_rfl) (.head _) Nat.two_pos ?_ | refine RawV.extern rfl Tryd.func58 (by kernel_rfl) (by kernel_rfl) (by kernel_rfl) (e := Extern.AbiNoEscape.same) (v := ptr r) (by kernel_rfl) (fun _ => rfl) ?_ | refine RawV.ofUnsafe (src := 86) (dst := 53) (t := 55) rfl (by kernel_rfl) (by kernel_rfl) (by kernel_rfl) (.head _) hlies ?_ | exact Keep.all hK | refine New.mk (fun _ => ?_) | refine Look.at0 ?_ | refine Cell.row ?_ | refine Cell.buf ?_ | refine Cells.row rfl ?_ | refine Put.row rfl ?_ | refine Put.buf rfl ?_ | refine Look.at1 ?_ | refine Look.at2 ?_ | refine Look.at3 ?_ | refine Look.at4 ?_ | refine Look.at5 ?_ | refine Look.at6 ?_ | refine Look.at7 ?_ | refine Look.at8 ?_ | with_reducible refine Val.i64 (by omega) (by omega) ?_ | with_reducible refine Val.u8 (by omega) (by omega) ?_ | with_reducible refine Val.u32 (by omega) (by omega) ?_ | with_reducible refine Val.u64 (by omega) (by omega) ?_ | with_reducible refine Val.u8m ?_ | with_reducible refine Val.u32m ?_ | with_reducible refine Val.u64m ?_ | with_reducible refine Val.shr8 ?_ | with_reducible refine Val.shr16 (by decide) ?_ | with_reducible refine Val.shr24 (by decide) ?_ | with_reducible refine Val.raw ?_ | refine Branch.not ?_ | refine Branch.and ?_ | refine Branch.or ?_ | refine Branch.dt (by assumption) ?_ | refine Branch.df (by assumption) ?_ | refine Branch.dt rfl ?_ | refine Branch.dt (by omega) ?_ | refine Branch.df (by omega) ?_ | refine Branch.t rfl ?_ | refine Branch.f rfl ?_ | refine Branch.t (by assumption) ?_ | refine Branch.f (by assumption) ?_ | refine Branch.d (fun _ => ?_) (fun _ => ?_) | refine Branch.mk (fun _ => ?_) (fun _ => ?_) | refine Need.mk (by first | omega | decide | rfl) ?_ | refine Idx.nat (by omega) ?_ | refine Idx.auto (by first | omega | decide) (by first | omega | decide) ?_ | refine Cell.ro rfl ?_ | refine SDraw.all (by kernel_rfl) ?_ | refine Kept.k0 ?_ | refine Kept.k1 ?_ | refine Kept.k2 ?_ | refine Kept.k3 ?_ | refine Kept.k4 ?_))
theorem c45 {r n : Nat} (h0 : 0 < n) (hn : n ≤ 100000) (hK : ∀ N', Bld 55 r [] [] N' → K (.tuple ⟨[]⟩) N') : SCalls Tryd.prog 45 [ptr r, .int .i64 (n : Int)] [nB r (.pointer none)] K := by
  refine enter45 ?_
  have h41 : ∀ (K2 : Value → Heap → Prop), K2 (.tuple ⟨[]⟩) [nB r (ptr r)] → SCalls Tryd.prog 41 [ptr r] [nB r (.pointer none)] K2 := fun K2 hk => c41n hk
  have h63 : ∀ (K2 : Value → Heap → Prop), (∀ N', Bld 55 r [] [] N' → K2 (.tuple ⟨[]⟩) N') → SCalls Tryd.prog 63 [ptr r, .int .i64 (n : Int)] [nB r (ptr r)] K2 := fun K2 hk => c63 h0 hn hk
  repeat' ((conv => whnf); (first | with_reducible refine h41 _ ?_ | with_reducible refine h63 _ (fun N' hN' => ?_) | with_reducible refine Val.to 0 rfl ?_ | refine RawV.cap (t := 27) (e := 5) rfl (by kernel_rfl) ?_ | exact Keep.all (hK _ hN') | refine New.mk (fun _ => ?_) | refine Look.at0 ?_ | refine Cell.row ?_ | refine Cell.buf ?_ | refine Cells.row rfl ?_ | refine Put.row rfl ?_ | refine Put.buf rfl ?_ | refine Look.at1 ?_ | refine Look.at2 ?_ | refine Look.at3 ?_ | refine Look.at4 ?_ | refine Look.at5 ?_ | refine Look.at6 ?_ | refine Look.at7 ?_ | refine Look.at8 ?_ | with_reducible refine Val.i64 (by omega) (by omega) ?_ | with_reducible refine Val.u8 (by omega) (by omega) ?_ | with_reducible refine Val.u32 (by omega) (by omega) ?_ | with_reducible refine Val.u64 (by omega) (by omega) ?_ | with_reducible refine Val.u8m ?_ | with_reducible refine Val.u32m ?_ | with_reducible refine Val.u64m ?_ | with_reducible refine Val.shr8 ?_ | with_reducible refine Val.shr16 (by decide) ?_ | with_reducible refine Val.shr24 (by decide) ?_ | with_reducible refine Val.raw ?_ | refine Branch.not ?_ | refine Branch.and ?_ | refine Branch.or ?_ | refine Branch.dt (by assumption) ?_ | refine Branch.df (by assumption) ?_ | refine Branch.dt rfl ?_ | refine Branch.dt (by omega) ?_ | refine Branch.df (by omega) ?_ | refine Branch.t rfl ?_ | refine Branch.f rfl ?_ | refine Branch.t (by assumption) ?_ | refine Branch.f (by assumption) ?_ | refine Branch.d (fun _ => ?_) (fun _ => ?_) | refine Branch.mk (fun _ => ?_) (fun _ => ?_) | refine Need.mk (by first | omega | decide | rfl) ?_ | refine Idx.nat (by omega) ?_ | refine Idx.auto (by first | omega | decide) (by first | omega | decide) ?_ | refine Cell.ro rfl ?_ | refine SDraw.all (by kernel_rfl) ?_ | refine Kept.k0 ?_ | refine Kept.k1 ?_ | refine Kept.k2 ?_ | refine Kept.k3 ?_ | refine Kept.k4 ?_))
theorem c47 {T r : Nat} {pre : List Value} {bs : List UInt8} {N : Heap} (hN : Bld T r pre bs N) (hK : K (.int .i64 (bs.length : Int)) N) : SCalls Tryd.prog 47 [bPtr r pre] N K := by
  refine enter47 ?_
  cases hN with
  | @mk p sv M hp hb =>
    obtain ⟨a, c, rfl⟩ := hb.len
    have h1 : (Blk.row T (pre ++ [p, .slice a bs.length c]) (0, 0)).cell (pre.length + 1) = some (.slice a bs.length c) := pre1 _ _
    repeat' ((conv => whnf); (first | refine Look.cell (.head _) h1 ?_ | exact Keep.all hK | refine New.mk (fun _ => ?_) | refine Look.at0 ?_ | refine Cell.row ?_ | refine Cell.buf ?_ | refine Cells.row rfl ?_ | refine Put.row rfl ?_ | refine Put.buf rfl ?_ | refine Look.at1 ?_ | refine Look.at2 ?_ | refine Look.at3 ?_ | refine Look.at4 ?_ | refine Look.at5 ?_ | refine Look.at6 ?_ | refine Look.at7 ?_ | refine Look.at8 ?_ | with_reducible refine Val.i64 (by omega) (by omega) ?_ | with_reducible refine Val.u8 (by omega) (by omega) ?_ | with_reducible refine Val.u32 (by omega) (by omega) ?_ | with_reducible refine Val.u64 (by omega) (by omega) ?_ | with_reducible refine Val.u8m ?_ | with_reducible refine Val.u32m ?_ | with_reducible refine Val.u64m ?_ | with_reducible refine Val.shr8 ?_ | with_reducible refine Val.shr16 (by decide) ?_ | with_reducible refine Val.shr24 (by decide) ?_ | with_reducible refine Val.raw ?_ | refine Branch.not ?_ | refine Branch.and ?_ | refine Branch.or ?_ | refine Branch.dt (by assumption) ?_ | refine Branch.df (by assumption) ?_ | refine Branch.dt rfl ?_ | refine Branch.dt (by omega) ?_ | refine Branch.df (by omega) ?_ | refine Branch.t rfl ?_ | refine Branch.f rfl ?_ | refine Branch.t (by assumption) ?_ | refine Branch.f (by assumption) ?_ | refine Branch.d (fun _ => ?_) (fun _ => ?_) | refine Branch.mk (fun _ => ?_) (fun _ => ?_) | refine Need.mk (by first | omega | decide | rfl) ?_ | refine Idx.nat (by omega) ?_ | refine Idx.auto (by first | omega | decide) (by first | omega | decide) ?_ | refine Cell.ro rfl ?_ | refine SDraw.all (by kernel_rfl) ?_ | refine Kept.k0 ?_ | refine Kept.k1 ?_ | refine Kept.k2 ?_ | refine Kept.k3 ?_ | refine Kept.k4 ?_))
theorem c61w {k : Nat} (hk : k ≤ 100000) (hK : K (.tuple ⟨[.int .u64 0, .int .u64 (k : Int)]⟩) H) : SCalls Tryd.prog 61 [.int .u64 1, .int .u64 (k : Int)] H K := by
  refine enter61 ?_
  have h1 : bitAnd .u64 (k : Int) 4294967295 = (k : Int) := by
    have := bitMask_nat (k := .u64) rfl (a := k) (n := 32) (by show k < 18446744073709551616; omega) (by decide)
    rw [Nat.mod_eq_of_lt (show k < 2 ^ 32 by omega)] at this
    exact this
  have h2 : shrI .u64 (k : Int) 32 = 0 := by
    have := shr_nat (k := .u64) (a := k) (n := 32) (by decide)
    rw [Nat.div_eq_of_lt (show k < 2 ^ 32 by omega)] at this
    exact this
  repeat' ((conv => whnf); (first | with_reducible refine Val.to _ h1 ?_ | with_reducible refine Val.to _ h2 ?_ | refine Val.to 0 (by decide) ?_ | refine Val.to 1 (by decide) ?_ | refine Val.to (k : Int) (by rw [wrap_u64]; omega) ?_ | refine Val.to 0 (by rw [wrap_u64]; omega) ?_ | exact Keep.all hK | refine New.mk (fun _ => ?_) | refine Look.at0 ?_ | refine Cell.row ?_ | refine Cell.buf ?_ | refine Cells.row rfl ?_ | refine Put.row rfl ?_ | refine Put.buf rfl ?_ | refine Look.at1 ?_ | refine Look.at2 ?_ | refine Look.at3 ?_ | refine Look.at4 ?_ | refine Look.at5 ?_ | refine Look.at6 ?_ | refine Look.at7 ?_ | refine Look.at8 ?_ | with_reducible refine Val.i64 (by omega) (by omega) ?_ | with_reducible refine Val.u8 (by omega) (by omega) ?_ | with_reducible refine Val.u32 (by omega) (by omega) ?_ | with_reducible refine Val.u64 (by omega) (by omega) ?_ | with_reducible refine Val.u8m ?_ | with_reducible refine Val.u32m ?_ | with_reducible refine Val.u64m ?_ | with_reducible refine Val.shr8 ?_ | with_reducible refine Val.shr16 (by decide) ?_ | with_reducible refine Val.shr24 (by decide) ?_ | with_reducible refine Val.raw ?_ | refine Branch.not ?_ | refine Branch.and ?_ | refine Branch.or ?_ | refine Branch.dt (by assumption) ?_ | refine Branch.df (by assumption) ?_ | refine Branch.dt rfl ?_ | refine Branch.dt (by omega) ?_ | refine Branch.df (by omega) ?_ | refine Branch.t rfl ?_ | refine Branch.f rfl ?_ | refine Branch.t (by assumption) ?_ | refine Branch.f (by assumption) ?_ | refine Branch.d (fun _ => ?_) (fun _ => ?_) | refine Branch.mk (fun _ => ?_) (fun _ => ?_) | refine Need.mk (by first | omega | decide | rfl) ?_ | refine Idx.nat (by omega) ?_ | refine Idx.auto (by first | omega | decide) (by first | omega | decide) ?_ | refine Cell.ro rfl ?_ | refine SDraw.all (by kernel_rfl) ?_ | refine Kept.k0 ?_ | refine Kept.k1 ?_ | refine Kept.k2 ?_ | refine Kept.k3 ?_ | refine Kept.k4 ?_))
theorem c43w {k : Nat} (hk : k ≤ 100000) (hK : K (.tuple ⟨[.int .u64 0, .int .u64 (k : Int)]⟩) H) : SCalls Tryd.prog 43 [.int .u64 1, .int .u64 (k : Int)] H K := by
  refine enter43 ?_
  repeat' ((conv => whnf); (first | refine c61w hk ?_ | refine Branch.f rfl ?_ | exact Keep.all hK | refine New.mk (fun _ => ?_) | refine Look.at0 ?_ | refine Cell.row ?_ | refine Cell.buf ?_ | refine Cells.row rfl ?_ | refine Put.row rfl ?_ | refine Put.buf rfl ?_ | refine Look.at1 ?_ | refine Look.at2 ?_ | refine Look.at3 ?_ | refine Look.at4 ?_ | refine Look.at5 ?_ | refine Look.at6 ?_ | refine Look.at7 ?_ | refine Look.at8 ?_ | with_reducible refine Val.i64 (by omega) (by omega) ?_ | with_reducible refine Val.u8 (by omega) (by omega) ?_ | with_reducible refine Val.u32 (by omega) (by omega) ?_ | with_reducible refine Val.u64 (by omega) (by omega) ?_ | with_reducible refine Val.u8m ?_ | with_reducible refine Val.u32m ?_ | with_reducible refine Val.u64m ?_ | with_reducible refine Val.shr8 ?_ | with_reducible refine Val.shr16 (by decide) ?_ | with_reducible refine Val.shr24 (by decide) ?_ | with_reducible refine Val.raw ?_ | refine Branch.not ?_ | refine Branch.and ?_ | refine Branch.or ?_ | refine Branch.dt (by assumption) ?_ | refine Branch.df (by assumption) ?_ | refine Branch.dt rfl ?_ | refine Branch.dt (by omega) ?_ | refine Branch.df (by omega) ?_ | refine Branch.t rfl ?_ | refine Branch.f rfl ?_ | refine Branch.t (by assumption) ?_ | refine Branch.f (by assumption) ?_ | refine Branch.d (fun _ => ?_) (fun _ => ?_) | refine Branch.mk (fun _ => ?_) (fun _ => ?_) | refine Need.mk (by first | omega | decide | rfl) ?_ | refine Idx.nat (by omega) ?_ | refine Idx.auto (by first | omega | decide) (by first | omega | decide) ?_ | refine Cell.ro rfl ?_ | refine SDraw.all (by kernel_rfl) ?_ | refine Kept.k0 ?_ | refine Kept.k1 ?_ | refine Kept.k2 ?_ | refine Kept.k3 ?_ | refine Kept.k4 ?_))
/-- The text is made longer, twice as long at the most, until it is long enough. -/
theorem l37 {k c r : Nat} {N0 : Heap} {S0 : List Value} {Q : Post} (hk : k ≤ 100000) (hk1 : 1 ≤ k) (hc : 1 ≤ c) (hN : Bld 55 r [] (ones 1) N0) (hS : S37 (.string ⟨#[49]⟩) (.int .i64 (k : Int)) (.int .i64 (c : Int)) (ptr r) S0)
    (hQ : ∀ S N, Bld 55 r [] (ones k) N → S37 (.string ⟨#[49]⟩) (.int .i64 (k : Int)) (.int .i64 (c : Int)) (ptr r) S → Q (.exit 3) S (N ++ H)) : SLoop Tryd.prog X37_l0 Q S0 (N0 ++ H) := by
  refine SLoop.invA (fun (j : Nat) S H' => 1 ≤ j ∧ j ≤ k ∧ S37 (.string ⟨#[49]⟩) (.int .i64 (k : Int)) (.int .i64 (c : Int)) (ptr r) S ∧ ∃ N, Bld 55 r [] (ones j) N ∧ H' = N ++ H) (fun j => k - j) 1 (Keep.all ⟨Nat.le_refl _, hk1, hS, N0, hN, rfl⟩) ?_
  rintro j S H' ⟨hj1, hjk, hS, N, hN, rfl⟩ R hR
  cases hS
  have h47 : ∀ (K2 : Value → Heap → Prop), K2 (.int .i64 (j : Int)) (N ++ H) → SCalls Tryd.prog 47 [ptr r] (N ++ H) K2 := fun K2 hk => SCalls.midH [] H (c47 (pre := []) hN (by rw [List.length_replicate]; exact hk))
  by_cases hlt : j < k
  · obtain ⟨m, hm⟩ : ∃ m, m = min (min (k - j) j) c := ⟨_, rfl⟩
    have hmn : ∀ (o : Oper) (x y z : Operand) (H : Heap) (K2 : Value → Heap → Prop), o.op = .call { callee := .builtin .min, args := #[x, y, z], argTypes := #[3, 3, 3] } → K2 (.int .i64 (m : Int)) H → RawV Tryd.prog o [.int .i64 ((k - j : Nat) : Int), .int .i64 (j : Int), .int .i64 (c : Int)] H K2 := fun o x y z H K2 ho hk =>
      RawV.min3 ho (by subst hm; split <;> split <;> omega) hk
    have hsub : ∀ K : Int → Prop, K ((k - j : Nat) : Int) → Val (IntKind.i64.wrap ((k : Int) - (j : Int))) K := fun K hk2 => Val.to _ (by rw [wrap_i64 (by omega) (by omega)]; omega) hk2
    have h36 : ∀ (K2 : Value → Heap → Prop), (∀ N', Bld 55 r [] (ones j) N' → K2 (.string (strOf (ones j))) (N' ++ H)) → SCalls Tryd.prog 36 [ptr r] (N ++ H) K2 := fun K2 hk => SCalls.midH [] H (c36 (pre := []) hN hk)
    have h46 : ∀ (N : Heap) (K2 : Value → Heap → Prop), Bld 55 r [] (ones j) N → (∀ N', Bld 55 r [] (ones (j + m)) N' → K2 (.tuple ⟨[.int .i64 (m : Int), .nilIface]⟩) (N' ++ H)) → SCalls Tryd.prog 46 [ptr r, .string (strOf (ones m))] (N ++ H) K2 := fun N K2 hN hk =>
      SCalls.midH [] H (c46 (pre := []) (l := ones m) bt55 hN (by simp only [List.length_replicate]; omega) (fun N' h => by
        rw [List.length_replicate]
        exact hk N' (by show Bld 55 r [] (List.replicate (j + m) 49) N'; rw [← List.replicate_append_replicate]; exact h)))
    have hcut : (strOf (ones j)).extract 0 m = strOf (ones m) := by
      rw [strOf_cut, List.drop_zero, List.take_replicate]
      congr 2; omega
    have hsz : (strOf (ones j)).size = j := by rw [strOf_size, List.length_replicate]
    have hnext := fun S N (h1 : Bld 55 r [] (ones (j + m)) N) hS => hR (j + m) S (N ++ H) (by omega) (Keep.all ⟨by omega, by omega, hS, N, h1, rfl⟩)
    clear hR hQ
    repeat' ((conv => whnf); (first | with_reducible refine h47 _ ?_ | with_reducible refine hsub _ ?_ | refine Branch.dt (by omega) ?_ | with_reducible refine hmn _ _ _ _ _ _ rfl ?_ | with_reducible refine h36 _ (fun N' hN' => ?_) | refine Idx.of m rfl (by omega) ?_ | with_reducible rw [hcut] | with_reducible refine h46 _ _ hN' (fun N2 hN2 => ?_) | exact hnext _ _ hN2 .mk | refine New.mk (fun _ => ?_) | refine Look.at0 ?_ | refine Cell.row ?_ | refine Cell.buf ?_ | refine Cells.row rfl ?_ | refine Put.row rfl ?_ | refine Put.buf rfl ?_ | refine Look.at1 ?_ | refine Look.at2 ?_ | refine Look.at3 ?_ | refine Look.at4 ?_ | refine Look.at5 ?_ | refine Look.at6 ?_ | refine Look.at7 ?_ | refine Look.at8 ?_ | with_reducible refine Val.i64 (by omega) (by omega) ?_ | with_reducible refine Val.u8 (by omega) (by omega) ?_ | with_reducible refine Val.u32 (by omega) (by omega) ?_ | with_reducible refine Val.u64 (by omega) (by omega) ?_ | with_reducible refine Val.u8m ?_ | with_reducible refine Val.u32m ?_ | with_reducible refine Val.u64m ?_ | with_reducible refine Val.shr8 ?_ | with_reducible refine Val.shr16 (by decide) ?_ | with_reducible refine Val.shr24 (by decide) ?_ | with_reducible refine Val.raw ?_ | refine Branch.not ?_ | refine Branch.and ?_ | refine Branch.or ?_ | refine Branch.dt (by assumption) ?_ | refine Branch.df (by assumption) ?_ | refine Branch.dt rfl ?_ | refine Branch.dt (by omega) ?_ | refine Branch.df (by omega) ?_ | refine Branch.t rfl ?_ | refine Branch.f rfl ?_ | refine Branch.t (by assumption) ?_ | refine Branch.f (by assumption) ?_ | refine Branch.d (fun _ => ?_) (fun _ => ?_) | refine Branch.mk (fun _ => ?_) (fun _ => ?_) | refine Need.mk (by first | omega | decide | rfl) ?_ | refine Idx.nat (by omega) ?_ | refine Idx.auto (by first | omega | decide) (by first | omega | decide) ?_ | refine Cell.ro rfl ?_ | refine SDraw.all (by kernel_rfl) ?_ | refine Kept.k0 ?_ | refine Kept.k1 ?_ | refine Kept.k2 ?_ | refine Kept.k3 ?_ | refine Kept.k4 ?_))
  · obtain rfl : j = k := by omega
    have hq := fun S hS => hQ S N hN hS
    clear hR hQ
    repeat' ((conv => whnf); (first | with_reducible refine h47 _ ?_ | refine Branch.df (by omega) ?_ | exact hq _ .mk | refine New.mk (fun _ => ?_) | refine Look.at0 ?_ | refine Cell.row ?_ | refine Cell.buf ?_ | refine Cells.row rfl ?_ | refine Put.row rfl ?_ | refine Put.buf rfl ?_ | refine Look.at1 ?_ | refine Look.at2 ?_ | refine Look.at3 ?_ | refine Look.at4 ?_ | refine Look.at5 ?_ | refine Look.at6 ?_ | refine Look.at7 ?_ | refine Look.at8 ?_ | with_reducible refine Val.i64 (by omega) (by omega) ?_ | with_reducible refine Val.u8 (by omega) (by omega) ?_ | with_reducible refine Val.u32 (by omega) (by omega) ?_ | with_reducible refine Val.u64 (by omega) (by omega) ?_ | with_reducible refine Val.u8m ?_ | with_reducible refine Val.u32m ?_ | with_reducible refine Val.u64m ?_ | with_reducible refine Val.shr8 ?_ | with_reducible refine Val.shr16 (by decide) ?_ | with_reducible refine Val.shr24 (by decide) ?_ | with_reducible refine Val.raw ?_ | refine Branch.not ?_ | refine Branch.and ?_ | refine Branch.or ?_ | refine Branch.dt (by assumption) ?_ | refine Branch.df (by assumption) ?_ | refine Branch.dt rfl ?_ | refine Branch.dt (by omega) ?_ | refine Branch.df (by omega) ?_ | refine Branch.t rfl ?_ | refine Branch.f rfl ?_ | refine Branch.t (by assumption) ?_ | refine Branch.f (by assumption) ?_ | refine Branch.d (fun _ => ?_) (fun _ => ?_) | refine Branch.mk (fun _ => ?_) (fun _ => ?_) | refine Need.mk (by first | omega | decide | rfl) ?_ | refine Idx.nat (by omega) ?_ | refine Idx.auto (by first | omega | decide) (by first | omega | decide) ?_ | refine Cell.ro rfl ?_ | refine SDraw.all (by kernel_rfl) ?_ | refine Kept.k0 ?_ | refine Kept.k1 ?_ | refine Kept.k2 ?_ | refine Kept.k3 ?_ | refine Kept.k4 ?_))
theorem c37o {k : Nat} (hk : k ≤ 100000) (hK : K (.string (strOf (ones k))) H) : SCalls Tryd.prog 37 [.string ⟨#[49]⟩, .int .i64 (k : Int)] H K := by
  refine enter37 ?_
  rcases (by omega : k = 0 ∨ k = 1 ∨ 2 ≤ k) with rfl | rfl | h2
  · repeat' ((conv => whnf); (first | refine Branch.t rfl ?_ | exact Keep.all hK | refine New.mk (fun _ => ?_) | refine Look.at0 ?_ | refine Cell.row ?_ | refine Cell.buf ?_ | refine Cells.row rfl ?_ | refine Put.row rfl ?_ | refine Put.buf rfl ?_ | refine Look.at1 ?_ | refine Look.at2 ?_ | refine Look.at3 ?_ | refine Look.at4 ?_ | refine Look.at5 ?_ | refine Look.at6 ?_ | refine Look.at7 ?_ | refine Look.at8 ?_ | with_reducible refine Val.i64 (by omega) (by omega) ?_ | with_reducible refine Val.u8 (by omega) (by omega) ?_ | with_reducible refine Val.u32 (by omega) (by omega) ?_ | with_reducible refine Val.u64 (by omega) (by omega) ?_ | with_reducible refine Val.u8m ?_ | with_reducible refine Val.u32m ?_ | with_reducible refine Val.u64m ?_ | with_reducible refine Val.shr8 ?_ | with_reducible refine Val.shr16 (by decide) ?_ | with_reducible refine Val.shr24 (by decide) ?_ | with_reducible refine Val.raw ?_ | refine Branch.not ?_ | refine Branch.and ?_ | refine Branch.or ?_ | refine Branch.dt (by assumption) ?_ | refine Branch.df (by assumption) ?_ | refine Branch.dt rfl ?_ | refine Branch.dt (by omega) ?_ | refine Branch.df (by omega) ?_ | refine Branch.t rfl ?_ | refine Branch.f rfl ?_ | refine Branch.t (by assumption) ?_ | refine Branch.f (by assumption) ?_ | refine Branch.d (fun _ => ?_) (fun _ => ?_) | refine Branch.mk (fun _ => ?_) (fun _ => ?_) | refine Need.mk (by first | omega | decide | rfl) ?_ | refine Idx.nat (by omega) ?_ | refine Idx.auto (by first | omega | decide) (by first | omega | decide) ?_ | refine Cell.ro rfl ?_ | refine SDraw.all (by kernel_rfl) ?_ | refine Kept.k0 ?_ | refine Kept.k1 ?_ | refine Kept.k2 ?_ | refine Kept.k3 ?_ | refine Kept.k4 ?_))
  · repeat' ((conv => whnf); (first | refine Branch.t rfl ?_ | refine Branch.f rfl ?_ | exact Keep.all hK | refine New.mk (fun _ => ?_) | refine Look.at0 ?_ | refine Cell.row ?_ | refine Cell.buf ?_ | refine Cells.row rfl ?_ | refine Put.row rfl ?_ | refine Put.buf rfl ?_ | refine Look.at1 ?_ | refine Look.at2 ?_ | refine Look.at3 ?_ | refine Look.at4 ?_ | refine Look.at5 ?_ | refine Look.at6 ?_ | refine Look.at7 ?_ | refine Look.at8 ?_ | with_reducible refine Val.i64 (by omega) (by omega) ?_ | with_reducible refine Val.u8 (by omega) (by omega) ?_ | with_reducible refine Val.u32 (by omega) (by omega) ?_ | with_reducible refine Val.u64 (by omega) (by omega) ?_ | with_reducible refine Val.u8m ?_ | with_reducible refine Val.u32m ?_ | with_reducible refine Val.u64m ?_ | with_reducible refine Val.shr8 ?_ | with_reducible refine Val.shr16 (by decide) ?_ | with_reducible refine Val.shr24 (by decide) ?_ | with_reducible refine Val.raw ?_ | refine Branch.not ?_ | refine Branch.and ?_ | refine Branch.or ?_ | refine Branch.dt (by assumption) ?_ | refine Branch.df (by assumption) ?_ | refine Branch.dt rfl ?_ | refine Branch.dt (by omega) ?_ | refine Branch.df (by omega) ?_ | refine Branch.t rfl ?_ | refine Branch.f rfl ?_ | refine Branch.t (by assumption) ?_ | refine Branch.f (by assumption) ?_ | refine Branch.d (fun _ => ?_) (fun _ => ?_) | refine Branch.mk (fun _ => ?_) (fun _ => ?_) | refine Need.mk (by first | omega | decide | rfl) ?_ | refine Idx.nat (by omega) ?_ | refine Idx.auto (by first | omega | decide) (by first | omega | decide) ?_ | refine Cell.ro rfl ?_ | refine SDraw.all (by kernel_rfl) ?_ | refine Kept.k0 ?_ | refine Kept.k1 ?_ | refine Kept.k2 ?_ | refine Kept.k3 ?_ | refine Kept.k4 ?_))
  · have h45 : ∀ (r : Nat) (K2 : Value → Heap → Prop), (∀ N', Bld 55 r [] [] N' → K2 (.tuple ⟨[]⟩) (N' ++ H)) → SCalls Tryd.prog 45 [ptr r, .int .i64 (k : Int)] (nB r (.pointer none) :: H) K2 := fun r K2 hk2 =>
      SCalls.midH [] H (N := [nB r (.pointer none)]) (c45 (by omega) (by omega) hk2)
    have h46 : ∀ (r : Nat) (N : Heap) (K2 : Value → Heap → Prop), Bld 55 r [] [] N → (∀ N', Bld 55 r [] (ones 1) N' → K2 (.tuple ⟨[.int .i64 1, .nilIface]⟩) (N' ++ H)) → SCalls Tryd.prog 46 [ptr r, .string ⟨#[49]⟩] (N ++ H) K2 := fun r N K2 hN hk =>
      SCalls.midH [] H (c46 (pre := []) (l := ones 1) bt55 hN (by decide) hk)
    have h36 : ∀ (r : Nat) (N : Heap) (K2 : Value → Heap → Prop), Bld 55 r [] (ones k) N → (∀ N', K2 (.string (strOf (ones k))) (N' ++ H)) → SCalls Tryd.prog 36 [ptr r] (N ++ H) K2 := fun r N K2 hN hk => SCalls.midH [] H (c36 (pre := []) hN fun N' _ => hk N')
    by_cases h8 : k ≤ 8192
    · repeat' ((conv => whnf); (first | refine c43w hk ?_ | with_reducible refine Val.u64 (by omega) (by omega) ?_ | refine Branch.df (by omega) ?_ | refine Branch.dt (by omega) ?_ | refine Branch.t rfl ?_ | refine Branch.f rfl ?_ | refine Idx.of 0 rfl (by decide) ?_ | with_reducible refine h45 _ _ (fun N' hN' => ?_) | with_reducible refine h46 _ _ _ hN' (fun N2 hN2 => ?_) | refine l37 hk (by omega) (c := k) (by omega) hN2 .mk (fun S N hN hS => ?_) | refine New.mk (fun _ => ?_) | refine Look.at0 ?_ | refine Cell.row ?_ | refine Cell.buf ?_ | refine Cells.row rfl ?_ | refine Put.row rfl ?_ | refine Put.buf rfl ?_ | refine Look.at1 ?_ | refine Look.at2 ?_ | refine Look.at3 ?_ | refine Look.at4 ?_ | refine Look.at5 ?_ | refine Look.at6 ?_ | refine Look.at7 ?_ | refine Look.at8 ?_ | with_reducible refine Val.i64 (by omega) (by omega) ?_ | with_reducible refine Val.u8 (by omega) (by omega) ?_ | with_reducible refine Val.u32 (by omega) (by omega) ?_ | with_reducible refine Val.u64 (by omega) (by omega) ?_ | with_reducible refine Val.u8m ?_ | with_reducible refine Val.u32m ?_ | with_reducible refine Val.u64m ?_ | with_reducible refine Val.shr8 ?_ | with_reducible refine Val.shr16 (by decide) ?_ | with_reducible refine Val.shr24 (by decide) ?_ | with_reducible refine Val.raw ?_ | refine Branch.not ?_ | refine Branch.and ?_ | refine Branch.or ?_ | refine Branch.dt (by assumption) ?_ | refine Branch.df (by assumption) ?_ | refine Branch.dt rfl ?_ | refine Branch.dt (by omega) ?_ | refine Branch.df (by omega) ?_ | refine Branch.t rfl ?_ | refine Branch.f rfl ?_ | refine Branch.t (by assumption) ?_ | refine Branch.f (by assumption) ?_ | refine Branch.d (fun _ => ?_) (fun _ => ?_) | refine Branch.mk (fun _ => ?_) (fun _ => ?_) | refine Need.mk (by first | omega | decide | rfl) ?_ | refine Idx.nat (by omega) ?_ | refine Idx.auto (by first | omega | decide) (by first | omega | decide) ?_ | refine Cell.ro rfl ?_ | refine SDraw.all (by kernel_rfl) ?_ | refine Kept.k0 ?_ | refine Kept.k1 ?_ | refine Kept.k2 ?_ | refine Kept.k3 ?_ | refine Kept.k4 ?_))
      cases hS
      have hfin : ∀ N : Heap, Keep (N ++ H) fun H' => K (.string (strOf (ones k))) H' := fun N => Keep.sub H (List.sublist_append_right N H) hK
      repeat' ((conv => whnf); (first | with_reducible refine h36 _ _ _ hN (fun N' => ?_) | with_reducible exact hfin _ | refine New.mk (fun _ => ?_) | refine Look.at0 ?_ | refine Cell.row ?_ | refine Cell.buf ?_ | refine Cells.row rfl ?_ | refine Put.row rfl ?_ | refine Put.buf rfl ?_ | refine Look.at1 ?_ | refine Look.at2 ?_ | refine Look.at3 ?_ | refine Look.at4 ?_ | refine Look.at5 ?_ | refine Look.at6 ?_ | refine Look.at7 ?_ | refine Look.at8 ?_ | with_reducible refine Val.i64 (by omega) (by omega) ?_ | with_reducible refine Val.u8 (by omega) (by omega) ?_ | with_reducible refine Val.u32 (by omega) (by omega) ?_ | with_reducible refine Val.u64 (by omega) (by omega) ?_ | with_reducible refine Val.u8m ?_ | with_reducible refine Val.u32m ?_ | with_reducible refine Val.u64m ?_ | with_reducible refine Val.shr8 ?_ | with_reducible refine Val.shr16 (by decide) ?_ | with_reducible refine Val.shr24 (by decide) ?_ | with_reducible refine Val.raw ?_ | refine Branch.not ?_ | refine Branch.and ?_ | refine Branch.or ?_ | refine Branch.dt (by assumption) ?_ | refine Branch.df (by assumption) ?_ | refine Branch.dt rfl ?_ | refine Branch.dt (by omega) ?_ | refine Branch.df (by omega) ?_ | refine Branch.t rfl ?_ | refine Branch.f rfl ?_ | refine Branch.t (by assumption) ?_ | refine Branch.f (by assumption) ?_ | refine Branch.d (fun _ => ?_) (fun _ => ?_) | refine Branch.mk (fun _ => ?_) (fun _ => ?_) | refine Need.mk (by first | omega | decide | rfl) ?_ | refine Idx.nat (by omega) ?_ | refine Idx.auto (by first | omega | decide) (by first | omega | decide) ?_ | refine Cell.ro rfl ?_ | refine SDraw.all (by kernel_rfl) ?_ | refine Kept.k0 ?_ | refine Kept.k1 ?_ | refine Kept.k2 ?_ | refine Kept.k3 ?_ | refine Kept.k4 ?_))
    · repeat' ((conv => whnf); (first | refine c43w hk ?_ | with_reducible refine Val.u64 (by omega) (by omega) ?_ | refine Need.mk (by decide) ?_ | with_reducible refine Val.to 8192 (by first | decide | rfl | (rw [strOf_size]; rfl)) ?_ | refine Branch.df (by omega) ?_ | refine Branch.dt (by omega) ?_ | refine Branch.t rfl ?_ | refine Branch.f rfl ?_ | refine Idx.of 0 rfl (by decide) ?_ | with_reducible refine h45 _ _ (fun N' hN' => ?_) | with_reducible refine h46 _ _ _ hN' (fun N2 hN2 => ?_) | refine l37 hk (by omega) (c := 8192) (by omega) hN2 .mk (fun S N hN hS => ?_) | refine New.mk (fun _ => ?_) | refine Look.at0 ?_ | refine Cell.row ?_ | refine Cell.buf ?_ | refine Cells.row rfl ?_ | refine Put.row rfl ?_ | refine Put.buf rfl ?_ | refine Look.at1 ?_ | refine Look.at2 ?_ | refine Look.at3 ?_ | refine Look.at4 ?_ | refine Look.at5 ?_ | refine Look.at6 ?_ | refine Look.at7 ?_ | refine Look.at8 ?_ | with_reducible refine Val.i64 (by omega) (by omega) ?_ | with_reducible refine Val.u8 (by omega) (by omega) ?_ | with_reducible refine Val.u32 (by omega) (by omega) ?_ | with_reducible refine Val.u64 (by omega) (by omega) ?_ | with_reducible refine Val.u8m ?_ | with_reducible refine Val.u32m ?_ | with_reducible refine Val.u64m ?_ | with_reducible refine Val.shr8 ?_ | with_reducible refine Val.shr16 (by decide) ?_ | with_reducible refine Val.shr24 (by decide) ?_ | with_reducible refine Val.raw ?_ | refine Branch.not ?_ | refine Branch.and ?_ | refine Branch.or ?_ | refine Branch.dt (by assumption) ?_ | refine Branch.df (by assumption) ?_ | refine Branch.dt rfl ?_ | refine Branch.dt (by omega) ?_ | refine Branch.df (by omega) ?_ | refine Branch.t rfl ?_ | refine Branch.f rfl ?_ | refine Branch.t (by assumption) ?_ | refine Branch.f (by assumption) ?_ | refine Branch.d (fun _ => ?_) (fun _ => ?_) | refine Branch.mk (fun _ => ?_) (fun _ => ?_) | refine Need.mk (by first | omega | decide | rfl) ?_ | refine Idx.nat (by omega) ?_ | refine Idx.auto (by first | omega | decide) (by first | omega | decide) ?_ | refine Cell.ro rfl ?_ | refine SDraw.all (by kernel_rfl) ?_ | refine Kept.k0 ?_ | refine Kept.k1 ?_ | refine Kept.k2 ?_ | refine Kept.k3 ?_ | refine Kept.k4 ?_))
      cases hS
      have hfin : ∀ N : Heap, Keep (N ++ H) fun H' => K (.string (strOf (ones k))) H' := fun N => Keep.sub H (List.sublist_append_right N H) hK
      repeat' ((conv => whnf); (first | with_reducible refine h36 _ _ _ hN (fun N' => ?_) | with_reducible exact hfin _ | refine New.mk (fun _ => ?_) | refine Look.at0 ?_ | refine Cell.row ?_ | refine Cell.buf ?_ | refine Cells.row rfl ?_ | refine Put.row rfl ?_ | refine Put.buf rfl ?_ | refine Look.at1 ?_ | refine Look.at2 ?_ | refine Look.at3 ?_ | refine Look.at4 ?_ | refine Look.at5 ?_ | refine Look.at6 ?_ | refine Look.at7 ?_ | refine Look.at8 ?_ | with_reducible refine Val.i64 (by omega) (by omega) ?_ | with_reducible refine Val.u8 (by omega) (by omega) ?_ | with_reducible refine Val.u32 (by omega) (by omega) ?_ | with_reducible refine Val.u64 (by omega) (by omega) ?_ | with_reducible refine Val.u8m ?_ | with_reducible refine Val.u32m ?_ | with_reducible refine Val.u64m ?_ | with_reducible refine Val.shr8 ?_ | with_reducible refine Val.shr16 (by decide) ?_ | with_reducible refine Val.shr24 (by decide) ?_ | with_reducible refine Val.raw ?_ | refine Branch.not ?_ | refine Branch.and ?_ | refine Branch.or ?_ | refine Branch.dt (by assumption) ?_ | refine Branch.df (by assumption) ?_ | refine Branch.dt rfl ?_ | refine Branch.dt (by omega) ?_ | refine Branch.df (by omega) ?_ | refine Branch.t rfl ?_ | refine Branch.f rfl ?_ | refine Branch.t (by assumption) ?_ | refine Branch.f (by assumption) ?_ | refine Branch.d (fun _ => ?_) (fun _ => ?_) | refine Branch.mk (fun _ => ?_) (fun _ => ?_) | refine Need.mk (by first | omega | decide | rfl) ?_ | refine Idx.nat (by omega) ?_ | refine Idx.auto (by first | omega | decide) (by first | omega | decide) ?_ | refine Cell.ro rfl ?_ | refine SDraw.all (by kernel_rfl) ?_ | refine Kept.k0 ?_ | refine Kept.k1 ?_ | refine Kept.k2 ?_ | refine Kept.k3 ?_ | refine Kept.k4 ?_))
end
end Go.Proofs.YtijnjklofdmelaaDoor


/- Layer 1: what a wire has, by the program: by walks. -/
set_option linter.unusedVariables false
set_option linter.unusedSimpArgs false
set_option maxRecDepth 100000
set_option maxHeartbeats 4000000
namespace Go.Proofs.YtijnjklofdmelaaDoor
open Sx
abbrev sT (l : List UInt8) : List Value := [.string (strOf l)]
theorem sT_len (l : List UInt8) : (sT l).length = 1 := rfl
theorem sT_one (l : List UInt8) : ∀ u ∈ sT l, u.oneCell' = true := fun u hu => by rw [List.mem_singleton.1 hu]; rfl
/-- What a wire has at a place. -/
def wat (ls : List (List UInt8)) (q : Nat) : UInt8 := if ls.any (fun l => l[q]? == some 48) then 48 else 49
def wmx (ls : List (List UInt8)) : Nat := ls.foldl (fun m l => max m l.length) 0
def wN (n : Nat) (ls : List (List UInt8)) : List UInt8 := (List.range n).map (wat ls)
/-- What a wire has, and what is wrong. -/
def wV (ls : List (List UInt8)) : List UInt8 × Int := match ls.find? (fun l => !(chk l == 0)) with
  | some l => ([], chk l)
  | none => (wN (wmx ls) ls, 0)
theorem wat_snoc (ls : List (List UInt8)) (l : List UInt8) (q : Nat) : wat (ls ++ [l]) q = if l[q]? = some 48 then 48 else wat ls q := by
  unfold wat
  rw [List.any_append]
  by_cases h : l[q]? = some 48
  · simp [h]
  · simp [h]
theorem wat_or (ls : List (List UInt8)) (q : Nat) : wat ls q = 48 ∨ wat ls q = 49 := by
  unfold wat; split
  · exact .inl rfl
  · exact .inr rfl
theorem wN_len (n : Nat) (ls : List (List UInt8)) : (wN n ls).length = n := by simp [wN]
theorem wN_at {n q : Nat} (ls : List (List UInt8)) (h : q < n) : (wN n ls)[q]? = some (wat ls q) := by simp [wN, h]
theorem wN_nil (n : Nat) : wN n [] = ones n := by
  refine List.ext_getElem? fun i => ?_
  by_cases h : i < n
  · rw [wN_at _ h, List.getElem?_replicate, if_pos h]; rfl
  · rw [List.getElem?_eq_none (by rw [wN_len]; omega), List.getElem?_eq_none (by rw [List.length_replicate]; omega)]
theorem wN_congr {n : Nat} {a b : List (List UInt8)} (h : ∀ q, wat a q = wat b q) : wN n a = wN n b := by
  unfold wN
  exact List.map_congr_left fun q _ => h q
theorem wat_take0 (ls : List (List UInt8)) (l : List UInt8) (q : Nat) : wat (ls ++ [l.take 0]) q = wat ls q := by rw [wat_snoc]; simp
theorem wat_at {ls : List (List UInt8)} {l : List UInt8} {p : Nat} : wat (ls ++ [l.take p]) p = wat ls p := by
  rw [wat_snoc, List.getElem?_eq_none (by rw [List.length_take]; omega)]; simp
theorem wN_step {n p : Nat} {ls : List (List UInt8)} {l : List UInt8} {b : UInt8} (hb : l[p]? = some b) : (wN n (ls ++ [l.take p])).set p (if b = 48 then 48 else wat ls p) = wN n (ls ++ [l.take (p + 1)]) := by
  have hlt := (List.getElem?_eq_some_iff.1 hb).1
  refine List.ext_getElem? fun i => ?_
  rw [List.getElem?_set, wN_len]
  by_cases h : p = i
  · subst h
    rw [if_pos rfl]
    by_cases hn : p < n
    · rw [if_pos hn, wN_at _ hn, wat_snoc, List.getElem?_take_of_lt (by omega), hb]
      simp
    · rw [if_neg hn, List.getElem?_eq_none (by rw [wN_len]; omega)]
  · rw [if_neg h]
    by_cases hn : i < n
    · rw [wN_at _ hn, wN_at _ hn, wat_snoc, wat_snoc]
      have : (l.take p)[i]? = (l.take (p + 1))[i]? := by
        rw [List.getElem?_take, List.getElem?_take]
        by_cases h1 : i < p
        · rw [if_pos h1, if_pos (by omega)]
        · rw [if_neg h1, if_neg (by omega)]
      rw [this]
    · rw [List.getElem?_eq_none (by rw [wN_len]; omega), List.getElem?_eq_none (by rw [wN_len]; omega)]
theorem wmx_snoc (ls : List (List UInt8)) (l : List UInt8) : wmx (ls ++ [l]) = max (wmx ls) l.length := by simp [wmx]
theorem wmx_le {ls : List (List UInt8)} : ∀ l ∈ ls, l.length ≤ wmx ls := by
  induction ls using snoc_ind with
  | h0 => intro l h; cases h
  | h1 ls x ih =>
    intro l hl
    rw [wmx_snoc]
    rcases List.mem_append.1 hl with hl | hl
    · have := ih l hl; omega
    · rw [List.mem_singleton.1 hl]; omega
theorem wmx_bd {n : Nat} {ls : List (List UInt8)} : (∀ l ∈ ls, l.length ≤ n) → wmx ls ≤ n := by
  induction ls using snoc_ind with
  | h0 => intro _; exact Nat.zero_le _
  | h1 ls x ih =>
    intro h
    rw [wmx_snoc]
    have h1 := ih fun l hl => h l (List.mem_append_left _ hl)
    have h2 := h x (List.mem_append_right _ (.head _))
    omega
theorem chk_len {l : List UInt8} (h : chk l = 0) : l.length ≤ 65536 ∧ ∀ b ∈ l, isB b = true := by
  rcases chk_cases l with ⟨_, h1, h2⟩ | ⟨h0, _⟩
  · exact ⟨h1, h2⟩
  · exact absurd h h0
theorem wV_ok {ls : List (List UInt8)} (h : ∀ l ∈ ls, chk l = 0) : wV ls = (wN (wmx ls) ls, 0) := by
  unfold wV
  rw [List.find?_eq_none.2 (fun l hl => by simp [h l hl])]
theorem wV_bad {ls : List (List UInt8)} {j : Nat} {l : List UInt8} (h : ∀ x ∈ ls.take j, chk x = 0) (hj : ls[j]? = some l) (hl : chk l ≠ 0) : wV ls = ([], chk l) := by
  have hlt := (List.getElem?_eq_some_iff.1 hj).1
  have e : ls = ls.take j ++ l :: ls.drop (j + 1) := by
    have h2 := (List.getElem?_eq_some_iff.1 hj).2
    conv => lhs; rw [← List.take_append_drop j ls, List.drop_eq_getElem_cons hlt, h2]
  unfold wV
  rw [e, List.find?_append, List.find?_eq_none.2 (fun x hx => by simp [h x hx])]
  simp [hl]
theorem bit_or {b : UInt8} (h : isB b = true) : b = 48 ∨ b = 49 := by
  rcases isB_cases h with ⟨h, _⟩ | ⟨h, _⟩
  · exact .inl (UInt8.toNat_inj.1 h)
  · exact .inr (UInt8.toNat_inj.1 h)
/-- The least bit. -/
theorem min1 {c b w : UInt8} (hc : c = 48 ∨ c = 49) (hb : b = 48 ∨ b = 49) (hw : w = if b = 48 then 48 else c) : (if (b.toNat : Int) < (c.toNat : Int) then (b.toNat : Int) else (c.toNat : Int)) = (w.toNat : Int) := by
  subst hw
  rcases hc with rfl | rfl <;> rcases hb with rfl | rfl <;> rfl
theorem txt_cell {l : List UInt8} {z : List Value} {cap p : Nat} {b : UInt8} (h : l[p]? = some b) : (Blk.row 5 (cel l ++ z) (cap, cap + 1)).cell (0 + p * 1) = some (.int .u8 (b.toNat : Int)) := by
  have := cel_at h
  show (cel l ++ z)[0 + p * 1]? = _
  rw [Nat.zero_add, Nat.mul_one, List.getElem?_append_left (List.getElem?_eq_some_iff.1 this).1, this]
theorem txt_str {o : Oper} {xx : Operand} {K : Value → Heap → Prop} {r n cap : Nat} {l : List UInt8} {z : List Value} {H : Heap} (ho : o.op = .convert 27 9 xx) (hl : l.length = n) (hk : K (.string (strOf l)) (txtR r l z cap :: H)) : RawV Tryd.prog o [.slice (some ⟨r, 0, none⟩) n cap] (txtR r l z cap :: H) K :=
  RawV.toStr (e := 5) (l := l) ho (by kernel_rfl) (by kernel_rfl) (by kernel_rfl) (.head _) hl (fun k y hk => by
    have := cel_at hk
    show (cel l ++ z)[0 + k]? = _
    rw [Nat.zero_add, List.getElem?_append_left (List.getElem?_eq_some_iff.1 this).1, this]) hk
inductive S20 (A0 A4 A12 A13 A14 : Value) : List Value → Prop
  | mk {r1 r2 r3 r5 r6 r7 r8 r9 r10 r11 r15 r16 r17 r18 r19 r20 r21 r22 r23 r24 r25 r26 r27 r28 r29 r30 r31 r32 r33 r34 r35 r36 r37 r38 r39 r40 r41 r42 r43 r44 r45 r46 r47 r48 r49 r50 r51 r52 r53 r54 r55 r56 : Value} : S20 A0 A4 A12 A13 A14 [A0, r1, r2, r3, A4, r5, r6, r7, r8, r9, r10, r11, A12, A13, A14, r15, r16, r17, r18, r19, r20, r21, r22, r23, r24, r25, r26, r27, r28, r29, r30, r31, r32, r33, r34, r35, r36, r37, r38, r39, r40, r41, r42, r43, r44, r45, r46, r47, r48, r49, r50, r51, r52, r53, r54, r55, r56]
inductive T20 (A8 A31 A32 A33 : Value) : List Value → Prop
  | mk {r0 r1 r2 r3 r4 r5 r6 r7 r9 r10 r11 r12 r13 r14 r15 r16 r17 r18 r19 r20 r21 r22 r23 r24 r25 r26 r27 r28 r29 r30 r34 r35 r36 r37 r38 r39 r40 r41 r42 r43 r44 r45 r46 r47 r48 r49 r50 r51 r52 r53 r54 r55 r56 : Value} : T20 A8 A31 A32 A33 [r0, r1, r2, r3, r4, r5, r6, r7, A8, r9, r10, r11, r12, r13, r14, r15, r16, r17, r18, r19, r20, r21, r22, r23, r24, r25, r26, r27, r28, r29, r30, A31, A32, A33, r34, r35, r36, r37, r38, r39, r40, r41, r42, r43, r44, r45, r46, r47, r48, r49, r50, r51, r52, r53, r54, r55, r56]
inductive U20 (A8 A10 A31 A32 A33 A38 A39 : Value) : List Value → Prop
  | mk {r0 r1 r2 r3 r4 r5 r6 r7 r9 r11 r12 r13 r14 r15 r16 r17 r18 r19 r20 r21 r22 r23 r24 r25 r26 r27 r28 r29 r30 r34 r35 r36 r37 r40 r41 r42 r43 r44 r45 r46 r47 r48 r49 r50 r51 r52 r53 r54 r55 r56 : Value} : U20 A8 A10 A31 A32 A33 A38 A39 [r0, r1, r2, r3, r4, r5, r6, r7, A8, r9, A10, r11, r12, r13, r14, r15, r16, r17, r18, r19, r20, r21, r22, r23, r24, r25, r26, r27, r28, r29, r30, A31, A32, A33, r34, r35, r36, r37, A38, A39, r40, r41, r42, r43, r44, r45, r46, r47, r48, r49, r50, r51, r52, r53, r54, r55, r56]
section
variable {K : Value → Heap → Prop} {H : Heap}
theorem c20 {sv : Value} {ls : List (List UInt8)} (hin : InS sT 1 sv H ls) (hK : K (.tuple ⟨[.string (strOf (wV ls).1), .int .i64 (wV ls).2]⟩) H) : SCalls Tryd.prog 20 [sv] H K := by
  obtain ⟨sa, sc, rfl, hml⟩ := hin.sv
  have hml' : ls.length ≤ 9223372036854775807 := by simp only [maxLen] at hml; omega
  refine enter20 ?_
  repeat' ((conv => whnf); (first | refine New.mk (fun _ => ?_) | refine Look.at0 ?_ | refine Cell.row ?_ | refine Cell.buf ?_ | refine Cells.row rfl ?_ | refine Put.row rfl ?_ | refine Put.buf rfl ?_ | refine Look.at1 ?_ | refine Look.at2 ?_ | refine Look.at3 ?_ | refine Look.at4 ?_ | refine Look.at5 ?_ | refine Look.at6 ?_ | refine Look.at7 ?_ | refine Look.at8 ?_ | with_reducible refine Val.i64 (by omega) (by omega) ?_ | with_reducible refine Val.u8 (by omega) (by omega) ?_ | with_reducible refine Val.u32 (by omega) (by omega) ?_ | with_reducible refine Val.u64 (by omega) (by omega) ?_ | with_reducible refine Val.u8m ?_ | with_reducible refine Val.u32m ?_ | with_reducible refine Val.u64m ?_ | with_reducible refine Val.shr8 ?_ | with_reducible refine Val.shr16 (by decide) ?_ | with_reducible refine Val.shr24 (by decide) ?_ | with_reducible refine Val.raw ?_ | refine Branch.not ?_ | refine Branch.and ?_ | refine Branch.or ?_ | refine Branch.dt (by assumption) ?_ | refine Branch.df (by assumption) ?_ | refine Branch.dt rfl ?_ | refine Branch.dt (by omega) ?_ | refine Branch.df (by omega) ?_ | refine Branch.t rfl ?_ | refine Branch.f rfl ?_ | refine Branch.t (by assumption) ?_ | refine Branch.f (by assumption) ?_ | refine Branch.d (fun _ => ?_) (fun _ => ?_) | refine Branch.mk (fun _ => ?_) (fun _ => ?_) | refine Need.mk (by first | omega | decide | rfl) ?_ | refine Idx.nat (by omega) ?_ | refine Idx.auto (by first | omega | decide) (by first | omega | decide) ?_ | refine Cell.ro rfl ?_ | refine SDraw.all (by kernel_rfl) ?_ | refine Kept.k0 ?_ | refine Kept.k1 ?_ | refine Kept.k2 ?_ | refine Kept.k3 ?_ | refine Kept.k4 ?_))
  refine SLoop.invA (fun (j : Nat) S H' => j ≤ ls.length ∧ (∀ x ∈ ls.take j, chk x = 0) ∧ S20 (.slice sa ls.length sc) (.int .i64 (wmx (ls.take j) : Int)) (.slice sa ls.length sc) (.int .i64 (ls.length : Int)) (.int .i64 (j : Int)) S ∧ H' = H) (fun j => ls.length - j) 0 (Keep.all ⟨Nat.zero_le _, (fun x hx => by cases hx), .mk, rfl⟩) ?_
  rintro j S H' ⟨hj, hok, hS, rfl⟩ R hR
  cases hS
  by_cases hlt : j < ls.length
  · have hx := List.getElem?_eq_getElem hlt
    generalize ls[j] = l at hx
    have htk : ls.take (j + 1) = ls.take j ++ [l] := by rw [List.take_add_one, hx]; rfl
    obtain ⟨ra, oa, ca, blk, e, hm, hc⟩ := hin.at1 hx rfl
    injection e with e _ _
    subst e
    have h32 : ∀ (K2 : Value → Heap → Prop), K2 (.int .i64 (chk l)) H' → SCalls Tryd.prog 32 [.string (strOf l)] H' K2 := fun K2 hk => c32 hk
    by_cases h0 : chk l = 0
    · obtain ⟨hl, _⟩ := chk_len h0
      have hsz : ((strOf l).size : Int) = (l.length : Int) := by rw [strOf_size]
      rw [h0] at h32
      have hmx : ∀ (o : Oper) (xx yy : Operand) (K2 : Value → Heap → Prop), o.op = .call { callee := .builtin .max, args := #[xx, yy], argTypes := #[3, 3] } → K2 (.int .i64 (wmx (ls.take (j + 1)) : Int)) H' → RawV Tryd.prog o [.int .i64 (wmx (ls.take j) : Int), .int .i64 (l.length : Int)] H' K2 := fun o xx yy K2 ho hk =>
        RawV.max2 ho (by rw [htk, wmx_snoc]; split <;> omega) hk
      have hnext := fun S hS => hR (j + 1) S H' (by omega) (Keep.all ⟨hlt, (fun x hx2 => by
        rw [htk] at hx2
        rcases List.mem_append.1 hx2 with h | h
        · exact hok x h
        · rw [List.mem_singleton.1 h]; exact h0), hS, rfl⟩)
      clear hR hK
      generalize wmx (ls.take j) = m at hmx
      generalize wmx (ls.take (j + 1)) = m' at hmx hnext
      repeat' ((conv => whnf); (first | refine Branch.dt (by omega) ?_ | refine Look.cell hm hc ?_ | with_reducible refine h32 _ ?_ | refine Branch.f rfl ?_ | with_reducible rw [hsz] | with_reducible refine hmx _ _ _ _ rfl ?_ | exact hnext _ .mk | refine New.mk (fun _ => ?_) | refine Look.at0 ?_ | refine Cell.row ?_ | refine Cell.buf ?_ | refine Cells.row rfl ?_ | refine Put.row rfl ?_ | refine Put.buf rfl ?_ | refine Look.at1 ?_ | refine Look.at2 ?_ | refine Look.at3 ?_ | refine Look.at4 ?_ | refine Look.at5 ?_ | refine Look.at6 ?_ | refine Look.at7 ?_ | refine Look.at8 ?_ | with_reducible refine Val.i64 (by omega) (by omega) ?_ | with_reducible refine Val.u8 (by omega) (by omega) ?_ | with_reducible refine Val.u32 (by omega) (by omega) ?_ | with_reducible refine Val.u64 (by omega) (by omega) ?_ | with_reducible refine Val.u8m ?_ | with_reducible refine Val.u32m ?_ | with_reducible refine Val.u64m ?_ | with_reducible refine Val.shr8 ?_ | with_reducible refine Val.shr16 (by decide) ?_ | with_reducible refine Val.shr24 (by decide) ?_ | with_reducible refine Val.raw ?_ | refine Branch.not ?_ | refine Branch.and ?_ | refine Branch.or ?_ | refine Branch.dt (by assumption) ?_ | refine Branch.df (by assumption) ?_ | refine Branch.dt rfl ?_ | refine Branch.dt (by omega) ?_ | refine Branch.df (by omega) ?_ | refine Branch.t rfl ?_ | refine Branch.f rfl ?_ | refine Branch.t (by assumption) ?_ | refine Branch.f (by assumption) ?_ | refine Branch.d (fun _ => ?_) (fun _ => ?_) | refine Branch.mk (fun _ => ?_) (fun _ => ?_) | refine Need.mk (by first | omega | decide | rfl) ?_ | refine Idx.nat (by omega) ?_ | refine Idx.auto (by first | omega | decide) (by first | omega | decide) ?_ | refine Cell.ro rfl ?_ | refine SDraw.all (by kernel_rfl) ?_ | refine Kept.k0 ?_ | refine Kept.k1 ?_ | refine Kept.k2 ?_ | refine Kept.k3 ?_ | refine Kept.k4 ?_))
    · rw [wV_bad hok hx h0] at hK
      generalize chk l = v at h32 h0 hK
      clear hR
      repeat' ((conv => whnf); (first | refine Branch.dt (by omega) ?_ | refine Look.cell hm hc ?_ | with_reducible refine h32 _ ?_ | refine Branch.t (by simp [h0]; done) ?_ | exact Keep.all hK | refine New.mk (fun _ => ?_) | refine Look.at0 ?_ | refine Cell.row ?_ | refine Cell.buf ?_ | refine Cells.row rfl ?_ | refine Put.row rfl ?_ | refine Put.buf rfl ?_ | refine Look.at1 ?_ | refine Look.at2 ?_ | refine Look.at3 ?_ | refine Look.at4 ?_ | refine Look.at5 ?_ | refine Look.at6 ?_ | refine Look.at7 ?_ | refine Look.at8 ?_ | with_reducible refine Val.i64 (by omega) (by omega) ?_ | with_reducible refine Val.u8 (by omega) (by omega) ?_ | with_reducible refine Val.u32 (by omega) (by omega) ?_ | with_reducible refine Val.u64 (by omega) (by omega) ?_ | with_reducible refine Val.u8m ?_ | with_reducible refine Val.u32m ?_ | with_reducible refine Val.u64m ?_ | with_reducible refine Val.shr8 ?_ | with_reducible refine Val.shr16 (by decide) ?_ | with_reducible refine Val.shr24 (by decide) ?_ | with_reducible refine Val.raw ?_ | refine Branch.not ?_ | refine Branch.and ?_ | refine Branch.or ?_ | refine Branch.dt (by assumption) ?_ | refine Branch.df (by assumption) ?_ | refine Branch.dt rfl ?_ | refine Branch.dt (by omega) ?_ | refine Branch.df (by omega) ?_ | refine Branch.t rfl ?_ | refine Branch.f rfl ?_ | refine Branch.t (by assumption) ?_ | refine Branch.f (by assumption) ?_ | refine Branch.d (fun _ => ?_) (fun _ => ?_) | refine Branch.mk (fun _ => ?_) (fun _ => ?_) | refine Need.mk (by first | omega | decide | rfl) ?_ | refine Idx.nat (by omega) ?_ | refine Idx.auto (by first | omega | decide) (by first | omega | decide) ?_ | refine Cell.ro rfl ?_ | refine SDraw.all (by kernel_rfl) ?_ | refine Kept.k0 ?_ | refine Kept.k1 ?_ | refine Kept.k2 ?_ | refine Kept.k3 ?_ | refine Kept.k4 ?_))
  · obtain rfl : j = ls.length := by omega
    rw [List.take_length] at hok
    rw [wV_ok hok] at hK
    rw [List.take_length]
    have hn : wmx ls ≤ 65536 := wmx_bd fun l hl => (chk_len (hok l hl)).1
    have h37 : ∀ (K2 : Value → Heap → Prop), K2 (.string (strOf (ones (wmx ls)))) H' → SCalls Tryd.prog 37 [.string ⟨#[49]⟩, .int .i64 (wmx ls : Int)] H' K2 := fun K2 hk => c37o (by omega) hk
    have hbl : ∀ l ∈ ls, l.length ≤ wmx ls := wmx_le
    clear hR
    generalize wmx ls = n at hK h37 hn hbl
    repeat' ((conv => whnf); (first | refine Branch.df (by omega) ?_ | with_reducible refine h37 _ ?_ | refine RawV.toBytes (e := 5) (l := ones n) rfl (by kernel_rfl) (by kernel_rfl) (by kernel_rfl) (by rw [List.length_replicate]; simp only [maxLen]; omega) (fun r cap z h1 h2 h3 => ?_) | refine New.mk (fun _ => ?_) | refine Look.at0 ?_ | refine Cell.row ?_ | refine Cell.buf ?_ | refine Cells.row rfl ?_ | refine Put.row rfl ?_ | refine Put.buf rfl ?_ | refine Look.at1 ?_ | refine Look.at2 ?_ | refine Look.at3 ?_ | refine Look.at4 ?_ | refine Look.at5 ?_ | refine Look.at6 ?_ | refine Look.at7 ?_ | refine Look.at8 ?_ | with_reducible refine Val.i64 (by omega) (by omega) ?_ | with_reducible refine Val.u8 (by omega) (by omega) ?_ | with_reducible refine Val.u32 (by omega) (by omega) ?_ | with_reducible refine Val.u64 (by omega) (by omega) ?_ | with_reducible refine Val.u8m ?_ | with_reducible refine Val.u32m ?_ | with_reducible refine Val.u64m ?_ | with_reducible refine Val.shr8 ?_ | with_reducible refine Val.shr16 (by decide) ?_ | with_reducible refine Val.shr24 (by decide) ?_ | with_reducible refine Val.raw ?_ | refine Branch.not ?_ | refine Branch.and ?_ | refine Branch.or ?_ | refine Branch.dt (by assumption) ?_ | refine Branch.df (by assumption) ?_ | refine Branch.dt rfl ?_ | refine Branch.dt (by omega) ?_ | refine Branch.df (by omega) ?_ | refine Branch.t rfl ?_ | refine Branch.f rfl ?_ | refine Branch.t (by assumption) ?_ | refine Branch.f (by assumption) ?_ | refine Branch.d (fun _ => ?_) (fun _ => ?_) | refine Branch.mk (fun _ => ?_) (fun _ => ?_) | refine Need.mk (by first | omega | decide | rfl) ?_ | refine Idx.nat (by omega) ?_ | refine Idx.auto (by first | omega | decide) (by first | omega | decide) ?_ | refine Cell.ro rfl ?_ | refine SDraw.all (by kernel_rfl) ?_ | refine Kept.k0 ?_ | refine Kept.k1 ?_ | refine Kept.k2 ?_ | refine Kept.k3 ?_ | refine Kept.k4 ?_))
    rw [List.length_replicate]
    rw [List.length_append, cel_len, List.length_replicate] at h3
    refine SLoop.invA (fun (i : Nat) S H2 => i ≤ ls.length ∧ T20 (.slice (some ⟨r, 0, none⟩) n cap) (.slice sa ls.length sc) (.int .i64 (ls.length : Int)) (.int .i64 (i : Int)) S ∧ H2 = txtR r (wN n (ls.take i)) z cap :: H') (fun i => ls.length - i) 0 (Keep.all ⟨Nat.zero_le _, .mk, by rw [List.take_zero, wN_nil]⟩) ?_
    rintro i S H2 ⟨hi, hS, rfl⟩ R hR
    cases hS
    by_cases hlt : i < ls.length
    · have hx := List.getElem?_eq_getElem hlt
      generalize ls[i] = l at hx
      have hlm := List.mem_of_getElem? hx
      obtain ⟨hl65, hB⟩ := chk_len (hok l hlm)
      have hln := hbl l hlm
      obtain ⟨ra, oa, ca, blk, e, hm, hc⟩ := hin.at1 hx rfl
      injection e with e _ _
      subst e
      have hsz : ((strOf l).size : Int) = (l.length : Int) := by rw [strOf_size]
      have htk : ls.take (i + 1) = ls.take i ++ [l] := by rw [List.take_add_one, hx]; rfl
      have hnext := fun S hS => hR (i + 1) S _ (by omega) (Keep.all ⟨hlt, hS, rfl⟩)
      rw [htk] at hnext
      clear hR hK htk
      generalize ls.take i = ms at *
      repeat' ((conv => whnf); (first | refine Branch.dt (by omega) ?_ | refine Look.cell (.tail _ hm) hc ?_ | with_reducible rw [hsz] | refine New.mk (fun _ => ?_) | refine Look.at0 ?_ | refine Cell.row ?_ | refine Cell.buf ?_ | refine Cells.row rfl ?_ | refine Put.row rfl ?_ | refine Put.buf rfl ?_ | refine Look.at1 ?_ | refine Look.at2 ?_ | refine Look.at3 ?_ | refine Look.at4 ?_ | refine Look.at5 ?_ | refine Look.at6 ?_ | refine Look.at7 ?_ | refine Look.at8 ?_ | with_reducible refine Val.i64 (by omega) (by omega) ?_ | with_reducible refine Val.u8 (by omega) (by omega) ?_ | with_reducible refine Val.u32 (by omega) (by omega) ?_ | with_reducible refine Val.u64 (by omega) (by omega) ?_ | with_reducible refine Val.u8m ?_ | with_reducible refine Val.u32m ?_ | with_reducible refine Val.u64m ?_ | with_reducible refine Val.shr8 ?_ | with_reducible refine Val.shr16 (by decide) ?_ | with_reducible refine Val.shr24 (by decide) ?_ | with_reducible refine Val.raw ?_ | refine Branch.not ?_ | refine Branch.and ?_ | refine Branch.or ?_ | refine Branch.dt (by assumption) ?_ | refine Branch.df (by assumption) ?_ | refine Branch.dt rfl ?_ | refine Branch.dt (by omega) ?_ | refine Branch.df (by omega) ?_ | refine Branch.t rfl ?_ | refine Branch.f rfl ?_ | refine Branch.t (by assumption) ?_ | refine Branch.f (by assumption) ?_ | refine Branch.d (fun _ => ?_) (fun _ => ?_) | refine Branch.mk (fun _ => ?_) (fun _ => ?_) | refine Need.mk (by first | omega | decide | rfl) ?_ | refine Idx.nat (by omega) ?_ | refine Idx.auto (by first | omega | decide) (by first | omega | decide) ?_ | refine Cell.ro rfl ?_ | refine SDraw.all (by kernel_rfl) ?_ | refine Kept.k0 ?_ | refine Kept.k1 ?_ | refine Kept.k2 ?_ | refine Kept.k3 ?_ | refine Kept.k4 ?_))
      refine SLoop.invA (fun (p : Nat) S H2 => p ≤ l.length ∧ U20 (.slice (some ⟨r, 0, none⟩) n cap) (.string (strOf l)) (.slice (some ⟨ra, oa, none⟩) ls.length sc) (.int .i64 (ls.length : Int)) (.int .i64 (i : Int)) (.int .i64 (l.length : Int)) (.int .i64 (p : Int)) S ∧ H2 = txtR r (wN n (ms ++ [l.take p])) z cap :: H') (fun p => l.length - p) 0 (Keep.all ⟨Nat.zero_le _, .mk, by rw [wN_congr (wat_take0 ms l)]⟩) ?_
      rintro p S H2 ⟨hp, hS, rfl⟩ R hR
      cases hS
      by_cases hlp : p < l.length
      · have hb := List.getElem?_eq_getElem hlp
        generalize l[p] = b at hb
        have hbB := hB b (List.mem_of_getElem? hb)
        have hst := wN_step (n := n) (ls := ms) hb
        have hwl := wN_len n (ms ++ [l.take p])
        have hc0 := wN_at (ms ++ [l.take p]) (show p < n by omega)
        rw [wat_at] at hc0
        have hmn0 := min1 (wat_or ms p) (bit_or hbB) rfl
        have hmn : ∀ (o : Oper) (xx yy : Operand) H3 (K2 : Value → Heap → Prop), o.op = .call { callee := .builtin .min, args := #[xx, yy], argTypes := #[5, 5] } → K2 (.int .u8 ((if b = 48 then 48 else wat ms p).toNat : Int)) H3 → RawV Tryd.prog o [.int .u8 ((wat ms p).toNat : Int), .int .u8 (b.toNat : Int)] H3 K2 := fun o xx yy H3 K2 ho hk =>
          RawV.min2 ho hmn0 hk
        have hat : byteAt (strOf l) p = (b.toNat : Int) := byteAt_of hb
        have hsz2 : (strOf l).size = l.length := strOf_size l
        have hnext2 := fun S hS => hR (p + 1) S _ (by omega) (Keep.all ⟨hlp, hS, rfl⟩)
        have hput := txt_put (l := wN n (ms ++ [l.take p])) (z := z) (cap := cap) (k := p) (b := if b = 48 then 48 else wat ms p) (by omega) (by rw [List.length_append, cel_len, hwl]; omega)
        rw [hst] at hput
        have hcell := txt_cell (z := z) (cap := cap) hc0
        clear hR hnext hmn0 hst
        generalize wN n (ms ++ [l.take p]) = w at *
        generalize wN n (ms ++ [l.take (p + 1)]) = w' at *
        generalize wat ms p = c at *
        generalize (if b = 48 then 48 else c) = c' at *
        repeat' ((conv => whnf); (first | refine Branch.dt (by omega) ?_ | refine SDraw.held (by kernel_rfl) [(r, .row 5 (cel w ++ z) (cap, cap + 1))] (.same (.head _) .nil) ?_ | refine Idx.of p rfl (by omega) ?_ | refine Look.cell (.head _) hcell ?_ | with_reducible rw [hat] | with_reducible refine hmn _ _ _ _ _ rfl ?_ | refine Kept.sub (List.Sublist.cons_cons _ (List.nil_sublist _)) ?_ | refine ⟨[], _, _, rfl, _, hput, appK_to ?_⟩ | exact hnext2 _ .mk | refine New.mk (fun _ => ?_) | refine Look.at0 ?_ | refine Cell.row ?_ | refine Cell.buf ?_ | refine Cells.row rfl ?_ | refine Put.row rfl ?_ | refine Put.buf rfl ?_ | refine Look.at1 ?_ | refine Look.at2 ?_ | refine Look.at3 ?_ | refine Look.at4 ?_ | refine Look.at5 ?_ | refine Look.at6 ?_ | refine Look.at7 ?_ | refine Look.at8 ?_ | with_reducible refine Val.i64 (by omega) (by omega) ?_ | with_reducible refine Val.u8 (by omega) (by omega) ?_ | with_reducible refine Val.u32 (by omega) (by omega) ?_ | with_reducible refine Val.u64 (by omega) (by omega) ?_ | with_reducible refine Val.u8m ?_ | with_reducible refine Val.u32m ?_ | with_reducible refine Val.u64m ?_ | with_reducible refine Val.shr8 ?_ | with_reducible refine Val.shr16 (by decide) ?_ | with_reducible refine Val.shr24 (by decide) ?_ | with_reducible refine Val.raw ?_ | refine Branch.not ?_ | refine Branch.and ?_ | refine Branch.or ?_ | refine Branch.dt (by assumption) ?_ | refine Branch.df (by assumption) ?_ | refine Branch.dt rfl ?_ | refine Branch.dt (by omega) ?_ | refine Branch.df (by omega) ?_ | refine Branch.t rfl ?_ | refine Branch.f rfl ?_ | refine Branch.t (by assumption) ?_ | refine Branch.f (by assumption) ?_ | refine Branch.d (fun _ => ?_) (fun _ => ?_) | refine Branch.mk (fun _ => ?_) (fun _ => ?_) | refine Need.mk (by first | omega | decide | rfl) ?_ | refine Idx.nat (by omega) ?_ | refine Idx.auto (by first | omega | decide) (by first | omega | decide) ?_ | refine Cell.ro rfl ?_ | refine SDraw.all (by kernel_rfl) ?_ | refine Kept.k0 ?_ | refine Kept.k1 ?_ | refine Kept.k2 ?_ | refine Kept.k3 ?_ | refine Kept.k4 ?_))
      · obtain rfl : p = l.length := by omega
        rw [List.take_length]
        clear hR
        repeat' ((conv => whnf); (first | refine Branch.df (by omega) ?_ | exact hnext _ .mk | refine New.mk (fun _ => ?_) | refine Look.at0 ?_ | refine Cell.row ?_ | refine Cell.buf ?_ | refine Cells.row rfl ?_ | refine Put.row rfl ?_ | refine Put.buf rfl ?_ | refine Look.at1 ?_ | refine Look.at2 ?_ | refine Look.at3 ?_ | refine Look.at4 ?_ | refine Look.at5 ?_ | refine Look.at6 ?_ | refine Look.at7 ?_ | refine Look.at8 ?_ | with_reducible refine Val.i64 (by omega) (by omega) ?_ | with_reducible refine Val.u8 (by omega) (by omega) ?_ | with_reducible refine Val.u32 (by omega) (by omega) ?_ | with_reducible refine Val.u64 (by omega) (by omega) ?_ | with_reducible refine Val.u8m ?_ | with_reducible refine Val.u32m ?_ | with_reducible refine Val.u64m ?_ | with_reducible refine Val.shr8 ?_ | with_reducible refine Val.shr16 (by decide) ?_ | with_reducible refine Val.shr24 (by decide) ?_ | with_reducible refine Val.raw ?_ | refine Branch.not ?_ | refine Branch.and ?_ | refine Branch.or ?_ | refine Branch.dt (by assumption) ?_ | refine Branch.df (by assumption) ?_ | refine Branch.dt rfl ?_ | refine Branch.dt (by omega) ?_ | refine Branch.df (by omega) ?_ | refine Branch.t rfl ?_ | refine Branch.f rfl ?_ | refine Branch.t (by assumption) ?_ | refine Branch.f (by assumption) ?_ | refine Branch.d (fun _ => ?_) (fun _ => ?_) | refine Branch.mk (fun _ => ?_) (fun _ => ?_) | refine Need.mk (by first | omega | decide | rfl) ?_ | refine Idx.nat (by omega) ?_ | refine Idx.auto (by first | omega | decide) (by first | omega | decide) ?_ | refine Cell.ro rfl ?_ | refine SDraw.all (by kernel_rfl) ?_ | refine Kept.k0 ?_ | refine Kept.k1 ?_ | refine Kept.k2 ?_ | refine Kept.k3 ?_ | refine Kept.k4 ?_))
    · obtain rfl : i = ls.length := by omega
      rw [List.take_length]
      have hwl := wN_len n ls
      clear hR
      repeat' ((conv => whnf); (first | refine Branch.df (by omega) ?_ | refine txt_str rfl hwl ?_ | exact Keep.d1 hK | refine New.mk (fun _ => ?_) | refine Look.at0 ?_ | refine Cell.row ?_ | refine Cell.buf ?_ | refine Cells.row rfl ?_ | refine Put.row rfl ?_ | refine Put.buf rfl ?_ | refine Look.at1 ?_ | refine Look.at2 ?_ | refine Look.at3 ?_ | refine Look.at4 ?_ | refine Look.at5 ?_ | refine Look.at6 ?_ | refine Look.at7 ?_ | refine Look.at8 ?_ | with_reducible refine Val.i64 (by omega) (by omega) ?_ | with_reducible refine Val.u8 (by omega) (by omega) ?_ | with_reducible refine Val.u32 (by omega) (by omega) ?_ | with_reducible refine Val.u64 (by omega) (by omega) ?_ | with_reducible refine Val.u8m ?_ | with_reducible refine Val.u32m ?_ | with_reducible refine Val.u64m ?_ | with_reducible refine Val.shr8 ?_ | with_reducible refine Val.shr16 (by decide) ?_ | with_reducible refine Val.shr24 (by decide) ?_ | with_reducible refine Val.raw ?_ | refine Branch.not ?_ | refine Branch.and ?_ | refine Branch.or ?_ | refine Branch.dt (by assumption) ?_ | refine Branch.df (by assumption) ?_ | refine Branch.dt rfl ?_ | refine Branch.dt (by omega) ?_ | refine Branch.df (by omega) ?_ | refine Branch.t rfl ?_ | refine Branch.f rfl ?_ | refine Branch.t (by assumption) ?_ | refine Branch.f (by assumption) ?_ | refine Branch.d (fun _ => ?_) (fun _ => ?_) | refine Branch.mk (fun _ => ?_) (fun _ => ?_) | refine Need.mk (by first | omega | decide | rfl) ?_ | refine Idx.nat (by omega) ?_ | refine Idx.auto (by first | omega | decide) (by first | omega | decide) ?_ | refine Cell.ro rfl ?_ | refine SDraw.all (by kernel_rfl) ?_ | refine Kept.k0 ?_ | refine Kept.k1 ?_ | refine Kept.k2 ?_ | refine Kept.k3 ?_ | refine Kept.k4 ?_))
end
end Go.Proofs.YtijnjklofdmelaaDoor


