/- Layer 1: whether a text is bits: by walks. -/
import Derived.Test.YtijnjklofdmelaaDoorBX
import Derived.Test.YtijnjklofdmelaaDoorBSx1

set_option linter.unusedVariables false
set_option linter.unusedSimpArgs false
set_option maxRecDepth 100000
set_option maxHeartbeats 4000000
namespace Go.Proofs.YtijnjklofdmelaaDoor
open Sx
abbrev ptr (r : Nat) : Value := .pointer (some ⟨r, 0, none⟩)
/-- A byte that is a bit. -/
def isB (b : UInt8) : Bool := Nat.beq b.toNat 48 || Nat.beq b.toNat 49
/-- The set of them. -/
def asc : List Value := (List.range 256).map fun n => .bool (Nat.beq n 48 || Nat.beq n 49)
theorem asc_at (b : UInt8) : asc[b.toNat]? = some (.bool (isB b)) := by
  have := b.toNat_lt
  rw [asc, List.getElem?_map, List.getElem?_range (by omega)]; rfl
theorem asc_ok : allOne asc = true := by kernel_rfl
section
variable {K : Value → Heap → Prop} {H : Heap}
theorem c74 {r : Nat} {b : UInt8} {t : TypeId} {fz : Nat × Nat} (hm : (r, Blk.row t asc fz) ∈ H) (hK : K (.bool (isB b)) H) : SCalls Tryd.prog 74 [ptr r, .int .u8 (b.toNat : Int)] H K := by
  have hb : b.toNat < 256 := by have := b.toNat_lt; omega
  have hc : (Blk.row t asc fz).cell (0 + b.toNat * 1) = some (.bool (isB b)) := by
    show asc[0 + b.toNat * 1]? = _
    rw [Nat.zero_add, Nat.mul_one]; exact asc_at b
  refine enter74 ?_
  repeat' ((conv => whnf); (first
      | refine Look.cell hm hc ?_
      | with_reducible exact Keep.all hK
      | refine New.mk (fun _ => ?_)
      | refine Look.at0 ?_
      | refine Cell.row ?_
      | refine Cell.buf ?_
      | refine Cells.row rfl ?_
      | refine Put.row rfl ?_
      | refine Put.buf rfl ?_
      | refine Look.at1 ?_
      | refine Look.at2 ?_
      | refine Look.at3 ?_
      | refine Look.at4 ?_
      | refine Look.at5 ?_
      | refine Look.at6 ?_
      | refine Look.at7 ?_
      | refine Look.at8 ?_
      | with_reducible refine Val.i64 (by omega) (by omega) ?_
      | with_reducible refine Val.u8 (by omega) (by omega) ?_
      | with_reducible refine Val.u32 (by omega) (by omega) ?_
      | with_reducible refine Val.u64 (by omega) (by omega) ?_
      | with_reducible refine Val.u8m ?_
      | with_reducible refine Val.u32m ?_
      | with_reducible refine Val.u64m ?_
      | with_reducible refine Val.shr8 ?_
      | with_reducible refine Val.shr16 (by decide) ?_
      | with_reducible refine Val.shr24 (by decide) ?_
      | with_reducible refine Val.raw ?_
      | refine Branch.not ?_
      | refine Branch.and ?_
      | refine Branch.or ?_
      | refine Branch.dt (by assumption) ?_
      | refine Branch.df (by assumption) ?_
      | refine Branch.dt rfl ?_
      | refine Branch.dt (by omega) ?_
      | refine Branch.df (by omega) ?_
      | refine Branch.t rfl ?_
      | refine Branch.f rfl ?_
      | refine Branch.t (by assumption) ?_
      | refine Branch.f (by assumption) ?_
      | refine Branch.d (fun _ => ?_) (fun _ => ?_)
      | refine Branch.mk (fun _ => ?_) (fun _ => ?_)
      | refine Need.mk (by first | omega | decide | rfl) ?_
      | refine Idx.nat (by omega) ?_
      | refine Idx.auto (by first | omega | decide) (by first | omega | decide) ?_
      | refine Cell.ro rfl ?_
      | refine SDraw.all (by kernel_rfl) ?_
      | refine Kept.k0 ?_
      | refine Kept.k1 ?_
      | refine Kept.k2 ?_
      | refine Kept.k3 ?_
      | refine Kept.k4 ?_))
theorem c53 (hK : K (.tuple ⟨[.agg ⟨asc⟩, .bool true]⟩) H) : SCalls Tryd.prog 53 [.string ⟨#[48, 49]⟩] H K := by
  have e : ∀ (r : Nat) (b : Blk) cs, cs = asc → Keep ((r, b) :: H) fun H' => K (.tuple ⟨[.agg ⟨cs⟩, .bool true]⟩) H' := by rintro r b _ rfl; exact Keep.d1 hK
  refine enter53 ?_
  repeat' ((conv => whnf); (first
      | refine SLoop.round ?_
      | with_reducible refine e _ _ _ ?_
      | refine New.mk (fun _ => ?_)
      | refine Look.at0 ?_
      | refine Cell.row ?_
      | refine Cell.buf ?_
      | refine Cells.row rfl ?_
      | refine Put.row rfl ?_
      | refine Put.buf rfl ?_
      | refine Look.at1 ?_
      | refine Look.at2 ?_
      | refine Look.at3 ?_
      | refine Look.at4 ?_
      | refine Look.at5 ?_
      | refine Look.at6 ?_
      | refine Look.at7 ?_
      | refine Look.at8 ?_
      | with_reducible refine Val.i64 (by omega) (by omega) ?_
      | with_reducible refine Val.u8 (by omega) (by omega) ?_
      | with_reducible refine Val.u32 (by omega) (by omega) ?_
      | with_reducible refine Val.u64 (by omega) (by omega) ?_
      | with_reducible refine Val.u8m ?_
      | with_reducible refine Val.u32m ?_
      | with_reducible refine Val.u64m ?_
      | with_reducible refine Val.shr8 ?_
      | with_reducible refine Val.shr16 (by decide) ?_
      | with_reducible refine Val.shr24 (by decide) ?_
      | with_reducible refine Val.raw ?_
      | refine Branch.not ?_
      | refine Branch.and ?_
      | refine Branch.or ?_
      | refine Branch.dt (by assumption) ?_
      | refine Branch.df (by assumption) ?_
      | refine Branch.dt rfl ?_
      | refine Branch.dt (by omega) ?_
      | refine Branch.df (by omega) ?_
      | refine Branch.t rfl ?_
      | refine Branch.f rfl ?_
      | refine Branch.t (by assumption) ?_
      | refine Branch.f (by assumption) ?_
      | refine Branch.d (fun _ => ?_) (fun _ => ?_)
      | refine Branch.mk (fun _ => ?_) (fun _ => ?_)
      | refine Need.mk (by first | omega | decide | rfl) ?_
      | refine Idx.nat (by omega) ?_
      | refine Idx.auto (by first | omega | decide) (by first | omega | decide) ?_
      | refine Cell.ro rfl ?_
      | refine SDraw.all (by kernel_rfl) ?_
      | refine Kept.k0 ?_
      | refine Kept.k1 ?_
      | refine Kept.k2 ?_
      | refine Kept.k3 ?_
      | refine Kept.k4 ?_))
  all_goals kernel_rfl
/-- What is left, right and left. -/
inductive S55 (A0 A1 : Value) : List Value → Prop
  | mk {r2 r3 r4 r5 r6 r7 r8 r9 r10 r11 r12 r13 r14 r15 r16 r17 r18 r19 r20 r21 : Value} : S55 A0 A1 [A0, A1, r2, r3, r4, r5, r6, r7, r8, r9, r10, r11, r12, r13, r14, r15, r16, r17, r18, r19, r20, r21]
def rT (l : List UInt8) (m : List UInt8) : Prop := ∃ t, l = m ++ t ∧ ∀ b ∈ t, isB b = true
def lT (l : List UInt8) (m : List UInt8) : Prop := ∃ t, l = t ++ m ∧ ∀ b ∈ t, isB b = true
theorem c55 {r : Nat} {l : List UInt8} {t : TypeId} {fz : Nat × Nat} (hm : (r, Blk.row t asc fz) ∈ H) (hl : l.length ≤ 65536) (hK : ∀ m, rT l m → (m = [] ∨ ∃ a b, m = a ++ [b] ∧ isB b = false) → K (.string (strOf m)) H) : SCalls Tryd.prog 55 [.string (strOf l), ptr r] H K := by
  refine enter55 ?_
  repeat' ((conv => whnf); (first
      | refine New.mk (fun _ => ?_)
      | refine Look.at0 ?_
      | refine Cell.row ?_
      | refine Cell.buf ?_
      | refine Cells.row rfl ?_
      | refine Put.row rfl ?_
      | refine Put.buf rfl ?_
      | refine Look.at1 ?_
      | refine Look.at2 ?_
      | refine Look.at3 ?_
      | refine Look.at4 ?_
      | refine Look.at5 ?_
      | refine Look.at6 ?_
      | refine Look.at7 ?_
      | refine Look.at8 ?_
      | with_reducible refine Val.i64 (by omega) (by omega) ?_
      | with_reducible refine Val.u8 (by omega) (by omega) ?_
      | with_reducible refine Val.u32 (by omega) (by omega) ?_
      | with_reducible refine Val.u64 (by omega) (by omega) ?_
      | with_reducible refine Val.u8m ?_
      | with_reducible refine Val.u32m ?_
      | with_reducible refine Val.u64m ?_
      | with_reducible refine Val.shr8 ?_
      | with_reducible refine Val.shr16 (by decide) ?_
      | with_reducible refine Val.shr24 (by decide) ?_
      | with_reducible refine Val.raw ?_
      | refine Branch.not ?_
      | refine Branch.and ?_
      | refine Branch.or ?_
      | refine Branch.dt (by assumption) ?_
      | refine Branch.df (by assumption) ?_
      | refine Branch.dt rfl ?_
      | refine Branch.dt (by omega) ?_
      | refine Branch.df (by omega) ?_
      | refine Branch.t rfl ?_
      | refine Branch.f rfl ?_
      | refine Branch.t (by assumption) ?_
      | refine Branch.f (by assumption) ?_
      | refine Branch.d (fun _ => ?_) (fun _ => ?_)
      | refine Branch.mk (fun _ => ?_) (fun _ => ?_)
      | refine Need.mk (by first | omega | decide | rfl) ?_
      | refine Idx.nat (by omega) ?_
      | refine Idx.auto (by first | omega | decide) (by first | omega | decide) ?_
      | refine Cell.ro rfl ?_
      | refine SDraw.all (by kernel_rfl) ?_
      | refine Kept.k0 ?_
      | refine Kept.k1 ?_
      | refine Kept.k2 ?_
      | refine Kept.k3 ?_
      | refine Kept.k4 ?_))
  refine SLoop.invA (fun (m : List UInt8) S H' => rT l m ∧ S55 (.string (strOf m)) (ptr r) S ∧ H' = H) (fun m => m.length) l (Keep.all ⟨⟨[], by simp, fun b hb => by cases hb⟩, .mk, rfl⟩) ?_
  rintro m S H' ⟨hT, hS, rfl⟩ R hR
  cases hS
  have hml : m.length ≤ 65536 := by
    obtain ⟨t, h1, _⟩ := hT
    have := congrArg List.length h1
    rw [List.length_append] at this; omega
  by_cases h0 : m = []
  · have hk := hK m hT (.inl h0)
    subst h0
    clear hR hK
    repeat' ((conv => whnf); (first
        | refine Branch.f rfl ?_
        | with_reducible exact Keep.all hk
        | refine New.mk (fun _ => ?_)
        | refine Look.at0 ?_
        | refine Cell.row ?_
        | refine Cell.buf ?_
        | refine Cells.row rfl ?_
        | refine Put.row rfl ?_
        | refine Put.buf rfl ?_
        | refine Look.at1 ?_
        | refine Look.at2 ?_
        | refine Look.at3 ?_
        | refine Look.at4 ?_
        | refine Look.at5 ?_
        | refine Look.at6 ?_
        | refine Look.at7 ?_
        | refine Look.at8 ?_
        | with_reducible refine Val.i64 (by omega) (by omega) ?_
        | with_reducible refine Val.u8 (by omega) (by omega) ?_
        | with_reducible refine Val.u32 (by omega) (by omega) ?_
        | with_reducible refine Val.u64 (by omega) (by omega) ?_
        | with_reducible refine Val.u8m ?_
        | with_reducible refine Val.u32m ?_
        | with_reducible refine Val.u64m ?_
        | with_reducible refine Val.shr8 ?_
        | with_reducible refine Val.shr16 (by decide) ?_
        | with_reducible refine Val.shr24 (by decide) ?_
        | with_reducible refine Val.raw ?_
        | refine Branch.not ?_
        | refine Branch.and ?_
        | refine Branch.or ?_
        | refine Branch.dt (by assumption) ?_
        | refine Branch.df (by assumption) ?_
        | refine Branch.dt rfl ?_
        | refine Branch.dt (by omega) ?_
        | refine Branch.df (by omega) ?_
        | refine Branch.t rfl ?_
        | refine Branch.f rfl ?_
        | refine Branch.t (by assumption) ?_
        | refine Branch.f (by assumption) ?_
        | refine Branch.d (fun _ => ?_) (fun _ => ?_)
        | refine Branch.mk (fun _ => ?_) (fun _ => ?_)
        | refine Need.mk (by first | omega | decide | rfl) ?_
        | refine Idx.nat (by omega) ?_
        | refine Idx.auto (by first | omega | decide) (by first | omega | decide) ?_
        | refine Cell.ro rfl ?_
        | refine SDraw.all (by kernel_rfl) ?_
        | refine Kept.k0 ?_
        | refine Kept.k1 ?_
        | refine Kept.k2 ?_
        | refine Kept.k3 ?_
        | refine Kept.k4 ?_))
  · obtain ⟨a, b, rfl⟩ : ∃ a b, m = a ++ [b] := ⟨m.dropLast, m.getLast h0, (List.dropLast_concat_getLast h0).symm⟩
    rw [List.length_append, List.length_singleton] at hml
    have hsz : ((strOf (a ++ [b])).size : Int) = (a.length : Int) + 1 := by rw [strOf_size]; simp
    have hat : byteAt (strOf (a ++ [b])) a.length = (b.toNat : Int) := byteAt_of (by simp)
    have hcut : (strOf (a ++ [b])).extract 0 a.length = strOf a := by rw [strOf_cut]; simp
    have h74 := fun (K : Value → Heap → Prop) (hk : K (.bool (isB b)) H') => c74 (b := b) hm hk
    have hsz2 : (strOf (a ++ [b])).size = a.length + 1 := by rw [strOf_size]; simp
    cases hb : isB b with
    | false =>
      have hk := hK _ hT (.inr ⟨a, b, rfl, hb⟩)
      rw [hb] at h74
      clear hR hK
      repeat' ((conv => whnf); (first
          | refine Branch.dt (by omega) ?_
          | with_reducible refine Val.to (a.length : Int) (by rw [wrap_i64 (by omega) (by omega)]; omega) ?_
          | refine Idx.of a.length rfl (by omega) ?_
          | with_reducible rw [hat]
          | with_reducible refine h74 _ ?_
          | with_reducible exact Keep.all hk
          | refine New.mk (fun _ => ?_)
          | refine Look.at0 ?_
          | refine Cell.row ?_
          | refine Cell.buf ?_
          | refine Cells.row rfl ?_
          | refine Put.row rfl ?_
          | refine Put.buf rfl ?_
          | refine Look.at1 ?_
          | refine Look.at2 ?_
          | refine Look.at3 ?_
          | refine Look.at4 ?_
          | refine Look.at5 ?_
          | refine Look.at6 ?_
          | refine Look.at7 ?_
          | refine Look.at8 ?_
          | with_reducible refine Val.i64 (by omega) (by omega) ?_
          | with_reducible refine Val.u8 (by omega) (by omega) ?_
          | with_reducible refine Val.u32 (by omega) (by omega) ?_
          | with_reducible refine Val.u64 (by omega) (by omega) ?_
          | with_reducible refine Val.u8m ?_
          | with_reducible refine Val.u32m ?_
          | with_reducible refine Val.u64m ?_
          | with_reducible refine Val.shr8 ?_
          | with_reducible refine Val.shr16 (by decide) ?_
          | with_reducible refine Val.shr24 (by decide) ?_
          | with_reducible refine Val.raw ?_
          | refine Branch.not ?_
          | refine Branch.and ?_
          | refine Branch.or ?_
          | refine Branch.dt (by assumption) ?_
          | refine Branch.df (by assumption) ?_
          | refine Branch.dt rfl ?_
          | refine Branch.dt (by omega) ?_
          | refine Branch.df (by omega) ?_
          | refine Branch.t rfl ?_
          | refine Branch.f rfl ?_
          | refine Branch.t (by assumption) ?_
          | refine Branch.f (by assumption) ?_
          | refine Branch.d (fun _ => ?_) (fun _ => ?_)
          | refine Branch.mk (fun _ => ?_) (fun _ => ?_)
          | refine Need.mk (by first | omega | decide | rfl) ?_
          | refine Idx.nat (by omega) ?_
          | refine Idx.auto (by first | omega | decide) (by first | omega | decide) ?_
          | refine Cell.ro rfl ?_
          | refine SDraw.all (by kernel_rfl) ?_
          | refine Kept.k0 ?_
          | refine Kept.k1 ?_
          | refine Kept.k2 ?_
          | refine Kept.k3 ?_
          | refine Kept.k4 ?_))
    | true =>
      have hk := fun S (hS : S55 (.string (strOf a)) (ptr r) S) => hR a S H' (by simp) (Keep.all ⟨by
        obtain ⟨t, h1, h2⟩ := hT
        exact ⟨b :: t, by rw [h1]; simp, fun x hx => by rcases List.mem_cons.1 hx with rfl | hx; exact hb; exact h2 x hx⟩, hS, rfl⟩)
      rw [hb] at h74
      clear hR hK
      repeat' ((conv => whnf); (first
          | refine Branch.dt (by omega) ?_
          | with_reducible refine Val.to (a.length : Int) (by rw [wrap_i64 (by omega) (by omega)]; omega) ?_
          | refine Idx.of a.length rfl (by omega) ?_
          | with_reducible rw [hat]
          | with_reducible refine h74 _ ?_
          | with_reducible rw [hcut]
          | with_reducible refine hk _ .mk
          | refine New.mk (fun _ => ?_)
          | refine Look.at0 ?_
          | refine Cell.row ?_
          | refine Cell.buf ?_
          | refine Cells.row rfl ?_
          | refine Put.row rfl ?_
          | refine Put.buf rfl ?_
          | refine Look.at1 ?_
          | refine Look.at2 ?_
          | refine Look.at3 ?_
          | refine Look.at4 ?_
          | refine Look.at5 ?_
          | refine Look.at6 ?_
          | refine Look.at7 ?_
          | refine Look.at8 ?_
          | with_reducible refine Val.i64 (by omega) (by omega) ?_
          | with_reducible refine Val.u8 (by omega) (by omega) ?_
          | with_reducible refine Val.u32 (by omega) (by omega) ?_
          | with_reducible refine Val.u64 (by omega) (by omega) ?_
          | with_reducible refine Val.u8m ?_
          | with_reducible refine Val.u32m ?_
          | with_reducible refine Val.u64m ?_
          | with_reducible refine Val.shr8 ?_
          | with_reducible refine Val.shr16 (by decide) ?_
          | with_reducible refine Val.shr24 (by decide) ?_
          | with_reducible refine Val.raw ?_
          | refine Branch.not ?_
          | refine Branch.and ?_
          | refine Branch.or ?_
          | refine Branch.dt (by assumption) ?_
          | refine Branch.df (by assumption) ?_
          | refine Branch.dt rfl ?_
          | refine Branch.dt (by omega) ?_
          | refine Branch.df (by omega) ?_
          | refine Branch.t rfl ?_
          | refine Branch.f rfl ?_
          | refine Branch.t (by assumption) ?_
          | refine Branch.f (by assumption) ?_
          | refine Branch.d (fun _ => ?_) (fun _ => ?_)
          | refine Branch.mk (fun _ => ?_) (fun _ => ?_)
          | refine Need.mk (by first | omega | decide | rfl) ?_
          | refine Idx.nat (by omega) ?_
          | refine Idx.auto (by first | omega | decide) (by first | omega | decide) ?_
          | refine Cell.ro rfl ?_
          | refine SDraw.all (by kernel_rfl) ?_
          | refine Kept.k0 ?_
          | refine Kept.k1 ?_
          | refine Kept.k2 ?_
          | refine Kept.k3 ?_
          | refine Kept.k4 ?_))
end
end Go.Proofs.YtijnjklofdmelaaDoor

/- Layer 1: whether a text is bits: Trim and check: by walks. -/
set_option linter.unusedVariables false
set_option linter.unusedSimpArgs false
set_option maxRecDepth 100000
set_option maxHeartbeats 4000000
namespace Go.Proofs.YtijnjklofdmelaaDoor
open Sx
inductive S54 (A0 A1 : Value) : List Value → Prop
  | mk {r2 r3 r4 r5 r6 r7 r8 r9 r10 r11 r12 r13 r14 r15 : Value} : S54 A0 A1 [A0, A1, r2, r3, r4, r5, r6, r7, r8, r9, r10, r11, r12, r13, r14, r15]
inductive S29 (A0 A3 : Value) : List Value → Prop
  | mk {r1 r2 r4 r5 r6 r7 r8 r9 r10 r11 r12 r13 r14 r15 r16 r17 r18 r19 r20 r21 r22 : Value} : S29 A0 A3 [A0, r1, r2, A3, r4, r5, r6, r7, r8, r9, r10, r11, r12, r13, r14, r15, r16, r17, r18, r19, r20, r21, r22]
/-- What is wrong with a text. -/
def chk (l : List UInt8) : Int := if 65536 < l.length then 2 else if l.all isB then 0 else 8
section
variable {K : Value → Heap → Prop} {H : Heap}
theorem c54 {r : Nat} {l : List UInt8} {t : TypeId} {fz : Nat × Nat} (hm : (r, Blk.row t asc fz) ∈ H) (hl : l.length ≤ 65536) (hK : ∀ m, lT l m → (m = [] ∨ ∃ a b, m = b :: a ∧ isB b = false) → K (.string (strOf m)) H) : SCalls Tryd.prog 54 [.string (strOf l), ptr r] H K := by
  refine enter54 ?_
  repeat' ((conv => whnf); (first
      | refine New.mk (fun _ => ?_)
      | refine Look.at0 ?_
      | refine Cell.row ?_
      | refine Cell.buf ?_
      | refine Cells.row rfl ?_
      | refine Put.row rfl ?_
      | refine Put.buf rfl ?_
      | refine Look.at1 ?_
      | refine Look.at2 ?_
      | refine Look.at3 ?_
      | refine Look.at4 ?_
      | refine Look.at5 ?_
      | refine Look.at6 ?_
      | refine Look.at7 ?_
      | refine Look.at8 ?_
      | with_reducible refine Val.i64 (by omega) (by omega) ?_
      | with_reducible refine Val.u8 (by omega) (by omega) ?_
      | with_reducible refine Val.u32 (by omega) (by omega) ?_
      | with_reducible refine Val.u64 (by omega) (by omega) ?_
      | with_reducible refine Val.u8m ?_
      | with_reducible refine Val.u32m ?_
      | with_reducible refine Val.u64m ?_
      | with_reducible refine Val.shr8 ?_
      | with_reducible refine Val.shr16 (by decide) ?_
      | with_reducible refine Val.shr24 (by decide) ?_
      | with_reducible refine Val.raw ?_
      | refine Branch.not ?_
      | refine Branch.and ?_
      | refine Branch.or ?_
      | refine Branch.dt (by assumption) ?_
      | refine Branch.df (by assumption) ?_
      | refine Branch.dt rfl ?_
      | refine Branch.dt (by omega) ?_
      | refine Branch.df (by omega) ?_
      | refine Branch.t rfl ?_
      | refine Branch.f rfl ?_
      | refine Branch.t (by assumption) ?_
      | refine Branch.f (by assumption) ?_
      | refine Branch.d (fun _ => ?_) (fun _ => ?_)
      | refine Branch.mk (fun _ => ?_) (fun _ => ?_)
      | refine Need.mk (by first | omega | decide | rfl) ?_
      | refine Idx.nat (by omega) ?_
      | refine Idx.auto (by first | omega | decide) (by first | omega | decide) ?_
      | refine Cell.ro rfl ?_
      | refine SDraw.all (by kernel_rfl) ?_
      | refine Kept.k0 ?_
      | refine Kept.k1 ?_
      | refine Kept.k2 ?_
      | refine Kept.k3 ?_
      | refine Kept.k4 ?_))
  refine SLoop.invA (fun (m : List UInt8) S H' => lT l m ∧ S54 (.string (strOf m)) (ptr r) S ∧ H' = H) (fun m => m.length) l (Keep.all ⟨⟨[], by simp, fun b hb => by cases hb⟩, .mk, rfl⟩) ?_
  rintro m S H' ⟨hT, hS, rfl⟩ R hR
  cases hS
  cases m with
  | nil =>
    have hk := hK [] hT (.inl rfl)
    clear hR hK
    repeat' ((conv => whnf); (first
        | refine Branch.f rfl ?_
        | with_reducible exact Keep.all hk
        | refine New.mk (fun _ => ?_)
        | refine Look.at0 ?_
        | refine Cell.row ?_
        | refine Cell.buf ?_
        | refine Cells.row rfl ?_
        | refine Put.row rfl ?_
        | refine Put.buf rfl ?_
        | refine Look.at1 ?_
        | refine Look.at2 ?_
        | refine Look.at3 ?_
        | refine Look.at4 ?_
        | refine Look.at5 ?_
        | refine Look.at6 ?_
        | refine Look.at7 ?_
        | refine Look.at8 ?_
        | with_reducible refine Val.i64 (by omega) (by omega) ?_
        | with_reducible refine Val.u8 (by omega) (by omega) ?_
        | with_reducible refine Val.u32 (by omega) (by omega) ?_
        | with_reducible refine Val.u64 (by omega) (by omega) ?_
        | with_reducible refine Val.u8m ?_
        | with_reducible refine Val.u32m ?_
        | with_reducible refine Val.u64m ?_
        | with_reducible refine Val.shr8 ?_
        | with_reducible refine Val.shr16 (by decide) ?_
        | with_reducible refine Val.shr24 (by decide) ?_
        | with_reducible refine Val.raw ?_
        | refine Branch.not ?_
        | refine Branch.and ?_
        | refine Branch.or ?_
        | refine Branch.dt (by assumption) ?_
        | refine Branch.df (by assumption) ?_
        | refine Branch.dt rfl ?_
        | refine Branch.dt (by omega) ?_
        | refine Branch.df (by omega) ?_
        | refine Branch.t rfl ?_
        | refine Branch.f rfl ?_
        | refine Branch.t (by assumption) ?_
        | refine Branch.f (by assumption) ?_
        | refine Branch.d (fun _ => ?_) (fun _ => ?_)
        | refine Branch.mk (fun _ => ?_) (fun _ => ?_)
        | refine Need.mk (by first | omega | decide | rfl) ?_
        | refine Idx.nat (by omega) ?_
        | refine Idx.auto (by first | omega | decide) (by first | omega | decide) ?_
        | refine Cell.ro rfl ?_
        | refine SDraw.all (by kernel_rfl) ?_
        | refine Kept.k0 ?_
        | refine Kept.k1 ?_
        | refine Kept.k2 ?_
        | refine Kept.k3 ?_
        | refine Kept.k4 ?_))
  | cons b a =>
    have hsz2 : (strOf (b :: a)).size = a.length + 1 := by rw [strOf_size]; rfl
    have hat : byteAt (strOf (b :: a)) 0 = (b.toNat : Int) := byteAt_of rfl
    have hcut : (strOf (b :: a)).extract 1 (strOf (b :: a)).size = strOf a := by rw [strOf_cut, hsz2]; simp
    have h74 := fun (K : Value → Heap → Prop) (hk : K (.bool (isB b)) H') => c74 (b := b) hm hk
    cases hb : isB b with
    | false =>
      have hk := hK _ hT (.inr ⟨a, b, rfl, hb⟩)
      rw [hb] at h74
      clear hR hK
      repeat' ((conv => whnf); (first
          | refine Branch.dt (by omega) ?_
          | refine Idx.of 0 rfl (by omega) ?_
          | with_reducible rw [hat]
          | with_reducible refine h74 _ ?_
          | with_reducible exact Keep.all hk
          | refine New.mk (fun _ => ?_)
          | refine Look.at0 ?_
          | refine Cell.row ?_
          | refine Cell.buf ?_
          | refine Cells.row rfl ?_
          | refine Put.row rfl ?_
          | refine Put.buf rfl ?_
          | refine Look.at1 ?_
          | refine Look.at2 ?_
          | refine Look.at3 ?_
          | refine Look.at4 ?_
          | refine Look.at5 ?_
          | refine Look.at6 ?_
          | refine Look.at7 ?_
          | refine Look.at8 ?_
          | with_reducible refine Val.i64 (by omega) (by omega) ?_
          | with_reducible refine Val.u8 (by omega) (by omega) ?_
          | with_reducible refine Val.u32 (by omega) (by omega) ?_
          | with_reducible refine Val.u64 (by omega) (by omega) ?_
          | with_reducible refine Val.u8m ?_
          | with_reducible refine Val.u32m ?_
          | with_reducible refine Val.u64m ?_
          | with_reducible refine Val.shr8 ?_
          | with_reducible refine Val.shr16 (by decide) ?_
          | with_reducible refine Val.shr24 (by decide) ?_
          | with_reducible refine Val.raw ?_
          | refine Branch.not ?_
          | refine Branch.and ?_
          | refine Branch.or ?_
          | refine Branch.dt (by assumption) ?_
          | refine Branch.df (by assumption) ?_
          | refine Branch.dt rfl ?_
          | refine Branch.dt (by omega) ?_
          | refine Branch.df (by omega) ?_
          | refine Branch.t rfl ?_
          | refine Branch.f rfl ?_
          | refine Branch.t (by assumption) ?_
          | refine Branch.f (by assumption) ?_
          | refine Branch.d (fun _ => ?_) (fun _ => ?_)
          | refine Branch.mk (fun _ => ?_) (fun _ => ?_)
          | refine Need.mk (by first | omega | decide | rfl) ?_
          | refine Idx.nat (by omega) ?_
          | refine Idx.auto (by first | omega | decide) (by first | omega | decide) ?_
          | refine Cell.ro rfl ?_
          | refine SDraw.all (by kernel_rfl) ?_
          | refine Kept.k0 ?_
          | refine Kept.k1 ?_
          | refine Kept.k2 ?_
          | refine Kept.k3 ?_
          | refine Kept.k4 ?_))
    | true =>
      have hk := fun S (hS : S54 (.string (strOf a)) (ptr r) S) => hR a S H' (by simp) (Keep.all ⟨by
        obtain ⟨t, h1, h2⟩ := hT
        exact ⟨t ++ [b], by rw [h1]; simp, fun x hx => by
          rcases List.mem_append.1 hx with hx | hx
          · exact h2 x hx
          · rw [List.mem_singleton.1 hx]; exact hb⟩, hS, rfl⟩)
      rw [hb] at h74
      clear hR hK
      repeat' ((conv => whnf); (first
          | refine Branch.dt (by omega) ?_
          | refine Idx.of 0 rfl (by omega) ?_
          | refine Idx.of 1 rfl (by omega) ?_
          | with_reducible rw [hat]
          | with_reducible refine h74 _ ?_
          | with_reducible rw [hcut]
          | with_reducible refine hk _ .mk
          | refine New.mk (fun _ => ?_)
          | refine Look.at0 ?_
          | refine Cell.row ?_
          | refine Cell.buf ?_
          | refine Cells.row rfl ?_
          | refine Put.row rfl ?_
          | refine Put.buf rfl ?_
          | refine Look.at1 ?_
          | refine Look.at2 ?_
          | refine Look.at3 ?_
          | refine Look.at4 ?_
          | refine Look.at5 ?_
          | refine Look.at6 ?_
          | refine Look.at7 ?_
          | refine Look.at8 ?_
          | with_reducible refine Val.i64 (by omega) (by omega) ?_
          | with_reducible refine Val.u8 (by omega) (by omega) ?_
          | with_reducible refine Val.u32 (by omega) (by omega) ?_
          | with_reducible refine Val.u64 (by omega) (by omega) ?_
          | with_reducible refine Val.u8m ?_
          | with_reducible refine Val.u32m ?_
          | with_reducible refine Val.u64m ?_
          | with_reducible refine Val.shr8 ?_
          | with_reducible refine Val.shr16 (by decide) ?_
          | with_reducible refine Val.shr24 (by decide) ?_
          | with_reducible refine Val.raw ?_
          | refine Branch.not ?_
          | refine Branch.and ?_
          | refine Branch.or ?_
          | refine Branch.dt (by assumption) ?_
          | refine Branch.df (by assumption) ?_
          | refine Branch.dt rfl ?_
          | refine Branch.dt (by omega) ?_
          | refine Branch.df (by omega) ?_
          | refine Branch.t rfl ?_
          | refine Branch.f rfl ?_
          | refine Branch.t (by assumption) ?_
          | refine Branch.f (by assumption) ?_
          | refine Branch.d (fun _ => ?_) (fun _ => ?_)
          | refine Branch.mk (fun _ => ?_) (fun _ => ?_)
          | refine Need.mk (by first | omega | decide | rfl) ?_
          | refine Idx.nat (by omega) ?_
          | refine Idx.auto (by first | omega | decide) (by first | omega | decide) ?_
          | refine Cell.ro rfl ?_
          | refine SDraw.all (by kernel_rfl) ?_
          | refine Kept.k0 ?_
          | refine Kept.k1 ?_
          | refine Kept.k2 ?_
          | refine Kept.k3 ?_
          | refine Kept.k4 ?_))
theorem emp : (⟨#[]⟩ : ByteArray) = strOf [] := rfl
/-- Behind Trim nothing is left of bits alone. -/
theorem c40 {l : List UInt8} (hl : l.length ≤ 65536) (hK : ∀ m, (m = [] ↔ l.all isB = true) → K (.string (strOf m)) H) : SCalls Tryd.prog 40 [.string (strOf l), .string ⟨#[48, 49]⟩] H K := by
  refine enter40 ?_
  by_cases h0 : l = []
  · subst h0
    have hk := hK [] (by simp)
    clear hK
    repeat' ((conv => whnf); (first
        | refine Branch.t rfl ?_
        | refine Branch.f rfl ?_
        | with_reducible exact Keep.all hk
        | refine New.mk (fun _ => ?_)
        | refine Look.at0 ?_
        | refine Cell.row ?_
        | refine Cell.buf ?_
        | refine Cells.row rfl ?_
        | refine Put.row rfl ?_
        | refine Put.buf rfl ?_
        | refine Look.at1 ?_
        | refine Look.at2 ?_
        | refine Look.at3 ?_
        | refine Look.at4 ?_
        | refine Look.at5 ?_
        | refine Look.at6 ?_
        | refine Look.at7 ?_
        | refine Look.at8 ?_
        | with_reducible refine Val.i64 (by omega) (by omega) ?_
        | with_reducible refine Val.u8 (by omega) (by omega) ?_
        | with_reducible refine Val.u32 (by omega) (by omega) ?_
        | with_reducible refine Val.u64 (by omega) (by omega) ?_
        | with_reducible refine Val.u8m ?_
        | with_reducible refine Val.u32m ?_
        | with_reducible refine Val.u64m ?_
        | with_reducible refine Val.shr8 ?_
        | with_reducible refine Val.shr16 (by decide) ?_
        | with_reducible refine Val.shr24 (by decide) ?_
        | with_reducible refine Val.raw ?_
        | refine Branch.not ?_
        | refine Branch.and ?_
        | refine Branch.or ?_
        | refine Branch.dt (by assumption) ?_
        | refine Branch.df (by assumption) ?_
        | refine Branch.dt rfl ?_
        | refine Branch.dt (by omega) ?_
        | refine Branch.df (by omega) ?_
        | refine Branch.t rfl ?_
        | refine Branch.f rfl ?_
        | refine Branch.t (by assumption) ?_
        | refine Branch.f (by assumption) ?_
        | refine Branch.d (fun _ => ?_) (fun _ => ?_)
        | refine Branch.mk (fun _ => ?_) (fun _ => ?_)
        | refine Need.mk (by first | omega | decide | rfl) ?_
        | refine Idx.nat (by omega) ?_
        | refine Idx.auto (by first | omega | decide) (by first | omega | decide) ?_
        | refine Cell.ro rfl ?_
        | refine SDraw.all (by kernel_rfl) ?_
        | refine Kept.k0 ?_
        | refine Kept.k1 ?_
        | refine Kept.k2 ?_
        | refine Kept.k3 ?_
        | refine Kept.k4 ?_))
  · have he : strOf l ≠ ⟨#[]⟩ := fun e => h0 (strOf_inj e)
    have h2 : ∀ (r : Nat) (b : Blk) m m', rT l m → (m = [] ∨ ∃ a b, m = a ++ [b] ∧ isB b = false) → lT m m' → (m' = [] ∨ ∃ a b, m' = b :: a ∧ isB b = false) → Keep ((r, b) :: H) fun H' => K (.string (strOf m')) H' := by
      intro r b m m' ⟨t, e1, e2⟩ e3 ⟨t', e4, e5⟩ e6
      refine Keep.d1 (hK m' ?_)
      rw [List.all_eq_true]
      constructor
      · rintro rfl
        rw [List.append_nil] at e4
        subst e4
        intro x hx
        rw [e1] at hx
        rcases List.mem_append.1 hx with hx | hx
        · exact e5 x hx
        · exact e2 x hx
      · intro hall
        rcases e6 with e6 | ⟨a, c, rfl, hc⟩
        · exact e6
        · have := hall c (by rw [e1, e4]; simp)
          rw [hc] at this; cases this
    have h55 := fun (r : Nat) (t : TypeId) (fz : Nat × Nat) (H : Heap) (K : Value → Heap → Prop) hk => c55 (K := K) (H := (r, Blk.row t asc fz) :: H) (.head _) hl hk
    have hlen : ∀ m, rT l m → m.length ≤ 65536 := by
      rintro m ⟨t, e1, _⟩
      have := congrArg List.length e1
      rw [List.length_append] at this; omega
    clear hK
    repeat' ((conv => whnf); (first
        | refine Branch.f (by first | (simp only [he, decide_false]; done)) ?_
        | refine Branch.f rfl ?_
        | refine Branch.t rfl ?_
        | refine c53 ?_
        | refine h55 _ _ _ _ _ (fun m hm1 hm2 => ?_)
        | refine c54 (.head _) (hlen m hm1) (fun m' hm3 hm4 => ?_)
        | with_reducible exact h2 _ _ _ _ hm1 hm2 hm3 hm4
        | refine New.mk (fun _ => ?_)
        | refine Look.at0 ?_
        | refine Cell.row ?_
        | refine Cell.buf ?_
        | refine Cells.row rfl ?_
        | refine Put.row rfl ?_
        | refine Put.buf rfl ?_
        | refine Look.at1 ?_
        | refine Look.at2 ?_
        | refine Look.at3 ?_
        | refine Look.at4 ?_
        | refine Look.at5 ?_
        | refine Look.at6 ?_
        | refine Look.at7 ?_
        | refine Look.at8 ?_
        | with_reducible refine Val.i64 (by omega) (by omega) ?_
        | with_reducible refine Val.u8 (by omega) (by omega) ?_
        | with_reducible refine Val.u32 (by omega) (by omega) ?_
        | with_reducible refine Val.u64 (by omega) (by omega) ?_
        | with_reducible refine Val.u8m ?_
        | with_reducible refine Val.u32m ?_
        | with_reducible refine Val.u64m ?_
        | with_reducible refine Val.shr8 ?_
        | with_reducible refine Val.shr16 (by decide) ?_
        | with_reducible refine Val.shr24 (by decide) ?_
        | with_reducible refine Val.raw ?_
        | refine Branch.not ?_
        | refine Branch.and ?_
        | refine Branch.or ?_
        | refine Branch.dt (by assumption) ?_
        | refine Branch.df (by assumption) ?_
        | refine Branch.dt rfl ?_
        | refine Branch.dt (by omega) ?_
        | refine Branch.df (by omega) ?_
        | refine Branch.t rfl ?_
        | refine Branch.f rfl ?_
        | refine Branch.t (by assumption) ?_
        | refine Branch.f (by assumption) ?_
        | refine Branch.d (fun _ => ?_) (fun _ => ?_)
        | refine Branch.mk (fun _ => ?_) (fun _ => ?_)
        | refine Need.mk (by first | omega | decide | rfl) ?_
        | refine Idx.nat (by omega) ?_
        | refine Idx.auto (by first | omega | decide) (by first | omega | decide) ?_
        | refine Cell.ro rfl ?_
        | refine SDraw.all (by kernel_rfl) ?_
        | refine Kept.k0 ?_
        | refine Kept.k1 ?_
        | refine Kept.k2 ?_
        | refine Kept.k3 ?_
        | refine Kept.k4 ?_))
theorem c32 {l : List UInt8} (hK : K (.int .i64 (chk l)) H) : SCalls Tryd.prog 32 [.string (strOf l)] H K := by
  refine enter32 ?_
  unfold chk at hK
  by_cases h1 : 65536 < l.length
  · rw [if_pos h1] at hK
    have hsz : (65536 : Int) < ((strOf l).size : Int) := by rw [strOf_size]; omega
    repeat' ((conv => whnf); (first
        | refine Branch.dt hsz ?_
        | with_reducible exact Keep.all hK
        | refine New.mk (fun _ => ?_)
        | refine Look.at0 ?_
        | refine Cell.row ?_
        | refine Cell.buf ?_
        | refine Cells.row rfl ?_
        | refine Put.row rfl ?_
        | refine Put.buf rfl ?_
        | refine Look.at1 ?_
        | refine Look.at2 ?_
        | refine Look.at3 ?_
        | refine Look.at4 ?_
        | refine Look.at5 ?_
        | refine Look.at6 ?_
        | refine Look.at7 ?_
        | refine Look.at8 ?_
        | with_reducible refine Val.i64 (by omega) (by omega) ?_
        | with_reducible refine Val.u8 (by omega) (by omega) ?_
        | with_reducible refine Val.u32 (by omega) (by omega) ?_
        | with_reducible refine Val.u64 (by omega) (by omega) ?_
        | with_reducible refine Val.u8m ?_
        | with_reducible refine Val.u32m ?_
        | with_reducible refine Val.u64m ?_
        | with_reducible refine Val.shr8 ?_
        | with_reducible refine Val.shr16 (by decide) ?_
        | with_reducible refine Val.shr24 (by decide) ?_
        | with_reducible refine Val.raw ?_
        | refine Branch.not ?_
        | refine Branch.and ?_
        | refine Branch.or ?_
        | refine Branch.dt (by assumption) ?_
        | refine Branch.df (by assumption) ?_
        | refine Branch.dt rfl ?_
        | refine Branch.dt (by omega) ?_
        | refine Branch.df (by omega) ?_
        | refine Branch.t rfl ?_
        | refine Branch.f rfl ?_
        | refine Branch.t (by assumption) ?_
        | refine Branch.f (by assumption) ?_
        | refine Branch.d (fun _ => ?_) (fun _ => ?_)
        | refine Branch.mk (fun _ => ?_) (fun _ => ?_)
        | refine Need.mk (by first | omega | decide | rfl) ?_
        | refine Idx.nat (by omega) ?_
        | refine Idx.auto (by first | omega | decide) (by first | omega | decide) ?_
        | refine Cell.ro rfl ?_
        | refine SDraw.all (by kernel_rfl) ?_
        | refine Kept.k0 ?_
        | refine Kept.k1 ?_
        | refine Kept.k2 ?_
        | refine Kept.k3 ?_
        | refine Kept.k4 ?_))
  · rw [if_neg h1] at hK
    have hsz : ¬ (65536 : Int) < ((strOf l).size : Int) := by rw [strOf_size]; omega
    have h2 : ∀ m, (m = [] ↔ l.all isB = true) → (strOf m = ⟨#[]⟩ ↔ l.all isB = true) := fun m hm => ⟨fun e => hm.1 (strOf_inj (e.trans emp)), fun e => by rw [hm.2 e]; rfl⟩
    cases hb : l.all isB with
    | true =>
      rw [hb, if_pos rfl] at hK
      rw [hb] at h2
      have h40 := fun (K : Value → Heap → Prop) hk => c40 (l := l) (K := K) (H := H) (by omega) hk
      repeat' ((conv => whnf); (first
          | refine Branch.df hsz ?_
          | with_reducible refine h40 _ (fun m hm => ?_)
          | refine Branch.f (by have := (h2 m (by rw [hm, hb])).2 rfl; simp [this]) ?_
          | with_reducible exact Keep.all hK
          | refine New.mk (fun _ => ?_)
          | refine Look.at0 ?_
          | refine Cell.row ?_
          | refine Cell.buf ?_
          | refine Cells.row rfl ?_
          | refine Put.row rfl ?_
          | refine Put.buf rfl ?_
          | refine Look.at1 ?_
          | refine Look.at2 ?_
          | refine Look.at3 ?_
          | refine Look.at4 ?_
          | refine Look.at5 ?_
          | refine Look.at6 ?_
          | refine Look.at7 ?_
          | refine Look.at8 ?_
          | with_reducible refine Val.i64 (by omega) (by omega) ?_
          | with_reducible refine Val.u8 (by omega) (by omega) ?_
          | with_reducible refine Val.u32 (by omega) (by omega) ?_
          | with_reducible refine Val.u64 (by omega) (by omega) ?_
          | with_reducible refine Val.u8m ?_
          | with_reducible refine Val.u32m ?_
          | with_reducible refine Val.u64m ?_
          | with_reducible refine Val.shr8 ?_
          | with_reducible refine Val.shr16 (by decide) ?_
          | with_reducible refine Val.shr24 (by decide) ?_
          | with_reducible refine Val.raw ?_
          | refine Branch.not ?_
          | refine Branch.and ?_
          | refine Branch.or ?_
          | refine Branch.dt (by assumption) ?_
          | refine Branch.df (by assumption) ?_
          | refine Branch.dt rfl ?_
          | refine Branch.dt (by omega) ?_
          | refine Branch.df (by omega) ?_
          | refine Branch.t rfl ?_
          | refine Branch.f rfl ?_
          | refine Branch.t (by assumption) ?_
          | refine Branch.f (by assumption) ?_
          | refine Branch.d (fun _ => ?_) (fun _ => ?_)
          | refine Branch.mk (fun _ => ?_) (fun _ => ?_)
          | refine Need.mk (by first | omega | decide | rfl) ?_
          | refine Idx.nat (by omega) ?_
          | refine Idx.auto (by first | omega | decide) (by first | omega | decide) ?_
          | refine Cell.ro rfl ?_
          | refine SDraw.all (by kernel_rfl) ?_
          | refine Kept.k0 ?_
          | refine Kept.k1 ?_
          | refine Kept.k2 ?_
          | refine Kept.k3 ?_
          | refine Kept.k4 ?_))
    | false =>
      rw [hb, if_neg (by decide)] at hK
      rw [hb] at h2
      have h40 := fun (K : Value → Heap → Prop) hk => c40 (l := l) (K := K) (H := H) (by omega) hk
      repeat' ((conv => whnf); (first
          | refine Branch.df hsz ?_
          | with_reducible refine h40 _ (fun m hm => ?_)
          | refine Branch.t (by have : ¬ strOf m = ⟨#[]⟩ := (fun e => by have := (h2 m (by rw [hm, hb])).1 e; cases this); simp [this]) ?_
          | with_reducible exact Keep.all hK
          | refine New.mk (fun _ => ?_)
          | refine Look.at0 ?_
          | refine Cell.row ?_
          | refine Cell.buf ?_
          | refine Cells.row rfl ?_
          | refine Put.row rfl ?_
          | refine Put.buf rfl ?_
          | refine Look.at1 ?_
          | refine Look.at2 ?_
          | refine Look.at3 ?_
          | refine Look.at4 ?_
          | refine Look.at5 ?_
          | refine Look.at6 ?_
          | refine Look.at7 ?_
          | refine Look.at8 ?_
          | with_reducible refine Val.i64 (by omega) (by omega) ?_
          | with_reducible refine Val.u8 (by omega) (by omega) ?_
          | with_reducible refine Val.u32 (by omega) (by omega) ?_
          | with_reducible refine Val.u64 (by omega) (by omega) ?_
          | with_reducible refine Val.u8m ?_
          | with_reducible refine Val.u32m ?_
          | with_reducible refine Val.u64m ?_
          | with_reducible refine Val.shr8 ?_
          | with_reducible refine Val.shr16 (by decide) ?_
          | with_reducible refine Val.shr24 (by decide) ?_
          | with_reducible refine Val.raw ?_
          | refine Branch.not ?_
          | refine Branch.and ?_
          | refine Branch.or ?_
          | refine Branch.dt (by assumption) ?_
          | refine Branch.df (by assumption) ?_
          | refine Branch.dt rfl ?_
          | refine Branch.dt (by omega) ?_
          | refine Branch.df (by omega) ?_
          | refine Branch.t rfl ?_
          | refine Branch.f rfl ?_
          | refine Branch.t (by assumption) ?_
          | refine Branch.f (by assumption) ?_
          | refine Branch.d (fun _ => ?_) (fun _ => ?_)
          | refine Branch.mk (fun _ => ?_) (fun _ => ?_)
          | refine Need.mk (by first | omega | decide | rfl) ?_
          | refine Idx.nat (by omega) ?_
          | refine Idx.auto (by first | omega | decide) (by first | omega | decide) ?_
          | refine Cell.ro rfl ?_
          | refine SDraw.all (by kernel_rfl) ?_
          | refine Kept.k0 ?_
          | refine Kept.k1 ?_
          | refine Kept.k2 ?_
          | refine Kept.k3 ?_
          | refine Kept.k4 ?_))
/-- The document's. -/
theorem c29 {l : List UInt8} (hK : K (.int .i64 (chk l)) H) : SCalls Tryd.prog 29 [.string (strOf l)] H K := by
  refine enter29 ?_
  unfold chk at hK
  by_cases h1 : 65536 < l.length
  · rw [if_pos h1] at hK
    have hsz : (65536 : Int) < ((strOf l).size : Int) := by rw [strOf_size]; omega
    repeat' ((conv => whnf); (first
        | refine Branch.dt hsz ?_
        | with_reducible exact Keep.all hK
        | refine New.mk (fun _ => ?_)
        | refine Look.at0 ?_
        | refine Cell.row ?_
        | refine Cell.buf ?_
        | refine Cells.row rfl ?_
        | refine Put.row rfl ?_
        | refine Put.buf rfl ?_
        | refine Look.at1 ?_
        | refine Look.at2 ?_
        | refine Look.at3 ?_
        | refine Look.at4 ?_
        | refine Look.at5 ?_
        | refine Look.at6 ?_
        | refine Look.at7 ?_
        | refine Look.at8 ?_
        | with_reducible refine Val.i64 (by omega) (by omega) ?_
        | with_reducible refine Val.u8 (by omega) (by omega) ?_
        | with_reducible refine Val.u32 (by omega) (by omega) ?_
        | with_reducible refine Val.u64 (by omega) (by omega) ?_
        | with_reducible refine Val.u8m ?_
        | with_reducible refine Val.u32m ?_
        | with_reducible refine Val.u64m ?_
        | with_reducible refine Val.shr8 ?_
        | with_reducible refine Val.shr16 (by decide) ?_
        | with_reducible refine Val.shr24 (by decide) ?_
        | with_reducible refine Val.raw ?_
        | refine Branch.not ?_
        | refine Branch.and ?_
        | refine Branch.or ?_
        | refine Branch.dt (by assumption) ?_
        | refine Branch.df (by assumption) ?_
        | refine Branch.dt rfl ?_
        | refine Branch.dt (by omega) ?_
        | refine Branch.df (by omega) ?_
        | refine Branch.t rfl ?_
        | refine Branch.f rfl ?_
        | refine Branch.t (by assumption) ?_
        | refine Branch.f (by assumption) ?_
        | refine Branch.d (fun _ => ?_) (fun _ => ?_)
        | refine Branch.mk (fun _ => ?_) (fun _ => ?_)
        | refine Need.mk (by first | omega | decide | rfl) ?_
        | refine Idx.nat (by omega) ?_
        | refine Idx.auto (by first | omega | decide) (by first | omega | decide) ?_
        | refine Cell.ro rfl ?_
        | refine SDraw.all (by kernel_rfl) ?_
        | refine Kept.k0 ?_
        | refine Kept.k1 ?_
        | refine Kept.k2 ?_
        | refine Kept.k3 ?_
        | refine Kept.k4 ?_))
  · rw [if_neg h1] at hK
    have hsz : ¬ (65536 : Int) < ((strOf l).size : Int) := by rw [strOf_size]; omega
    repeat' ((conv => whnf); (first
        | refine Branch.df hsz ?_
        | refine New.mk (fun _ => ?_)
        | refine Look.at0 ?_
        | refine Cell.row ?_
        | refine Cell.buf ?_
        | refine Cells.row rfl ?_
        | refine Put.row rfl ?_
        | refine Put.buf rfl ?_
        | refine Look.at1 ?_
        | refine Look.at2 ?_
        | refine Look.at3 ?_
        | refine Look.at4 ?_
        | refine Look.at5 ?_
        | refine Look.at6 ?_
        | refine Look.at7 ?_
        | refine Look.at8 ?_
        | with_reducible refine Val.i64 (by omega) (by omega) ?_
        | with_reducible refine Val.u8 (by omega) (by omega) ?_
        | with_reducible refine Val.u32 (by omega) (by omega) ?_
        | with_reducible refine Val.u64 (by omega) (by omega) ?_
        | with_reducible refine Val.u8m ?_
        | with_reducible refine Val.u32m ?_
        | with_reducible refine Val.u64m ?_
        | with_reducible refine Val.shr8 ?_
        | with_reducible refine Val.shr16 (by decide) ?_
        | with_reducible refine Val.shr24 (by decide) ?_
        | with_reducible refine Val.raw ?_
        | refine Branch.not ?_
        | refine Branch.and ?_
        | refine Branch.or ?_
        | refine Branch.dt (by assumption) ?_
        | refine Branch.df (by assumption) ?_
        | refine Branch.dt rfl ?_
        | refine Branch.dt (by omega) ?_
        | refine Branch.df (by omega) ?_
        | refine Branch.t rfl ?_
        | refine Branch.f rfl ?_
        | refine Branch.t (by assumption) ?_
        | refine Branch.f (by assumption) ?_
        | refine Branch.d (fun _ => ?_) (fun _ => ?_)
        | refine Branch.mk (fun _ => ?_) (fun _ => ?_)
        | refine Need.mk (by first | omega | decide | rfl) ?_
        | refine Idx.nat (by omega) ?_
        | refine Idx.auto (by first | omega | decide) (by first | omega | decide) ?_
        | refine Cell.ro rfl ?_
        | refine SDraw.all (by kernel_rfl) ?_
        | refine Kept.k0 ?_
        | refine Kept.k1 ?_
        | refine Kept.k2 ?_
        | refine Kept.k3 ?_
        | refine Kept.k4 ?_))
    refine SLoop.invA (fun (j : Nat) S H' => j ≤ l.length ∧ (l.take j).all isB = true ∧ S29 (.string (strOf l)) (.int .i64 (j : Int)) S ∧ H' = H) (fun j => l.length - j) 0 (Keep.all ⟨Nat.zero_le _, rfl, .mk, rfl⟩) ?_
    rintro j S H' ⟨hj, ha, hS, rfl⟩ R hR
    cases hS
    have hsz3 : (strOf l).size = l.length := strOf_size l
    by_cases hlt : j < l.length
    · have hx := List.getElem?_eq_getElem hlt
      generalize l[j] = b at hx
      have hat := byteAt_of hx
      have htk : (l.take (j + 1)).all isB = isB b := by
        rw [List.take_add_one, hx, List.all_append, ha]; simp
      cases hb : isB b with
      | true =>
        rw [hb] at htk
        have hk := fun S hS => hR (j + 1) S H' (by omega) (Keep.all ⟨hlt, htk, hS, rfl⟩)
        have hor : (b.toNat : Int) = 48 ∨ (b.toNat : Int) = 49 := by
          unfold isB at hb
          rcases Bool.or_eq_true_iff.1 hb with h | h
          · have := Nat.eq_of_beq_eq_true h; omega
          · have := Nat.eq_of_beq_eq_true h; omega
        clear hR hK
        rcases hor with hor | hor
        · repeat' ((conv => whnf); (first
              | refine Branch.dt (by omega) ?_
              | refine Idx.nat (by omega) ?_
              | with_reducible rw [hat]
              | refine Branch.f (by simp [hor]) ?_
              | with_reducible refine hk _ .mk
              | refine New.mk (fun _ => ?_)
              | refine Look.at0 ?_
              | refine Cell.row ?_
              | refine Cell.buf ?_
              | refine Cells.row rfl ?_
              | refine Put.row rfl ?_
              | refine Put.buf rfl ?_
              | refine Look.at1 ?_
              | refine Look.at2 ?_
              | refine Look.at3 ?_
              | refine Look.at4 ?_
              | refine Look.at5 ?_
              | refine Look.at6 ?_
              | refine Look.at7 ?_
              | refine Look.at8 ?_
              | with_reducible refine Val.i64 (by omega) (by omega) ?_
              | with_reducible refine Val.u8 (by omega) (by omega) ?_
              | with_reducible refine Val.u32 (by omega) (by omega) ?_
              | with_reducible refine Val.u64 (by omega) (by omega) ?_
              | with_reducible refine Val.u8m ?_
              | with_reducible refine Val.u32m ?_
              | with_reducible refine Val.u64m ?_
              | with_reducible refine Val.shr8 ?_
              | with_reducible refine Val.shr16 (by decide) ?_
              | with_reducible refine Val.shr24 (by decide) ?_
              | with_reducible refine Val.raw ?_
              | refine Branch.not ?_
              | refine Branch.and ?_
              | refine Branch.or ?_
              | refine Branch.dt (by assumption) ?_
              | refine Branch.df (by assumption) ?_
              | refine Branch.dt rfl ?_
              | refine Branch.dt (by omega) ?_
              | refine Branch.df (by omega) ?_
              | refine Branch.t rfl ?_
              | refine Branch.f rfl ?_
              | refine Branch.t (by assumption) ?_
              | refine Branch.f (by assumption) ?_
              | refine Branch.d (fun _ => ?_) (fun _ => ?_)
              | refine Branch.mk (fun _ => ?_) (fun _ => ?_)
              | refine Need.mk (by first | omega | decide | rfl) ?_
              | refine Idx.nat (by omega) ?_
              | refine Idx.auto (by first | omega | decide) (by first | omega | decide) ?_
              | refine Cell.ro rfl ?_
              | refine SDraw.all (by kernel_rfl) ?_
              | refine Kept.k0 ?_
              | refine Kept.k1 ?_
              | refine Kept.k2 ?_
              | refine Kept.k3 ?_
              | refine Kept.k4 ?_))
        · repeat' ((conv => whnf); (first
              | refine Branch.dt (by omega) ?_
              | refine Idx.nat (by omega) ?_
              | with_reducible rw [hat]
              | refine Branch.t (by rw [hor]; rfl) ?_
              | refine Branch.f (by rw [hor]; rfl) ?_
              | with_reducible refine hk _ .mk
              | refine New.mk (fun _ => ?_)
              | refine Look.at0 ?_
              | refine Cell.row ?_
              | refine Cell.buf ?_
              | refine Cells.row rfl ?_
              | refine Put.row rfl ?_
              | refine Put.buf rfl ?_
              | refine Look.at1 ?_
              | refine Look.at2 ?_
              | refine Look.at3 ?_
              | refine Look.at4 ?_
              | refine Look.at5 ?_
              | refine Look.at6 ?_
              | refine Look.at7 ?_
              | refine Look.at8 ?_
              | with_reducible refine Val.i64 (by omega) (by omega) ?_
              | with_reducible refine Val.u8 (by omega) (by omega) ?_
              | with_reducible refine Val.u32 (by omega) (by omega) ?_
              | with_reducible refine Val.u64 (by omega) (by omega) ?_
              | with_reducible refine Val.u8m ?_
              | with_reducible refine Val.u32m ?_
              | with_reducible refine Val.u64m ?_
              | with_reducible refine Val.shr8 ?_
              | with_reducible refine Val.shr16 (by decide) ?_
              | with_reducible refine Val.shr24 (by decide) ?_
              | with_reducible refine Val.raw ?_
              | refine Branch.not ?_
              | refine Branch.and ?_
              | refine Branch.or ?_
              | refine Branch.dt (by assumption) ?_
              | refine Branch.df (by assumption) ?_
              | refine Branch.dt rfl ?_
              | refine Branch.dt (by omega) ?_
              | refine Branch.df (by omega) ?_
              | refine Branch.t rfl ?_
              | refine Branch.f rfl ?_
              | refine Branch.t (by assumption) ?_
              | refine Branch.f (by assumption) ?_
              | refine Branch.d (fun _ => ?_) (fun _ => ?_)
              | refine Branch.mk (fun _ => ?_) (fun _ => ?_)
              | refine Need.mk (by first | omega | decide | rfl) ?_
              | refine Idx.nat (by omega) ?_
              | refine Idx.auto (by first | omega | decide) (by first | omega | decide) ?_
              | refine Cell.ro rfl ?_
              | refine SDraw.all (by kernel_rfl) ?_
              | refine Kept.k0 ?_
              | refine Kept.k1 ?_
              | refine Kept.k2 ?_
              | refine Kept.k3 ?_
              | refine Kept.k4 ?_))
      | false =>
        have hall : l.all isB = false := by
          cases h : l.all isB with
          | false => rfl
          | true => have := List.all_eq_true.1 h b (List.mem_of_getElem? hx); rw [hb] at this; cases this
        rw [hall, if_neg (by decide)] at hK
        have h48 : ¬ (b.toNat : Int) = 48 := fun e => by
          have : b.toNat = 48 := by omega
          unfold isB at hb; rw [this] at hb; cases hb
        have h49 : ¬ (b.toNat : Int) = 49 := fun e => by
          have : b.toNat = 49 := by omega
          unfold isB at hb; rw [this] at hb; cases hb
        clear hR
        repeat' ((conv => whnf); (first
            | refine Branch.dt (by omega) ?_
            | refine Idx.nat (by omega) ?_
            | with_reducible rw [hat]
            | refine Branch.t (by first | (simp [h48]; done) | (simp [h49]; done)) ?_
            | with_reducible exact Keep.all hK
            | refine New.mk (fun _ => ?_)
            | refine Look.at0 ?_
            | refine Cell.row ?_
            | refine Cell.buf ?_
            | refine Cells.row rfl ?_
            | refine Put.row rfl ?_
            | refine Put.buf rfl ?_
            | refine Look.at1 ?_
            | refine Look.at2 ?_
            | refine Look.at3 ?_
            | refine Look.at4 ?_
            | refine Look.at5 ?_
            | refine Look.at6 ?_
            | refine Look.at7 ?_
            | refine Look.at8 ?_
            | with_reducible refine Val.i64 (by omega) (by omega) ?_
            | with_reducible refine Val.u8 (by omega) (by omega) ?_
            | with_reducible refine Val.u32 (by omega) (by omega) ?_
            | with_reducible refine Val.u64 (by omega) (by omega) ?_
            | with_reducible refine Val.u8m ?_
            | with_reducible refine Val.u32m ?_
            | with_reducible refine Val.u64m ?_
            | with_reducible refine Val.shr8 ?_
            | with_reducible refine Val.shr16 (by decide) ?_
            | with_reducible refine Val.shr24 (by decide) ?_
            | with_reducible refine Val.raw ?_
            | refine Branch.not ?_
            | refine Branch.and ?_
            | refine Branch.or ?_
            | refine Branch.dt (by assumption) ?_
            | refine Branch.df (by assumption) ?_
            | refine Branch.dt rfl ?_
            | refine Branch.dt (by omega) ?_
            | refine Branch.df (by omega) ?_
            | refine Branch.t rfl ?_
            | refine Branch.f rfl ?_
            | refine Branch.t (by assumption) ?_
            | refine Branch.f (by assumption) ?_
            | refine Branch.d (fun _ => ?_) (fun _ => ?_)
            | refine Branch.mk (fun _ => ?_) (fun _ => ?_)
            | refine Need.mk (by first | omega | decide | rfl) ?_
            | refine Idx.nat (by omega) ?_
            | refine Idx.auto (by first | omega | decide) (by first | omega | decide) ?_
            | refine Cell.ro rfl ?_
            | refine SDraw.all (by kernel_rfl) ?_
            | refine Kept.k0 ?_
            | refine Kept.k1 ?_
            | refine Kept.k2 ?_
            | refine Kept.k3 ?_
            | refine Kept.k4 ?_))
    · have e : j = l.length := by omega
      subst e
      rw [List.take_length] at ha
      rw [ha, if_pos rfl] at hK
      clear hR
      repeat' ((conv => whnf); (first
          | refine Branch.df (by omega) ?_
          | with_reducible exact Keep.all hK
          | refine New.mk (fun _ => ?_)
          | refine Look.at0 ?_
          | refine Cell.row ?_
          | refine Cell.buf ?_
          | refine Cells.row rfl ?_
          | refine Put.row rfl ?_
          | refine Put.buf rfl ?_
          | refine Look.at1 ?_
          | refine Look.at2 ?_
          | refine Look.at3 ?_
          | refine Look.at4 ?_
          | refine Look.at5 ?_
          | refine Look.at6 ?_
          | refine Look.at7 ?_
          | refine Look.at8 ?_
          | with_reducible refine Val.i64 (by omega) (by omega) ?_
          | with_reducible refine Val.u8 (by omega) (by omega) ?_
          | with_reducible refine Val.u32 (by omega) (by omega) ?_
          | with_reducible refine Val.u64 (by omega) (by omega) ?_
          | with_reducible refine Val.u8m ?_
          | with_reducible refine Val.u32m ?_
          | with_reducible refine Val.u64m ?_
          | with_reducible refine Val.shr8 ?_
          | with_reducible refine Val.shr16 (by decide) ?_
          | with_reducible refine Val.shr24 (by decide) ?_
          | with_reducible refine Val.raw ?_
          | refine Branch.not ?_
          | refine Branch.and ?_
          | refine Branch.or ?_
          | refine Branch.dt (by assumption) ?_
          | refine Branch.df (by assumption) ?_
          | refine Branch.dt rfl ?_
          | refine Branch.dt (by omega) ?_
          | refine Branch.df (by omega) ?_
          | refine Branch.t rfl ?_
          | refine Branch.f rfl ?_
          | refine Branch.t (by assumption) ?_
          | refine Branch.f (by assumption) ?_
          | refine Branch.d (fun _ => ?_) (fun _ => ?_)
          | refine Branch.mk (fun _ => ?_) (fun _ => ?_)
          | refine Need.mk (by first | omega | decide | rfl) ?_
          | refine Idx.nat (by omega) ?_
          | refine Idx.auto (by first | omega | decide) (by first | omega | decide) ?_
          | refine Cell.ro rfl ?_
          | refine SDraw.all (by kernel_rfl) ?_
          | refine Kept.k0 ?_
          | refine Kept.k1 ?_
          | refine Kept.k2 ?_
          | refine Kept.k3 ?_
          | refine Kept.k4 ?_))
end
end Go.Proofs.YtijnjklofdmelaaDoor

/- Layer 1: the sums of bits and of bytes: by walks. -/
set_option linter.unusedVariables false
set_option linter.unusedSimpArgs false
set_option maxRecDepth 100000
set_option maxHeartbeats 4000000
namespace Go.Proofs.YtijnjklofdmelaaDoor
open Sx
/-- A bit into the sum. -/
def cStep (r : Nat) (b : Bool) : Nat := if decide (r / 16384 = 1) = b then r * 2 % 32768 else (r * 2 % 32768) ^^^ 17817
def bitOf (b : UInt8) : Bool := Nat.beq b.toNat 49
def crc (l : List UInt8) : Nat := l.foldl (fun r b => cStep r (bitOf b)) 0
theorem cStep_lt (r : Nat) (b : Bool) : cStep r b < 32768 := by
  unfold cStep
  split
  · exact Nat.mod_lt _ (by decide)
  · exact Nat.xor_lt_two_pow (n := 15) (Nat.mod_lt _ (by decide)) (by decide)
theorem fold_lt (l : List UInt8) : ∀ r, r < 32768 → l.foldl (fun r b => cStep r (bitOf b)) r < 32768 := by
  induction l with
  | nil => exact fun r h => h
  | cons b l ih => exact fun r h => ih _ (cStep_lt _ _)
theorem crc_lt (l : List UInt8) : crc l < 32768 := fold_lt l 0 (by decide)
theorem crc_snoc (l : List UInt8) (b : UInt8) : crc (l ++ [b]) = cStep (crc l) (bitOf b) := by simp [crc]
theorem isB_cases {b : UInt8} (h : isB b = true) : (b.toNat = 48 ∧ bitOf b = false) ∨ (b.toNat = 49 ∧ bitOf b = true) := by
  unfold isB at h
  rcases Bool.or_eq_true_iff.1 h with h | h
  · have := Nat.eq_of_beq_eq_true h
    exact .inl ⟨this, by unfold bitOf; rw [this]; rfl⟩
  · have := Nat.eq_of_beq_eq_true h
    exact .inr ⟨this, by unfold bitOf; rw [this]; rfl⟩
/-- The numbers of a round. -/
theorem crc_nums {k : IntKind} (hk : k.signed = false) (h16 : 16 ≤ k.bits) (r : Nat) (hr : r < 32768) : ∃ q t : Nat, (q = 0 ∨ q = 1) ∧ t < 32768 ∧ shrI k (r : Int) 14 = (q : Int) ∧ bitAnd k (q : Int) 1 = (q : Int) ∧
    shlI k (r : Int) 1 = ((r * 2 : Nat) : Int) ∧ bitAnd k ((r * 2 : Nat) : Int) 32767 = (t : Int) ∧ bitXor k (t : Int) 17817 = ((t ^^^ 17817 : Nat) : Int) ∧ (∀ b, cStep r b = if decide (q = 1) = b then t else t ^^^ 17817) := by
  have hp : (65536 : Nat) ≤ 2 ^ k.bits := by
    have : (2 : Nat) ^ 16 ≤ 2 ^ k.bits := Nat.pow_le_pow_right (by decide) h16
    exact this
  have ht : r * 2 % 32768 < 32768 := Nat.mod_lt _ (by decide)
  refine ⟨r / 16384, r * 2 % 32768, by omega, ht, ?_, ?_, ?_, ?_, ?_, fun b => rfl⟩
  · exact shr_nat (k := k) (n := 14) (by omega)
  · have := bitMask_nat (k := k) hk (a := r / 16384) (n := 1) (by omega) (by omega)
    rw [show r / 16384 % 2 ^ 1 = r / 16384 by omega] at this
    exact this
  · have := shl_nat (k := k) hk (a := r) (n := 1) (by omega)
    rw [Nat.mod_eq_of_lt (show r * 2 ^ 1 < 2 ^ k.bits by omega)] at this
    exact this
  · exact bitMask_nat (k := k) hk (a := r * 2) (n := 15) (by omega) (by omega)
  · exact bitXor_nat hk (a := r * 2 % 32768) (b := 17817) (Nat.lt_of_lt_of_le ht (Nat.le_trans (by decide) hp)) (Nat.lt_of_lt_of_le (by decide) hp)
def crcV (l : List UInt8) : Int := if chk l = 0 then (crc l : Int) else 0
theorem chk_cases (l : List UInt8) : (chk l = 0 ∧ l.length ≤ 65536 ∧ ∀ b ∈ l, isB b = true) ∨ (chk l ≠ 0 ∧ (65536 < l.length ∨ l.all isB = false)) := by
  unfold chk
  split
  · exact .inr ⟨by decide, .inl (by omega)⟩
  · split
    · rename_i h1 h2
      exact .inl ⟨rfl, by omega, List.all_eq_true.1 h2⟩
    · rename_i h1 h2
      exact .inr ⟨by decide, .inr (by simpa using h2)⟩
theorem ascii {l : List UInt8} (h : ∀ b ∈ l, isB b = true) : ∀ b ∈ l, b.toNat < 128 := fun b hb => by
  rcases isB_cases (h b hb) with ⟨h, _⟩ | ⟨h, _⟩ <;> omega
inductive S11 (A4 A5 A15 : Value) : List Value → Prop
  | mk {r0 r1 r2 r3 r6 r7 r8 r9 r10 r11 r12 r13 r14 r16 r17 r18 r19 r20 r21 r22 r23 r24 r25 r26 r27 r28 r29 r30 r31 r32 : Value} : S11 A4 A5 A15 [r0, r1, r2, r3, A4, A5, r6, r7, r8, r9, r10, r11, r12, r13, r14, A15, r16, r17, r18, r19, r20, r21, r22, r23, r24, r25, r26, r27, r28, r29, r30, r31, r32]
inductive S13 (A0 A4 A5 A6 : Value) : List Value → Prop
  | mk {r1 r2 r3 r7 r8 r9 r10 r11 r12 r13 r14 r15 r16 r17 r18 r19 r20 r21 r22 r23 r24 r25 r26 r27 r28 r29 r30 r31 r32 r33 r34 r35 : Value} : S13 A0 A4 A5 A6 [A0, r1, r2, r3, A4, A5, A6, r7, r8, r9, r10, r11, r12, r13, r14, r15, r16, r17, r18, r19, r20, r21, r22, r23, r24, r25, r26, r27, r28, r29, r30, r31, r32, r33, r34, r35]
section
variable {K : Value → Heap → Prop} {H : Heap}
theorem c11 {l : List UInt8} (hK : K (.tuple ⟨[.int .u16 (crcV l), .int .i64 (chk l)]⟩) H) : SCalls Tryd.prog 11 [.string (strOf l)] H K := by
  refine enter11 ?_
  unfold crcV at hK
  rcases chk_cases l with ⟨h0, hl, hB⟩ | ⟨h0, _⟩
  · rw [if_pos h0] at hK
    have h32 := fun (K : Value → Heap → Prop) (hk : K (.int .i64 0) H) => c32 (l := l) (K := K) (H := H) (by rw [h0]; exact hk)
    rw [h0] at hK
    repeat' ((conv => whnf); (first
        | with_reducible refine h32 _ ?_
        | refine Branch.f rfl ?_
        | refine RawV.rangeStr rfl (by kernel_rfl) (fun q => ?_)
        | refine New.mk (fun _ => ?_)
        | refine Look.at0 ?_
        | refine Cell.row ?_
        | refine Cell.buf ?_
        | refine Cells.row rfl ?_
        | refine Put.row rfl ?_
        | refine Put.buf rfl ?_
        | refine Look.at1 ?_
        | refine Look.at2 ?_
        | refine Look.at3 ?_
        | refine Look.at4 ?_
        | refine Look.at5 ?_
        | refine Look.at6 ?_
        | refine Look.at7 ?_
        | refine Look.at8 ?_
        | with_reducible refine Val.i64 (by omega) (by omega) ?_
        | with_reducible refine Val.u8 (by omega) (by omega) ?_
        | with_reducible refine Val.u32 (by omega) (by omega) ?_
        | with_reducible refine Val.u64 (by omega) (by omega) ?_
        | with_reducible refine Val.u8m ?_
        | with_reducible refine Val.u32m ?_
        | with_reducible refine Val.u64m ?_
        | with_reducible refine Val.shr8 ?_
        | with_reducible refine Val.shr16 (by decide) ?_
        | with_reducible refine Val.shr24 (by decide) ?_
        | with_reducible refine Val.raw ?_
        | refine Branch.not ?_
        | refine Branch.and ?_
        | refine Branch.or ?_
        | refine Branch.dt (by assumption) ?_
        | refine Branch.df (by assumption) ?_
        | refine Branch.dt rfl ?_
        | refine Branch.dt (by omega) ?_
        | refine Branch.df (by omega) ?_
        | refine Branch.t rfl ?_
        | refine Branch.f rfl ?_
        | refine Branch.t (by assumption) ?_
        | refine Branch.f (by assumption) ?_
        | refine Branch.d (fun _ => ?_) (fun _ => ?_)
        | refine Branch.mk (fun _ => ?_) (fun _ => ?_)
        | refine Need.mk (by first | omega | decide | rfl) ?_
        | refine Idx.nat (by omega) ?_
        | refine Idx.auto (by first | omega | decide) (by first | omega | decide) ?_
        | refine Cell.ro rfl ?_
        | refine SDraw.all (by kernel_rfl) ?_
        | refine Kept.k0 ?_
        | refine Kept.k1 ?_
        | refine Kept.k2 ?_
        | refine Kept.k3 ?_
        | refine Kept.k4 ?_))
    refine SLoop.invA (fun (j : Nat) S H' => j ≤ l.length ∧ S11 (.int .i64 0) (.int .u16 (crc (l.take j) : Int)) (ptr q) S ∧ H' = (q, sIter (strOf l) j) :: H) (fun j => l.length - j) 0 (Keep.all ⟨Nat.zero_le _, .mk, rfl⟩) ?_
    rintro j S H' ⟨hj, hS, rfl⟩ R hR
    cases hS
    by_cases hlt : j < l.length
    · have hx := List.getElem?_eq_getElem hlt
      generalize l[j] = b at hx
      have htk : l.take (j + 1) = l.take j ++ [b] := by rw [List.take_add_one, hx]; rfl
      obtain ⟨q2, t, hq, ht, e1, e2, e3, e4, e5, e6⟩ := crc_nums (k := .u16) rfl (by decide) (crc (l.take j)) (crc_lt _)
      have hnext : ∀ S, S11 (.int .i64 0) (.int .u16 (cStep (crc (l.take j)) (bitOf b) : Int)) (ptr q) S → R S ((q, sIter (strOf l) (j + 1)) :: H) := fun S hS => hR (j + 1) _ _ (by omega) (Keep.all ⟨hlt, by rw [htk, crc_snoc]; exact hS, rfl⟩)
      have hb := isB_cases (hB b (List.mem_of_getElem? hx))
      rw [e6] at hnext
      clear hR hK h32
      clear e6
      generalize crc (l.take j) = r at e1 e3 e4
      have hnx : ∀ (K2 : Value → Heap → Prop), K2 (.tuple ⟨[.bool true, .int .i64 (j : Int), .int .i32 (b.toNat : Int)]⟩) ((q, sIter (strOf l) (j + 1)) :: H) → ∀ o xm, Oper.op o = .next xm true → RawV Tryd.prog o [ptr q] ((q, sIter (strOf l) j) :: H) K2 := fun K2 hk o xm ho =>
        RawV.nextS0 ho (ascii hB) (fun h => by omega) (fun b2 hb2 => by rw [hx] at hb2; injection hb2 with hb2; subst hb2; exact hk)
      rcases hb with ⟨h1, h2⟩ | ⟨h1, h2⟩ <;> rw [h1] at hnx <;> rw [h2] at hnext <;> rcases hq with rfl | rfl
      · repeat' ((conv => whnf); (first
            | with_reducible refine hnx _ ?_ _ _ rfl
            | with_reducible refine Val.to _ e1 ?_
            | with_reducible refine Val.to _ e2 ?_
            | with_reducible refine Val.to _ e3 ?_
            | with_reducible refine Val.to _ e4 ?_
            | with_reducible refine Val.to _ e5 ?_
            | with_reducible refine Val.i32 (by omega) (by omega) ?_
            | with_reducible refine Val.u16 (by omega) (by omega) ?_
            | refine Branch.f rfl ?_
            | refine hnext _ .mk
            | refine New.mk (fun _ => ?_)
            | refine Look.at0 ?_
            | refine Cell.row ?_
            | refine Cell.buf ?_
            | refine Cells.row rfl ?_
            | refine Put.row rfl ?_
            | refine Put.buf rfl ?_
            | refine Look.at1 ?_
            | refine Look.at2 ?_
            | refine Look.at3 ?_
            | refine Look.at4 ?_
            | refine Look.at5 ?_
            | refine Look.at6 ?_
            | refine Look.at7 ?_
            | refine Look.at8 ?_
            | with_reducible refine Val.i64 (by omega) (by omega) ?_
            | with_reducible refine Val.u8 (by omega) (by omega) ?_
            | with_reducible refine Val.u32 (by omega) (by omega) ?_
            | with_reducible refine Val.u64 (by omega) (by omega) ?_
            | with_reducible refine Val.u8m ?_
            | with_reducible refine Val.u32m ?_
            | with_reducible refine Val.u64m ?_
            | with_reducible refine Val.shr8 ?_
            | with_reducible refine Val.shr16 (by decide) ?_
            | with_reducible refine Val.shr24 (by decide) ?_
            | with_reducible refine Val.raw ?_
            | refine Branch.not ?_
            | refine Branch.and ?_
            | refine Branch.or ?_
            | refine Branch.dt (by assumption) ?_
            | refine Branch.df (by assumption) ?_
            | refine Branch.dt rfl ?_
            | refine Branch.dt (by omega) ?_
            | refine Branch.df (by omega) ?_
            | refine Branch.t rfl ?_
            | refine Branch.f rfl ?_
            | refine Branch.t (by assumption) ?_
            | refine Branch.f (by assumption) ?_
            | refine Branch.d (fun _ => ?_) (fun _ => ?_)
            | refine Branch.mk (fun _ => ?_) (fun _ => ?_)
            | refine Need.mk (by first | omega | decide | rfl) ?_
            | refine Idx.nat (by omega) ?_
            | refine Idx.auto (by first | omega | decide) (by first | omega | decide) ?_
            | refine Cell.ro rfl ?_
            | refine SDraw.all (by kernel_rfl) ?_
            | refine Kept.k0 ?_
            | refine Kept.k1 ?_
            | refine Kept.k2 ?_
            | refine Kept.k3 ?_
            | refine Kept.k4 ?_))
      · repeat' ((conv => whnf); (first
            | with_reducible refine hnx _ ?_ _ _ rfl
            | with_reducible refine Val.to _ e1 ?_
            | with_reducible refine Val.to _ e2 ?_
            | with_reducible refine Val.to _ e3 ?_
            | with_reducible refine Val.to _ e4 ?_
            | with_reducible refine Val.to _ e5 ?_
            | with_reducible refine Val.i32 (by omega) (by omega) ?_
            | with_reducible refine Val.u16 (by omega) (by omega) ?_
            | refine Branch.t rfl ?_
            | refine hnext _ .mk
            | refine New.mk (fun _ => ?_)
            | refine Look.at0 ?_
            | refine Cell.row ?_
            | refine Cell.buf ?_
            | refine Cells.row rfl ?_
            | refine Put.row rfl ?_
            | refine Put.buf rfl ?_
            | refine Look.at1 ?_
            | refine Look.at2 ?_
            | refine Look.at3 ?_
            | refine Look.at4 ?_
            | refine Look.at5 ?_
            | refine Look.at6 ?_
            | refine Look.at7 ?_
            | refine Look.at8 ?_
            | with_reducible refine Val.i64 (by omega) (by omega) ?_
            | with_reducible refine Val.u8 (by omega) (by omega) ?_
            | with_reducible refine Val.u32 (by omega) (by omega) ?_
            | with_reducible refine Val.u64 (by omega) (by omega) ?_
            | with_reducible refine Val.u8m ?_
            | with_reducible refine Val.u32m ?_
            | with_reducible refine Val.u64m ?_
            | with_reducible refine Val.shr8 ?_
            | with_reducible refine Val.shr16 (by decide) ?_
            | with_reducible refine Val.shr24 (by decide) ?_
            | with_reducible refine Val.raw ?_
            | refine Branch.not ?_
            | refine Branch.and ?_
            | refine Branch.or ?_
            | refine Branch.dt (by assumption) ?_
            | refine Branch.df (by assumption) ?_
            | refine Branch.dt rfl ?_
            | refine Branch.dt (by omega) ?_
            | refine Branch.df (by omega) ?_
            | refine Branch.t rfl ?_
            | refine Branch.f rfl ?_
            | refine Branch.t (by assumption) ?_
            | refine Branch.f (by assumption) ?_
            | refine Branch.d (fun _ => ?_) (fun _ => ?_)
            | refine Branch.mk (fun _ => ?_) (fun _ => ?_)
            | refine Need.mk (by first | omega | decide | rfl) ?_
            | refine Idx.nat (by omega) ?_
            | refine Idx.auto (by first | omega | decide) (by first | omega | decide) ?_
            | refine Cell.ro rfl ?_
            | refine SDraw.all (by kernel_rfl) ?_
            | refine Kept.k0 ?_
            | refine Kept.k1 ?_
            | refine Kept.k2 ?_
            | refine Kept.k3 ?_
            | refine Kept.k4 ?_))
      · repeat' ((conv => whnf); (first
            | with_reducible refine hnx _ ?_ _ _ rfl
            | with_reducible refine Val.to _ e1 ?_
            | with_reducible refine Val.to _ e2 ?_
            | with_reducible refine Val.to _ e3 ?_
            | with_reducible refine Val.to _ e4 ?_
            | with_reducible refine Val.to _ e5 ?_
            | with_reducible refine Val.i32 (by omega) (by omega) ?_
            | with_reducible refine Val.u16 (by omega) (by omega) ?_
            | refine Branch.t rfl ?_
            | refine hnext _ .mk
            | refine New.mk (fun _ => ?_)
            | refine Look.at0 ?_
            | refine Cell.row ?_
            | refine Cell.buf ?_
            | refine Cells.row rfl ?_
            | refine Put.row rfl ?_
            | refine Put.buf rfl ?_
            | refine Look.at1 ?_
            | refine Look.at2 ?_
            | refine Look.at3 ?_
            | refine Look.at4 ?_
            | refine Look.at5 ?_
            | refine Look.at6 ?_
            | refine Look.at7 ?_
            | refine Look.at8 ?_
            | with_reducible refine Val.i64 (by omega) (by omega) ?_
            | with_reducible refine Val.u8 (by omega) (by omega) ?_
            | with_reducible refine Val.u32 (by omega) (by omega) ?_
            | with_reducible refine Val.u64 (by omega) (by omega) ?_
            | with_reducible refine Val.u8m ?_
            | with_reducible refine Val.u32m ?_
            | with_reducible refine Val.u64m ?_
            | with_reducible refine Val.shr8 ?_
            | with_reducible refine Val.shr16 (by decide) ?_
            | with_reducible refine Val.shr24 (by decide) ?_
            | with_reducible refine Val.raw ?_
            | refine Branch.not ?_
            | refine Branch.and ?_
            | refine Branch.or ?_
            | refine Branch.dt (by assumption) ?_
            | refine Branch.df (by assumption) ?_
            | refine Branch.dt rfl ?_
            | refine Branch.dt (by omega) ?_
            | refine Branch.df (by omega) ?_
            | refine Branch.t rfl ?_
            | refine Branch.f rfl ?_
            | refine Branch.t (by assumption) ?_
            | refine Branch.f (by assumption) ?_
            | refine Branch.d (fun _ => ?_) (fun _ => ?_)
            | refine Branch.mk (fun _ => ?_) (fun _ => ?_)
            | refine Need.mk (by first | omega | decide | rfl) ?_
            | refine Idx.nat (by omega) ?_
            | refine Idx.auto (by first | omega | decide) (by first | omega | decide) ?_
            | refine Cell.ro rfl ?_
            | refine SDraw.all (by kernel_rfl) ?_
            | refine Kept.k0 ?_
            | refine Kept.k1 ?_
            | refine Kept.k2 ?_
            | refine Kept.k3 ?_
            | refine Kept.k4 ?_))
      · repeat' ((conv => whnf); (first
            | with_reducible refine hnx _ ?_ _ _ rfl
            | with_reducible refine Val.to _ e1 ?_
            | with_reducible refine Val.to _ e2 ?_
            | with_reducible refine Val.to _ e3 ?_
            | with_reducible refine Val.to _ e4 ?_
            | with_reducible refine Val.to _ e5 ?_
            | with_reducible refine Val.i32 (by omega) (by omega) ?_
            | with_reducible refine Val.u16 (by omega) (by omega) ?_
            | refine Branch.f rfl ?_
            | refine hnext _ .mk
            | refine New.mk (fun _ => ?_)
            | refine Look.at0 ?_
            | refine Cell.row ?_
            | refine Cell.buf ?_
            | refine Cells.row rfl ?_
            | refine Put.row rfl ?_
            | refine Put.buf rfl ?_
            | refine Look.at1 ?_
            | refine Look.at2 ?_
            | refine Look.at3 ?_
            | refine Look.at4 ?_
            | refine Look.at5 ?_
            | refine Look.at6 ?_
            | refine Look.at7 ?_
            | refine Look.at8 ?_
            | with_reducible refine Val.i64 (by omega) (by omega) ?_
            | with_reducible refine Val.u8 (by omega) (by omega) ?_
            | with_reducible refine Val.u32 (by omega) (by omega) ?_
            | with_reducible refine Val.u64 (by omega) (by omega) ?_
            | with_reducible refine Val.u8m ?_
            | with_reducible refine Val.u32m ?_
            | with_reducible refine Val.u64m ?_
            | with_reducible refine Val.shr8 ?_
            | with_reducible refine Val.shr16 (by decide) ?_
            | with_reducible refine Val.shr24 (by decide) ?_
            | with_reducible refine Val.raw ?_
            | refine Branch.not ?_
            | refine Branch.and ?_
            | refine Branch.or ?_
            | refine Branch.dt (by assumption) ?_
            | refine Branch.df (by assumption) ?_
            | refine Branch.dt rfl ?_
            | refine Branch.dt (by omega) ?_
            | refine Branch.df (by omega) ?_
            | refine Branch.t rfl ?_
            | refine Branch.f rfl ?_
            | refine Branch.t (by assumption) ?_
            | refine Branch.f (by assumption) ?_
            | refine Branch.d (fun _ => ?_) (fun _ => ?_)
            | refine Branch.mk (fun _ => ?_) (fun _ => ?_)
            | refine Need.mk (by first | omega | decide | rfl) ?_
            | refine Idx.nat (by omega) ?_
            | refine Idx.auto (by first | omega | decide) (by first | omega | decide) ?_
            | refine Cell.ro rfl ?_
            | refine SDraw.all (by kernel_rfl) ?_
            | refine Kept.k0 ?_
            | refine Kept.k1 ?_
            | refine Kept.k2 ?_
            | refine Kept.k3 ?_
            | refine Kept.k4 ?_))
    · have e : j = l.length := by omega
      subst e
      rw [List.take_length]
      have hnx : ∀ (K2 : Value → Heap → Prop), K2 (.tuple ⟨[.bool false]⟩) ((q, sIter (strOf l) l.length) :: H) → ∀ o xm, Oper.op o = .next xm true → RawV Tryd.prog o [ptr q] ((q, sIter (strOf l) l.length) :: H) K2 := fun K2 hk o xm ho =>
        RawV.nextS0 ho (ascii hB) (fun h => hk) (fun b2 hb2 => by have := (List.getElem?_eq_some_iff.1 hb2).1; omega)
      clear hR h32
      repeat' ((conv => whnf); (first
          | with_reducible refine hnx _ ?_ _ _ rfl
          | refine Branch.f rfl ?_
          | with_reducible exact Keep.d1 hK
          | refine New.mk (fun _ => ?_)
          | refine Look.at0 ?_
          | refine Cell.row ?_
          | refine Cell.buf ?_
          | refine Cells.row rfl ?_
          | refine Put.row rfl ?_
          | refine Put.buf rfl ?_
          | refine Look.at1 ?_
          | refine Look.at2 ?_
          | refine Look.at3 ?_
          | refine Look.at4 ?_
          | refine Look.at5 ?_
          | refine Look.at6 ?_
          | refine Look.at7 ?_
          | refine Look.at8 ?_
          | with_reducible refine Val.i64 (by omega) (by omega) ?_
          | with_reducible refine Val.u8 (by omega) (by omega) ?_
          | with_reducible refine Val.u32 (by omega) (by omega) ?_
          | with_reducible refine Val.u64 (by omega) (by omega) ?_
          | with_reducible refine Val.u8m ?_
          | with_reducible refine Val.u32m ?_
          | with_reducible refine Val.u64m ?_
          | with_reducible refine Val.shr8 ?_
          | with_reducible refine Val.shr16 (by decide) ?_
          | with_reducible refine Val.shr24 (by decide) ?_
          | with_reducible refine Val.raw ?_
          | refine Branch.not ?_
          | refine Branch.and ?_
          | refine Branch.or ?_
          | refine Branch.dt (by assumption) ?_
          | refine Branch.df (by assumption) ?_
          | refine Branch.dt rfl ?_
          | refine Branch.dt (by omega) ?_
          | refine Branch.df (by omega) ?_
          | refine Branch.t rfl ?_
          | refine Branch.f rfl ?_
          | refine Branch.t (by assumption) ?_
          | refine Branch.f (by assumption) ?_
          | refine Branch.d (fun _ => ?_) (fun _ => ?_)
          | refine Branch.mk (fun _ => ?_) (fun _ => ?_)
          | refine Need.mk (by first | omega | decide | rfl) ?_
          | refine Idx.nat (by omega) ?_
          | refine Idx.auto (by first | omega | decide) (by first | omega | decide) ?_
          | refine Cell.ro rfl ?_
          | refine SDraw.all (by kernel_rfl) ?_
          | refine Kept.k0 ?_
          | refine Kept.k1 ?_
          | refine Kept.k2 ?_
          | refine Kept.k3 ?_
          | refine Kept.k4 ?_))
  · rw [if_neg h0] at hK
    have h32 := fun (K : Value → Heap → Prop) hk => c32 (l := l) (K := K) (H := H) hk
    generalize chk l = v at h0 hK h32
    repeat' ((conv => whnf); (first
        | with_reducible refine h32 _ ?_
        | refine Branch.t (by simp [h0]; done) ?_
        | with_reducible exact Keep.all hK
        | refine New.mk (fun _ => ?_)
        | refine Look.at0 ?_
        | refine Cell.row ?_
        | refine Cell.buf ?_
        | refine Cells.row rfl ?_
        | refine Put.row rfl ?_
        | refine Put.buf rfl ?_
        | refine Look.at1 ?_
        | refine Look.at2 ?_
        | refine Look.at3 ?_
        | refine Look.at4 ?_
        | refine Look.at5 ?_
        | refine Look.at6 ?_
        | refine Look.at7 ?_
        | refine Look.at8 ?_
        | with_reducible refine Val.i64 (by omega) (by omega) ?_
        | with_reducible refine Val.u8 (by omega) (by omega) ?_
        | with_reducible refine Val.u32 (by omega) (by omega) ?_
        | with_reducible refine Val.u64 (by omega) (by omega) ?_
        | with_reducible refine Val.u8m ?_
        | with_reducible refine Val.u32m ?_
        | with_reducible refine Val.u64m ?_
        | with_reducible refine Val.shr8 ?_
        | with_reducible refine Val.shr16 (by decide) ?_
        | with_reducible refine Val.shr24 (by decide) ?_
        | with_reducible refine Val.raw ?_
        | refine Branch.not ?_
        | refine Branch.and ?_
        | refine Branch.or ?_
        | refine Branch.dt (by assumption) ?_
        | refine Branch.df (by assumption) ?_
        | refine Branch.dt rfl ?_
        | refine Branch.dt (by omega) ?_
        | refine Branch.df (by omega) ?_
        | refine Branch.t rfl ?_
        | refine Branch.f rfl ?_
        | refine Branch.t (by assumption) ?_
        | refine Branch.f (by assumption) ?_
        | refine Branch.d (fun _ => ?_) (fun _ => ?_)
        | refine Branch.mk (fun _ => ?_) (fun _ => ?_)
        | refine Need.mk (by first | omega | decide | rfl) ?_
        | refine Idx.nat (by omega) ?_
        | refine Idx.auto (by first | omega | decide) (by first | omega | decide) ?_
        | refine Cell.ro rfl ?_
        | refine SDraw.all (by kernel_rfl) ?_
        | refine Kept.k0 ?_
        | refine Kept.k1 ?_
        | refine Kept.k2 ?_
        | refine Kept.k3 ?_
        | refine Kept.k4 ?_))
/-- The document's. -/
theorem c13 {l : List UInt8} (hK : K (.tuple ⟨[.int .u16 (crcV l), .int .i64 (chk l)]⟩) H) : SCalls Tryd.prog 13 [.string (strOf l)] H K := by
  refine enter13 ?_
  unfold crcV at hK
  rcases chk_cases l with ⟨h0, hl, hB⟩ | ⟨h0, _⟩
  · rw [if_pos h0] at hK
    have h29 := fun (K : Value → Heap → Prop) (hk : K (.int .i64 0) H) => c29 (l := l) (K := K) (H := H) (by rw [h0]; exact hk)
    rw [h0] at hK
    repeat' ((conv => whnf); (first
        | with_reducible refine h29 _ ?_
        | refine Branch.f rfl ?_
        | refine New.mk (fun _ => ?_)
        | refine Look.at0 ?_
        | refine Cell.row ?_
        | refine Cell.buf ?_
        | refine Cells.row rfl ?_
        | refine Put.row rfl ?_
        | refine Put.buf rfl ?_
        | refine Look.at1 ?_
        | refine Look.at2 ?_
        | refine Look.at3 ?_
        | refine Look.at4 ?_
        | refine Look.at5 ?_
        | refine Look.at6 ?_
        | refine Look.at7 ?_
        | refine Look.at8 ?_
        | with_reducible refine Val.i64 (by omega) (by omega) ?_
        | with_reducible refine Val.u8 (by omega) (by omega) ?_
        | with_reducible refine Val.u32 (by omega) (by omega) ?_
        | with_reducible refine Val.u64 (by omega) (by omega) ?_
        | with_reducible refine Val.u8m ?_
        | with_reducible refine Val.u32m ?_
        | with_reducible refine Val.u64m ?_
        | with_reducible refine Val.shr8 ?_
        | with_reducible refine Val.shr16 (by decide) ?_
        | with_reducible refine Val.shr24 (by decide) ?_
        | with_reducible refine Val.raw ?_
        | refine Branch.not ?_
        | refine Branch.and ?_
        | refine Branch.or ?_
        | refine Branch.dt (by assumption) ?_
        | refine Branch.df (by assumption) ?_
        | refine Branch.dt rfl ?_
        | refine Branch.dt (by omega) ?_
        | refine Branch.df (by omega) ?_
        | refine Branch.t rfl ?_
        | refine Branch.f rfl ?_
        | refine Branch.t (by assumption) ?_
        | refine Branch.f (by assumption) ?_
        | refine Branch.d (fun _ => ?_) (fun _ => ?_)
        | refine Branch.mk (fun _ => ?_) (fun _ => ?_)
        | refine Need.mk (by first | omega | decide | rfl) ?_
        | refine Idx.nat (by omega) ?_
        | refine Idx.auto (by first | omega | decide) (by first | omega | decide) ?_
        | refine Cell.ro rfl ?_
        | refine SDraw.all (by kernel_rfl) ?_
        | refine Kept.k0 ?_
        | refine Kept.k1 ?_
        | refine Kept.k2 ?_
        | refine Kept.k3 ?_
        | refine Kept.k4 ?_))
    refine SLoop.invA (fun (j : Nat) S H' => j ≤ l.length ∧ S13 (.string (strOf l)) (.int .i64 0) (.int .u32 (crc (l.take j) : Int)) (.int .i64 (j : Int)) S ∧ H' = H) (fun j => l.length - j) 0 (Keep.all ⟨Nat.zero_le _, .mk, rfl⟩) ?_
    rintro j S H' ⟨hj, hS, rfl⟩ R hR
    cases hS
    have hsz3 : (strOf l).size = l.length := strOf_size l
    by_cases hlt : j < l.length
    · have hx := List.getElem?_eq_getElem hlt
      generalize l[j] = b at hx
      have hat := byteAt_of hx
      have htk : l.take (j + 1) = l.take j ++ [b] := by rw [List.take_add_one, hx]; rfl
      obtain ⟨q2, t, hq, ht, e1, e2, e3, e4, e5, e6⟩ := crc_nums (k := .u32) rfl (by decide) (crc (l.take j)) (crc_lt _)
      have hnext : ∀ S, S13 (.string (strOf l)) (.int .i64 0) (.int .u32 (cStep (crc (l.take j)) (bitOf b) : Int)) (.int .i64 ((j + 1 : Nat) : Int)) S → R S H' := fun S hS => hR (j + 1) _ _ (by omega) (Keep.all ⟨hlt, by rw [htk, crc_snoc]; exact hS, rfl⟩)
      have hb := isB_cases (hB b (List.mem_of_getElem? hx))
      rw [e6] at hnext
      clear hR hK h29
      clear e6
      generalize crc (l.take j) = r at e1 e3 e4
      rcases hb with ⟨h1, h2⟩ | ⟨h1, h2⟩ <;> rw [h1] at hat <;> rw [h2] at hnext <;> rcases hq with rfl | rfl
      · repeat' ((conv => whnf); (first
            | refine Branch.dt (by omega) ?_
            | refine Idx.nat (by omega) ?_
            | with_reducible rw [hat]
            | with_reducible refine Val.to _ e1 ?_
            | with_reducible refine Val.to _ e2 ?_
            | with_reducible refine Val.to _ e3 ?_
            | with_reducible refine Val.to _ e4 ?_
            | with_reducible refine Val.to _ e5 ?_
            | refine Branch.f rfl ?_
            | refine hnext _ .mk
            | refine New.mk (fun _ => ?_)
            | refine Look.at0 ?_
            | refine Cell.row ?_
            | refine Cell.buf ?_
            | refine Cells.row rfl ?_
            | refine Put.row rfl ?_
            | refine Put.buf rfl ?_
            | refine Look.at1 ?_
            | refine Look.at2 ?_
            | refine Look.at3 ?_
            | refine Look.at4 ?_
            | refine Look.at5 ?_
            | refine Look.at6 ?_
            | refine Look.at7 ?_
            | refine Look.at8 ?_
            | with_reducible refine Val.i64 (by omega) (by omega) ?_
            | with_reducible refine Val.u8 (by omega) (by omega) ?_
            | with_reducible refine Val.u32 (by omega) (by omega) ?_
            | with_reducible refine Val.u64 (by omega) (by omega) ?_
            | with_reducible refine Val.u8m ?_
            | with_reducible refine Val.u32m ?_
            | with_reducible refine Val.u64m ?_
            | with_reducible refine Val.shr8 ?_
            | with_reducible refine Val.shr16 (by decide) ?_
            | with_reducible refine Val.shr24 (by decide) ?_
            | with_reducible refine Val.raw ?_
            | refine Branch.not ?_
            | refine Branch.and ?_
            | refine Branch.or ?_
            | refine Branch.dt (by assumption) ?_
            | refine Branch.df (by assumption) ?_
            | refine Branch.dt rfl ?_
            | refine Branch.dt (by omega) ?_
            | refine Branch.df (by omega) ?_
            | refine Branch.t rfl ?_
            | refine Branch.f rfl ?_
            | refine Branch.t (by assumption) ?_
            | refine Branch.f (by assumption) ?_
            | refine Branch.d (fun _ => ?_) (fun _ => ?_)
            | refine Branch.mk (fun _ => ?_) (fun _ => ?_)
            | refine Need.mk (by first | omega | decide | rfl) ?_
            | refine Idx.nat (by omega) ?_
            | refine Idx.auto (by first | omega | decide) (by first | omega | decide) ?_
            | refine Cell.ro rfl ?_
            | refine SDraw.all (by kernel_rfl) ?_
            | refine Kept.k0 ?_
            | refine Kept.k1 ?_
            | refine Kept.k2 ?_
            | refine Kept.k3 ?_
            | refine Kept.k4 ?_))
      · repeat' ((conv => whnf); (first
            | refine Branch.dt (by omega) ?_
            | refine Idx.nat (by omega) ?_
            | with_reducible rw [hat]
            | with_reducible refine Val.to _ e1 ?_
            | with_reducible refine Val.to _ e2 ?_
            | with_reducible refine Val.to _ e3 ?_
            | with_reducible refine Val.to _ e4 ?_
            | with_reducible refine Val.to _ e5 ?_
            | refine Branch.t rfl ?_
            | refine hnext _ .mk
            | refine New.mk (fun _ => ?_)
            | refine Look.at0 ?_
            | refine Cell.row ?_
            | refine Cell.buf ?_
            | refine Cells.row rfl ?_
            | refine Put.row rfl ?_
            | refine Put.buf rfl ?_
            | refine Look.at1 ?_
            | refine Look.at2 ?_
            | refine Look.at3 ?_
            | refine Look.at4 ?_
            | refine Look.at5 ?_
            | refine Look.at6 ?_
            | refine Look.at7 ?_
            | refine Look.at8 ?_
            | with_reducible refine Val.i64 (by omega) (by omega) ?_
            | with_reducible refine Val.u8 (by omega) (by omega) ?_
            | with_reducible refine Val.u32 (by omega) (by omega) ?_
            | with_reducible refine Val.u64 (by omega) (by omega) ?_
            | with_reducible refine Val.u8m ?_
            | with_reducible refine Val.u32m ?_
            | with_reducible refine Val.u64m ?_
            | with_reducible refine Val.shr8 ?_
            | with_reducible refine Val.shr16 (by decide) ?_
            | with_reducible refine Val.shr24 (by decide) ?_
            | with_reducible refine Val.raw ?_
            | refine Branch.not ?_
            | refine Branch.and ?_
            | refine Branch.or ?_
            | refine Branch.dt (by assumption) ?_
            | refine Branch.df (by assumption) ?_
            | refine Branch.dt rfl ?_
            | refine Branch.dt (by omega) ?_
            | refine Branch.df (by omega) ?_
            | refine Branch.t rfl ?_
            | refine Branch.f rfl ?_
            | refine Branch.t (by assumption) ?_
            | refine Branch.f (by assumption) ?_
            | refine Branch.d (fun _ => ?_) (fun _ => ?_)
            | refine Branch.mk (fun _ => ?_) (fun _ => ?_)
            | refine Need.mk (by first | omega | decide | rfl) ?_
            | refine Idx.nat (by omega) ?_
            | refine Idx.auto (by first | omega | decide) (by first | omega | decide) ?_
            | refine Cell.ro rfl ?_
            | refine SDraw.all (by kernel_rfl) ?_
            | refine Kept.k0 ?_
            | refine Kept.k1 ?_
            | refine Kept.k2 ?_
            | refine Kept.k3 ?_
            | refine Kept.k4 ?_))
      · repeat' ((conv => whnf); (first
            | refine Branch.dt (by omega) ?_
            | refine Idx.nat (by omega) ?_
            | with_reducible rw [hat]
            | with_reducible refine Val.to _ e1 ?_
            | with_reducible refine Val.to _ e2 ?_
            | with_reducible refine Val.to _ e3 ?_
            | with_reducible refine Val.to _ e4 ?_
            | with_reducible refine Val.to _ e5 ?_
            | refine Branch.t rfl ?_
            | refine hnext _ .mk
            | refine New.mk (fun _ => ?_)
            | refine Look.at0 ?_
            | refine Cell.row ?_
            | refine Cell.buf ?_
            | refine Cells.row rfl ?_
            | refine Put.row rfl ?_
            | refine Put.buf rfl ?_
            | refine Look.at1 ?_
            | refine Look.at2 ?_
            | refine Look.at3 ?_
            | refine Look.at4 ?_
            | refine Look.at5 ?_
            | refine Look.at6 ?_
            | refine Look.at7 ?_
            | refine Look.at8 ?_
            | with_reducible refine Val.i64 (by omega) (by omega) ?_
            | with_reducible refine Val.u8 (by omega) (by omega) ?_
            | with_reducible refine Val.u32 (by omega) (by omega) ?_
            | with_reducible refine Val.u64 (by omega) (by omega) ?_
            | with_reducible refine Val.u8m ?_
            | with_reducible refine Val.u32m ?_
            | with_reducible refine Val.u64m ?_
            | with_reducible refine Val.shr8 ?_
            | with_reducible refine Val.shr16 (by decide) ?_
            | with_reducible refine Val.shr24 (by decide) ?_
            | with_reducible refine Val.raw ?_
            | refine Branch.not ?_
            | refine Branch.and ?_
            | refine Branch.or ?_
            | refine Branch.dt (by assumption) ?_
            | refine Branch.df (by assumption) ?_
            | refine Branch.dt rfl ?_
            | refine Branch.dt (by omega) ?_
            | refine Branch.df (by omega) ?_
            | refine Branch.t rfl ?_
            | refine Branch.f rfl ?_
            | refine Branch.t (by assumption) ?_
            | refine Branch.f (by assumption) ?_
            | refine Branch.d (fun _ => ?_) (fun _ => ?_)
            | refine Branch.mk (fun _ => ?_) (fun _ => ?_)
            | refine Need.mk (by first | omega | decide | rfl) ?_
            | refine Idx.nat (by omega) ?_
            | refine Idx.auto (by first | omega | decide) (by first | omega | decide) ?_
            | refine Cell.ro rfl ?_
            | refine SDraw.all (by kernel_rfl) ?_
            | refine Kept.k0 ?_
            | refine Kept.k1 ?_
            | refine Kept.k2 ?_
            | refine Kept.k3 ?_
            | refine Kept.k4 ?_))
      · repeat' ((conv => whnf); (first
            | refine Branch.dt (by omega) ?_
            | refine Idx.nat (by omega) ?_
            | with_reducible rw [hat]
            | with_reducible refine Val.to _ e1 ?_
            | with_reducible refine Val.to _ e2 ?_
            | with_reducible refine Val.to _ e3 ?_
            | with_reducible refine Val.to _ e4 ?_
            | with_reducible refine Val.to _ e5 ?_
            | refine Branch.f rfl ?_
            | refine hnext _ .mk
            | refine New.mk (fun _ => ?_)
            | refine Look.at0 ?_
            | refine Cell.row ?_
            | refine Cell.buf ?_
            | refine Cells.row rfl ?_
            | refine Put.row rfl ?_
            | refine Put.buf rfl ?_
            | refine Look.at1 ?_
            | refine Look.at2 ?_
            | refine Look.at3 ?_
            | refine Look.at4 ?_
            | refine Look.at5 ?_
            | refine Look.at6 ?_
            | refine Look.at7 ?_
            | refine Look.at8 ?_
            | with_reducible refine Val.i64 (by omega) (by omega) ?_
            | with_reducible refine Val.u8 (by omega) (by omega) ?_
            | with_reducible refine Val.u32 (by omega) (by omega) ?_
            | with_reducible refine Val.u64 (by omega) (by omega) ?_
            | with_reducible refine Val.u8m ?_
            | with_reducible refine Val.u32m ?_
            | with_reducible refine Val.u64m ?_
            | with_reducible refine Val.shr8 ?_
            | with_reducible refine Val.shr16 (by decide) ?_
            | with_reducible refine Val.shr24 (by decide) ?_
            | with_reducible refine Val.raw ?_
            | refine Branch.not ?_
            | refine Branch.and ?_
            | refine Branch.or ?_
            | refine Branch.dt (by assumption) ?_
            | refine Branch.df (by assumption) ?_
            | refine Branch.dt rfl ?_
            | refine Branch.dt (by omega) ?_
            | refine Branch.df (by omega) ?_
            | refine Branch.t rfl ?_
            | refine Branch.f rfl ?_
            | refine Branch.t (by assumption) ?_
            | refine Branch.f (by assumption) ?_
            | refine Branch.d (fun _ => ?_) (fun _ => ?_)
            | refine Branch.mk (fun _ => ?_) (fun _ => ?_)
            | refine Need.mk (by first | omega | decide | rfl) ?_
            | refine Idx.nat (by omega) ?_
            | refine Idx.auto (by first | omega | decide) (by first | omega | decide) ?_
            | refine Cell.ro rfl ?_
            | refine SDraw.all (by kernel_rfl) ?_
            | refine Kept.k0 ?_
            | refine Kept.k1 ?_
            | refine Kept.k2 ?_
            | refine Kept.k3 ?_
            | refine Kept.k4 ?_))
    · have e : j = l.length := by omega
      subst e
      rw [List.take_length]
      have := crc_lt l
      clear hR h29
      repeat' ((conv => whnf); (first
          | refine Branch.df (by omega) ?_
          | with_reducible refine Val.u16 (by omega) (by omega) ?_
          | with_reducible exact Keep.all hK
          | refine New.mk (fun _ => ?_)
          | refine Look.at0 ?_
          | refine Cell.row ?_
          | refine Cell.buf ?_
          | refine Cells.row rfl ?_
          | refine Put.row rfl ?_
          | refine Put.buf rfl ?_
          | refine Look.at1 ?_
          | refine Look.at2 ?_
          | refine Look.at3 ?_
          | refine Look.at4 ?_
          | refine Look.at5 ?_
          | refine Look.at6 ?_
          | refine Look.at7 ?_
          | refine Look.at8 ?_
          | with_reducible refine Val.i64 (by omega) (by omega) ?_
          | with_reducible refine Val.u8 (by omega) (by omega) ?_
          | with_reducible refine Val.u32 (by omega) (by omega) ?_
          | with_reducible refine Val.u64 (by omega) (by omega) ?_
          | with_reducible refine Val.u8m ?_
          | with_reducible refine Val.u32m ?_
          | with_reducible refine Val.u64m ?_
          | with_reducible refine Val.shr8 ?_
          | with_reducible refine Val.shr16 (by decide) ?_
          | with_reducible refine Val.shr24 (by decide) ?_
          | with_reducible refine Val.raw ?_
          | refine Branch.not ?_
          | refine Branch.and ?_
          | refine Branch.or ?_
          | refine Branch.dt (by assumption) ?_
          | refine Branch.df (by assumption) ?_
          | refine Branch.dt rfl ?_
          | refine Branch.dt (by omega) ?_
          | refine Branch.df (by omega) ?_
          | refine Branch.t rfl ?_
          | refine Branch.f rfl ?_
          | refine Branch.t (by assumption) ?_
          | refine Branch.f (by assumption) ?_
          | refine Branch.d (fun _ => ?_) (fun _ => ?_)
          | refine Branch.mk (fun _ => ?_) (fun _ => ?_)
          | refine Need.mk (by first | omega | decide | rfl) ?_
          | refine Idx.nat (by omega) ?_
          | refine Idx.auto (by first | omega | decide) (by first | omega | decide) ?_
          | refine Cell.ro rfl ?_
          | refine SDraw.all (by kernel_rfl) ?_
          | refine Kept.k0 ?_
          | refine Kept.k1 ?_
          | refine Kept.k2 ?_
          | refine Kept.k3 ?_
          | refine Kept.k4 ?_))
  · rw [if_neg h0] at hK
    have h29 := fun (K : Value → Heap → Prop) hk => c29 (l := l) (K := K) (H := H) hk
    generalize chk l = v at h0 hK h29
    repeat' ((conv => whnf); (first
        | with_reducible refine h29 _ ?_
        | refine Branch.t (by simp [h0]; done) ?_
        | with_reducible exact Keep.all hK
        | refine New.mk (fun _ => ?_)
        | refine Look.at0 ?_
        | refine Cell.row ?_
        | refine Cell.buf ?_
        | refine Cells.row rfl ?_
        | refine Put.row rfl ?_
        | refine Put.buf rfl ?_
        | refine Look.at1 ?_
        | refine Look.at2 ?_
        | refine Look.at3 ?_
        | refine Look.at4 ?_
        | refine Look.at5 ?_
        | refine Look.at6 ?_
        | refine Look.at7 ?_
        | refine Look.at8 ?_
        | with_reducible refine Val.i64 (by omega) (by omega) ?_
        | with_reducible refine Val.u8 (by omega) (by omega) ?_
        | with_reducible refine Val.u32 (by omega) (by omega) ?_
        | with_reducible refine Val.u64 (by omega) (by omega) ?_
        | with_reducible refine Val.u8m ?_
        | with_reducible refine Val.u32m ?_
        | with_reducible refine Val.u64m ?_
        | with_reducible refine Val.shr8 ?_
        | with_reducible refine Val.shr16 (by decide) ?_
        | with_reducible refine Val.shr24 (by decide) ?_
        | with_reducible refine Val.raw ?_
        | refine Branch.not ?_
        | refine Branch.and ?_
        | refine Branch.or ?_
        | refine Branch.dt (by assumption) ?_
        | refine Branch.df (by assumption) ?_
        | refine Branch.dt rfl ?_
        | refine Branch.dt (by omega) ?_
        | refine Branch.df (by omega) ?_
        | refine Branch.t rfl ?_
        | refine Branch.f rfl ?_
        | refine Branch.t (by assumption) ?_
        | refine Branch.f (by assumption) ?_
        | refine Branch.d (fun _ => ?_) (fun _ => ?_)
        | refine Branch.mk (fun _ => ?_) (fun _ => ?_)
        | refine Need.mk (by first | omega | decide | rfl) ?_
        | refine Idx.nat (by omega) ?_
        | refine Idx.auto (by first | omega | decide) (by first | omega | decide) ?_
        | refine Cell.ro rfl ?_
        | refine SDraw.all (by kernel_rfl) ?_
        | refine Kept.k0 ?_
        | refine Kept.k1 ?_
        | refine Kept.k2 ?_
        | refine Kept.k3 ?_
        | refine Kept.k4 ?_))
end
end Go.Proofs.YtijnjklofdmelaaDoor

/- Layer 1: the builder of a text: by walks. -/
set_option linter.unusedVariables false
set_option linter.unusedSimpArgs false
set_option maxRecDepth 100000
set_option maxHeartbeats 4000000
namespace Go.Proofs.YtijnjklofdmelaaDoor
open Sx
/-- A builder may lie at place o of a row of type T. -/
def BT (T o : Nat) : Prop := liesAt Tryd.prog Tryd.prog.depth T ((o + 2) / Tryd.prog.cellsOf T) o 55 1 = true
theorem bt55 : BT 55 0 := by unfold BT; kernel_rfl
abbrev bRow (T r : Nat) (pre : List Value) (p sv : Value) : Nat × Blk := (r, .row T (pre ++ [p, sv]) (0, 0))
abbrev bPtr (r : Nat) (pre : List Value) : Value := .pointer (some ⟨r, pre.length, none⟩)
/-- A builder behind pre, with the bytes bs. -/
inductive Bld (T r : Nat) (pre : List Value) (bs : List UInt8) : Heap → Prop
  | mk {p sv : Value} {M : Heap} : (p = .pointer none ∨ p = bPtr r pre) → BufV 5 sv bs M → Bld T r pre bs (bRow T r pre p sv :: M)
theorem Bld.new {T r : Nat} {pre : List Value} : Bld T r pre [] [(r, .row T (pre ++ [.pointer none, .slice none 0 0]) (0, 0))] := .mk (.inl rfl) .nil
section
variable {K : Value → Heap → Prop} {H : Heap} {T r : Nat} {pre : List Value} {bs l : List UInt8} {N : Heap}
theorem pre0 (p sv : Value) : (pre ++ [p, sv])[pre.length + 0]? = some p := by simp
theorem pre1 (p sv : Value) : (pre ++ [p, sv])[pre.length + 1]? = some sv := by
  rw [List.getElem?_append_right (by omega)]; simp
theorem set0 (p sv p' : Value) : (pre ++ [p, sv]).take (pre.length + 0) ++ [p'] ++ (pre ++ [p, sv]).drop (pre.length + 0 + [p'].length) = pre ++ [p', sv] := by
  rw [Nat.add_zero, List.take_left, List.drop_append]; simp
theorem set1 (p sv sv' : Value) : (pre ++ [p, sv]).take (pre.length + 1) ++ [sv'] ++ (pre ++ [p, sv]).drop (pre.length + 1 + [sv'].length) = pre ++ [p, sv'] := by
  rw [List.take_append, List.drop_append, List.take_of_length_le (show pre.length ≤ pre.length + 1 by omega), List.drop_eq_nil_of_le (show pre.length ≤ pre.length + 1 + [sv'].length by omega), show pre.length + 1 - pre.length = 1 by omega, show pre.length + 1 + [sv'].length - pre.length = 2 by simp; omega]
  simp
theorem c41 (hT : BT T pre.length) (hN : Bld T r pre bs N) (hK : ∀ sv M, BufV 5 sv bs M → K (.tuple ⟨[]⟩) (bRow T r pre (bPtr r pre) sv :: M)) : SCalls Tryd.prog 41 [bPtr r pre] N K := by
  cases hN with
  | @mk p sv M hp hb =>
    have hk := hK sv M hb
    refine enter41 ?_
    have h0 : (Blk.row T (pre ++ [p, sv]) (0, 0)).cell (pre.length + 0) = some p := pre0 p sv
    have hput : PutOk (.row T (pre ++ [p, sv]) (0, 0)) (pre.length + 0) [bPtr r pre] (.row T (pre ++ [bPtr r pre, sv]) (0, 0)) := PutOk.row (by simp) (set0 p sv _)
    have hlt : pre.length < (pre ++ [p, sv]).length := by simp
    have hlies : liesAt Tryd.prog Tryd.prog.depth T ((pre ++ [p, sv]).length / Tryd.prog.cellsOf T) pre.length 55 1 = true := by
      rw [List.length_append]; exact hT
    rcases hp with rfl | rfl
    · repeat' ((conv => whnf); (first
          | refine Look.cell (.head _) h0 ?_
          | refine Branch.t rfl ?_
          | refine RawV.toUnsafe (src := 53) (dst := 86) (t := 55) rfl (by kernel_rfl) (by kernel_rfl) (by kernel_rfl) (.head _) hlt ?_
          | refine RawV.extern rfl Tryd.func58 (by kernel_rfl) (by kernel_rfl) (by kernel_rfl) (e := Extern.AbiNoEscape.same) (v := bPtr r pre) (by kernel_rfl) (fun _ => rfl) ?_
          | refine RawV.ofUnsafe (src := 86) (dst := 53) (t := 55) rfl (by kernel_rfl) (by kernel_rfl) (by kernel_rfl) (.head _) hlies ?_
          | refine ⟨[], _, M, rfl, _, hput, appK_to ?_⟩
          | exact Keep.all hk
          | refine New.mk (fun _ => ?_)
          | refine Look.at0 ?_
          | refine Cell.row ?_
          | refine Cell.buf ?_
          | refine Cells.row rfl ?_
          | refine Put.row rfl ?_
          | refine Put.buf rfl ?_
          | refine Look.at1 ?_
          | refine Look.at2 ?_
          | refine Look.at3 ?_
          | refine Look.at4 ?_
          | refine Look.at5 ?_
          | refine Look.at6 ?_
          | refine Look.at7 ?_
          | refine Look.at8 ?_
          | with_reducible refine Val.i64 (by omega) (by omega) ?_
          | with_reducible refine Val.u8 (by omega) (by omega) ?_
          | with_reducible refine Val.u32 (by omega) (by omega) ?_
          | with_reducible refine Val.u64 (by omega) (by omega) ?_
          | with_reducible refine Val.u8m ?_
          | with_reducible refine Val.u32m ?_
          | with_reducible refine Val.u64m ?_
          | with_reducible refine Val.shr8 ?_
          | with_reducible refine Val.shr16 (by decide) ?_
          | with_reducible refine Val.shr24 (by decide) ?_
          | with_reducible refine Val.raw ?_
          | refine Branch.not ?_
          | refine Branch.and ?_
          | refine Branch.or ?_
          | refine Branch.dt (by assumption) ?_
          | refine Branch.df (by assumption) ?_
          | refine Branch.dt rfl ?_
          | refine Branch.dt (by omega) ?_
          | refine Branch.df (by omega) ?_
          | refine Branch.t rfl ?_
          | refine Branch.f rfl ?_
          | refine Branch.t (by assumption) ?_
          | refine Branch.f (by assumption) ?_
          | refine Branch.d (fun _ => ?_) (fun _ => ?_)
          | refine Branch.mk (fun _ => ?_) (fun _ => ?_)
          | refine Need.mk (by first | omega | decide | rfl) ?_
          | refine Idx.nat (by omega) ?_
          | refine Idx.auto (by first | omega | decide) (by first | omega | decide) ?_
          | refine Cell.ro rfl ?_
          | refine SDraw.all (by kernel_rfl) ?_
          | refine Kept.k0 ?_
          | refine Kept.k1 ?_
          | refine Kept.k2 ?_
          | refine Kept.k3 ?_
          | refine Kept.k4 ?_))
    · repeat' ((conv => whnf); (first
          | refine Look.cell (.head _) h0 ?_
          | refine Branch.f rfl ?_
          | refine PEq.same rfl ?_
          | refine Branch.f (by simp; done) ?_
          | exact Keep.all hk
          | refine New.mk (fun _ => ?_)
          | refine Look.at0 ?_
          | refine Cell.row ?_
          | refine Cell.buf ?_
          | refine Cells.row rfl ?_
          | refine Put.row rfl ?_
          | refine Put.buf rfl ?_
          | refine Look.at1 ?_
          | refine Look.at2 ?_
          | refine Look.at3 ?_
          | refine Look.at4 ?_
          | refine Look.at5 ?_
          | refine Look.at6 ?_
          | refine Look.at7 ?_
          | refine Look.at8 ?_
          | with_reducible refine Val.i64 (by omega) (by omega) ?_
          | with_reducible refine Val.u8 (by omega) (by omega) ?_
          | with_reducible refine Val.u32 (by omega) (by omega) ?_
          | with_reducible refine Val.u64 (by omega) (by omega) ?_
          | with_reducible refine Val.u8m ?_
          | with_reducible refine Val.u32m ?_
          | with_reducible refine Val.u64m ?_
          | with_reducible refine Val.shr8 ?_
          | with_reducible refine Val.shr16 (by decide) ?_
          | with_reducible refine Val.shr24 (by decide) ?_
          | with_reducible refine Val.raw ?_
          | refine Branch.not ?_
          | refine Branch.and ?_
          | refine Branch.or ?_
          | refine Branch.dt (by assumption) ?_
          | refine Branch.df (by assumption) ?_
          | refine Branch.dt rfl ?_
          | refine Branch.dt (by omega) ?_
          | refine Branch.df (by omega) ?_
          | refine Branch.t rfl ?_
          | refine Branch.f rfl ?_
          | refine Branch.t (by assumption) ?_
          | refine Branch.f (by assumption) ?_
          | refine Branch.d (fun _ => ?_) (fun _ => ?_)
          | refine Branch.mk (fun _ => ?_) (fun _ => ?_)
          | refine Need.mk (by first | omega | decide | rfl) ?_
          | refine Idx.nat (by omega) ?_
          | refine Idx.auto (by first | omega | decide) (by first | omega | decide) ?_
          | refine Cell.ro rfl ?_
          | refine SDraw.all (by kernel_rfl) ?_
          | refine Kept.k0 ?_
          | refine Kept.k1 ?_
          | refine Kept.k2 ?_
          | refine Kept.k3 ?_
          | refine Kept.k4 ?_))
theorem c42 {M : Heap} {sv : Value} {b : UInt8} (hb : BufV 5 sv bs M) (h128 : b.toNat < 128) (hl : bs.length + 1 ≤ 140737488355328) (hK : ∀ sv' M', BufV 5 sv' (bs ++ [b]) M' → K sv' M') : SCalls Tryd.prog 42 [sv, .int .i32 (b.toNat : Int)] M K := by
  refine enter42 ?_
  have hc : ∀ (q : Nat) j x, [b][j]? = some x → (Blk.row 5 [.int .u8 (b.toNat : Int)] (0, 0)).cell (0 + j) = some (.int .u8 (x.toNat : Int)) := by
    intro q j x hj
    match j, hj with
    | 0, hj => injection hj with hj; subst hj; rfl
  have happ : ∀ (q : Nat) (o : Oper) (xs xx : Operand) (K2 : Value → Heap → Prop), o.op = .call { callee := .builtin .append, args := #[xs, xx], argTypes := #[27, 27] } → (∀ a' c' M', BufV 5 (.slice a' (bs ++ [b]).length c') (bs ++ [b]) M' → K2 (.slice a' (bs ++ [b]).length c') ((q, Blk.row 5 [.int .u8 (b.toNat : Int)] (0, 0)) :: M')) →
      RawV Tryd.prog o [sv, .slice (some ⟨q, 0, none⟩) 1 1] ((q, Blk.row 5 [.int .u8 (b.toNat : Int)] (0, 0)) :: M) K2 := by
    intro q o xs xx K2 ho hk
    have := RawV.appBytes (P := Tryd.prog) (c := 1) (A := [(q, Blk.row 5 [.int .u8 (b.toNat : Int)] (0, 0))]) (B := []) (l := [b]) (K := K2) ho (by kernel_rfl) (by kernel_rfl) hb (.head _) rfl Nat.one_pos (hc q) hl (fun sv' N' h => by rw [List.append_nil]; obtain ⟨a', c', rfl⟩ := h.len; exact hk a' c' N' h)
    rw [List.append_nil] at this
    exact this
  obtain ⟨a, c, rfl⟩ := hb.len
  repeat' ((conv => whnf); (first
      | with_reducible refine Val.u32 (by omega) (by omega) ?_
      | refine Branch.dt (by omega) ?_
      | with_reducible refine happ _ _ _ _ _ rfl (fun a' c' M' hb' => ?_)
      | exact Keep.d1 (hK _ _ hb')
      | refine New.mk (fun _ => ?_)
      | refine Look.at0 ?_
      | refine Cell.row ?_
      | refine Cell.buf ?_
      | refine Cells.row rfl ?_
      | refine Put.row rfl ?_
      | refine Put.buf rfl ?_
      | refine Look.at1 ?_
      | refine Look.at2 ?_
      | refine Look.at3 ?_
      | refine Look.at4 ?_
      | refine Look.at5 ?_
      | refine Look.at6 ?_
      | refine Look.at7 ?_
      | refine Look.at8 ?_
      | with_reducible refine Val.i64 (by omega) (by omega) ?_
      | with_reducible refine Val.u8 (by omega) (by omega) ?_
      | with_reducible refine Val.u32 (by omega) (by omega) ?_
      | with_reducible refine Val.u64 (by omega) (by omega) ?_
      | with_reducible refine Val.u8m ?_
      | with_reducible refine Val.u32m ?_
      | with_reducible refine Val.u64m ?_
      | with_reducible refine Val.shr8 ?_
      | with_reducible refine Val.shr16 (by decide) ?_
      | with_reducible refine Val.shr24 (by decide) ?_
      | with_reducible refine Val.raw ?_
      | refine Branch.not ?_
      | refine Branch.and ?_
      | refine Branch.or ?_
      | refine Branch.dt (by assumption) ?_
      | refine Branch.df (by assumption) ?_
      | refine Branch.dt rfl ?_
      | refine Branch.dt (by omega) ?_
      | refine Branch.df (by omega) ?_
      | refine Branch.t rfl ?_
      | refine Branch.f rfl ?_
      | refine Branch.t (by assumption) ?_
      | refine Branch.f (by assumption) ?_
      | refine Branch.d (fun _ => ?_) (fun _ => ?_)
      | refine Branch.mk (fun _ => ?_) (fun _ => ?_)
      | refine Need.mk (by first | omega | decide | rfl) ?_
      | refine Idx.nat (by omega) ?_
      | refine Idx.auto (by first | omega | decide) (by first | omega | decide) ?_
      | refine Cell.ro rfl ?_
      | refine SDraw.all (by kernel_rfl) ?_
      | refine Kept.k0 ?_
      | refine Kept.k1 ?_
      | refine Kept.k2 ?_
      | refine Kept.k3 ?_
      | refine Kept.k4 ?_))
theorem c33 {b : UInt8} (hT : BT T pre.length) (hN : Bld T r pre bs N) (h128 : b.toNat < 128) (hl : bs.length + 1 ≤ 140737488355328) (hK : ∀ N', Bld T r pre (bs ++ [b]) N' → K (.tuple ⟨[.int .i64 1, .nilIface]⟩) N') : SCalls Tryd.prog 33 [bPtr r pre, .int .i32 (b.toNat : Int)] N K := by
  refine enter33 ?_
  have h41 : ∀ (K2 : Value → Heap → Prop), (∀ a c M, BufV 5 (.slice a bs.length c) bs M → K2 (.tuple ⟨[]⟩) (bRow T r pre (bPtr r pre) (.slice a bs.length c) :: M)) → SCalls Tryd.prog 41 [bPtr r pre] N K2 := fun K2 hk => c41 hT hN (fun sv M hb => by
    obtain ⟨a, c, rfl⟩ := hb.len
    exact hk a c M hb)
  have h1 : ∀ sv, (Blk.row T (pre ++ [bPtr r pre, sv]) (0, 0)).cell (pre.length + 1) = some sv := fun sv => pre1 _ sv
  have hput : ∀ sv sv', PutOk (.row T (pre ++ [bPtr r pre, sv]) (0, 0)) (pre.length + 1) [sv'] (.row T (pre ++ [bPtr r pre, sv']) (0, 0)) := fun sv sv' => PutOk.row (by simp) (set1 _ sv sv')
  have h42 : ∀ a c M (K2 : Value → Heap → Prop), BufV 5 (.slice a bs.length c) bs M → (∀ a' c' M', BufV 5 (.slice a' (bs ++ [b]).length c') (bs ++ [b]) M' → K2 (.slice a' (bs ++ [b]).length c') (bRow T r pre (bPtr r pre) (.slice a bs.length c) :: M')) →
      SCalls Tryd.prog 42 [.slice a bs.length c, .int .i32 (b.toNat : Int)] (bRow T r pre (bPtr r pre) (.slice a bs.length c) :: M) K2 := by
    intro a c M K2 hb hk
    refine SCalls.under [_] (c42 hb h128 hl (fun sv' M' hb' => ?_))
    obtain ⟨a', c', rfl⟩ := hb'.len
    exact hk a' c' M' hb'
  have hlen : ((bs ++ [b]).length : Int) = (bs.length : Int) + 1 := by simp
  clear hN
  repeat' ((conv => whnf); (first
      | with_reducible refine h41 _ (fun a c M hb => ?_)
      | refine Look.cell (.head _) (h1 _) ?_
      | with_reducible refine h42 _ _ _ _ hb (fun a' c' M' hb' => ?_)
      | refine ⟨[], _, M', rfl, _, hput _ _, appK_to ?_⟩
      | with_reducible refine Val.to 1 (by rw [wrap_i64 (by omega) (by omega)]; omega) ?_
      | exact Keep.all (hK _ (.mk (.inr rfl) hb'))
      | refine New.mk (fun _ => ?_)
      | refine Look.at0 ?_
      | refine Cell.row ?_
      | refine Cell.buf ?_
      | refine Cells.row rfl ?_
      | refine Put.row rfl ?_
      | refine Put.buf rfl ?_
      | refine Look.at1 ?_
      | refine Look.at2 ?_
      | refine Look.at3 ?_
      | refine Look.at4 ?_
      | refine Look.at5 ?_
      | refine Look.at6 ?_
      | refine Look.at7 ?_
      | refine Look.at8 ?_
      | with_reducible refine Val.i64 (by omega) (by omega) ?_
      | with_reducible refine Val.u8 (by omega) (by omega) ?_
      | with_reducible refine Val.u32 (by omega) (by omega) ?_
      | with_reducible refine Val.u64 (by omega) (by omega) ?_
      | with_reducible refine Val.u8m ?_
      | with_reducible refine Val.u32m ?_
      | with_reducible refine Val.u64m ?_
      | with_reducible refine Val.shr8 ?_
      | with_reducible refine Val.shr16 (by decide) ?_
      | with_reducible refine Val.shr24 (by decide) ?_
      | with_reducible refine Val.raw ?_
      | refine Branch.not ?_
      | refine Branch.and ?_
      | refine Branch.or ?_
      | refine Branch.dt (by assumption) ?_
      | refine Branch.df (by assumption) ?_
      | refine Branch.dt rfl ?_
      | refine Branch.dt (by omega) ?_
      | refine Branch.df (by omega) ?_
      | refine Branch.t rfl ?_
      | refine Branch.f rfl ?_
      | refine Branch.t (by assumption) ?_
      | refine Branch.f (by assumption) ?_
      | refine Branch.d (fun _ => ?_) (fun _ => ?_)
      | refine Branch.mk (fun _ => ?_) (fun _ => ?_)
      | refine Need.mk (by first | omega | decide | rfl) ?_
      | refine Idx.nat (by omega) ?_
      | refine Idx.auto (by first | omega | decide) (by first | omega | decide) ?_
      | refine Cell.ro rfl ?_
      | refine SDraw.all (by kernel_rfl) ?_
      | refine Kept.k0 ?_
      | refine Kept.k1 ?_
      | refine Kept.k2 ?_
      | refine Kept.k3 ?_
      | refine Kept.k4 ?_))
theorem c41s (hT : BT T pre.length) (hN : Bld T r pre bs N) (K2 : Value → Heap → Prop) (hk : ∀ a c M, BufV 5 (.slice a bs.length c) bs M → K2 (.tuple ⟨[]⟩) (bRow T r pre (bPtr r pre) (.slice a bs.length c) :: M)) : SCalls Tryd.prog 41 [bPtr r pre] N K2 :=
  c41 hT hN (fun sv M hb => by
    obtain ⟨a, c, rfl⟩ := hb.len
    exact hk a c M hb)
theorem c46 (hT : BT T pre.length) (hN : Bld T r pre bs N) (hl : bs.length + l.length ≤ 140737488355328) (hK : ∀ N', Bld T r pre (bs ++ l) N' → K (.tuple ⟨[.int .i64 (l.length : Int), .nilIface]⟩) N') : SCalls Tryd.prog 46 [bPtr r pre, .string (strOf l)] N K := by
  refine enter46 ?_
  have h41 := c41s hT hN
  have h1 : ∀ sv, (Blk.row T (pre ++ [bPtr r pre, sv]) (0, 0)).cell (pre.length + 1) = some sv := fun sv => pre1 _ sv
  have hput : ∀ sv sv', PutOk (.row T (pre ++ [bPtr r pre, sv]) (0, 0)) (pre.length + 1) [sv'] (.row T (pre ++ [bPtr r pre, sv']) (0, 0)) := fun sv sv' => PutOk.row (by simp) (set1 _ sv sv')
  have happ : ∀ a c M, BufV 5 (.slice a bs.length c) bs M → ∀ (o : Oper) (xs xx : Operand) (K2 : Value → Heap → Prop), o.op = .call { callee := .builtin .append, args := #[xs, xx], argTypes := #[27, 9] } →
      (∀ a' c' M', BufV 5 (.slice a' (bs ++ l).length c') (bs ++ l) M' → K2 (.slice a' (bs ++ l).length c') (bRow T r pre (bPtr r pre) (.slice a bs.length c) :: M')) →
      RawV Tryd.prog o [.slice a bs.length c, .string (strOf l)] (bRow T r pre (bPtr r pre) (.slice a bs.length c) :: M) K2 := by
    intro a c M hb o xs xx K2 ho hk
    have := RawV.appStr (P := Tryd.prog) (A := [bRow T r pre (bPtr r pre) (.slice a bs.length c)]) (B := []) (l := l) (K := K2) ho (by kernel_rfl) (by kernel_rfl) (by kernel_rfl) hb hl (fun sv' N' h => by rw [List.append_nil]; obtain ⟨a', c', rfl⟩ := h.len; exact hk a' c' N' h)
    rw [List.append_nil] at this
    exact this
  have hsz : ((strOf l).size : Int) = (l.length : Int) := by rw [strOf_size]
  clear hN
  repeat' ((conv => whnf); (first
      | with_reducible refine h41 _ (fun a c M hb => ?_)
      | refine Look.cell (.head _) (h1 _) ?_
      | with_reducible refine happ _ _ _ hb _ _ _ _ rfl (fun a' c' M' hb' => ?_)
      | refine ⟨[], _, M', rfl, _, hput _ _, appK_to ?_⟩
      | (rw [hsz]; exact Keep.all (hK _ (.mk (.inr rfl) hb')))
      | refine New.mk (fun _ => ?_)
      | refine Look.at0 ?_
      | refine Cell.row ?_
      | refine Cell.buf ?_
      | refine Cells.row rfl ?_
      | refine Put.row rfl ?_
      | refine Put.buf rfl ?_
      | refine Look.at1 ?_
      | refine Look.at2 ?_
      | refine Look.at3 ?_
      | refine Look.at4 ?_
      | refine Look.at5 ?_
      | refine Look.at6 ?_
      | refine Look.at7 ?_
      | refine Look.at8 ?_
      | with_reducible refine Val.i64 (by omega) (by omega) ?_
      | with_reducible refine Val.u8 (by omega) (by omega) ?_
      | with_reducible refine Val.u32 (by omega) (by omega) ?_
      | with_reducible refine Val.u64 (by omega) (by omega) ?_
      | with_reducible refine Val.u8m ?_
      | with_reducible refine Val.u32m ?_
      | with_reducible refine Val.u64m ?_
      | with_reducible refine Val.shr8 ?_
      | with_reducible refine Val.shr16 (by decide) ?_
      | with_reducible refine Val.shr24 (by decide) ?_
      | with_reducible refine Val.raw ?_
      | refine Branch.not ?_
      | refine Branch.and ?_
      | refine Branch.or ?_
      | refine Branch.dt (by assumption) ?_
      | refine Branch.df (by assumption) ?_
      | refine Branch.dt rfl ?_
      | refine Branch.dt (by omega) ?_
      | refine Branch.df (by omega) ?_
      | refine Branch.t rfl ?_
      | refine Branch.f rfl ?_
      | refine Branch.t (by assumption) ?_
      | refine Branch.f (by assumption) ?_
      | refine Branch.d (fun _ => ?_) (fun _ => ?_)
      | refine Branch.mk (fun _ => ?_) (fun _ => ?_)
      | refine Need.mk (by first | omega | decide | rfl) ?_
      | refine Idx.nat (by omega) ?_
      | refine Idx.auto (by first | omega | decide) (by first | omega | decide) ?_
      | refine Cell.ro rfl ?_
      | refine SDraw.all (by kernel_rfl) ?_
      | refine Kept.k0 ?_
      | refine Kept.k1 ?_
      | refine Kept.k2 ?_
      | refine Kept.k3 ?_
      | refine Kept.k4 ?_))
theorem c36 (hN : Bld T r pre bs N) (hK : ∀ N', Bld T r pre bs N' → K (.string (strOf bs)) N') : SCalls Tryd.prog 36 [bPtr r pre] N K := by
  refine enter36 ?_
  cases hN with
  | @mk p sv M hp hb =>
    obtain ⟨a, c, rfl⟩ := hb.len
    have h1 : (Blk.row T (pre ++ [p, .slice a bs.length c]) (0, 0)).cell (pre.length + 1) = some (.slice a bs.length c) := pre1 _ _
    have hcn : a = none ∨ c ≠ 0 := by
      generalize hsv : Value.slice a bs.length c = sv at hb
      cases hb with
      | nil => injection hsv with e1 _ _; exact .inl e1
      | row _ _ _ h0 => injection hsv with _ _ e3; exact .inr (by omega)
    have hun : ∀ (o : Oper) (x y : Operand) (K2 : Value → Heap → Prop), o.op = .call { callee := .builtin .unsafeString, args := #[x, y], argTypes := #[72, 3] } → (∀ M', BufV 5 (.slice a bs.length c) bs M' → K2 (.string (strOf bs)) (bRow T r pre p (.slice a bs.length c) :: M')) →
        RawV Tryd.prog o [.pointer a, .int .i64 (bs.length : Int)] (bRow T r pre p (.slice a bs.length c) :: M) K2 := by
      intro o x y K2 ho hk
      have := RawV.unsafeStr (P := Tryd.prog) (A := [bRow T r pre p (.slice a bs.length c)]) (B := []) (K := K2) ho (by kernel_rfl) (by kernel_rfl) hb (fun N' h => by rw [List.append_nil]; exact hk N' h)
      rw [List.append_nil] at this
      exact this
    repeat' ((conv => whnf); (first
        | refine Look.cell (.head _) h1 ?_
        | refine RawV.sliceData rfl hcn ?_
        | with_reducible refine hun _ _ _ _ rfl (fun M' hb' => ?_)
        | exact Keep.all (hK _ (.mk hp hb'))
        | refine New.mk (fun _ => ?_)
        | refine Look.at0 ?_
        | refine Cell.row ?_
        | refine Cell.buf ?_
        | refine Cells.row rfl ?_
        | refine Put.row rfl ?_
        | refine Put.buf rfl ?_
        | refine Look.at1 ?_
        | refine Look.at2 ?_
        | refine Look.at3 ?_
        | refine Look.at4 ?_
        | refine Look.at5 ?_
        | refine Look.at6 ?_
        | refine Look.at7 ?_
        | refine Look.at8 ?_
        | with_reducible refine Val.i64 (by omega) (by omega) ?_
        | with_reducible refine Val.u8 (by omega) (by omega) ?_
        | with_reducible refine Val.u32 (by omega) (by omega) ?_
        | with_reducible refine Val.u64 (by omega) (by omega) ?_
        | with_reducible refine Val.u8m ?_
        | with_reducible refine Val.u32m ?_
        | with_reducible refine Val.u64m ?_
        | with_reducible refine Val.shr8 ?_
        | with_reducible refine Val.shr16 (by decide) ?_
        | with_reducible refine Val.shr24 (by decide) ?_
        | with_reducible refine Val.raw ?_
        | refine Branch.not ?_
        | refine Branch.and ?_
        | refine Branch.or ?_
        | refine Branch.dt (by assumption) ?_
        | refine Branch.df (by assumption) ?_
        | refine Branch.dt rfl ?_
        | refine Branch.dt (by omega) ?_
        | refine Branch.df (by omega) ?_
        | refine Branch.t rfl ?_
        | refine Branch.f rfl ?_
        | refine Branch.t (by assumption) ?_
        | refine Branch.f (by assumption) ?_
        | refine Branch.d (fun _ => ?_) (fun _ => ?_)
        | refine Branch.mk (fun _ => ?_) (fun _ => ?_)
        | refine Need.mk (by first | omega | decide | rfl) ?_
        | refine Idx.nat (by omega) ?_
        | refine Idx.auto (by first | omega | decide) (by first | omega | decide) ?_
        | refine Cell.ro rfl ?_
        | refine SDraw.all (by kernel_rfl) ?_
        | refine Kept.k0 ?_
        | refine Kept.k1 ?_
        | refine Kept.k2 ?_
        | refine Kept.k3 ?_
        | refine Kept.k4 ?_))
end
end Go.Proofs.YtijnjklofdmelaaDoor

/- Layer 1: bits are stuffed: by walks. -/
set_option linter.unusedVariables false
set_option linter.unusedSimpArgs false
set_option maxRecDepth 100000
set_option maxHeartbeats 4000000
namespace Go.Proofs.YtijnjklofdmelaaDoor
open Sx
/-- The other bit. -/
def oth (b : UInt8) : UInt8 := if bitOf b then 48 else 49
/-- How many of one level there are, behind one more. -/
def tk (lv n c : Nat) : Nat := if c = lv then n + 1 else 1
structure St where
  out : List UInt8
  lv : Nat
  n : Nat
def St.step (s : St) (b : UInt8) : St := if tk s.lv s.n b.toNat = 5 then ⟨s.out ++ [b] ++ [oth b], (oth b).toNat, 1⟩ else ⟨s.out ++ [b], b.toNat, tk s.lv s.n b.toNat⟩
def stf (l : List UInt8) : St := l.foldl St.step ⟨[], 0, 0⟩
theorem stf_snoc (l : List UInt8) (b : UInt8) : stf (l ++ [b]) = (stf l).step b := by simp [stf]
theorem oth_n {b : UInt8} (h : isB b = true) : (oth b).toNat + b.toNat = 97 := by
  unfold oth
  rcases isB_cases h with ⟨h1, h2⟩ | ⟨h1, h2⟩ <;> rw [h2, h1] <;> rfl
theorem oth_b {b : UInt8} : isB (oth b) = true := by unfold oth; split <;> rfl
theorem snoc_ind {α : Type} {p : List α → Prop} (h0 : p []) (h1 : ∀ l b, p l → p (l ++ [b])) (l : List α) : p l := by
  have : ∀ r : List α, p r.reverse := by
    intro r
    induction r with
    | nil => exact h0
    | cons b r ih => rw [List.reverse_cons]; exact h1 _ _ ih
  have := this l.reverse
  rwa [List.reverse_reverse] at this
theorem St.ok : ∀ (l : List UInt8), (stf l).n ≤ 4 ∧ (stf l).out.length ≤ 2 * l.length ∧ (((stf l).out = [] ∧ (stf l).lv = 0 ∧ (stf l).n = 0 ∧ l = []) ∨ ∃ a b, (stf l).out = a ++ [b] ∧ (stf l).lv = b.toNat) := by
  intro l
  induction l using snoc_ind with
  | h0 => exact ⟨by decide, by decide, .inl ⟨rfl, rfl, rfl, rfl⟩⟩
  | h1 l b ih =>
    obtain ⟨h1, h2, h3⟩ := ih
    rw [stf_snoc]
    unfold St.step
    split
    · refine ⟨(by show (1 : Nat) ≤ 4; decide), ?_, .inr ⟨_, _, rfl, rfl⟩⟩
      simp; omega
    · rename_i hne
      refine ⟨?_, ?_, .inr ⟨_, _, rfl, rfl⟩⟩
      · show tk _ _ _ ≤ 4
        have h5 : tk (stf l).lv (stf l).n b.toNat ≤ (stf l).n + 1 := by unfold tk; split <;> omega
        omega
      · simp; omega
abbrev runB (q : Nat) (lv n : Nat) : Nat × Blk := (q, .row 57 [.int .i32 (lv : Int), .int .i64 (n : Int)] (0, 0))
inductive S16 (A4 A5 A6 A16 : Value) : List Value → Prop
  | mk {r0 r1 r2 r3 r7 r8 r9 r10 r11 r12 r13 r14 r15 r17 r18 r19 r20 r21 r22 r23 r24 r25 r26 r27 r28 r29 r30 r31 r32 r33 : Value} : S16 A4 A5 A6 A16 [r0, r1, r2, r3, A4, A5, A6, r7, r8, r9, r10, r11, r12, r13, r14, r15, A16, r17, r18, r19, r20, r21, r22, r23, r24, r25, r26, r27, r28, r29, r30, r31, r32, r33]
section
variable {K : Value → Heap → Prop} {H : Heap}
theorem c34 {q lv n c : Nat} (hn : n ≤ 100000) (hK : K (.tuple ⟨[]⟩) [runB q c (tk lv n c)]) : SCalls Tryd.prog 34 [ptr q, .int .i32 (c : Int)] [runB q lv n] K := by
  refine enter34 ?_
  unfold tk at hK
  by_cases h : c = lv
  · subst h
    rw [if_pos rfl] at hK
    have e : ((n + 1 : Nat) : Int) = (n : Int) + 1 := by omega
    simp only [runB, e] at hK
    repeat' ((conv => whnf); (first
        | refine Branch.f (by simp; done) ?_
        | with_reducible exact Keep.all hK
        | refine New.mk (fun _ => ?_)
        | refine Look.at0 ?_
        | refine Cell.row ?_
        | refine Cell.buf ?_
        | refine Cells.row rfl ?_
        | refine Put.row rfl ?_
        | refine Put.buf rfl ?_
        | refine Look.at1 ?_
        | refine Look.at2 ?_
        | refine Look.at3 ?_
        | refine Look.at4 ?_
        | refine Look.at5 ?_
        | refine Look.at6 ?_
        | refine Look.at7 ?_
        | refine Look.at8 ?_
        | with_reducible refine Val.i64 (by omega) (by omega) ?_
        | with_reducible refine Val.u8 (by omega) (by omega) ?_
        | with_reducible refine Val.u32 (by omega) (by omega) ?_
        | with_reducible refine Val.u64 (by omega) (by omega) ?_
        | with_reducible refine Val.u8m ?_
        | with_reducible refine Val.u32m ?_
        | with_reducible refine Val.u64m ?_
        | with_reducible refine Val.shr8 ?_
        | with_reducible refine Val.shr16 (by decide) ?_
        | with_reducible refine Val.shr24 (by decide) ?_
        | with_reducible refine Val.raw ?_
        | refine Branch.not ?_
        | refine Branch.and ?_
        | refine Branch.or ?_
        | refine Branch.dt (by assumption) ?_
        | refine Branch.df (by assumption) ?_
        | refine Branch.dt rfl ?_
        | refine Branch.dt (by omega) ?_
        | refine Branch.df (by omega) ?_
        | refine Branch.t rfl ?_
        | refine Branch.f rfl ?_
        | refine Branch.t (by assumption) ?_
        | refine Branch.f (by assumption) ?_
        | refine Branch.d (fun _ => ?_) (fun _ => ?_)
        | refine Branch.mk (fun _ => ?_) (fun _ => ?_)
        | refine Need.mk (by first | omega | decide | rfl) ?_
        | refine Idx.nat (by omega) ?_
        | refine Idx.auto (by first | omega | decide) (by first | omega | decide) ?_
        | refine Cell.ro rfl ?_
        | refine SDraw.all (by kernel_rfl) ?_
        | refine Kept.k0 ?_
        | refine Kept.k1 ?_
        | refine Kept.k2 ?_
        | refine Kept.k3 ?_
        | refine Kept.k4 ?_))
  · rw [if_neg h] at hK
    have h' : ¬ (c : Int) = (lv : Int) := by omega
    repeat' ((conv => whnf); (first
        | refine Branch.t (by first | (simp [h']; done)) ?_
        | with_reducible refine Val.to 1 rfl ?_
        | exact Keep.all hK
        | refine New.mk (fun _ => ?_)
        | refine Look.at0 ?_
        | refine Cell.row ?_
        | refine Cell.buf ?_
        | refine Cells.row rfl ?_
        | refine Put.row rfl ?_
        | refine Put.buf rfl ?_
        | refine Look.at1 ?_
        | refine Look.at2 ?_
        | refine Look.at3 ?_
        | refine Look.at4 ?_
        | refine Look.at5 ?_
        | refine Look.at6 ?_
        | refine Look.at7 ?_
        | refine Look.at8 ?_
        | with_reducible refine Val.i64 (by omega) (by omega) ?_
        | with_reducible refine Val.u8 (by omega) (by omega) ?_
        | with_reducible refine Val.u32 (by omega) (by omega) ?_
        | with_reducible refine Val.u64 (by omega) (by omega) ?_
        | with_reducible refine Val.u8m ?_
        | with_reducible refine Val.u32m ?_
        | with_reducible refine Val.u64m ?_
        | with_reducible refine Val.shr8 ?_
        | with_reducible refine Val.shr16 (by decide) ?_
        | with_reducible refine Val.shr24 (by decide) ?_
        | with_reducible refine Val.raw ?_
        | refine Branch.not ?_
        | refine Branch.and ?_
        | refine Branch.or ?_
        | refine Branch.dt (by assumption) ?_
        | refine Branch.df (by assumption) ?_
        | refine Branch.dt rfl ?_
        | refine Branch.dt (by omega) ?_
        | refine Branch.df (by omega) ?_
        | refine Branch.t rfl ?_
        | refine Branch.f rfl ?_
        | refine Branch.t (by assumption) ?_
        | refine Branch.f (by assumption) ?_
        | refine Branch.d (fun _ => ?_) (fun _ => ?_)
        | refine Branch.mk (fun _ => ?_) (fun _ => ?_)
        | refine Need.mk (by first | omega | decide | rfl) ?_
        | refine Idx.nat (by omega) ?_
        | refine Idx.auto (by first | omega | decide) (by first | omega | decide) ?_
        | refine Cell.ro rfl ?_
        | refine SDraw.all (by kernel_rfl) ?_
        | refine Kept.k0 ?_
        | refine Kept.k1 ?_
        | refine Kept.k2 ?_
        | refine Kept.k3 ?_
        | refine Kept.k4 ?_))
theorem c35 {b : UInt8} (hb : isB b = true) (hK : K (.int .i32 ((oth b).toNat : Int)) H) : SCalls Tryd.prog 35 [.int .i32 (b.toNat : Int)] H K := by
  refine enter35 ?_
  have := oth_n hb
  repeat' ((conv => whnf); (first
      | with_reducible refine Val.to ((oth b).toNat : Int) (by rw [wrap_i32 (by omega) (by omega)]; omega) ?_
      | with_reducible exact Keep.all hK
      | refine New.mk (fun _ => ?_)
      | refine Look.at0 ?_
      | refine Cell.row ?_
      | refine Cell.buf ?_
      | refine Cells.row rfl ?_
      | refine Put.row rfl ?_
      | refine Put.buf rfl ?_
      | refine Look.at1 ?_
      | refine Look.at2 ?_
      | refine Look.at3 ?_
      | refine Look.at4 ?_
      | refine Look.at5 ?_
      | refine Look.at6 ?_
      | refine Look.at7 ?_
      | refine Look.at8 ?_
      | with_reducible refine Val.i64 (by omega) (by omega) ?_
      | with_reducible refine Val.u8 (by omega) (by omega) ?_
      | with_reducible refine Val.u32 (by omega) (by omega) ?_
      | with_reducible refine Val.u64 (by omega) (by omega) ?_
      | with_reducible refine Val.u8m ?_
      | with_reducible refine Val.u32m ?_
      | with_reducible refine Val.u64m ?_
      | with_reducible refine Val.shr8 ?_
      | with_reducible refine Val.shr16 (by decide) ?_
      | with_reducible refine Val.shr24 (by decide) ?_
      | with_reducible refine Val.raw ?_
      | refine Branch.not ?_
      | refine Branch.and ?_
      | refine Branch.or ?_
      | refine Branch.dt (by assumption) ?_
      | refine Branch.df (by assumption) ?_
      | refine Branch.dt rfl ?_
      | refine Branch.dt (by omega) ?_
      | refine Branch.df (by omega) ?_
      | refine Branch.t rfl ?_
      | refine Branch.f rfl ?_
      | refine Branch.t (by assumption) ?_
      | refine Branch.f (by assumption) ?_
      | refine Branch.d (fun _ => ?_) (fun _ => ?_)
      | refine Branch.mk (fun _ => ?_) (fun _ => ?_)
      | refine Need.mk (by first | omega | decide | rfl) ?_
      | refine Idx.nat (by omega) ?_
      | refine Idx.auto (by first | omega | decide) (by first | omega | decide) ?_
      | refine Cell.ro rfl ?_
      | refine SDraw.all (by kernel_rfl) ?_
      | refine Kept.k0 ?_
      | refine Kept.k1 ?_
      | refine Kept.k2 ?_
      | refine Kept.k3 ?_
      | refine Kept.k4 ?_))
theorem c16 {l : List UInt8} (h0 : chk l = 0) (hK : K (.tuple ⟨[.string (strOf (stf l).out), .int .i64 0]⟩) H) : SCalls Tryd.prog 16 [.string (strOf l)] H K := by
  refine enter16 ?_
  rcases chk_cases l with ⟨_, hl, hB⟩ | ⟨h0', _⟩
  · have h32 := fun (K : Value → Heap → Prop) (hk : K (.int .i64 0) H) => c32 (l := l) (K := K) (H := H) (by rw [h0]; exact hk)
    repeat' ((conv => whnf); (first
        | with_reducible refine h32 _ ?_
        | refine Branch.f rfl ?_
        | refine RawV.rangeStr rfl (by kernel_rfl) (fun q => ?_)
        | refine New.mk (fun _ => ?_)
        | refine Look.at0 ?_
        | refine Cell.row ?_
        | refine Cell.buf ?_
        | refine Cells.row rfl ?_
        | refine Put.row rfl ?_
        | refine Put.buf rfl ?_
        | refine Look.at1 ?_
        | refine Look.at2 ?_
        | refine Look.at3 ?_
        | refine Look.at4 ?_
        | refine Look.at5 ?_
        | refine Look.at6 ?_
        | refine Look.at7 ?_
        | refine Look.at8 ?_
        | with_reducible refine Val.i64 (by omega) (by omega) ?_
        | with_reducible refine Val.u8 (by omega) (by omega) ?_
        | with_reducible refine Val.u32 (by omega) (by omega) ?_
        | with_reducible refine Val.u64 (by omega) (by omega) ?_
        | with_reducible refine Val.u8m ?_
        | with_reducible refine Val.u32m ?_
        | with_reducible refine Val.u64m ?_
        | with_reducible refine Val.shr8 ?_
        | with_reducible refine Val.shr16 (by decide) ?_
        | with_reducible refine Val.shr24 (by decide) ?_
        | with_reducible refine Val.raw ?_
        | refine Branch.not ?_
        | refine Branch.and ?_
        | refine Branch.or ?_
        | refine Branch.dt (by assumption) ?_
        | refine Branch.df (by assumption) ?_
        | refine Branch.dt rfl ?_
        | refine Branch.dt (by omega) ?_
        | refine Branch.df (by omega) ?_
        | refine Branch.t rfl ?_
        | refine Branch.f rfl ?_
        | refine Branch.t (by assumption) ?_
        | refine Branch.f (by assumption) ?_
        | refine Branch.d (fun _ => ?_) (fun _ => ?_)
        | refine Branch.mk (fun _ => ?_) (fun _ => ?_)
        | refine Need.mk (by first | omega | decide | rfl) ?_
        | refine Idx.nat (by omega) ?_
        | refine Idx.auto (by first | omega | decide) (by first | omega | decide) ?_
        | refine Cell.ro rfl ?_
        | refine SDraw.all (by kernel_rfl) ?_
        | refine Kept.k0 ?_
        | refine Kept.k1 ?_
        | refine Kept.k2 ?_
        | refine Kept.k3 ?_
        | refine Kept.k4 ?_))
    rename_i b q6
    refine SLoop.invA (fun (j : Nat) S H' => j ≤ l.length ∧ S16 (.int .i64 0) (ptr b) (ptr q6) (ptr q) S ∧ ∃ N, Bld 55 b [] (stf (l.take j)).out N ∧ H' = (q, sIter (strOf l) j) :: runB q6 (stf (l.take j)).lv (stf (l.take j)).n :: (N ++ H)) (fun j => l.length - j) 0 (Keep.all ⟨Nat.zero_le _, .mk, _, Bld.new, rfl⟩) ?_
    rintro j S H' ⟨hj, hS, N, hN, rfl⟩ R hR
    cases hS
    obtain ⟨k1, k2, k3⟩ := St.ok (l.take j)
    have k4 : (l.take j).length ≤ 65536 := by rw [List.length_take]; omega
    by_cases hlt : j < l.length
    · have hx := List.getElem?_eq_getElem hlt
      generalize l[j] = c at hx
      have htk : l.take (j + 1) = l.take j ++ [c] := by rw [List.take_add_one, hx]; rfl
      have hcB := hB c (List.mem_of_getElem? hx)
      have hnx : ∀ (H : Heap) (K2 : Value → Heap → Prop), K2 (.tuple ⟨[.bool true, .int .i64 (j : Int), .int .i32 (c.toNat : Int)]⟩) ((q, sIter (strOf l) (j + 1)) :: H) → ∀ o xm, Oper.op o = .next xm true → RawV Tryd.prog o [ptr q] ((q, sIter (strOf l) j) :: H) K2 := fun H K2 hk o xm ho =>
        RawV.nextS0 ho (ascii hB) (fun h => by omega) (fun b2 hb2 => by rw [hx] at hb2; injection hb2 with hb2; subst hb2; exact hk)
      have hnext : ∀ S N, S16 (.int .i64 0) (ptr b) (ptr q6) (ptr q) S → Bld 55 b [] (St.step ⟨(stf (l.take j)).out, (stf (l.take j)).lv, (stf (l.take j)).n⟩ c).out N → R S ((q, sIter (strOf l) (j + 1)) :: runB q6 (St.step ⟨(stf (l.take j)).out, (stf (l.take j)).lv, (stf (l.take j)).n⟩ c).lv (St.step ⟨(stf (l.take j)).out, (stf (l.take j)).lv, (stf (l.take j)).n⟩ c).n :: (N ++ H)) := fun S N hS hN => hR (j + 1) _ _ (by omega) (Keep.all ⟨hlt, hS, N, by rw [htk, stf_snoc]; exact hN, by rw [htk, stf_snoc]⟩)
      clear hR hK h32 htk k3
      generalize (stf (l.take j)).out = out at hN hnext k2
      generalize (stf (l.take j)).lv = lv at hnext
      generalize (stf (l.take j)).n = n at hnext k1
      have h33 : ∀ (x y : Nat × Blk) (c : UInt8) (out : List UInt8) (N : Heap) (K2 : Value → Heap → Prop), Bld 55 b [] out N → isB c = true → out.length ≤ 140737488355320 → (∀ N', Bld 55 b [] (out ++ [c]) N' → K2 (.tuple ⟨[.int .i64 1, .nilIface]⟩) (x :: y :: (N' ++ H))) → SCalls Tryd.prog 33 [ptr b, .int .i32 (c.toNat : Int)] (x :: y :: (N ++ H)) K2 := fun x y c out N K2 hN hc hl hk =>
        SCalls.midH [x, y] H (c33 (pre := []) bt55 hN (by rcases isB_cases hc with ⟨h, _⟩ | ⟨h, _⟩ <;> omega) (by omega) hk)
      have h34 : ∀ (x : Nat × Blk) (H : Heap) (lv n c : Nat) (K2 : Value → Heap → Prop), n ≤ 100000 → K2 (.tuple ⟨[]⟩) (x :: runB q6 c (tk lv n c) :: H) → SCalls Tryd.prog 34 [ptr q6, .int .i32 (c : Int)] (x :: runB q6 lv n :: H) K2 := fun x H lv n c K2 hn hk => SCalls.at1 (c34 hn hk)
      unfold St.step at hnext
      dsimp only at hnext
      by_cases h5 : tk lv n c.toNat = 5
      · rw [if_pos h5] at hnext
        have h1 : tk c.toNat 5 (oth c).toNat = 1 := by
          have := oth_n hcB
          unfold tk
          rw [if_neg (by omega)]
        repeat' ((conv => whnf); (first
            | with_reducible refine hnx _ _ ?_ _ _ rfl
            | with_reducible refine h33 _ _ _ _ _ _ hN hcB (by omega) (fun N' hN' => ?_)
            | with_reducible refine h33 _ _ _ _ _ _ hN' oth_b (by simp; omega) (fun N2 hN2 => ?_)
            | with_reducible refine h34 _ _ _ _ _ _ (by omega) ?_
            | refine Branch.t (by rw [h5]; rfl) ?_
            | with_reducible refine c35 hcB ?_
            | (rw [h5, h1]; exact hnext _ _ .mk hN2)
            | refine New.mk (fun _ => ?_)
            | refine Look.at0 ?_
            | refine Cell.row ?_
            | refine Cell.buf ?_
            | refine Cells.row rfl ?_
            | refine Put.row rfl ?_
            | refine Put.buf rfl ?_
            | refine Look.at1 ?_
            | refine Look.at2 ?_
            | refine Look.at3 ?_
            | refine Look.at4 ?_
            | refine Look.at5 ?_
            | refine Look.at6 ?_
            | refine Look.at7 ?_
            | refine Look.at8 ?_
            | with_reducible refine Val.i64 (by omega) (by omega) ?_
            | with_reducible refine Val.u8 (by omega) (by omega) ?_
            | with_reducible refine Val.u32 (by omega) (by omega) ?_
            | with_reducible refine Val.u64 (by omega) (by omega) ?_
            | with_reducible refine Val.u8m ?_
            | with_reducible refine Val.u32m ?_
            | with_reducible refine Val.u64m ?_
            | with_reducible refine Val.shr8 ?_
            | with_reducible refine Val.shr16 (by decide) ?_
            | with_reducible refine Val.shr24 (by decide) ?_
            | with_reducible refine Val.raw ?_
            | refine Branch.not ?_
            | refine Branch.and ?_
            | refine Branch.or ?_
            | refine Branch.dt (by assumption) ?_
            | refine Branch.df (by assumption) ?_
            | refine Branch.dt rfl ?_
            | refine Branch.dt (by omega) ?_
            | refine Branch.df (by omega) ?_
            | refine Branch.t rfl ?_
            | refine Branch.f rfl ?_
            | refine Branch.t (by assumption) ?_
            | refine Branch.f (by assumption) ?_
            | refine Branch.d (fun _ => ?_) (fun _ => ?_)
            | refine Branch.mk (fun _ => ?_) (fun _ => ?_)
            | refine Need.mk (by first | omega | decide | rfl) ?_
            | refine Idx.nat (by omega) ?_
            | refine Idx.auto (by first | omega | decide) (by first | omega | decide) ?_
            | refine Cell.ro rfl ?_
            | refine SDraw.all (by kernel_rfl) ?_
            | refine Kept.k0 ?_
            | refine Kept.k1 ?_
            | refine Kept.k2 ?_
            | refine Kept.k3 ?_
            | refine Kept.k4 ?_))
      · rw [if_neg h5] at hnext
        repeat' ((conv => whnf); (first
            | with_reducible refine hnx _ _ ?_ _ _ rfl
            | with_reducible refine h33 _ _ _ _ _ _ hN hcB (by omega) (fun N' hN' => ?_)
            | with_reducible refine h34 _ _ _ _ _ _ (by omega) ?_
            | refine Branch.df (by omega) ?_
            | refine hnext _ _ .mk hN'
            | refine New.mk (fun _ => ?_)
            | refine Look.at0 ?_
            | refine Cell.row ?_
            | refine Cell.buf ?_
            | refine Cells.row rfl ?_
            | refine Put.row rfl ?_
            | refine Put.buf rfl ?_
            | refine Look.at1 ?_
            | refine Look.at2 ?_
            | refine Look.at3 ?_
            | refine Look.at4 ?_
            | refine Look.at5 ?_
            | refine Look.at6 ?_
            | refine Look.at7 ?_
            | refine Look.at8 ?_
            | with_reducible refine Val.i64 (by omega) (by omega) ?_
            | with_reducible refine Val.u8 (by omega) (by omega) ?_
            | with_reducible refine Val.u32 (by omega) (by omega) ?_
            | with_reducible refine Val.u64 (by omega) (by omega) ?_
            | with_reducible refine Val.u8m ?_
            | with_reducible refine Val.u32m ?_
            | with_reducible refine Val.u64m ?_
            | with_reducible refine Val.shr8 ?_
            | with_reducible refine Val.shr16 (by decide) ?_
            | with_reducible refine Val.shr24 (by decide) ?_
            | with_reducible refine Val.raw ?_
            | refine Branch.not ?_
            | refine Branch.and ?_
            | refine Branch.or ?_
            | refine Branch.dt (by assumption) ?_
            | refine Branch.df (by assumption) ?_
            | refine Branch.dt rfl ?_
            | refine Branch.dt (by omega) ?_
            | refine Branch.df (by omega) ?_
            | refine Branch.t rfl ?_
            | refine Branch.f rfl ?_
            | refine Branch.t (by assumption) ?_
            | refine Branch.f (by assumption) ?_
            | refine Branch.d (fun _ => ?_) (fun _ => ?_)
            | refine Branch.mk (fun _ => ?_) (fun _ => ?_)
            | refine Need.mk (by first | omega | decide | rfl) ?_
            | refine Idx.nat (by omega) ?_
            | refine Idx.auto (by first | omega | decide) (by first | omega | decide) ?_
            | refine Cell.ro rfl ?_
            | refine SDraw.all (by kernel_rfl) ?_
            | refine Kept.k0 ?_
            | refine Kept.k1 ?_
            | refine Kept.k2 ?_
            | refine Kept.k3 ?_
            | refine Kept.k4 ?_))
    · have e : j = l.length := by omega
      subst e
      rw [List.take_length] at hN ⊢
      have hnx : ∀ (H : Heap) (K2 : Value → Heap → Prop), K2 (.tuple ⟨[.bool false]⟩) ((q, sIter (strOf l) l.length) :: H) → ∀ o xm, Oper.op o = .next xm true → RawV Tryd.prog o [ptr q] ((q, sIter (strOf l) l.length) :: H) K2 := fun H K2 hk o xm ho =>
        RawV.nextS0 ho (ascii hB) (fun h => hk) (fun b2 hb2 => by have := (List.getElem?_eq_some_iff.1 hb2).1; omega)
      have h36 : ∀ (x y : Nat × Blk) (K2 : Value → Heap → Prop), (∀ N', K2 (.string (strOf (stf l).out)) (x :: y :: (N' ++ H))) → SCalls Tryd.prog 36 [ptr b] (x :: y :: (N ++ H)) K2 := fun x y K2 hk =>
        SCalls.midH [x, y] H (c36 (pre := []) hN fun N' _ => hk N')
      have hk2 : ∀ (x y : Nat × Blk) (N : Heap), Keep (x :: y :: (N ++ H)) fun H' => K (.tuple ⟨[.string (strOf (stf l).out), .int .i64 0]⟩) H' := fun x y N => Keep.sub H (List.sublist_append_right (x :: y :: N) H) hK
      clear hR h32 hK
      repeat' ((conv => whnf); (first
          | with_reducible refine hnx _ _ ?_ _ _ rfl
          | refine Branch.f rfl ?_
          | with_reducible refine h36 _ _ _ (fun N' => ?_)
          | with_reducible exact hk2 _ _ _
          | refine New.mk (fun _ => ?_)
          | refine Look.at0 ?_
          | refine Cell.row ?_
          | refine Cell.buf ?_
          | refine Cells.row rfl ?_
          | refine Put.row rfl ?_
          | refine Put.buf rfl ?_
          | refine Look.at1 ?_
          | refine Look.at2 ?_
          | refine Look.at3 ?_
          | refine Look.at4 ?_
          | refine Look.at5 ?_
          | refine Look.at6 ?_
          | refine Look.at7 ?_
          | refine Look.at8 ?_
          | with_reducible refine Val.i64 (by omega) (by omega) ?_
          | with_reducible refine Val.u8 (by omega) (by omega) ?_
          | with_reducible refine Val.u32 (by omega) (by omega) ?_
          | with_reducible refine Val.u64 (by omega) (by omega) ?_
          | with_reducible refine Val.u8m ?_
          | with_reducible refine Val.u32m ?_
          | with_reducible refine Val.u64m ?_
          | with_reducible refine Val.shr8 ?_
          | with_reducible refine Val.shr16 (by decide) ?_
          | with_reducible refine Val.shr24 (by decide) ?_
          | with_reducible refine Val.raw ?_
          | refine Branch.not ?_
          | refine Branch.and ?_
          | refine Branch.or ?_
          | refine Branch.dt (by assumption) ?_
          | refine Branch.df (by assumption) ?_
          | refine Branch.dt rfl ?_
          | refine Branch.dt (by omega) ?_
          | refine Branch.df (by omega) ?_
          | refine Branch.t rfl ?_
          | refine Branch.f rfl ?_
          | refine Branch.t (by assumption) ?_
          | refine Branch.f (by assumption) ?_
          | refine Branch.d (fun _ => ?_) (fun _ => ?_)
          | refine Branch.mk (fun _ => ?_) (fun _ => ?_)
          | refine Need.mk (by first | omega | decide | rfl) ?_
          | refine Idx.nat (by omega) ?_
          | refine Idx.auto (by first | omega | decide) (by first | omega | decide) ?_
          | refine Cell.ro rfl ?_
          | refine SDraw.all (by kernel_rfl) ?_
          | refine Kept.k0 ?_
          | refine Kept.k1 ?_
          | refine Kept.k2 ?_
          | refine Kept.k3 ?_
          | refine Kept.k4 ?_))
  · exact absurd h0 h0'
theorem c16e {l : List UInt8} (h0 : chk l ≠ 0) (hK : K (.tuple ⟨[.string (strOf []), .int .i64 (chk l)]⟩) H) : SCalls Tryd.prog 16 [.string (strOf l)] H K := by
  refine enter16 ?_
  have h32 := fun (K : Value → Heap → Prop) hk => c32 (l := l) (K := K) (H := H) hk
  generalize chk l = v at h0 hK h32
  repeat' ((conv => whnf); (first
      | with_reducible refine h32 _ ?_
      | refine Branch.t (by simp [h0]; done) ?_
      | exact Keep.all hK
      | refine New.mk (fun _ => ?_)
      | refine Look.at0 ?_
      | refine Cell.row ?_
      | refine Cell.buf ?_
      | refine Cells.row rfl ?_
      | refine Put.row rfl ?_
      | refine Put.buf rfl ?_
      | refine Look.at1 ?_
      | refine Look.at2 ?_
      | refine Look.at3 ?_
      | refine Look.at4 ?_
      | refine Look.at5 ?_
      | refine Look.at6 ?_
      | refine Look.at7 ?_
      | refine Look.at8 ?_
      | with_reducible refine Val.i64 (by omega) (by omega) ?_
      | with_reducible refine Val.u8 (by omega) (by omega) ?_
      | with_reducible refine Val.u32 (by omega) (by omega) ?_
      | with_reducible refine Val.u64 (by omega) (by omega) ?_
      | with_reducible refine Val.u8m ?_
      | with_reducible refine Val.u32m ?_
      | with_reducible refine Val.u64m ?_
      | with_reducible refine Val.shr8 ?_
      | with_reducible refine Val.shr16 (by decide) ?_
      | with_reducible refine Val.shr24 (by decide) ?_
      | with_reducible refine Val.raw ?_
      | refine Branch.not ?_
      | refine Branch.and ?_
      | refine Branch.or ?_
      | refine Branch.dt (by assumption) ?_
      | refine Branch.df (by assumption) ?_
      | refine Branch.dt rfl ?_
      | refine Branch.dt (by omega) ?_
      | refine Branch.df (by omega) ?_
      | refine Branch.t rfl ?_
      | refine Branch.f rfl ?_
      | refine Branch.t (by assumption) ?_
      | refine Branch.f (by assumption) ?_
      | refine Branch.d (fun _ => ?_) (fun _ => ?_)
      | refine Branch.mk (fun _ => ?_) (fun _ => ?_)
      | refine Need.mk (by first | omega | decide | rfl) ?_
      | refine Idx.nat (by omega) ?_
      | refine Idx.auto (by first | omega | decide) (by first | omega | decide) ?_
      | refine Cell.ro rfl ?_
      | refine SDraw.all (by kernel_rfl) ?_
      | refine Kept.k0 ?_
      | refine Kept.k1 ?_
      | refine Kept.k2 ?_
      | refine Kept.k3 ?_
      | refine Kept.k4 ?_))
end
end Go.Proofs.YtijnjklofdmelaaDoor

/- Layer 1: bits are unstuffed: by walks. -/
set_option linter.unusedVariables false
set_option linter.unusedSimpArgs false
set_option maxRecDepth 100000
set_option maxHeartbeats 4000000
namespace Go.Proofs.YtijnjklofdmelaaDoor
open Sx
/-- What is left of the bits from place j on. -/
def unsR : St → Nat → List UInt8 → List UInt8 × Nat × Int
  | s, j, [] => if s.n = 5 then ([], j, 3) else (s.out, j, 0)
  | s, j, b :: r => if s.n = 5 ∧ b.toNat = s.lv then ([], j, 20) else unsR ⟨if s.n = 5 then s.out else s.out ++ [b], b.toNat, tk s.lv s.n b.toNat⟩ (j + 1) r
def uns (l : List UInt8) : List UInt8 × Nat × Int := unsR ⟨[], 0, 0⟩ 0 l
/-- Where the work is at place j. -/
structure At (l : List UInt8) (j : Nat) (out : List UInt8) (lv n : Nat) : Prop where
  le : j ≤ l.length
  eq : uns l = unsR ⟨out, lv, n⟩ j (l.drop j)
  n5 : n ≤ 5
  len : out.length ≤ j
  last : (j = 0 ∧ lv = 0 ∧ n = 0) ∨ (0 < j ∧ ∃ b, l[j - 1]? = some b ∧ lv = b.toNat)
theorem At.zero (l : List UInt8) : At l 0 [] 0 0 := ⟨Nat.zero_le _, rfl, by decide, Nat.le_refl _, .inl ⟨rfl, rfl, rfl⟩⟩
theorem drop_cons' {l : List UInt8} {j : Nat} {b : UInt8} (h : l[j]? = some b) : l.drop j = b :: l.drop (j + 1) := by
  obtain ⟨hlt, rfl⟩ := List.getElem?_eq_some_iff.1 h
  exact List.drop_eq_getElem_cons hlt
theorem At.stop {l out : List UInt8} {j lv n : Nat} {b : UInt8} (h : At l j out lv n) (hx : l[j]? = some b) (h5 : n = 5) (hb : b.toNat = lv) : uns l = ([], j, 20) := by
  rw [h.eq, drop_cons' hx]
  show (if n = 5 ∧ b.toNat = lv then _ else _) = _
  rw [if_pos ⟨h5, hb⟩]
theorem At.next {l out : List UInt8} {j lv n : Nat} {b : UInt8} (h : At l j out lv n) (hx : l[j]? = some b) (hn : ¬ (n = 5 ∧ b.toNat = lv)) : At l (j + 1) (if n = 5 then out else out ++ [b]) b.toNat (tk lv n b.toNat) := by
  refine ⟨(List.getElem?_eq_some_iff.1 hx).1, ?_, ?_, ?_, .inr ⟨by omega, b, hx, rfl⟩⟩
  · rw [h.eq, drop_cons' hx]
    show (if n = 5 ∧ b.toNat = lv then _ else _) = _
    rw [if_neg hn]
  · have := h.n5
    unfold tk
    split
    · rename_i e
      have : n ≠ 5 := fun e5 => hn ⟨e5, e⟩
      omega
    · omega
  · have := h.len
    split
    · omega
    · simp; omega
theorem At.fin {l out : List UInt8} {lv n : Nat} (h : At l l.length out lv n) : uns l = if n = 5 then ([], l.length, 3) else (out, l.length, 0) := by
  have := h.eq
  rw [List.drop_length] at this
  exact this
inductive S18 (A0 A5 A6 A7 A18 : Value) : List Value → Prop
  | mk {r1 r2 r3 r4 r8 r9 r10 r11 r12 r13 r14 r15 r16 r17 r19 r20 r21 r22 r23 r24 r25 r26 r27 r28 r29 r30 r31 r32 r33 r34 r35 r36 r37 r38 r39 r40 r41 r42 r43 r44 r45 r46 r47 : Value} : S18 A0 A5 A6 A7 A18 [A0, r1, r2, r3, r4, A5, A6, A7, r8, r9, r10, r11, r12, r13, r14, r15, r16, r17, A18, r19, r20, r21, r22, r23, r24, r25, r26, r27, r28, r29, r30, r31, r32, r33, r34, r35, r36, r37, r38, r39, r40, r41, r42, r43, r44, r45, r46, r47]
inductive S19 (A0 A5 A6 A7 A8 : Value) : List Value → Prop
  | mk {r1 r2 r3 r4 r9 r10 r11 r12 r13 r14 r15 r16 r17 r18 r19 r20 r21 r22 r23 r24 r25 r26 r27 r28 r29 r30 r31 r32 r33 r34 r35 r36 r37 r38 r39 r40 r41 r42 r43 r44 r45 r46 r47 r48 r49 r50 r51 r52 r53 r54 r55 r56 r57 r58 r59 r60 r61 r62 r63 r64 r65 : Value} : S19 A0 A5 A6 A7 A8 [A0, r1, r2, r3, r4, A5, A6, A7, A8, r9, r10, r11, r12, r13, r14, r15, r16, r17, r18, r19, r20, r21, r22, r23, r24, r25, r26, r27, r28, r29, r30, r31, r32, r33, r34, r35, r36, r37, r38, r39, r40, r41, r42, r43, r44, r45, r46, r47, r48, r49, r50, r51, r52, r53, r54, r55, r56, r57, r58, r59, r60, r61, r62, r63, r64, r65]
section
variable {K : Value → Heap → Prop} {H : Heap}
theorem c18 {l : List UInt8} (h0 : chk l = 0) (hK : K (.tuple ⟨[.string (strOf (uns l).1), .int .i64 ((uns l).2.1 : Int), .int .i64 (uns l).2.2]⟩) H) : SCalls Tryd.prog 18 [.string (strOf l)] H K := by
  refine enter18 ?_
  rcases chk_cases l with ⟨_, hl, hB⟩ | ⟨h0', _⟩
  · have h32 := fun (K : Value → Heap → Prop) (hk : K (.int .i64 0) H) => c32 (l := l) (K := K) (H := H) (by rw [h0]; exact hk)
    repeat' ((conv => whnf); (first
        | with_reducible refine h32 _ ?_
        | refine Branch.f rfl ?_
        | refine RawV.rangeStr rfl (by kernel_rfl) (fun q => ?_)
        | refine New.mk (fun _ => ?_)
        | refine Look.at0 ?_
        | refine Cell.row ?_
        | refine Cell.buf ?_
        | refine Cells.row rfl ?_
        | refine Put.row rfl ?_
        | refine Put.buf rfl ?_
        | refine Look.at1 ?_
        | refine Look.at2 ?_
        | refine Look.at3 ?_
        | refine Look.at4 ?_
        | refine Look.at5 ?_
        | refine Look.at6 ?_
        | refine Look.at7 ?_
        | refine Look.at8 ?_
        | with_reducible refine Val.i64 (by omega) (by omega) ?_
        | with_reducible refine Val.u8 (by omega) (by omega) ?_
        | with_reducible refine Val.u32 (by omega) (by omega) ?_
        | with_reducible refine Val.u64 (by omega) (by omega) ?_
        | with_reducible refine Val.u8m ?_
        | with_reducible refine Val.u32m ?_
        | with_reducible refine Val.u64m ?_
        | with_reducible refine Val.shr8 ?_
        | with_reducible refine Val.shr16 (by decide) ?_
        | with_reducible refine Val.shr24 (by decide) ?_
        | with_reducible refine Val.raw ?_
        | refine Branch.not ?_
        | refine Branch.and ?_
        | refine Branch.or ?_
        | refine Branch.dt (by assumption) ?_
        | refine Branch.df (by assumption) ?_
        | refine Branch.dt rfl ?_
        | refine Branch.dt (by omega) ?_
        | refine Branch.df (by omega) ?_
        | refine Branch.t rfl ?_
        | refine Branch.f rfl ?_
        | refine Branch.t (by assumption) ?_
        | refine Branch.f (by assumption) ?_
        | refine Branch.d (fun _ => ?_) (fun _ => ?_)
        | refine Branch.mk (fun _ => ?_) (fun _ => ?_)
        | refine Need.mk (by first | omega | decide | rfl) ?_
        | refine Idx.nat (by omega) ?_
        | refine Idx.auto (by first | omega | decide) (by first | omega | decide) ?_
        | refine Cell.ro rfl ?_
        | refine SDraw.all (by kernel_rfl) ?_
        | refine Kept.k0 ?_
        | refine Kept.k1 ?_
        | refine Kept.k2 ?_
        | refine Kept.k3 ?_
        | refine Kept.k4 ?_))
    rename_i b q6
    refine SLoop.invA (fun (j : Nat) S H' => S18 (.string (strOf l)) (.int .i64 0) (ptr b) (ptr q6) (ptr q) S ∧ ∃ out lv n N, At l j out lv n ∧ Bld 55 b [] out N ∧ H' = (q, sIter (strOf l) j) :: runB q6 lv n :: (N ++ H)) (fun j => l.length - j) 0 (Keep.all ⟨.mk, [], 0, 0, _, At.zero l, Bld.new, rfl⟩) ?_
    rintro j S H' ⟨hS, out, lv, n, N, hA, hN, rfl⟩ R hR
    cases hS
    have hj := hA.le
    have k1 := hA.n5
    have k2 := hA.len
    have hsz : (strOf l).size = l.length := strOf_size l
    have hk2 : ∀ (v : Value) (x y : Nat × Blk) (N : Heap), K v H → Keep (x :: y :: (N ++ H)) fun H' => K v H' := fun v x y N hk => Keep.sub H (List.sublist_append_right (x :: y :: N) H) hk
    by_cases hlt : j < l.length
    · have hx := List.getElem?_eq_getElem hlt
      generalize l[j] = c at hx
      have hcB := hB c (List.mem_of_getElem? hx)
      have hnx : ∀ (H : Heap) (K2 : Value → Heap → Prop), K2 (.tuple ⟨[.bool true, .int .i64 (j : Int), .int .i32 (c.toNat : Int)]⟩) ((q, sIter (strOf l) (j + 1)) :: H) → ∀ o xm, Oper.op o = .next xm true → RawV Tryd.prog o [ptr q] ((q, sIter (strOf l) j) :: H) K2 := fun H K2 hk o xm ho =>
        RawV.nextS0 ho (ascii hB) (fun h => by omega) (fun b2 hb2 => by rw [hx] at hb2; injection hb2 with hb2; subst hb2; exact hk)
      have h33 : ∀ (x y : Nat × Blk) (K2 : Value → Heap → Prop), (∀ N', Bld 55 b [] (out ++ [c]) N' → K2 (.tuple ⟨[.int .i64 1, .nilIface]⟩) (x :: y :: (N' ++ H))) → SCalls Tryd.prog 33 [ptr b, .int .i32 (c.toNat : Int)] (x :: y :: (N ++ H)) K2 := fun x y K2 hk =>
        SCalls.midH [x, y] H (c33 (pre := []) bt55 hN (by rcases isB_cases hcB with ⟨h, _⟩ | ⟨h, _⟩ <;> omega) (by omega) hk)
      have h34 : ∀ (x : Nat × Blk) (H : Heap) (K2 : Value → Heap → Prop), K2 (.tuple ⟨[]⟩) (x :: runB q6 c.toNat (tk lv n c.toNat) :: H) → SCalls Tryd.prog 34 [ptr q6, .int .i32 (c.toNat : Int)] (x :: runB q6 lv n :: H) K2 := fun x H K2 hk => SCalls.at1 (c34 (by omega) hk)
      by_cases h5 : n = 5
      · by_cases hlv : c.toNat = lv
        · have hst := hA.stop hx h5 hlv
          rw [hst] at hK
          clear hR h32
          subst h5 hlv
          repeat' ((conv => whnf); (first
              | with_reducible refine hnx _ _ ?_ _ _ rfl
              | refine Branch.t rfl ?_
              | refine Branch.t (by first | (simp; done) | omega) ?_
              | exact hk2 _ _ _ _ hK
              | refine New.mk (fun _ => ?_)
              | refine Look.at0 ?_
              | refine Cell.row ?_
              | refine Cell.buf ?_
              | refine Cells.row rfl ?_
              | refine Put.row rfl ?_
              | refine Put.buf rfl ?_
              | refine Look.at1 ?_
              | refine Look.at2 ?_
              | refine Look.at3 ?_
              | refine Look.at4 ?_
              | refine Look.at5 ?_
              | refine Look.at6 ?_
              | refine Look.at7 ?_
              | refine Look.at8 ?_
              | with_reducible refine Val.i64 (by omega) (by omega) ?_
              | with_reducible refine Val.u8 (by omega) (by omega) ?_
              | with_reducible refine Val.u32 (by omega) (by omega) ?_
              | with_reducible refine Val.u64 (by omega) (by omega) ?_
              | with_reducible refine Val.u8m ?_
              | with_reducible refine Val.u32m ?_
              | with_reducible refine Val.u64m ?_
              | with_reducible refine Val.shr8 ?_
              | with_reducible refine Val.shr16 (by decide) ?_
              | with_reducible refine Val.shr24 (by decide) ?_
              | with_reducible refine Val.raw ?_
              | refine Branch.not ?_
              | refine Branch.and ?_
              | refine Branch.or ?_
              | refine Branch.dt (by assumption) ?_
              | refine Branch.df (by assumption) ?_
              | refine Branch.dt rfl ?_
              | refine Branch.dt (by omega) ?_
              | refine Branch.df (by omega) ?_
              | refine Branch.t rfl ?_
              | refine Branch.f rfl ?_
              | refine Branch.t (by assumption) ?_
              | refine Branch.f (by assumption) ?_
              | refine Branch.d (fun _ => ?_) (fun _ => ?_)
              | refine Branch.mk (fun _ => ?_) (fun _ => ?_)
              | refine Need.mk (by first | omega | decide | rfl) ?_
              | refine Idx.nat (by omega) ?_
              | refine Idx.auto (by first | omega | decide) (by first | omega | decide) ?_
              | refine Cell.ro rfl ?_
              | refine SDraw.all (by kernel_rfl) ?_
              | refine Kept.k0 ?_
              | refine Kept.k1 ?_
              | refine Kept.k2 ?_
              | refine Kept.k3 ?_
              | refine Kept.k4 ?_))
        · have hnx2 := hA.next hx (fun h => hlv h.2)
          rw [if_pos h5] at hnx2
          have hne : ¬ (c.toNat : Int) = (lv : Int) := by omega
          have hnext := fun S hS => hR (j + 1) S ((q, sIter (strOf l) (j + 1)) :: runB q6 c.toNat (tk lv n c.toNat) :: (N ++ H)) (by omega) (Keep.all ⟨hS, _, _, _, N, hnx2, hN, rfl⟩)
          clear hR h32 hK
          subst h5
          repeat' ((conv => whnf); (first
              | with_reducible refine hnx _ _ ?_ _ _ rfl
              | with_reducible refine h34 _ _ _ ?_
              | refine Branch.t rfl ?_
              | refine Branch.f rfl ?_
              | refine Branch.df hne ?_
              | refine hnext _ .mk
              | refine New.mk (fun _ => ?_)
              | refine Look.at0 ?_
              | refine Cell.row ?_
              | refine Cell.buf ?_
              | refine Cells.row rfl ?_
              | refine Put.row rfl ?_
              | refine Put.buf rfl ?_
              | refine Look.at1 ?_
              | refine Look.at2 ?_
              | refine Look.at3 ?_
              | refine Look.at4 ?_
              | refine Look.at5 ?_
              | refine Look.at6 ?_
              | refine Look.at7 ?_
              | refine Look.at8 ?_
              | with_reducible refine Val.i64 (by omega) (by omega) ?_
              | with_reducible refine Val.u8 (by omega) (by omega) ?_
              | with_reducible refine Val.u32 (by omega) (by omega) ?_
              | with_reducible refine Val.u64 (by omega) (by omega) ?_
              | with_reducible refine Val.u8m ?_
              | with_reducible refine Val.u32m ?_
              | with_reducible refine Val.u64m ?_
              | with_reducible refine Val.shr8 ?_
              | with_reducible refine Val.shr16 (by decide) ?_
              | with_reducible refine Val.shr24 (by decide) ?_
              | with_reducible refine Val.raw ?_
              | refine Branch.not ?_
              | refine Branch.and ?_
              | refine Branch.or ?_
              | refine Branch.dt (by assumption) ?_
              | refine Branch.df (by assumption) ?_
              | refine Branch.dt rfl ?_
              | refine Branch.dt (by omega) ?_
              | refine Branch.df (by omega) ?_
              | refine Branch.t rfl ?_
              | refine Branch.f rfl ?_
              | refine Branch.t (by assumption) ?_
              | refine Branch.f (by assumption) ?_
              | refine Branch.d (fun _ => ?_) (fun _ => ?_)
              | refine Branch.mk (fun _ => ?_) (fun _ => ?_)
              | refine Need.mk (by first | omega | decide | rfl) ?_
              | refine Idx.nat (by omega) ?_
              | refine Idx.auto (by first | omega | decide) (by first | omega | decide) ?_
              | refine Cell.ro rfl ?_
              | refine SDraw.all (by kernel_rfl) ?_
              | refine Kept.k0 ?_
              | refine Kept.k1 ?_
              | refine Kept.k2 ?_
              | refine Kept.k3 ?_
              | refine Kept.k4 ?_))
      · have hnx2 := hA.next hx (fun h => h5 h.1)
        rw [if_neg h5] at hnx2
        have hne : ¬ (n : Int) = 5 := by omega
        have hnext := fun S N' hN' hS => hR (j + 1) S ((q, sIter (strOf l) (j + 1)) :: runB q6 c.toNat (tk lv n c.toNat) :: (N' ++ H)) (by omega) (Keep.all ⟨hS, _, _, _, N', hnx2, hN', rfl⟩)
        clear hR h32 hK
        repeat' ((conv => whnf); (first
            | with_reducible refine hnx _ _ ?_ _ _ rfl
            | with_reducible refine h34 _ _ _ ?_
            | with_reducible refine h33 _ _ _ (fun N' hN' => ?_)
            | refine Branch.df hne ?_
            | refine Branch.t (by first | (simp [hne]; done) | omega) ?_
            | refine Branch.f rfl ?_
            | refine hnext _ _ hN' .mk
            | refine New.mk (fun _ => ?_)
            | refine Look.at0 ?_
            | refine Cell.row ?_
            | refine Cell.buf ?_
            | refine Cells.row rfl ?_
            | refine Put.row rfl ?_
            | refine Put.buf rfl ?_
            | refine Look.at1 ?_
            | refine Look.at2 ?_
            | refine Look.at3 ?_
            | refine Look.at4 ?_
            | refine Look.at5 ?_
            | refine Look.at6 ?_
            | refine Look.at7 ?_
            | refine Look.at8 ?_
            | with_reducible refine Val.i64 (by omega) (by omega) ?_
            | with_reducible refine Val.u8 (by omega) (by omega) ?_
            | with_reducible refine Val.u32 (by omega) (by omega) ?_
            | with_reducible refine Val.u64 (by omega) (by omega) ?_
            | with_reducible refine Val.u8m ?_
            | with_reducible refine Val.u32m ?_
            | with_reducible refine Val.u64m ?_
            | with_reducible refine Val.shr8 ?_
            | with_reducible refine Val.shr16 (by decide) ?_
            | with_reducible refine Val.shr24 (by decide) ?_
            | with_reducible refine Val.raw ?_
            | refine Branch.not ?_
            | refine Branch.and ?_
            | refine Branch.or ?_
            | refine Branch.dt (by assumption) ?_
            | refine Branch.df (by assumption) ?_
            | refine Branch.dt rfl ?_
            | refine Branch.dt (by omega) ?_
            | refine Branch.df (by omega) ?_
            | refine Branch.t rfl ?_
            | refine Branch.f rfl ?_
            | refine Branch.t (by assumption) ?_
            | refine Branch.f (by assumption) ?_
            | refine Branch.d (fun _ => ?_) (fun _ => ?_)
            | refine Branch.mk (fun _ => ?_) (fun _ => ?_)
            | refine Need.mk (by first | omega | decide | rfl) ?_
            | refine Idx.nat (by omega) ?_
            | refine Idx.auto (by first | omega | decide) (by first | omega | decide) ?_
            | refine Cell.ro rfl ?_
            | refine SDraw.all (by kernel_rfl) ?_
            | refine Kept.k0 ?_
            | refine Kept.k1 ?_
            | refine Kept.k2 ?_
            | refine Kept.k3 ?_
            | refine Kept.k4 ?_))
    · have e : j = l.length := by omega
      subst e
      have hf := hA.fin
      have hnx : ∀ (H : Heap) (K2 : Value → Heap → Prop), K2 (.tuple ⟨[.bool false]⟩) ((q, sIter (strOf l) l.length) :: H) → ∀ o xm, Oper.op o = .next xm true → RawV Tryd.prog o [ptr q] ((q, sIter (strOf l) l.length) :: H) K2 := fun H K2 hk o xm ho =>
        RawV.nextS0 ho (ascii hB) (fun h => hk) (fun b2 hb2 => by have := (List.getElem?_eq_some_iff.1 hb2).1; omega)
      have h36 : ∀ (x y : Nat × Blk) (K2 : Value → Heap → Prop), (∀ N', K2 (.string (strOf out)) (x :: y :: (N' ++ H))) → SCalls Tryd.prog 36 [ptr b] (x :: y :: (N ++ H)) K2 := fun x y K2 hk =>
        SCalls.midH [x, y] H (c36 (pre := []) hN fun N' _ => hk N')
      rw [hf] at hK
      by_cases h5 : n = 5
      · rw [if_pos h5, ← hsz] at hK
        subst h5
        clear hR h32
        repeat' ((conv => whnf); (first
            | with_reducible refine hnx _ _ ?_ _ _ rfl
            | refine Branch.f rfl ?_
            | refine Branch.t rfl ?_
            | exact hk2 _ _ _ _ hK
            | refine New.mk (fun _ => ?_)
            | refine Look.at0 ?_
            | refine Cell.row ?_
            | refine Cell.buf ?_
            | refine Cells.row rfl ?_
            | refine Put.row rfl ?_
            | refine Put.buf rfl ?_
            | refine Look.at1 ?_
            | refine Look.at2 ?_
            | refine Look.at3 ?_
            | refine Look.at4 ?_
            | refine Look.at5 ?_
            | refine Look.at6 ?_
            | refine Look.at7 ?_
            | refine Look.at8 ?_
            | with_reducible refine Val.i64 (by omega) (by omega) ?_
            | with_reducible refine Val.u8 (by omega) (by omega) ?_
            | with_reducible refine Val.u32 (by omega) (by omega) ?_
            | with_reducible refine Val.u64 (by omega) (by omega) ?_
            | with_reducible refine Val.u8m ?_
            | with_reducible refine Val.u32m ?_
            | with_reducible refine Val.u64m ?_
            | with_reducible refine Val.shr8 ?_
            | with_reducible refine Val.shr16 (by decide) ?_
            | with_reducible refine Val.shr24 (by decide) ?_
            | with_reducible refine Val.raw ?_
            | refine Branch.not ?_
            | refine Branch.and ?_
            | refine Branch.or ?_
            | refine Branch.dt (by assumption) ?_
            | refine Branch.df (by assumption) ?_
            | refine Branch.dt rfl ?_
            | refine Branch.dt (by omega) ?_
            | refine Branch.df (by omega) ?_
            | refine Branch.t rfl ?_
            | refine Branch.f rfl ?_
            | refine Branch.t (by assumption) ?_
            | refine Branch.f (by assumption) ?_
            | refine Branch.d (fun _ => ?_) (fun _ => ?_)
            | refine Branch.mk (fun _ => ?_) (fun _ => ?_)
            | refine Need.mk (by first | omega | decide | rfl) ?_
            | refine Idx.nat (by omega) ?_
            | refine Idx.auto (by first | omega | decide) (by first | omega | decide) ?_
            | refine Cell.ro rfl ?_
            | refine SDraw.all (by kernel_rfl) ?_
            | refine Kept.k0 ?_
            | refine Kept.k1 ?_
            | refine Kept.k2 ?_
            | refine Kept.k3 ?_
            | refine Kept.k4 ?_))
      · rw [if_neg h5, ← hsz] at hK
        have hne : ¬ (n : Int) = 5 := by omega
        clear hR h32
        repeat' ((conv => whnf); (first
            | with_reducible refine hnx _ _ ?_ _ _ rfl
            | refine Branch.f rfl ?_
            | refine Branch.df hne ?_
            | with_reducible refine h36 _ _ _ (fun N' => ?_)
            | exact hk2 _ _ _ _ hK
            | refine New.mk (fun _ => ?_)
            | refine Look.at0 ?_
            | refine Cell.row ?_
            | refine Cell.buf ?_
            | refine Cells.row rfl ?_
            | refine Put.row rfl ?_
            | refine Put.buf rfl ?_
            | refine Look.at1 ?_
            | refine Look.at2 ?_
            | refine Look.at3 ?_
            | refine Look.at4 ?_
            | refine Look.at5 ?_
            | refine Look.at6 ?_
            | refine Look.at7 ?_
            | refine Look.at8 ?_
            | with_reducible refine Val.i64 (by omega) (by omega) ?_
            | with_reducible refine Val.u8 (by omega) (by omega) ?_
            | with_reducible refine Val.u32 (by omega) (by omega) ?_
            | with_reducible refine Val.u64 (by omega) (by omega) ?_
            | with_reducible refine Val.u8m ?_
            | with_reducible refine Val.u32m ?_
            | with_reducible refine Val.u64m ?_
            | with_reducible refine Val.shr8 ?_
            | with_reducible refine Val.shr16 (by decide) ?_
            | with_reducible refine Val.shr24 (by decide) ?_
            | with_reducible refine Val.raw ?_
            | refine Branch.not ?_
            | refine Branch.and ?_
            | refine Branch.or ?_
            | refine Branch.dt (by assumption) ?_
            | refine Branch.df (by assumption) ?_
            | refine Branch.dt rfl ?_
            | refine Branch.dt (by omega) ?_
            | refine Branch.df (by omega) ?_
            | refine Branch.t rfl ?_
            | refine Branch.f rfl ?_
            | refine Branch.t (by assumption) ?_
            | refine Branch.f (by assumption) ?_
            | refine Branch.d (fun _ => ?_) (fun _ => ?_)
            | refine Branch.mk (fun _ => ?_) (fun _ => ?_)
            | refine Need.mk (by first | omega | decide | rfl) ?_
            | refine Idx.nat (by omega) ?_
            | refine Idx.auto (by first | omega | decide) (by first | omega | decide) ?_
            | refine Cell.ro rfl ?_
            | refine SDraw.all (by kernel_rfl) ?_
            | refine Kept.k0 ?_
            | refine Kept.k1 ?_
            | refine Kept.k2 ?_
            | refine Kept.k3 ?_
            | refine Kept.k4 ?_))
  · exact absurd h0 h0'
theorem c18e {l : List UInt8} (h0 : chk l ≠ 0) (hK : K (.tuple ⟨[.string (strOf []), .int .i64 0, .int .i64 (chk l)]⟩) H) : SCalls Tryd.prog 18 [.string (strOf l)] H K := by
  refine enter18 ?_
  have h32 := fun (K : Value → Heap → Prop) hk => c32 (l := l) (K := K) (H := H) hk
  generalize chk l = v at h0 hK h32
  repeat' ((conv => whnf); (first
      | with_reducible refine h32 _ ?_
      | refine Branch.t (by simp [h0]; done) ?_
      | exact Keep.all hK
      | refine New.mk (fun _ => ?_)
      | refine Look.at0 ?_
      | refine Cell.row ?_
      | refine Cell.buf ?_
      | refine Cells.row rfl ?_
      | refine Put.row rfl ?_
      | refine Put.buf rfl ?_
      | refine Look.at1 ?_
      | refine Look.at2 ?_
      | refine Look.at3 ?_
      | refine Look.at4 ?_
      | refine Look.at5 ?_
      | refine Look.at6 ?_
      | refine Look.at7 ?_
      | refine Look.at8 ?_
      | with_reducible refine Val.i64 (by omega) (by omega) ?_
      | with_reducible refine Val.u8 (by omega) (by omega) ?_
      | with_reducible refine Val.u32 (by omega) (by omega) ?_
      | with_reducible refine Val.u64 (by omega) (by omega) ?_
      | with_reducible refine Val.u8m ?_
      | with_reducible refine Val.u32m ?_
      | with_reducible refine Val.u64m ?_
      | with_reducible refine Val.shr8 ?_
      | with_reducible refine Val.shr16 (by decide) ?_
      | with_reducible refine Val.shr24 (by decide) ?_
      | with_reducible refine Val.raw ?_
      | refine Branch.not ?_
      | refine Branch.and ?_
      | refine Branch.or ?_
      | refine Branch.dt (by assumption) ?_
      | refine Branch.df (by assumption) ?_
      | refine Branch.dt rfl ?_
      | refine Branch.dt (by omega) ?_
      | refine Branch.df (by omega) ?_
      | refine Branch.t rfl ?_
      | refine Branch.f rfl ?_
      | refine Branch.t (by assumption) ?_
      | refine Branch.f (by assumption) ?_
      | refine Branch.d (fun _ => ?_) (fun _ => ?_)
      | refine Branch.mk (fun _ => ?_) (fun _ => ?_)
      | refine Need.mk (by first | omega | decide | rfl) ?_
      | refine Idx.nat (by omega) ?_
      | refine Idx.auto (by first | omega | decide) (by first | omega | decide) ?_
      | refine Cell.ro rfl ?_
      | refine SDraw.all (by kernel_rfl) ?_
      | refine Kept.k0 ?_
      | refine Kept.k1 ?_
      | refine Kept.k2 ?_
      | refine Kept.k3 ?_
      | refine Kept.k4 ?_))
end
end Go.Proofs.YtijnjklofdmelaaDoor

/- Layer 1: the document's stuffing and unstuffing: by walks. -/
set_option linter.unusedVariables false
set_option linter.unusedSimpArgs false
set_option maxRecDepth 100000
set_option maxHeartbeats 4000000
namespace Go.Proofs.YtijnjklofdmelaaDoor
open Sx
abbrev bBuf (r cap : Nat) (out : List UInt8) : Nat × Blk := (r, .buf 5 (cel out) (cap * 1))
abbrev bBox (q : Nat) (b : Int) : Nat × Blk := (q, .row 5 [.int .u8 b] (0, 0))
section
variable {K : Value → Heap → Prop} {H : Heap}
theorem appB {q r cap : Nat} {out : List UInt8} {b : UInt8} {o : Oper} {xs xx : Operand} (ho : o.op = .call { callee := .builtin .append, args := #[xs, xx], argTypes := #[27, 27] }) (hl : out.length + 1 ≤ 1000000) (hcap : out.length ≤ cap) (hcm : cap ≤ maxLen)
    (h : ∀ r' cap', (out ++ [b]).length ≤ cap' → cap' ≤ maxLen → K (.slice (some ⟨r', 0, none⟩) (out ++ [b]).length cap') (bBuf r' cap' (out ++ [b]) :: bBox q (b.toNat : Int) :: H)) :
    RawV Tryd.prog o [.slice (some ⟨r, 0, none⟩) out.length cap, .slice (some ⟨q, 0, none⟩) 1 1] (bBox q (b.toNat : Int) :: bBuf r cap out :: H) K := by
  have e1 : (out ++ [b]).length = out.length + 1 := by simp
  refine RawV.appT (A := [bBox q (b.toNat : Int)]) (B := H) (n := out.length) (m := 1) (cs := cel out) (news := cel [b]) (r2 := q) (o2 := 0) (size := 1) (bytes := 1) (e := 5) ho (by kernel_rfl) (by decide) (by rw [cel_len, Nat.mul_one]) rfl hcap hcm (.head _) rfl (fun j v hj => ?_) (cel_one _) (by simp only [maxLen]; omega) (by omega) (fun r' cap' g1 g2 => ?_)
  · rw [Nat.zero_add]; exact hj
  · rw [← cel_app, ← e1]
    exact h r' cap' (by omega) g2
theorem c19 {l : List UInt8} (h0 : chk l = 0) (hK : K (.tuple ⟨[.string (strOf (uns l).1), .int .i64 ((uns l).2.1 : Int), .int .i64 (uns l).2.2]⟩) H) : SCalls Tryd.prog 19 [.string (strOf l)] H K := by
  refine enter19 ?_
  rcases chk_cases l with ⟨_, hl, hB⟩ | ⟨h0', _⟩
  · have h29 := fun (K : Value → Heap → Prop) (hk : K (.int .i64 0) H) => c29 (l := l) (K := K) (H := H) (by rw [h0]; exact hk)
    repeat' ((conv => whnf); (first
        | with_reducible refine h29 _ ?_
        | refine Branch.f rfl ?_
        | refine New.mk (fun _ => ?_)
        | refine Look.at0 ?_
        | refine Cell.row ?_
        | refine Cell.buf ?_
        | refine Cells.row rfl ?_
        | refine Put.row rfl ?_
        | refine Put.buf rfl ?_
        | refine Look.at1 ?_
        | refine Look.at2 ?_
        | refine Look.at3 ?_
        | refine Look.at4 ?_
        | refine Look.at5 ?_
        | refine Look.at6 ?_
        | refine Look.at7 ?_
        | refine Look.at8 ?_
        | with_reducible refine Val.i64 (by omega) (by omega) ?_
        | with_reducible refine Val.u8 (by omega) (by omega) ?_
        | with_reducible refine Val.u32 (by omega) (by omega) ?_
        | with_reducible refine Val.u64 (by omega) (by omega) ?_
        | with_reducible refine Val.u8m ?_
        | with_reducible refine Val.u32m ?_
        | with_reducible refine Val.u64m ?_
        | with_reducible refine Val.shr8 ?_
        | with_reducible refine Val.shr16 (by decide) ?_
        | with_reducible refine Val.shr24 (by decide) ?_
        | with_reducible refine Val.raw ?_
        | refine Branch.not ?_
        | refine Branch.and ?_
        | refine Branch.or ?_
        | refine Branch.dt (by assumption) ?_
        | refine Branch.df (by assumption) ?_
        | refine Branch.dt rfl ?_
        | refine Branch.dt (by omega) ?_
        | refine Branch.df (by omega) ?_
        | refine Branch.t rfl ?_
        | refine Branch.f rfl ?_
        | refine Branch.t (by assumption) ?_
        | refine Branch.f (by assumption) ?_
        | refine Branch.d (fun _ => ?_) (fun _ => ?_)
        | refine Branch.mk (fun _ => ?_) (fun _ => ?_)
        | refine Need.mk (by first | omega | decide | rfl) ?_
        | refine Idx.nat (by omega) ?_
        | refine Idx.auto (by first | omega | decide) (by first | omega | decide) ?_
        | refine Cell.ro rfl ?_
        | refine SDraw.all (by kernel_rfl) ?_
        | refine Kept.k0 ?_
        | refine Kept.k1 ?_
        | refine Kept.k2 ?_
        | refine Kept.k3 ?_
        | refine Kept.k4 ?_))
    rename_i p
    refine SLoop.toBuf (A := []) ?_
    refine SLoop.invA (fun (j : Nat) S H' => ∃ out lv n r cap, At l j out lv n ∧ S19 (.string (strOf l)) (.int .i64 0) (.slice (some ⟨r, 0, none⟩) out.length cap) (.int .i64 (n : Int)) (.int .i64 (j : Int)) S ∧ out.length ≤ cap ∧ cap ≤ maxLen ∧ H' = bBuf r cap out :: H) (fun j => l.length - j) 0 (Keep.all ⟨[], 0, 0, p, 0, At.zero l, .mk, Nat.le_refl _, Nat.zero_le _, rfl⟩) ?_
    rintro j S H' ⟨out, lv, n, r, cap, hA, hS, hcap, hcm, rfl⟩ R hR
    cases hS
    have hj := hA.le
    have k1 := hA.n5
    have k2 := hA.len
    have hsz : (strOf l).size = l.length := strOf_size l
    by_cases hlt : j < l.length
    · have hx := List.getElem?_eq_getElem hlt
      generalize l[j] = c at hx
      have hat := byteAt_of hx
      have hcB := hB c (List.mem_of_getElem? hx)
      have hc0 : 0 < c.toNat := by rcases isB_cases hcB with ⟨h, _⟩ | ⟨h, _⟩ <;> omega
      have happ : ∀ (q : Nat) (H : Heap) (o : Oper) (xs xx : Operand) (K2 : Value → Heap → Prop), o.op = .call { callee := .builtin .append, args := #[xs, xx], argTypes := #[27, 27] } → (∀ r' cap', (out ++ [c]).length ≤ cap' → cap' ≤ maxLen → K2 (.slice (some ⟨r', 0, none⟩) (out ++ [c]).length cap') (bBuf r' cap' (out ++ [c]) :: bBox q (c.toNat : Int) :: H)) →
          RawV Tryd.prog o [.slice (some ⟨r, 0, none⟩) out.length cap, .slice (some ⟨q, 0, none⟩) 1 1] (bBox q (c.toNat : Int) :: bBuf r cap out :: H) K2 := fun q H o xs xx K2 ho hk => appB ho (by omega) hcap hcm hk
      rcases hA.last with ⟨rfl, rfl, rfl⟩ | ⟨hj0, d, hd, rfl⟩
      · have hnx := hA.next hx (fun h => by omega)
        rw [if_neg (by decide), show tk 0 0 c.toNat = 1 by unfold tk; rw [if_neg (by omega)]] at hnx
        have hnext : ∀ S r' cap' q, S19 (.string (strOf l)) (.int .i64 0) (.slice (some ⟨r', 0, none⟩) (out ++ [c]).length cap') (.int .i64 ((1 : Nat) : Int)) (.int .i64 ((0 + 1 : Nat) : Int)) S → (out ++ [c]).length ≤ cap' → cap' ≤ maxLen → R S (bBuf r' cap' (out ++ [c]) :: bBox q (c.toNat : Int) :: H) := fun S r' cap' q hS h1 h2 => hR 1 _ _ (by omega) (Keep.drop1 ⟨_, _, _, _, _, hnx, hS, h1, h2, rfl⟩)
        clear hR hK h29
        repeat' ((conv => whnf); (first
            | refine Branch.dt (by omega) ?_
            | refine Branch.f rfl ?_
            | refine Branch.t rfl ?_
            | refine Idx.of 0 rfl (by omega) ?_
            | with_reducible rw [hat]
            | refine happ _ _ _ _ _ _ rfl (fun r' cap' g1 g2 => ?_)
            | refine hnext _ _ _ _ .mk g1 g2
            | refine New.mk (fun _ => ?_)
            | refine Look.at0 ?_
            | refine Cell.row ?_
            | refine Cell.buf ?_
            | refine Cells.row rfl ?_
            | refine Put.row rfl ?_
            | refine Put.buf rfl ?_
            | refine Look.at1 ?_
            | refine Look.at2 ?_
            | refine Look.at3 ?_
            | refine Look.at4 ?_
            | refine Look.at5 ?_
            | refine Look.at6 ?_
            | refine Look.at7 ?_
            | refine Look.at8 ?_
            | with_reducible refine Val.i64 (by omega) (by omega) ?_
            | with_reducible refine Val.u8 (by omega) (by omega) ?_
            | with_reducible refine Val.u32 (by omega) (by omega) ?_
            | with_reducible refine Val.u64 (by omega) (by omega) ?_
            | with_reducible refine Val.u8m ?_
            | with_reducible refine Val.u32m ?_
            | with_reducible refine Val.u64m ?_
            | with_reducible refine Val.shr8 ?_
            | with_reducible refine Val.shr16 (by decide) ?_
            | with_reducible refine Val.shr24 (by decide) ?_
            | with_reducible refine Val.raw ?_
            | refine Branch.not ?_
            | refine Branch.and ?_
            | refine Branch.or ?_
            | refine Branch.dt (by assumption) ?_
            | refine Branch.df (by assumption) ?_
            | refine Branch.dt rfl ?_
            | refine Branch.dt (by omega) ?_
            | refine Branch.df (by omega) ?_
            | refine Branch.t rfl ?_
            | refine Branch.f rfl ?_
            | refine Branch.t (by assumption) ?_
            | refine Branch.f (by assumption) ?_
            | refine Branch.d (fun _ => ?_) (fun _ => ?_)
            | refine Branch.mk (fun _ => ?_) (fun _ => ?_)
            | refine Need.mk (by first | omega | decide | rfl) ?_
            | refine Idx.nat (by omega) ?_
            | refine Idx.auto (by first | omega | decide) (by first | omega | decide) ?_
            | refine Cell.ro rfl ?_
            | refine SDraw.all (by kernel_rfl) ?_
            | refine Kept.k0 ?_
            | refine Kept.k1 ?_
            | refine Kept.k2 ?_
            | refine Kept.k3 ?_
            | refine Kept.k4 ?_))
      · obtain ⟨i, rfl⟩ : ∃ i, j = i + 1 := ⟨j - 1, by omega⟩
        rw [show i + 1 - 1 = i by omega] at hd
        have hatd := byteAt_of hd
        have hsub : (((i + 1 : Nat) : Int) - 1) = (i : Int) := by omega
        by_cases h5 : n = 5
        · by_cases hlv : c.toNat = d.toNat
          · have hst := hA.stop hx h5 hlv
            rw [hst] at hK
            rw [hlv] at hat
            clear hR h29
            subst h5
            repeat' ((conv => whnf); (first
                | refine Branch.dt (by omega) ?_
                | refine Branch.t rfl ?_
                | refine Idx.of (i + 1) rfl (by omega) ?_
                | refine Idx.of i rfl (by omega) ?_
                | with_reducible rw [hat]
                | with_reducible rw [hatd]
                | with_reducible refine Val.to (i : Int) (by rw [wrap_i64 (by omega) (by omega)]; omega) ?_
                | refine Branch.t (by first | (simp; done) | omega) ?_
                | exact Keep.d1 hK
                | refine New.mk (fun _ => ?_)
                | refine Look.at0 ?_
                | refine Cell.row ?_
                | refine Cell.buf ?_
                | refine Cells.row rfl ?_
                | refine Put.row rfl ?_
                | refine Put.buf rfl ?_
                | refine Look.at1 ?_
                | refine Look.at2 ?_
                | refine Look.at3 ?_
                | refine Look.at4 ?_
                | refine Look.at5 ?_
                | refine Look.at6 ?_
                | refine Look.at7 ?_
                | refine Look.at8 ?_
                | with_reducible refine Val.i64 (by omega) (by omega) ?_
                | with_reducible refine Val.u8 (by omega) (by omega) ?_
                | with_reducible refine Val.u32 (by omega) (by omega) ?_
                | with_reducible refine Val.u64 (by omega) (by omega) ?_
                | with_reducible refine Val.u8m ?_
                | with_reducible refine Val.u32m ?_
                | with_reducible refine Val.u64m ?_
                | with_reducible refine Val.shr8 ?_
                | with_reducible refine Val.shr16 (by decide) ?_
                | with_reducible refine Val.shr24 (by decide) ?_
                | with_reducible refine Val.raw ?_
                | refine Branch.not ?_
                | refine Branch.and ?_
                | refine Branch.or ?_
                | refine Branch.dt (by assumption) ?_
                | refine Branch.df (by assumption) ?_
                | refine Branch.dt rfl ?_
                | refine Branch.dt (by omega) ?_
                | refine Branch.df (by omega) ?_
                | refine Branch.t rfl ?_
                | refine Branch.f rfl ?_
                | refine Branch.t (by assumption) ?_
                | refine Branch.f (by assumption) ?_
                | refine Branch.d (fun _ => ?_) (fun _ => ?_)
                | refine Branch.mk (fun _ => ?_) (fun _ => ?_)
                | refine Need.mk (by first | omega | decide | rfl) ?_
                | refine Idx.nat (by omega) ?_
                | refine Idx.auto (by first | omega | decide) (by first | omega | decide) ?_
                | refine Cell.ro rfl ?_
                | refine SDraw.all (by kernel_rfl) ?_
                | refine Kept.k0 ?_
                | refine Kept.k1 ?_
                | refine Kept.k2 ?_
                | refine Kept.k3 ?_
                | refine Kept.k4 ?_))
          · have hnx := hA.next hx (fun h => hlv h.2)
            rw [if_pos h5, show tk d.toNat n c.toNat = 1 by unfold tk; rw [if_neg hlv]] at hnx
            have hne : ¬ (c.toNat : Int) = (d.toNat : Int) := by omega
            have hnext : ∀ S, S19 (.string (strOf l)) (.int .i64 0) (.slice (some ⟨r, 0, none⟩) out.length cap) (.int .i64 ((1 : Nat) : Int)) (.int .i64 ((i + 1 + 1 : Nat) : Int)) S → R S (bBuf r cap out :: H) := fun S hS => hR (i + 1 + 1) _ _ (by omega) (Keep.all ⟨_, _, _, _, _, hnx, hS, hcap, hcm, rfl⟩)
            clear hR hK h29
            subst h5
            repeat' ((conv => whnf); (first
                | refine Branch.dt (by omega) ?_
                | refine Branch.t rfl ?_
                | refine Branch.f rfl ?_
                | refine Idx.of (i + 1) rfl (by omega) ?_
                | refine Idx.of i rfl (by omega) ?_
                | with_reducible rw [hat]
                | with_reducible rw [hatd]
                | with_reducible refine Val.to (i : Int) (by rw [wrap_i64 (by omega) (by omega)]; omega) ?_
                | refine Branch.df hne ?_
                | refine hnext _ .mk
                | refine New.mk (fun _ => ?_)
                | refine Look.at0 ?_
                | refine Cell.row ?_
                | refine Cell.buf ?_
                | refine Cells.row rfl ?_
                | refine Put.row rfl ?_
                | refine Put.buf rfl ?_
                | refine Look.at1 ?_
                | refine Look.at2 ?_
                | refine Look.at3 ?_
                | refine Look.at4 ?_
                | refine Look.at5 ?_
                | refine Look.at6 ?_
                | refine Look.at7 ?_
                | refine Look.at8 ?_
                | with_reducible refine Val.i64 (by omega) (by omega) ?_
                | with_reducible refine Val.u8 (by omega) (by omega) ?_
                | with_reducible refine Val.u32 (by omega) (by omega) ?_
                | with_reducible refine Val.u64 (by omega) (by omega) ?_
                | with_reducible refine Val.u8m ?_
                | with_reducible refine Val.u32m ?_
                | with_reducible refine Val.u64m ?_
                | with_reducible refine Val.shr8 ?_
                | with_reducible refine Val.shr16 (by decide) ?_
                | with_reducible refine Val.shr24 (by decide) ?_
                | with_reducible refine Val.raw ?_
                | refine Branch.not ?_
                | refine Branch.and ?_
                | refine Branch.or ?_
                | refine Branch.dt (by assumption) ?_
                | refine Branch.df (by assumption) ?_
                | refine Branch.dt rfl ?_
                | refine Branch.dt (by omega) ?_
                | refine Branch.df (by omega) ?_
                | refine Branch.t rfl ?_
                | refine Branch.f rfl ?_
                | refine Branch.t (by assumption) ?_
                | refine Branch.f (by assumption) ?_
                | refine Branch.d (fun _ => ?_) (fun _ => ?_)
                | refine Branch.mk (fun _ => ?_) (fun _ => ?_)
                | refine Need.mk (by first | omega | decide | rfl) ?_
                | refine Idx.nat (by omega) ?_
                | refine Idx.auto (by first | omega | decide) (by first | omega | decide) ?_
                | refine Cell.ro rfl ?_
                | refine SDraw.all (by kernel_rfl) ?_
                | refine Kept.k0 ?_
                | refine Kept.k1 ?_
                | refine Kept.k2 ?_
                | refine Kept.k3 ?_
                | refine Kept.k4 ?_))
        · have hnx := hA.next hx (fun h => h5 h.1)
          rw [if_neg h5] at hnx
          have h5' : ¬ (n : Int) = 5 := by omega
          have hnext : ∀ S r' cap' q, S19 (.string (strOf l)) (.int .i64 0) (.slice (some ⟨r', 0, none⟩) (out ++ [c]).length cap') (.int .i64 (tk d.toNat n c.toNat : Int)) (.int .i64 ((i + 1 + 1 : Nat) : Int)) S → (out ++ [c]).length ≤ cap' → cap' ≤ maxLen → R S (bBuf r' cap' (out ++ [c]) :: bBox q (c.toNat : Int) :: H) := fun S r' cap' q hS h1 h2 => hR (i + 1 + 1) _ _ (by omega) (Keep.drop1 ⟨_, _, _, _, _, hnx, hS, h1, h2, rfl⟩)
          unfold tk at hnext
          by_cases hlv : c.toNat = d.toNat
          · rw [if_pos hlv] at hnext
            have hlv' : (c.toNat : Int) = (d.toNat : Int) := by omega
            clear hR hK h29
            repeat' ((conv => whnf); (first
                | refine Branch.dt (by omega) ?_
                | refine Branch.df h5' ?_
                | refine Branch.t (by first | (simp [h5']; done) | omega) ?_
                | refine Branch.dt hlv' ?_
                | refine Branch.f rfl ?_
                | refine Branch.t rfl ?_
                | refine Idx.of (i + 1) rfl (by omega) ?_
                | refine Idx.of i rfl (by omega) ?_
                | with_reducible rw [hat]
                | with_reducible rw [hatd]
                | with_reducible refine Val.to (i : Int) (by rw [wrap_i64 (by omega) (by omega)]; omega) ?_
                | refine happ _ _ _ _ _ _ rfl (fun r' cap' g1 g2 => ?_)
                | refine hnext _ _ _ _ .mk g1 g2
                | refine New.mk (fun _ => ?_)
                | refine Look.at0 ?_
                | refine Cell.row ?_
                | refine Cell.buf ?_
                | refine Cells.row rfl ?_
                | refine Put.row rfl ?_
                | refine Put.buf rfl ?_
                | refine Look.at1 ?_
                | refine Look.at2 ?_
                | refine Look.at3 ?_
                | refine Look.at4 ?_
                | refine Look.at5 ?_
                | refine Look.at6 ?_
                | refine Look.at7 ?_
                | refine Look.at8 ?_
                | with_reducible refine Val.i64 (by omega) (by omega) ?_
                | with_reducible refine Val.u8 (by omega) (by omega) ?_
                | with_reducible refine Val.u32 (by omega) (by omega) ?_
                | with_reducible refine Val.u64 (by omega) (by omega) ?_
                | with_reducible refine Val.u8m ?_
                | with_reducible refine Val.u32m ?_
                | with_reducible refine Val.u64m ?_
                | with_reducible refine Val.shr8 ?_
                | with_reducible refine Val.shr16 (by decide) ?_
                | with_reducible refine Val.shr24 (by decide) ?_
                | with_reducible refine Val.raw ?_
                | refine Branch.not ?_
                | refine Branch.and ?_
                | refine Branch.or ?_
                | refine Branch.dt (by assumption) ?_
                | refine Branch.df (by assumption) ?_
                | refine Branch.dt rfl ?_
                | refine Branch.dt (by omega) ?_
                | refine Branch.df (by omega) ?_
                | refine Branch.t rfl ?_
                | refine Branch.f rfl ?_
                | refine Branch.t (by assumption) ?_
                | refine Branch.f (by assumption) ?_
                | refine Branch.d (fun _ => ?_) (fun _ => ?_)
                | refine Branch.mk (fun _ => ?_) (fun _ => ?_)
                | refine Need.mk (by first | omega | decide | rfl) ?_
                | refine Idx.nat (by omega) ?_
                | refine Idx.auto (by first | omega | decide) (by first | omega | decide) ?_
                | refine Cell.ro rfl ?_
                | refine SDraw.all (by kernel_rfl) ?_
                | refine Kept.k0 ?_
                | refine Kept.k1 ?_
                | refine Kept.k2 ?_
                | refine Kept.k3 ?_
                | refine Kept.k4 ?_))
          · rw [if_neg hlv] at hnext
            have hlv' : ¬ (c.toNat : Int) = (d.toNat : Int) := by omega
            clear hR hK h29
            repeat' ((conv => whnf); (first
                | refine Branch.dt (by omega) ?_
                | refine Branch.df h5' ?_
                | refine Branch.t (by first | (simp [h5']; done) | omega) ?_
                | refine Branch.df hlv' ?_
                | refine Branch.f rfl ?_
                | refine Branch.t rfl ?_
                | refine Idx.of (i + 1) rfl (by omega) ?_
                | refine Idx.of i rfl (by omega) ?_
                | with_reducible rw [hat]
                | with_reducible rw [hatd]
                | with_reducible refine Val.to (i : Int) (by rw [wrap_i64 (by omega) (by omega)]; omega) ?_
                | refine happ _ _ _ _ _ _ rfl (fun r' cap' g1 g2 => ?_)
                | refine hnext _ _ _ _ .mk g1 g2
                | refine New.mk (fun _ => ?_)
                | refine Look.at0 ?_
                | refine Cell.row ?_
                | refine Cell.buf ?_
                | refine Cells.row rfl ?_
                | refine Put.row rfl ?_
                | refine Put.buf rfl ?_
                | refine Look.at1 ?_
                | refine Look.at2 ?_
                | refine Look.at3 ?_
                | refine Look.at4 ?_
                | refine Look.at5 ?_
                | refine Look.at6 ?_
                | refine Look.at7 ?_
                | refine Look.at8 ?_
                | with_reducible refine Val.i64 (by omega) (by omega) ?_
                | with_reducible refine Val.u8 (by omega) (by omega) ?_
                | with_reducible refine Val.u32 (by omega) (by omega) ?_
                | with_reducible refine Val.u64 (by omega) (by omega) ?_
                | with_reducible refine Val.u8m ?_
                | with_reducible refine Val.u32m ?_
                | with_reducible refine Val.u64m ?_
                | with_reducible refine Val.shr8 ?_
                | with_reducible refine Val.shr16 (by decide) ?_
                | with_reducible refine Val.shr24 (by decide) ?_
                | with_reducible refine Val.raw ?_
                | refine Branch.not ?_
                | refine Branch.and ?_
                | refine Branch.or ?_
                | refine Branch.dt (by assumption) ?_
                | refine Branch.df (by assumption) ?_
                | refine Branch.dt rfl ?_
                | refine Branch.dt (by omega) ?_
                | refine Branch.df (by omega) ?_
                | refine Branch.t rfl ?_
                | refine Branch.f rfl ?_
                | refine Branch.t (by assumption) ?_
                | refine Branch.f (by assumption) ?_
                | refine Branch.d (fun _ => ?_) (fun _ => ?_)
                | refine Branch.mk (fun _ => ?_) (fun _ => ?_)
                | refine Need.mk (by first | omega | decide | rfl) ?_
                | refine Idx.nat (by omega) ?_
                | refine Idx.auto (by first | omega | decide) (by first | omega | decide) ?_
                | refine Cell.ro rfl ?_
                | refine SDraw.all (by kernel_rfl) ?_
                | refine Kept.k0 ?_
                | refine Kept.k1 ?_
                | refine Kept.k2 ?_
                | refine Kept.k3 ?_
                | refine Kept.k4 ?_))
    · have e : j = l.length := by omega
      subst e
      have hf := hA.fin
      rw [hf] at hK
      have hstr : ∀ (o : Oper) (xx : Operand) (K2 : Value → Heap → Prop), o.op = .convert 27 9 xx → K2 (.string (strOf out)) (bBuf r cap out :: H) → RawV Tryd.prog o [.slice (some ⟨r, 0, none⟩) out.length cap] (bBuf r cap out :: H) K2 := fun o xx K2 ho hk =>
        RawV.toStr (e := 5) (l := out) ho (by kernel_rfl) (by kernel_rfl) (by kernel_rfl) (.head _) rfl (fun j x hj => by rw [Nat.zero_add]; exact cel_at hj) hk
      by_cases h5 : n = 5
      · rw [if_pos h5, ← hsz] at hK
        subst h5
        clear hR h29
        repeat' ((conv => whnf); (first
            | refine Branch.df (by omega) ?_
            | refine Branch.t rfl ?_
            | exact Keep.d1 hK
            | refine New.mk (fun _ => ?_)
            | refine Look.at0 ?_
            | refine Cell.row ?_
            | refine Cell.buf ?_
            | refine Cells.row rfl ?_
            | refine Put.row rfl ?_
            | refine Put.buf rfl ?_
            | refine Look.at1 ?_
            | refine Look.at2 ?_
            | refine Look.at3 ?_
            | refine Look.at4 ?_
            | refine Look.at5 ?_
            | refine Look.at6 ?_
            | refine Look.at7 ?_
            | refine Look.at8 ?_
            | with_reducible refine Val.i64 (by omega) (by omega) ?_
            | with_reducible refine Val.u8 (by omega) (by omega) ?_
            | with_reducible refine Val.u32 (by omega) (by omega) ?_
            | with_reducible refine Val.u64 (by omega) (by omega) ?_
            | with_reducible refine Val.u8m ?_
            | with_reducible refine Val.u32m ?_
            | with_reducible refine Val.u64m ?_
            | with_reducible refine Val.shr8 ?_
            | with_reducible refine Val.shr16 (by decide) ?_
            | with_reducible refine Val.shr24 (by decide) ?_
            | with_reducible refine Val.raw ?_
            | refine Branch.not ?_
            | refine Branch.and ?_
            | refine Branch.or ?_
            | refine Branch.dt (by assumption) ?_
            | refine Branch.df (by assumption) ?_
            | refine Branch.dt rfl ?_
            | refine Branch.dt (by omega) ?_
            | refine Branch.df (by omega) ?_
            | refine Branch.t rfl ?_
            | refine Branch.f rfl ?_
            | refine Branch.t (by assumption) ?_
            | refine Branch.f (by assumption) ?_
            | refine Branch.d (fun _ => ?_) (fun _ => ?_)
            | refine Branch.mk (fun _ => ?_) (fun _ => ?_)
            | refine Need.mk (by first | omega | decide | rfl) ?_
            | refine Idx.nat (by omega) ?_
            | refine Idx.auto (by first | omega | decide) (by first | omega | decide) ?_
            | refine Cell.ro rfl ?_
            | refine SDraw.all (by kernel_rfl) ?_
            | refine Kept.k0 ?_
            | refine Kept.k1 ?_
            | refine Kept.k2 ?_
            | refine Kept.k3 ?_
            | refine Kept.k4 ?_))
      · rw [if_neg h5, ← hsz] at hK
        have hne : ¬ (n : Int) = 5 := by omega
        clear hR h29
        repeat' ((conv => whnf); (first
            | refine Branch.df (by omega) ?_
            | refine Branch.df hne ?_
            | refine hstr _ _ _ rfl ?_
            | exact Keep.d1 hK
            | refine New.mk (fun _ => ?_)
            | refine Look.at0 ?_
            | refine Cell.row ?_
            | refine Cell.buf ?_
            | refine Cells.row rfl ?_
            | refine Put.row rfl ?_
            | refine Put.buf rfl ?_
            | refine Look.at1 ?_
            | refine Look.at2 ?_
            | refine Look.at3 ?_
            | refine Look.at4 ?_
            | refine Look.at5 ?_
            | refine Look.at6 ?_
            | refine Look.at7 ?_
            | refine Look.at8 ?_
            | with_reducible refine Val.i64 (by omega) (by omega) ?_
            | with_reducible refine Val.u8 (by omega) (by omega) ?_
            | with_reducible refine Val.u32 (by omega) (by omega) ?_
            | with_reducible refine Val.u64 (by omega) (by omega) ?_
            | with_reducible refine Val.u8m ?_
            | with_reducible refine Val.u32m ?_
            | with_reducible refine Val.u64m ?_
            | with_reducible refine Val.shr8 ?_
            | with_reducible refine Val.shr16 (by decide) ?_
            | with_reducible refine Val.shr24 (by decide) ?_
            | with_reducible refine Val.raw ?_
            | refine Branch.not ?_
            | refine Branch.and ?_
            | refine Branch.or ?_
            | refine Branch.dt (by assumption) ?_
            | refine Branch.df (by assumption) ?_
            | refine Branch.dt rfl ?_
            | refine Branch.dt (by omega) ?_
            | refine Branch.df (by omega) ?_
            | refine Branch.t rfl ?_
            | refine Branch.f rfl ?_
            | refine Branch.t (by assumption) ?_
            | refine Branch.f (by assumption) ?_
            | refine Branch.d (fun _ => ?_) (fun _ => ?_)
            | refine Branch.mk (fun _ => ?_) (fun _ => ?_)
            | refine Need.mk (by first | omega | decide | rfl) ?_
            | refine Idx.nat (by omega) ?_
            | refine Idx.auto (by first | omega | decide) (by first | omega | decide) ?_
            | refine Cell.ro rfl ?_
            | refine SDraw.all (by kernel_rfl) ?_
            | refine Kept.k0 ?_
            | refine Kept.k1 ?_
            | refine Kept.k2 ?_
            | refine Kept.k3 ?_
            | refine Kept.k4 ?_))
  · exact absurd h0 h0'
theorem c19e {l : List UInt8} (h0 : chk l ≠ 0) (hK : K (.tuple ⟨[.string (strOf []), .int .i64 0, .int .i64 (chk l)]⟩) H) : SCalls Tryd.prog 19 [.string (strOf l)] H K := by
  refine enter19 ?_
  have h29 := fun (K : Value → Heap → Prop) hk => c29 (l := l) (K := K) (H := H) hk
  generalize chk l = v at h0 hK h29
  repeat' ((conv => whnf); (first
      | with_reducible refine h29 _ ?_
      | refine Branch.t (by simp [h0]; done) ?_
      | exact Keep.all hK
      | refine New.mk (fun _ => ?_)
      | refine Look.at0 ?_
      | refine Cell.row ?_
      | refine Cell.buf ?_
      | refine Cells.row rfl ?_
      | refine Put.row rfl ?_
      | refine Put.buf rfl ?_
      | refine Look.at1 ?_
      | refine Look.at2 ?_
      | refine Look.at3 ?_
      | refine Look.at4 ?_
      | refine Look.at5 ?_
      | refine Look.at6 ?_
      | refine Look.at7 ?_
      | refine Look.at8 ?_
      | with_reducible refine Val.i64 (by omega) (by omega) ?_
      | with_reducible refine Val.u8 (by omega) (by omega) ?_
      | with_reducible refine Val.u32 (by omega) (by omega) ?_
      | with_reducible refine Val.u64 (by omega) (by omega) ?_
      | with_reducible refine Val.u8m ?_
      | with_reducible refine Val.u32m ?_
      | with_reducible refine Val.u64m ?_
      | with_reducible refine Val.shr8 ?_
      | with_reducible refine Val.shr16 (by decide) ?_
      | with_reducible refine Val.shr24 (by decide) ?_
      | with_reducible refine Val.raw ?_
      | refine Branch.not ?_
      | refine Branch.and ?_
      | refine Branch.or ?_
      | refine Branch.dt (by assumption) ?_
      | refine Branch.df (by assumption) ?_
      | refine Branch.dt rfl ?_
      | refine Branch.dt (by omega) ?_
      | refine Branch.df (by omega) ?_
      | refine Branch.t rfl ?_
      | refine Branch.f rfl ?_
      | refine Branch.t (by assumption) ?_
      | refine Branch.f (by assumption) ?_
      | refine Branch.d (fun _ => ?_) (fun _ => ?_)
      | refine Branch.mk (fun _ => ?_) (fun _ => ?_)
      | refine Need.mk (by first | omega | decide | rfl) ?_
      | refine Idx.nat (by omega) ?_
      | refine Idx.auto (by first | omega | decide) (by first | omega | decide) ?_
      | refine Cell.ro rfl ?_
      | refine SDraw.all (by kernel_rfl) ?_
      | refine Kept.k0 ?_
      | refine Kept.k1 ?_
      | refine Kept.k2 ?_
      | refine Kept.k3 ?_
      | refine Kept.k4 ?_))
end
end Go.Proofs.YtijnjklofdmelaaDoor

