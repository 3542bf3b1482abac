/- Layer 20: a scan's machine and the document's: by walks. -/
import Derived.Test.YtkegkhhfbfegoaaBLs
import Derived.Test.YtkegkhhfbfegoaaBX
import Derived.Test.YtkegkhhfbfegoaaBSx1

set_option linter.unusedVariables false
set_option linter.unusedSimpArgs false
set_option maxRecDepth 100000
set_option maxHeartbeats 4000000
namespace Go.Proofs.Ytkegkhhfbfegoaa
open Sx Ls
/-- A scan: what it asks (0 whether, 1 bits, 2 the whole, 3 it is over), the part, the bit, what is known, whether it found, was asked, how many answers it took. -/
structure Sc where
  (ph pa bi k0 k1 k2 k3 : Int)
  (found asked : Bool)
  (took : Int)
def Sc.row (s : Sc) : Blk := .row 79 [.int .i64 s.ph, .int .i64 s.pa, .int .i64 s.bi, .int .u32 s.k0, .int .u32 s.k1, .int .u32 s.k2, .int .u32 s.k3, .bool s.found, .bool s.asked, .int .i64 s.took] (0, 0)
def Sc.ref (s : Sc) : Blk := .row 53 [.int .i64 s.took, .int .u32 s.k0, .int .u32 s.k1, .int .u32 s.k2, .int .u32 s.k3, .bool (decide (s.ph = 3)), .bool s.found, .bool s.asked] (0, 0)
structure Sc.Ok (s : Sc) : Prop where
  st : (s.ph = 0 ∧ s.pa = 0 ∧ s.bi = 31 ∧ s.took = 0 ∧ s.k0 = 0) ∨ (s.ph = 1 ∧ 0 ≤ s.pa ∧ s.pa ≤ 3 ∧ 0 ≤ s.bi ∧ s.bi ≤ 31 ∧ s.took = 33 * s.pa + 32 - s.bi) ∨ (s.ph = 2 ∧ 0 ≤ s.pa ∧ s.pa ≤ 3 ∧ s.bi = -1 ∧ s.took = 33 * s.pa + 33) ∨ (s.ph = 3 ∧ s.asked = false)
  nf : s.ph ≠ 3 → s.found = false
  tk : 0 ≤ s.took ∧ s.took ≤ 133
  r0 : 0 ≤ s.k0 ∧ s.k0 ≤ 4294967295
  r1 : 0 ≤ s.k1 ∧ s.k1 ≤ 4294967295
  r2 : 0 ≤ s.k2 ∧ s.k2 ≤ 4294967295
  r3 : 0 ≤ s.k3 ∧ s.k3 ≤ 4294967295
def Sc.kn (s : Sc) (p : Int) : Int := if p = 0 then s.k0 else if p = 1 then s.k1 else if p = 2 then s.k2 else s.k3
def Sc.new : Sc := ⟨0, 0, 31, 0, 0, 0, 0, false, false, 0⟩
def Sc.q (s : Sc) : Q :=
  if s.ph = 0 then ⟨81, 0, 0, 0, 0, 128, 0, 0⟩
  else if s.ph = 1 then ⟨81, s.kn s.pa % 256, s.kn s.pa / 256 % 256, s.kn s.pa / 65536 % 256, s.kn s.pa / 16777216, s.bi, s.pa, s.pa⟩
  else ⟨81, s.kn s.pa % 256, s.kn s.pa / 256 % 256, s.kn s.pa / 65536 % 256, s.kn s.pa / 16777216, 0, s.pa, (s.pa + 1) % 4⟩
section
variable {K : Value → Heap → Prop} {g : Nat} {s : Sc}
theorem c17 {H : Heap} (h : ∀ g, K (.pointer (some ⟨g, 0, none⟩)) ((g, Sc.new.row) :: H)) : SCalls Try.prog 17 [] H K := by
  refine SCalls.any (K := fun v N => ∃ g, v = .pointer (some ⟨g, 0, none⟩) ∧ N = [(g, Sc.new.row)]) (enter17 (_u := undef) ?_) (by rintro v N ⟨g, rfl, rfl⟩; exact h g)
  repeat' ((conv => whnf); (first
      | refine New.mk (fun _ => ?_)
      | refine Look.at0 ?_
      | refine Cell.row ?_
      | refine Cell.buf ?_
      | refine Cells.row rfl ?_
      | refine Put.row rfl ?_
      | refine Put.buf rfl ?_
      | refine Look.at1 ?_
      | refine Look.at2 ?_
      | refine Look.at3 ?_
      | refine Look.at4 ?_
      | refine Look.at5 ?_
      | refine Look.at6 ?_
      | refine Look.at7 ?_
      | refine Look.at8 ?_
      | with_reducible refine Val.i64 (by omega) (by omega) ?_
      | with_reducible refine Val.u8 (by omega) (by omega) ?_
      | with_reducible refine Val.u32 (by omega) (by omega) ?_
      | with_reducible refine Val.u64 (by omega) (by omega) ?_
      | with_reducible refine Val.u8m ?_
      | with_reducible refine Val.u32m ?_
      | with_reducible refine Val.u64m ?_
      | with_reducible refine Val.shr8 ?_
      | with_reducible refine Val.shr16 (by decide) ?_
      | with_reducible refine Val.shr24 (by decide) ?_
      | with_reducible refine Val.raw ?_
      | refine Branch.not ?_
      | refine Branch.and ?_
      | refine Branch.or ?_
      | refine Branch.dt (by assumption) ?_
      | refine Branch.df (by assumption) ?_
      | refine Branch.dt rfl ?_
      | refine Branch.dt (by omega) ?_
      | refine Branch.df (by omega) ?_
      | refine Branch.t rfl ?_
      | refine Branch.f rfl ?_
      | refine Branch.t (by assumption) ?_
      | refine Branch.f (by assumption) ?_
      | refine Branch.d (fun _ => ?_) (fun _ => ?_)
      | refine Branch.mk (fun _ => ?_) (fun _ => ?_)
      | refine Need.mk (by first | omega | decide | rfl) ?_
      | refine Idx.nat (by omega) ?_
      | refine Idx.auto (by first | omega | decide) (by first | omega | decide) ?_
      | refine Cell.ro rfl ?_
      | refine SDraw.all (by kernel_rfl) ?_
      | refine Kept.k0 ?_
      | refine Kept.k1 ?_
      | refine Kept.k2 ?_
      | refine Kept.k3 ?_
      | refine Kept.k4 ?_))
  all_goals (conv => whnf)
  all_goals exact Keep.sub [_] (List.Sublist.cons_cons _ (List.nil_sublist _)) ⟨_, rfl, rfl⟩
theorem c23 (h : K (.bool (decide (s.ph = 3))) [(g, s.row)]) : SCalls Try.prog 23 [.pointer (some ⟨g, 0, none⟩)] [(g, s.row)] K := by
  refine enter23 ?_
  unfold Sc.row at *
  repeat' ((conv => whnf); (first
      | refine New.mk (fun _ => ?_)
      | refine Look.at0 ?_
      | refine Cell.row ?_
      | refine Cell.buf ?_
      | refine Cells.row rfl ?_
      | refine Put.row rfl ?_
      | refine Put.buf rfl ?_
      | refine Look.at1 ?_
      | refine Look.at2 ?_
      | refine Look.at3 ?_
      | refine Look.at4 ?_
      | refine Look.at5 ?_
      | refine Look.at6 ?_
      | refine Look.at7 ?_
      | refine Look.at8 ?_
      | with_reducible refine Val.i64 (by omega) (by omega) ?_
      | with_reducible refine Val.u8 (by omega) (by omega) ?_
      | with_reducible refine Val.u32 (by omega) (by omega) ?_
      | with_reducible refine Val.u64 (by omega) (by omega) ?_
      | with_reducible refine Val.u8m ?_
      | with_reducible refine Val.u32m ?_
      | with_reducible refine Val.u64m ?_
      | with_reducible refine Val.shr8 ?_
      | with_reducible refine Val.shr16 (by decide) ?_
      | with_reducible refine Val.shr24 (by decide) ?_
      | with_reducible refine Val.raw ?_
      | refine Branch.not ?_
      | refine Branch.and ?_
      | refine Branch.or ?_
      | refine Branch.dt (by assumption) ?_
      | refine Branch.df (by assumption) ?_
      | refine Branch.dt rfl ?_
      | refine Branch.dt (by omega) ?_
      | refine Branch.df (by omega) ?_
      | refine Branch.t rfl ?_
      | refine Branch.f rfl ?_
      | refine Branch.t (by assumption) ?_
      | refine Branch.f (by assumption) ?_
      | refine Branch.d (fun _ => ?_) (fun _ => ?_)
      | refine Branch.mk (fun _ => ?_) (fun _ => ?_)
      | refine Need.mk (by first | omega | decide | rfl) ?_
      | refine Idx.nat (by omega) ?_
      | refine Idx.auto (by first | omega | decide) (by first | omega | decide) ?_
      | refine Cell.ro rfl ?_
      | refine SDraw.all (by kernel_rfl) ?_
      | refine Kept.k0 ?_
      | refine Kept.k1 ?_
      | refine Kept.k2 ?_
      | refine Kept.k3 ?_
      | refine Kept.k4 ?_))
  all_goals (conv => whnf)
  all_goals exact Keep.all h
theorem c24 (h : K (.int .i64 s.took) [(g, s.row)]) : SCalls Try.prog 24 [.pointer (some ⟨g, 0, none⟩)] [(g, s.row)] K := by
  refine enter24 ?_
  unfold Sc.row at *
  repeat' ((conv => whnf); (first
      | refine New.mk (fun _ => ?_)
      | refine Look.at0 ?_
      | refine Cell.row ?_
      | refine Cell.buf ?_
      | refine Cells.row rfl ?_
      | refine Put.row rfl ?_
      | refine Put.buf rfl ?_
      | refine Look.at1 ?_
      | refine Look.at2 ?_
      | refine Look.at3 ?_
      | refine Look.at4 ?_
      | refine Look.at5 ?_
      | refine Look.at6 ?_
      | refine Look.at7 ?_
      | refine Look.at8 ?_
      | with_reducible refine Val.i64 (by omega) (by omega) ?_
      | with_reducible refine Val.u8 (by omega) (by omega) ?_
      | with_reducible refine Val.u32 (by omega) (by omega) ?_
      | with_reducible refine Val.u64 (by omega) (by omega) ?_
      | with_reducible refine Val.u8m ?_
      | with_reducible refine Val.u32m ?_
      | with_reducible refine Val.u64m ?_
      | with_reducible refine Val.shr8 ?_
      | with_reducible refine Val.shr16 (by decide) ?_
      | with_reducible refine Val.shr24 (by decide) ?_
      | with_reducible refine Val.raw ?_
      | refine Branch.not ?_
      | refine Branch.and ?_
      | refine Branch.or ?_
      | refine Branch.dt (by assumption) ?_
      | refine Branch.df (by assumption) ?_
      | refine Branch.dt rfl ?_
      | refine Branch.dt (by omega) ?_
      | refine Branch.df (by omega) ?_
      | refine Branch.t rfl ?_
      | refine Branch.f rfl ?_
      | refine Branch.t (by assumption) ?_
      | refine Branch.f (by assumption) ?_
      | refine Branch.d (fun _ => ?_) (fun _ => ?_)
      | refine Branch.mk (fun _ => ?_) (fun _ => ?_)
      | refine Need.mk (by first | omega | decide | rfl) ?_
      | refine Idx.nat (by omega) ?_
      | refine Idx.auto (by first | omega | decide) (by first | omega | decide) ?_
      | refine Cell.ro rfl ?_
      | refine SDraw.all (by kernel_rfl) ?_
      | refine Kept.k0 ?_
      | refine Kept.k1 ?_
      | refine Kept.k2 ?_
      | refine Kept.k3 ?_
      | refine Kept.k4 ?_))
  all_goals (conv => whnf)
  all_goals exact Keep.all h
theorem c22 (h0 : s.found = false → K (.tuple ⟨[.agg ⟨[.int .u32 0, .int .u32 0, .int .u32 0, .int .u32 0]⟩, .bool false]⟩) [(g, s.row)])
    (h1 : s.found = true → K (.tuple ⟨[.agg ⟨[.int .u32 s.k0, .int .u32 s.k1, .int .u32 s.k2, .int .u32 s.k3]⟩, .bool true]⟩) [(g, s.row)]) : SCalls Try.prog 22 [.pointer (some ⟨g, 0, none⟩)] [(g, s.row)] K := by
  refine enter22 ?_
  unfold Sc.row at *
  repeat' ((conv => whnf); (first
      | refine New.mk (fun _ => ?_)
      | refine Look.at0 ?_
      | refine Cell.row ?_
      | refine Cell.buf ?_
      | refine Cells.row rfl ?_
      | refine Put.row rfl ?_
      | refine Put.buf rfl ?_
      | refine Look.at1 ?_
      | refine Look.at2 ?_
      | refine Look.at3 ?_
      | refine Look.at4 ?_
      | refine Look.at5 ?_
      | refine Look.at6 ?_
      | refine Look.at7 ?_
      | refine Look.at8 ?_
      | with_reducible refine Val.i64 (by omega) (by omega) ?_
      | with_reducible refine Val.u8 (by omega) (by omega) ?_
      | with_reducible refine Val.u32 (by omega) (by omega) ?_
      | with_reducible refine Val.u64 (by omega) (by omega) ?_
      | with_reducible refine Val.u8m ?_
      | with_reducible refine Val.u32m ?_
      | with_reducible refine Val.u64m ?_
      | with_reducible refine Val.shr8 ?_
      | with_reducible refine Val.shr16 (by decide) ?_
      | with_reducible refine Val.shr24 (by decide) ?_
      | with_reducible refine Val.raw ?_
      | refine Branch.not ?_
      | refine Branch.and ?_
      | refine Branch.or ?_
      | refine Branch.dt (by assumption) ?_
      | refine Branch.df (by assumption) ?_
      | refine Branch.dt rfl ?_
      | refine Branch.dt (by omega) ?_
      | refine Branch.df (by omega) ?_
      | refine Branch.t rfl ?_
      | refine Branch.f rfl ?_
      | refine Branch.t (by assumption) ?_
      | refine Branch.f (by assumption) ?_
      | refine Branch.d (fun _ => ?_) (fun _ => ?_)
      | refine Branch.mk (fun _ => ?_) (fun _ => ?_)
      | refine Need.mk (by first | omega | decide | rfl) ?_
      | refine Idx.nat (by omega) ?_
      | refine Idx.auto (by first | omega | decide) (by first | omega | decide) ?_
      | refine Cell.ro rfl ?_
      | refine SDraw.all (by kernel_rfl) ?_
      | refine Kept.k0 ?_
      | refine Kept.k1 ?_
      | refine Kept.k2 ?_
      | refine Kept.k3 ?_
      | refine Kept.k4 ?_))
  all_goals (conv => whnf)
  all_goals first
    | exact Keep.d1 (h0 (by assumption))
    | exact Keep.d1 (h1 (by assumption))
    | trace_state
/-- What a scan asks. -/
theorem c20 (hs : s.Ok) (h0 : s.ph = 3 → K (.tuple ⟨[fr8 0 0 0 0 0 0 0 0, .bool false]⟩) [(g, s.row)])
    (h1 : s.ph ≠ 3 → K (.tuple ⟨[s.q.val, .bool true]⟩) [(g, Sc.row { s with asked := true })]) : SCalls Try.prog 20 [.pointer (some ⟨g, 0, none⟩)] [(g, s.row)] K := by
  refine enter20 ?_
  obtain ⟨ph, pa, bi, k0, k1, k2, k3, found, asked, took⟩ := s
  obtain ⟨hst, hnf, htk, hr0, hr1, hr2, hr3⟩ := hs
  simp only [] at hst hnf htk hr0 hr1 hr2 hr3 h0 h1
  have hmod : ∀ n : Int, 0 ≤ n → n ≤ 3 → Int.tmod (n + 1) 4 = (n + 1) % 4 := fun n h _ => Int.tmod_eq_emod_of_nonneg (by omega)
  rcases hst with ⟨rfl, rfl, rfl, rfl, rfl⟩ | ⟨rfl, hp0, hp3, hb0, hb3, rfl⟩ | ⟨rfl, hp0, hp3, rfl, rfl⟩ | ⟨rfl, rfl⟩
  · have h1 := h1 (by decide)
    dsimp only [Sc.row] at h1 ⊢
    repeat' ((conv => whnf); (first
        | refine RawV.min2 (k := .i64) (k' := .i64) (m := 0) rfl (by decide) ?_
        | refine Ls.c9 _ _ (by omega) ?_
        | refine And.intro ?_ ?_
        | refine Kept.sub (List.sublist_append_right [_] _) ?_
        | refine New.mk (fun _ => ?_)
        | refine Look.at0 ?_
        | refine Cell.row ?_
        | refine Cell.buf ?_
        | refine Cells.row rfl ?_
        | refine Put.row rfl ?_
        | refine Put.buf rfl ?_
        | refine Look.at1 ?_
        | refine Look.at2 ?_
        | refine Look.at3 ?_
        | refine Look.at4 ?_
        | refine Look.at5 ?_
        | refine Look.at6 ?_
        | refine Look.at7 ?_
        | refine Look.at8 ?_
        | with_reducible refine Val.i64 (by omega) (by omega) ?_
        | with_reducible refine Val.u8 (by omega) (by omega) ?_
        | with_reducible refine Val.u32 (by omega) (by omega) ?_
        | with_reducible refine Val.u64 (by omega) (by omega) ?_
        | with_reducible refine Val.u8m ?_
        | with_reducible refine Val.u32m ?_
        | with_reducible refine Val.u64m ?_
        | with_reducible refine Val.shr8 ?_
        | with_reducible refine Val.shr16 (by decide) ?_
        | with_reducible refine Val.shr24 (by decide) ?_
        | with_reducible refine Val.raw ?_
        | refine Branch.not ?_
        | refine Branch.and ?_
        | refine Branch.or ?_
        | refine Branch.dt (by assumption) ?_
        | refine Branch.df (by assumption) ?_
        | refine Branch.dt rfl ?_
        | refine Branch.dt (by omega) ?_
        | refine Branch.df (by omega) ?_
        | refine Branch.t rfl ?_
        | refine Branch.f rfl ?_
        | refine Branch.t (by assumption) ?_
        | refine Branch.f (by assumption) ?_
        | refine Branch.d (fun _ => ?_) (fun _ => ?_)
        | refine Branch.mk (fun _ => ?_) (fun _ => ?_)
        | refine Need.mk (by first | omega | decide | rfl) ?_
        | refine Idx.nat (by omega) ?_
        | refine Idx.auto (by first | omega | decide) (by first | omega | decide) ?_
        | refine Cell.ro rfl ?_
        | refine SDraw.all (by kernel_rfl) ?_
        | refine Kept.k0 ?_
        | refine Kept.k1 ?_
        | refine Kept.k2 ?_
        | refine Kept.k3 ?_
        | refine Kept.k4 ?_))
    all_goals (conv => whnf)
    all_goals exact Keep.d2 h1
  · obtain rfl | rfl | rfl | rfl : pa = 0 ∨ pa = 1 ∨ pa = 2 ∨ pa = 3 := by omega
    · have h1 := h1 (by decide)
      dsimp only [Sc.row] at h1 ⊢
      repeat' ((conv => whnf); (first
          | refine RawV.min2 (k := .i64) (k' := .i64) (m := 0) rfl (by decide) ?_
          | refine Ls.c9 _ _ (by omega) ?_
          | refine And.intro ?_ ?_
          | refine Kept.sub (List.sublist_append_right [_] _) ?_
          | refine SDraw.held (by kernel_rfl) [_, _] (.same (.tail _ (.head _)) (.same (.tail _ (.tail _ (.head _))) .nil)) ?_
          | refine New.mk (fun _ => ?_)
          | refine Look.at0 ?_
          | refine Cell.row ?_
          | refine Cell.buf ?_
          | refine Cells.row rfl ?_
          | refine Put.row rfl ?_
          | refine Put.buf rfl ?_
          | refine Look.at1 ?_
          | refine Look.at2 ?_
          | refine Look.at3 ?_
          | refine Look.at4 ?_
          | refine Look.at5 ?_
          | refine Look.at6 ?_
          | refine Look.at7 ?_
          | refine Look.at8 ?_
          | with_reducible refine Val.i64 (by omega) (by omega) ?_
          | with_reducible refine Val.u8 (by omega) (by omega) ?_
          | with_reducible refine Val.u32 (by omega) (by omega) ?_
          | with_reducible refine Val.u64 (by omega) (by omega) ?_
          | with_reducible refine Val.u8m ?_
          | with_reducible refine Val.u32m ?_
          | with_reducible refine Val.u64m ?_
          | with_reducible refine Val.shr8 ?_
          | with_reducible refine Val.shr16 (by decide) ?_
          | with_reducible refine Val.shr24 (by decide) ?_
          | with_reducible refine Val.raw ?_
          | refine Branch.not ?_
          | refine Branch.and ?_
          | refine Branch.or ?_
          | refine Branch.dt (by assumption) ?_
          | refine Branch.df (by assumption) ?_
          | refine Branch.dt rfl ?_
          | refine Branch.dt (by omega) ?_
          | refine Branch.df (by omega) ?_
          | refine Branch.t rfl ?_
          | refine Branch.f rfl ?_
          | refine Branch.t (by assumption) ?_
          | refine Branch.f (by assumption) ?_
          | refine Branch.d (fun _ => ?_) (fun _ => ?_)
          | refine Branch.mk (fun _ => ?_) (fun _ => ?_)
          | refine Need.mk (by first | omega | decide | rfl) ?_
          | refine Idx.nat (by omega) ?_
          | refine Idx.auto (by first | omega | decide) (by first | omega | decide) ?_
          | refine Cell.ro rfl ?_
          | refine SDraw.all (by kernel_rfl) ?_
          | refine Kept.k0 ?_
          | refine Kept.k1 ?_
          | refine Kept.k2 ?_
          | refine Kept.k3 ?_
          | refine Kept.k4 ?_))
      all_goals (conv => whnf)
      all_goals first
        | exact Keep.d2 h1
        | trace_state
    · have h1 := h1 (by decide)
      dsimp only [Sc.row] at h1 ⊢
      repeat' ((conv => whnf); (first
          | refine RawV.min2 (k := .i64) (k' := .i64) (m := 1) rfl (by decide) ?_
          | refine Ls.c9 _ _ (by omega) ?_
          | refine And.intro ?_ ?_
          | refine Kept.sub (List.sublist_append_right [_] _) ?_
          | refine SDraw.held (by kernel_rfl) [_, _] (.same (.tail _ (.head _)) (.same (.tail _ (.tail _ (.head _))) .nil)) ?_
          | refine New.mk (fun _ => ?_)
          | refine Look.at0 ?_
          | refine Cell.row ?_
          | refine Cell.buf ?_
          | refine Cells.row rfl ?_
          | refine Put.row rfl ?_
          | refine Put.buf rfl ?_
          | refine Look.at1 ?_
          | refine Look.at2 ?_
          | refine Look.at3 ?_
          | refine Look.at4 ?_
          | refine Look.at5 ?_
          | refine Look.at6 ?_
          | refine Look.at7 ?_
          | refine Look.at8 ?_
          | with_reducible refine Val.i64 (by omega) (by omega) ?_
          | with_reducible refine Val.u8 (by omega) (by omega) ?_
          | with_reducible refine Val.u32 (by omega) (by omega) ?_
          | with_reducible refine Val.u64 (by omega) (by omega) ?_
          | with_reducible refine Val.u8m ?_
          | with_reducible refine Val.u32m ?_
          | with_reducible refine Val.u64m ?_
          | with_reducible refine Val.shr8 ?_
          | with_reducible refine Val.shr16 (by decide) ?_
          | with_reducible refine Val.shr24 (by decide) ?_
          | with_reducible refine Val.raw ?_
          | refine Branch.not ?_
          | refine Branch.and ?_
          | refine Branch.or ?_
          | refine Branch.dt (by assumption) ?_
          | refine Branch.df (by assumption) ?_
          | refine Branch.dt rfl ?_
          | refine Branch.dt (by omega) ?_
          | refine Branch.df (by omega) ?_
          | refine Branch.t rfl ?_
          | refine Branch.f rfl ?_
          | refine Branch.t (by assumption) ?_
          | refine Branch.f (by assumption) ?_
          | refine Branch.d (fun _ => ?_) (fun _ => ?_)
          | refine Branch.mk (fun _ => ?_) (fun _ => ?_)
          | refine Need.mk (by first | omega | decide | rfl) ?_
          | refine Idx.nat (by omega) ?_
          | refine Idx.auto (by first | omega | decide) (by first | omega | decide) ?_
          | refine Cell.ro rfl ?_
          | refine SDraw.all (by kernel_rfl) ?_
          | refine Kept.k0 ?_
          | refine Kept.k1 ?_
          | refine Kept.k2 ?_
          | refine Kept.k3 ?_
          | refine Kept.k4 ?_))
      all_goals (conv => whnf)
      all_goals first
        | exact Keep.d2 h1
        | trace_state
    · have h1 := h1 (by decide)
      dsimp only [Sc.row] at h1 ⊢
      repeat' ((conv => whnf); (first
          | refine RawV.min2 (k := .i64) (k' := .i64) (m := 2) rfl (by decide) ?_
          | refine Ls.c9 _ _ (by omega) ?_
          | refine And.intro ?_ ?_
          | refine Kept.sub (List.sublist_append_right [_] _) ?_
          | refine SDraw.held (by kernel_rfl) [_, _] (.same (.tail _ (.head _)) (.same (.tail _ (.tail _ (.head _))) .nil)) ?_
          | refine New.mk (fun _ => ?_)
          | refine Look.at0 ?_
          | refine Cell.row ?_
          | refine Cell.buf ?_
          | refine Cells.row rfl ?_
          | refine Put.row rfl ?_
          | refine Put.buf rfl ?_
          | refine Look.at1 ?_
          | refine Look.at2 ?_
          | refine Look.at3 ?_
          | refine Look.at4 ?_
          | refine Look.at5 ?_
          | refine Look.at6 ?_
          | refine Look.at7 ?_
          | refine Look.at8 ?_
          | with_reducible refine Val.i64 (by omega) (by omega) ?_
          | with_reducible refine Val.u8 (by omega) (by omega) ?_
          | with_reducible refine Val.u32 (by omega) (by omega) ?_
          | with_reducible refine Val.u64 (by omega) (by omega) ?_
          | with_reducible refine Val.u8m ?_
          | with_reducible refine Val.u32m ?_
          | with_reducible refine Val.u64m ?_
          | with_reducible refine Val.shr8 ?_
          | with_reducible refine Val.shr16 (by decide) ?_
          | with_reducible refine Val.shr24 (by decide) ?_
          | with_reducible refine Val.raw ?_
          | refine Branch.not ?_
          | refine Branch.and ?_
          | refine Branch.or ?_
          | refine Branch.dt (by assumption) ?_
          | refine Branch.df (by assumption) ?_
          | refine Branch.dt rfl ?_
          | refine Branch.dt (by omega) ?_
          | refine Branch.df (by omega) ?_
          | refine Branch.t rfl ?_
          | refine Branch.f rfl ?_
          | refine Branch.t (by assumption) ?_
          | refine Branch.f (by assumption) ?_
          | refine Branch.d (fun _ => ?_) (fun _ => ?_)
          | refine Branch.mk (fun _ => ?_) (fun _ => ?_)
          | refine Need.mk (by first | omega | decide | rfl) ?_
          | refine Idx.nat (by omega) ?_
          | refine Idx.auto (by first | omega | decide) (by first | omega | decide) ?_
          | refine Cell.ro rfl ?_
          | refine SDraw.all (by kernel_rfl) ?_
          | refine Kept.k0 ?_
          | refine Kept.k1 ?_
          | refine Kept.k2 ?_
          | refine Kept.k3 ?_
          | refine Kept.k4 ?_))
      all_goals (conv => whnf)
      all_goals first
        | exact Keep.d2 h1
        | trace_state
    · have h1 := h1 (by decide)
      dsimp only [Sc.row] at h1 ⊢
      repeat' ((conv => whnf); (first
          | refine RawV.min2 (k := .i64) (k' := .i64) (m := 3) rfl (by decide) ?_
          | refine Ls.c9 _ _ (by omega) ?_
          | refine And.intro ?_ ?_
          | refine Kept.sub (List.sublist_append_right [_] _) ?_
          | refine SDraw.held (by kernel_rfl) [_, _] (.same (.tail _ (.head _)) (.same (.tail _ (.tail _ (.head _))) .nil)) ?_
          | refine New.mk (fun _ => ?_)
          | refine Look.at0 ?_
          | refine Cell.row ?_
          | refine Cell.buf ?_
          | refine Cells.row rfl ?_
          | refine Put.row rfl ?_
          | refine Put.buf rfl ?_
          | refine Look.at1 ?_
          | refine Look.at2 ?_
          | refine Look.at3 ?_
          | refine Look.at4 ?_
          | refine Look.at5 ?_
          | refine Look.at6 ?_
          | refine Look.at7 ?_
          | refine Look.at8 ?_
          | with_reducible refine Val.i64 (by omega) (by omega) ?_
          | with_reducible refine Val.u8 (by omega) (by omega) ?_
          | with_reducible refine Val.u32 (by omega) (by omega) ?_
          | with_reducible refine Val.u64 (by omega) (by omega) ?_
          | with_reducible refine Val.u8m ?_
          | with_reducible refine Val.u32m ?_
          | with_reducible refine Val.u64m ?_
          | with_reducible refine Val.shr8 ?_
          | with_reducible refine Val.shr16 (by decide) ?_
          | with_reducible refine Val.shr24 (by decide) ?_
          | with_reducible refine Val.raw ?_
          | refine Branch.not ?_
          | refine Branch.and ?_
          | refine Branch.or ?_
          | refine Branch.dt (by assumption) ?_
          | refine Branch.df (by assumption) ?_
          | refine Branch.dt rfl ?_
          | refine Branch.dt (by omega) ?_
          | refine Branch.df (by omega) ?_
          | refine Branch.t rfl ?_
          | refine Branch.f rfl ?_
          | refine Branch.t (by assumption) ?_
          | refine Branch.f (by assumption) ?_
          | refine Branch.d (fun _ => ?_) (fun _ => ?_)
          | refine Branch.mk (fun _ => ?_) (fun _ => ?_)
          | refine Need.mk (by first | omega | decide | rfl) ?_
          | refine Idx.nat (by omega) ?_
          | refine Idx.auto (by first | omega | decide) (by first | omega | decide) ?_
          | refine Cell.ro rfl ?_
          | refine SDraw.all (by kernel_rfl) ?_
          | refine Kept.k0 ?_
          | refine Kept.k1 ?_
          | refine Kept.k2 ?_
          | refine Kept.k3 ?_
          | refine Kept.k4 ?_))
      all_goals (conv => whnf)
      all_goals first
        | exact Keep.d2 h1
        | trace_state
  · obtain rfl | rfl | rfl | rfl : pa = 0 ∨ pa = 1 ∨ pa = 2 ∨ pa = 3 := by omega
    · have h1 := h1 (by decide)
      dsimp only [Sc.row] at h1 ⊢
      repeat' ((conv => whnf); (first
          | refine RawV.min2 (k := .i64) (k' := .i64) (m := 0) rfl (by decide) ?_
          | refine Ls.c9 _ _ (by omega) ?_
          | refine And.intro ?_ ?_
          | refine Kept.sub (List.sublist_append_right [_] _) ?_
          | refine SDraw.held (by kernel_rfl) [_, _] (.same (.tail _ (.head _)) (.same (.tail _ (.tail _ (.head _))) .nil)) ?_
          | refine New.mk (fun _ => ?_)
          | refine Look.at0 ?_
          | refine Cell.row ?_
          | refine Cell.buf ?_
          | refine Cells.row rfl ?_
          | refine Put.row rfl ?_
          | refine Put.buf rfl ?_
          | refine Look.at1 ?_
          | refine Look.at2 ?_
          | refine Look.at3 ?_
          | refine Look.at4 ?_
          | refine Look.at5 ?_
          | refine Look.at6 ?_
          | refine Look.at7 ?_
          | refine Look.at8 ?_
          | with_reducible refine Val.i64 (by omega) (by omega) ?_
          | with_reducible refine Val.u8 (by omega) (by omega) ?_
          | with_reducible refine Val.u32 (by omega) (by omega) ?_
          | with_reducible refine Val.u64 (by omega) (by omega) ?_
          | with_reducible refine Val.u8m ?_
          | with_reducible refine Val.u32m ?_
          | with_reducible refine Val.u64m ?_
          | with_reducible refine Val.shr8 ?_
          | with_reducible refine Val.shr16 (by decide) ?_
          | with_reducible refine Val.shr24 (by decide) ?_
          | with_reducible refine Val.raw ?_
          | refine Branch.not ?_
          | refine Branch.and ?_
          | refine Branch.or ?_
          | refine Branch.dt (by assumption) ?_
          | refine Branch.df (by assumption) ?_
          | refine Branch.dt rfl ?_
          | refine Branch.dt (by omega) ?_
          | refine Branch.df (by omega) ?_
          | refine Branch.t rfl ?_
          | refine Branch.f rfl ?_
          | refine Branch.t (by assumption) ?_
          | refine Branch.f (by assumption) ?_
          | refine Branch.d (fun _ => ?_) (fun _ => ?_)
          | refine Branch.mk (fun _ => ?_) (fun _ => ?_)
          | refine Need.mk (by first | omega | decide | rfl) ?_
          | refine Idx.nat (by omega) ?_
          | refine Idx.auto (by first | omega | decide) (by first | omega | decide) ?_
          | refine Cell.ro rfl ?_
          | refine SDraw.all (by kernel_rfl) ?_
          | refine Kept.k0 ?_
          | refine Kept.k1 ?_
          | refine Kept.k2 ?_
          | refine Kept.k3 ?_
          | refine Kept.k4 ?_))
      all_goals (conv => whnf)
      all_goals first
        | exact Keep.d2 h1
        | trace_state
    · have h1 := h1 (by decide)
      dsimp only [Sc.row] at h1 ⊢
      repeat' ((conv => whnf); (first
          | refine RawV.min2 (k := .i64) (k' := .i64) (m := 1) rfl (by decide) ?_
          | refine Ls.c9 _ _ (by omega) ?_
          | refine And.intro ?_ ?_
          | refine Kept.sub (List.sublist_append_right [_] _) ?_
          | refine SDraw.held (by kernel_rfl) [_, _] (.same (.tail _ (.head _)) (.same (.tail _ (.tail _ (.head _))) .nil)) ?_
          | refine New.mk (fun _ => ?_)
          | refine Look.at0 ?_
          | refine Cell.row ?_
          | refine Cell.buf ?_
          | refine Cells.row rfl ?_
          | refine Put.row rfl ?_
          | refine Put.buf rfl ?_
          | refine Look.at1 ?_
          | refine Look.at2 ?_
          | refine Look.at3 ?_
          | refine Look.at4 ?_
          | refine Look.at5 ?_
          | refine Look.at6 ?_
          | refine Look.at7 ?_
          | refine Look.at8 ?_
          | with_reducible refine Val.i64 (by omega) (by omega) ?_
          | with_reducible refine Val.u8 (by omega) (by omega) ?_
          | with_reducible refine Val.u32 (by omega) (by omega) ?_
          | with_reducible refine Val.u64 (by omega) (by omega) ?_
          | with_reducible refine Val.u8m ?_
          | with_reducible refine Val.u32m ?_
          | with_reducible refine Val.u64m ?_
          | with_reducible refine Val.shr8 ?_
          | with_reducible refine Val.shr16 (by decide) ?_
          | with_reducible refine Val.shr24 (by decide) ?_
          | with_reducible refine Val.raw ?_
          | refine Branch.not ?_
          | refine Branch.and ?_
          | refine Branch.or ?_
          | refine Branch.dt (by assumption) ?_
          | refine Branch.df (by assumption) ?_
          | refine Branch.dt rfl ?_
          | refine Branch.dt (by omega) ?_
          | refine Branch.df (by omega) ?_
          | refine Branch.t rfl ?_
          | refine Branch.f rfl ?_
          | refine Branch.t (by assumption) ?_
          | refine Branch.f (by assumption) ?_
          | refine Branch.d (fun _ => ?_) (fun _ => ?_)
          | refine Branch.mk (fun _ => ?_) (fun _ => ?_)
          | refine Need.mk (by first | omega | decide | rfl) ?_
          | refine Idx.nat (by omega) ?_
          | refine Idx.auto (by first | omega | decide) (by first | omega | decide) ?_
          | refine Cell.ro rfl ?_
          | refine SDraw.all (by kernel_rfl) ?_
          | refine Kept.k0 ?_
          | refine Kept.k1 ?_
          | refine Kept.k2 ?_
          | refine Kept.k3 ?_
          | refine Kept.k4 ?_))
      all_goals (conv => whnf)
      all_goals first
        | exact Keep.d2 h1
        | trace_state
    · have h1 := h1 (by decide)
      dsimp only [Sc.row] at h1 ⊢
      repeat' ((conv => whnf); (first
          | refine RawV.min2 (k := .i64) (k' := .i64) (m := 2) rfl (by decide) ?_
          | refine Ls.c9 _ _ (by omega) ?_
          | refine And.intro ?_ ?_
          | refine Kept.sub (List.sublist_append_right [_] _) ?_
          | refine SDraw.held (by kernel_rfl) [_, _] (.same (.tail _ (.head _)) (.same (.tail _ (.tail _ (.head _))) .nil)) ?_
          | refine New.mk (fun _ => ?_)
          | refine Look.at0 ?_
          | refine Cell.row ?_
          | refine Cell.buf ?_
          | refine Cells.row rfl ?_
          | refine Put.row rfl ?_
          | refine Put.buf rfl ?_
          | refine Look.at1 ?_
          | refine Look.at2 ?_
          | refine Look.at3 ?_
          | refine Look.at4 ?_
          | refine Look.at5 ?_
          | refine Look.at6 ?_
          | refine Look.at7 ?_
          | refine Look.at8 ?_
          | with_reducible refine Val.i64 (by omega) (by omega) ?_
          | with_reducible refine Val.u8 (by omega) (by omega) ?_
          | with_reducible refine Val.u32 (by omega) (by omega) ?_
          | with_reducible refine Val.u64 (by omega) (by omega) ?_
          | with_reducible refine Val.u8m ?_
          | with_reducible refine Val.u32m ?_
          | with_reducible refine Val.u64m ?_
          | with_reducible refine Val.shr8 ?_
          | with_reducible refine Val.shr16 (by decide) ?_
          | with_reducible refine Val.shr24 (by decide) ?_
          | with_reducible refine Val.raw ?_
          | refine Branch.not ?_
          | refine Branch.and ?_
          | refine Branch.or ?_
          | refine Branch.dt (by assumption) ?_
          | refine Branch.df (by assumption) ?_
          | refine Branch.dt rfl ?_
          | refine Branch.dt (by omega) ?_
          | refine Branch.df (by omega) ?_
          | refine Branch.t rfl ?_
          | refine Branch.f rfl ?_
          | refine Branch.t (by assumption) ?_
          | refine Branch.f (by assumption) ?_
          | refine Branch.d (fun _ => ?_) (fun _ => ?_)
          | refine Branch.mk (fun _ => ?_) (fun _ => ?_)
          | refine Need.mk (by first | omega | decide | rfl) ?_
          | refine Idx.nat (by omega) ?_
          | refine Idx.auto (by first | omega | decide) (by first | omega | decide) ?_
          | refine Cell.ro rfl ?_
          | refine SDraw.all (by kernel_rfl) ?_
          | refine Kept.k0 ?_
          | refine Kept.k1 ?_
          | refine Kept.k2 ?_
          | refine Kept.k3 ?_
          | refine Kept.k4 ?_))
      all_goals (conv => whnf)
      all_goals first
        | exact Keep.d2 h1
        | trace_state
    · have h1 := h1 (by decide)
      dsimp only [Sc.row] at h1 ⊢
      repeat' ((conv => whnf); (first
          | refine RawV.min2 (k := .i64) (k' := .i64) (m := 3) rfl (by decide) ?_
          | refine Ls.c9 _ _ (by omega) ?_
          | refine And.intro ?_ ?_
          | refine Kept.sub (List.sublist_append_right [_] _) ?_
          | refine SDraw.held (by kernel_rfl) [_, _] (.same (.tail _ (.head _)) (.same (.tail _ (.tail _ (.head _))) .nil)) ?_
          | refine New.mk (fun _ => ?_)
          | refine Look.at0 ?_
          | refine Cell.row ?_
          | refine Cell.buf ?_
          | refine Cells.row rfl ?_
          | refine Put.row rfl ?_
          | refine Put.buf rfl ?_
          | refine Look.at1 ?_
          | refine Look.at2 ?_
          | refine Look.at3 ?_
          | refine Look.at4 ?_
          | refine Look.at5 ?_
          | refine Look.at6 ?_
          | refine Look.at7 ?_
          | refine Look.at8 ?_
          | with_reducible refine Val.i64 (by omega) (by omega) ?_
          | with_reducible refine Val.u8 (by omega) (by omega) ?_
          | with_reducible refine Val.u32 (by omega) (by omega) ?_
          | with_reducible refine Val.u64 (by omega) (by omega) ?_
          | with_reducible refine Val.u8m ?_
          | with_reducible refine Val.u32m ?_
          | with_reducible refine Val.u64m ?_
          | with_reducible refine Val.shr8 ?_
          | with_reducible refine Val.shr16 (by decide) ?_
          | with_reducible refine Val.shr24 (by decide) ?_
          | with_reducible refine Val.raw ?_
          | refine Branch.not ?_
          | refine Branch.and ?_
          | refine Branch.or ?_
          | refine Branch.dt (by assumption) ?_
          | refine Branch.df (by assumption) ?_
          | refine Branch.dt rfl ?_
          | refine Branch.dt (by omega) ?_
          | refine Branch.df (by omega) ?_
          | refine Branch.t rfl ?_
          | refine Branch.f rfl ?_
          | refine Branch.t (by assumption) ?_
          | refine Branch.f (by assumption) ?_
          | refine Branch.d (fun _ => ?_) (fun _ => ?_)
          | refine Branch.mk (fun _ => ?_) (fun _ => ?_)
          | refine Need.mk (by first | omega | decide | rfl) ?_
          | refine Idx.nat (by omega) ?_
          | refine Idx.auto (by first | omega | decide) (by first | omega | decide) ?_
          | refine Cell.ro rfl ?_
          | refine SDraw.all (by kernel_rfl) ?_
          | refine Kept.k0 ?_
          | refine Kept.k1 ?_
          | refine Kept.k2 ?_
          | refine Kept.k3 ?_
          | refine Kept.k4 ?_))
      all_goals (conv => whnf)
      all_goals first
        | exact Keep.d2 h1
        | trace_state
  · have h0 := h0 rfl
    dsimp only [Sc.row] at h0 ⊢
    repeat' ((conv => whnf); (first
        | refine New.mk (fun _ => ?_)
        | refine Look.at0 ?_
        | refine Cell.row ?_
        | refine Cell.buf ?_
        | refine Cells.row rfl ?_
        | refine Put.row rfl ?_
        | refine Put.buf rfl ?_
        | refine Look.at1 ?_
        | refine Look.at2 ?_
        | refine Look.at3 ?_
        | refine Look.at4 ?_
        | refine Look.at5 ?_
        | refine Look.at6 ?_
        | refine Look.at7 ?_
        | refine Look.at8 ?_
        | with_reducible refine Val.i64 (by omega) (by omega) ?_
        | with_reducible refine Val.u8 (by omega) (by omega) ?_
        | with_reducible refine Val.u32 (by omega) (by omega) ?_
        | with_reducible refine Val.u64 (by omega) (by omega) ?_
        | with_reducible refine Val.u8m ?_
        | with_reducible refine Val.u32m ?_
        | with_reducible refine Val.u64m ?_
        | with_reducible refine Val.shr8 ?_
        | with_reducible refine Val.shr16 (by decide) ?_
        | with_reducible refine Val.shr24 (by decide) ?_
        | with_reducible refine Val.raw ?_
        | refine Branch.not ?_
        | refine Branch.and ?_
        | refine Branch.or ?_
        | refine Branch.dt (by assumption) ?_
        | refine Branch.df (by assumption) ?_
        | refine Branch.dt rfl ?_
        | refine Branch.dt (by omega) ?_
        | refine Branch.df (by omega) ?_
        | refine Branch.t rfl ?_
        | refine Branch.f rfl ?_
        | refine Branch.t (by assumption) ?_
        | refine Branch.f (by assumption) ?_
        | refine Branch.d (fun _ => ?_) (fun _ => ?_)
        | refine Branch.mk (fun _ => ?_) (fun _ => ?_)
        | refine Need.mk (by first | omega | decide | rfl) ?_
        | refine Idx.nat (by omega) ?_
        | refine Idx.auto (by first | omega | decide) (by first | omega | decide) ?_
        | refine Cell.ro rfl ?_
        | refine SDraw.all (by kernel_rfl) ?_
        | refine Kept.k0 ?_
        | refine Kept.k1 ?_
        | refine Kept.k2 ?_
        | refine Kept.k3 ?_
        | refine Kept.k4 ?_))
    all_goals (conv => whnf)
    all_goals exact Keep.d1 h0
end
end Go.Proofs.Ytkegkhhfbfegoaa

/- Layer 20: what a scan takes from an answer: by walks. -/
set_option linter.unusedVariables false
set_option linter.unusedSimpArgs false
set_option maxRecDepth 100000
set_option maxHeartbeats 4000000
namespace Go.Proofs.Ytkegkhhfbfegoaa
open Sx Ls
def orB (k b : Int) : Int := bitOr .u32 k (shlI .u32 1 b)
def Sc.put (s : Sc) (p v : Int) : Sc := if p = 0 then { s with k0 := v } else if p = 1 then { s with k1 := v } else if p = 2 then { s with k2 := v } else { s with k3 := v }
/-- What an answer makes of a scan. -/
def Sc.ans (s : Sc) (yes : Bool) : Sc :=
  if s.asked = false then s
  else if s.ph = 1 then { (if yes then s else s.put s.pa (orB (s.kn s.pa) s.bi)) with bi := s.bi - 1, ph := if s.bi - 1 < 0 then 2 else 1, asked := false, took := s.took + 1 }
  else if yes = false then { s with ph := 3, asked := false, took := s.took + 1 }
  else if s.ph = 0 then { s with ph := 1, asked := false, took := s.took + 1 }
  else { s with pa := s.pa + 1, bi := 31, ph := if s.pa + 1 = 4 then 3 else 1, found := if s.pa + 1 = 4 then true else s.found, asked := false, took := s.took + 1 }
section
variable {K : Value → Heap → Prop} {g : Nat} {s : Sc}
theorem c18 (hs : s.Ok) (yes : Bool) (h : K (.tuple ⟨[]⟩) [(g, (s.ans yes).row)]) : SCalls Try.prog 18 [.pointer (some ⟨g, 0, none⟩), .bool yes] [(g, s.row)] K := by
  refine enter18 ?_
  obtain ⟨ph, pa, bi, k0, k1, k2, k3, found, asked, took⟩ := s
  obtain ⟨hst, hnf, htk, hr0, hr1, hr2, hr3⟩ := hs
  simp only [] at hst hnf htk hr0 hr1 hr2 hr3
  cases asked with
  | false =>
    dsimp only [Sc.row] at *
    repeat' ((conv => whnf); (first
        | refine New.mk (fun _ => ?_)
        | refine Look.at0 ?_
        | refine Cell.row ?_
        | refine Cell.buf ?_
        | refine Cells.row rfl ?_
        | refine Put.row rfl ?_
        | refine Put.buf rfl ?_
        | refine Look.at1 ?_
        | refine Look.at2 ?_
        | refine Look.at3 ?_
        | refine Look.at4 ?_
        | refine Look.at5 ?_
        | refine Look.at6 ?_
        | refine Look.at7 ?_
        | refine Look.at8 ?_
        | with_reducible refine Val.i64 (by omega) (by omega) ?_
        | with_reducible refine Val.u8 (by omega) (by omega) ?_
        | with_reducible refine Val.u32 (by omega) (by omega) ?_
        | with_reducible refine Val.u64 (by omega) (by omega) ?_
        | with_reducible refine Val.u8m ?_
        | with_reducible refine Val.u32m ?_
        | with_reducible refine Val.u64m ?_
        | with_reducible refine Val.shr8 ?_
        | with_reducible refine Val.shr16 (by decide) ?_
        | with_reducible refine Val.shr24 (by decide) ?_
        | with_reducible refine Val.raw ?_
        | refine Branch.not ?_
        | refine Branch.and ?_
        | refine Branch.or ?_
        | refine Branch.dt (by assumption) ?_
        | refine Branch.df (by assumption) ?_
        | refine Branch.dt rfl ?_
        | refine Branch.dt (by omega) ?_
        | refine Branch.df (by omega) ?_
        | refine Branch.t rfl ?_
        | refine Branch.f rfl ?_
        | refine Branch.t (by assumption) ?_
        | refine Branch.f (by assumption) ?_
        | refine Branch.d (fun _ => ?_) (fun _ => ?_)
        | refine Branch.mk (fun _ => ?_) (fun _ => ?_)
        | refine Need.mk (by first | omega | decide | rfl) ?_
        | refine Idx.nat (by omega) ?_
        | refine Idx.auto (by first | omega | decide) (by first | omega | decide) ?_
        | refine Cell.ro rfl ?_
        | refine SDraw.all (by kernel_rfl) ?_
        | refine Kept.k0 ?_
        | refine Kept.k1 ?_
        | refine Kept.k2 ?_
        | refine Kept.k3 ?_
        | refine Kept.k4 ?_))
    all_goals (conv => whnf)
    all_goals exact Keep.all h
  | true =>
    rcases hst with ⟨rfl, rfl, rfl, rfl, rfl⟩ | ⟨rfl, hp0, hp3, hb0, hb3, rfl⟩ | ⟨rfl, hp0, hp3, rfl, rfl⟩ | ⟨rfl, hz⟩
    · cases yes
      all_goals
        dsimp only [Sc.row] at *
        repeat' ((conv => whnf); (first
            | refine New.mk (fun _ => ?_)
            | refine Look.at0 ?_
            | refine Cell.row ?_
            | refine Cell.buf ?_
            | refine Cells.row rfl ?_
            | refine Put.row rfl ?_
            | refine Put.buf rfl ?_
            | refine Look.at1 ?_
            | refine Look.at2 ?_
            | refine Look.at3 ?_
            | refine Look.at4 ?_
            | refine Look.at5 ?_
            | refine Look.at6 ?_
            | refine Look.at7 ?_
            | refine Look.at8 ?_
            | with_reducible refine Val.i64 (by omega) (by omega) ?_
            | with_reducible refine Val.u8 (by omega) (by omega) ?_
            | with_reducible refine Val.u32 (by omega) (by omega) ?_
            | with_reducible refine Val.u64 (by omega) (by omega) ?_
            | with_reducible refine Val.u8m ?_
            | with_reducible refine Val.u32m ?_
            | with_reducible refine Val.u64m ?_
            | with_reducible refine Val.shr8 ?_
            | with_reducible refine Val.shr16 (by decide) ?_
            | with_reducible refine Val.shr24 (by decide) ?_
            | with_reducible refine Val.raw ?_
            | refine Branch.not ?_
            | refine Branch.and ?_
            | refine Branch.or ?_
            | refine Branch.dt (by assumption) ?_
            | refine Branch.df (by assumption) ?_
            | refine Branch.dt rfl ?_
            | refine Branch.dt (by omega) ?_
            | refine Branch.df (by omega) ?_
            | refine Branch.t rfl ?_
            | refine Branch.f rfl ?_
            | refine Branch.t (by assumption) ?_
            | refine Branch.f (by assumption) ?_
            | refine Branch.d (fun _ => ?_) (fun _ => ?_)
            | refine Branch.mk (fun _ => ?_) (fun _ => ?_)
            | refine Need.mk (by first | omega | decide | rfl) ?_
            | refine Idx.nat (by omega) ?_
            | refine Idx.auto (by first | omega | decide) (by first | omega | decide) ?_
            | refine Cell.ro rfl ?_
            | refine SDraw.all (by kernel_rfl) ?_
            | refine Kept.k0 ?_
            | refine Kept.k1 ?_
            | refine Kept.k2 ?_
            | refine Kept.k3 ?_
            | refine Kept.k4 ?_))
        all_goals (conv => whnf)
        all_goals exact Keep.all h
    · obtain ⟨b, rfl⟩ : ∃ b : Nat, bi = (b : Int) := ⟨bi.toNat, by omega⟩
      have hb : b ≤ 31 := by omega
      have hneg : ((b : Int) - 1 < 0) ∨ ¬ ((b : Int) - 1 < 0) := by omega
      obtain rfl | rfl | rfl | rfl : pa = 0 ∨ pa = 1 ∨ pa = 2 ∨ pa = 3 := by omega
      all_goals
        cases yes
        all_goals
          dsimp only [Sc.row, Sc.ans, Sc.put, Sc.kn] at *
          rcases hneg with hneg | hneg
          all_goals
            first | rw [if_pos hneg] at h | rw [if_neg hneg] at h
            repeat' ((conv => whnf); (first
                | refine New.mk (fun _ => ?_)
                | refine Look.at0 ?_
                | refine Cell.row ?_
                | refine Cell.buf ?_
                | refine Cells.row rfl ?_
                | refine Put.row rfl ?_
                | refine Put.buf rfl ?_
                | refine Look.at1 ?_
                | refine Look.at2 ?_
                | refine Look.at3 ?_
                | refine Look.at4 ?_
                | refine Look.at5 ?_
                | refine Look.at6 ?_
                | refine Look.at7 ?_
                | refine Look.at8 ?_
                | with_reducible refine Val.i64 (by omega) (by omega) ?_
                | with_reducible refine Val.u8 (by omega) (by omega) ?_
                | with_reducible refine Val.u32 (by omega) (by omega) ?_
                | with_reducible refine Val.u64 (by omega) (by omega) ?_
                | with_reducible refine Val.u8m ?_
                | with_reducible refine Val.u32m ?_
                | with_reducible refine Val.u64m ?_
                | with_reducible refine Val.shr8 ?_
                | with_reducible refine Val.shr16 (by decide) ?_
                | with_reducible refine Val.shr24 (by decide) ?_
                | with_reducible refine Val.raw ?_
                | refine Branch.not ?_
                | refine Branch.and ?_
                | refine Branch.or ?_
                | refine Branch.dt (by assumption) ?_
                | refine Branch.df (by assumption) ?_
                | refine Branch.dt rfl ?_
                | refine Branch.dt (by omega) ?_
                | refine Branch.df (by omega) ?_
                | refine Branch.t rfl ?_
                | refine Branch.f rfl ?_
                | refine Branch.t (by assumption) ?_
                | refine Branch.f (by assumption) ?_
                | refine Branch.d (fun _ => ?_) (fun _ => ?_)
                | refine Branch.mk (fun _ => ?_) (fun _ => ?_)
                | refine Need.mk (by first | omega | decide | rfl) ?_
                | refine Idx.nat (by omega) ?_
                | refine Idx.auto (by first | omega | decide) (by first | omega | decide) ?_
                | refine Cell.ro rfl ?_
                | refine SDraw.all (by kernel_rfl) ?_
                | refine Kept.k0 ?_
                | refine Kept.k1 ?_
                | refine Kept.k2 ?_
                | refine Kept.k3 ?_
                | refine Kept.k4 ?_))
            all_goals (conv => whnf)
            all_goals first
              | exact Keep.all h
              | trace_state
    · obtain rfl | rfl | rfl | rfl : pa = 0 ∨ pa = 1 ∨ pa = 2 ∨ pa = 3 := by omega
      all_goals
        cases yes
        all_goals
          dsimp only [Sc.row] at *
          repeat' ((conv => whnf); (first
              | refine New.mk (fun _ => ?_)
              | refine Look.at0 ?_
              | refine Cell.row ?_
              | refine Cell.buf ?_
              | refine Cells.row rfl ?_
              | refine Put.row rfl ?_
              | refine Put.buf rfl ?_
              | refine Look.at1 ?_
              | refine Look.at2 ?_
              | refine Look.at3 ?_
              | refine Look.at4 ?_
              | refine Look.at5 ?_
              | refine Look.at6 ?_
              | refine Look.at7 ?_
              | refine Look.at8 ?_
              | with_reducible refine Val.i64 (by omega) (by omega) ?_
              | with_reducible refine Val.u8 (by omega) (by omega) ?_
              | with_reducible refine Val.u32 (by omega) (by omega) ?_
              | with_reducible refine Val.u64 (by omega) (by omega) ?_
              | with_reducible refine Val.u8m ?_
              | with_reducible refine Val.u32m ?_
              | with_reducible refine Val.u64m ?_
              | with_reducible refine Val.shr8 ?_
              | with_reducible refine Val.shr16 (by decide) ?_
              | with_reducible refine Val.shr24 (by decide) ?_
              | with_reducible refine Val.raw ?_
              | refine Branch.not ?_
              | refine Branch.and ?_
              | refine Branch.or ?_
              | refine Branch.dt (by assumption) ?_
              | refine Branch.df (by assumption) ?_
              | refine Branch.dt rfl ?_
              | refine Branch.dt (by omega) ?_
              | refine Branch.df (by omega) ?_
              | refine Branch.t rfl ?_
              | refine Branch.f rfl ?_
              | refine Branch.t (by assumption) ?_
              | refine Branch.f (by assumption) ?_
              | refine Branch.d (fun _ => ?_) (fun _ => ?_)
              | refine Branch.mk (fun _ => ?_) (fun _ => ?_)
              | refine Need.mk (by first | omega | decide | rfl) ?_
              | refine Idx.nat (by omega) ?_
              | refine Idx.auto (by first | omega | decide) (by first | omega | decide) ?_
              | refine Cell.ro rfl ?_
              | refine SDraw.all (by kernel_rfl) ?_
              | refine Kept.k0 ?_
              | refine Kept.k1 ?_
              | refine Kept.k2 ?_
              | refine Kept.k3 ?_
              | refine Kept.k4 ?_))
          all_goals (conv => whnf)
          all_goals first
            | exact Keep.all h
            | trace_state
    · cases hz
end
end Go.Proofs.Ytkegkhhfbfegoaa

/- Layer 20: the document's scan: by walks. -/
set_option linter.unusedVariables false
set_option linter.unusedSimpArgs false
set_option maxRecDepth 100000
set_option maxHeartbeats 4000000
namespace Go.Proofs.Ytkegkhhfbfegoaa
open Sx Ls
section
variable {K : Value → Heap → Prop} {g : Nat} {s : Sc}
theorem c21 (hs : s.Ok) (h0 : s.ph = 3 → K (.tuple ⟨[fr8 0 0 0 0 0 0 0 0, .bool false]⟩) [(g, s.ref)])
    (h1 : s.ph ≠ 3 → K (.tuple ⟨[s.q.val, .bool true]⟩) [(g, Sc.ref { s with asked := true })]) : SCalls Try.prog 21 [.pointer (some ⟨g, 0, none⟩)] [(g, s.ref)] K := by
  refine enter21 ?_
  obtain ⟨ph, pa, bi, k0, k1, k2, k3, found, asked, took⟩ := s
  obtain ⟨hst, hnf, htk, hr0, hr1, hr2, hr3⟩ := hs
  simp only [] at hst hnf htk hr0 hr1 hr2 hr3 h0 h1
  rcases hst with ⟨rfl, rfl, rfl, rfl, rfl⟩ | ⟨rfl, hp0, hp3, hb0, hb3, rfl⟩ | ⟨rfl, hp0, hp3, rfl, rfl⟩ | ⟨rfl, rfl⟩
  · have h1 := h1 (by decide)
    dsimp only [Sc.ref] at h1 ⊢
    repeat' ((conv => whnf); (first
        | refine New.mk (fun _ => ?_)
        | refine Look.at0 ?_
        | refine Cell.row ?_
        | refine Cell.buf ?_
        | refine Cells.row rfl ?_
        | refine Put.row rfl ?_
        | refine Put.buf rfl ?_
        | refine Look.at1 ?_
        | refine Look.at2 ?_
        | refine Look.at3 ?_
        | refine Look.at4 ?_
        | refine Look.at5 ?_
        | refine Look.at6 ?_
        | refine Look.at7 ?_
        | refine Look.at8 ?_
        | with_reducible refine Val.i64 (by omega) (by omega) ?_
        | with_reducible refine Val.u8 (by omega) (by omega) ?_
        | with_reducible refine Val.u32 (by omega) (by omega) ?_
        | with_reducible refine Val.u64 (by omega) (by omega) ?_
        | with_reducible refine Val.u8m ?_
        | with_reducible refine Val.u32m ?_
        | with_reducible refine Val.u64m ?_
        | with_reducible refine Val.shr8 ?_
        | with_reducible refine Val.shr16 (by decide) ?_
        | with_reducible refine Val.shr24 (by decide) ?_
        | with_reducible refine Val.raw ?_
        | refine Branch.not ?_
        | refine Branch.and ?_
        | refine Branch.or ?_
        | refine Branch.dt (by assumption) ?_
        | refine Branch.df (by assumption) ?_
        | refine Branch.dt rfl ?_
        | refine Branch.dt (by omega) ?_
        | refine Branch.df (by omega) ?_
        | refine Branch.t rfl ?_
        | refine Branch.f rfl ?_
        | refine Branch.t (by assumption) ?_
        | refine Branch.f (by assumption) ?_
        | refine Branch.d (fun _ => ?_) (fun _ => ?_)
        | refine Branch.mk (fun _ => ?_) (fun _ => ?_)
        | refine Need.mk (by first | omega | decide | rfl) ?_
        | refine Idx.nat (by omega) ?_
        | refine Idx.auto (by first | omega | decide) (by first | omega | decide) ?_
        | refine Cell.ro rfl ?_
        | refine SDraw.all (by kernel_rfl) ?_
        | refine Kept.k0 ?_
        | refine Kept.k1 ?_
        | refine Kept.k2 ?_
        | refine Kept.k3 ?_
        | refine Kept.k4 ?_))
    all_goals (conv => whnf)
    all_goals first
      | exact Keep.d1 h1
      | trace_state
  · have e1 : IntKind.i64.wrap (Int.tdiv (33 * pa + 32 - bi - 1) 33) = pa := by rw [Int.tdiv_eq_ediv_of_nonneg (by omega), wrap_i64 (by omega) (by omega)]; omega
    have e2 : Int.tmod (33 * pa + 32 - bi - 1) 33 = 31 - bi := by rw [Int.tmod_eq_emod_of_nonneg (by omega)]; omega
    have e4 : IntKind.u8.wrap (31 - (31 - bi)) = bi := by rw [wrap_u8]; omega
    obtain rfl | rfl | rfl | rfl : pa = 0 ∨ pa = 1 ∨ pa = 2 ∨ pa = 3 := by omega
    all_goals
      have h1 := h1 (by decide)
      dsimp only [Sc.ref] at h1 ⊢
      repeat' ((conv => whnf); (first
          | refine Ls.c27 _ _ (by omega) ?_
          | with_reducible refine ⟨_, e1, ?_⟩
          | with_reducible refine ⟨_, e2, ?_⟩
          | with_reducible refine ⟨_, e4, ?_⟩
          | refine New.mk (fun _ => ?_)
          | refine Look.at0 ?_
          | refine Cell.row ?_
          | refine Cell.buf ?_
          | refine Cells.row rfl ?_
          | refine Put.row rfl ?_
          | refine Put.buf rfl ?_
          | refine Look.at1 ?_
          | refine Look.at2 ?_
          | refine Look.at3 ?_
          | refine Look.at4 ?_
          | refine Look.at5 ?_
          | refine Look.at6 ?_
          | refine Look.at7 ?_
          | refine Look.at8 ?_
          | with_reducible refine Val.i64 (by omega) (by omega) ?_
          | with_reducible refine Val.u8 (by omega) (by omega) ?_
          | with_reducible refine Val.u32 (by omega) (by omega) ?_
          | with_reducible refine Val.u64 (by omega) (by omega) ?_
          | with_reducible refine Val.u8m ?_
          | with_reducible refine Val.u32m ?_
          | with_reducible refine Val.u64m ?_
          | with_reducible refine Val.shr8 ?_
          | with_reducible refine Val.shr16 (by decide) ?_
          | with_reducible refine Val.shr24 (by decide) ?_
          | with_reducible refine Val.raw ?_
          | refine Branch.not ?_
          | refine Branch.and ?_
          | refine Branch.or ?_
          | refine Branch.dt (by assumption) ?_
          | refine Branch.df (by assumption) ?_
          | refine Branch.dt rfl ?_
          | refine Branch.dt (by omega) ?_
          | refine Branch.df (by omega) ?_
          | refine Branch.t rfl ?_
          | refine Branch.f rfl ?_
          | refine Branch.t (by assumption) ?_
          | refine Branch.f (by assumption) ?_
          | refine Branch.d (fun _ => ?_) (fun _ => ?_)
          | refine Branch.mk (fun _ => ?_) (fun _ => ?_)
          | refine Need.mk (by first | omega | decide | rfl) ?_
          | refine Idx.nat (by omega) ?_
          | refine Idx.auto (by first | omega | decide) (by first | omega | decide) ?_
          | refine Cell.ro rfl ?_
          | refine SDraw.all (by kernel_rfl) ?_
          | refine Kept.k0 ?_
          | refine Kept.k1 ?_
          | refine Kept.k2 ?_
          | refine Kept.k3 ?_
          | refine Kept.k4 ?_))
      all_goals (conv => whnf)
      all_goals first
        | exact Keep.d2 h1
        | trace_state
  · have e1 : IntKind.i64.wrap (Int.tdiv (33 * pa + 33 - 1) 33) = pa := by rw [Int.tdiv_eq_ediv_of_nonneg (by omega), wrap_i64 (by omega) (by omega)]; omega
    have e2 : Int.tmod (33 * pa + 33 - 1) 33 = 32 := by rw [Int.tmod_eq_emod_of_nonneg (by omega)]; omega
    obtain rfl | rfl | rfl | rfl : pa = 0 ∨ pa = 1 ∨ pa = 2 ∨ pa = 3 := by omega
    all_goals
      have h1 := h1 (by decide)
      dsimp only [Sc.ref] at h1 ⊢
      repeat' ((conv => whnf); (first
          | refine Ls.c27 _ _ (by omega) ?_
          | with_reducible refine ⟨_, e1, ?_⟩
          | with_reducible refine ⟨_, e2, ?_⟩
          | refine New.mk (fun _ => ?_)
          | refine Look.at0 ?_
          | refine Cell.row ?_
          | refine Cell.buf ?_
          | refine Cells.row rfl ?_
          | refine Put.row rfl ?_
          | refine Put.buf rfl ?_
          | refine Look.at1 ?_
          | refine Look.at2 ?_
          | refine Look.at3 ?_
          | refine Look.at4 ?_
          | refine Look.at5 ?_
          | refine Look.at6 ?_
          | refine Look.at7 ?_
          | refine Look.at8 ?_
          | with_reducible refine Val.i64 (by omega) (by omega) ?_
          | with_reducible refine Val.u8 (by omega) (by omega) ?_
          | with_reducible refine Val.u32 (by omega) (by omega) ?_
          | with_reducible refine Val.u64 (by omega) (by omega) ?_
          | with_reducible refine Val.u8m ?_
          | with_reducible refine Val.u32m ?_
          | with_reducible refine Val.u64m ?_
          | with_reducible refine Val.shr8 ?_
          | with_reducible refine Val.shr16 (by decide) ?_
          | with_reducible refine Val.shr24 (by decide) ?_
          | with_reducible refine Val.raw ?_
          | refine Branch.not ?_
          | refine Branch.and ?_
          | refine Branch.or ?_
          | refine Branch.dt (by assumption) ?_
          | refine Branch.df (by assumption) ?_
          | refine Branch.dt rfl ?_
          | refine Branch.dt (by omega) ?_
          | refine Branch.df (by omega) ?_
          | refine Branch.t rfl ?_
          | refine Branch.f rfl ?_
          | refine Branch.t (by assumption) ?_
          | refine Branch.f (by assumption) ?_
          | refine Branch.d (fun _ => ?_) (fun _ => ?_)
          | refine Branch.mk (fun _ => ?_) (fun _ => ?_)
          | refine Need.mk (by first | omega | decide | rfl) ?_
          | refine Idx.nat (by omega) ?_
          | refine Idx.auto (by first | omega | decide) (by first | omega | decide) ?_
          | refine Cell.ro rfl ?_
          | refine SDraw.all (by kernel_rfl) ?_
          | refine Kept.k0 ?_
          | refine Kept.k1 ?_
          | refine Kept.k2 ?_
          | refine Kept.k3 ?_
          | refine Kept.k4 ?_))
      all_goals (conv => whnf)
      all_goals first
        | exact Keep.d2 h1
        | trace_state
  · have h0 := h0 rfl
    dsimp only [Sc.ref] at h0 ⊢
    repeat' ((conv => whnf); (first
        | refine New.mk (fun _ => ?_)
        | refine Look.at0 ?_
        | refine Cell.row ?_
        | refine Cell.buf ?_
        | refine Cells.row rfl ?_
        | refine Put.row rfl ?_
        | refine Put.buf rfl ?_
        | refine Look.at1 ?_
        | refine Look.at2 ?_
        | refine Look.at3 ?_
        | refine Look.at4 ?_
        | refine Look.at5 ?_
        | refine Look.at6 ?_
        | refine Look.at7 ?_
        | refine Look.at8 ?_
        | with_reducible refine Val.i64 (by omega) (by omega) ?_
        | with_reducible refine Val.u8 (by omega) (by omega) ?_
        | with_reducible refine Val.u32 (by omega) (by omega) ?_
        | with_reducible refine Val.u64 (by omega) (by omega) ?_
        | with_reducible refine Val.u8m ?_
        | with_reducible refine Val.u32m ?_
        | with_reducible refine Val.u64m ?_
        | with_reducible refine Val.shr8 ?_
        | with_reducible refine Val.shr16 (by decide) ?_
        | with_reducible refine Val.shr24 (by decide) ?_
        | with_reducible refine Val.raw ?_
        | refine Branch.not ?_
        | refine Branch.and ?_
        | refine Branch.or ?_
        | refine Branch.dt (by assumption) ?_
        | refine Branch.df (by assumption) ?_
        | refine Branch.dt rfl ?_
        | refine Branch.dt (by omega) ?_
        | refine Branch.df (by omega) ?_
        | refine Branch.t rfl ?_
        | refine Branch.f rfl ?_
        | refine Branch.t (by assumption) ?_
        | refine Branch.f (by assumption) ?_
        | refine Branch.d (fun _ => ?_) (fun _ => ?_)
        | refine Branch.mk (fun _ => ?_) (fun _ => ?_)
        | refine Need.mk (by first | omega | decide | rfl) ?_
        | refine Idx.nat (by omega) ?_
        | refine Idx.auto (by first | omega | decide) (by first | omega | decide) ?_
        | refine Cell.ro rfl ?_
        | refine SDraw.all (by kernel_rfl) ?_
        | refine Kept.k0 ?_
        | refine Kept.k1 ?_
        | refine Kept.k2 ?_
        | refine Kept.k3 ?_
        | refine Kept.k4 ?_))
    all_goals (conv => whnf)
    all_goals exact Keep.d1 h0
end
end Go.Proofs.Ytkegkhhfbfegoaa

/- Layer 20: what the document's scan takes from an answer: by walks. -/
set_option linter.unusedVariables false
set_option linter.unusedSimpArgs false
set_option maxRecDepth 100000
set_option maxHeartbeats 4000000
namespace Go.Proofs.Ytkegkhhfbfegoaa
open Sx Ls
section
variable {K : Value → Heap → Prop} {g : Nat} {s : Sc}
theorem c19 (hs : s.Ok) (yes : Bool) (h : K (.tuple ⟨[]⟩) [(g, (s.ans yes).ref)]) : SCalls Try.prog 19 [.pointer (some ⟨g, 0, none⟩), .bool yes] [(g, s.ref)] K := by
  refine enter19 ?_
  obtain ⟨ph, pa, bi, k0, k1, k2, k3, found, asked, took⟩ := s
  obtain ⟨hst, hnf, htk, hr0, hr1, hr2, hr3⟩ := hs
  simp only [] at hst hnf htk hr0 hr1 hr2 hr3
  cases asked with
  | false =>
    dsimp only [Sc.ref] at *
    repeat' ((conv => whnf); (first
        | refine New.mk (fun _ => ?_)
        | refine Look.at0 ?_
        | refine Cell.row ?_
        | refine Cell.buf ?_
        | refine Cells.row rfl ?_
        | refine Put.row rfl ?_
        | refine Put.buf rfl ?_
        | refine Look.at1 ?_
        | refine Look.at2 ?_
        | refine Look.at3 ?_
        | refine Look.at4 ?_
        | refine Look.at5 ?_
        | refine Look.at6 ?_
        | refine Look.at7 ?_
        | refine Look.at8 ?_
        | with_reducible refine Val.i64 (by omega) (by omega) ?_
        | with_reducible refine Val.u8 (by omega) (by omega) ?_
        | with_reducible refine Val.u32 (by omega) (by omega) ?_
        | with_reducible refine Val.u64 (by omega) (by omega) ?_
        | with_reducible refine Val.u8m ?_
        | with_reducible refine Val.u32m ?_
        | with_reducible refine Val.u64m ?_
        | with_reducible refine Val.shr8 ?_
        | with_reducible refine Val.shr16 (by decide) ?_
        | with_reducible refine Val.shr24 (by decide) ?_
        | with_reducible refine Val.raw ?_
        | refine Branch.not ?_
        | refine Branch.and ?_
        | refine Branch.or ?_
        | refine Branch.dt (by assumption) ?_
        | refine Branch.df (by assumption) ?_
        | refine Branch.dt rfl ?_
        | refine Branch.dt (by omega) ?_
        | refine Branch.df (by omega) ?_
        | refine Branch.t rfl ?_
        | refine Branch.f rfl ?_
        | refine Branch.t (by assumption) ?_
        | refine Branch.f (by assumption) ?_
        | refine Branch.d (fun _ => ?_) (fun _ => ?_)
        | refine Branch.mk (fun _ => ?_) (fun _ => ?_)
        | refine Need.mk (by first | omega | decide | rfl) ?_
        | refine Idx.nat (by omega) ?_
        | refine Idx.auto (by first | omega | decide) (by first | omega | decide) ?_
        | refine Cell.ro rfl ?_
        | refine SDraw.all (by kernel_rfl) ?_
        | refine Kept.k0 ?_
        | refine Kept.k1 ?_
        | refine Kept.k2 ?_
        | refine Kept.k3 ?_
        | refine Kept.k4 ?_))
    all_goals (conv => whnf)
    all_goals exact Keep.all h
  | true =>
    rcases hst with ⟨rfl, rfl, rfl, rfl, rfl⟩ | ⟨rfl, hp0, hp3, hb0, hb3, rfl⟩ | ⟨rfl, hp0, hp3, rfl, rfl⟩ | ⟨rfl, hz⟩
    · have e1 : IntKind.i64.wrap (Int.tdiv (0 - 1) 33) = 0 := by decide
      have e2 : Int.tmod (0 - 1) 33 = -1 := by decide
      cases yes
      all_goals
        dsimp only [Sc.ref] at *
        repeat' ((conv => whnf); (first
            | with_reducible refine ⟨_, e1, ?_⟩
            | with_reducible refine ⟨_, e2, ?_⟩
            | refine New.mk (fun _ => ?_)
            | refine Look.at0 ?_
            | refine Cell.row ?_
            | refine Cell.buf ?_
            | refine Cells.row rfl ?_
            | refine Put.row rfl ?_
            | refine Put.buf rfl ?_
            | refine Look.at1 ?_
            | refine Look.at2 ?_
            | refine Look.at3 ?_
            | refine Look.at4 ?_
            | refine Look.at5 ?_
            | refine Look.at6 ?_
            | refine Look.at7 ?_
            | refine Look.at8 ?_
            | with_reducible refine Val.i64 (by omega) (by omega) ?_
            | with_reducible refine Val.u8 (by omega) (by omega) ?_
            | with_reducible refine Val.u32 (by omega) (by omega) ?_
            | with_reducible refine Val.u64 (by omega) (by omega) ?_
            | with_reducible refine Val.u8m ?_
            | with_reducible refine Val.u32m ?_
            | with_reducible refine Val.u64m ?_
            | with_reducible refine Val.shr8 ?_
            | with_reducible refine Val.shr16 (by decide) ?_
            | with_reducible refine Val.shr24 (by decide) ?_
            | with_reducible refine Val.raw ?_
            | refine Branch.not ?_
            | refine Branch.and ?_
            | refine Branch.or ?_
            | refine Branch.dt (by assumption) ?_
            | refine Branch.df (by assumption) ?_
            | refine Branch.dt rfl ?_
            | refine Branch.dt (by omega) ?_
            | refine Branch.df (by omega) ?_
            | refine Branch.t rfl ?_
            | refine Branch.f rfl ?_
            | refine Branch.t (by assumption) ?_
            | refine Branch.f (by assumption) ?_
            | refine Branch.d (fun _ => ?_) (fun _ => ?_)
            | refine Branch.mk (fun _ => ?_) (fun _ => ?_)
            | refine Need.mk (by first | omega | decide | rfl) ?_
            | refine Idx.nat (by omega) ?_
            | refine Idx.auto (by first | omega | decide) (by first | omega | decide) ?_
            | refine Cell.ro rfl ?_
            | refine SDraw.all (by kernel_rfl) ?_
            | refine Kept.k0 ?_
            | refine Kept.k1 ?_
            | refine Kept.k2 ?_
            | refine Kept.k3 ?_
            | refine Kept.k4 ?_))
        all_goals (conv => whnf)
        all_goals first
          | exact Keep.all h
          | trace_state
    · have e1 : IntKind.i64.wrap (Int.tdiv (33 * pa + 32 - bi - 1) 33) = pa := by rw [Int.tdiv_eq_ediv_of_nonneg (by omega), wrap_i64 (by omega) (by omega)]; omega
      have e2 : Int.tmod (33 * pa + 32 - bi - 1) 33 = 31 - bi := by rw [Int.tmod_eq_emod_of_nonneg (by omega)]; omega
      have e4 : IntKind.u64.wrap (31 - (31 - bi)) = bi := by rw [wrap_u64]; omega
      have hf := hnf (by decide)
      subst hf
      obtain rfl | rfl | rfl | rfl : pa = 0 ∨ pa = 1 ∨ pa = 2 ∨ pa = 3 := by omega
      all_goals
        cases yes
        all_goals
          dsimp only [Sc.ref, Sc.ans, Sc.put, Sc.kn] at *
          have hneg : (bi - 1 < 0) ∨ ¬ (bi - 1 < 0) := by omega
          rcases hneg with hneg | hneg
          all_goals
            first | rw [if_pos hneg] at h | rw [if_neg hneg] at h
            repeat' ((conv => whnf); (first
                | with_reducible refine ⟨_, e1, ?_⟩
                | with_reducible refine ⟨_, e2, ?_⟩
                | with_reducible refine ⟨_, e4, ?_⟩
                | refine New.mk (fun _ => ?_)
                | refine Look.at0 ?_
                | refine Cell.row ?_
                | refine Cell.buf ?_
                | refine Cells.row rfl ?_
                | refine Put.row rfl ?_
                | refine Put.buf rfl ?_
                | refine Look.at1 ?_
                | refine Look.at2 ?_
                | refine Look.at3 ?_
                | refine Look.at4 ?_
                | refine Look.at5 ?_
                | refine Look.at6 ?_
                | refine Look.at7 ?_
                | refine Look.at8 ?_
                | with_reducible refine Val.i64 (by omega) (by omega) ?_
                | with_reducible refine Val.u8 (by omega) (by omega) ?_
                | with_reducible refine Val.u32 (by omega) (by omega) ?_
                | with_reducible refine Val.u64 (by omega) (by omega) ?_
                | with_reducible refine Val.u8m ?_
                | with_reducible refine Val.u32m ?_
                | with_reducible refine Val.u64m ?_
                | with_reducible refine Val.shr8 ?_
                | with_reducible refine Val.shr16 (by decide) ?_
                | with_reducible refine Val.shr24 (by decide) ?_
                | with_reducible refine Val.raw ?_
                | refine Branch.not ?_
                | refine Branch.and ?_
                | refine Branch.or ?_
                | refine Branch.dt (by assumption) ?_
                | refine Branch.df (by assumption) ?_
                | refine Branch.dt rfl ?_
                | refine Branch.dt (by omega) ?_
                | refine Branch.df (by omega) ?_
                | refine Branch.t rfl ?_
                | refine Branch.f rfl ?_
                | refine Branch.t (by assumption) ?_
                | refine Branch.f (by assumption) ?_
                | refine Branch.d (fun _ => ?_) (fun _ => ?_)
                | refine Branch.mk (fun _ => ?_) (fun _ => ?_)
                | refine Need.mk (by first | omega | decide | rfl) ?_
                | refine Idx.nat (by omega) ?_
                | refine Idx.auto (by first | omega | decide) (by first | omega | decide) ?_
                | refine Cell.ro rfl ?_
                | refine SDraw.all (by kernel_rfl) ?_
                | refine Kept.k0 ?_
                | refine Kept.k1 ?_
                | refine Kept.k2 ?_
                | refine Kept.k3 ?_
                | refine Kept.k4 ?_))
            all_goals (conv => whnf)
            all_goals first
              | exact Keep.all h
              | trace_state
    · have e1 : IntKind.i64.wrap (Int.tdiv (33 * pa + 33 - 1) 33) = pa := by rw [Int.tdiv_eq_ediv_of_nonneg (by omega), wrap_i64 (by omega) (by omega)]; omega
      have e2 : Int.tmod (33 * pa + 33 - 1) 33 = 32 := by rw [Int.tmod_eq_emod_of_nonneg (by omega)]; omega
      have hf := hnf (by decide)
      subst hf
      obtain rfl | rfl | rfl | rfl : pa = 0 ∨ pa = 1 ∨ pa = 2 ∨ pa = 3 := by omega
      all_goals
        cases yes
        all_goals
          dsimp only [Sc.ref] at *
          repeat' ((conv => whnf); (first
              | with_reducible refine ⟨_, e1, ?_⟩
              | with_reducible refine ⟨_, e2, ?_⟩
              | refine New.mk (fun _ => ?_)
              | refine Look.at0 ?_
              | refine Cell.row ?_
              | refine Cell.buf ?_
              | refine Cells.row rfl ?_
              | refine Put.row rfl ?_
              | refine Put.buf rfl ?_
              | refine Look.at1 ?_
              | refine Look.at2 ?_
              | refine Look.at3 ?_
              | refine Look.at4 ?_
              | refine Look.at5 ?_
              | refine Look.at6 ?_
              | refine Look.at7 ?_
              | refine Look.at8 ?_
              | with_reducible refine Val.i64 (by omega) (by omega) ?_
              | with_reducible refine Val.u8 (by omega) (by omega) ?_
              | with_reducible refine Val.u32 (by omega) (by omega) ?_
              | with_reducible refine Val.u64 (by omega) (by omega) ?_
              | with_reducible refine Val.u8m ?_
              | with_reducible refine Val.u32m ?_
              | with_reducible refine Val.u64m ?_
              | with_reducible refine Val.shr8 ?_
              | with_reducible refine Val.shr16 (by decide) ?_
              | with_reducible refine Val.shr24 (by decide) ?_
              | with_reducible refine Val.raw ?_
              | refine Branch.not ?_
              | refine Branch.and ?_
              | refine Branch.or ?_
              | refine Branch.dt (by assumption) ?_
              | refine Branch.df (by assumption) ?_
              | refine Branch.dt rfl ?_
              | refine Branch.dt (by omega) ?_
              | refine Branch.df (by omega) ?_
              | refine Branch.t rfl ?_
              | refine Branch.f rfl ?_
              | refine Branch.t (by assumption) ?_
              | refine Branch.f (by assumption) ?_
              | refine Branch.d (fun _ => ?_) (fun _ => ?_)
              | refine Branch.mk (fun _ => ?_) (fun _ => ?_)
              | refine Need.mk (by first | omega | decide | rfl) ?_
              | refine Idx.nat (by omega) ?_
              | refine Idx.auto (by first | omega | decide) (by first | omega | decide) ?_
              | refine Cell.ro rfl ?_
              | refine SDraw.all (by kernel_rfl) ?_
              | refine Kept.k0 ?_
              | refine Kept.k1 ?_
              | refine Kept.k2 ?_
              | refine Kept.k3 ?_
              | refine Kept.k4 ?_))
          all_goals (conv => whnf)
          all_goals first
            | exact Keep.all h
            | trace_state
    · cases hz
end
end Go.Proofs.Ytkegkhhfbfegoaa

/- Layer 20: a scan stays in order. -/
set_option linter.unusedVariables false
set_option linter.unusedSimpArgs false
namespace Go.Proofs.Ytkegkhhfbfegoaa
open Sx Ls
theorem orB_r (k b : Int) : 0 ≤ orB k b ∧ orB k b ≤ 4294967295 := by
  unfold orB bitOr
  rw [wrap_u32]
  omega
theorem Sc.Ok.new : Sc.new.Ok := ⟨.inl ⟨rfl, rfl, rfl, rfl, rfl⟩, fun _ => rfl, by decide, by decide, by decide, by decide, by decide⟩
theorem Sc.Ok.ask {s : Sc} (hs : s.Ok) (h : s.ph ≠ 3) : Sc.Ok { s with asked := true } := by
  obtain ⟨hst, hnf, htk, hr0, hr1, hr2, hr3⟩ := hs
  refine ⟨?_, hnf, htk, hr0, hr1, hr2, hr3⟩
  rcases hst with z | z | z | z
  · exact .inl z
  · exact .inr (.inl z)
  · exact .inr (.inr (.inl z))
  · exact absurd z.1 h
theorem Sc.Ok.ans {s : Sc} (hs : s.Ok) (yes : Bool) : (s.ans yes).Ok := by
  obtain ⟨ph, pa, bi, k0, k1, k2, k3, found, asked, took⟩ := s
  have hs' := hs
  obtain ⟨hst, hnf, htk, hr0, hr1, hr2, hr3⟩ := hs
  simp only [] at hst hnf htk hr0 hr1 hr2 hr3
  cases asked with
  | false => exact hs'
  | true =>
    rcases hst with ⟨rfl, rfl, rfl, rfl, rfl⟩ | ⟨rfl, hp0, hp3, hb0, hb3, rfl⟩ | ⟨rfl, hp0, hp3, rfl, rfl⟩ | ⟨rfl, hz⟩
    · have hf := hnf (by decide)
      subst hf
      cases yes
      · exact ⟨.inr (.inr (.inr ⟨rfl, rfl⟩)), fun _ => rfl, by show (0 : Int) ≤ 0 + 1 ∧ (0 : Int) + 1 ≤ 133; omega, hr0, hr1, hr2, hr3⟩
      · exact ⟨.inr (.inl ⟨rfl, by show (0 : Int) ≤ 0; omega, by show (0 : Int) ≤ 3; omega, by show (0 : Int) ≤ 31; omega, by show (31 : Int) ≤ 31; omega, by show (0 : Int) + 1 = 33 * 0 + 32 - 31; omega⟩), fun _ => rfl, by show (0 : Int) ≤ 0 + 1 ∧ (0 : Int) + 1 ≤ 133; omega, hr0, hr1, hr2, hr3⟩
    · have hf := hnf (by decide)
      subst hf
      have key : ∀ k0' k1' k2' k3' : Int, (0 ≤ k0' ∧ k0' ≤ 4294967295) → (0 ≤ k1' ∧ k1' ≤ 4294967295) → (0 ≤ k2' ∧ k2' ≤ 4294967295) → (0 ≤ k3' ∧ k3' ≤ 4294967295) → Sc.Ok ⟨if bi - 1 < 0 then 2 else 1, pa, bi - 1, k0', k1', k2', k3', false, false, 33 * pa + 32 - bi + 1⟩ := by
        intro k0' k1' k2' k3' g0 g1 g2 g3
        by_cases hb : bi - 1 < 0
        · rw [if_pos hb]
          exact ⟨.inr (.inr (.inl ⟨rfl, hp0, hp3, by show bi - 1 = -1; omega, by show 33 * pa + 32 - bi + 1 = 33 * pa + 33; omega⟩)), fun _ => rfl, by show 0 ≤ 33 * pa + 32 - bi + 1 ∧ 33 * pa + 32 - bi + 1 ≤ 133; omega, g0, g1, g2, g3⟩
        · rw [if_neg hb]
          exact ⟨.inr (.inl ⟨rfl, hp0, hp3, by show 0 ≤ bi - 1; omega, by show bi - 1 ≤ 31; omega, by show 33 * pa + 32 - bi + 1 = 33 * pa + 32 - (bi - 1); omega⟩), fun _ => rfl, by show 0 ≤ 33 * pa + 32 - bi + 1 ∧ 33 * pa + 32 - bi + 1 ≤ 133; omega, g0, g1, g2, g3⟩
      cases yes
      · obtain rfl | rfl | rfl | rfl : pa = 0 ∨ pa = 1 ∨ pa = 2 ∨ pa = 3 := by omega
        · exact key _ _ _ _ (orB_r _ _) hr1 hr2 hr3
        · exact key _ _ _ _ hr0 (orB_r _ _) hr2 hr3
        · exact key _ _ _ _ hr0 hr1 (orB_r _ _) hr3
        · exact key _ _ _ _ hr0 hr1 hr2 (orB_r _ _)
      · exact key _ _ _ _ hr0 hr1 hr2 hr3
    · have hf := hnf (by decide)
      subst hf
      cases yes
      · exact ⟨.inr (.inr (.inr ⟨rfl, rfl⟩)), fun _ => rfl, by show 0 ≤ 33 * pa + 33 + 1 ∧ 33 * pa + 33 + 1 ≤ 133; omega, hr0, hr1, hr2, hr3⟩
      · show Sc.Ok ⟨if pa + 1 = 4 then 3 else 1, pa + 1, 31, k0, k1, k2, k3, if pa + 1 = 4 then true else false, false, 33 * pa + 33 + 1⟩
        by_cases h4 : pa + 1 = 4
        · rw [if_pos h4, if_pos h4]
          exact ⟨.inr (.inr (.inr ⟨rfl, rfl⟩)), fun z => absurd rfl z, by show 0 ≤ 33 * pa + 33 + 1 ∧ 33 * pa + 33 + 1 ≤ 133; omega, hr0, hr1, hr2, hr3⟩
        · rw [if_neg h4, if_neg h4]
          exact ⟨.inr (.inl ⟨rfl, by show 0 ≤ pa + 1; omega, by show pa + 1 ≤ 3; omega, by show (0 : Int) ≤ 31; omega, by show (31 : Int) ≤ 31; omega, by show 33 * pa + 33 + 1 = 33 * (pa + 1) + 32 - 31; omega⟩), fun _ => rfl, by show 0 ≤ 33 * pa + 33 + 1 ∧ 33 * pa + 33 + 1 ≤ 133; omega, hr0, hr1, hr2, hr3⟩
    · cases hz
end Go.Proofs.Ytkegkhhfbfegoaa

/- Layer 20: all slaves of a list take a frame: by walks. -/
set_option linter.unusedVariables false
set_option linter.unusedSimpArgs false
set_option maxRecDepth 100000
set_option maxHeartbeats 4000000
namespace Go.Proofs.Ytkegkhhfbfegoaa
open Sx Ls
def ptrs (ad : List Nat) : List Value := ad.map fun r => .pointer (some ⟨r, 0, none⟩)
/-- A slice of pointers in memory. -/
def SlO (tb : TypeId) (a : Option Addr) (cap : Nat) (Bh : Heap) (ad : List Nat) : Prop :=
  ad.length ≤ cap ∧ cap ≤ maxLen ∧ ((ad = [] ∧ Bh = [] ) ∨ ∃ r, a = some ⟨r, 0, none⟩ ∧ Bh = [(r, .buf tb (ptrs ad) (cap * 1))])
theorem SlO.has {tb : TypeId} {a : Option Addr} {cap : Nat} {Bh : Heap} {ad : List Nat} (h : SlO tb a cap Bh ad) (hm : 0 < ad.length) : ∃ r, a = some ⟨r, 0, none⟩ ∧ Bh = [(r, .buf tb (ptrs ad) (cap * 1))] := by
  rcases h.2.2 with ⟨rfl, _⟩ | h
  · simp at hm
  · exact h
theorem ptr_nth {tb : TypeId} {ad : List Nat} {j r N : Nat} {K : Value → Prop} (hj : ad[j]? = some r) (h : K (.pointer (some ⟨r, 0, none⟩))) : Cell (.buf tb (ptrs ad) N) (0 + j * 1) K :=
  Cell.get (by show (ptrs ad)[0 + j * 1]? = _; simp [ptrs, hj]) h
abbrev PL := Nat × L
abbrev PR := Nat × R
def rwL (x : PL) : Nat × Blk := (x.1, x.2.row none)
def rwR (x : PR) : Nat × Blk := (x.1, x.2.row)
def tkL (q : Q) (x : PL) : PL := (x.1, (x.2.take q).2)
def tkR (q : Q) (x : PR) : PR := (x.1, (x.2.take q).2)
def anL (q : Q) (x : PL) : Bool := (x.2.take q).1.is
def anR (q : Q) (x : PR) : Bool := (x.2.take q).1.is
theorem any_succ {α : Type} {p : α → Bool} {l : List α} {j : Nat} {x : α} (hx : l[j]? = some x) : (l.take (j + 1)).any p = ((l.take j).any p || p x) := by
  obtain ⟨hlt, rfl⟩ := List.getElem?_eq_some_iff.1 hx
  rw [List.take_succ_eq_append_getElem hlt, List.any_append]
  simp
inductive S30 (A3 A5 A10 A11 A12 : Value) : List Value → Prop
  | mk {r0 r1 r2 r4 r6 r7 r8 r9 r13 r14 r15 r16 r17 r18 r19 r20 r21 r22 r23 r24 r25 r26 r27 : Value} : S30 A3 A5 A10 A11 A12 [r0, r1, r2, A3, r4, A5, r6, r7, r8, r9, A10, A11, A12, r13, r14, r15, r16, r17, r18, r19, r20, r21, r22, r23, r24, r25, r26, r27]
inductive S32 (A0 A3 A5 A6 : Value) : List Value → Prop
  | mk {r1 r2 r4 r7 r8 r9 r10 r11 r12 r13 r14 r15 r16 r17 r18 r19 r20 r21 r22 r23 r24 r25 r26 r27 r28 : Value} : S32 A0 A3 A5 A6 [A0, r1, r2, A3, r4, A5, A6, r7, r8, r9, r10, r11, r12, r13, r14, r15, r16, r17, r18, r19, r20, r21, r22, r23, r24, r25, r26, r27, r28]
section
variable {K : Value → Heap → Prop} {a : Option Addr} {cap : Nat} {Bh : Heap} {q : Q} {ms : List PL} {rs : List PR}
noncomputable def atS (l : List Value) (i : Nat) : Nat := match getL l i with | .int _ i => i.toNat | _ => 0
noncomputable def MS (i n : Nat) (l : List Value) (_ : Heap) : Nat := n - atS l i
def I30 (p : Nat) (a : Option Addr) (cap : Nat) (Bh : Heap) (q : Q) (ms : List PL) (S : List Value) (H : Heap) : Prop :=
  ∃ j : Nat, j ≤ ms.length ∧ S30 (.pointer (some ⟨p, 0, none⟩)) (.bool ((ms.take j).any (anL q))) (.slice a ms.length cap) (.int .i64 (ms.length : Int)) (.int .i64 (j : Int)) S ∧
    H = ((p, .row 55 [.int .u8 q.q0, .int .u8 q.q1, .int .u8 q.q2, .int .u8 q.q3, .int .u8 q.q4, .int .u8 q.q5, .int .u8 q.q6, .int .u8 q.q7] (0, 0)) :: Bh) ++ (updTo (tkL q) j ms).map rwL
theorem c30 (hsl : SlO 38 a cap Bh (ms.map Prod.fst)) (hlen : ms.length ≤ 140737488355328) (hok : ∀ x ∈ ms, x.2.Ok) (hq : q.Ok) (h23 : q.q0 ≠ 23) (h : K (.bool (ms.any (anL q))) (Bh ++ (ms.map (tkL q)).map rwL)) :
    SCalls Try.prog 30 [.slice a ms.length cap, q.val] (Bh ++ ms.map rwL) K := by
  refine enter30 ?_
  repeat' ((conv => whnf); (first
      | unfold Q.val
      | refine New.mk (fun _ => ?_)
      | refine Look.at0 ?_
      | refine Cell.row ?_
      | refine Cell.buf ?_
      | refine Cells.row rfl ?_
      | refine Put.row rfl ?_
      | refine Put.buf rfl ?_
      | refine Look.at1 ?_
      | refine Look.at2 ?_
      | refine Look.at3 ?_
      | refine Look.at4 ?_
      | refine Look.at5 ?_
      | refine Look.at6 ?_
      | refine Look.at7 ?_
      | refine Look.at8 ?_
      | with_reducible refine Val.i64 (by omega) (by omega) ?_
      | with_reducible refine Val.u8 (by omega) (by omega) ?_
      | with_reducible refine Val.u32 (by omega) (by omega) ?_
      | with_reducible refine Val.u64 (by omega) (by omega) ?_
      | with_reducible refine Val.u8m ?_
      | with_reducible refine Val.u32m ?_
      | with_reducible refine Val.u64m ?_
      | with_reducible refine Val.shr8 ?_
      | with_reducible refine Val.shr16 (by decide) ?_
      | with_reducible refine Val.shr24 (by decide) ?_
      | with_reducible refine Val.raw ?_
      | refine Branch.not ?_
      | refine Branch.and ?_
      | refine Branch.or ?_
      | refine Branch.dt (by assumption) ?_
      | refine Branch.df (by assumption) ?_
      | refine Branch.dt rfl ?_
      | refine Branch.dt (by omega) ?_
      | refine Branch.df (by omega) ?_
      | refine Branch.t rfl ?_
      | refine Branch.f rfl ?_
      | refine Branch.t (by assumption) ?_
      | refine Branch.f (by assumption) ?_
      | refine Branch.d (fun _ => ?_) (fun _ => ?_)
      | refine Branch.mk (fun _ => ?_) (fun _ => ?_)
      | refine Need.mk (by first | omega | decide | rfl) ?_
      | refine Idx.nat (by omega) ?_
      | refine Idx.auto (by first | omega | decide) (by first | omega | decide) ?_
      | refine Cell.ro rfl ?_
      | refine SDraw.all (by kernel_rfl) ?_
      | refine Kept.k0 ?_
      | refine Kept.k1 ?_
      | refine Kept.k2 ?_
      | refine Kept.k3 ?_
      | refine Kept.k4 ?_))
  rename_i p0
  refine SLoop.inv (I30 p0 a cap Bh q ms) (MS 12 ms.length) (Keep.all ⟨0, by omega, .mk, by rw [updTo_zero]; rfl⟩) ?_
  rintro S H ⟨j, hj, hS, rfl⟩ R hR
  cases hS
  by_cases hlt : j < ms.length
  · obtain ⟨x, hx⟩ : ∃ x, ms[j]? = some x := ⟨_, List.getElem?_eq_getElem hlt⟩
    obtain ⟨r, rfl, rfl⟩ := hsl.has (by simpa using (by omega : 0 < ms.length))
    have hp : (ms.map Prod.fst)[j]? = some x.1 := by rw [List.getElem?_map, hx]; rfl
    have hxo := hok x (List.mem_of_getElem? hx)
    have hs := any_succ (p := anL q) hx
    obtain ⟨xa, xl⟩ := x
    obtain ⟨an, l', he⟩ : ∃ an l', xl.take q = (an, l') := ⟨_, _, rfl⟩
    have e1 : anL q (xa, xl) = an.is := by unfold anL; rw [he]
    have e2 : tkL q (xa, xl) = (xa, l') := by unfold tkL; rw [he]
    have e3 := updTo_set (f := tkL q) hx
    rw [e2] at e3
    rw [e1] at hs
    have hcall := fun (K : Value → Heap → Prop) A hk => SCalls.elem (K := K) (rw := rwL) (x' := (xa, l')) (f := 25) (args := [.pointer (some ⟨xa, 0, none⟩), q.val]) (v := an.val) (updTo_nth (f := tkL q) hx) (fun K hk => Ls.c8e xl hxo q hq none he (fun z => h23 z.1) hk) A hk
    rw [e3] at hcall
    clear h
    unfold Q.val at hcall
    have fin : ∀ (S : List Value) (b : Bool) (tb : Nat × Blk), b = (ms.take (j + 1)).any (anL q) → S30 (.pointer (some ⟨p0, 0, none⟩)) (.bool b) (.slice (some ⟨r, 0, none⟩) ms.length cap) (.int .i64 (ms.length : Int)) (.int .i64 ((j + 1 : Nat) : Int)) S → atS S 12 = j + 1 →
        R S (tb :: (((p0, .row 55 [.int .u8 q.q0, .int .u8 q.q1, .int .u8 q.q2, .int .u8 q.q3, .int .u8 q.q4, .int .u8 q.q5, .int .u8 q.q6, .int .u8 q.q7] (0, 0)) :: [(r, .buf 38 (ptrs (ms.map Prod.fst)) (cap * 1))]) ++ (updTo (tkL q) (j + 1) ms).map rwL)) := by
      rintro S b tb rfl k2 k3
      refine hR _ _ (Keep.d1 ⟨⟨j + 1, by omega, k2, rfl⟩, ?_⟩)
      unfold MS
      rw [k3]
      show ms.length - (j + 1) < ms.length - Int.toNat (j : Int)
      omega
    repeat' ((conv => whnf); (first
        | refine ptr_nth hp ?_
        | refine hcall _ (_ :: [_]) ?_
        | refine New.mk (fun _ => ?_)
        | refine Look.at0 ?_
        | refine Cell.row ?_
        | refine Cell.buf ?_
        | refine Cells.row rfl ?_
        | refine Put.row rfl ?_
        | refine Put.buf rfl ?_
        | refine Look.at1 ?_
        | refine Look.at2 ?_
        | refine Look.at3 ?_
        | refine Look.at4 ?_
        | refine Look.at5 ?_
        | refine Look.at6 ?_
        | refine Look.at7 ?_
        | refine Look.at8 ?_
        | with_reducible refine Val.i64 (by omega) (by omega) ?_
        | with_reducible refine Val.u8 (by omega) (by omega) ?_
        | with_reducible refine Val.u32 (by omega) (by omega) ?_
        | with_reducible refine Val.u64 (by omega) (by omega) ?_
        | with_reducible refine Val.u8m ?_
        | with_reducible refine Val.u32m ?_
        | with_reducible refine Val.u64m ?_
        | with_reducible refine Val.shr8 ?_
        | with_reducible refine Val.shr16 (by decide) ?_
        | with_reducible refine Val.shr24 (by decide) ?_
        | with_reducible refine Val.raw ?_
        | refine Branch.not ?_
        | refine Branch.and ?_
        | refine Branch.or ?_
        | refine Branch.dt (by assumption) ?_
        | refine Branch.df (by assumption) ?_
        | refine Branch.dt rfl ?_
        | refine Branch.dt (by omega) ?_
        | refine Branch.df (by omega) ?_
        | refine Branch.t rfl ?_
        | refine Branch.f rfl ?_
        | refine Branch.t (by assumption) ?_
        | refine Branch.f (by assumption) ?_
        | refine Branch.d (fun _ => ?_) (fun _ => ?_)
        | refine Branch.mk (fun _ => ?_) (fun _ => ?_)
        | refine Need.mk (by first | omega | decide | rfl) ?_
        | refine Idx.nat (by omega) ?_
        | refine Idx.auto (by first | omega | decide) (by first | omega | decide) ?_
        | refine Cell.ro rfl ?_
        | refine SDraw.all (by kernel_rfl) ?_
        | refine Kept.k0 ?_
        | refine Kept.k1 ?_
        | refine Kept.k2 ?_
        | refine Kept.k3 ?_
        | refine Kept.k4 ?_))
    all_goals (conv => whnf)
    · exact fin _ true _ (by rw [hs, ‹List.any _ _ = true›]; rfl) .mk rfl
    · exact fin _ an.is _ (by rw [hs, ‹List.any _ _ = false›]; rfl) .mk rfl
  · have e : j = ms.length := by omega
    subst e
    rw [List.take_length, updTo_all (Nat.le_refl _)]
    repeat' ((conv => whnf); (first
        | refine New.mk (fun _ => ?_)
        | refine Look.at0 ?_
        | refine Cell.row ?_
        | refine Cell.buf ?_
        | refine Cells.row rfl ?_
        | refine Put.row rfl ?_
        | refine Put.buf rfl ?_
        | refine Look.at1 ?_
        | refine Look.at2 ?_
        | refine Look.at3 ?_
        | refine Look.at4 ?_
        | refine Look.at5 ?_
        | refine Look.at6 ?_
        | refine Look.at7 ?_
        | refine Look.at8 ?_
        | with_reducible refine Val.i64 (by omega) (by omega) ?_
        | with_reducible refine Val.u8 (by omega) (by omega) ?_
        | with_reducible refine Val.u32 (by omega) (by omega) ?_
        | with_reducible refine Val.u64 (by omega) (by omega) ?_
        | with_reducible refine Val.u8m ?_
        | with_reducible refine Val.u32m ?_
        | with_reducible refine Val.u64m ?_
        | with_reducible refine Val.shr8 ?_
        | with_reducible refine Val.shr16 (by decide) ?_
        | with_reducible refine Val.shr24 (by decide) ?_
        | with_reducible refine Val.raw ?_
        | refine Branch.not ?_
        | refine Branch.and ?_
        | refine Branch.or ?_
        | refine Branch.dt (by assumption) ?_
        | refine Branch.df (by assumption) ?_
        | refine Branch.dt rfl ?_
        | refine Branch.dt (by omega) ?_
        | refine Branch.df (by omega) ?_
        | refine Branch.t rfl ?_
        | refine Branch.f rfl ?_
        | refine Branch.t (by assumption) ?_
        | refine Branch.f (by assumption) ?_
        | refine Branch.d (fun _ => ?_) (fun _ => ?_)
        | refine Branch.mk (fun _ => ?_) (fun _ => ?_)
        | refine Need.mk (by first | omega | decide | rfl) ?_
        | refine Idx.nat (by omega) ?_
        | refine Idx.auto (by first | omega | decide) (by first | omega | decide) ?_
        | refine Cell.ro rfl ?_
        | refine SDraw.all (by kernel_rfl) ?_
        | refine Kept.k0 ?_
        | refine Kept.k1 ?_
        | refine Kept.k2 ?_
        | refine Kept.k3 ?_
        | refine Kept.k4 ?_))
    all_goals (conv => whnf)
    exact Keep.d1 h
end
end Go.Proofs.Ytkegkhhfbfegoaa

/- Layer 20: all slaves of the document take a frame: by walks. -/
set_option linter.unusedVariables false
set_option linter.unusedSimpArgs false
set_option maxRecDepth 100000
set_option maxHeartbeats 4000000
namespace Go.Proofs.Ytkegkhhfbfegoaa
open Sx Ls
section
variable {K : Value → Heap → Prop} {a : Option Addr} {cap : Nat} {Bh : Heap} {q : Q} {ms : List PR}
def I32 (p : Nat) (a : Option Addr) (cap : Nat) (Bh : Heap) (q : Q) (ms : List PR) (S : List Value) (H : Heap) : Prop :=
  ∃ j : Nat, j ≤ ms.length ∧ S32 (.slice a ms.length cap) (.pointer (some ⟨p, 0, none⟩)) (.bool ((ms.take j).any (anR q))) (.int .i64 (j : Int)) S ∧
    H = ((p, .row 55 [.int .u8 q.q0, .int .u8 q.q1, .int .u8 q.q2, .int .u8 q.q3, .int .u8 q.q4, .int .u8 q.q5, .int .u8 q.q6, .int .u8 q.q7] (0, 0)) :: Bh) ++ (updTo (tkR q) j ms).map rwR
theorem c32 (hsl : SlO 42 a cap Bh (ms.map Prod.fst)) (hlen : ms.length ≤ 140737488355328) (hok : ∀ x ∈ ms, x.2.Ok) (hq : q.Ok) (h : K (.bool (ms.any (anR q))) (Bh ++ (ms.map (tkR q)).map rwR)) :
    SCalls Try.prog 32 [.slice a ms.length cap, q.val] (Bh ++ ms.map rwR) K := by
  refine enter32 ?_
  repeat' ((conv => whnf); (first
      | unfold Q.val
      | refine New.mk (fun _ => ?_)
      | refine Look.at0 ?_
      | refine Cell.row ?_
      | refine Cell.buf ?_
      | refine Cells.row rfl ?_
      | refine Put.row rfl ?_
      | refine Put.buf rfl ?_
      | refine Look.at1 ?_
      | refine Look.at2 ?_
      | refine Look.at3 ?_
      | refine Look.at4 ?_
      | refine Look.at5 ?_
      | refine Look.at6 ?_
      | refine Look.at7 ?_
      | refine Look.at8 ?_
      | with_reducible refine Val.i64 (by omega) (by omega) ?_
      | with_reducible refine Val.u8 (by omega) (by omega) ?_
      | with_reducible refine Val.u32 (by omega) (by omega) ?_
      | with_reducible refine Val.u64 (by omega) (by omega) ?_
      | with_reducible refine Val.u8m ?_
      | with_reducible refine Val.u32m ?_
      | with_reducible refine Val.u64m ?_
      | with_reducible refine Val.shr8 ?_
      | with_reducible refine Val.shr16 (by decide) ?_
      | with_reducible refine Val.shr24 (by decide) ?_
      | with_reducible refine Val.raw ?_
      | refine Branch.not ?_
      | refine Branch.and ?_
      | refine Branch.or ?_
      | refine Branch.dt (by assumption) ?_
      | refine Branch.df (by assumption) ?_
      | refine Branch.dt rfl ?_
      | refine Branch.dt (by omega) ?_
      | refine Branch.df (by omega) ?_
      | refine Branch.t rfl ?_
      | refine Branch.f rfl ?_
      | refine Branch.t (by assumption) ?_
      | refine Branch.f (by assumption) ?_
      | refine Branch.d (fun _ => ?_) (fun _ => ?_)
      | refine Branch.mk (fun _ => ?_) (fun _ => ?_)
      | refine Need.mk (by first | omega | decide | rfl) ?_
      | refine Idx.nat (by omega) ?_
      | refine Idx.auto (by first | omega | decide) (by first | omega | decide) ?_
      | refine Cell.ro rfl ?_
      | refine SDraw.all (by kernel_rfl) ?_
      | refine Kept.k0 ?_
      | refine Kept.k1 ?_
      | refine Kept.k2 ?_
      | refine Kept.k3 ?_
      | refine Kept.k4 ?_))
  rename_i p0
  refine SLoop.inv (I32 p0 a cap Bh q ms) (MS 6 ms.length) (Keep.all ⟨0, by omega, .mk, by rw [updTo_zero]; rfl⟩) ?_
  rintro S H ⟨j, hj, hS, rfl⟩ R hR
  cases hS
  by_cases hlt : j < ms.length
  · obtain ⟨x, hx⟩ : ∃ x, ms[j]? = some x := ⟨_, List.getElem?_eq_getElem hlt⟩
    obtain ⟨r, rfl, rfl⟩ := hsl.has (by simpa using (by omega : 0 < ms.length))
    have hp : (ms.map Prod.fst)[j]? = some x.1 := by rw [List.getElem?_map, hx]; rfl
    have hxo := hok x (List.mem_of_getElem? hx)
    have hs := any_succ (p := anR q) hx
    obtain ⟨xa, xl⟩ := x
    obtain ⟨an, l', he⟩ : ∃ an l', xl.take q = (an, l') := ⟨_, _, rfl⟩
    have e1 : anR q (xa, xl) = an.is := by unfold anR; rw [he]
    have e2 : tkR q (xa, xl) = (xa, l') := by unfold tkR; rw [he]
    have e3 := updTo_set (f := tkR q) hx
    rw [e2] at e3
    rw [e1] at hs
    have hcall := fun (K : Value → Heap → Prop) A hk => SCalls.elem (K := K) (rw := rwR) (x' := (xa, l')) (f := 41) (args := [.pointer (some ⟨xa, 0, none⟩), q.val]) (v := an.val) (updTo_nth (f := tkR q) hx) (fun K hk => Ls.c24 xl hxo q hq (by rw [he]; exact hk)) A hk
    rw [e3] at hcall
    clear h
    unfold Q.val at hcall
    have fin : ∀ (S : List Value) (b : Bool) (tb : Nat × Blk), b = (ms.take (j + 1)).any (anR q) → S32 (.slice (some ⟨r, 0, none⟩) ms.length cap) (.pointer (some ⟨p0, 0, none⟩)) (.bool b) (.int .i64 ((j + 1 : Nat) : Int)) S → atS S 6 = j + 1 →
        R S (tb :: (((p0, .row 55 [.int .u8 q.q0, .int .u8 q.q1, .int .u8 q.q2, .int .u8 q.q3, .int .u8 q.q4, .int .u8 q.q5, .int .u8 q.q6, .int .u8 q.q7] (0, 0)) :: [(r, .buf 42 (ptrs (ms.map Prod.fst)) (cap * 1))]) ++ (updTo (tkR q) (j + 1) ms).map rwR)) := by
      rintro S b tb rfl k2 k3
      refine hR _ _ (Keep.d1 ⟨⟨j + 1, by omega, k2, rfl⟩, ?_⟩)
      unfold MS
      rw [k3]
      show ms.length - (j + 1) < ms.length - Int.toNat (j : Int)
      omega
    repeat' ((conv => whnf); (first
        | refine ptr_nth hp ?_
        | refine hcall _ (_ :: [_]) ?_
        | refine hcall _ (_ :: _ :: [_]) ?_
        | refine And.intro ?_ ?_
        | refine SDraw.held (by kernel_rfl) [_, _] (.same (.head _) (.same (.tail _ (.head _)) .nil)) ?_
        | refine Kept.sub (List.Sublist.cons_cons _ (List.Sublist.cons_cons _ (List.nil_sublist _))) ?_
        | refine Kept.sub (List.Sublist.cons _ (List.Sublist.cons_cons _ (List.Sublist.cons_cons _ (List.nil_sublist _)))) ?_
        | refine New.mk (fun _ => ?_)
        | refine Look.at0 ?_
        | refine Cell.row ?_
        | refine Cell.buf ?_
        | refine Cells.row rfl ?_
        | refine Put.row rfl ?_
        | refine Put.buf rfl ?_
        | refine Look.at1 ?_
        | refine Look.at2 ?_
        | refine Look.at3 ?_
        | refine Look.at4 ?_
        | refine Look.at5 ?_
        | refine Look.at6 ?_
        | refine Look.at7 ?_
        | refine Look.at8 ?_
        | with_reducible refine Val.i64 (by omega) (by omega) ?_
        | with_reducible refine Val.u8 (by omega) (by omega) ?_
        | with_reducible refine Val.u32 (by omega) (by omega) ?_
        | with_reducible refine Val.u64 (by omega) (by omega) ?_
        | with_reducible refine Val.u8m ?_
        | with_reducible refine Val.u32m ?_
        | with_reducible refine Val.u64m ?_
        | with_reducible refine Val.shr8 ?_
        | with_reducible refine Val.shr16 (by decide) ?_
        | with_reducible refine Val.shr24 (by decide) ?_
        | with_reducible refine Val.raw ?_
        | refine Branch.not ?_
        | refine Branch.and ?_
        | refine Branch.or ?_
        | refine Branch.dt (by assumption) ?_
        | refine Branch.df (by assumption) ?_
        | refine Branch.dt rfl ?_
        | refine Branch.dt (by omega) ?_
        | refine Branch.df (by omega) ?_
        | refine Branch.t rfl ?_
        | refine Branch.f rfl ?_
        | refine Branch.t (by assumption) ?_
        | refine Branch.f (by assumption) ?_
        | refine Branch.d (fun _ => ?_) (fun _ => ?_)
        | refine Branch.mk (fun _ => ?_) (fun _ => ?_)
        | refine Need.mk (by first | omega | decide | rfl) ?_
        | refine Idx.nat (by omega) ?_
        | refine Idx.auto (by first | omega | decide) (by first | omega | decide) ?_
        | refine Cell.ro rfl ?_
        | refine SDraw.all (by kernel_rfl) ?_
        | refine Kept.k0 ?_
        | refine Kept.k1 ?_
        | refine Kept.k2 ?_
        | refine Kept.k3 ?_
        | refine Kept.k4 ?_))
    all_goals (conv => whnf)
    all_goals first
      | exact fin _ true _ (by rw [hs, ‹an.is = true›, Bool.or_true]) .mk rfl
      | exact fin _ _ _ (by rw [hs, ‹an.is = false›, Bool.or_false]) .mk rfl
      | trace_state
  · have e : j = ms.length := by omega
    subst e
    rw [List.take_length, updTo_all (Nat.le_refl _)]
    repeat' ((conv => whnf); (first
        | refine New.mk (fun _ => ?_)
        | refine Look.at0 ?_
        | refine Cell.row ?_
        | refine Cell.buf ?_
        | refine Cells.row rfl ?_
        | refine Put.row rfl ?_
        | refine Put.buf rfl ?_
        | refine Look.at1 ?_
        | refine Look.at2 ?_
        | refine Look.at3 ?_
        | refine Look.at4 ?_
        | refine Look.at5 ?_
        | refine Look.at6 ?_
        | refine Look.at7 ?_
        | refine Look.at8 ?_
        | with_reducible refine Val.i64 (by omega) (by omega) ?_
        | with_reducible refine Val.u8 (by omega) (by omega) ?_
        | with_reducible refine Val.u32 (by omega) (by omega) ?_
        | with_reducible refine Val.u64 (by omega) (by omega) ?_
        | with_reducible refine Val.u8m ?_
        | with_reducible refine Val.u32m ?_
        | with_reducible refine Val.u64m ?_
        | with_reducible refine Val.shr8 ?_
        | with_reducible refine Val.shr16 (by decide) ?_
        | with_reducible refine Val.shr24 (by decide) ?_
        | with_reducible refine Val.raw ?_
        | refine Branch.not ?_
        | refine Branch.and ?_
        | refine Branch.or ?_
        | refine Branch.dt (by assumption) ?_
        | refine Branch.df (by assumption) ?_
        | refine Branch.dt rfl ?_
        | refine Branch.dt (by omega) ?_
        | refine Branch.df (by omega) ?_
        | refine Branch.t rfl ?_
        | refine Branch.f rfl ?_
        | refine Branch.t (by assumption) ?_
        | refine Branch.f (by assumption) ?_
        | refine Branch.d (fun _ => ?_) (fun _ => ?_)
        | refine Branch.mk (fun _ => ?_) (fun _ => ?_)
        | refine Need.mk (by first | omega | decide | rfl) ?_
        | refine Idx.nat (by omega) ?_
        | refine Idx.auto (by first | omega | decide) (by first | omega | decide) ?_
        | refine Cell.ro rfl ?_
        | refine SDraw.all (by kernel_rfl) ?_
        | refine Kept.k0 ?_
        | refine Kept.k1 ?_
        | refine Kept.k2 ?_
        | refine Kept.k3 ?_
        | refine Kept.k4 ?_))
    all_goals (conv => whnf)
    exact Keep.d1 h
end
end Go.Proofs.Ytkegkhhfbfegoaa

/- Layer 20: one scan, to its end: by walks. -/
set_option linter.unusedVariables false
set_option linter.unusedSimpArgs false
set_option maxRecDepth 100000
set_option maxHeartbeats 4000000
namespace Go.Proofs.Ytkegkhhfbfegoaa
open Sx Ls
/-- A round of a scan: what it asks is taken by all, and it takes whether anybody answered. -/
def askd (s : Sc) : Sc := { s with asked := true }
def stepL (s : Sc) (ms : List PL) : Sc × List PL := ((askd s).ans (ms.any (anL s.q)), ms.map (tkL s.q))
def stepR (s : Sc) (ms : List PR) : Sc × List PR := ((askd s).ans (ms.any (anR s.q)), ms.map (tkR s.q))
def runL : Nat → Sc → List PL → Sc × List PL
  | 0, s, ms => (s, ms)
  | n + 1, s, ms => if s.ph = 3 then (s, ms) else runL n (stepL s ms).1 (stepL s ms).2
def runR : Nat → Sc → List PR → Sc × List PR
  | 0, s, ms => (s, ms)
  | n + 1, s, ms => if s.ph = 3 then (s, ms) else runR n (stepR s ms).1 (stepR s ms).2
theorem took_step {s : Sc} (h : s.ph ≠ 3) (b : Bool) : ((askd s).ans b).took = s.took + 1 := by
  unfold askd Sc.ans Sc.put
  simp only [Bool.true_eq_false, if_false]
  (repeat' split) <;> rfl
theorem Sc.Ok.q_ok {s : Sc} (hs : s.Ok) (h3 : s.ph ≠ 3) : s.q.Ok ∧ s.q.q0 = 81 := by
  have hk : ∀ p, 0 ≤ s.kn p ∧ s.kn p ≤ 4294967295 := fun p => by
    unfold Sc.kn
    (repeat' split)
    · exact hs.r0
    · exact hs.r1
    · exact hs.r2
    · exact hs.r3
  have hkp := hk s.pa
  unfold Sc.q
  rcases hs.st with ⟨h, _⟩ | ⟨h, h1, h2, h5, h4, _⟩ | ⟨h, h1, h2, _⟩ | ⟨h, _⟩
  · rw [if_pos h]; exact ⟨⟨by decide, by decide, by decide, by decide, by decide, by decide, by decide, by decide⟩, rfl⟩
  · rw [if_neg (by omega), if_pos h]
    exact ⟨⟨by show (0 : Int) ≤ 81 ∧ (81 : Int) ≤ 255; omega, by show 0 ≤ s.kn s.pa % 256 ∧ s.kn s.pa % 256 ≤ 255; omega, by show 0 ≤ s.kn s.pa / 256 % 256 ∧ s.kn s.pa / 256 % 256 ≤ 255; omega, by show 0 ≤ s.kn s.pa / 65536 % 256 ∧ s.kn s.pa / 65536 % 256 ≤ 255; omega, by show 0 ≤ s.kn s.pa / 16777216 ∧ s.kn s.pa / 16777216 ≤ 255; omega, by show 0 ≤ s.bi ∧ s.bi ≤ 255; omega, by show 0 ≤ s.pa ∧ s.pa ≤ 255; omega, by show 0 ≤ s.pa ∧ s.pa ≤ 255; omega⟩, rfl⟩
  · rw [if_neg (by omega), if_neg (by omega)]
    exact ⟨⟨by show (0 : Int) ≤ 81 ∧ (81 : Int) ≤ 255; omega, by show 0 ≤ s.kn s.pa % 256 ∧ s.kn s.pa % 256 ≤ 255; omega, by show 0 ≤ s.kn s.pa / 256 % 256 ∧ s.kn s.pa / 256 % 256 ≤ 255; omega, by show 0 ≤ s.kn s.pa / 65536 % 256 ∧ s.kn s.pa / 65536 % 256 ≤ 255; omega, by show 0 ≤ s.kn s.pa / 16777216 ∧ s.kn s.pa / 16777216 ≤ 255; omega, by show (0 : Int) ≤ 0 ∧ (0 : Int) ≤ 255; omega, by show 0 ≤ s.pa ∧ s.pa ≤ 255; omega, by show 0 ≤ (s.pa + 1) % 4 ∧ (s.pa + 1) % 4 ≤ 255; omega⟩, rfl⟩
  · exact absurd h h3
end Go.Proofs.Ytkegkhhfbfegoaa

/- Layer 20: one scan, to its end: by walks. -/
set_option linter.unusedVariables false
set_option linter.unusedSimpArgs false
set_option maxRecDepth 100000
set_option maxHeartbeats 4000000
namespace Go.Proofs.Ytkegkhhfbfegoaa
open Sx Ls
theorem tkL_ok {q : Q} (hq : q.Ok) {ms : List PL} (h : ∀ x ∈ ms, x.2.Ok) : ∀ x ∈ ms.map (tkL q), x.2.Ok := by
  intro x hx
  obtain ⟨y, hy, rfl⟩ := List.mem_map.1 hx
  exact Ls.take_ok y.2 (h y hy) q hq
theorem tkL_fst (q : Q) (ms : List PL) : (ms.map (tkL q)).map Prod.fst = ms.map Prod.fst := by
  rw [List.map_map]; rfl
abbrev qrow (q : Q) : Blk := .row 55 [.int .u8 q.q0, .int .u8 q.q1, .int .u8 q.q2, .int .u8 q.q3, .int .u8 q.q4, .int .u8 q.q5, .int .u8 q.q6, .int .u8 q.q7] (0, 0)
abbrev z34 : Blk := .row 34 [.int .u32 0, .int .u32 0, .int .u32 0, .int .u32 0] (0, 0)
abbrev ptr (g : Nat) : Value := .pointer (some ⟨g, 0, none⟩)
abbrev Sc.adr (s : Sc) : Value := .agg ⟨[.int .u32 s.k0, .int .u32 s.k1, .int .u32 s.k2, .int .u32 s.k3]⟩
inductive S29 (A0 A2 A4 A5 A6 : Value) : List Value → Prop
  | mk {r1 r3 r7 r8 r9 r10 r11 r12 r13 r14 r15 r16 r17 r18 r19 r20 r21 r22 r23 r24 r25 r26 r27 r28 r29 r30 r31 r32 : Value} : S29 A0 A2 A4 A5 A6 [A0, r1, A2, r3, A4, A5, A6, r7, r8, r9, r10, r11, r12, r13, r14, r15, r16, r17, r18, r19, r20, r21, r22, r23, r24, r25, r26, r27, r28, r29, r30, r31, r32]
structure T29 where
  (n : Nat) (s : Sc) (ms : List PL) (pq : Nat) (q : Q)
def I29 (a : Option Addr) (cap : Nat) (Bh : Heap) (ad : List Nat) (T : Sc × List PL) (p2 gs : Nat) (x : T29) (S : List Value) (H : Heap) : Prop :=
  x.s.Ok ∧ x.s.took = (x.n : Int) ∧ x.ms.map Prod.fst = ad ∧ (∀ y ∈ x.ms, y.2.Ok) ∧ runL (134 - x.n) x.s x.ms = T ∧
   ((x.s.ph = 3 ∧ S29 (.slice a x.ms.length cap) (ptr p2) (ptr gs) (ptr x.pq) (.bool false) S ∧ H = (x.pq, qrow x.q) :: (gs, x.s.row) :: (p2, z34) :: (Bh ++ x.ms.map rwL)) ∨
    (x.s.ph ≠ 3 ∧ x.q = x.s.q ∧ S29 (.slice a x.ms.length cap) (ptr p2) (ptr gs) (ptr x.pq) (.bool true) S ∧ H = (x.pq, qrow x.q) :: (gs, (askd x.s).row) :: (p2, z34) :: (Bh ++ x.ms.map rwL)))
def scanL (ms : List PL) : Sc × List PL := runL 134 Sc.new ms
section
variable {K : Value → Heap → Prop} {a : Option Addr} {cap : Nat} {Bh : Heap} {ms : List PL}
theorem c29 (hsl : SlO 38 a cap Bh (ms.map Prod.fst)) (hlen : ms.length ≤ 140737488355328) (hok : ∀ x ∈ ms, x.2.Ok) (h : K (.tuple ⟨[(scanL ms).1.adr, .bool (scanL ms).1.found]⟩) (Bh ++ (scanL ms).2.map rwL)) :
    SCalls Try.prog 29 [.slice a ms.length cap] (Bh ++ ms.map rwL) K := by
  refine enter29 ?_
  repeat' ((conv => whnf); (first
      | refine c17 (fun gs => ?_)
      | refine SCalls.at0 (c20 Sc.Ok.new (fun h3 => by cases h3) (fun h3 => ?_))
      | refine New.mk (fun _ => ?_)
      | refine Look.at0 ?_
      | refine Cell.row ?_
      | refine Cell.buf ?_
      | refine Cells.row rfl ?_
      | refine Put.row rfl ?_
      | refine Put.buf rfl ?_
      | refine Look.at1 ?_
      | refine Look.at2 ?_
      | refine Look.at3 ?_
      | refine Look.at4 ?_
      | refine Look.at5 ?_
      | refine Look.at6 ?_
      | refine Look.at7 ?_
      | refine Look.at8 ?_
      | with_reducible refine Val.i64 (by omega) (by omega) ?_
      | with_reducible refine Val.u8 (by omega) (by omega) ?_
      | with_reducible refine Val.u32 (by omega) (by omega) ?_
      | with_reducible refine Val.u64 (by omega) (by omega) ?_
      | with_reducible refine Val.u8m ?_
      | with_reducible refine Val.u32m ?_
      | with_reducible refine Val.u64m ?_
      | with_reducible refine Val.shr8 ?_
      | with_reducible refine Val.shr16 (by decide) ?_
      | with_reducible refine Val.shr24 (by decide) ?_
      | with_reducible refine Val.raw ?_
      | refine Branch.not ?_
      | refine Branch.and ?_
      | refine Branch.or ?_
      | refine Branch.dt (by assumption) ?_
      | refine Branch.df (by assumption) ?_
      | refine Branch.dt rfl ?_
      | refine Branch.dt (by omega) ?_
      | refine Branch.df (by omega) ?_
      | refine Branch.t rfl ?_
      | refine Branch.f rfl ?_
      | refine Branch.t (by assumption) ?_
      | refine Branch.f (by assumption) ?_
      | refine Branch.d (fun _ => ?_) (fun _ => ?_)
      | refine Branch.mk (fun _ => ?_) (fun _ => ?_)
      | refine Need.mk (by first | omega | decide | rfl) ?_
      | refine Idx.nat (by omega) ?_
      | refine Idx.auto (by first | omega | decide) (by first | omega | decide) ?_
      | refine Cell.ro rfl ?_
      | refine SDraw.all (by kernel_rfl) ?_
      | refine Kept.k0 ?_
      | refine Kept.k1 ?_
      | refine Kept.k2 ?_
      | refine Kept.k3 ?_
      | refine Kept.k4 ?_))
  all_goals (conv => whnf)
  rename_i p2 pq
  refine SLoop.invA (I29 a cap Bh (ms.map Prod.fst) (scanL ms) p2 gs) (fun x => 134 - x.n) ⟨0, Sc.new, ms, pq, Sc.new.q⟩ (Keep.all ⟨Sc.Ok.new, rfl, rfl, hok, rfl, .inr ⟨by show (0 : Int) ≠ 3; decide, rfl, .mk, rfl⟩⟩) ?_
  rintro ⟨n, s, ms', pq', q⟩ S H ⟨hs, htk, hfst, hok', hrun, hcase⟩ R hR
  dsimp only at hs htk hfst hok' hrun hcase hR
  have hlm : ms'.length = ms.length := by have := congrArg List.length hfst; simpa using this
  rcases hcase with ⟨h3, hS, rfl⟩ | ⟨h3, rfl, hS, rfl⟩
  · cases hS
    obtain ⟨k, hk⟩ : ∃ k, 134 - n = k + 1 := ⟨133 - n, by have := hs.tk; omega⟩
    rw [hk, runL, if_pos h3] at hrun
    rw [← hrun] at h
    dsimp only at h
    unfold Sc.row
    repeat' ((conv => whnf); (first
        | refine SDraw.held (by kernel_rfl) [_] (.same (.tail _ (.head _)) .nil) ?_
        | refine Kept.sub (List.Sublist.cons _ (List.Sublist.cons_cons _ (List.nil_sublist _))) ?_
        | refine New.mk (fun _ => ?_)
        | refine Look.at0 ?_
        | refine Cell.row ?_
        | refine Cell.buf ?_
        | refine Cells.row rfl ?_
        | refine Put.row rfl ?_
        | refine Put.buf rfl ?_
        | refine Look.at1 ?_
        | refine Look.at2 ?_
        | refine Look.at3 ?_
        | refine Look.at4 ?_
        | refine Look.at5 ?_
        | refine Look.at6 ?_
        | refine Look.at7 ?_
        | refine Look.at8 ?_
        | with_reducible refine Val.i64 (by omega) (by omega) ?_
        | with_reducible refine Val.u8 (by omega) (by omega) ?_
        | with_reducible refine Val.u32 (by omega) (by omega) ?_
        | with_reducible refine Val.u64 (by omega) (by omega) ?_
        | with_reducible refine Val.u8m ?_
        | with_reducible refine Val.u32m ?_
        | with_reducible refine Val.u64m ?_
        | with_reducible refine Val.shr8 ?_
        | with_reducible refine Val.shr16 (by decide) ?_
        | with_reducible refine Val.shr24 (by decide) ?_
        | with_reducible refine Val.raw ?_
        | refine Branch.not ?_
        | refine Branch.and ?_
        | refine Branch.or ?_
        | refine Branch.dt (by assumption) ?_
        | refine Branch.df (by assumption) ?_
        | refine Branch.dt rfl ?_
        | refine Branch.dt (by omega) ?_
        | refine Branch.df (by omega) ?_
        | refine Branch.t rfl ?_
        | refine Branch.f rfl ?_
        | refine Branch.t (by assumption) ?_
        | refine Branch.f (by assumption) ?_
        | refine Branch.d (fun _ => ?_) (fun _ => ?_)
        | refine Branch.mk (fun _ => ?_) (fun _ => ?_)
        | refine Need.mk (by first | omega | decide | rfl) ?_
        | refine Idx.nat (by omega) ?_
        | refine Idx.auto (by first | omega | decide) (by first | omega | decide) ?_
        | refine Cell.ro rfl ?_
        | refine SDraw.all (by kernel_rfl) ?_
        | refine Kept.k0 ?_
        | refine Kept.k1 ?_
        | refine Kept.k2 ?_
        | refine Kept.k3 ?_
        | refine Kept.k4 ?_))
    all_goals (conv => whnf)
    exact Keep.d3 h
  · cases hS
    have hs1 := hs.ask h3
    obtain ⟨hq, hq0⟩ := hs.q_ok h3
    have hn : n ≤ 133 := by have := hs.tk; omega
    obtain ⟨k, hk⟩ : ∃ k, 134 - n = k + 1 := ⟨133 - n, by omega⟩
    rw [hk, runL, if_neg h3] at hrun
    have htk2 := took_step h3 (ms'.any (anL s.q))
    have hs2 : (stepL s ms').1.Ok := hs1.ans _
    have hn2 : n + 1 ≤ 133 := by
      have := hs2.tk
      have e : (stepL s ms').1.took = s.took + 1 := htk2
      omega
    have hk2 : k = 134 - (n + 1) := by omega
    rw [hk2] at hrun
    have hsl' : SlO 38 a cap Bh (ms'.map Prod.fst) := by rw [hfst]; exact hsl
    clear h hok
    repeat' ((conv => whnf); (first
        | refine SCalls.under [_, _, _] (c30 (q := s.q) hsl' (by omega) hok' hq (by omega) ?_)
        | refine SCalls.at1 (c18 hs1 _ ?_)
        | refine SCalls.at2 (c20 hs2 (fun g3 => ?_) (fun g3 => ?_))
        | refine New.mk (fun _ => ?_)
        | refine Look.at0 ?_
        | refine Cell.row ?_
        | refine Cell.buf ?_
        | refine Cells.row rfl ?_
        | refine Put.row rfl ?_
        | refine Put.buf rfl ?_
        | refine Look.at1 ?_
        | refine Look.at2 ?_
        | refine Look.at3 ?_
        | refine Look.at4 ?_
        | refine Look.at5 ?_
        | refine Look.at6 ?_
        | refine Look.at7 ?_
        | refine Look.at8 ?_
        | with_reducible refine Val.i64 (by omega) (by omega) ?_
        | with_reducible refine Val.u8 (by omega) (by omega) ?_
        | with_reducible refine Val.u32 (by omega) (by omega) ?_
        | with_reducible refine Val.u64 (by omega) (by omega) ?_
        | with_reducible refine Val.u8m ?_
        | with_reducible refine Val.u32m ?_
        | with_reducible refine Val.u64m ?_
        | with_reducible refine Val.shr8 ?_
        | with_reducible refine Val.shr16 (by decide) ?_
        | with_reducible refine Val.shr24 (by decide) ?_
        | with_reducible refine Val.raw ?_
        | refine Branch.not ?_
        | refine Branch.and ?_
        | refine Branch.or ?_
        | refine Branch.dt (by assumption) ?_
        | refine Branch.df (by assumption) ?_
        | refine Branch.dt rfl ?_
        | refine Branch.dt (by omega) ?_
        | refine Branch.df (by omega) ?_
        | refine Branch.t rfl ?_
        | refine Branch.f rfl ?_
        | refine Branch.t (by assumption) ?_
        | refine Branch.f (by assumption) ?_
        | refine Branch.d (fun _ => ?_) (fun _ => ?_)
        | refine Branch.mk (fun _ => ?_) (fun _ => ?_)
        | refine Need.mk (by first | omega | decide | rfl) ?_
        | refine Idx.nat (by omega) ?_
        | refine Idx.auto (by first | omega | decide) (by first | omega | decide) ?_
        | refine Cell.ro rfl ?_
        | refine SDraw.all (by kernel_rfl) ?_
        | refine Kept.k0 ?_
        | refine Kept.k1 ?_
        | refine Kept.k2 ?_
        | refine Kept.k3 ?_
        | refine Kept.k4 ?_))
    all_goals (conv => whnf)
    · refine hR ⟨n + 1, (stepL s ms').1, (stepL s ms').2, _, ⟨0, 0, 0, 0, 0, 0, 0, 0⟩⟩ _ _ (by show 134 - (n + 1) < 134 - n; omega) (Keep.sub _ (List.Sublist.cons_cons _ (List.Sublist.cons _ (List.Sublist.refl _))) ⟨hs2, ?_, ?_, tkL_ok hq hok', hrun, .inl ⟨g3, ?_, rfl⟩⟩)
      · show (stepL s ms').1.took = _
        rw [show (stepL s ms').1.took = s.took + 1 from htk2, htk]; rfl
      · exact (tkL_fst _ _).trans hfst
      · show S29 (.slice a (ms'.map (tkL s.q)).length cap) _ _ _ _ _
        rw [List.length_map]; exact .mk
    · refine hR ⟨n + 1, (stepL s ms').1, (stepL s ms').2, _, (stepL s ms').1.q⟩ _ _ (by show 134 - (n + 1) < 134 - n; omega) (Keep.sub _ (List.Sublist.cons_cons _ (List.Sublist.cons _ (List.Sublist.refl _))) ⟨hs2, ?_, ?_, tkL_ok hq hok', hrun, .inr ⟨g3, rfl, ?_, rfl⟩⟩)
      · show (stepL s ms').1.took = _
        rw [show (stepL s ms').1.took = s.took + 1 from htk2, htk]; rfl
      · exact (tkL_fst _ _).trans hfst
      · show S29 (.slice a (ms'.map (tkL s.q)).length cap) _ _ _ _ _
        rw [List.length_map]; exact .mk
end
end Go.Proofs.Ytkegkhhfbfegoaa

/- Layer 20: what is wrong with slaves and numbers: by walks. -/
set_option linter.unusedVariables false
set_option linter.unusedSimpArgs false
set_option maxRecDepth 100000
set_option maxHeartbeats 4000000
namespace Go.Proofs.Ytkegkhhfbfegoaa
open Sx Ls
abbrev cI (n : Int) : List Value := [.int .i64 n]
abbrev cP (r : Nat) : List Value := [ptr r]
inductive S43 (A0 A1 A7 A8 : Value) : List Value → Prop
  | mk {r2 r3 r4 r5 r6 r9 r10 r11 r12 r13 r14 r15 r16 r17 r18 : Value} : S43 A0 A1 A7 A8 [A0, A1, r2, r3, r4, r5, r6, A7, A8, r9, r10, r11, r12, r13, r14, r15, r16, r17, r18]
section
variable {K : Value → Heap → Prop} {sv : Value} {H : Heap} {ad : List Nat} {xs : List Int}
def I43 (sv : Value) (H : Heap) (n : Nat) (j : Nat) (S : List Value) (H' : Heap) : Prop := j ≤ n ∧ H' = H ∧ S43 sv (.pointer none) (.int .i64 (n : Int)) (.int .i64 (j : Int)) S
/-- None of the slaves is nil. -/
theorem c43 (hin : InS cP 1 sv H ad) (h : K (.int .i64 (-1)) H) : SCalls Try.prog 43 [sv, .pointer none] H K := by
  obtain ⟨sa, sc, rfl, hml⟩ := hin.sv
  refine enter43 ?_
  repeat' ((conv => whnf); (first
      | refine New.mk (fun _ => ?_)
      | refine Look.at0 ?_
      | refine Cell.row ?_
      | refine Cell.buf ?_
      | refine Cells.row rfl ?_
      | refine Put.row rfl ?_
      | refine Put.buf rfl ?_
      | refine Look.at1 ?_
      | refine Look.at2 ?_
      | refine Look.at3 ?_
      | refine Look.at4 ?_
      | refine Look.at5 ?_
      | refine Look.at6 ?_
      | refine Look.at7 ?_
      | refine Look.at8 ?_
      | with_reducible refine Val.i64 (by omega) (by omega) ?_
      | with_reducible refine Val.u8 (by omega) (by omega) ?_
      | with_reducible refine Val.u32 (by omega) (by omega) ?_
      | with_reducible refine Val.u64 (by omega) (by omega) ?_
      | with_reducible refine Val.u8m ?_
      | with_reducible refine Val.u32m ?_
      | with_reducible refine Val.u64m ?_
      | with_reducible refine Val.shr8 ?_
      | with_reducible refine Val.shr16 (by decide) ?_
      | with_reducible refine Val.shr24 (by decide) ?_
      | with_reducible refine Val.raw ?_
      | refine Branch.not ?_
      | refine Branch.and ?_
      | refine Branch.or ?_
      | refine Branch.dt (by assumption) ?_
      | refine Branch.df (by assumption) ?_
      | refine Branch.dt rfl ?_
      | refine Branch.dt (by omega) ?_
      | refine Branch.df (by omega) ?_
      | refine Branch.t rfl ?_
      | refine Branch.f rfl ?_
      | refine Branch.t (by assumption) ?_
      | refine Branch.f (by assumption) ?_
      | refine Branch.d (fun _ => ?_) (fun _ => ?_)
      | refine Branch.mk (fun _ => ?_) (fun _ => ?_)
      | refine Need.mk (by first | omega | decide | rfl) ?_
      | refine Idx.nat (by omega) ?_
      | refine Idx.auto (by first | omega | decide) (by first | omega | decide) ?_
      | refine Cell.ro rfl ?_
      | refine SDraw.all (by kernel_rfl) ?_
      | refine Kept.k0 ?_
      | refine Kept.k1 ?_
      | refine Kept.k2 ?_
      | refine Kept.k3 ?_
      | refine Kept.k4 ?_))
  refine SLoop.invA (I43 (.slice sa ad.length sc) H ad.length) (fun j => ad.length - j) 0 (Keep.all ⟨by omega, rfl, .mk⟩) ?_
  rintro j S H' ⟨hj, rfl, hS⟩ R hR
  cases hS
  have hml' : ad.length ≤ 9223372036854775807 := by simp only [maxLen] at hml; omega
  by_cases hlt : j < ad.length
  · obtain ⟨r, o, c, b, e1, hm, hc⟩ := hin.at1 (List.getElem?_eq_getElem hlt) rfl
    injection e1 with e1 _ e3
    subst e1
    clear h
    repeat' ((conv => whnf); (first
        | refine Look.cell hm hc ?_
        | refine New.mk (fun _ => ?_)
        | refine Look.at0 ?_
        | refine Cell.row ?_
        | refine Cell.buf ?_
        | refine Cells.row rfl ?_
        | refine Put.row rfl ?_
        | refine Put.buf rfl ?_
        | refine Look.at1 ?_
        | refine Look.at2 ?_
        | refine Look.at3 ?_
        | refine Look.at4 ?_
        | refine Look.at5 ?_
        | refine Look.at6 ?_
        | refine Look.at7 ?_
        | refine Look.at8 ?_
        | with_reducible refine Val.i64 (by omega) (by omega) ?_
        | with_reducible refine Val.u8 (by omega) (by omega) ?_
        | with_reducible refine Val.u32 (by omega) (by omega) ?_
        | with_reducible refine Val.u64 (by omega) (by omega) ?_
        | with_reducible refine Val.u8m ?_
        | with_reducible refine Val.u32m ?_
        | with_reducible refine Val.u64m ?_
        | with_reducible refine Val.shr8 ?_
        | with_reducible refine Val.shr16 (by decide) ?_
        | with_reducible refine Val.shr24 (by decide) ?_
        | with_reducible refine Val.raw ?_
        | refine Branch.not ?_
        | refine Branch.and ?_
        | refine Branch.or ?_
        | refine Branch.dt (by assumption) ?_
        | refine Branch.df (by assumption) ?_
        | refine Branch.dt rfl ?_
        | refine Branch.dt (by omega) ?_
        | refine Branch.df (by omega) ?_
        | refine Branch.t rfl ?_
        | refine Branch.f rfl ?_
        | refine Branch.t (by assumption) ?_
        | refine Branch.f (by assumption) ?_
        | refine Branch.d (fun _ => ?_) (fun _ => ?_)
        | refine Branch.mk (fun _ => ?_) (fun _ => ?_)
        | refine Need.mk (by first | omega | decide | rfl) ?_
        | refine Idx.nat (by omega) ?_
        | refine Idx.auto (by first | omega | decide) (by first | omega | decide) ?_
        | refine Cell.ro rfl ?_
        | refine SDraw.all (by kernel_rfl) ?_
        | refine Kept.k0 ?_
        | refine Kept.k1 ?_
        | refine Kept.k2 ?_
        | refine Kept.k3 ?_
        | refine Kept.k4 ?_))
    all_goals (conv => whnf)
    exact hR (j + 1) _ _ (by omega) (Keep.all ⟨by omega, rfl, .mk⟩)
  · repeat' ((conv => whnf); (first
        | refine New.mk (fun _ => ?_)
        | refine Look.at0 ?_
        | refine Cell.row ?_
        | refine Cell.buf ?_
        | refine Cells.row rfl ?_
        | refine Put.row rfl ?_
        | refine Put.buf rfl ?_
        | refine Look.at1 ?_
        | refine Look.at2 ?_
        | refine Look.at3 ?_
        | refine Look.at4 ?_
        | refine Look.at5 ?_
        | refine Look.at6 ?_
        | refine Look.at7 ?_
        | refine Look.at8 ?_
        | with_reducible refine Val.i64 (by omega) (by omega) ?_
        | with_reducible refine Val.u8 (by omega) (by omega) ?_
        | with_reducible refine Val.u32 (by omega) (by omega) ?_
        | with_reducible refine Val.u64 (by omega) (by omega) ?_
        | with_reducible refine Val.u8m ?_
        | with_reducible refine Val.u32m ?_
        | with_reducible refine Val.u64m ?_
        | with_reducible refine Val.shr8 ?_
        | with_reducible refine Val.shr16 (by decide) ?_
        | with_reducible refine Val.shr24 (by decide) ?_
        | with_reducible refine Val.raw ?_
        | refine Branch.not ?_
        | refine Branch.and ?_
        | refine Branch.or ?_
        | refine Branch.dt (by assumption) ?_
        | refine Branch.df (by assumption) ?_
        | refine Branch.dt rfl ?_
        | refine Branch.dt (by omega) ?_
        | refine Branch.df (by omega) ?_
        | refine Branch.t rfl ?_
        | refine Branch.f rfl ?_
        | refine Branch.t (by assumption) ?_
        | refine Branch.f (by assumption) ?_
        | refine Branch.d (fun _ => ?_) (fun _ => ?_)
        | refine Branch.mk (fun _ => ?_) (fun _ => ?_)
        | refine Need.mk (by first | omega | decide | rfl) ?_
        | refine Idx.nat (by omega) ?_
        | refine Idx.auto (by first | omega | decide) (by first | omega | decide) ?_
        | refine Cell.ro rfl ?_
        | refine SDraw.all (by kernel_rfl) ?_
        | refine Kept.k0 ?_
        | refine Kept.k1 ?_
        | refine Kept.k2 ?_
        | refine Kept.k3 ?_
        | refine Kept.k4 ?_))
    all_goals (conv => whnf)
    exact Keep.all h
theorem c40 (hin : InS cP 1 sv H ad) (h : K (.bool false) H) : SCalls Try.prog 40 [sv, .pointer none] H K := by
  refine enter40 ?_
  obtain ⟨sa, sc, rfl, hml⟩ := hin.sv
  repeat' ((conv => whnf); (first
      | refine c43 hin ?_
      | refine New.mk (fun _ => ?_)
      | refine Look.at0 ?_
      | refine Cell.row ?_
      | refine Cell.buf ?_
      | refine Cells.row rfl ?_
      | refine Put.row rfl ?_
      | refine Put.buf rfl ?_
      | refine Look.at1 ?_
      | refine Look.at2 ?_
      | refine Look.at3 ?_
      | refine Look.at4 ?_
      | refine Look.at5 ?_
      | refine Look.at6 ?_
      | refine Look.at7 ?_
      | refine Look.at8 ?_
      | with_reducible refine Val.i64 (by omega) (by omega) ?_
      | with_reducible refine Val.u8 (by omega) (by omega) ?_
      | with_reducible refine Val.u32 (by omega) (by omega) ?_
      | with_reducible refine Val.u64 (by omega) (by omega) ?_
      | with_reducible refine Val.u8m ?_
      | with_reducible refine Val.u32m ?_
      | with_reducible refine Val.u64m ?_
      | with_reducible refine Val.shr8 ?_
      | with_reducible refine Val.shr16 (by decide) ?_
      | with_reducible refine Val.shr24 (by decide) ?_
      | with_reducible refine Val.raw ?_
      | refine Branch.not ?_
      | refine Branch.and ?_
      | refine Branch.or ?_
      | refine Branch.dt (by assumption) ?_
      | refine Branch.df (by assumption) ?_
      | refine Branch.dt rfl ?_
      | refine Branch.dt (by omega) ?_
      | refine Branch.df (by omega) ?_
      | refine Branch.t rfl ?_
      | refine Branch.f rfl ?_
      | refine Branch.t (by assumption) ?_
      | refine Branch.f (by assumption) ?_
      | refine Branch.d (fun _ => ?_) (fun _ => ?_)
      | refine Branch.mk (fun _ => ?_) (fun _ => ?_)
      | refine Need.mk (by first | omega | decide | rfl) ?_
      | refine Idx.nat (by omega) ?_
      | refine Idx.auto (by first | omega | decide) (by first | omega | decide) ?_
      | refine Cell.ro rfl ?_
      | refine SDraw.all (by kernel_rfl) ?_
      | refine Kept.k0 ?_
      | refine Kept.k1 ?_
      | refine Kept.k2 ?_
      | refine Kept.k3 ?_
      | refine Kept.k4 ?_))
  all_goals (conv => whnf)
  exact Keep.all h
/-- Whether a number is wrong: too small, too great, or there ahead. -/
def badIds : List Int → List Int → Bool
  | _, [] => false
  | seen, x :: r => if x < 1 then true else if 127 < x then true else if x ∈ seen then true else badIds (seen ++ [x]) r
def chk28 (xs : List Int) (n : Nat) : Int := if badIds [] xs = true then 1 else if 127 < n then 2 else 0
inductive S28 (A0 A1 A5 A9 A10 A11 : Value) : List Value → Prop
  | mk {r2 r3 r4 r6 r7 r8 r12 r13 r14 r15 r16 r17 r18 r19 r20 r21 r22 r23 r24 r25 r26 r27 r28 r29 r30 r31 r32 r33 r34 r35 : Value} : S28 A0 A1 A5 A9 A10 A11 [A0, A1, r2, r3, r4, A5, r6, r7, r8, A9, A10, A11, r12, r13, r14, r15, r16, r17, r18, r19, r20, r21, r22, r23, r24, r25, r26, r27, r28, r29, r30, r31, r32, r33, r34, r35]
structure T28 where
  (j : Nat) (l : List (Ent Int)) (c : Nat)
def I28 (sa sv : Value) (H : Heap) (xs : List Int) (g : Nat) (T : Bool) (x : T28) (S : List Value) (H' : Heap) : Prop :=
  x.j ≤ xs.length ∧ x.l.map Ent.key = xs.take x.j ∧ (∀ e ∈ x.l, e.val = .bool true) ∧ badIds (xs.take x.j) (xs.drop x.j) = T ∧ H' = (g, mapB (Value.int .i64) x.l x.c) :: H ∧
    S28 sa sv (.map (some g)) sv (.int .i64 (xs.length : Int)) (.int .i64 (x.j : Int)) S
theorem c28 {n cap : Nat} {a : Option Addr} (hin : InS cP 1 (.slice a n cap) H ad) (hn : ad.length = n) (hix : InS cI 1 sv H xs) (h : K (.int .i64 (chk28 xs n)) H) : SCalls Try.prog 28 [.slice a n cap, sv] H K := by
  subst hn
  have hty : mapTy Try.prog 84 3 4 (.int .i64) (.bool false) := mapTy.mk' (by kernel_rfl) (by kernel_rfl) (by kernel_rfl)
  obtain ⟨sa, sc, rfl, hml⟩ := hix.sv
  obtain ⟨_, _, _, hml2⟩ := hin.sv
  have hml' : xs.length ≤ 9223372036854775807 := by simp only [maxLen] at hml; omega
  have hml2' : ad.length ≤ 9223372036854775807 := by simp only [maxLen] at hml2; omega
  refine enter28 ?_
  repeat' ((conv => whnf); (first
      | refine RawV.mkMap (Value.int .i64) rfl (fun g => ?_)
      | refine New.mk (fun _ => ?_)
      | refine Look.at0 ?_
      | refine Cell.row ?_
      | refine Cell.buf ?_
      | refine Cells.row rfl ?_
      | refine Put.row rfl ?_
      | refine Put.buf rfl ?_
      | refine Look.at1 ?_
      | refine Look.at2 ?_
      | refine Look.at3 ?_
      | refine Look.at4 ?_
      | refine Look.at5 ?_
      | refine Look.at6 ?_
      | refine Look.at7 ?_
      | refine Look.at8 ?_
      | with_reducible refine Val.i64 (by omega) (by omega) ?_
      | with_reducible refine Val.u8 (by omega) (by omega) ?_
      | with_reducible refine Val.u32 (by omega) (by omega) ?_
      | with_reducible refine Val.u64 (by omega) (by omega) ?_
      | with_reducible refine Val.u8m ?_
      | with_reducible refine Val.u32m ?_
      | with_reducible refine Val.u64m ?_
      | with_reducible refine Val.shr8 ?_
      | with_reducible refine Val.shr16 (by decide) ?_
      | with_reducible refine Val.shr24 (by decide) ?_
      | with_reducible refine Val.raw ?_
      | refine Branch.not ?_
      | refine Branch.and ?_
      | refine Branch.or ?_
      | refine Branch.dt (by assumption) ?_
      | refine Branch.df (by assumption) ?_
      | refine Branch.dt rfl ?_
      | refine Branch.dt (by omega) ?_
      | refine Branch.df (by omega) ?_
      | refine Branch.t rfl ?_
      | refine Branch.f rfl ?_
      | refine Branch.t (by assumption) ?_
      | refine Branch.f (by assumption) ?_
      | refine Branch.d (fun _ => ?_) (fun _ => ?_)
      | refine Branch.mk (fun _ => ?_) (fun _ => ?_)
      | refine Need.mk (by first | omega | decide | rfl) ?_
      | refine Idx.nat (by omega) ?_
      | refine Idx.auto (by first | omega | decide) (by first | omega | decide) ?_
      | refine Cell.ro rfl ?_
      | refine SDraw.all (by kernel_rfl) ?_
      | refine Kept.k0 ?_
      | refine Kept.k1 ?_
      | refine Kept.k2 ?_
      | refine Kept.k3 ?_
      | refine Kept.k4 ?_))
  rename_i g
  refine SLoop.invA (I28 (.slice a ad.length cap) (.slice sa xs.length sc) H xs g (badIds [] xs)) (fun x => xs.length - x.j) ⟨0, [], 0⟩ (Keep.all ⟨by simp, by simp, by simp, by simp, rfl, .mk⟩) ?_
  rintro ⟨j, l, c⟩ S H' ⟨hj, hkeys, hvals, hbad, rfl, hS⟩ R hR
  dsimp only at hj hkeys hvals hbad hR hS ⊢
  cases hS
  by_cases hlt : j < xs.length
  · have hx := List.getElem?_eq_getElem hlt
    generalize xs[j] = x at hx
    obtain ⟨r, o, c', b, e1, hm, hc⟩ := hix.at1 hx rfl
    injection e1 with e1 _ e3
    subst e1
    have hdrop : xs.drop j = x :: xs.drop (j + 1) := by
      obtain ⟨h1, rfl⟩ := List.getElem?_eq_some_iff.1 hx
      exact List.drop_eq_getElem_cons hlt
    have htake : xs.take (j + 1) = xs.take j ++ [x] := by
      obtain ⟨h1, rfl⟩ := List.getElem?_eq_some_iff.1 hx
      exact List.take_succ_eq_append_getElem hlt
    have hin1 : x ∈ xs.take j ↔ ∃ e ∈ l, e.key = x := by rw [← hkeys]; simp
    rw [hdrop, badIds] at hbad
    repeat' ((conv => whnf); (first
        | refine Look.cell (.tail _ hm) hc ?_
        | refine RawV.look rfl hty (keysInt .i64) (.head _) (fun hno => ?_) (fun i e hi he => ?_)
        | refine RawV.upd (A := []) rfl hty (keysInt .i64) (fun hno2 => ?_) (fun i e hi he => ?_)
        | (rw [hvals _ (List.mem_of_getElem? hi)])
        | refine New.mk (fun _ => ?_)
        | refine Look.at0 ?_
        | refine Cell.row ?_
        | refine Cell.buf ?_
        | refine Cells.row rfl ?_
        | refine Put.row rfl ?_
        | refine Put.buf rfl ?_
        | refine Look.at1 ?_
        | refine Look.at2 ?_
        | refine Look.at3 ?_
        | refine Look.at4 ?_
        | refine Look.at5 ?_
        | refine Look.at6 ?_
        | refine Look.at7 ?_
        | refine Look.at8 ?_
        | with_reducible refine Val.i64 (by omega) (by omega) ?_
        | with_reducible refine Val.u8 (by omega) (by omega) ?_
        | with_reducible refine Val.u32 (by omega) (by omega) ?_
        | with_reducible refine Val.u64 (by omega) (by omega) ?_
        | with_reducible refine Val.u8m ?_
        | with_reducible refine Val.u32m ?_
        | with_reducible refine Val.u64m ?_
        | with_reducible refine Val.shr8 ?_
        | with_reducible refine Val.shr16 (by decide) ?_
        | with_reducible refine Val.shr24 (by decide) ?_
        | with_reducible refine Val.raw ?_
        | refine Branch.not ?_
        | refine Branch.and ?_
        | refine Branch.or ?_
        | refine Branch.dt (by assumption) ?_
        | refine Branch.df (by assumption) ?_
        | refine Branch.dt rfl ?_
        | refine Branch.dt (by omega) ?_
        | refine Branch.df (by omega) ?_
        | refine Branch.t rfl ?_
        | refine Branch.f rfl ?_
        | refine Branch.t (by assumption) ?_
        | refine Branch.f (by assumption) ?_
        | refine Branch.d (fun _ => ?_) (fun _ => ?_)
        | refine Branch.mk (fun _ => ?_) (fun _ => ?_)
        | refine Need.mk (by first | omega | decide | rfl) ?_
        | refine Idx.nat (by omega) ?_
        | refine Idx.auto (by first | omega | decide) (by first | omega | decide) ?_
        | refine Cell.ro rfl ?_
        | refine SDraw.all (by kernel_rfl) ?_
        | refine Kept.k0 ?_
        | refine Kept.k1 ?_
        | refine Kept.k2 ?_
        | refine Kept.k3 ?_
        | refine Kept.k4 ?_))
    all_goals (conv => whnf)
    · rename_i h1
      rw [if_pos h1] at hbad
      rw [chk28, if_pos hbad.symm] at h
      exact Keep.d1 h
    · rename_i h0 h1
      rw [if_neg h0, if_pos h1] at hbad
      rw [chk28, if_pos hbad.symm] at h
      exact Keep.d1 h
    · rename_i h0 h1
      have hnin : x ∉ xs.take j := fun hm => by
        obtain ⟨e, he1, he2⟩ := hin1.1 hm
        exact hno e he1 he2
      rw [if_neg h0, if_neg h1, if_neg hnin, ← htake] at hbad
      refine hR ⟨j + 1, l ++ [⟨x, .bool true, c⟩], c + 1⟩ _ _ (by show xs.length - (j + 1) < xs.length - j; omega) (Keep.all ⟨by show j + 1 ≤ xs.length; omega, ?_, ?_, hbad, rfl, .mk⟩)
      · show (l ++ [(⟨x, .bool true, c⟩ : Ent Int)]).map Ent.key = xs.take (j + 1)
        rw [List.map_append, hkeys, htake]; rfl
      · intro e he
        rcases List.mem_append.1 he with he | he
        · exact hvals e he
        · obtain rfl := List.mem_singleton.1 he; rfl
    · exact absurd he (hno e (List.mem_of_getElem? hi))
    · rename_i h0 h1
      rw [if_neg h0, if_neg h1, if_pos (hin1.2 ⟨e, List.mem_of_getElem? hi, he⟩)] at hbad
      rw [chk28, if_pos hbad.symm] at h
      exact Keep.d1 h
  · have e : j = xs.length := by omega
    subst e
    rw [List.drop_length, badIds] at hbad
    rw [chk28, if_neg (by rw [← hbad]; decide)] at h
    have hin2 : InS cP 1 (.slice a ad.length cap) ((g, mapB (Value.int .i64) l c) :: H) ad := hin.mono fun p hp => .tail _ hp
    repeat' ((conv => whnf); (first
        | refine c40 hin2 ?_
        | refine New.mk (fun _ => ?_)
        | refine Look.at0 ?_
        | refine Cell.row ?_
        | refine Cell.buf ?_
        | refine Cells.row rfl ?_
        | refine Put.row rfl ?_
        | refine Put.buf rfl ?_
        | refine Look.at1 ?_
        | refine Look.at2 ?_
        | refine Look.at3 ?_
        | refine Look.at4 ?_
        | refine Look.at5 ?_
        | refine Look.at6 ?_
        | refine Look.at7 ?_
        | refine Look.at8 ?_
        | with_reducible refine Val.i64 (by omega) (by omega) ?_
        | with_reducible refine Val.u8 (by omega) (by omega) ?_
        | with_reducible refine Val.u32 (by omega) (by omega) ?_
        | with_reducible refine Val.u64 (by omega) (by omega) ?_
        | with_reducible refine Val.u8m ?_
        | with_reducible refine Val.u32m ?_
        | with_reducible refine Val.u64m ?_
        | with_reducible refine Val.shr8 ?_
        | with_reducible refine Val.shr16 (by decide) ?_
        | with_reducible refine Val.shr24 (by decide) ?_
        | with_reducible refine Val.raw ?_
        | refine Branch.not ?_
        | refine Branch.and ?_
        | refine Branch.or ?_
        | refine Branch.dt (by assumption) ?_
        | refine Branch.df (by assumption) ?_
        | refine Branch.dt rfl ?_
        | refine Branch.dt (by omega) ?_
        | refine Branch.df (by omega) ?_
        | refine Branch.t rfl ?_
        | refine Branch.f rfl ?_
        | refine Branch.t (by assumption) ?_
        | refine Branch.f (by assumption) ?_
        | refine Branch.d (fun _ => ?_) (fun _ => ?_)
        | refine Branch.mk (fun _ => ?_) (fun _ => ?_)
        | refine Need.mk (by first | omega | decide | rfl) ?_
        | refine Idx.nat (by omega) ?_
        | refine Idx.auto (by first | omega | decide) (by first | omega | decide) ?_
        | refine Cell.ro rfl ?_
        | refine SDraw.all (by kernel_rfl) ?_
        | refine Kept.k0 ?_
        | refine Kept.k1 ?_
        | refine Kept.k2 ?_
        | refine Kept.k3 ?_
        | refine Kept.k4 ?_))
    all_goals (conv => whnf)
    · rw [if_pos (by omega)] at h; exact Keep.d1 h
    · rw [if_neg (by omega)] at h; exact Keep.d1 h
end
end Go.Proofs.Ytkegkhhfbfegoaa

/- Layer 20: all slaves are found, and given numbers: by walks. -/
set_option linter.unusedVariables false
set_option linter.unusedSimpArgs false
set_option maxRecDepth 100000
set_option maxHeartbeats 4000000
namespace Go.Proofs.Ytkegkhhfbfegoaa
open Sx Ls
abbrev Sc.c4 (s : Sc) : List Value := [.int .u32 s.k0, .int .u32 s.k1, .int .u32 s.k2, .int .u32 s.k3]
/-- Addresses that were found, in memory. -/
def OutO (sv : Value) (N : Heap) (outs : List Sc) : Prop :=
  (sv = .slice none 0 0 ∧ outs = [] ∧ N = []) ∨ ∃ r c, sv = .slice (some ⟨r, 0, none⟩) outs.length c ∧ outs.length ≤ c ∧ c ≤ maxLen ∧ N = [(r, .buf 34 (outs.flatMap Sc.c4) (c * 4))]
theorem SlO.inS {tb : TypeId} {a : Option Addr} {cap : Nat} {Bh : Heap} {ad : List Nat} (h : SlO tb a cap Bh ad) : InS cP 1 (.slice a ad.length cap) Bh ad := by
  refine ⟨a, cap, rfl, by have := h.1; have := h.2.1; omega, ?_⟩
  rcases h.2.2 with ⟨h1, _⟩ | ⟨r, rfl, rfl⟩
  · exact .inl h1
  · refine .inr ⟨r, 0, _, rfl, .head _, fun j x i v hj hi hlt => ?_⟩
    obtain rfl : i = 0 := by omega
    show (ptrs ad)[0 + j * 1 + 0]? = _
    simp only [List.getElem?_cons_zero, Option.some.injEq] at hi
    subst hi
    simp [ptrs, hj]
def q17 (n : Int) : Q := ⟨17, n % 256, n / 256 % 256, n / 65536 % 256, n / 16777216, 0, 0, 0⟩
def q4 : Q := ⟨4, 0, 0, 0, 0, 0, 0, 0⟩
theorem q17_ok {n : Int} (h : 1 ≤ n ∧ n ≤ 127) : (q17 n).Ok := by unfold q17; constructor <;> (dsimp only; omega)
theorem q4_ok : q4.Ok := by constructor <;> decide
def giveL (id : Int) (ms : List PL) : List PL := (ms.map (tkL (q17 id))).map (tkL q4)
def allL : List Int → List PL → List Sc → List Sc × Int × List PL
  | [], ms, out => (out, if ms.any (anL Sc.new.q) = true then 4 else 0, ms.map (tkL Sc.new.q))
  | id :: r, ms, out => if (scanL ms).1.found = false then (out, 0, (scanL ms).2) else allL r (giveL id (scanL ms).2) (out ++ [(scanL ms).1])
def allP (xs : List Int) (ms : List PL) : List Sc × Int × List PL := if chk28 xs ms.length = 0 then allL xs ms [] else ([], chk28 xs ms.length, ms)
theorem runL_fst : ∀ (n : Nat) (s : Sc) (ms : List PL), (runL n s ms).2.map Prod.fst = ms.map Prod.fst
  | 0, _, _ => rfl
  | n + 1, s, ms => by
    rw [runL]
    split
    · rfl
    · rw [runL_fst n]; exact tkL_fst _ _
theorem runL_ok : ∀ (n : Nat) (s : Sc) (ms : List PL), s.Ok → (∀ x ∈ ms, x.2.Ok) → (∀ x ∈ (runL n s ms).2, x.2.Ok) ∧ (runL n s ms).1.Ok
  | 0, _, _, hs, h => ⟨h, hs⟩
  | n + 1, s, ms, hs, h => by
    rw [runL]
    split
    · exact ⟨h, hs⟩
    · rename_i h3
      exact runL_ok n _ _ ((hs.ask h3).ans _) (tkL_ok (hs.q_ok h3).1 h)
theorem bad_range : ∀ (xs seen : List Int), badIds seen xs = false → ∀ x ∈ xs, 1 ≤ x ∧ x ≤ 127
  | [], _, _, x, hx => by cases hx
  | y :: r, seen, h, x, hx => by
    unfold badIds at h
    split at h
    · cases h
    · split at h
      · cases h
      · split at h
        · cases h
        · rcases List.mem_cons.1 hx with rfl | hx
          · omega
          · exact bad_range r _ h x hx
theorem bad_nodup : ∀ (xs seen : List Int), badIds seen xs = false → xs.Nodup ∧ ∀ x ∈ xs, x ∉ seen
  | [], _, _ => ⟨List.nodup_nil, fun x hx => by cases hx⟩
  | y :: r, seen, h => by
    unfold badIds at h
    split at h
    · cases h
    · split at h
      · cases h
      · split at h
        · cases h
        · rename_i h3
          obtain ⟨h4, h5⟩ := bad_nodup r _ h
          refine ⟨List.nodup_cons.2 ⟨fun hy => h5 y hy (by simp), h4⟩, fun x hx => ?_⟩
          rcases List.mem_cons.1 hx with rfl | hx
          · exact h3
          · exact fun hs => h5 x hx (List.mem_append_left _ hs)
theorem pig : ∀ (n : Nat) (l : List Int), l.Nodup → (∀ x ∈ l, 1 ≤ x ∧ x ≤ (n : Int)) → l.length ≤ n
  | 0, l, _, h => by
    cases l with
    | nil => exact Nat.le_refl _
    | cons x r => have := h x (.head _); omega
  | n + 1, l, hd, h => by
    by_cases hm : ((n : Int) + 1) ∈ l
    · have h1 := List.length_erase_of_mem hm
      have h2 := pig n (l.erase ((n : Int) + 1)) (hd.erase _) (fun x hx => by
        have h3 := h x (List.mem_of_mem_erase hx)
        have h4 := (hd.mem_erase_iff.1 hx).1
        omega)
      omega
    · have := pig n l hd (fun x hx => by
        have h3 := h x hx
        have : x ≠ (n : Int) + 1 := fun e => hm (e ▸ hx)
        omega)
      omega
theorem chk_range {xs : List Int} {n : Nat} (h : chk28 xs n = 0) : (∀ x ∈ xs, 1 ≤ x ∧ x ≤ 127) ∧ n ≤ 127 ∧ xs.length ≤ 127 := by
  unfold chk28 at h
  split at h
  · cases h
  · rename_i hb
    have hb : badIds [] xs = false := by simpa using hb
    split at h
    · cases h
    · exact ⟨bad_range _ _ hb, by omega, pig 127 xs (bad_nodup _ _ hb).1 (bad_range _ _ hb)⟩
inductive S9 (A0 A1 A7 A20 A21 A22 : Value) : List Value → Prop
  | mk {r2 r3 r4 r5 r6 r8 r9 r10 r11 r12 r13 r14 r15 r16 r17 r18 r19 r23 r24 r25 r26 r27 r28 r29 r30 r31 r32 r33 r34 r35 r36 r37 r38 r39 r40 r41 r42 r43 r44 r45 r46 r47 r48 r49 r50 r51 r52 r53 r54 r55 r56 : Value} : S9 A0 A1 A7 A20 A21 A22 [A0, A1, r2, r3, r4, r5, r6, A7, r8, r9, r10, r11, r12, r13, r14, r15, r16, r17, r18, r19, A20, A21, A22, r23, r24, r25, r26, r27, r28, r29, r30, r31, r32, r33, r34, r35, r36, r37, r38, r39, r40, r41, r42, r43, r44, r45, r46, r47, r48, r49, r50, r51, r52, r53, r54, r55, r56]
structure T9 where
  (j : Nat) (outs : List Sc) (ms : List PL) (sv : Value) (N : Heap)
def I9 (a : Option Addr) (cap : Nat) (sx : Value) (G Bh : Heap) (ad : List Nat) (xs : List Int) (T : List Sc × Int × List PL) (x : T9) (S : List Value) (H : Heap) : Prop :=
  x.j ≤ xs.length ∧ x.ms.map Prod.fst = ad ∧ (∀ y ∈ x.ms, y.2.Ok) ∧ allL (xs.drop x.j) x.ms x.outs = T ∧ x.outs.length = x.j ∧ OutO x.sv x.N x.outs ∧
    S9 (.slice a ad.length cap) sx x.sv sx (.int .i64 (xs.length : Int)) (.int .i64 (x.j : Int)) S ∧ H = x.N ++ (G ++ (Bh ++ x.ms.map rwL))
section
variable {K : Value → Heap → Prop} {a : Option Addr} {cap : Nat} {Bh G : Heap} {ms : List PL} {sx : Value} {xs : List Int}
theorem c9 (hsl : SlO 38 a cap Bh (ms.map Prod.fst)) (hok : ∀ x ∈ ms, x.2.Ok) (hix : InS cI 1 sx G xs) (h : ∀ sv N, OutO sv N (allP xs ms).1 → K (.tuple ⟨[sv, .int .i64 (allP xs ms).2.1]⟩) (N ++ (G ++ (Bh ++ (allP xs ms).2.2.map rwL)))) :
    SCalls Try.prog 9 [.slice a ms.length cap, sx] (G ++ (Bh ++ ms.map rwL)) K := by
  have hin : InS cP 1 (.slice a ms.length cap) (G ++ (Bh ++ ms.map rwL)) (ms.map Prod.fst) := by
    have := hsl.inS
    rw [List.length_map] at this
    exact this.mono fun p hp => List.mem_append_right _ (List.mem_append_left _ hp)
  have hix2 : InS cI 1 sx (G ++ (Bh ++ ms.map rwL)) xs := hix.mono fun p hp => List.mem_append_left _ hp
  have hchk := chk_range (xs := xs) (n := ms.length)
  obtain ⟨sa, sc, rfl, hml⟩ := hix.sv
  have hml' : xs.length ≤ 9223372036854775807 := by simp only [maxLen] at hml; omega
  refine enter9 ?_
  unfold allP at h
  have hc28 := fun (K : Value → Heap → Prop) hk => c28 (K := K) (ad := ms.map Prod.fst) hin (by simp) hix2 hk
  generalize chk28 xs ms.length = e at hchk h hc28
  by_cases he : e = 0
  · subst he
    obtain ⟨hr, hn, hxl⟩ := hchk rfl
    rw [if_pos rfl] at h
    clear hchk
    repeat' ((conv => whnf); (first
        | refine hc28 _ ?_
        | refine New.mk (fun _ => ?_)
        | refine Look.at0 ?_
        | refine Cell.row ?_
        | refine Cell.buf ?_
        | refine Cells.row rfl ?_
        | refine Put.row rfl ?_
        | refine Put.buf rfl ?_
        | refine Look.at1 ?_
        | refine Look.at2 ?_
        | refine Look.at3 ?_
        | refine Look.at4 ?_
        | refine Look.at5 ?_
        | refine Look.at6 ?_
        | refine Look.at7 ?_
        | refine Look.at8 ?_
        | with_reducible refine Val.i64 (by omega) (by omega) ?_
        | with_reducible refine Val.u8 (by omega) (by omega) ?_
        | with_reducible refine Val.u32 (by omega) (by omega) ?_
        | with_reducible refine Val.u64 (by omega) (by omega) ?_
        | with_reducible refine Val.u8m ?_
        | with_reducible refine Val.u32m ?_
        | with_reducible refine Val.u64m ?_
        | with_reducible refine Val.shr8 ?_
        | with_reducible refine Val.shr16 (by decide) ?_
        | with_reducible refine Val.shr24 (by decide) ?_
        | with_reducible refine Val.raw ?_
        | refine Branch.not ?_
        | refine Branch.and ?_
        | refine Branch.or ?_
        | refine Branch.dt (by assumption) ?_
        | refine Branch.df (by assumption) ?_
        | refine Branch.dt rfl ?_
        | refine Branch.dt (by omega) ?_
        | refine Branch.df (by omega) ?_
        | refine Branch.t rfl ?_
        | refine Branch.f rfl ?_
        | refine Branch.t (by assumption) ?_
        | refine Branch.f (by assumption) ?_
        | refine Branch.d (fun _ => ?_) (fun _ => ?_)
        | refine Branch.mk (fun _ => ?_) (fun _ => ?_)
        | refine Need.mk (by first | omega | decide | rfl) ?_
        | refine Idx.nat (by omega) ?_
        | refine Idx.auto (by first | omega | decide) (by first | omega | decide) ?_
        | refine Cell.ro rfl ?_
        | refine SDraw.all (by kernel_rfl) ?_
        | refine Kept.k0 ?_
        | refine Kept.k1 ?_
        | refine Kept.k2 ?_
        | refine Kept.k3 ?_
        | refine Kept.k4 ?_))
    refine SLoop.invA (I9 a cap (.slice sa xs.length sc) G Bh (ms.map Prod.fst) xs (allL xs ms [])) (fun x => xs.length - x.j) ⟨0, [], ms, .slice none 0 0, []⟩ (Keep.all ⟨by simp, rfl, hok, rfl, rfl, .inl ⟨rfl, rfl, rfl⟩, by rw [List.length_map]; exact .mk, rfl⟩) ?_
    rintro ⟨j, outs, ms', sv, N⟩ S H ⟨hj, hfst, hok', hrun, hlo, hout, hS, rfl⟩ R hR
    dsimp only at hj hfst hok' hrun hlo hout hR hS ⊢
    have hlm : ms'.length = ms.length := by have := congrArg List.length hfst; simpa using this
    rw [List.length_map, ← hlm] at hS
    have hsl' : SlO 38 a cap Bh (ms'.map Prod.fst) := by rw [hfst]; exact hsl
    clear hc28
    cases hS
    by_cases hlt : j < xs.length
    · have hx := List.getElem?_eq_getElem hlt
      have hxm := List.getElem_mem hlt
      generalize xs[j] = x at hx hxm
      have hxr := hr x hxm
      obtain ⟨r, o, c', b, e1, hm, hc⟩ := hix.at1 hx rfl
      injection e1 with e1 _ e3
      subst e1
      have hdrop : xs.drop j = x :: xs.drop (j + 1) := by
        obtain ⟨h1, rfl⟩ := List.getElem?_eq_some_iff.1 hx
        exact List.drop_eq_getElem_cons hlt
      rw [hdrop, allL] at hrun
      have hfst2 : (scanL ms').2.map Prod.fst = ms.map Prod.fst := (runL_fst _ _ _).trans hfst
      have hlm2 : (scanL ms').2.length = ms'.length := by have := congrArg List.length (hfst2.trans hfst.symm); simpa using this
      have hok2 := (runL_ok 134 Sc.new ms' Sc.Ok.new hok').1
      have hsl2 : SlO 38 a cap Bh ((scanL ms').2.map Prod.fst) := by rw [hfst2]; exact hsl
      have hsl3 : SlO 38 a cap Bh (((scanL ms').2.map (tkL (q17 x))).map Prod.fst) := by rw [tkL_fst, hfst2]; exact hsl
      have hok3 : ∀ y ∈ (scanL ms').2.map (tkL (q17 x)), y.2.Ok := tkL_ok (q17_ok hxr) hok2
      have hc29 := fun (K : Value → Heap → Prop) hk => c29 (K := K) hsl' (by omega) hok' hk
      have hc17 := fun (K : Value → Heap → Prop) hk => c30 (K := K) (q := q17 x) hsl2 (by omega) hok2 (q17_ok hxr) (by show (17 : Int) ≠ 23; decide) hk
      have hc4 := fun (K : Value → Heap → Prop) hk => c30 (K := K) (q := q4) hsl3 (by rw [List.length_map]; omega) hok3 q4_ok (by show (4 : Int) ≠ 23; decide) hk
      have hok4 : ∀ y ∈ giveL x (scanL ms').2, y.2.Ok := tkL_ok q4_ok hok3
      have hfst4 : (giveL x (scanL ms').2).map Prod.fst = ms.map Prod.fst := by unfold giveL; rw [tkL_fst, tkL_fst, hfst2]
      rw [List.length_map] at hc4
      rw [hlm2] at hc17 hc4
      have hg : (((scanL ms').2.map (tkL (q17 x))).map (tkL q4)) = giveL x (scanL ms').2 := rfl
      rw [hg] at hc4
      generalize hsc : scanL ms' = SM at *
      obtain ⟨s, ms2⟩ := SM
      dsimp only at *
      have hlg : (giveL x ms2).length = ms.length := by have := congrArg List.length hfst4; simpa using this
      generalize giveL x ms2 = ms4 at *
      rcases hout with ⟨rfl, rfl, rfl⟩ | ⟨ro, co, rfl, hco1, hco2, rfl⟩
      · have fin : ∀ (S : List Value) (r' c2 : Nat), 1 ≤ c2 → c2 ≤ maxLen → s.found = true → S9 (.slice a ms'.length cap) (.slice (some ⟨r, o, none⟩) xs.length sc) (.slice (some ⟨r', 0, none⟩) 1 c2) (.slice (some ⟨r, o, none⟩) xs.length sc) (.int .i64 (xs.length : Int)) (.int .i64 ((j + 1 : Nat) : Int)) S → ∀ D : Heap, R S ((r', .buf 34 s.c4 (c2 * 4)) :: (D ++ (G ++ (Bh ++ ms4.map rwL)))) := by
          intro S r' c2 h1 h2 h3 h4 D
          rw [if_neg (by rw [h3]; decide)] at hrun
          refine hR ⟨j + 1, [s], ms4, .slice (some ⟨r', 0, none⟩) 1 c2, [(r', .buf 34 s.c4 (c2 * 4))]⟩ _ _ (by show xs.length - (j + 1) < xs.length - j; omega) (Keep.sub _ (List.Sublist.cons_cons _ (List.sublist_append_right D _)) ⟨by show j + 1 ≤ xs.length; omega, hfst4, hok4, hrun, by show 1 = j + 1; simp only [List.length_nil] at hlo; omega, .inr ⟨r', c2, rfl, h1, h2, ?_⟩, by rw [List.length_map, ← hlm]; exact h4, rfl⟩)
          simp
        rw [List.nil_append]
        repeat' ((conv => whnf); (first
            | refine Look.cell (List.mem_append_left _ hm) hc ?_
            | refine SCalls.under G (hc29 _ ?_)
            | refine Ls.c9 17 x (by omega) ?_
            | refine Ls.c9 4 0 (by decide) ?_
            | refine SCalls.under (_ :: G) (hc17 _ ?_)
            | refine SCalls.under (_ :: G) (hc4 _ ?_)
            | refine RawV.app0T (e := 34) (size := 4) (bytes := 16) (m := 1) (news := s.c4) rfl (by kernel_rfl) (by decide) (.head _) rfl (fun j v hj => by rw [Nat.zero_add]; exact hj) (by decide) (by unfold maxLen; omega) (by omega) (fun r' c2 h1 h2 => ?_)
            | refine New.mk (fun _ => ?_)
            | refine Look.at0 ?_
            | refine Cell.row ?_
            | refine Cell.buf ?_
            | refine Cells.row rfl ?_
            | refine Put.row rfl ?_
            | refine Put.buf rfl ?_
            | refine Look.at1 ?_
            | refine Look.at2 ?_
            | refine Look.at3 ?_
            | refine Look.at4 ?_
            | refine Look.at5 ?_
            | refine Look.at6 ?_
            | refine Look.at7 ?_
            | refine Look.at8 ?_
            | with_reducible refine Val.i64 (by omega) (by omega) ?_
            | with_reducible refine Val.u8 (by omega) (by omega) ?_
            | with_reducible refine Val.u32 (by omega) (by omega) ?_
            | with_reducible refine Val.u64 (by omega) (by omega) ?_
            | with_reducible refine Val.u8m ?_
            | with_reducible refine Val.u32m ?_
            | with_reducible refine Val.u64m ?_
            | with_reducible refine Val.shr8 ?_
            | with_reducible refine Val.shr16 (by decide) ?_
            | with_reducible refine Val.shr24 (by decide) ?_
            | with_reducible refine Val.raw ?_
            | refine Branch.not ?_
            | refine Branch.and ?_
            | refine Branch.or ?_
            | refine Branch.dt (by assumption) ?_
            | refine Branch.df (by assumption) ?_
            | refine Branch.dt rfl ?_
            | refine Branch.dt (by omega) ?_
            | refine Branch.df (by omega) ?_
            | refine Branch.t rfl ?_
            | refine Branch.f rfl ?_
            | refine Branch.t (by assumption) ?_
            | refine Branch.f (by assumption) ?_
            | refine Branch.d (fun _ => ?_) (fun _ => ?_)
            | refine Branch.mk (fun _ => ?_) (fun _ => ?_)
            | refine Need.mk (by first | omega | decide | rfl) ?_
            | refine Idx.nat (by omega) ?_
            | refine Idx.auto (by first | omega | decide) (by first | omega | decide) ?_
            | refine Cell.ro rfl ?_
            | refine SDraw.all (by kernel_rfl) ?_
            | refine Kept.k0 ?_
            | refine Kept.k1 ?_
            | refine Kept.k2 ?_
            | refine Kept.k3 ?_
            | refine Kept.k4 ?_))
        all_goals (conv => whnf)
        · exact fin _ _ _ h1 h2 (by assumption) .mk [_, _]
        · rename_i hf
          rw [if_pos hf] at hrun
          rw [← hrun] at h
          exact Keep.d1 (h _ _ (.inl ⟨rfl, rfl, rfl⟩))
      · have fin : ∀ (S : List Value) (r' c2 : Nat), outs.length + 1 ≤ c2 → c2 ≤ maxLen → s.found = true → S9 (.slice a ms'.length cap) (.slice (some ⟨r, o, none⟩) xs.length sc) (.slice (some ⟨r', 0, none⟩) (outs.length + 1) c2) (.slice (some ⟨r, o, none⟩) xs.length sc) (.int .i64 (xs.length : Int)) (.int .i64 ((j + 1 : Nat) : Int)) S → ∀ D : Heap, R S ((r', .buf 34 (outs.flatMap Sc.c4 ++ s.c4) (c2 * 4)) :: (D ++ (G ++ (Bh ++ ms4.map rwL)))) := by
          intro S r' c2 h1 h2 h3 h4 D
          rw [if_neg (by rw [h3]; decide)] at hrun
          refine hR ⟨j + 1, outs ++ [s], ms4, .slice (some ⟨r', 0, none⟩) (outs.length + 1) c2, [(r', .buf 34 (outs.flatMap Sc.c4 ++ s.c4) (c2 * 4))]⟩ _ _ (by show xs.length - (j + 1) < xs.length - j; omega) (Keep.sub _ (List.Sublist.cons_cons _ (List.sublist_append_right D _)) ⟨by show j + 1 ≤ xs.length; omega, hfst4, hok4, hrun, by show (outs ++ [s]).length = j + 1; rw [List.length_append, hlo]; rfl, .inr ⟨r', c2, ?_, ?_, h2, ?_⟩, by rw [List.length_map, ← hlm]; exact h4, rfl⟩)
          · show _ = Value.slice _ (outs ++ [s]).length _
            rw [List.length_append]; rfl
          · show (outs ++ [s]).length ≤ _
            rw [List.length_append]; exact h1
          · show _ = [(r', Blk.buf 34 ((outs ++ [s]).flatMap Sc.c4) (c2 * 4))]
            rw [List.flatMap_append]; rfl
        rw [List.singleton_append]
        repeat' ((conv => whnf); (first
            | refine Look.cell (.tail _ (List.mem_append_left _ hm)) hc ?_
            | refine SCalls.under (_ :: G) (hc29 _ ?_)
            | refine Ls.c9 17 x (by omega) ?_
            | refine Ls.c9 4 0 (by decide) ?_
            | refine SCalls.under (_ :: _ :: G) (hc17 _ ?_)
            | refine SCalls.under (_ :: _ :: G) (hc4 _ ?_)
            | refine RawV.appT (A := [_, _]) (e := 34) (size := 4) (bytes := 16) (m := 1) (news := s.c4) rfl (by kernel_rfl) (by decide) (flat_len (f := Sc.c4) (fun _ => rfl) outs) rfl hco1 hco2 (.head _) rfl (fun j v hj => by rw [Nat.zero_add]; exact hj) (by intro u hu; simp only [Sc.c4, List.mem_cons, List.not_mem_nil, or_false] at hu; rcases hu with rfl | rfl | rfl | rfl <;> rfl) (by unfold maxLen; omega) (by omega) (fun r' c2 h1 h2 => ?_)
            | refine New.mk (fun _ => ?_)
            | refine Look.at0 ?_
            | refine Cell.row ?_
            | refine Cell.buf ?_
            | refine Cells.row rfl ?_
            | refine Put.row rfl ?_
            | refine Put.buf rfl ?_
            | refine Look.at1 ?_
            | refine Look.at2 ?_
            | refine Look.at3 ?_
            | refine Look.at4 ?_
            | refine Look.at5 ?_
            | refine Look.at6 ?_
            | refine Look.at7 ?_
            | refine Look.at8 ?_
            | with_reducible refine Val.i64 (by omega) (by omega) ?_
            | with_reducible refine Val.u8 (by omega) (by omega) ?_
            | with_reducible refine Val.u32 (by omega) (by omega) ?_
            | with_reducible refine Val.u64 (by omega) (by omega) ?_
            | with_reducible refine Val.u8m ?_
            | with_reducible refine Val.u32m ?_
            | with_reducible refine Val.u64m ?_
            | with_reducible refine Val.shr8 ?_
            | with_reducible refine Val.shr16 (by decide) ?_
            | with_reducible refine Val.shr24 (by decide) ?_
            | with_reducible refine Val.raw ?_
            | refine Branch.not ?_
            | refine Branch.and ?_
            | refine Branch.or ?_
            | refine Branch.dt (by assumption) ?_
            | refine Branch.df (by assumption) ?_
            | refine Branch.dt rfl ?_
            | refine Branch.dt (by omega) ?_
            | refine Branch.df (by omega) ?_
            | refine Branch.t rfl ?_
            | refine Branch.f rfl ?_
            | refine Branch.t (by assumption) ?_
            | refine Branch.f (by assumption) ?_
            | refine Branch.d (fun _ => ?_) (fun _ => ?_)
            | refine Branch.mk (fun _ => ?_) (fun _ => ?_)
            | refine Need.mk (by first | omega | decide | rfl) ?_
            | refine Idx.nat (by omega) ?_
            | refine Idx.auto (by first | omega | decide) (by first | omega | decide) ?_
            | refine Cell.ro rfl ?_
            | refine SDraw.all (by kernel_rfl) ?_
            | refine Kept.k0 ?_
            | refine Kept.k1 ?_
            | refine Kept.k2 ?_
            | refine Kept.k3 ?_
            | refine Kept.k4 ?_))
        all_goals (conv => whnf)
        · exact fin _ _ _ h1 h2 (by assumption) .mk [_, _]
        · rename_i hf
          rw [if_pos hf] at hrun
          rw [← hrun] at h
          exact Keep.d1 (h _ _ (.inr ⟨ro, co, rfl, hco1, hco2, rfl⟩))
    · have e : j = xs.length := by omega
      subst e
      rw [List.drop_length, allL] at hrun
      rw [← hrun] at h
      dsimp only at h
      have hcl := fun (K : Value → Heap → Prop) hk => c30 (K := K) (q := Sc.new.q) hsl' (by omega) hok' (Sc.Ok.new.q_ok (by show (0 : Int) ≠ 3; decide)).1 (by show (81 : Int) ≠ 23; decide) hk
      rcases hout with ⟨rfl, rfl, rfl⟩ | ⟨ro, co, rfl, hco1, hco2, rfl⟩
      · rw [List.nil_append]
        repeat' ((conv => whnf); (first
            | refine c17 (fun gs => ?_)
            | refine SCalls.at0 (c20 Sc.Ok.new (fun h3 => by cases h3) (fun h3 => ?_))
            | refine SCalls.under (_ :: _ :: G) (hcl _ ?_)
            | refine New.mk (fun _ => ?_)
            | refine Look.at0 ?_
            | refine Cell.row ?_
            | refine Cell.buf ?_
            | refine Cells.row rfl ?_
            | refine Put.row rfl ?_
            | refine Put.buf rfl ?_
            | refine Look.at1 ?_
            | refine Look.at2 ?_
            | refine Look.at3 ?_
            | refine Look.at4 ?_
            | refine Look.at5 ?_
            | refine Look.at6 ?_
            | refine Look.at7 ?_
            | refine Look.at8 ?_
            | with_reducible refine Val.i64 (by omega) (by omega) ?_
            | with_reducible refine Val.u8 (by omega) (by omega) ?_
            | with_reducible refine Val.u32 (by omega) (by omega) ?_
            | with_reducible refine Val.u64 (by omega) (by omega) ?_
            | with_reducible refine Val.u8m ?_
            | with_reducible refine Val.u32m ?_
            | with_reducible refine Val.u64m ?_
            | with_reducible refine Val.shr8 ?_
            | with_reducible refine Val.shr16 (by decide) ?_
            | with_reducible refine Val.shr24 (by decide) ?_
            | with_reducible refine Val.raw ?_
            | refine Branch.not ?_
            | refine Branch.and ?_
            | refine Branch.or ?_
            | refine Branch.dt (by assumption) ?_
            | refine Branch.df (by assumption) ?_
            | refine Branch.dt rfl ?_
            | refine Branch.dt (by omega) ?_
            | refine Branch.df (by omega) ?_
            | refine Branch.t rfl ?_
            | refine Branch.f rfl ?_
            | refine Branch.t (by assumption) ?_
            | refine Branch.f (by assumption) ?_
            | refine Branch.d (fun _ => ?_) (fun _ => ?_)
            | refine Branch.mk (fun _ => ?_) (fun _ => ?_)
            | refine Need.mk (by first | omega | decide | rfl) ?_
            | refine Idx.nat (by omega) ?_
            | refine Idx.auto (by first | omega | decide) (by first | omega | decide) ?_
            | refine Cell.ro rfl ?_
            | refine SDraw.all (by kernel_rfl) ?_
            | refine Kept.k0 ?_
            | refine Kept.k1 ?_
            | refine Kept.k2 ?_
            | refine Kept.k3 ?_
            | refine Kept.k4 ?_))
        all_goals (conv => whnf)
        · rw [if_pos (by assumption)] at h
          exact Keep.d2 (h _ _ (.inl ⟨rfl, rfl, rfl⟩))
        · rw [if_neg (by rw [‹List.any _ _ = false›]; decide)] at h
          exact Keep.d2 (h _ _ (.inl ⟨rfl, rfl, rfl⟩))
      · rw [List.singleton_append]
        repeat' ((conv => whnf); (first
            | refine c17 (fun gs => ?_)
            | refine SCalls.at0 (c20 Sc.Ok.new (fun h3 => by cases h3) (fun h3 => ?_))
            | refine SCalls.under (_ :: _ :: _ :: G) (hcl _ ?_)
            | refine New.mk (fun _ => ?_)
            | refine Look.at0 ?_
            | refine Cell.row ?_
            | refine Cell.buf ?_
            | refine Cells.row rfl ?_
            | refine Put.row rfl ?_
            | refine Put.buf rfl ?_
            | refine Look.at1 ?_
            | refine Look.at2 ?_
            | refine Look.at3 ?_
            | refine Look.at4 ?_
            | refine Look.at5 ?_
            | refine Look.at6 ?_
            | refine Look.at7 ?_
            | refine Look.at8 ?_
            | with_reducible refine Val.i64 (by omega) (by omega) ?_
            | with_reducible refine Val.u8 (by omega) (by omega) ?_
            | with_reducible refine Val.u32 (by omega) (by omega) ?_
            | with_reducible refine Val.u64 (by omega) (by omega) ?_
            | with_reducible refine Val.u8m ?_
            | with_reducible refine Val.u32m ?_
            | with_reducible refine Val.u64m ?_
            | with_reducible refine Val.shr8 ?_
            | with_reducible refine Val.shr16 (by decide) ?_
            | with_reducible refine Val.shr24 (by decide) ?_
            | with_reducible refine Val.raw ?_
            | refine Branch.not ?_
            | refine Branch.and ?_
            | refine Branch.or ?_
            | refine Branch.dt (by assumption) ?_
            | refine Branch.df (by assumption) ?_
            | refine Branch.dt rfl ?_
            | refine Branch.dt (by omega) ?_
            | refine Branch.df (by omega) ?_
            | refine Branch.t rfl ?_
            | refine Branch.f rfl ?_
            | refine Branch.t (by assumption) ?_
            | refine Branch.f (by assumption) ?_
            | refine Branch.d (fun _ => ?_) (fun _ => ?_)
            | refine Branch.mk (fun _ => ?_) (fun _ => ?_)
            | refine Need.mk (by first | omega | decide | rfl) ?_
            | refine Idx.nat (by omega) ?_
            | refine Idx.auto (by first | omega | decide) (by first | omega | decide) ?_
            | refine Cell.ro rfl ?_
            | refine SDraw.all (by kernel_rfl) ?_
            | refine Kept.k0 ?_
            | refine Kept.k1 ?_
            | refine Kept.k2 ?_
            | refine Kept.k3 ?_
            | refine Kept.k4 ?_))
        all_goals (conv => whnf)
        · rw [if_pos (by assumption)] at h
          exact Keep.d2 (h _ _ (.inr ⟨ro, co, rfl, hco1, hco2, rfl⟩))
        · rw [if_neg (by rw [‹List.any _ _ = false›]; decide)] at h
          exact Keep.d2 (h _ _ (.inr ⟨ro, co, rfl, hco1, hco2, rfl⟩))
  · rw [if_neg he] at h
    repeat' ((conv => whnf); (first
        | refine hc28 _ ?_
        | refine New.mk (fun _ => ?_)
        | refine Look.at0 ?_
        | refine Cell.row ?_
        | refine Cell.buf ?_
        | refine Cells.row rfl ?_
        | refine Put.row rfl ?_
        | refine Put.buf rfl ?_
        | refine Look.at1 ?_
        | refine Look.at2 ?_
        | refine Look.at3 ?_
        | refine Look.at4 ?_
        | refine Look.at5 ?_
        | refine Look.at6 ?_
        | refine Look.at7 ?_
        | refine Look.at8 ?_
        | with_reducible refine Val.i64 (by omega) (by omega) ?_
        | with_reducible refine Val.u8 (by omega) (by omega) ?_
        | with_reducible refine Val.u32 (by omega) (by omega) ?_
        | with_reducible refine Val.u64 (by omega) (by omega) ?_
        | with_reducible refine Val.u8m ?_
        | with_reducible refine Val.u32m ?_
        | with_reducible refine Val.u64m ?_
        | with_reducible refine Val.shr8 ?_
        | with_reducible refine Val.shr16 (by decide) ?_
        | with_reducible refine Val.shr24 (by decide) ?_
        | with_reducible refine Val.raw ?_
        | refine Branch.not ?_
        | refine Branch.and ?_
        | refine Branch.or ?_
        | refine Branch.dt (by assumption) ?_
        | refine Branch.df (by assumption) ?_
        | refine Branch.dt rfl ?_
        | refine Branch.dt (by omega) ?_
        | refine Branch.df (by omega) ?_
        | refine Branch.t rfl ?_
        | refine Branch.f rfl ?_
        | refine Branch.t (by assumption) ?_
        | refine Branch.f (by assumption) ?_
        | refine Branch.d (fun _ => ?_) (fun _ => ?_)
        | refine Branch.mk (fun _ => ?_) (fun _ => ?_)
        | refine Need.mk (by first | omega | decide | rfl) ?_
        | refine Idx.nat (by omega) ?_
        | refine Idx.auto (by first | omega | decide) (by first | omega | decide) ?_
        | refine Cell.ro rfl ?_
        | refine SDraw.all (by kernel_rfl) ?_
        | refine Kept.k0 ?_
        | refine Kept.k1 ?_
        | refine Kept.k2 ?_
        | refine Kept.k3 ?_
        | refine Kept.k4 ?_))
    all_goals (conv => whnf)
    exact Keep.all (h _ _ (.inl ⟨rfl, rfl, rfl⟩))
end
end Go.Proofs.Ytkegkhhfbfegoaa

/- Layer 20: what is wrong with numbers, by the document: by walks. -/
set_option linter.unusedVariables false
set_option linter.unusedSimpArgs false
set_option maxRecDepth 100000
set_option maxHeartbeats 4000000
namespace Go.Proofs.Ytkegkhhfbfegoaa
open Sx Ls
theorem list_at {α : Type} {L : List α} {j : Nat} (hlt : j < L.length) : ∃ x, L[j]? = some x ∧ L.drop j = x :: L.drop (j + 1) ∧ L.take (j + 1) = L.take j ++ [x] :=
  ⟨L[j], List.getElem?_eq_getElem hlt, List.drop_eq_getElem_cons hlt, List.take_succ_eq_append_getElem hlt⟩
inductive S16i (A0 A3 A4 : Value) : List Value → Prop
  | mk {r1 r2 r5 r6 r7 r8 r9 r10 r11 r12 r13 r14 r15 r16 r17 r18 r19 r20 r21 r22 r23 r24 r25 r26 r27 r28 r29 r30 r31 r32 r33 r34 r35 r36 : Value} : S16i A0 A3 A4 [A0, r1, r2, A3, A4, r5, r6, r7, r8, r9, r10, r11, r12, r13, r14, r15, r16, r17, r18, r19, r20, r21, r22, r23, r24, r25, r26, r27, r28, r29, r30, r31, r32, r33, r34, r35, r36]
inductive S16 (A0 A3 : Value) : List Value → Prop
  | mk {r1 r2 r4 r5 r6 r7 r8 r9 r10 r11 r12 r13 r14 r15 r16 r17 r18 r19 r20 r21 r22 r23 r24 r25 r26 r27 r28 r29 r30 r31 r32 r33 r34 r35 r36 : Value} : S16 A0 A3 [A0, r1, r2, A3, r4, r5, r6, r7, r8, r9, r10, r11, r12, r13, r14, r15, r16, r17, r18, r19, r20, r21, r22, r23, r24, r25, r26, r27, r28, r29, r30, r31, r32, r33, r34, r35, r36]
def I16i (sv : Value) (H : Heap) (xs : List Int) (i : Nat) (x : Int) (k : Nat) (S : List Value) (H' : Heap) : Prop :=
  k ≤ i ∧ x ∉ xs.take k ∧ H' = H ∧ S16i sv (.int .i64 (i : Int)) (.int .i64 (k : Int)) S
def I16 (sv : Value) (H : Heap) (xs : List Int) (T : Bool) (i : Nat) (S : List Value) (H' : Heap) : Prop :=
  i ≤ xs.length ∧ badIds (xs.take i) (xs.drop i) = T ∧ H' = H ∧ S16 sv (.int .i64 (i : Int)) S
section
variable {K : Value → Heap → Prop} {sv : Value} {H : Heap} {xs : List Int}
theorem c16 (hix : InS cI 1 sv H xs) (h : K (.int .i64 (if badIds [] xs = true then 1 else 0)) H) : SCalls Try.prog 16 [sv] H K := by
  obtain ⟨sa, sc, rfl, hml⟩ := hix.sv
  have hml' : xs.length ≤ 9223372036854775807 := by simp only [maxLen] at hml; omega
  generalize hT : badIds [] xs = T at h
  refine enter16 ?_
  repeat' ((conv => whnf); (first
      | refine New.mk (fun _ => ?_)
      | refine Look.at0 ?_
      | refine Cell.row ?_
      | refine Cell.buf ?_
      | refine Cells.row rfl ?_
      | refine Put.row rfl ?_
      | refine Put.buf rfl ?_
      | refine Look.at1 ?_
      | refine Look.at2 ?_
      | refine Look.at3 ?_
      | refine Look.at4 ?_
      | refine Look.at5 ?_
      | refine Look.at6 ?_
      | refine Look.at7 ?_
      | refine Look.at8 ?_
      | with_reducible refine Val.i64 (by omega) (by omega) ?_
      | with_reducible refine Val.u8 (by omega) (by omega) ?_
      | with_reducible refine Val.u32 (by omega) (by omega) ?_
      | with_reducible refine Val.u64 (by omega) (by omega) ?_
      | with_reducible refine Val.u8m ?_
      | with_reducible refine Val.u32m ?_
      | with_reducible refine Val.u64m ?_
      | with_reducible refine Val.shr8 ?_
      | with_reducible refine Val.shr16 (by decide) ?_
      | with_reducible refine Val.shr24 (by decide) ?_
      | with_reducible refine Val.raw ?_
      | refine Branch.not ?_
      | refine Branch.and ?_
      | refine Branch.or ?_
      | refine Branch.dt (by assumption) ?_
      | refine Branch.df (by assumption) ?_
      | refine Branch.dt rfl ?_
      | refine Branch.dt (by omega) ?_
      | refine Branch.df (by omega) ?_
      | refine Branch.t rfl ?_
      | refine Branch.f rfl ?_
      | refine Branch.t (by assumption) ?_
      | refine Branch.f (by assumption) ?_
      | refine Branch.d (fun _ => ?_) (fun _ => ?_)
      | refine Branch.mk (fun _ => ?_) (fun _ => ?_)
      | refine Need.mk (by first | omega | decide | rfl) ?_
      | refine Idx.nat (by omega) ?_
      | refine Idx.auto (by first | omega | decide) (by first | omega | decide) ?_
      | refine Cell.ro rfl ?_
      | refine SDraw.all (by kernel_rfl) ?_
      | refine Kept.k0 ?_
      | refine Kept.k1 ?_
      | refine Kept.k2 ?_
      | refine Kept.k3 ?_
      | refine Kept.k4 ?_))
  refine SLoop.invA (I16 (.slice sa xs.length sc) H xs T) (fun i => xs.length - i) 0 (Keep.all ⟨by omega, by simpa using hT, rfl, .mk⟩) ?_
  rintro i S H' ⟨hi, hbad, rfl, hS⟩ R hR
  cases hS
  by_cases hlt : i < xs.length
  · obtain ⟨x, hx, hdrop, htake⟩ := list_at hlt
    obtain ⟨r, o, c', b, e1, hm, hc⟩ := hix.at1 hx rfl
    injection e1 with e1 _ e3
    subst e1
    rw [hdrop, badIds] at hbad
    repeat' ((conv => whnf); (first
        | refine New.mk (fun _ => ?_)
        | refine Look.at0 ?_
        | refine Cell.row ?_
        | refine Cell.buf ?_
        | refine Cells.row rfl ?_
        | refine Put.row rfl ?_
        | refine Put.buf rfl ?_
        | refine Look.at1 ?_
        | refine Look.at2 ?_
        | refine Look.at3 ?_
        | refine Look.at4 ?_
        | refine Look.at5 ?_
        | refine Look.at6 ?_
        | refine Look.at7 ?_
        | refine Look.at8 ?_
        | with_reducible refine Val.i64 (by omega) (by omega) ?_
        | with_reducible refine Val.u8 (by omega) (by omega) ?_
        | with_reducible refine Val.u32 (by omega) (by omega) ?_
        | with_reducible refine Val.u64 (by omega) (by omega) ?_
        | with_reducible refine Val.u8m ?_
        | with_reducible refine Val.u32m ?_
        | with_reducible refine Val.u64m ?_
        | with_reducible refine Val.shr8 ?_
        | with_reducible refine Val.shr16 (by decide) ?_
        | with_reducible refine Val.shr24 (by decide) ?_
        | with_reducible refine Val.raw ?_
        | refine Branch.not ?_
        | refine Branch.and ?_
        | refine Branch.or ?_
        | refine Branch.dt (by assumption) ?_
        | refine Branch.df (by assumption) ?_
        | refine Branch.dt rfl ?_
        | refine Branch.dt (by omega) ?_
        | refine Branch.df (by omega) ?_
        | refine Branch.t rfl ?_
        | refine Branch.f rfl ?_
        | refine Branch.t (by assumption) ?_
        | refine Branch.f (by assumption) ?_
        | refine Branch.d (fun _ => ?_) (fun _ => ?_)
        | refine Branch.mk (fun _ => ?_) (fun _ => ?_)
        | refine Need.mk (by first | omega | decide | rfl) ?_
        | refine Idx.nat (by omega) ?_
        | refine Idx.auto (by first | omega | decide) (by first | omega | decide) ?_
        | refine Cell.ro rfl ?_
        | refine SDraw.all (by kernel_rfl) ?_
        | refine Kept.k0 ?_
        | refine Kept.k1 ?_
        | refine Kept.k2 ?_
        | refine Kept.k3 ?_
        | refine Kept.k4 ?_))
    refine SLoop.invA (I16i (.slice (some ⟨r, o, none⟩) xs.length sc) H' xs i x) (fun k => i - k) 0 (Keep.all ⟨by omega, by simp, rfl, .mk⟩) ?_
    rintro k S H ⟨hk, hnin, rfl, hS⟩ R2 hR2
    cases hS
    by_cases hlt2 : k < i
    · obtain ⟨y, hy, hdrop2, htake2⟩ := list_at (L := xs) (j := k) (by omega)
      obtain ⟨r2, o2, c2, b2, e12, hm2, hc2⟩ := hix.at1 hy rfl
      injection e12 with e12 _ e32
      injection e12 with e12
      injection e12 with e4 e5
      subst e4
      subst e5
      repeat' ((conv => whnf); (first
          | refine Look.cell hm2 hc2 ?_
          | refine Look.cell hm hc ?_
          | refine New.mk (fun _ => ?_)
          | refine Look.at0 ?_
          | refine Cell.row ?_
          | refine Cell.buf ?_
          | refine Cells.row rfl ?_
          | refine Put.row rfl ?_
          | refine Put.buf rfl ?_
          | refine Look.at1 ?_
          | refine Look.at2 ?_
          | refine Look.at3 ?_
          | refine Look.at4 ?_
          | refine Look.at5 ?_
          | refine Look.at6 ?_
          | refine Look.at7 ?_
          | refine Look.at8 ?_
          | with_reducible refine Val.i64 (by omega) (by omega) ?_
          | with_reducible refine Val.u8 (by omega) (by omega) ?_
          | with_reducible refine Val.u32 (by omega) (by omega) ?_
          | with_reducible refine Val.u64 (by omega) (by omega) ?_
          | with_reducible refine Val.u8m ?_
          | with_reducible refine Val.u32m ?_
          | with_reducible refine Val.u64m ?_
          | with_reducible refine Val.shr8 ?_
          | with_reducible refine Val.shr16 (by decide) ?_
          | with_reducible refine Val.shr24 (by decide) ?_
          | with_reducible refine Val.raw ?_
          | refine Branch.not ?_
          | refine Branch.and ?_
          | refine Branch.or ?_
          | refine Branch.dt (by assumption) ?_
          | refine Branch.df (by assumption) ?_
          | refine Branch.dt rfl ?_
          | refine Branch.dt (by omega) ?_
          | refine Branch.df (by omega) ?_
          | refine Branch.t rfl ?_
          | refine Branch.f rfl ?_
          | refine Branch.t (by assumption) ?_
          | refine Branch.f (by assumption) ?_
          | refine Branch.d (fun _ => ?_) (fun _ => ?_)
          | refine Branch.mk (fun _ => ?_) (fun _ => ?_)
          | refine Need.mk (by first | omega | decide | rfl) ?_
          | refine Idx.nat (by omega) ?_
          | refine Idx.auto (by first | omega | decide) (by first | omega | decide) ?_
          | refine Cell.ro rfl ?_
          | refine SDraw.all (by kernel_rfl) ?_
          | refine Kept.k0 ?_
          | refine Kept.k1 ?_
          | refine Kept.k2 ?_
          | refine Kept.k3 ?_
          | refine Kept.k4 ?_))
      all_goals (conv => whnf)
      · have hin : x ∈ xs.take i := List.mem_of_getElem? (i := k) (by rw [List.getElem?_take, if_pos hlt2, hy, ‹y = x›])
        rw [if_pos hin] at hbad
        have : T = true := by rw [← hbad]; simp
        rw [if_pos this] at h
        exact Keep.all h
      · exact hR2 (k + 1) _ _ (by omega) (Keep.all ⟨by omega, by rw [htake2]; intro hm3; rcases List.mem_append.1 hm3 with hm3 | hm3; exact hnin hm3; exact absurd (List.mem_singleton.1 hm3).symm (by assumption), rfl, .mk⟩)
    · have e : k = i := by omega
      subst e
      rw [if_neg hnin] at hbad
      repeat' ((conv => whnf); (first
          | refine Look.cell hm hc ?_
          | refine New.mk (fun _ => ?_)
          | refine Look.at0 ?_
          | refine Cell.row ?_
          | refine Cell.buf ?_
          | refine Cells.row rfl ?_
          | refine Put.row rfl ?_
          | refine Put.buf rfl ?_
          | refine Look.at1 ?_
          | refine Look.at2 ?_
          | refine Look.at3 ?_
          | refine Look.at4 ?_
          | refine Look.at5 ?_
          | refine Look.at6 ?_
          | refine Look.at7 ?_
          | refine Look.at8 ?_
          | with_reducible refine Val.i64 (by omega) (by omega) ?_
          | with_reducible refine Val.u8 (by omega) (by omega) ?_
          | with_reducible refine Val.u32 (by omega) (by omega) ?_
          | with_reducible refine Val.u64 (by omega) (by omega) ?_
          | with_reducible refine Val.u8m ?_
          | with_reducible refine Val.u32m ?_
          | with_reducible refine Val.u64m ?_
          | with_reducible refine Val.shr8 ?_
          | with_reducible refine Val.shr16 (by decide) ?_
          | with_reducible refine Val.shr24 (by decide) ?_
          | with_reducible refine Val.raw ?_
          | refine Branch.not ?_
          | refine Branch.and ?_
          | refine Branch.or ?_
          | refine Branch.dt (by assumption) ?_
          | refine Branch.df (by assumption) ?_
          | refine Branch.dt rfl ?_
          | refine Branch.dt (by omega) ?_
          | refine Branch.df (by omega) ?_
          | refine Branch.t rfl ?_
          | refine Branch.f rfl ?_
          | refine Branch.t (by assumption) ?_
          | refine Branch.f (by assumption) ?_
          | refine Branch.d (fun _ => ?_) (fun _ => ?_)
          | refine Branch.mk (fun _ => ?_) (fun _ => ?_)
          | refine Need.mk (by first | omega | decide | rfl) ?_
          | refine Idx.nat (by omega) ?_
          | refine Idx.auto (by first | omega | decide) (by first | omega | decide) ?_
          | refine Cell.ro rfl ?_
          | refine SDraw.all (by kernel_rfl) ?_
          | refine Kept.k0 ?_
          | refine Kept.k1 ?_
          | refine Kept.k2 ?_
          | refine Kept.k3 ?_
          | refine Kept.k4 ?_))
      all_goals (conv => whnf)
      · rw [if_pos (by assumption)] at hbad
        rw [if_pos hbad.symm] at h
        exact Keep.all h
      · rw [if_neg (by assumption), if_pos (by assumption)] at hbad
        rw [if_pos hbad.symm] at h
        exact Keep.all h
      · rw [if_neg (by assumption), if_neg (by assumption), ← htake] at hbad
        exact hR (k + 1) _ _ (by omega) (Keep.all ⟨by omega, hbad, rfl, .mk⟩)
  · have e : i = xs.length := by omega
    subst e
    rw [List.drop_length, badIds] at hbad
    rw [if_neg (by rw [← hbad]; decide)] at h
    repeat' ((conv => whnf); (first
        | refine New.mk (fun _ => ?_)
        | refine Look.at0 ?_
        | refine Cell.row ?_
        | refine Cell.buf ?_
        | refine Cells.row rfl ?_
        | refine Put.row rfl ?_
        | refine Put.buf rfl ?_
        | refine Look.at1 ?_
        | refine Look.at2 ?_
        | refine Look.at3 ?_
        | refine Look.at4 ?_
        | refine Look.at5 ?_
        | refine Look.at6 ?_
        | refine Look.at7 ?_
        | refine Look.at8 ?_
        | with_reducible refine Val.i64 (by omega) (by omega) ?_
        | with_reducible refine Val.u8 (by omega) (by omega) ?_
        | with_reducible refine Val.u32 (by omega) (by omega) ?_
        | with_reducible refine Val.u64 (by omega) (by omega) ?_
        | with_reducible refine Val.u8m ?_
        | with_reducible refine Val.u32m ?_
        | with_reducible refine Val.u64m ?_
        | with_reducible refine Val.shr8 ?_
        | with_reducible refine Val.shr16 (by decide) ?_
        | with_reducible refine Val.shr24 (by decide) ?_
        | with_reducible refine Val.raw ?_
        | refine Branch.not ?_
        | refine Branch.and ?_
        | refine Branch.or ?_
        | refine Branch.dt (by assumption) ?_
        | refine Branch.df (by assumption) ?_
        | refine Branch.dt rfl ?_
        | refine Branch.dt (by omega) ?_
        | refine Branch.df (by omega) ?_
        | refine Branch.t rfl ?_
        | refine Branch.f rfl ?_
        | refine Branch.t (by assumption) ?_
        | refine Branch.f (by assumption) ?_
        | refine Branch.d (fun _ => ?_) (fun _ => ?_)
        | refine Branch.mk (fun _ => ?_) (fun _ => ?_)
        | refine Need.mk (by first | omega | decide | rfl) ?_
        | refine Idx.nat (by omega) ?_
        | refine Idx.auto (by first | omega | decide) (by first | omega | decide) ?_
        | refine Cell.ro rfl ?_
        | refine SDraw.all (by kernel_rfl) ?_
        | refine Kept.k0 ?_
        | refine Kept.k1 ?_
        | refine Kept.k2 ?_
        | refine Kept.k3 ?_
        | refine Kept.k4 ?_))
    all_goals (conv => whnf)
    exact Keep.all h
end
end Go.Proofs.Ytkegkhhfbfegoaa

/- Layer 20: the document finds all slaves, and gives them numbers: by walks. -/
set_option linter.unusedVariables false
set_option linter.unusedSimpArgs false
set_option maxRecDepth 100000
set_option maxHeartbeats 4000000
namespace Go.Proofs.Ytkegkhhfbfegoaa
open Sx Ls
theorem takeR_ok (r : R) (hr : r.Ok) (q : Q) (hq : q.Ok) : (r.take q).2.Ok := by
  obtain ⟨h1, h2, h3, h4, h5, h6, h7, h8, h9⟩ := hr
  obtain ⟨r0, r1, r2, r3, r4, r5, r6, r7⟩ := hq
  unfold R.take
  (repeat' split)
  all_goals first
    | (constructor <;> assumption)
    | (unfold R.set; (repeat' split) <;> constructor <;> first | assumption | (dsimp only; omega))
    | (unfold R.pick; (repeat' split) <;> constructor <;> first | assumption | (dsimp only; omega))
    | (unfold R.scan; (repeat' split) <;> constructor <;> first | assumption | (dsimp only; omega))
theorem tkR_ok {q : Q} (hq : q.Ok) {ms : List PR} (h : ∀ x ∈ ms, x.2.Ok) : ∀ x ∈ ms.map (tkR q), x.2.Ok := by
  intro x hx
  obtain ⟨y, hy, rfl⟩ := List.mem_map.1 hx
  exact takeR_ok y.2 (h y hy) q hq
theorem tkR_fst (q : Q) (ms : List PR) : (ms.map (tkR q)).map Prod.fst = ms.map Prod.fst := by
  rw [List.map_map]; rfl
def scanR (ms : List PR) : Sc × List PR := runR 134 Sc.new ms
def q17r (n : Int) : Q := ⟨17, n, 0, 0, 0, 0, 0, 0⟩
theorem q17r_ok {n : Int} (h : 1 ≤ n ∧ n ≤ 127) : (q17r n).Ok := by unfold q17r; constructor <;> (dsimp only; omega)
def giveR (id : Int) (ms : List PR) : List PR := (ms.map (tkR (q17r id))).map (tkR q4)
def allR : List Int → List PR → List Sc → List Sc × Int × List PR
  | [], ms, out => (out, if ms.any (anR Sc.new.q) = true then 4 else 0, ms.map (tkR Sc.new.q))
  | id :: r, ms, out => if (scanR ms).1.found = false then (out, 0, (scanR ms).2) else allR r (giveR id (scanR ms).2) (out ++ [(scanR ms).1])
def allD (xs : List Int) (ms : List PR) : List Sc × Int × List PR := if chk28 xs ms.length = 0 then allR xs ms [] else ([], chk28 xs ms.length, ms)
theorem runR_fst : ∀ (n : Nat) (s : Sc) (ms : List PR), (runR n s ms).2.map Prod.fst = ms.map Prod.fst
  | 0, _, _ => rfl
  | n + 1, s, ms => by
    rw [runR]
    split
    · rfl
    · rw [runR_fst n]; exact tkR_fst _ _
theorem runR_ok : ∀ (n : Nat) (s : Sc) (ms : List PR), s.Ok → (∀ x ∈ ms, x.2.Ok) → (∀ x ∈ (runR n s ms).2, x.2.Ok) ∧ (runR n s ms).1.Ok
  | 0, _, _, hs, h => ⟨h, hs⟩
  | n + 1, s, ms, hs, h => by
    rw [runR]
    split
    · exact ⟨h, hs⟩
    · rename_i h3
      exact runR_ok n _ _ ((hs.ask h3).ans _) (tkR_ok (hs.q_ok h3).1 h)
inductive S10 (A0 A1 A7 A8 : Value) : List Value → Prop
  | mk {r2 r3 r4 r5 r6 r9 r10 r11 r12 r13 r14 r15 r16 r17 r18 r19 r20 r21 r22 r23 r24 r25 r26 r27 r28 r29 r30 r31 r32 r33 r34 r35 r36 r37 r38 r39 r40 r41 r42 r43 r44 r45 r46 r47 r48 r49 r50 r51 r52 r53 r54 r55 r56 r57 r58 r59 r60 r61 r62 r63 r64 r65 r66 r67 r68 r69 : Value} : S10 A0 A1 A7 A8 [A0, A1, r2, r3, r4, r5, r6, A7, A8, r9, r10, r11, r12, r13, r14, r15, r16, r17, r18, r19, r20, r21, r22, r23, r24, r25, r26, r27, r28, r29, r30, r31, r32, r33, r34, r35, r36, r37, r38, r39, r40, r41, r42, r43, r44, r45, r46, r47, r48, r49, r50, r51, r52, r53, r54, r55, r56, r57, r58, r59, r60, r61, r62, r63, r64, r65, r66, r67, r68, r69]
inductive S10i (A0 A1 A7 A8 A9 : Value) : List Value → Prop
  | mk {r2 r3 r4 r5 r6 r10 r11 r12 r13 r14 r15 r16 r17 r18 r19 r20 r21 r22 r23 r24 r25 r26 r27 r28 r29 r30 r31 r32 r33 r34 r35 r36 r37 r38 r39 r40 r41 r42 r43 r44 r45 r46 r47 r48 r49 r50 r51 r52 r53 r54 r55 r56 r57 r58 r59 r60 r61 r62 r63 r64 r65 r66 r67 r68 r69 : Value} : S10i A0 A1 A7 A8 A9 [A0, A1, r2, r3, r4, r5, r6, A7, A8, A9, r10, r11, r12, r13, r14, r15, r16, r17, r18, r19, r20, r21, r22, r23, r24, r25, r26, r27, r28, r29, r30, r31, r32, r33, r34, r35, r36, r37, r38, r39, r40, r41, r42, r43, r44, r45, r46, r47, r48, r49, r50, r51, r52, r53, r54, r55, r56, r57, r58, r59, r60, r61, r62, r63, r64, r65, r66, r67, r68, r69]
structure T10 where
  (j : Nat) (outs : List Sc) (ms : List PR) (ro co : Nat)
abbrev outB (ro co : Nat) (outs : List Sc) : Nat × Blk := (ro, .buf 34 (outs.flatMap Sc.c4) (co * 4))
def I10 (a : Option Addr) (cap n : Nat) (sx : Value) (G Bh : Heap) (ad : List Nat) (xs : List Int) (T : List Sc × Int × List PR) (x : T10) (S : List Value) (H : Heap) : Prop :=
  x.j ≤ xs.length ∧ x.ms.map Prod.fst = ad ∧ (∀ y ∈ x.ms, y.2.Ok) ∧ allR (xs.drop x.j) x.ms x.outs = T ∧ x.outs.length = x.j ∧ x.outs.length ≤ x.co ∧ x.co ≤ maxLen ∧
    S10 (.slice a n cap) sx (.slice (some ⟨x.ro, 0, none⟩) x.outs.length x.co) (.int .i64 (x.j : Int)) S ∧ H = outB x.ro x.co x.outs :: (G ++ (Bh ++ x.ms.map rwR))
structure T10i where
  (n : Nat) (s : Sc) (ms : List PR)
def I10i (a : Option Addr) (cap n : Nat) (sx so : Value) (b : Nat × Blk) (j gs : Nat) (G Bh : Heap) (ad : List Nat) (T : Sc × List PR) (x : T10i) (S : List Value) (H : Heap) : Prop :=
  x.s.Ok ∧ x.s.took = (x.n : Int) ∧ x.ms.map Prod.fst = ad ∧ (∀ y ∈ x.ms, y.2.Ok) ∧ runR (134 - x.n) x.s x.ms = T ∧
    S10i (.slice a n cap) sx so (.int .i64 (j : Int)) (ptr gs) S ∧ H = (gs, x.s.ref) :: b :: (G ++ (Bh ++ x.ms.map rwR))
section
variable {K : Value → Heap → Prop} {a : Option Addr} {cap : Nat} {Bh G : Heap} {ms : List PR} {sx : Value} {xs : List Int}
theorem c10 (hsl : SlO 42 a cap Bh (ms.map Prod.fst)) (hok : ∀ x ∈ ms, x.2.Ok) (hix : InS cI 1 sx G xs) (h : ∀ sv N, OutO sv N (allD xs ms).1 → K (.tuple ⟨[sv, .int .i64 (allD xs ms).2.1]⟩) (N ++ (G ++ (Bh ++ (allD xs ms).2.2.map rwR)))) :
    SCalls Try.prog 10 [.slice a ms.length cap, sx] (G ++ (Bh ++ ms.map rwR)) K := by
  have hix2 : InS cI 1 sx (G ++ (Bh ++ ms.map rwR)) xs := hix.mono fun p hp => List.mem_append_left _ hp
  have hchk := chk_range (xs := xs) (n := ms.length)
  obtain ⟨sa, sc, rfl, hml⟩ := hix.sv
  have hml' : xs.length ≤ 9223372036854775807 := by simp only [maxLen] at hml; omega
  have hcap : ms.length ≤ 9223372036854775807 := by have := hsl.1; have := hsl.2.1; simp only [maxLen] at this; simp at *; omega
  refine enter10 ?_
  unfold allD at h
  have hc16 := fun (K : Value → Heap → Prop) hk => c16 (K := K) hix2 hk
  by_cases hb : badIds [] xs = true
  · have e : chk28 xs ms.length = 1 := if_pos hb
    rw [e, if_neg (by decide)] at h
    rw [if_pos hb] at hc16
    repeat' ((conv => whnf); (first
        | refine hc16 _ ?_
        | refine New.mk (fun _ => ?_)
        | refine Look.at0 ?_
        | refine Cell.row ?_
        | refine Cell.buf ?_
        | refine Cells.row rfl ?_
        | refine Put.row rfl ?_
        | refine Put.buf rfl ?_
        | refine Look.at1 ?_
        | refine Look.at2 ?_
        | refine Look.at3 ?_
        | refine Look.at4 ?_
        | refine Look.at5 ?_
        | refine Look.at6 ?_
        | refine Look.at7 ?_
        | refine Look.at8 ?_
        | with_reducible refine Val.i64 (by omega) (by omega) ?_
        | with_reducible refine Val.u8 (by omega) (by omega) ?_
        | with_reducible refine Val.u32 (by omega) (by omega) ?_
        | with_reducible refine Val.u64 (by omega) (by omega) ?_
        | with_reducible refine Val.u8m ?_
        | with_reducible refine Val.u32m ?_
        | with_reducible refine Val.u64m ?_
        | with_reducible refine Val.shr8 ?_
        | with_reducible refine Val.shr16 (by decide) ?_
        | with_reducible refine Val.shr24 (by decide) ?_
        | with_reducible refine Val.raw ?_
        | refine Branch.not ?_
        | refine Branch.and ?_
        | refine Branch.or ?_
        | refine Branch.dt (by assumption) ?_
        | refine Branch.df (by assumption) ?_
        | refine Branch.dt rfl ?_
        | refine Branch.dt (by omega) ?_
        | refine Branch.df (by omega) ?_
        | refine Branch.t rfl ?_
        | refine Branch.f rfl ?_
        | refine Branch.t (by assumption) ?_
        | refine Branch.f (by assumption) ?_
        | refine Branch.d (fun _ => ?_) (fun _ => ?_)
        | refine Branch.mk (fun _ => ?_) (fun _ => ?_)
        | refine Need.mk (by first | omega | decide | rfl) ?_
        | refine Idx.nat (by omega) ?_
        | refine Idx.auto (by first | omega | decide) (by first | omega | decide) ?_
        | refine Cell.ro rfl ?_
        | refine SDraw.all (by kernel_rfl) ?_
        | refine Kept.k0 ?_
        | refine Kept.k1 ?_
        | refine Kept.k2 ?_
        | refine Kept.k3 ?_
        | refine Kept.k4 ?_))
    all_goals (conv => whnf)
    exact Keep.all (h _ _ (.inl ⟨rfl, rfl, rfl⟩))
  · rw [if_neg hb] at hc16
    by_cases hn : 127 < ms.length
    · have e : chk28 xs ms.length = 2 := by rw [chk28, if_neg hb, if_pos hn]
      rw [e, if_neg (by decide)] at h
      repeat' ((conv => whnf); (first
          | refine hc16 _ ?_
          | refine New.mk (fun _ => ?_)
          | refine Look.at0 ?_
          | refine Cell.row ?_
          | refine Cell.buf ?_
          | refine Cells.row rfl ?_
          | refine Put.row rfl ?_
          | refine Put.buf rfl ?_
          | refine Look.at1 ?_
          | refine Look.at2 ?_
          | refine Look.at3 ?_
          | refine Look.at4 ?_
          | refine Look.at5 ?_
          | refine Look.at6 ?_
          | refine Look.at7 ?_
          | refine Look.at8 ?_
          | with_reducible refine Val.i64 (by omega) (by omega) ?_
          | with_reducible refine Val.u8 (by omega) (by omega) ?_
          | with_reducible refine Val.u32 (by omega) (by omega) ?_
          | with_reducible refine Val.u64 (by omega) (by omega) ?_
          | with_reducible refine Val.u8m ?_
          | with_reducible refine Val.u32m ?_
          | with_reducible refine Val.u64m ?_
          | with_reducible refine Val.shr8 ?_
          | with_reducible refine Val.shr16 (by decide) ?_
          | with_reducible refine Val.shr24 (by decide) ?_
          | with_reducible refine Val.raw ?_
          | refine Branch.not ?_
          | refine Branch.and ?_
          | refine Branch.or ?_
          | refine Branch.dt (by assumption) ?_
          | refine Branch.df (by assumption) ?_
          | refine Branch.dt rfl ?_
          | refine Branch.dt (by omega) ?_
          | refine Branch.df (by omega) ?_
          | refine Branch.t rfl ?_
          | refine Branch.f rfl ?_
          | refine Branch.t (by assumption) ?_
          | refine Branch.f (by assumption) ?_
          | refine Branch.d (fun _ => ?_) (fun _ => ?_)
          | refine Branch.mk (fun _ => ?_) (fun _ => ?_)
          | refine Need.mk (by first | omega | decide | rfl) ?_
          | refine Idx.nat (by omega) ?_
          | refine Idx.auto (by first | omega | decide) (by first | omega | decide) ?_
          | refine Cell.ro rfl ?_
          | refine SDraw.all (by kernel_rfl) ?_
          | refine Kept.k0 ?_
          | refine Kept.k1 ?_
          | refine Kept.k2 ?_
          | refine Kept.k3 ?_
          | refine Kept.k4 ?_))
      all_goals (conv => whnf)
      exact Keep.all (h _ _ (.inl ⟨rfl, rfl, rfl⟩))
    · have e : chk28 xs ms.length = 0 := by rw [chk28, if_neg hb, if_neg hn]
      rw [e, if_pos rfl] at h
      obtain ⟨hr, _, hxl⟩ := hchk e
      repeat' ((conv => whnf); (first
          | refine hc16 _ ?_
          | refine New.mk (fun _ => ?_)
          | refine Look.at0 ?_
          | refine Cell.row ?_
          | refine Cell.buf ?_
          | refine Cells.row rfl ?_
          | refine Put.row rfl ?_
          | refine Put.buf rfl ?_
          | refine Look.at1 ?_
          | refine Look.at2 ?_
          | refine Look.at3 ?_
          | refine Look.at4 ?_
          | refine Look.at5 ?_
          | refine Look.at6 ?_
          | refine Look.at7 ?_
          | refine Look.at8 ?_
          | with_reducible refine Val.i64 (by omega) (by omega) ?_
          | with_reducible refine Val.u8 (by omega) (by omega) ?_
          | with_reducible refine Val.u32 (by omega) (by omega) ?_
          | with_reducible refine Val.u64 (by omega) (by omega) ?_
          | with_reducible refine Val.u8m ?_
          | with_reducible refine Val.u32m ?_
          | with_reducible refine Val.u64m ?_
          | with_reducible refine Val.shr8 ?_
          | with_reducible refine Val.shr16 (by decide) ?_
          | with_reducible refine Val.shr24 (by decide) ?_
          | with_reducible refine Val.raw ?_
          | refine Branch.not ?_
          | refine Branch.and ?_
          | refine Branch.or ?_
          | refine Branch.dt (by assumption) ?_
          | refine Branch.df (by assumption) ?_
          | refine Branch.dt rfl ?_
          | refine Branch.dt (by omega) ?_
          | refine Branch.df (by omega) ?_
          | refine Branch.t rfl ?_
          | refine Branch.f rfl ?_
          | refine Branch.t (by assumption) ?_
          | refine Branch.f (by assumption) ?_
          | refine Branch.d (fun _ => ?_) (fun _ => ?_)
          | refine Branch.mk (fun _ => ?_) (fun _ => ?_)
          | refine Need.mk (by first | omega | decide | rfl) ?_
          | refine Idx.nat (by omega) ?_
          | refine Idx.auto (by first | omega | decide) (by first | omega | decide) ?_
          | refine Cell.ro rfl ?_
          | refine SDraw.all (by kernel_rfl) ?_
          | refine Kept.k0 ?_
          | refine Kept.k1 ?_
          | refine Kept.k2 ?_
          | refine Kept.k3 ?_
          | refine Kept.k4 ?_))
      rename_i ro0
      refine SLoop.toBuf (A := []) ?_
      refine SLoop.invA (I10 a cap ms.length (.slice sa xs.length sc) G Bh (ms.map Prod.fst) xs (allR xs ms [])) (fun x => xs.length - x.j) ⟨0, [], ms, ro0, 0⟩ (Keep.all ⟨by simp, rfl, hok, rfl, rfl, Nat.le_refl 0, Nat.zero_le _, .mk, rfl⟩) ?_
      rintro ⟨j, outs, ms', ro, co⟩ S H ⟨hj, hfst, hok', hrun, hlo, hco1, hco2, hS, rfl⟩ R hR
      dsimp only at hj hfst hok' hrun hlo hco1 hco2 hR hS ⊢
      have hlm : ms'.length = ms.length := by have := congrArg List.length hfst; simpa using this
      rw [← hlm] at hS
      have hsl' : SlO 42 a cap Bh (ms'.map Prod.fst) := by rw [hfst]; exact hsl
      clear hc16
      cases hS
      by_cases hlt : j < xs.length
      · have hx := List.getElem?_eq_getElem hlt
        have hxm := List.getElem_mem hlt
        generalize xs[j] = x at hx hxm
        have hxr := hr x hxm
        obtain ⟨r, o, c', b, e1, hm, hc⟩ := hix.at1 hx rfl
        injection e1 with e1 _ e3
        subst e1
        have hdrop : xs.drop j = x :: xs.drop (j + 1) := by
          obtain ⟨h1, rfl⟩ := List.getElem?_eq_some_iff.1 hx
          exact List.drop_eq_getElem_cons hlt
        rw [hdrop, allR] at hrun
        have hm2 := runR_ok 134 Sc.new ms' Sc.Ok.new hok'
        have hf2 := runR_fst 134 Sc.new ms'
        have hT : runR 134 Sc.new ms' = scanR ms' := rfl
        rw [hT] at hm2 hf2
        generalize hsc : scanR ms' = SM at *
        obtain ⟨s, ms2⟩ := SM
        dsimp only at hm2 hf2 hrun
        repeat' ((conv => whnf); (first
            | refine New.mk (fun _ => ?_)
            | refine Look.at0 ?_
            | refine Cell.row ?_
            | refine Cell.buf ?_
            | refine Cells.row rfl ?_
            | refine Put.row rfl ?_
            | refine Put.buf rfl ?_
            | refine Look.at1 ?_
            | refine Look.at2 ?_
            | refine Look.at3 ?_
            | refine Look.at4 ?_
            | refine Look.at5 ?_
            | refine Look.at6 ?_
            | refine Look.at7 ?_
            | refine Look.at8 ?_
            | with_reducible refine Val.i64 (by omega) (by omega) ?_
            | with_reducible refine Val.u8 (by omega) (by omega) ?_
            | with_reducible refine Val.u32 (by omega) (by omega) ?_
            | with_reducible refine Val.u64 (by omega) (by omega) ?_
            | with_reducible refine Val.u8m ?_
            | with_reducible refine Val.u32m ?_
            | with_reducible refine Val.u64m ?_
            | with_reducible refine Val.shr8 ?_
            | with_reducible refine Val.shr16 (by decide) ?_
            | with_reducible refine Val.shr24 (by decide) ?_
            | with_reducible refine Val.raw ?_
            | refine Branch.not ?_
            | refine Branch.and ?_
            | refine Branch.or ?_
            | refine Branch.dt (by assumption) ?_
            | refine Branch.df (by assumption) ?_
            | refine Branch.dt rfl ?_
            | refine Branch.dt (by omega) ?_
            | refine Branch.df (by omega) ?_
            | refine Branch.t rfl ?_
            | refine Branch.f rfl ?_
            | refine Branch.t (by assumption) ?_
            | refine Branch.f (by assumption) ?_
            | refine Branch.d (fun _ => ?_) (fun _ => ?_)
            | refine Branch.mk (fun _ => ?_) (fun _ => ?_)
            | refine Need.mk (by first | omega | decide | rfl) ?_
            | refine Idx.nat (by omega) ?_
            | refine Idx.auto (by first | omega | decide) (by first | omega | decide) ?_
            | refine Cell.ro rfl ?_
            | refine SDraw.all (by kernel_rfl) ?_
            | refine Kept.k0 ?_
            | refine Kept.k1 ?_
            | refine Kept.k2 ?_
            | refine Kept.k3 ?_
            | refine Kept.k4 ?_))
        rename_i gs
        refine SLoop.invA (I10i a cap ms'.length (.slice (some ⟨r, o, none⟩) xs.length sc) (.slice (some ⟨ro, 0, none⟩) outs.length co) (outB ro co outs) j gs G Bh (ms.map Prod.fst) (s, ms2)) (fun x => 134 - x.n) ⟨0, Sc.new, ms'⟩ (Keep.all ⟨Sc.Ok.new, rfl, hfst, hok', hT, .mk, rfl⟩) ?_
        rintro ⟨n, s1, ms1⟩ S H ⟨hs1, htk, hfst1, hok1, hrun1, hS, rfl⟩ R2 hR2
        dsimp only at hs1 htk hfst1 hok1 hrun1 hS hR2 ⊢
        have hlm1 : ms1.length = ms.length := by have := congrArg List.length hfst1; simpa using this
        have hsl1 : SlO 42 a cap Bh (ms1.map Prod.fst) := by rw [hfst1]; exact hsl
        rw [hlm, ← hlm1] at hS
        cases hS
        by_cases h3 : s1.ph = 3
        · obtain ⟨k, hk⟩ : ∃ k, 134 - n = k + 1 := ⟨133 - n, by have := hs1.tk; omega⟩
          rw [hk, runR, if_pos h3] at hrun1
          injection hrun1 with g1 g2
          subst g1
          subst g2
          have hsl3 : SlO 42 a cap Bh ((ms1.map (tkR (q17r x))).map Prod.fst) := by rw [tkR_fst, hfst1]; exact hsl
          have hok3 : ∀ y ∈ ms1.map (tkR (q17r x)), y.2.Ok := tkR_ok (q17r_ok hxr) hok1
          have hc17 := fun (K : Value → Heap → Prop) hk => c32 (K := K) (q := q17r x) hsl1 (by omega) hok1 (q17r_ok hxr) hk
          have hc4 := fun (K : Value → Heap → Prop) hk => c32 (K := K) (q := q4) hsl3 (by rw [List.length_map]; omega) hok3 q4_ok hk
          have hok4 : ∀ y ∈ giveR x ms1, y.2.Ok := tkR_ok q4_ok hok3
          have hfst4 : (giveR x ms1).map Prod.fst = ms.map Prod.fst := by unfold giveR; rw [tkR_fst, tkR_fst, hfst1]
          rw [List.length_map] at hc4
          have hg : ((ms1.map (tkR (q17r x))).map (tkR q4)) = giveR x ms1 := rfl
          rw [hg] at hc4
          have hlg : (giveR x ms1).length = ms.length := by have := congrArg List.length hfst4; simpa using this
          generalize giveR x ms1 = ms4 at *
          have fin : ∀ (S : List Value) (r' c2 : Nat), outs.length + 1 ≤ c2 → c2 ≤ maxLen → s1.found = true → S10 (.slice a ms1.length cap) (.slice (some ⟨r, o, none⟩) xs.length sc) (.slice (some ⟨r', 0, none⟩) (outs.length + 1) c2) (.int .i64 ((j + 1 : Nat) : Int)) S → ∀ D : Heap, R S ((r', .buf 34 (outs.flatMap Sc.c4 ++ s1.c4) (c2 * 4)) :: (D ++ (G ++ (Bh ++ ms4.map rwR)))) := by
            intro S r' c2 h1 h2 h3 h4 D
            rw [if_neg (by rw [h3]; decide)] at hrun
            refine hR ⟨j + 1, outs ++ [s1], ms4, r', c2⟩ _ _ (by show xs.length - (j + 1) < xs.length - j; omega) (Keep.sub _ (List.Sublist.cons_cons _ (List.sublist_append_right D _)) ⟨by show j + 1 ≤ xs.length; omega, hfst4, hok4, hrun, by show (outs ++ [s1]).length = j + 1; rw [List.length_append, hlo]; rfl, ?_, h2, ?_, ?_⟩)
            · show (outs ++ [s1]).length ≤ _
              rw [List.length_append]; exact h1
            · show S10 _ _ (Value.slice _ (outs ++ [s1]).length _) _ _
              rw [List.length_append, ← hlm1]; exact h4
            · show _ = (r', Blk.buf 34 ((outs ++ [s1]).flatMap Sc.c4) (c2 * 4)) :: _
              rw [List.flatMap_append]; simp
          repeat' ((conv => whnf); (first
              | refine SCalls.at0 (c21 hs1 (fun g3 => ?_) (fun g3 => absurd h3 g3))
              | refine Look.cell (.tail _ (.tail _ (.tail _ (List.mem_append_left _ hm)))) hc ?_
              | refine SCalls.under (_ :: _ :: _ :: G) (hc17 _ ?_)
              | refine SCalls.under (_ :: _ :: _ :: G) (hc4 _ ?_)
              | refine RawV.appT (A := [_, _, _]) (e := 34) (size := 4) (bytes := 16) (m := 1) (news := s1.c4) rfl (by kernel_rfl) (by decide) (flat_len (f := Sc.c4) (fun _ => rfl) outs) rfl hco1 hco2 (.head _) rfl (fun j v hj => by rw [Nat.zero_add]; exact hj) (by intro u hu; simp only [Sc.c4, List.mem_cons, List.not_mem_nil, or_false] at hu; rcases hu with rfl | rfl | rfl | rfl <;> rfl) (by unfold maxLen; omega) (by omega) (fun r' c2 h1 h2 => ?_)
              | unfold Sc.ref
              | refine New.mk (fun _ => ?_)
              | refine Look.at0 ?_
              | refine Cell.row ?_
              | refine Cell.buf ?_
              | refine Cells.row rfl ?_
              | refine Put.row rfl ?_
              | refine Put.buf rfl ?_
              | refine Look.at1 ?_
              | refine Look.at2 ?_
              | refine Look.at3 ?_
              | refine Look.at4 ?_
              | refine Look.at5 ?_
              | refine Look.at6 ?_
              | refine Look.at7 ?_
              | refine Look.at8 ?_
              | with_reducible refine Val.i64 (by omega) (by omega) ?_
              | with_reducible refine Val.u8 (by omega) (by omega) ?_
              | with_reducible refine Val.u32 (by omega) (by omega) ?_
              | with_reducible refine Val.u64 (by omega) (by omega) ?_
              | with_reducible refine Val.u8m ?_
              | with_reducible refine Val.u32m ?_
              | with_reducible refine Val.u64m ?_
              | with_reducible refine Val.shr8 ?_
              | with_reducible refine Val.shr16 (by decide) ?_
              | with_reducible refine Val.shr24 (by decide) ?_
              | with_reducible refine Val.raw ?_
              | refine Branch.not ?_
              | refine Branch.and ?_
              | refine Branch.or ?_
              | refine Branch.dt (by assumption) ?_
              | refine Branch.df (by assumption) ?_
              | refine Branch.dt rfl ?_
              | refine Branch.dt (by omega) ?_
              | refine Branch.df (by omega) ?_
              | refine Branch.t rfl ?_
              | refine Branch.f rfl ?_
              | refine Branch.t (by assumption) ?_
              | refine Branch.f (by assumption) ?_
              | refine Branch.d (fun _ => ?_) (fun _ => ?_)
              | refine Branch.mk (fun _ => ?_) (fun _ => ?_)
              | refine Need.mk (by first | omega | decide | rfl) ?_
              | refine Idx.nat (by omega) ?_
              | refine Idx.auto (by first | omega | decide) (by first | omega | decide) ?_
              | refine Cell.ro rfl ?_
              | refine SDraw.all (by kernel_rfl) ?_
              | refine Kept.k0 ?_
              | refine Kept.k1 ?_
              | refine Kept.k2 ?_
              | refine Kept.k3 ?_
              | refine Kept.k4 ?_))
          all_goals (conv => whnf)
          · exact fin _ _ _ h1 h2 (by assumption) .mk [_, _, _]
          · rename_i hf
            rw [if_pos hf] at hrun
            rw [← hrun] at h
            exact Keep.d2 (h _ _ (.inr ⟨ro, co, rfl, hco1, hco2, rfl⟩))
        · have hs2 := hs1.ask h3
          obtain ⟨hq, hq0⟩ := hs1.q_ok h3
          have hn : n ≤ 133 := by have := hs1.tk; omega
          obtain ⟨k, hk⟩ : ∃ k, 134 - n = k + 1 := ⟨133 - n, by omega⟩
          rw [hk, runR, if_neg h3] at hrun1
          have htk2 := took_step h3 (ms1.any (anR s1.q))
          have hs3 : (stepR s1 ms1).1.Ok := hs2.ans _
          have hn2 : n + 1 ≤ 133 := by
            have := hs3.tk
            have e : (stepR s1 ms1).1.took = s1.took + 1 := htk2
            omega
          have hk2 : k = 134 - (n + 1) := by omega
          rw [hk2] at hrun1
          clear h hok hrun hR
          have hcq := fun (K : Value → Heap → Prop) hk => c32 (K := K) (q := s1.q) hsl1 (by omega) hok1 hq hk
          have fin : ∀ (S : List Value) (b0 : Nat × Blk), S10i (.slice a ms1.length cap) (.slice (some ⟨r, o, none⟩) xs.length sc) (.slice (some ⟨ro, 0, none⟩) outs.length co) (.int .i64 (j : Int)) (ptr gs) S → R2 S (b0 :: (gs, (stepR s1 ms1).1.ref) :: outB ro co outs :: (G ++ (Bh ++ (stepR s1 ms1).2.map rwR))) := by
            intro S b0 hS
            refine hR2 ⟨n + 1, (stepR s1 ms1).1, (stepR s1 ms1).2⟩ _ _ (by show 134 - (n + 1) < 134 - n; omega) (Keep.d1 ⟨hs3, ?_, ?_, tkR_ok hq hok1, hrun1, ?_, rfl⟩)
            · show (stepR s1 ms1).1.took = _
              rw [show (stepR s1 ms1).1.took = s1.took + 1 from htk2, htk]; rfl
            · exact (tkR_fst _ _).trans hfst1
            · rw [hlm, ← hlm1]; exact hS
          repeat' ((conv => whnf); (first
              | refine SCalls.at0 (c21 hs1 (fun g3 => absurd g3 h3) (fun g3 => ?_))
              | refine SCalls.under (_ :: _ :: _ :: G) (hcq _ ?_)
              | refine SCalls.at1 (c19 hs2 _ ?_)
              | refine New.mk (fun _ => ?_)
              | refine Look.at0 ?_
              | refine Cell.row ?_
              | refine Cell.buf ?_
              | refine Cells.row rfl ?_
              | refine Put.row rfl ?_
              | refine Put.buf rfl ?_
              | refine Look.at1 ?_
              | refine Look.at2 ?_
              | refine Look.at3 ?_
              | refine Look.at4 ?_
              | refine Look.at5 ?_
              | refine Look.at6 ?_
              | refine Look.at7 ?_
              | refine Look.at8 ?_
              | with_reducible refine Val.i64 (by omega) (by omega) ?_
              | with_reducible refine Val.u8 (by omega) (by omega) ?_
              | with_reducible refine Val.u32 (by omega) (by omega) ?_
              | with_reducible refine Val.u64 (by omega) (by omega) ?_
              | with_reducible refine Val.u8m ?_
              | with_reducible refine Val.u32m ?_
              | with_reducible refine Val.u64m ?_
              | with_reducible refine Val.shr8 ?_
              | with_reducible refine Val.shr16 (by decide) ?_
              | with_reducible refine Val.shr24 (by decide) ?_
              | with_reducible refine Val.raw ?_
              | refine Branch.not ?_
              | refine Branch.and ?_
              | refine Branch.or ?_
              | refine Branch.dt (by assumption) ?_
              | refine Branch.df (by assumption) ?_
              | refine Branch.dt rfl ?_
              | refine Branch.dt (by omega) ?_
              | refine Branch.df (by omega) ?_
              | refine Branch.t rfl ?_
              | refine Branch.f rfl ?_
              | refine Branch.t (by assumption) ?_
              | refine Branch.f (by assumption) ?_
              | refine Branch.d (fun _ => ?_) (fun _ => ?_)
              | refine Branch.mk (fun _ => ?_) (fun _ => ?_)
              | refine Need.mk (by first | omega | decide | rfl) ?_
              | refine Idx.nat (by omega) ?_
              | refine Idx.auto (by first | omega | decide) (by first | omega | decide) ?_
              | refine Cell.ro rfl ?_
              | refine SDraw.all (by kernel_rfl) ?_
              | refine Kept.k0 ?_
              | refine Kept.k1 ?_
              | refine Kept.k2 ?_
              | refine Kept.k3 ?_
              | refine Kept.k4 ?_))
          all_goals (conv => whnf)
          exact fin _ _ .mk
      · have e : j = xs.length := by omega
        subst e
        rw [List.drop_length, allR] at hrun
        rw [← hrun] at h
        dsimp only at h
        have hcl := fun (K : Value → Heap → Prop) hk => c32 (K := K) (q := Sc.new.q) hsl' (by omega) hok' (Sc.Ok.new.q_ok (by show (0 : Int) ≠ 3; decide)).1 hk
        repeat' ((conv => whnf); (first
            | refine SCalls.under (_ :: G) (hcl _ ?_)
            | refine New.mk (fun _ => ?_)
            | refine Look.at0 ?_
            | refine Cell.row ?_
            | refine Cell.buf ?_
            | refine Cells.row rfl ?_
            | refine Put.row rfl ?_
            | refine Put.buf rfl ?_
            | refine Look.at1 ?_
            | refine Look.at2 ?_
            | refine Look.at3 ?_
            | refine Look.at4 ?_
            | refine Look.at5 ?_
            | refine Look.at6 ?_
            | refine Look.at7 ?_
            | refine Look.at8 ?_
            | with_reducible refine Val.i64 (by omega) (by omega) ?_
            | with_reducible refine Val.u8 (by omega) (by omega) ?_
            | with_reducible refine Val.u32 (by omega) (by omega) ?_
            | with_reducible refine Val.u64 (by omega) (by omega) ?_
            | with_reducible refine Val.u8m ?_
            | with_reducible refine Val.u32m ?_
            | with_reducible refine Val.u64m ?_
            | with_reducible refine Val.shr8 ?_
            | with_reducible refine Val.shr16 (by decide) ?_
            | with_reducible refine Val.shr24 (by decide) ?_
            | with_reducible refine Val.raw ?_
            | refine Branch.not ?_
            | refine Branch.and ?_
            | refine Branch.or ?_
            | refine Branch.dt (by assumption) ?_
            | refine Branch.df (by assumption) ?_
            | refine Branch.dt rfl ?_
            | refine Branch.dt (by omega) ?_
            | refine Branch.df (by omega) ?_
            | refine Branch.t rfl ?_
            | refine Branch.f rfl ?_
            | refine Branch.t (by assumption) ?_
            | refine Branch.f (by assumption) ?_
            | refine Branch.d (fun _ => ?_) (fun _ => ?_)
            | refine Branch.mk (fun _ => ?_) (fun _ => ?_)
            | refine Need.mk (by first | omega | decide | rfl) ?_
            | refine Idx.nat (by omega) ?_
            | refine Idx.auto (by first | omega | decide) (by first | omega | decide) ?_
            | refine Cell.ro rfl ?_
            | refine SDraw.all (by kernel_rfl) ?_
            | refine Kept.k0 ?_
            | refine Kept.k1 ?_
            | refine Kept.k2 ?_
            | refine Kept.k3 ?_
            | refine Kept.k4 ?_))
        all_goals (conv => whnf)
        · rw [if_pos (by assumption)] at h
          exact Keep.all (h _ _ (.inr ⟨ro, co, rfl, hco1, hco2, rfl⟩))
        · rw [if_neg (by rw [‹List.any _ _ = false›]; decide)] at h
          exact Keep.all (h _ _ (.inr ⟨ro, co, rfl, hco1, hco2, rfl⟩))
end
end Go.Proofs.Ytkegkhhfbfegoaa

