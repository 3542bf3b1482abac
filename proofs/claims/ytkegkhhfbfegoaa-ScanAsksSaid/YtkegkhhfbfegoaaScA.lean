/- Layer 20: a scan's machine and the document's: by walks. -/
import Derived.Test.YtkegkhhfbfegoaaLsS
import Derived.Test.YtkegkhhfbfegoaaLsD
import Derived.Test.YtkegkhhfbfegoaaXb
import Derived.Test.YtkegkhhfbfegoaaSxT
set_option linter.unusedVariables false
set_option linter.unusedSimpArgs false
set_option maxRecDepth 100000
set_option maxHeartbeats 4000000
namespace Go.Proofs.Ytkegkhhfbfegoaa
open Sx Ls
/-- A scan: what it asks (0 whether, 1 bits, 2 the whole, 3 it is over), the part, the bit, what is known, whether it found, was asked, how many answers it took. -/
structure Sc where
  (ph pa bi k0 k1 k2 k3 : Int)
  (found asked : Bool)
  (took : Int)
def Sc.row (s : Sc) : Blk := .row 79 [.int .i64 s.ph, .int .i64 s.pa, .int .i64 s.bi, .int .u32 s.k0, .int .u32 s.k1, .int .u32 s.k2, .int .u32 s.k3, .bool s.found, .bool s.asked, .int .i64 s.took] (0, 0)
def Sc.ref (s : Sc) : Blk := .row 53 [.int .i64 s.took, .int .u32 s.k0, .int .u32 s.k1, .int .u32 s.k2, .int .u32 s.k3, .bool (decide (s.ph = 3)), .bool s.found, .bool s.asked] (0, 0)
structure Sc.Ok (s : Sc) : Prop where
  st : (s.ph = 0 ∧ s.pa = 0 ∧ s.bi = 31 ∧ s.took = 0 ∧ s.k0 = 0) ∨ (s.ph = 1 ∧ 0 ≤ s.pa ∧ s.pa ≤ 3 ∧ 0 ≤ s.bi ∧ s.bi ≤ 31 ∧ s.took = 33 * s.pa + 32 - s.bi) ∨ (s.ph = 2 ∧ 0 ≤ s.pa ∧ s.pa ≤ 3 ∧ s.bi = -1 ∧ s.took = 33 * s.pa + 33) ∨ (s.ph = 3 ∧ s.asked = false)
  nf : s.ph ≠ 3 → s.found = false
  tk : 0 ≤ s.took ∧ s.took ≤ 133
  r0 : 0 ≤ s.k0 ∧ s.k0 ≤ 4294967295
  r1 : 0 ≤ s.k1 ∧ s.k1 ≤ 4294967295
  r2 : 0 ≤ s.k2 ∧ s.k2 ≤ 4294967295
  r3 : 0 ≤ s.k3 ∧ s.k3 ≤ 4294967295
def Sc.kn (s : Sc) (p : Int) : Int := if p = 0 then s.k0 else if p = 1 then s.k1 else if p = 2 then s.k2 else s.k3
def Sc.new : Sc := ⟨0, 0, 31, 0, 0, 0, 0, false, false, 0⟩
def Sc.q (s : Sc) : Q :=
  if s.ph = 0 then ⟨81, 0, 0, 0, 0, 128, 0, 0⟩
  else if s.ph = 1 then ⟨81, s.kn s.pa % 256, s.kn s.pa / 256 % 256, s.kn s.pa / 65536 % 256, s.kn s.pa / 16777216, s.bi, s.pa, s.pa⟩
  else ⟨81, s.kn s.pa % 256, s.kn s.pa / 256 % 256, s.kn s.pa / 65536 % 256, s.kn s.pa / 16777216, 0, s.pa, (s.pa + 1) % 4⟩
section
variable {K : Value → Heap → Prop} {g : Nat} {s : Sc}
theorem c17 {H : Heap} (h : ∀ g, K (.pointer (some ⟨g, 0, none⟩)) ((g, Sc.new.row) :: H)) : SCalls Try.prog 17 [] H K := by
  refine SCalls.any (K := fun v N => ∃ g, v = .pointer (some ⟨g, 0, none⟩) ∧ N = [(g, Sc.new.row)]) (enter17 (_u := undef) ?_) (by rintro v N ⟨g, rfl, rfl⟩; exact h g)
  repeat' ((conv => whnf); (first
      | refine New.mk (fun _ => ?_)
      | refine Look.at0 ?_
      | refine Cell.row ?_
      | refine Cell.buf ?_
      | refine Cells.row rfl ?_
      | refine Put.row rfl ?_
      | refine Put.buf rfl ?_
      | refine Look.at1 ?_
      | refine Look.at2 ?_
      | refine Look.at3 ?_
      | refine Look.at4 ?_
      | refine Look.at5 ?_
      | refine Look.at6 ?_
      | refine Look.at7 ?_
      | refine Look.at8 ?_
      | with_reducible refine Val.i64 (by omega) (by omega) ?_
      | with_reducible refine Val.u8 (by omega) (by omega) ?_
      | with_reducible refine Val.u32 (by omega) (by omega) ?_
      | with_reducible refine Val.u64 (by omega) (by omega) ?_
      | with_reducible refine Val.u8m ?_
      | with_reducible refine Val.u32m ?_
      | with_reducible refine Val.u64m ?_
      | with_reducible refine Val.shr8 ?_
      | with_reducible refine Val.shr16 (by decide) ?_
      | with_reducible refine Val.shr24 (by decide) ?_
      | with_reducible refine Val.raw ?_
      | refine Branch.not ?_
      | refine Branch.and ?_
      | refine Branch.or ?_
      | refine Branch.dt (by assumption) ?_
      | refine Branch.df (by assumption) ?_
      | refine Branch.dt rfl ?_
      | refine Branch.dt (by omega) ?_
      | refine Branch.df (by omega) ?_
      | refine Branch.t rfl ?_
      | refine Branch.f rfl ?_
      | refine Branch.t (by assumption) ?_
      | refine Branch.f (by assumption) ?_
      | refine Branch.d (fun _ => ?_) (fun _ => ?_)
      | refine Branch.mk (fun _ => ?_) (fun _ => ?_)
      | refine Need.mk (by first | omega | decide | rfl) ?_
      | refine Idx.nat (by omega) ?_
      | refine Idx.auto (by first | omega | decide) (by first | omega | decide) ?_
      | refine Cell.ro rfl ?_
      | refine SDraw.all (by kernel_rfl) ?_
      | refine Kept.k0 ?_
      | refine Kept.k1 ?_
      | refine Kept.k2 ?_
      | refine Kept.k3 ?_
      | refine Kept.k4 ?_))
  all_goals (conv => whnf)
  all_goals exact Keep.sub [_] (List.Sublist.cons_cons _ (List.nil_sublist _)) ⟨_, rfl, rfl⟩
theorem c23 (h : K (.bool (decide (s.ph = 3))) [(g, s.row)]) : SCalls Try.prog 23 [.pointer (some ⟨g, 0, none⟩)] [(g, s.row)] K := by
  refine enter23 ?_
  unfold Sc.row at *
  repeat' ((conv => whnf); (first
      | refine New.mk (fun _ => ?_)
      | refine Look.at0 ?_
      | refine Cell.row ?_
      | refine Cell.buf ?_
      | refine Cells.row rfl ?_
      | refine Put.row rfl ?_
      | refine Put.buf rfl ?_
      | refine Look.at1 ?_
      | refine Look.at2 ?_
      | refine Look.at3 ?_
      | refine Look.at4 ?_
      | refine Look.at5 ?_
      | refine Look.at6 ?_
      | refine Look.at7 ?_
      | refine Look.at8 ?_
      | with_reducible refine Val.i64 (by omega) (by omega) ?_
      | with_reducible refine Val.u8 (by omega) (by omega) ?_
      | with_reducible refine Val.u32 (by omega) (by omega) ?_
      | with_reducible refine Val.u64 (by omega) (by omega) ?_
      | with_reducible refine Val.u8m ?_
      | with_reducible refine Val.u32m ?_
      | with_reducible refine Val.u64m ?_
      | with_reducible refine Val.shr8 ?_
      | with_reducible refine Val.shr16 (by decide) ?_
      | with_reducible refine Val.shr24 (by decide) ?_
      | with_reducible refine Val.raw ?_
      | refine Branch.not ?_
      | refine Branch.and ?_
      | refine Branch.or ?_
      | refine Branch.dt (by assumption) ?_
      | refine Branch.df (by assumption) ?_
      | refine Branch.dt rfl ?_
      | refine Branch.dt (by omega) ?_
      | refine Branch.df (by omega) ?_
      | refine Branch.t rfl ?_
      | refine Branch.f rfl ?_
      | refine Branch.t (by assumption) ?_
      | refine Branch.f (by assumption) ?_
      | refine Branch.d (fun _ => ?_) (fun _ => ?_)
      | refine Branch.mk (fun _ => ?_) (fun _ => ?_)
      | refine Need.mk (by first | omega | decide | rfl) ?_
      | refine Idx.nat (by omega) ?_
      | refine Idx.auto (by first | omega | decide) (by first | omega | decide) ?_
      | refine Cell.ro rfl ?_
      | refine SDraw.all (by kernel_rfl) ?_
      | refine Kept.k0 ?_
      | refine Kept.k1 ?_
      | refine Kept.k2 ?_
      | refine Kept.k3 ?_
      | refine Kept.k4 ?_))
  all_goals (conv => whnf)
  all_goals exact Keep.all h
theorem c24 (h : K (.int .i64 s.took) [(g, s.row)]) : SCalls Try.prog 24 [.pointer (some ⟨g, 0, none⟩)] [(g, s.row)] K := by
  refine enter24 ?_
  unfold Sc.row at *
  repeat' ((conv => whnf); (first
      | refine New.mk (fun _ => ?_)
      | refine Look.at0 ?_
      | refine Cell.row ?_
      | refine Cell.buf ?_
      | refine Cells.row rfl ?_
      | refine Put.row rfl ?_
      | refine Put.buf rfl ?_
      | refine Look.at1 ?_
      | refine Look.at2 ?_
      | refine Look.at3 ?_
      | refine Look.at4 ?_
      | refine Look.at5 ?_
      | refine Look.at6 ?_
      | refine Look.at7 ?_
      | refine Look.at8 ?_
      | with_reducible refine Val.i64 (by omega) (by omega) ?_
      | with_reducible refine Val.u8 (by omega) (by omega) ?_
      | with_reducible refine Val.u32 (by omega) (by omega) ?_
      | with_reducible refine Val.u64 (by omega) (by omega) ?_
      | with_reducible refine Val.u8m ?_
      | with_reducible refine Val.u32m ?_
      | with_reducible refine Val.u64m ?_
      | with_reducible refine Val.shr8 ?_
      | with_reducible refine Val.shr16 (by decide) ?_
      | with_reducible refine Val.shr24 (by decide) ?_
      | with_reducible refine Val.raw ?_
      | refine Branch.not ?_
      | refine Branch.and ?_
      | refine Branch.or ?_
      | refine Branch.dt (by assumption) ?_
      | refine Branch.df (by assumption) ?_
      | refine Branch.dt rfl ?_
      | refine Branch.dt (by omega) ?_
      | refine Branch.df (by omega) ?_
      | refine Branch.t rfl ?_
      | refine Branch.f rfl ?_
      | refine Branch.t (by assumption) ?_
      | refine Branch.f (by assumption) ?_
      | refine Branch.d (fun _ => ?_) (fun _ => ?_)
      | refine Branch.mk (fun _ => ?_) (fun _ => ?_)
      | refine Need.mk (by first | omega | decide | rfl) ?_
      | refine Idx.nat (by omega) ?_
      | refine Idx.auto (by first | omega | decide) (by first | omega | decide) ?_
      | refine Cell.ro rfl ?_
      | refine SDraw.all (by kernel_rfl) ?_
      | refine Kept.k0 ?_
      | refine Kept.k1 ?_
      | refine Kept.k2 ?_
      | refine Kept.k3 ?_
      | refine Kept.k4 ?_))
  all_goals (conv => whnf)
  all_goals exact Keep.all h
theorem c22 (h0 : s.found = false → K (.tuple ⟨[.agg ⟨[.int .u32 0, .int .u32 0, .int .u32 0, .int .u32 0]⟩, .bool false]⟩) [(g, s.row)])
    (h1 : s.found = true → K (.tuple ⟨[.agg ⟨[.int .u32 s.k0, .int .u32 s.k1, .int .u32 s.k2, .int .u32 s.k3]⟩, .bool true]⟩) [(g, s.row)]) : SCalls Try.prog 22 [.pointer (some ⟨g, 0, none⟩)] [(g, s.row)] K := by
  refine enter22 ?_
  unfold Sc.row at *
  repeat' ((conv => whnf); (first
      | refine New.mk (fun _ => ?_)
      | refine Look.at0 ?_
      | refine Cell.row ?_
      | refine Cell.buf ?_
      | refine Cells.row rfl ?_
      | refine Put.row rfl ?_
      | refine Put.buf rfl ?_
      | refine Look.at1 ?_
      | refine Look.at2 ?_
      | refine Look.at3 ?_
      | refine Look.at4 ?_
      | refine Look.at5 ?_
      | refine Look.at6 ?_
      | refine Look.at7 ?_
      | refine Look.at8 ?_
      | with_reducible refine Val.i64 (by omega) (by omega) ?_
      | with_reducible refine Val.u8 (by omega) (by omega) ?_
      | with_reducible refine Val.u32 (by omega) (by omega) ?_
      | with_reducible refine Val.u64 (by omega) (by omega) ?_
      | with_reducible refine Val.u8m ?_
      | with_reducible refine Val.u32m ?_
      | with_reducible refine Val.u64m ?_
      | with_reducible refine Val.shr8 ?_
      | with_reducible refine Val.shr16 (by decide) ?_
      | with_reducible refine Val.shr24 (by decide) ?_
      | with_reducible refine Val.raw ?_
      | refine Branch.not ?_
      | refine Branch.and ?_
      | refine Branch.or ?_
      | refine Branch.dt (by assumption) ?_
      | refine Branch.df (by assumption) ?_
      | refine Branch.dt rfl ?_
      | refine Branch.dt (by omega) ?_
      | refine Branch.df (by omega) ?_
      | refine Branch.t rfl ?_
      | refine Branch.f rfl ?_
      | refine Branch.t (by assumption) ?_
      | refine Branch.f (by assumption) ?_
      | refine Branch.d (fun _ => ?_) (fun _ => ?_)
      | refine Branch.mk (fun _ => ?_) (fun _ => ?_)
      | refine Need.mk (by first | omega | decide | rfl) ?_
      | refine Idx.nat (by omega) ?_
      | refine Idx.auto (by first | omega | decide) (by first | omega | decide) ?_
      | refine Cell.ro rfl ?_
      | refine SDraw.all (by kernel_rfl) ?_
      | refine Kept.k0 ?_
      | refine Kept.k1 ?_
      | refine Kept.k2 ?_
      | refine Kept.k3 ?_
      | refine Kept.k4 ?_))
  all_goals (conv => whnf)
  all_goals first
    | exact Keep.d1 (h0 (by assumption))
    | exact Keep.d1 (h1 (by assumption))
    | trace_state
/-- What a scan asks. -/
theorem c20 (hs : s.Ok) (h0 : s.ph = 3 → K (.tuple ⟨[fr8 0 0 0 0 0 0 0 0, .bool false]⟩) [(g, s.row)])
    (h1 : s.ph ≠ 3 → K (.tuple ⟨[s.q.val, .bool true]⟩) [(g, Sc.row { s with asked := true })]) : SCalls Try.prog 20 [.pointer (some ⟨g, 0, none⟩)] [(g, s.row)] K := by
  refine enter20 ?_
  obtain ⟨ph, pa, bi, k0, k1, k2, k3, found, asked, took⟩ := s
  obtain ⟨hst, hnf, htk, hr0, hr1, hr2, hr3⟩ := hs
  simp only [] at hst hnf htk hr0 hr1 hr2 hr3 h0 h1
  have hmod : ∀ n : Int, 0 ≤ n → n ≤ 3 → Int.tmod (n + 1) 4 = (n + 1) % 4 := fun n h _ => Int.tmod_eq_emod_of_nonneg (by omega)
  rcases hst with ⟨rfl, rfl, rfl, rfl, rfl⟩ | ⟨rfl, hp0, hp3, hb0, hb3, rfl⟩ | ⟨rfl, hp0, hp3, rfl, rfl⟩ | ⟨rfl, rfl⟩
  · have h1 := h1 (by decide)
    dsimp only [Sc.row] at h1 ⊢
    repeat' ((conv => whnf); (first
        | refine RawV.min2 (k := .i64) (k' := .i64) (m := 0) rfl (by decide) ?_
        | refine Ls.c9 _ _ (by omega) ?_
        | refine And.intro ?_ ?_
        | refine Kept.sub (List.sublist_append_right [_] _) ?_
        | refine New.mk (fun _ => ?_)
        | refine Look.at0 ?_
        | refine Cell.row ?_
        | refine Cell.buf ?_
        | refine Cells.row rfl ?_
        | refine Put.row rfl ?_
        | refine Put.buf rfl ?_
        | refine Look.at1 ?_
        | refine Look.at2 ?_
        | refine Look.at3 ?_
        | refine Look.at4 ?_
        | refine Look.at5 ?_
        | refine Look.at6 ?_
        | refine Look.at7 ?_
        | refine Look.at8 ?_
        | with_reducible refine Val.i64 (by omega) (by omega) ?_
        | with_reducible refine Val.u8 (by omega) (by omega) ?_
        | with_reducible refine Val.u32 (by omega) (by omega) ?_
        | with_reducible refine Val.u64 (by omega) (by omega) ?_
        | with_reducible refine Val.u8m ?_
        | with_reducible refine Val.u32m ?_
        | with_reducible refine Val.u64m ?_
        | with_reducible refine Val.shr8 ?_
        | with_reducible refine Val.shr16 (by decide) ?_
        | with_reducible refine Val.shr24 (by decide) ?_
        | with_reducible refine Val.raw ?_
        | refine Branch.not ?_
        | refine Branch.and ?_
        | refine Branch.or ?_
        | refine Branch.dt (by assumption) ?_
        | refine Branch.df (by assumption) ?_
        | refine Branch.dt rfl ?_
        | refine Branch.dt (by omega) ?_
        | refine Branch.df (by omega) ?_
        | refine Branch.t rfl ?_
        | refine Branch.f rfl ?_
        | refine Branch.t (by assumption) ?_
        | refine Branch.f (by assumption) ?_
        | refine Branch.d (fun _ => ?_) (fun _ => ?_)
        | refine Branch.mk (fun _ => ?_) (fun _ => ?_)
        | refine Need.mk (by first | omega | decide | rfl) ?_
        | refine Idx.nat (by omega) ?_
        | refine Idx.auto (by first | omega | decide) (by first | omega | decide) ?_
        | refine Cell.ro rfl ?_
        | refine SDraw.all (by kernel_rfl) ?_
        | refine Kept.k0 ?_
        | refine Kept.k1 ?_
        | refine Kept.k2 ?_
        | refine Kept.k3 ?_
        | refine Kept.k4 ?_))
    all_goals (conv => whnf)
    all_goals exact Keep.d2 h1
  · obtain rfl | rfl | rfl | rfl : pa = 0 ∨ pa = 1 ∨ pa = 2 ∨ pa = 3 := by omega
    · have h1 := h1 (by decide)
      dsimp only [Sc.row] at h1 ⊢
      repeat' ((conv => whnf); (first
          | refine RawV.min2 (k := .i64) (k' := .i64) (m := 0) rfl (by decide) ?_
          | refine Ls.c9 _ _ (by omega) ?_
          | refine And.intro ?_ ?_
          | refine Kept.sub (List.sublist_append_right [_] _) ?_
          | refine SDraw.held (by kernel_rfl) [_, _] (.same (.tail _ (.head _)) (.same (.tail _ (.tail _ (.head _))) .nil)) ?_
          | refine New.mk (fun _ => ?_)
          | refine Look.at0 ?_
          | refine Cell.row ?_
          | refine Cell.buf ?_
          | refine Cells.row rfl ?_
          | refine Put.row rfl ?_
          | refine Put.buf rfl ?_
          | refine Look.at1 ?_
          | refine Look.at2 ?_
          | refine Look.at3 ?_
          | refine Look.at4 ?_
          | refine Look.at5 ?_
          | refine Look.at6 ?_
          | refine Look.at7 ?_
          | refine Look.at8 ?_
          | with_reducible refine Val.i64 (by omega) (by omega) ?_
          | with_reducible refine Val.u8 (by omega) (by omega) ?_
          | with_reducible refine Val.u32 (by omega) (by omega) ?_
          | with_reducible refine Val.u64 (by omega) (by omega) ?_
          | with_reducible refine Val.u8m ?_
          | with_reducible refine Val.u32m ?_
          | with_reducible refine Val.u64m ?_
          | with_reducible refine Val.shr8 ?_
          | with_reducible refine Val.shr16 (by decide) ?_
          | with_reducible refine Val.shr24 (by decide) ?_
          | with_reducible refine Val.raw ?_
          | refine Branch.not ?_
          | refine Branch.and ?_
          | refine Branch.or ?_
          | refine Branch.dt (by assumption) ?_
          | refine Branch.df (by assumption) ?_
          | refine Branch.dt rfl ?_
          | refine Branch.dt (by omega) ?_
          | refine Branch.df (by omega) ?_
          | refine Branch.t rfl ?_
          | refine Branch.f rfl ?_
          | refine Branch.t (by assumption) ?_
          | refine Branch.f (by assumption) ?_
          | refine Branch.d (fun _ => ?_) (fun _ => ?_)
          | refine Branch.mk (fun _ => ?_) (fun _ => ?_)
          | refine Need.mk (by first | omega | decide | rfl) ?_
          | refine Idx.nat (by omega) ?_
          | refine Idx.auto (by first | omega | decide) (by first | omega | decide) ?_
          | refine Cell.ro rfl ?_
          | refine SDraw.all (by kernel_rfl) ?_
          | refine Kept.k0 ?_
          | refine Kept.k1 ?_
          | refine Kept.k2 ?_
          | refine Kept.k3 ?_
          | refine Kept.k4 ?_))
      all_goals (conv => whnf)
      all_goals first
        | exact Keep.d2 h1
        | trace_state
    · have h1 := h1 (by decide)
      dsimp only [Sc.row] at h1 ⊢
      repeat' ((conv => whnf); (first
          | refine RawV.min2 (k := .i64) (k' := .i64) (m := 1) rfl (by decide) ?_
          | refine Ls.c9 _ _ (by omega) ?_
          | refine And.intro ?_ ?_
          | refine Kept.sub (List.sublist_append_right [_] _) ?_
          | refine SDraw.held (by kernel_rfl) [_, _] (.same (.tail _ (.head _)) (.same (.tail _ (.tail _ (.head _))) .nil)) ?_
          | refine New.mk (fun _ => ?_)
          | refine Look.at0 ?_
          | refine Cell.row ?_
          | refine Cell.buf ?_
          | refine Cells.row rfl ?_
          | refine Put.row rfl ?_
          | refine Put.buf rfl ?_
          | refine Look.at1 ?_
          | refine Look.at2 ?_
          | refine Look.at3 ?_
          | refine Look.at4 ?_
          | refine Look.at5 ?_
          | refine Look.at6 ?_
          | refine Look.at7 ?_
          | refine Look.at8 ?_
          | with_reducible refine Val.i64 (by omega) (by omega) ?_
          | with_reducible refine Val.u8 (by omega) (by omega) ?_
          | with_reducible refine Val.u32 (by omega) (by omega) ?_
          | with_reducible refine Val.u64 (by omega) (by omega) ?_
          | with_reducible refine Val.u8m ?_
          | with_reducible refine Val.u32m ?_
          | with_reducible refine Val.u64m ?_
          | with_reducible refine Val.shr8 ?_
          | with_reducible refine Val.shr16 (by decide) ?_
          | with_reducible refine Val.shr24 (by decide) ?_
          | with_reducible refine Val.raw ?_
          | refine Branch.not ?_
          | refine Branch.and ?_
          | refine Branch.or ?_
          | refine Branch.dt (by assumption) ?_
          | refine Branch.df (by assumption) ?_
          | refine Branch.dt rfl ?_
          | refine Branch.dt (by omega) ?_
          | refine Branch.df (by omega) ?_
          | refine Branch.t rfl ?_
          | refine Branch.f rfl ?_
          | refine Branch.t (by assumption) ?_
          | refine Branch.f (by assumption) ?_
          | refine Branch.d (fun _ => ?_) (fun _ => ?_)
          | refine Branch.mk (fun _ => ?_) (fun _ => ?_)
          | refine Need.mk (by first | omega | decide | rfl) ?_
          | refine Idx.nat (by omega) ?_
          | refine Idx.auto (by first | omega | decide) (by first | omega | decide) ?_
          | refine Cell.ro rfl ?_
          | refine SDraw.all (by kernel_rfl) ?_
          | refine Kept.k0 ?_
          | refine Kept.k1 ?_
          | refine Kept.k2 ?_
          | refine Kept.k3 ?_
          | refine Kept.k4 ?_))
      all_goals (conv => whnf)
      all_goals first
        | exact Keep.d2 h1
        | trace_state
    · have h1 := h1 (by decide)
      dsimp only [Sc.row] at h1 ⊢
      repeat' ((conv => whnf); (first
          | refine RawV.min2 (k := .i64) (k' := .i64) (m := 2) rfl (by decide) ?_
          | refine Ls.c9 _ _ (by omega) ?_
          | refine And.intro ?_ ?_
          | refine Kept.sub (List.sublist_append_right [_] _) ?_
          | refine SDraw.held (by kernel_rfl) [_, _] (.same (.tail _ (.head _)) (.same (.tail _ (.tail _ (.head _))) .nil)) ?_
          | refine New.mk (fun _ => ?_)
          | refine Look.at0 ?_
          | refine Cell.row ?_
          | refine Cell.buf ?_
          | refine Cells.row rfl ?_
          | refine Put.row rfl ?_
          | refine Put.buf rfl ?_
          | refine Look.at1 ?_
          | refine Look.at2 ?_
          | refine Look.at3 ?_
          | refine Look.at4 ?_
          | refine Look.at5 ?_
          | refine Look.at6 ?_
          | refine Look.at7 ?_
          | refine Look.at8 ?_
          | with_reducible refine Val.i64 (by omega) (by omega) ?_
          | with_reducible refine Val.u8 (by omega) (by omega) ?_
          | with_reducible refine Val.u32 (by omega) (by omega) ?_
          | with_reducible refine Val.u64 (by omega) (by omega) ?_
          | with_reducible refine Val.u8m ?_
          | with_reducible refine Val.u32m ?_
          | with_reducible refine Val.u64m ?_
          | with_reducible refine Val.shr8 ?_
          | with_reducible refine Val.shr16 (by decide) ?_
          | with_reducible refine Val.shr24 (by decide) ?_
          | with_reducible refine Val.raw ?_
          | refine Branch.not ?_
          | refine Branch.and ?_
          | refine Branch.or ?_
          | refine Branch.dt (by assumption) ?_
          | refine Branch.df (by assumption) ?_
          | refine Branch.dt rfl ?_
          | refine Branch.dt (by omega) ?_
          | refine Branch.df (by omega) ?_
          | refine Branch.t rfl ?_
          | refine Branch.f rfl ?_
          | refine Branch.t (by assumption) ?_
          | refine Branch.f (by assumption) ?_
          | refine Branch.d (fun _ => ?_) (fun _ => ?_)
          | refine Branch.mk (fun _ => ?_) (fun _ => ?_)
          | refine Need.mk (by first | omega | decide | rfl) ?_
          | refine Idx.nat (by omega) ?_
          | refine Idx.auto (by first | omega | decide) (by first | omega | decide) ?_
          | refine Cell.ro rfl ?_
          | refine SDraw.all (by kernel_rfl) ?_
          | refine Kept.k0 ?_
          | refine Kept.k1 ?_
          | refine Kept.k2 ?_
          | refine Kept.k3 ?_
          | refine Kept.k4 ?_))
      all_goals (conv => whnf)
      all_goals first
        | exact Keep.d2 h1
        | trace_state
    · have h1 := h1 (by decide)
      dsimp only [Sc.row] at h1 ⊢
      repeat' ((conv => whnf); (first
          | refine RawV.min2 (k := .i64) (k' := .i64) (m := 3) rfl (by decide) ?_
          | refine Ls.c9 _ _ (by omega) ?_
          | refine And.intro ?_ ?_
          | refine Kept.sub (List.sublist_append_right [_] _) ?_
          | refine SDraw.held (by kernel_rfl) [_, _] (.same (.tail _ (.head _)) (.same (.tail _ (.tail _ (.head _))) .nil)) ?_
          | refine New.mk (fun _ => ?_)
          | refine Look.at0 ?_
          | refine Cell.row ?_
          | refine Cell.buf ?_
          | refine Cells.row rfl ?_
          | refine Put.row rfl ?_
          | refine Put.buf rfl ?_
          | refine Look.at1 ?_
          | refine Look.at2 ?_
          | refine Look.at3 ?_
          | refine Look.at4 ?_
          | refine Look.at5 ?_
          | refine Look.at6 ?_
          | refine Look.at7 ?_
          | refine Look.at8 ?_
          | with_reducible refine Val.i64 (by omega) (by omega) ?_
          | with_reducible refine Val.u8 (by omega) (by omega) ?_
          | with_reducible refine Val.u32 (by omega) (by omega) ?_
          | with_reducible refine Val.u64 (by omega) (by omega) ?_
          | with_reducible refine Val.u8m ?_
          | with_reducible refine Val.u32m ?_
          | with_reducible refine Val.u64m ?_
          | with_reducible refine Val.shr8 ?_
          | with_reducible refine Val.shr16 (by decide) ?_
          | with_reducible refine Val.shr24 (by decide) ?_
          | with_reducible refine Val.raw ?_
          | refine Branch.not ?_
          | refine Branch.and ?_
          | refine Branch.or ?_
          | refine Branch.dt (by assumption) ?_
          | refine Branch.df (by assumption) ?_
          | refine Branch.dt rfl ?_
          | refine Branch.dt (by omega) ?_
          | refine Branch.df (by omega) ?_
          | refine Branch.t rfl ?_
          | refine Branch.f rfl ?_
          | refine Branch.t (by assumption) ?_
          | refine Branch.f (by assumption) ?_
          | refine Branch.d (fun _ => ?_) (fun _ => ?_)
          | refine Branch.mk (fun _ => ?_) (fun _ => ?_)
          | refine Need.mk (by first | omega | decide | rfl) ?_
          | refine Idx.nat (by omega) ?_
          | refine Idx.auto (by first | omega | decide) (by first | omega | decide) ?_
          | refine Cell.ro rfl ?_
          | refine SDraw.all (by kernel_rfl) ?_
          | refine Kept.k0 ?_
          | refine Kept.k1 ?_
          | refine Kept.k2 ?_
          | refine Kept.k3 ?_
          | refine Kept.k4 ?_))
      all_goals (conv => whnf)
      all_goals first
        | exact Keep.d2 h1
        | trace_state
  · obtain rfl | rfl | rfl | rfl : pa = 0 ∨ pa = 1 ∨ pa = 2 ∨ pa = 3 := by omega
    · have h1 := h1 (by decide)
      dsimp only [Sc.row] at h1 ⊢
      repeat' ((conv => whnf); (first
          | refine RawV.min2 (k := .i64) (k' := .i64) (m := 0) rfl (by decide) ?_
          | refine Ls.c9 _ _ (by omega) ?_
          | refine And.intro ?_ ?_
          | refine Kept.sub (List.sublist_append_right [_] _) ?_
          | refine SDraw.held (by kernel_rfl) [_, _] (.same (.tail _ (.head _)) (.same (.tail _ (.tail _ (.head _))) .nil)) ?_
          | refine New.mk (fun _ => ?_)
          | refine Look.at0 ?_
          | refine Cell.row ?_
          | refine Cell.buf ?_
          | refine Cells.row rfl ?_
          | refine Put.row rfl ?_
          | refine Put.buf rfl ?_
          | refine Look.at1 ?_
          | refine Look.at2 ?_
          | refine Look.at3 ?_
          | refine Look.at4 ?_
          | refine Look.at5 ?_
          | refine Look.at6 ?_
          | refine Look.at7 ?_
          | refine Look.at8 ?_
          | with_reducible refine Val.i64 (by omega) (by omega) ?_
          | with_reducible refine Val.u8 (by omega) (by omega) ?_
          | with_reducible refine Val.u32 (by omega) (by omega) ?_
          | with_reducible refine Val.u64 (by omega) (by omega) ?_
          | with_reducible refine Val.u8m ?_
          | with_reducible refine Val.u32m ?_
          | with_reducible refine Val.u64m ?_
          | with_reducible refine Val.shr8 ?_
          | with_reducible refine Val.shr16 (by decide) ?_
          | with_reducible refine Val.shr24 (by decide) ?_
          | with_reducible refine Val.raw ?_
          | refine Branch.not ?_
          | refine Branch.and ?_
          | refine Branch.or ?_
          | refine Branch.dt (by assumption) ?_
          | refine Branch.df (by assumption) ?_
          | refine Branch.dt rfl ?_
          | refine Branch.dt (by omega) ?_
          | refine Branch.df (by omega) ?_
          | refine Branch.t rfl ?_
          | refine Branch.f rfl ?_
          | refine Branch.t (by assumption) ?_
          | refine Branch.f (by assumption) ?_
          | refine Branch.d (fun _ => ?_) (fun _ => ?_)
          | refine Branch.mk (fun _ => ?_) (fun _ => ?_)
          | refine Need.mk (by first | omega | decide | rfl) ?_
          | refine Idx.nat (by omega) ?_
          | refine Idx.auto (by first | omega | decide) (by first | omega | decide) ?_
          | refine Cell.ro rfl ?_
          | refine SDraw.all (by kernel_rfl) ?_
          | refine Kept.k0 ?_
          | refine Kept.k1 ?_
          | refine Kept.k2 ?_
          | refine Kept.k3 ?_
          | refine Kept.k4 ?_))
      all_goals (conv => whnf)
      all_goals first
        | exact Keep.d2 h1
        | trace_state
    · have h1 := h1 (by decide)
      dsimp only [Sc.row] at h1 ⊢
      repeat' ((conv => whnf); (first
          | refine RawV.min2 (k := .i64) (k' := .i64) (m := 1) rfl (by decide) ?_
          | refine Ls.c9 _ _ (by omega) ?_
          | refine And.intro ?_ ?_
          | refine Kept.sub (List.sublist_append_right [_] _) ?_
          | refine SDraw.held (by kernel_rfl) [_, _] (.same (.tail _ (.head _)) (.same (.tail _ (.tail _ (.head _))) .nil)) ?_
          | refine New.mk (fun _ => ?_)
          | refine Look.at0 ?_
          | refine Cell.row ?_
          | refine Cell.buf ?_
          | refine Cells.row rfl ?_
          | refine Put.row rfl ?_
          | refine Put.buf rfl ?_
          | refine Look.at1 ?_
          | refine Look.at2 ?_
          | refine Look.at3 ?_
          | refine Look.at4 ?_
          | refine Look.at5 ?_
          | refine Look.at6 ?_
          | refine Look.at7 ?_
          | refine Look.at8 ?_
          | with_reducible refine Val.i64 (by omega) (by omega) ?_
          | with_reducible refine Val.u8 (by omega) (by omega) ?_
          | with_reducible refine Val.u32 (by omega) (by omega) ?_
          | with_reducible refine Val.u64 (by omega) (by omega) ?_
          | with_reducible refine Val.u8m ?_
          | with_reducible refine Val.u32m ?_
          | with_reducible refine Val.u64m ?_
          | with_reducible refine Val.shr8 ?_
          | with_reducible refine Val.shr16 (by decide) ?_
          | with_reducible refine Val.shr24 (by decide) ?_
          | with_reducible refine Val.raw ?_
          | refine Branch.not ?_
          | refine Branch.and ?_
          | refine Branch.or ?_
          | refine Branch.dt (by assumption) ?_
          | refine Branch.df (by assumption) ?_
          | refine Branch.dt rfl ?_
          | refine Branch.dt (by omega) ?_
          | refine Branch.df (by omega) ?_
          | refine Branch.t rfl ?_
          | refine Branch.f rfl ?_
          | refine Branch.t (by assumption) ?_
          | refine Branch.f (by assumption) ?_
          | refine Branch.d (fun _ => ?_) (fun _ => ?_)
          | refine Branch.mk (fun _ => ?_) (fun _ => ?_)
          | refine Need.mk (by first | omega | decide | rfl) ?_
          | refine Idx.nat (by omega) ?_
          | refine Idx.auto (by first | omega | decide) (by first | omega | decide) ?_
          | refine Cell.ro rfl ?_
          | refine SDraw.all (by kernel_rfl) ?_
          | refine Kept.k0 ?_
          | refine Kept.k1 ?_
          | refine Kept.k2 ?_
          | refine Kept.k3 ?_
          | refine Kept.k4 ?_))
      all_goals (conv => whnf)
      all_goals first
        | exact Keep.d2 h1
        | trace_state
    · have h1 := h1 (by decide)
      dsimp only [Sc.row] at h1 ⊢
      repeat' ((conv => whnf); (first
          | refine RawV.min2 (k := .i64) (k' := .i64) (m := 2) rfl (by decide) ?_
          | refine Ls.c9 _ _ (by omega) ?_
          | refine And.intro ?_ ?_
          | refine Kept.sub (List.sublist_append_right [_] _) ?_
          | refine SDraw.held (by kernel_rfl) [_, _] (.same (.tail _ (.head _)) (.same (.tail _ (.tail _ (.head _))) .nil)) ?_
          | refine New.mk (fun _ => ?_)
          | refine Look.at0 ?_
          | refine Cell.row ?_
          | refine Cell.buf ?_
          | refine Cells.row rfl ?_
          | refine Put.row rfl ?_
          | refine Put.buf rfl ?_
          | refine Look.at1 ?_
          | refine Look.at2 ?_
          | refine Look.at3 ?_
          | refine Look.at4 ?_
          | refine Look.at5 ?_
          | refine Look.at6 ?_
          | refine Look.at7 ?_
          | refine Look.at8 ?_
          | with_reducible refine Val.i64 (by omega) (by omega) ?_
          | with_reducible refine Val.u8 (by omega) (by omega) ?_
          | with_reducible refine Val.u32 (by omega) (by omega) ?_
          | with_reducible refine Val.u64 (by omega) (by omega) ?_
          | with_reducible refine Val.u8m ?_
          | with_reducible refine Val.u32m ?_
          | with_reducible refine Val.u64m ?_
          | with_reducible refine Val.shr8 ?_
          | with_reducible refine Val.shr16 (by decide) ?_
          | with_reducible refine Val.shr24 (by decide) ?_
          | with_reducible refine Val.raw ?_
          | refine Branch.not ?_
          | refine Branch.and ?_
          | refine Branch.or ?_
          | refine Branch.dt (by assumption) ?_
          | refine Branch.df (by assumption) ?_
          | refine Branch.dt rfl ?_
          | refine Branch.dt (by omega) ?_
          | refine Branch.df (by omega) ?_
          | refine Branch.t rfl ?_
          | refine Branch.f rfl ?_
          | refine Branch.t (by assumption) ?_
          | refine Branch.f (by assumption) ?_
          | refine Branch.d (fun _ => ?_) (fun _ => ?_)
          | refine Branch.mk (fun _ => ?_) (fun _ => ?_)
          | refine Need.mk (by first | omega | decide | rfl) ?_
          | refine Idx.nat (by omega) ?_
          | refine Idx.auto (by first | omega | decide) (by first | omega | decide) ?_
          | refine Cell.ro rfl ?_
          | refine SDraw.all (by kernel_rfl) ?_
          | refine Kept.k0 ?_
          | refine Kept.k1 ?_
          | refine Kept.k2 ?_
          | refine Kept.k3 ?_
          | refine Kept.k4 ?_))
      all_goals (conv => whnf)
      all_goals first
        | exact Keep.d2 h1
        | trace_state
    · have h1 := h1 (by decide)
      dsimp only [Sc.row] at h1 ⊢
      repeat' ((conv => whnf); (first
          | refine RawV.min2 (k := .i64) (k' := .i64) (m := 3) rfl (by decide) ?_
          | refine Ls.c9 _ _ (by omega) ?_
          | refine And.intro ?_ ?_
          | refine Kept.sub (List.sublist_append_right [_] _) ?_
          | refine SDraw.held (by kernel_rfl) [_, _] (.same (.tail _ (.head _)) (.same (.tail _ (.tail _ (.head _))) .nil)) ?_
          | refine New.mk (fun _ => ?_)
          | refine Look.at0 ?_
          | refine Cell.row ?_
          | refine Cell.buf ?_
          | refine Cells.row rfl ?_
          | refine Put.row rfl ?_
          | refine Put.buf rfl ?_
          | refine Look.at1 ?_
          | refine Look.at2 ?_
          | refine Look.at3 ?_
          | refine Look.at4 ?_
          | refine Look.at5 ?_
          | refine Look.at6 ?_
          | refine Look.at7 ?_
          | refine Look.at8 ?_
          | with_reducible refine Val.i64 (by omega) (by omega) ?_
          | with_reducible refine Val.u8 (by omega) (by omega) ?_
          | with_reducible refine Val.u32 (by omega) (by omega) ?_
          | with_reducible refine Val.u64 (by omega) (by omega) ?_
          | with_reducible refine Val.u8m ?_
          | with_reducible refine Val.u32m ?_
          | with_reducible refine Val.u64m ?_
          | with_reducible refine Val.shr8 ?_
          | with_reducible refine Val.shr16 (by decide) ?_
          | with_reducible refine Val.shr24 (by decide) ?_
          | with_reducible refine Val.raw ?_
          | refine Branch.not ?_
          | refine Branch.and ?_
          | refine Branch.or ?_
          | refine Branch.dt (by assumption) ?_
          | refine Branch.df (by assumption) ?_
          | refine Branch.dt rfl ?_
          | refine Branch.dt (by omega) ?_
          | refine Branch.df (by omega) ?_
          | refine Branch.t rfl ?_
          | refine Branch.f rfl ?_
          | refine Branch.t (by assumption) ?_
          | refine Branch.f (by assumption) ?_
          | refine Branch.d (fun _ => ?_) (fun _ => ?_)
          | refine Branch.mk (fun _ => ?_) (fun _ => ?_)
          | refine Need.mk (by first | omega | decide | rfl) ?_
          | refine Idx.nat (by omega) ?_
          | refine Idx.auto (by first | omega | decide) (by first | omega | decide) ?_
          | refine Cell.ro rfl ?_
          | refine SDraw.all (by kernel_rfl) ?_
          | refine Kept.k0 ?_
          | refine Kept.k1 ?_
          | refine Kept.k2 ?_
          | refine Kept.k3 ?_
          | refine Kept.k4 ?_))
      all_goals (conv => whnf)
      all_goals first
        | exact Keep.d2 h1
        | trace_state
  · have h0 := h0 rfl
    dsimp only [Sc.row] at h0 ⊢
    repeat' ((conv => whnf); (first
        | refine New.mk (fun _ => ?_)
        | refine Look.at0 ?_
        | refine Cell.row ?_
        | refine Cell.buf ?_
        | refine Cells.row rfl ?_
        | refine Put.row rfl ?_
        | refine Put.buf rfl ?_
        | refine Look.at1 ?_
        | refine Look.at2 ?_
        | refine Look.at3 ?_
        | refine Look.at4 ?_
        | refine Look.at5 ?_
        | refine Look.at6 ?_
        | refine Look.at7 ?_
        | refine Look.at8 ?_
        | with_reducible refine Val.i64 (by omega) (by omega) ?_
        | with_reducible refine Val.u8 (by omega) (by omega) ?_
        | with_reducible refine Val.u32 (by omega) (by omega) ?_
        | with_reducible refine Val.u64 (by omega) (by omega) ?_
        | with_reducible refine Val.u8m ?_
        | with_reducible refine Val.u32m ?_
        | with_reducible refine Val.u64m ?_
        | with_reducible refine Val.shr8 ?_
        | with_reducible refine Val.shr16 (by decide) ?_
        | with_reducible refine Val.shr24 (by decide) ?_
        | with_reducible refine Val.raw ?_
        | refine Branch.not ?_
        | refine Branch.and ?_
        | refine Branch.or ?_
        | refine Branch.dt (by assumption) ?_
        | refine Branch.df (by assumption) ?_
        | refine Branch.dt rfl ?_
        | refine Branch.dt (by omega) ?_
        | refine Branch.df (by omega) ?_
        | refine Branch.t rfl ?_
        | refine Branch.f rfl ?_
        | refine Branch.t (by assumption) ?_
        | refine Branch.f (by assumption) ?_
        | refine Branch.d (fun _ => ?_) (fun _ => ?_)
        | refine Branch.mk (fun _ => ?_) (fun _ => ?_)
        | refine Need.mk (by first | omega | decide | rfl) ?_
        | refine Idx.nat (by omega) ?_
        | refine Idx.auto (by first | omega | decide) (by first | omega | decide) ?_
        | refine Cell.ro rfl ?_
        | refine SDraw.all (by kernel_rfl) ?_
        | refine Kept.k0 ?_
        | refine Kept.k1 ?_
        | refine Kept.k2 ?_
        | refine Kept.k3 ?_
        | refine Kept.k4 ?_))
    all_goals (conv => whnf)
    all_goals exact Keep.d1 h0
end
end Go.Proofs.Ytkegkhhfbfegoaa
