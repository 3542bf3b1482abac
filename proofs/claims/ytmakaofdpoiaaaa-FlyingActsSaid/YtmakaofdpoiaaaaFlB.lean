/- Layer 24: who has waited; how one begins; a tick: by walks. -/
import Derived.Test.YtmakaofdpoiaaaaFlA
set_option linter.unusedVariables false
set_option linter.unusedSimpArgs false
set_option maxRecDepth 100000
set_option maxHeartbeats 4000000
namespace Go.Proofs.Ytmakaofdpoiaaaa
open Sx
abbrev PM := Nat × M
def stepC (best : Option PM) (x : PM) : Option PM :=
  if x.2.is = 1 ∧ x.2.left = 0 then (match best with | none => some x | some b => if ord x.2.prio x.2.node b.2.prio b.2.node < 0 then some x else some b) else best
def claimF (ms : List PM) : Option PM := ms.foldl stepC none
def optV : Option PM → Value | none => .pointer none | some x => pr x
theorem fold_succ {ms : List PM} {j : Nat} {x : PM} (hx : ms[j]? = some x) : (ms.take (j + 1)).foldl stepC none = stepC ((ms.take j).foldl stepC none) x := by
  obtain ⟨hlt, rfl⟩ := List.getElem?_eq_some_iff.1 hx
  rw [List.take_succ_eq_append_getElem hlt, List.foldl_append]; rfl
theorem stepC_no {best : Option PM} {x : PM} (h : ¬ (x.2.is = 1 ∧ x.2.left = 0)) : stepC best x = best := if_neg h
theorem stepC_first {x : PM} (h1 : x.2.is = 1) (h2 : x.2.left = 0) : stepC none x = some x := if_pos ⟨h1, h2⟩
theorem stepC_less {x b : PM} (h1 : x.2.is = 1) (h2 : x.2.left = 0) (h3 : ord x.2.prio x.2.node b.2.prio b.2.node < 0) : stepC (some b) x = some x := (if_pos ⟨h1, h2⟩).trans (if_pos h3)
theorem stepC_keep {x b : PM} (h3 : ¬ ord x.2.prio x.2.node b.2.prio b.2.node < 0) : stepC (some b) x = some b := by
  unfold stepC; split
  · exact if_neg h3
  · rfl
def netR (g : Nat) (a : Option Addr) (n cap : Nat) (slot lost : Int) : Nat × Blk := (g, .row 60 [.slice a n cap, .int .u64 slot, .int .u64 lost] (0, 0))
inductive Sl30 (A3 A9 A10 A11 : Value) : List Value → Prop
  | mk {r0 r1 r2 r4 r5 r6 r7 r8 r12 r13 r14 r15 r16 r17 r18 r19 r20 r21 r22 r23 r24 r25 r26 r27 r28 r29 r30 r31 r32 r33 r34 r35 r36 r37 r38 r39 r40 r41 r42 r43 r44 r45 : Value} : Sl30 A3 A9 A10 A11 [r0, r1, r2, A3, r4, r5, r6, r7, r8, A9, A10, A11, r12, r13, r14, r15, r16, r17, r18, r19, r20, r21, r22, r23, r24, r25, r26, r27, r28, r29, r30, r31, r32, r33, r34, r35, r36, r37, r38, r39, r40, r41, r42, r43, r44, r45]
def I30 (g : Nat) (r cap : Nat) (Bh : Nat × Blk) (slot lost : Int) (ms : List PM) (l : List Value) (H : Heap) : Prop :=
  ∃ (j : Nat) (best : Option PM), j ≤ ms.length ∧ best = (ms.take j).foldl stepC none ∧ (∀ x, best = some x → ∃ i : Nat, ms[i]? = some x) ∧ Sl30 (optV best) (.slice (some ⟨r, 0, none⟩) ms.length cap) (.int .i64 (ms.length : Int)) (.int .i64 (j : Int)) l ∧ H = netR g (some ⟨r, 0, none⟩) ms.length cap slot lost :: Bh :: ms.map rw_
noncomputable def M30 (n : Nat) (l : List Value) (_ : Heap) : Nat := n - (match getL l 11 with | .int _ i => i.toNat | _ => 0)
section
variable {K : Value → Heap → Prop} {g r cap : Nat} {slot lost : Int} {ms : List PM}
theorem c30 (hlen : ms.length ≤ 8) (h0 : claimF ms = none → K (.pointer none) (netR g (some ⟨r, 0, none⟩) ms.length cap slot lost :: (r, .buf 61 (ms.map pr) (cap * 1)) :: ms.map rw_))
    (h1 : ∀ (j : Nat) x, claimF ms = some x → ms[j]? = some x → K (pr x) (netR g (some ⟨r, 0, none⟩) ms.length cap slot lost :: (r, .buf 61 (ms.map pr) (cap * 1)) :: ms.map rw_)) :
    SCalls Try.prog 30 [.pointer (some ⟨g, 0, none⟩)] (netR g (some ⟨r, 0, none⟩) ms.length cap slot lost :: (r, .buf 61 (ms.map pr) (cap * 1)) :: ms.map rw_) K := by
  refine enter30 ?_
  repeat' ((conv => whnf); (first
      | refine New.mk (fun _ => ?_)
      | refine Look.at0 ?_
      | refine Cell.row ?_
      | refine Cell.buf ?_
      | refine Cells.row rfl ?_
      | refine Put.row rfl ?_
      | refine Put.buf rfl ?_
      | refine Look.at1 ?_
      | refine Look.at2 ?_
      | refine Look.at3 ?_
      | refine Look.at4 ?_
      | refine Look.at5 ?_
      | refine Look.at6 ?_
      | refine Look.at7 ?_
      | refine Look.at8 ?_
      | with_reducible refine Val.i64 (by omega) (by omega) ?_
      | with_reducible refine Val.u8 (by omega) (by omega) ?_
      | with_reducible refine Val.u32 (by omega) (by omega) ?_
      | with_reducible refine Val.u64 (by omega) (by omega) ?_
      | with_reducible refine Val.u8m ?_
      | with_reducible refine Val.u32m ?_
      | with_reducible refine Val.u64m ?_
      | with_reducible refine Val.shr8 ?_
      | with_reducible refine Val.shr16 (by decide) ?_
      | with_reducible refine Val.shr24 (by decide) ?_
      | with_reducible refine Val.raw ?_
      | refine Branch.not ?_
      | refine Branch.and ?_
      | refine Branch.or ?_
      | refine Branch.dt (by assumption) ?_
      | refine Branch.df (by assumption) ?_
      | refine Branch.dt rfl ?_
      | refine Branch.dt (by omega) ?_
      | refine Branch.df (by omega) ?_
      | refine Branch.t rfl ?_
      | refine Branch.f rfl ?_
      | refine Branch.t (by assumption) ?_
      | refine Branch.f (by assumption) ?_
      | refine Branch.d (fun _ => ?_) (fun _ => ?_)
      | refine Branch.mk (fun _ => ?_) (fun _ => ?_)
      | refine Need.mk (by first | omega | decide | rfl) ?_
      | refine Idx.nat (by omega) ?_
      | refine Idx.auto (by first | omega | decide) (by first | omega | decide) ?_
      | refine Cell.ro rfl ?_
      | refine SDraw.all (by kernel_rfl) ?_
      | refine Kept.k0 ?_
      | refine Kept.k1 ?_
      | refine Kept.k2 ?_
      | refine Kept.k3 ?_
      | refine Kept.k4 ?_))
  refine SLoop.inv (I30 g r cap (r, .buf 61 (ms.map pr) (cap * 1)) slot lost ms) (M30 ms.length) (Keep.all ⟨0, none, by omega, rfl, fun x hx => (by cases hx), .mk, rfl⟩) ?_
  rintro S H ⟨j, best, hj, hb, hbi, hS, rfl⟩ R hR
  cases hS
  by_cases hlt : j < ms.length
  · obtain ⟨x, hx⟩ : ∃ x, ms[j]? = some x := ⟨_, List.getElem?_eq_getElem hlt⟩
    have hf := fold_succ hx
    rw [← hb] at hf
    have fin : ∀ (b2 : Option PM) (l : List Value), stepC best x = b2 → (∀ y, b2 = some y → ∃ i : Nat, ms[i]? = some y) → Sl30 (optV b2) (.slice (some ⟨r, 0, none⟩) ms.length cap) (.int .i64 (ms.length : Int)) (.int .i64 ((j + 1 : Nat) : Int)) l → (match getL l 11 with | .int _ i => i.toNat | _ => 0) = j + 1 → R l (netR g (some ⟨r, 0, none⟩) ms.length cap slot lost :: (r, .buf 61 (ms.map pr) (cap * 1)) :: ms.map rw_) := by
      intro b2 l e1 e2 e3 e4
      refine hR _ _ (Keep.all ⟨⟨j + 1, b2, by omega, by rw [hf, e1], e2, e3, rfl⟩, ?_⟩)
      unfold M30
      rw [e4]
      show ms.length - (j + 1) < ms.length - Int.toNat (j : Int)
      omega
    rcases hbe : best with _ | b
    · subst hbe
      repeat' ((conv => whnf); (first
          | refine Cell.nth hx ?_
          | refine Look.skip (Look.at0 ?_)
          | refine Look.skip (Look.skip (Look.nth hx rfl ?_))
          | unfold M.row M.cells
          | refine New.mk (fun _ => ?_)
          | refine Look.at0 ?_
          | refine Cell.row ?_
          | refine Cell.buf ?_
          | refine Cells.row rfl ?_
          | refine Put.row rfl ?_
          | refine Put.buf rfl ?_
          | refine Look.at1 ?_
          | refine Look.at2 ?_
          | refine Look.at3 ?_
          | refine Look.at4 ?_
          | refine Look.at5 ?_
          | refine Look.at6 ?_
          | refine Look.at7 ?_
          | refine Look.at8 ?_
          | with_reducible refine Val.i64 (by omega) (by omega) ?_
          | with_reducible refine Val.u8 (by omega) (by omega) ?_
          | with_reducible refine Val.u32 (by omega) (by omega) ?_
          | with_reducible refine Val.u64 (by omega) (by omega) ?_
          | with_reducible refine Val.u8m ?_
          | with_reducible refine Val.u32m ?_
          | with_reducible refine Val.u64m ?_
          | with_reducible refine Val.shr8 ?_
          | with_reducible refine Val.shr16 (by decide) ?_
          | with_reducible refine Val.shr24 (by decide) ?_
          | with_reducible refine Val.raw ?_
          | refine Branch.not ?_
          | refine Branch.and ?_
          | refine Branch.or ?_
          | refine Branch.dt (by assumption) ?_
          | refine Branch.df (by assumption) ?_
          | refine Branch.dt rfl ?_
          | refine Branch.dt (by omega) ?_
          | refine Branch.df (by omega) ?_
          | refine Branch.t rfl ?_
          | refine Branch.f rfl ?_
          | refine Branch.t (by assumption) ?_
          | refine Branch.f (by assumption) ?_
          | refine Branch.d (fun _ => ?_) (fun _ => ?_)
          | refine Branch.mk (fun _ => ?_) (fun _ => ?_)
          | refine Need.mk (by first | omega | decide | rfl) ?_
          | refine Idx.nat (by omega) ?_
          | refine Idx.auto (by first | omega | decide) (by first | omega | decide) ?_
          | refine Cell.ro rfl ?_
          | refine SDraw.all (by kernel_rfl) ?_
          | refine Kept.k0 ?_
          | refine Kept.k1 ?_
          | refine Kept.k2 ?_
          | refine Kept.k3 ?_
          | refine Kept.k4 ?_))
      all_goals (conv => whnf)
      all_goals first
        | exact fin (some x) _ (stepC_first ‹_› ‹_›) (fun y hy => ⟨j, by injection hy with hy; rw [← hy]; exact hx⟩) .mk rfl
        | exact fin none _ (stepC_no (by omega)) (fun y hy => by cases hy) .mk rfl
    · subst hbe
      obtain ⟨i, hi⟩ := hbi b rfl
      repeat' ((conv => whnf); (first
          | refine Cell.nth hx ?_
          | refine Look.skip (Look.at0 ?_)
          | refine Look.skip (Look.skip (Look.nth hx rfl ?_))
          | refine Look.skip (Look.skip (Look.nth hi rfl ?_))
          | unfold M.row M.cells
          | refine c35 _ _ _ _ _ _ ?_
          | refine New.mk (fun _ => ?_)
          | refine Look.at0 ?_
          | refine Cell.row ?_
          | refine Cell.buf ?_
          | refine Cells.row rfl ?_
          | refine Put.row rfl ?_
          | refine Put.buf rfl ?_
          | refine Look.at1 ?_
          | refine Look.at2 ?_
          | refine Look.at3 ?_
          | refine Look.at4 ?_
          | refine Look.at5 ?_
          | refine Look.at6 ?_
          | refine Look.at7 ?_
          | refine Look.at8 ?_
          | with_reducible refine Val.i64 (by omega) (by omega) ?_
          | with_reducible refine Val.u8 (by omega) (by omega) ?_
          | with_reducible refine Val.u32 (by omega) (by omega) ?_
          | with_reducible refine Val.u64 (by omega) (by omega) ?_
          | with_reducible refine Val.u8m ?_
          | with_reducible refine Val.u32m ?_
          | with_reducible refine Val.u64m ?_
          | with_reducible refine Val.shr8 ?_
          | with_reducible refine Val.shr16 (by decide) ?_
          | with_reducible refine Val.shr24 (by decide) ?_
          | with_reducible refine Val.raw ?_
          | refine Branch.not ?_
          | refine Branch.and ?_
          | refine Branch.or ?_
          | refine Branch.dt (by assumption) ?_
          | refine Branch.df (by assumption) ?_
          | refine Branch.dt rfl ?_
          | refine Branch.dt (by omega) ?_
          | refine Branch.df (by omega) ?_
          | refine Branch.t rfl ?_
          | refine Branch.f rfl ?_
          | refine Branch.t (by assumption) ?_
          | refine Branch.f (by assumption) ?_
          | refine Branch.d (fun _ => ?_) (fun _ => ?_)
          | refine Branch.mk (fun _ => ?_) (fun _ => ?_)
          | refine Need.mk (by first | omega | decide | rfl) ?_
          | refine Idx.nat (by omega) ?_
          | refine Idx.auto (by first | omega | decide) (by first | omega | decide) ?_
          | refine Cell.ro rfl ?_
          | refine SDraw.all (by kernel_rfl) ?_
          | refine Kept.k0 ?_
          | refine Kept.k1 ?_
          | refine Kept.k2 ?_
          | refine Kept.k3 ?_
          | refine Kept.k4 ?_))
      all_goals (conv => whnf)
      all_goals first
        | exact fin (some x) _ (stepC_less ‹_› ‹_› ‹_›) (fun y hy => ⟨j, by injection hy with hy; rw [← hy]; exact hx⟩) .mk rfl
        | exact fin (some b) _ (stepC_keep ‹_›) hbi .mk rfl
        | exact fin (some b) _ (stepC_no (by omega)) hbi .mk rfl
  · rw [List.take_of_length_le (by omega)] at hb
    rcases hbe : best with _ | b
    · repeat' ((conv => whnf); (first
          | refine New.mk (fun _ => ?_)
          | refine Look.at0 ?_
          | refine Cell.row ?_
          | refine Cell.buf ?_
          | refine Cells.row rfl ?_
          | refine Put.row rfl ?_
          | refine Put.buf rfl ?_
          | refine Look.at1 ?_
          | refine Look.at2 ?_
          | refine Look.at3 ?_
          | refine Look.at4 ?_
          | refine Look.at5 ?_
          | refine Look.at6 ?_
          | refine Look.at7 ?_
          | refine Look.at8 ?_
          | with_reducible refine Val.i64 (by omega) (by omega) ?_
          | with_reducible refine Val.u8 (by omega) (by omega) ?_
          | with_reducible refine Val.u32 (by omega) (by omega) ?_
          | with_reducible refine Val.u64 (by omega) (by omega) ?_
          | with_reducible refine Val.u8m ?_
          | with_reducible refine Val.u32m ?_
          | with_reducible refine Val.u64m ?_
          | with_reducible refine Val.shr8 ?_
          | with_reducible refine Val.shr16 (by decide) ?_
          | with_reducible refine Val.shr24 (by decide) ?_
          | with_reducible refine Val.raw ?_
          | refine Branch.not ?_
          | refine Branch.and ?_
          | refine Branch.or ?_
          | refine Branch.dt (by assumption) ?_
          | refine Branch.df (by assumption) ?_
          | refine Branch.dt rfl ?_
          | refine Branch.dt (by omega) ?_
          | refine Branch.df (by omega) ?_
          | refine Branch.t rfl ?_
          | refine Branch.f rfl ?_
          | refine Branch.t (by assumption) ?_
          | refine Branch.f (by assumption) ?_
          | refine Branch.d (fun _ => ?_) (fun _ => ?_)
          | refine Branch.mk (fun _ => ?_) (fun _ => ?_)
          | refine Need.mk (by first | omega | decide | rfl) ?_
          | refine Idx.nat (by omega) ?_
          | refine Idx.auto (by first | omega | decide) (by first | omega | decide) ?_
          | refine Cell.ro rfl ?_
          | refine SDraw.all (by kernel_rfl) ?_
          | refine Kept.k0 ?_
          | refine Kept.k1 ?_
          | refine Kept.k2 ?_
          | refine Kept.k3 ?_
          | refine Kept.k4 ?_))
      all_goals (conv => whnf)
      exact Keep.all (h0 (hb.symm.trans hbe))
    · obtain ⟨i, hi⟩ := hbi b hbe
      repeat' ((conv => whnf); (first
          | refine New.mk (fun _ => ?_)
          | refine Look.at0 ?_
          | refine Cell.row ?_
          | refine Cell.buf ?_
          | refine Cells.row rfl ?_
          | refine Put.row rfl ?_
          | refine Put.buf rfl ?_
          | refine Look.at1 ?_
          | refine Look.at2 ?_
          | refine Look.at3 ?_
          | refine Look.at4 ?_
          | refine Look.at5 ?_
          | refine Look.at6 ?_
          | refine Look.at7 ?_
          | refine Look.at8 ?_
          | with_reducible refine Val.i64 (by omega) (by omega) ?_
          | with_reducible refine Val.u8 (by omega) (by omega) ?_
          | with_reducible refine Val.u32 (by omega) (by omega) ?_
          | with_reducible refine Val.u64 (by omega) (by omega) ?_
          | with_reducible refine Val.u8m ?_
          | with_reducible refine Val.u32m ?_
          | with_reducible refine Val.u64m ?_
          | with_reducible refine Val.shr8 ?_
          | with_reducible refine Val.shr16 (by decide) ?_
          | with_reducible refine Val.shr24 (by decide) ?_
          | with_reducible refine Val.raw ?_
          | refine Branch.not ?_
          | refine Branch.and ?_
          | refine Branch.or ?_
          | refine Branch.dt (by assumption) ?_
          | refine Branch.df (by assumption) ?_
          | refine Branch.dt rfl ?_
          | refine Branch.dt (by omega) ?_
          | refine Branch.df (by omega) ?_
          | refine Branch.t rfl ?_
          | refine Branch.f rfl ?_
          | refine Branch.t (by assumption) ?_
          | refine Branch.f (by assumption) ?_
          | refine Branch.d (fun _ => ?_) (fun _ => ?_)
          | refine Branch.mk (fun _ => ?_) (fun _ => ?_)
          | refine Need.mk (by first | omega | decide | rfl) ?_
          | refine Idx.nat (by omega) ?_
          | refine Idx.auto (by first | omega | decide) (by first | omega | decide) ?_
          | refine Cell.ro rfl ?_
          | refine SDraw.all (by kernel_rfl) ?_
          | refine Kept.k0 ?_
          | refine Kept.k1 ?_
          | refine Kept.k2 ?_
          | refine Kept.k3 ?_
          | refine Kept.k4 ?_))
      all_goals (conv => whnf)
      exact Keep.all (h1 i b (hb.symm.trans hbe) hi)
/-- One begins to wait. -/
def begM (slot : Int) (m : M) : M := { m with is := 1, left := (128 * m.prio + m.node) * slot % 18446744073709551616, of_ := 0, mute := 0 }
structure M.Ok (m : M) : Prop where
  node : 1 ≤ m.node ∧ m.node ≤ 127
  prio : 0 ≤ m.prio ∧ m.prio ≤ 2
theorem c28g {n : Nat} {a a0 : Nat} (sv : Value) (m : M) (hm : m.Ok) (h : K (.tuple ⟨[]⟩) [(g, .row 60 [sv, .int .u64 slot, .int .u64 lost] (0, 0)), (a, (begM slot m).row)]) :
    SCalls Try.prog 28 [.pointer (some ⟨g, 0, none⟩), .pointer (some ⟨a, 0, none⟩)] [(g, .row 60 [sv, .int .u64 slot, .int .u64 lost] (0, 0)), (a, m.row)] K := by
  obtain ⟨h1, h2⟩ := hm
  refine enter28 ?_
  repeat' ((conv => whnf); (first
      | unfold M.row M.cells
      | refine New.mk (fun _ => ?_)
      | refine Look.at0 ?_
      | refine Cell.row ?_
      | refine Cell.buf ?_
      | refine Cells.row rfl ?_
      | refine Put.row rfl ?_
      | refine Put.buf rfl ?_
      | refine Look.at1 ?_
      | refine Look.at2 ?_
      | refine Look.at3 ?_
      | refine Look.at4 ?_
      | refine Look.at5 ?_
      | refine Look.at6 ?_
      | refine Look.at7 ?_
      | refine Look.at8 ?_
      | with_reducible refine Val.i64 (by omega) (by omega) ?_
      | with_reducible refine Val.u8 (by omega) (by omega) ?_
      | with_reducible refine Val.u32 (by omega) (by omega) ?_
      | with_reducible refine Val.u64 (by omega) (by omega) ?_
      | with_reducible refine Val.u8m ?_
      | with_reducible refine Val.u32m ?_
      | with_reducible refine Val.u64m ?_
      | with_reducible refine Val.shr8 ?_
      | with_reducible refine Val.shr16 (by decide) ?_
      | with_reducible refine Val.shr24 (by decide) ?_
      | with_reducible refine Val.raw ?_
      | refine Branch.not ?_
      | refine Branch.and ?_
      | refine Branch.or ?_
      | refine Branch.dt (by assumption) ?_
      | refine Branch.df (by assumption) ?_
      | refine Branch.dt rfl ?_
      | refine Branch.dt (by omega) ?_
      | refine Branch.df (by omega) ?_
      | refine Branch.t rfl ?_
      | refine Branch.f rfl ?_
      | refine Branch.t (by assumption) ?_
      | refine Branch.f (by assumption) ?_
      | refine Branch.d (fun _ => ?_) (fun _ => ?_)
      | refine Branch.mk (fun _ => ?_) (fun _ => ?_)
      | refine Need.mk (by first | omega | decide | rfl) ?_
      | refine Idx.nat (by omega) ?_
      | refine Idx.auto (by first | omega | decide) (by first | omega | decide) ?_
      | refine Cell.ro rfl ?_
      | refine SDraw.all (by kernel_rfl) ?_
      | refine Kept.k0 ?_
      | refine Kept.k1 ?_
      | refine Kept.k2 ?_
      | refine Kept.k3 ?_
      | refine Kept.k4 ?_))
  all_goals (conv => whnf)
  all_goals exact Keep.all h
end
end Go.Proofs.Ytmakaofdpoiaaaa
