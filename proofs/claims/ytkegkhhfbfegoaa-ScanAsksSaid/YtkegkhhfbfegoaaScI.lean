/- Layer 20: one scan, to its end: by walks. -/
import Derived.Test.YtkegkhhfbfegoaaScH
import Derived.Test.YtkegkhhfbfegoaaLsH
import Derived.Test.YtkegkhhfbfegoaaSxU
set_option linter.unusedVariables false
set_option linter.unusedSimpArgs false
set_option maxRecDepth 100000
set_option maxHeartbeats 4000000
namespace Go.Proofs.Ytkegkhhfbfegoaa
open Sx Ls
theorem tkL_ok {q : Q} (hq : q.Ok) {ms : List PL} (h : ∀ x ∈ ms, x.2.Ok) : ∀ x ∈ ms.map (tkL q), x.2.Ok := by
  intro x hx
  obtain ⟨y, hy, rfl⟩ := List.mem_map.1 hx
  exact Ls.take_ok y.2 (h y hy) q hq
theorem tkL_fst (q : Q) (ms : List PL) : (ms.map (tkL q)).map Prod.fst = ms.map Prod.fst := by
  rw [List.map_map]; rfl
abbrev qrow (q : Q) : Blk := .row 55 [.int .u8 q.q0, .int .u8 q.q1, .int .u8 q.q2, .int .u8 q.q3, .int .u8 q.q4, .int .u8 q.q5, .int .u8 q.q6, .int .u8 q.q7] (0, 0)
abbrev z34 : Blk := .row 34 [.int .u32 0, .int .u32 0, .int .u32 0, .int .u32 0] (0, 0)
abbrev ptr (g : Nat) : Value := .pointer (some ⟨g, 0, none⟩)
abbrev Sc.adr (s : Sc) : Value := .agg ⟨[.int .u32 s.k0, .int .u32 s.k1, .int .u32 s.k2, .int .u32 s.k3]⟩
inductive S29 (A0 A2 A4 A5 A6 : Value) : List Value → Prop
  | mk {r1 r3 r7 r8 r9 r10 r11 r12 r13 r14 r15 r16 r17 r18 r19 r20 r21 r22 r23 r24 r25 r26 r27 r28 r29 r30 r31 r32 : Value} : S29 A0 A2 A4 A5 A6 [A0, r1, A2, r3, A4, A5, A6, r7, r8, r9, r10, r11, r12, r13, r14, r15, r16, r17, r18, r19, r20, r21, r22, r23, r24, r25, r26, r27, r28, r29, r30, r31, r32]
structure T29 where
  (n : Nat) (s : Sc) (ms : List PL) (pq : Nat) (q : Q)
def I29 (a : Option Addr) (cap : Nat) (Bh : Heap) (ad : List Nat) (T : Sc × List PL) (p2 gs : Nat) (x : T29) (S : List Value) (H : Heap) : Prop :=
  x.s.Ok ∧ x.s.took = (x.n : Int) ∧ x.ms.map Prod.fst = ad ∧ (∀ y ∈ x.ms, y.2.Ok) ∧ runL (134 - x.n) x.s x.ms = T ∧
   ((x.s.ph = 3 ∧ S29 (.slice a x.ms.length cap) (ptr p2) (ptr gs) (ptr x.pq) (.bool false) S ∧ H = (x.pq, qrow x.q) :: (gs, x.s.row) :: (p2, z34) :: (Bh ++ x.ms.map rwL)) ∨
    (x.s.ph ≠ 3 ∧ x.q = x.s.q ∧ S29 (.slice a x.ms.length cap) (ptr p2) (ptr gs) (ptr x.pq) (.bool true) S ∧ H = (x.pq, qrow x.q) :: (gs, (askd x.s).row) :: (p2, z34) :: (Bh ++ x.ms.map rwL)))
def scanL (ms : List PL) : Sc × List PL := runL 134 Sc.new ms
section
variable {K : Value → Heap → Prop} {a : Option Addr} {cap : Nat} {Bh : Heap} {ms : List PL}
theorem c29 (hsl : SlO 38 a cap Bh (ms.map Prod.fst)) (hlen : ms.length ≤ 140737488355328) (hok : ∀ x ∈ ms, x.2.Ok) (h : K (.tuple ⟨[(scanL ms).1.adr, .bool (scanL ms).1.found]⟩) (Bh ++ (scanL ms).2.map rwL)) :
    SCalls Try.prog 29 [.slice a ms.length cap] (Bh ++ ms.map rwL) K := by
  refine enter29 ?_
  repeat' ((conv => whnf); (first
      | refine c17 (fun gs => ?_)
      | refine SCalls.at0 (c20 Sc.Ok.new (fun h3 => by cases h3) (fun h3 => ?_))
      | refine New.mk (fun _ => ?_)
      | refine Look.at0 ?_
      | refine Cell.row ?_
      | refine Cell.buf ?_
      | refine Cells.row rfl ?_
      | refine Put.row rfl ?_
      | refine Put.buf rfl ?_
      | refine Look.at1 ?_
      | refine Look.at2 ?_
      | refine Look.at3 ?_
      | refine Look.at4 ?_
      | refine Look.at5 ?_
      | refine Look.at6 ?_
      | refine Look.at7 ?_
      | refine Look.at8 ?_
      | with_reducible refine Val.i64 (by omega) (by omega) ?_
      | with_reducible refine Val.u8 (by omega) (by omega) ?_
      | with_reducible refine Val.u32 (by omega) (by omega) ?_
      | with_reducible refine Val.u64 (by omega) (by omega) ?_
      | with_reducible refine Val.u8m ?_
      | with_reducible refine Val.u32m ?_
      | with_reducible refine Val.u64m ?_
      | with_reducible refine Val.shr8 ?_
      | with_reducible refine Val.shr16 (by decide) ?_
      | with_reducible refine Val.shr24 (by decide) ?_
      | with_reducible refine Val.raw ?_
      | refine Branch.not ?_
      | refine Branch.and ?_
      | refine Branch.or ?_
      | refine Branch.dt (by assumption) ?_
      | refine Branch.df (by assumption) ?_
      | refine Branch.dt rfl ?_
      | refine Branch.dt (by omega) ?_
      | refine Branch.df (by omega) ?_
      | refine Branch.t rfl ?_
      | refine Branch.f rfl ?_
      | refine Branch.t (by assumption) ?_
      | refine Branch.f (by assumption) ?_
      | refine Branch.d (fun _ => ?_) (fun _ => ?_)
      | refine Branch.mk (fun _ => ?_) (fun _ => ?_)
      | refine Need.mk (by first | omega | decide | rfl) ?_
      | refine Idx.nat (by omega) ?_
      | refine Idx.auto (by first | omega | decide) (by first | omega | decide) ?_
      | refine Cell.ro rfl ?_
      | refine SDraw.all (by kernel_rfl) ?_
      | refine Kept.k0 ?_
      | refine Kept.k1 ?_
      | refine Kept.k2 ?_
      | refine Kept.k3 ?_
      | refine Kept.k4 ?_))
  all_goals (conv => whnf)
  rename_i p2 pq
  refine SLoop.invA (I29 a cap Bh (ms.map Prod.fst) (scanL ms) p2 gs) (fun x => 134 - x.n) ⟨0, Sc.new, ms, pq, Sc.new.q⟩ (Keep.all ⟨Sc.Ok.new, rfl, rfl, hok, rfl, .inr ⟨by show (0 : Int) ≠ 3; decide, rfl, .mk, rfl⟩⟩) ?_
  rintro ⟨n, s, ms', pq', q⟩ S H ⟨hs, htk, hfst, hok', hrun, hcase⟩ R hR
  dsimp only at hs htk hfst hok' hrun hcase hR
  have hlm : ms'.length = ms.length := by have := congrArg List.length hfst; simpa using this
  rcases hcase with ⟨h3, hS, rfl⟩ | ⟨h3, rfl, hS, rfl⟩
  · cases hS
    obtain ⟨k, hk⟩ : ∃ k, 134 - n = k + 1 := ⟨133 - n, by have := hs.tk; omega⟩
    rw [hk, runL, if_pos h3] at hrun
    rw [← hrun] at h
    dsimp only at h
    unfold Sc.row
    repeat' ((conv => whnf); (first
        | refine SDraw.held (by kernel_rfl) [_] (.same (.tail _ (.head _)) .nil) ?_
        | refine Kept.sub (List.Sublist.cons _ (List.Sublist.cons_cons _ (List.nil_sublist _))) ?_
        | refine New.mk (fun _ => ?_)
        | refine Look.at0 ?_
        | refine Cell.row ?_
        | refine Cell.buf ?_
        | refine Cells.row rfl ?_
        | refine Put.row rfl ?_
        | refine Put.buf rfl ?_
        | refine Look.at1 ?_
        | refine Look.at2 ?_
        | refine Look.at3 ?_
        | refine Look.at4 ?_
        | refine Look.at5 ?_
        | refine Look.at6 ?_
        | refine Look.at7 ?_
        | refine Look.at8 ?_
        | with_reducible refine Val.i64 (by omega) (by omega) ?_
        | with_reducible refine Val.u8 (by omega) (by omega) ?_
        | with_reducible refine Val.u32 (by omega) (by omega) ?_
        | with_reducible refine Val.u64 (by omega) (by omega) ?_
        | with_reducible refine Val.u8m ?_
        | with_reducible refine Val.u32m ?_
        | with_reducible refine Val.u64m ?_
        | with_reducible refine Val.shr8 ?_
        | with_reducible refine Val.shr16 (by decide) ?_
        | with_reducible refine Val.shr24 (by decide) ?_
        | with_reducible refine Val.raw ?_
        | refine Branch.not ?_
        | refine Branch.and ?_
        | refine Branch.or ?_
        | refine Branch.dt (by assumption) ?_
        | refine Branch.df (by assumption) ?_
        | refine Branch.dt rfl ?_
        | refine Branch.dt (by omega) ?_
        | refine Branch.df (by omega) ?_
        | refine Branch.t rfl ?_
        | refine Branch.f rfl ?_
        | refine Branch.t (by assumption) ?_
        | refine Branch.f (by assumption) ?_
        | refine Branch.d (fun _ => ?_) (fun _ => ?_)
        | refine Branch.mk (fun _ => ?_) (fun _ => ?_)
        | refine Need.mk (by first | omega | decide | rfl) ?_
        | refine Idx.nat (by omega) ?_
        | refine Idx.auto (by first | omega | decide) (by first | omega | decide) ?_
        | refine Cell.ro rfl ?_
        | refine SDraw.all (by kernel_rfl) ?_
        | refine Kept.k0 ?_
        | refine Kept.k1 ?_
        | refine Kept.k2 ?_
        | refine Kept.k3 ?_
        | refine Kept.k4 ?_))
    all_goals (conv => whnf)
    exact Keep.d3 h
  · cases hS
    have hs1 := hs.ask h3
    obtain ⟨hq, hq0⟩ := hs.q_ok h3
    have hn : n ≤ 133 := by have := hs.tk; omega
    obtain ⟨k, hk⟩ : ∃ k, 134 - n = k + 1 := ⟨133 - n, by omega⟩
    rw [hk, runL, if_neg h3] at hrun
    have htk2 := took_step h3 (ms'.any (anL s.q))
    have hs2 : (stepL s ms').1.Ok := hs1.ans _
    have hn2 : n + 1 ≤ 133 := by
      have := hs2.tk
      have e : (stepL s ms').1.took = s.took + 1 := htk2
      omega
    have hk2 : k = 134 - (n + 1) := by omega
    rw [hk2] at hrun
    have hsl' : SlO 38 a cap Bh (ms'.map Prod.fst) := by rw [hfst]; exact hsl
    clear h hok
    repeat' ((conv => whnf); (first
        | refine SCalls.under [_, _, _] (c30 (q := s.q) hsl' (by omega) hok' hq (by omega) ?_)
        | refine SCalls.at1 (c18 hs1 _ ?_)
        | refine SCalls.at2 (c20 hs2 (fun g3 => ?_) (fun g3 => ?_))
        | refine New.mk (fun _ => ?_)
        | refine Look.at0 ?_
        | refine Cell.row ?_
        | refine Cell.buf ?_
        | refine Cells.row rfl ?_
        | refine Put.row rfl ?_
        | refine Put.buf rfl ?_
        | refine Look.at1 ?_
        | refine Look.at2 ?_
        | refine Look.at3 ?_
        | refine Look.at4 ?_
        | refine Look.at5 ?_
        | refine Look.at6 ?_
        | refine Look.at7 ?_
        | refine Look.at8 ?_
        | with_reducible refine Val.i64 (by omega) (by omega) ?_
        | with_reducible refine Val.u8 (by omega) (by omega) ?_
        | with_reducible refine Val.u32 (by omega) (by omega) ?_
        | with_reducible refine Val.u64 (by omega) (by omega) ?_
        | with_reducible refine Val.u8m ?_
        | with_reducible refine Val.u32m ?_
        | with_reducible refine Val.u64m ?_
        | with_reducible refine Val.shr8 ?_
        | with_reducible refine Val.shr16 (by decide) ?_
        | with_reducible refine Val.shr24 (by decide) ?_
        | with_reducible refine Val.raw ?_
        | refine Branch.not ?_
        | refine Branch.and ?_
        | refine Branch.or ?_
        | refine Branch.dt (by assumption) ?_
        | refine Branch.df (by assumption) ?_
        | refine Branch.dt rfl ?_
        | refine Branch.dt (by omega) ?_
        | refine Branch.df (by omega) ?_
        | refine Branch.t rfl ?_
        | refine Branch.f rfl ?_
        | refine Branch.t (by assumption) ?_
        | refine Branch.f (by assumption) ?_
        | refine Branch.d (fun _ => ?_) (fun _ => ?_)
        | refine Branch.mk (fun _ => ?_) (fun _ => ?_)
        | refine Need.mk (by first | omega | decide | rfl) ?_
        | refine Idx.nat (by omega) ?_
        | refine Idx.auto (by first | omega | decide) (by first | omega | decide) ?_
        | refine Cell.ro rfl ?_
        | refine SDraw.all (by kernel_rfl) ?_
        | refine Kept.k0 ?_
        | refine Kept.k1 ?_
        | refine Kept.k2 ?_
        | refine Kept.k3 ?_
        | refine Kept.k4 ?_))
    all_goals (conv => whnf)
    · refine hR ⟨n + 1, (stepL s ms').1, (stepL s ms').2, _, ⟨0, 0, 0, 0, 0, 0, 0, 0⟩⟩ _ _ (by show 134 - (n + 1) < 134 - n; omega) (Keep.sub _ (List.Sublist.cons_cons _ (List.Sublist.cons _ (List.Sublist.refl _))) ⟨hs2, ?_, ?_, tkL_ok hq hok', hrun, .inl ⟨g3, ?_, rfl⟩⟩)
      · show (stepL s ms').1.took = _
        rw [show (stepL s ms').1.took = s.took + 1 from htk2, htk]; rfl
      · exact (tkL_fst _ _).trans hfst
      · show S29 (.slice a (ms'.map (tkL s.q)).length cap) _ _ _ _ _
        rw [List.length_map]; exact .mk
    · refine hR ⟨n + 1, (stepL s ms').1, (stepL s ms').2, _, (stepL s ms').1.q⟩ _ _ (by show 134 - (n + 1) < 134 - n; omega) (Keep.sub _ (List.Sublist.cons_cons _ (List.Sublist.cons _ (List.Sublist.refl _))) ⟨hs2, ?_, ?_, tkL_ok hq hok', hrun, .inr ⟨g3, rfl, ?_, rfl⟩⟩)
      · show (stepL s ms').1.took = _
        rw [show (stepL s ms').1.took = s.took + 1 from htk2, htk]; rfl
      · exact (tkL_fst _ _).trans hfst
      · show S29 (.slice a (ms'.map (tkL s.q)).length cap) _ _ _ _ _
        rw [List.length_map]; exact .mk
end
end Go.Proofs.Ytkegkhhfbfegoaa
