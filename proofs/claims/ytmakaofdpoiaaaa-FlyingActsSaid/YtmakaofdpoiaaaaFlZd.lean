/- Layer 24: masters wait, lead and follow as the document says: the walk. -/
import Derived.Test.YtmakaofdpoiaaaaFlZc
set_option linter.unusedVariables false
set_option linter.unusedSimpArgs false
set_option maxRecDepth 100000
set_option maxHeartbeats 4000000
namespace Go.Proofs.Ytmakaofdpoiaaaa
open Sx
section
variable {K : Value → Heap → Prop} {slot lost : Int} {L : List Mas} {l l' : List M}
theorem c21E {sv : Value} {H R : Heap} {x0 : Nat × Blk} {e : Int} (hin : InL sv H L) (hsl : 0 ≤ slot ∧ slot ≤ 18446744073709551615) (hlo : 0 ≤ lost ∧ lost ≤ 18446744073709551615) (he : newF slot lost L = .error e)
    (h : K (.tuple ⟨[.pointer none, .int .i64 e]⟩) (x0 :: (H ++ R))) : SCalls Try.prog 21 [sv, .int .u64 slot, .int .u64 lost] (x0 :: (H ++ R)) K :=
  SCalls.under [x0] (SCalls.front R (c21 hin hsl hlo (fun e' he' => by rw [he] at he'; injection he' with he'; subst he'; exact h) (fun d r1 r2 r3 r4 c N l he' => by rw [he] at he'; cases he')))
theorem c21O {sv : Value} {H R : Heap} {x0 : Nat × Blk} (hin : InL sv H L) (hsl : 0 ≤ slot ∧ slot ≤ 18446744073709551615) (hlo : 0 ≤ lost ∧ lost ≤ 18446744073709551615) (he : newF slot lost L = .ok l)
    (h : ∀ d r1 r2 r3 r4 c N, K (.tuple ⟨[.pointer (some ⟨d, 0, none⟩), .int .i64 0]⟩) (x0 :: (H ++ (rN d r1 r2 r3 r4 c N slot lost l ++ R)))) : SCalls Try.prog 21 [sv, .int .u64 slot, .int .u64 lost] (x0 :: (H ++ R)) K := by
  refine SCalls.keep (SCalls.under [x0] (SCalls.front R (c21 hin hsl hlo (fun e' he' => by rw [he] at he'; cases he') (fun d r1 r2 r3 r4 c N l' he' => ?_))))
  rw [he] at he'
  injection he' with he'
  subst he'
  obtain ⟨_, hma⟩ := Gd.new he
  have hll : L.length = l.length := by rw [← hma, List.length_map]
  have h := h d r1 r2 r3 r4 c N
  unfold rN at h
  rw [hma, ← hll] at h
  exact Keep.glue [[x0], rM d r1 r2 r3 r4 L.length c N slot lost L l, H, R] [0, 1, 2, 3] [0, 2, 1, 3] [] (by decide) (by simp [glue]) (by simpa [glue] using h)
theorem c22n {sv : Value} {H R : Heap} {x0 : Nat × Blk} (hin : InL sv H L) (hf : firstF L = none) (h : K (.tuple ⟨[.int .i64 0, .bool false]⟩) (x0 :: (H ++ R))) : SCalls Try.prog 22 [sv] (x0 :: (H ++ R)) K :=
  SCalls.under [x0] (SCalls.front R (c22 hin (fun _ => h) (fun x hx => by rw [hf] at hx; cases hx)))
theorem c22s {sv : Value} {H R : Heap} {x0 : Nat × Blk} {f : Mas} (hin : InL sv H L) (hf : firstF L = some f) (h : K (.tuple ⟨[.int .i64 f.node, .bool true]⟩) (x0 :: (H ++ R))) : SCalls Try.prog 22 [sv] (x0 :: (H ++ R)) K :=
  SCalls.under [x0] (SCalls.front R (c22 hin (fun hn => by rw [hf] at hn; cases hn) (fun x hx => by rw [hf] at hx; injection hx with hx; subst hx; exact h)))
theorem c16n {q c N : Nat} {R : Heap} {x0 : Nat × Blk} (hlen : L.length * 24 ≤ 140737488355328) (hf : firstF L = none) (h : K (.tuple ⟨[.int .i64 0, .bool false]⟩) (x0 :: R)) :
    SCalls Try.prog 16 [.slice (some ⟨q, 0, none⟩) L.length c] (x0 :: (q, .buf 30 (L.flatMap Mas.cells) N) :: R) K :=
  SCalls.atList [x0] (c16 hlen (fun _ => h) (fun x hx => by rw [hf] at hx; cases hx))
theorem c16s {q c N : Nat} {R : Heap} {x0 : Nat × Blk} {f : Mas} (hlen : L.length * 24 ≤ 140737488355328) (hf : firstF L = some f) (h : K (.tuple ⟨[.int .i64 f.node, .bool true]⟩) (x0 :: R)) :
    SCalls Try.prog 16 [.slice (some ⟨q, 0, none⟩) L.length c] (x0 :: (q, .buf 30 (L.flatMap Mas.cells) N) :: R) K :=
  SCalls.atList [x0] (c16 hlen (fun hn => by rw [hf] at hn; cases hn) (fun x hx => by rw [hf] at hx; injection hx with hx; subst hx; exact h))
theorem c10E {q c N : Nat} {x0 : Nat × Blk} {R1 R2 : Heap} {e : Int} (hsl : 0 ≤ slot ∧ slot ≤ 18446744073709551615) (he : newF slot lost L = .error e)
    (h : K (.tuple ⟨[.pointer none, .int .i64 e]⟩) (x0 :: (R1 ++ R2))) :
    SCalls Try.prog 10 [.slice (some ⟨q, 0, none⟩) L.length c, .int .u64 slot, .int .u64 lost] (x0 :: (q, .buf 30 (L.flatMap Mas.cells) N) :: (R1 ++ R2)) K :=
  c10SA hsl (fun e' he' => by rw [he] at he'; injection he' with he'; subst he'; exact h) (fun ms g a cap Bh l he' hn => by rw [he] at he'; cases he')
theorem c10O {q c N : Nat} {x0 : Nat × Blk} {R1 R2 : Heap} (hsl : 0 ≤ slot ∧ slot ≤ 18446744073709551615) (he : newF slot lost L = .ok l)
    (h : ∀ ms g a cap Bh, Net a cap Bh ms l → K (.tuple ⟨[.pointer (some ⟨g, 0, none⟩), .int .i64 0]⟩) (x0 :: (R1 ++ (R2 ++ netH g a cap Bh slot lost ms)))) :
    SCalls Try.prog 10 [.slice (some ⟨q, 0, none⟩) L.length c, .int .u64 slot, .int .u64 lost] (x0 :: (q, .buf 30 (L.flatMap Mas.cells) N) :: (R1 ++ R2)) K :=
  c10SA hsl (fun e' he' => by rw [he] at he'; cases he') (fun ms g a cap Bh l' he' hn => by rw [he] at he'; injection he' with he'; subst he'; exact h ms g a cap Bh hn)
end
theorem acts_sc {sv svA : Value} {H0 HA : Heap} {L : List Mas} {A : List ActR} (hin : InL sv H0 L) (hinA : InA svA HA A) (s lo : Int) (hs : 0 ≤ s ∧ s ≤ 18446744073709551615) (hl : 0 ≤ lo ∧ lo ≤ 18446744073709551615) :
    SCalls Try.prog 7 [.agg ⟨[sv, .int .u64 s, .int .u64 lo]⟩, svA] (H0 ++ HA) fun v _ => v = .bool true := by
  have hlen : L.length * 24 ≤ 140737488355328 := by obtain ⟨_, _, _, h, _⟩ := hin; omega
  have hsv : ∃ a n c, sv = .slice a n c := by obtain ⟨a, c, h, _⟩ := hin; exact ⟨a, _, c, h⟩
  obtain ⟨sa, sn, sc, rfl⟩ := hsv
  have hsvA : ∃ a c, svA = .slice a A.length c := by obtain ⟨a, c, h, _⟩ := hinA; exact ⟨a, c, h⟩
  obtain ⟨aA, cA, rfl⟩ := hsvA
  refine enter7 ?_
  have rfn : ∀ x y : Int, x = y → decide (¬ x = y) = false := fun x y h => decide_eq_false (fun z => z h)
  cases hnew : newF s lo L with
  | error e =>
    cases hf : firstF L with
    | none =>
      repeat' ((conv => whnf); (first
          | refine SDraw.held (by kernel_rfl) [_] (.same (.head _) .nil) ?_
          | refine Kept.sub (List.Sublist.cons_cons _ (List.nil_sublist _)) ?_
          | refine c9F hin (fun q c hq hc => ?_)
          | refine c10E hs hnew ?_
          | refine c21E hin hs hl hnew ?_
          | refine c16n hlen hf ?_
          | refine c22n hin hf ?_
          | refine c18 s lo hs hl ?_
          | refine c23 s lo hs hl ?_
          | refine live_c ?_
          | refine New.mk (fun _ => ?_)
          | refine Look.at0 ?_
          | refine Cell.row ?_
          | refine Cell.buf ?_
          | refine Cells.row rfl ?_
          | refine Put.row rfl ?_
          | refine Put.buf rfl ?_
          | refine Look.at1 ?_
          | refine Look.at2 ?_
          | refine Look.at3 ?_
          | refine Look.at4 ?_
          | refine Look.at5 ?_
          | refine Look.at6 ?_
          | refine Look.at7 ?_
          | refine Look.at8 ?_
          | with_reducible refine Val.i64 (by omega) (by omega) ?_
          | with_reducible refine Val.u8 (by omega) (by omega) ?_
          | with_reducible refine Val.u32 (by omega) (by omega) ?_
          | with_reducible refine Val.u64 (by omega) (by omega) ?_
          | with_reducible refine Val.u8m ?_
          | with_reducible refine Val.u32m ?_
          | with_reducible refine Val.u64m ?_
          | with_reducible refine Val.shr8 ?_
          | with_reducible refine Val.shr16 (by decide) ?_
          | with_reducible refine Val.shr24 (by decide) ?_
          | with_reducible refine Val.raw ?_
          | refine Branch.not ?_
          | refine Branch.and ?_
          | refine Branch.or ?_
          | refine Branch.dt (by assumption) ?_
          | refine Branch.df (by assumption) ?_
          | refine Branch.dt rfl ?_
          | refine Branch.dt (by omega) ?_
          | refine Branch.df (by omega) ?_
          | refine Branch.t rfl ?_
          | refine Branch.f rfl ?_
          | refine Branch.t (by assumption) ?_
          | refine Branch.f (by assumption) ?_
          | refine Branch.d (fun _ => ?_) (fun _ => ?_)
          | refine Branch.mk (fun _ => ?_) (fun _ => ?_)
          | refine Need.mk (by first | omega | decide | rfl) ?_
          | refine Idx.nat (by omega) ?_
          | refine Idx.auto (by first | omega | decide) (by first | omega | decide) ?_
          | refine Cell.ro rfl ?_
          | refine SDraw.all (by kernel_rfl) ?_
          | refine Kept.k0 ?_
          | refine Kept.k1 ?_
          | refine Kept.k2 ?_
          | refine Kept.k3 ?_
          | refine Kept.k4 ?_))
      all_goals (conv => whnf)
      all_goals first | exact Keep.all rfl | trace_state
    | some f =>
      repeat' ((conv => whnf); (first
          | refine SDraw.held (by kernel_rfl) [_] (.same (.head _) .nil) ?_
          | refine Kept.sub (List.Sublist.cons_cons _ (List.nil_sublist _)) ?_
          | refine c9F hin (fun q c hq hc => ?_)
          | refine c10E hs hnew ?_
          | refine c21E hin hs hl hnew ?_
          | refine c16s hlen hf ?_
          | refine c22s hin hf ?_
          | refine c18 s lo hs hl ?_
          | refine c23 s lo hs hl ?_
          | refine live_c ?_
          | refine New.mk (fun _ => ?_)
          | refine Look.at0 ?_
          | refine Cell.row ?_
          | refine Cell.buf ?_
          | refine Cells.row rfl ?_
          | refine Put.row rfl ?_
          | refine Put.buf rfl ?_
          | refine Look.at1 ?_
          | refine Look.at2 ?_
          | refine Look.at3 ?_
          | refine Look.at4 ?_
          | refine Look.at5 ?_
          | refine Look.at6 ?_
          | refine Look.at7 ?_
          | refine Look.at8 ?_
          | with_reducible refine Val.i64 (by omega) (by omega) ?_
          | with_reducible refine Val.u8 (by omega) (by omega) ?_
          | with_reducible refine Val.u32 (by omega) (by omega) ?_
          | with_reducible refine Val.u64 (by omega) (by omega) ?_
          | with_reducible refine Val.u8m ?_
          | with_reducible refine Val.u32m ?_
          | with_reducible refine Val.u64m ?_
          | with_reducible refine Val.shr8 ?_
          | with_reducible refine Val.shr16 (by decide) ?_
          | with_reducible refine Val.shr24 (by decide) ?_
          | with_reducible refine Val.raw ?_
          | refine Branch.not ?_
          | refine Branch.and ?_
          | refine Branch.or ?_
          | refine Branch.dt (by assumption) ?_
          | refine Branch.df (by assumption) ?_
          | refine Branch.dt rfl ?_
          | refine Branch.dt (by omega) ?_
          | refine Branch.df (by omega) ?_
          | refine Branch.t rfl ?_
          | refine Branch.f rfl ?_
          | refine Branch.t (by assumption) ?_
          | refine Branch.f (by assumption) ?_
          | refine Branch.d (fun _ => ?_) (fun _ => ?_)
          | refine Branch.mk (fun _ => ?_) (fun _ => ?_)
          | refine Need.mk (by first | omega | decide | rfl) ?_
          | refine Idx.nat (by omega) ?_
          | refine Idx.auto (by first | omega | decide) (by first | omega | decide) ?_
          | refine Cell.ro rfl ?_
          | refine SDraw.all (by kernel_rfl) ?_
          | refine Kept.k0 ?_
          | refine Kept.k1 ?_
          | refine Kept.k2 ?_
          | refine Kept.k3 ?_
          | refine Kept.k4 ?_))
      all_goals (conv => whnf)
      all_goals first | exact Keep.all rfl | trace_state
  | ok l =>
    obtain ⟨hg, hma⟩ := Gd.new hnew
    cases hf : firstF L with
    | none =>
      repeat' ((conv => whnf); (first
          | refine SDraw.held (by kernel_rfl) [_] (.same (.head _) .nil) ?_
          | refine Kept.sub (List.Sublist.cons_cons _ (List.nil_sublist _)) ?_
          | refine c9F hin (fun q c hq hc => ?_)
          | refine c10O hs hnew (fun ms g a cap Bh hn => ?_)
          | refine c21O hin hs hl hnew (fun d r1 r2 r3 r4 c N => ?_)
          | refine c16n hlen hf ?_
          | refine c22n hin hf ?_
          | refine c18 s lo hs hl ?_
          | refine c23 s lo hs hl ?_
          | refine live_c ?_
          | refine New.mk (fun _ => ?_)
          | refine Look.at0 ?_
          | refine Cell.row ?_
          | refine Cell.buf ?_
          | refine Cells.row rfl ?_
          | refine Put.row rfl ?_
          | refine Put.buf rfl ?_
          | refine Look.at1 ?_
          | refine Look.at2 ?_
          | refine Look.at3 ?_
          | refine Look.at4 ?_
          | refine Look.at5 ?_
          | refine Look.at6 ?_
          | refine Look.at7 ?_
          | refine Look.at8 ?_
          | with_reducible refine Val.i64 (by omega) (by omega) ?_
          | with_reducible refine Val.u8 (by omega) (by omega) ?_
          | with_reducible refine Val.u32 (by omega) (by omega) ?_
          | with_reducible refine Val.u64 (by omega) (by omega) ?_
          | with_reducible refine Val.u8m ?_
          | with_reducible refine Val.u32m ?_
          | with_reducible refine Val.u64m ?_
          | with_reducible refine Val.shr8 ?_
          | with_reducible refine Val.shr16 (by decide) ?_
          | with_reducible refine Val.shr24 (by decide) ?_
          | with_reducible refine Val.raw ?_
          | refine Branch.not ?_
          | refine Branch.and ?_
          | refine Branch.or ?_
          | refine Branch.dt (by assumption) ?_
          | refine Branch.df (by assumption) ?_
          | refine Branch.dt rfl ?_
          | refine Branch.dt (by omega) ?_
          | refine Branch.df (by omega) ?_
          | refine Branch.t rfl ?_
          | refine Branch.f rfl ?_
          | refine Branch.t (by assumption) ?_
          | refine Branch.f (by assumption) ?_
          | refine Branch.d (fun _ => ?_) (fun _ => ?_)
          | refine Branch.mk (fun _ => ?_) (fun _ => ?_)
          | refine Need.mk (by first | omega | decide | rfl) ?_
          | refine Idx.nat (by omega) ?_
          | refine Idx.auto (by first | omega | decide) (by first | omega | decide) ?_
          | refine Cell.ro rfl ?_
          | refine SDraw.all (by kernel_rfl) ?_
          | refine Kept.k0 ?_
          | refine Kept.k1 ?_
          | refine Kept.k2 ?_
          | refine Kept.k3 ?_
          | refine Kept.k4 ?_))
      all_goals (conv => whnf)
      refine SLoop.keep (Keep.glue [[_], H0, rN d r1 r2 r3 r4 _ N s lo l, HA, netH g a cap Bh s lo ms] [0, 1, 2, 3, 4] [3, 2, 4] [0, 1] (by decide) rfl ?_)
      refine l7a hinA hn hg _ .mk (fun S v l ms hS => ?_)
      cases hS
      repeat' ((conv => whnf); (first
          | refine live_c ?_
          | refine New.mk (fun _ => ?_)
          | refine Look.at0 ?_
          | refine Cell.row ?_
          | refine Cell.buf ?_
          | refine Cells.row rfl ?_
          | refine Put.row rfl ?_
          | refine Put.buf rfl ?_
          | refine Look.at1 ?_
          | refine Look.at2 ?_
          | refine Look.at3 ?_
          | refine Look.at4 ?_
          | refine Look.at5 ?_
          | refine Look.at6 ?_
          | refine Look.at7 ?_
          | refine Look.at8 ?_
          | with_reducible refine Val.i64 (by omega) (by omega) ?_
          | with_reducible refine Val.u8 (by omega) (by omega) ?_
          | with_reducible refine Val.u32 (by omega) (by omega) ?_
          | with_reducible refine Val.u64 (by omega) (by omega) ?_
          | with_reducible refine Val.u8m ?_
          | with_reducible refine Val.u32m ?_
          | with_reducible refine Val.u64m ?_
          | with_reducible refine Val.shr8 ?_
          | with_reducible refine Val.shr16 (by decide) ?_
          | with_reducible refine Val.shr24 (by decide) ?_
          | with_reducible refine Val.raw ?_
          | refine Branch.not ?_
          | refine Branch.and ?_
          | refine Branch.or ?_
          | refine Branch.dt (by assumption) ?_
          | refine Branch.df (by assumption) ?_
          | refine Branch.dt rfl ?_
          | refine Branch.dt (by omega) ?_
          | refine Branch.df (by omega) ?_
          | refine Branch.t rfl ?_
          | refine Branch.f rfl ?_
          | refine Branch.t (by assumption) ?_
          | refine Branch.f (by assumption) ?_
          | refine Branch.d (fun _ => ?_) (fun _ => ?_)
          | refine Branch.mk (fun _ => ?_) (fun _ => ?_)
          | refine Need.mk (by first | omega | decide | rfl) ?_
          | refine Idx.nat (by omega) ?_
          | refine Idx.auto (by first | omega | decide) (by first | omega | decide) ?_
          | refine Cell.ro rfl ?_
          | refine SDraw.all (by kernel_rfl) ?_
          | refine Kept.k0 ?_
          | refine Kept.k1 ?_
          | refine Kept.k2 ?_
          | refine Kept.k3 ?_
          | refine Kept.k4 ?_))
      all_goals (conv => whnf)
      all_goals first | exact Keep.all rfl | trace_state
    | some f =>
      repeat' ((conv => whnf); (first
          | refine SDraw.held (by kernel_rfl) [_] (.same (.head _) .nil) ?_
          | refine Kept.sub (List.Sublist.cons_cons _ (List.nil_sublist _)) ?_
          | refine c9F hin (fun q c hq hc => ?_)
          | refine c10O hs hnew (fun ms g a cap Bh hn => ?_)
          | refine c21O hin hs hl hnew (fun d r1 r2 r3 r4 c N => ?_)
          | refine c16s hlen hf ?_
          | refine c22s hin hf ?_
          | refine c18 s lo hs hl ?_
          | refine c23 s lo hs hl ?_
          | refine live_c ?_
          | refine New.mk (fun _ => ?_)
          | refine Look.at0 ?_
          | refine Cell.row ?_
          | refine Cell.buf ?_
          | refine Cells.row rfl ?_
          | refine Put.row rfl ?_
          | refine Put.buf rfl ?_
          | refine Look.at1 ?_
          | refine Look.at2 ?_
          | refine Look.at3 ?_
          | refine Look.at4 ?_
          | refine Look.at5 ?_
          | refine Look.at6 ?_
          | refine Look.at7 ?_
          | refine Look.at8 ?_
          | with_reducible refine Val.i64 (by omega) (by omega) ?_
          | with_reducible refine Val.u8 (by omega) (by omega) ?_
          | with_reducible refine Val.u32 (by omega) (by omega) ?_
          | with_reducible refine Val.u64 (by omega) (by omega) ?_
          | with_reducible refine Val.u8m ?_
          | with_reducible refine Val.u32m ?_
          | with_reducible refine Val.u64m ?_
          | with_reducible refine Val.shr8 ?_
          | with_reducible refine Val.shr16 (by decide) ?_
          | with_reducible refine Val.shr24 (by decide) ?_
          | with_reducible refine Val.raw ?_
          | refine Branch.not ?_
          | refine Branch.and ?_
          | refine Branch.or ?_
          | refine Branch.dt (by assumption) ?_
          | refine Branch.df (by assumption) ?_
          | refine Branch.dt rfl ?_
          | refine Branch.dt (by omega) ?_
          | refine Branch.df (by omega) ?_
          | refine Branch.t rfl ?_
          | refine Branch.f rfl ?_
          | refine Branch.t (by assumption) ?_
          | refine Branch.f (by assumption) ?_
          | refine Branch.d (fun _ => ?_) (fun _ => ?_)
          | refine Branch.mk (fun _ => ?_) (fun _ => ?_)
          | refine Need.mk (by first | omega | decide | rfl) ?_
          | refine Idx.nat (by omega) ?_
          | refine Idx.auto (by first | omega | decide) (by first | omega | decide) ?_
          | refine Cell.ro rfl ?_
          | refine SDraw.all (by kernel_rfl) ?_
          | refine Kept.k0 ?_
          | refine Kept.k1 ?_
          | refine Kept.k2 ?_
          | refine Kept.k3 ?_
          | refine Kept.k4 ?_))
      all_goals (conv => whnf)
      refine SLoop.keep (Keep.glue [[_], H0, rN d r1 r2 r3 r4 _ N s lo l, HA, netH g a cap Bh s lo ms] [0, 1, 2, 3, 4] [3, 2, 4] [0, 1] (by decide) rfl ?_)
      refine l7a hinA hn hg _ .mk (fun S v l ms hS => ?_)
      cases hS
      repeat' ((conv => whnf); (first
          | refine live_c ?_
          | refine New.mk (fun _ => ?_)
          | refine Look.at0 ?_
          | refine Cell.row ?_
          | refine Cell.buf ?_
          | refine Cells.row rfl ?_
          | refine Put.row rfl ?_
          | refine Put.buf rfl ?_
          | refine Look.at1 ?_
          | refine Look.at2 ?_
          | refine Look.at3 ?_
          | refine Look.at4 ?_
          | refine Look.at5 ?_
          | refine Look.at6 ?_
          | refine Look.at7 ?_
          | refine Look.at8 ?_
          | with_reducible refine Val.i64 (by omega) (by omega) ?_
          | with_reducible refine Val.u8 (by omega) (by omega) ?_
          | with_reducible refine Val.u32 (by omega) (by omega) ?_
          | with_reducible refine Val.u64 (by omega) (by omega) ?_
          | with_reducible refine Val.u8m ?_
          | with_reducible refine Val.u32m ?_
          | with_reducible refine Val.u64m ?_
          | with_reducible refine Val.shr8 ?_
          | with_reducible refine Val.shr16 (by decide) ?_
          | with_reducible refine Val.shr24 (by decide) ?_
          | with_reducible refine Val.raw ?_
          | refine Branch.not ?_
          | refine Branch.and ?_
          | refine Branch.or ?_
          | refine Branch.dt (by assumption) ?_
          | refine Branch.df (by assumption) ?_
          | refine Branch.dt rfl ?_
          | refine Branch.dt (by omega) ?_
          | refine Branch.df (by omega) ?_
          | refine Branch.t rfl ?_
          | refine Branch.f rfl ?_
          | refine Branch.t (by assumption) ?_
          | refine Branch.f (by assumption) ?_
          | refine Branch.d (fun _ => ?_) (fun _ => ?_)
          | refine Branch.mk (fun _ => ?_) (fun _ => ?_)
          | refine Need.mk (by first | omega | decide | rfl) ?_
          | refine Idx.nat (by omega) ?_
          | refine Idx.auto (by first | omega | decide) (by first | omega | decide) ?_
          | refine Cell.ro rfl ?_
          | refine SDraw.all (by kernel_rfl) ?_
          | refine Kept.k0 ?_
          | refine Kept.k1 ?_
          | refine Kept.k2 ?_
          | refine Kept.k3 ?_
          | refine Kept.k4 ?_))
      all_goals (conv => whnf)
      all_goals first | exact Keep.all rfl | trace_state
theorem FlyingActsW (a0x0a : Option Addr) (a0x0l : Nat) (a0x0c : Nat) (a0x1 : Int) (a0x2 : Int) (a1a : Option Addr) (a1l : Nat) (a1c : Nat) (w : World) (h0_0 : SliceAt 3 B30 R30 w a0x0a a0x0l a0x0c) (h0_1 : (Lit.int .u64 a0x1).wf = true) (h0_2 : (Lit.int .u64 a0x2).wf = true) (h1_0 : SliceAt 3 B50 R50 w a1a a1l a1c) :
    Calls Try.prog 7 #[.agg #[.slice a0x0a a0x0l a0x0c, .int .u64 a0x1, .int .u64 a0x2], .slice a1a a1l a1c] w fun e w' => e = .returned (.bool true) ∧ Go.RowKit.Below w.heap.size w w' := by
  obtain ⟨H, L, rfl, hin, hw, hx⟩ := inL_of h0_0
  obtain ⟨HA, A, rfl, hinA, hwA, hxA⟩ := inA_of h1_0
  refine (acts_sc hin hinA a0x1 a0x2 (wf_u64 h0_1) (wf_u64 h0_2)).fin w (Holds.app_ro hw hwA hx hxA) fun p hp => ?_
  rcases List.mem_append.1 hp with hp | hp
  · exact hx p hp
  · exact hxA p hp
end Go.Proofs.Ytmakaofdpoiaaaa
