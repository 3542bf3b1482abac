/- Layer 19: behind a selection of an address just the slaves of that address are configured: the walk. -/
import Derived.Test.YtneicohblmjakaaLsF1
import Derived.Test.YtneicohblmjakaaXb
import Derived.Test.YtneicohblmjakaaTy
set_option linter.unusedVariables false
set_option linter.unusedSimpArgs false
set_option maxRecDepth 100000
set_option maxHeartbeats 4000000
namespace Go.Proofs.Ytneicohblmjakaa
open Sx
theorem Val.v64 {n : Int} {K : Int → Prop} (m : Int) (e : n = m) (h1 : -9223372036854775808 ≤ m) (h2 : m ≤ 9223372036854775807) (h : K m) : Val (IntKind.i64.wrap n) K := by subst e; exact Val.i64 h1 h2 h
def oneI (a0 a1 a2 a3 : Int) (xl cap b o : Nat) (f : Nat → Option Value) (l : List Value) (H : Heap) : Prop :=
  ∃ (n j ga : Nat) (r2 r4 r6 r7 r8 r9 r10 r11 r12 r13 r14 r15 r16 r17 r18 r19 r20 r21 r22 r23 r24 r25 r26 r27 r28 r29 r30 r31 r32 r33 r34 r35 r36 r37 r38 r39 r40 r41 r42 r43 r44 r45 r46 r47 r48 r49 r50 r51 r52 r53 r54 r55 r56 r57 r58 r59 r60 r61 r62 r63 r64 r65 r66 r67 r68 r69 r70 r71 r72 r73 r74 r75 r76 r77 : Value), j ≤ n ∧ n ≤ 60 ∧ n ≤ xl ∧ l = [.slice (some ⟨b, o, none⟩) n cap, .agg ⟨[.int .u32 a0, .int .u32 a1, .int .u32 a2, .int .u32 a3]⟩, r2, .pointer (some ⟨ga, 0, none⟩), r4, .int .i64 (j : Int), r6, r7, r8, r9, r10, r11, r12, r13, r14, r15, r16, r17, r18, r19, r20, r21, r22, r23, r24, r25, r26, r27, r28, r29, r30, r31, r32, r33, r34, r35, r36, r37, r38, r39, r40, r41, r42, r43, r44, r45, r46, r47, r48, r49, r50, r51, r52, r53, r54, r55, r56, r57, r58, r59, r60, r61, r62, r63, r64, r65, r66, r67, r68, r69, r70, r71, r72, r73, r74, r75, r76, r77] ∧ H = [(ga, .row 24 [.int .u32 a0, .int .u32 a1, .int .u32 a2, .int .u32 a3] (0, 0)), (b, .ro f)]
noncomputable def oneM (l : List Value) (_ : Heap) : Nat := 60 - (match getL l 5 with | .int _ i => i.toNat | _ => 0)
theorem one_sc (a0 a1 a2 a3 : Int) (xl cap b o : Nat) (f : Nat → Option Value) (hcap : xl ≤ cap) (e0 : 0 ≤ a0 ∧ a0 ≤ 4294967295) (e1 : 0 ≤ a1 ∧ a1 ≤ 4294967295) (e2 : 0 ≤ a2 ∧ a2 ≤ 4294967295) (e3 : 0 ≤ a3 ∧ a3 ≤ 4294967295)
    (hf : ∀ j, j < xl → ∃ x0 x1 x2 x3 : Int, f (o + j * 4) = some (.int .u32 x0) ∧ f (o + j * 4 + 1) = some (.int .u32 x1) ∧ f (o + j * 4 + 2) = some (.int .u32 x2) ∧ f (o + j * 4 + 3) = some (.int .u32 x3) ∧ (0 ≤ x0 ∧ x0 ≤ 4294967295) ∧ (0 ≤ x1 ∧ x1 ≤ 4294967295) ∧ (0 ≤ x2 ∧ x2 ≤ 4294967295) ∧ (0 ≤ x3 ∧ x3 ≤ 4294967295)) :
    SCalls Try.prog 3 [.slice (some ⟨b, o, none⟩) xl cap, .agg ⟨[.int .u32 a0, .int .u32 a1, .int .u32 a2, .int .u32 a3]⟩] [(b, .ro f)] fun v _ => v = .bool true := by
  refine enter3 ?_
  repeat' ((conv => whnf); (first
      | refine New.mk (fun _ => ?_)
      | refine Look.at0 ?_
      | refine Cell.row ?_
      | refine Cells.row rfl ?_
      | refine Put.row rfl ?_
      | refine Look.at1 ?_
      | refine Look.at2 ?_
      | refine Look.at3 ?_
      | refine Look.at4 ?_
      | refine Look.at5 ?_
      | refine Look.at6 ?_
      | refine Look.at7 ?_
      | refine Look.at8 ?_
      | with_reducible refine Val.i64 (by omega) (by omega) ?_
      | with_reducible refine Val.u8 (by omega) (by omega) ?_
      | with_reducible refine Val.u32 (by omega) (by omega) ?_
      | with_reducible refine Val.u64 (by omega) (by omega) ?_
      | with_reducible refine Val.u8m ?_
      | with_reducible refine Val.u32m ?_
      | with_reducible refine Val.u64m ?_
      | with_reducible refine Val.shr8 ?_
      | with_reducible refine Val.shr16 (by decide) ?_
      | with_reducible refine Val.shr24 (by decide) ?_
      | with_reducible refine Val.raw ?_
      | refine Branch.not ?_
      | refine Branch.and ?_
      | refine Branch.or ?_
      | refine Branch.dt (by assumption) ?_
      | refine Branch.df (by assumption) ?_
      | refine Branch.dt rfl ?_
      | refine Branch.dt (by omega) ?_
      | refine Branch.df (by omega) ?_
      | refine Branch.t rfl ?_
      | refine Branch.f rfl ?_
      | refine Branch.t (by assumption) ?_
      | refine Branch.f (by assumption) ?_
      | refine Branch.d (fun _ => ?_) (fun _ => ?_)
      | refine Branch.mk (fun _ => ?_) (fun _ => ?_)
      | refine Need.mk (by first | omega | decide | rfl) ?_
      | refine Idx.nat (by omega) ?_
      | refine Idx.auto (by first | omega | decide) (by first | omega | decide) ?_
      | refine Cell.ro rfl ?_
      | refine SDraw.all (by kernel_rfl) ?_
      | refine Kept.k0 ?_
      | refine Kept.k1 ?_
      | refine Kept.k2 ?_
      | refine Kept.k3 ?_
      | refine Kept.k4 ?_))
  all_goals (conv => whnf)
  all_goals refine SLoop.inv (oneI a0 a1 a2 a3 xl cap b o f) oneM (Keep.all ?_) ?_
  all_goals try
    exact ⟨_, 0, _, _, _, _, _, _, _, _, _, _, _, _, _, _, _, _, _, _, _, _, _, _, _, _, _, _, _, _, _, _, _, _, _, _, _, _, _, _, _, _, _, _, _, _, _, _, _, _, _, _, _, _, _, _, _, _, _, _, _, _, _, _, _, _, _, _, _, _, _, _, _, _, _, _, _, by omega, by omega, by omega, rfl, rfl⟩
  all_goals
    rintro l H ⟨n, j, ga, r2, r4, r6, r7, r8, r9, r10, r11, r12, r13, r14, r15, r16, r17, r18, r19, r20, r21, r22, r23, r24, r25, r26, r27, r28, r29, r30, r31, r32, r33, r34, r35, r36, r37, r38, r39, r40, r41, r42, r43, r44, r45, r46, r47, r48, r49, r50, r51, r52, r53, r54, r55, r56, r57, r58, r59, r60, r61, r62, r63, r64, r65, r66, r67, r68, r69, r70, r71, r72, r73, r74, r75, r76, r77, hj, h60, hxl, rfl, rfl⟩ R hR
    by_cases hjn : j < n
    · obtain ⟨x0, x1, x2, x3, g0, g1, g2, g3, s0, s1, s2, s3⟩ := hf j (by omega)
      obtain ⟨l1, l2, l3, l4, aa, t0, t1, t2, t3, k1, k2, k3, m1, m2, m3, hres⟩ := sel_all a0 a1 a2 a3 s0 s1 s2 s3
      rw [← take_sel rfl 64 0 a0 rfl (by decide) e0] at t0
      rw [← take_sel m1 65 1 a1 rfl (by decide) e1] at t1
      rw [← take_sel m2 66 2 a2 rfl (by decide) e2] at t2
      rw [← take_sel m3 67 3 a3 rfl (by decide) e3] at t3
      have k0 := lM_ok (t := 0) (m := 0) s0 s1 s2 s3 (by decide) (.inl rfl)
      have hcells : ∀ i v, [Value.int .u32 x0, .int .u32 x1, .int .u32 x2, .int .u32 x3][i]? = some v → (Blk.ro f).cell (o + j * 4 + i) = some v := by
        intro i v hi
        match i, hi with
        | 0, hi => injection hi with hi; rw [← hi]; exact g0
        | 1, hi => injection hi with hi; rw [← hi]; exact g1
        | 2, hi => injection hi with hi; rw [← hi]; exact g2
        | 3, hi => injection hi with hi; rw [← hi]; exact g3
      rcases hres with ⟨rfl, rfl, rfl, rfl, rfl, hm⟩ | ⟨hne, rfl, hm⟩
      · repeat' ((conv => whnf); (first
            | refine c7n x0 x1 x2 x3 0 (by decide) (fun g => ?_)
            | refine c9 _ _ (by assumption) ?_
            | refine Cells.get [.int .u32 x0, .int .u32 x1, .int .u32 x2, .int .u32 x3] rfl hcells ?_
            | refine SLoop.round ?_
            | refine SCalls.at0 (c8e (lM x0 x1 x2 x3 0 0) k0 _ (q_ok 64 x0 (by decide) e0) none t0 (fun h => absurd (show (64 : Int) = 23 from h.1) (by decide)) ?_)
            | refine SCalls.at1 (c8e l1 k1 _ (q_ok 65 x1 (by decide) e1) none t1 (fun h => absurd (show (65 : Int) = 23 from h.1) (by decide)) ?_)
            | refine SCalls.at2 (c8e l2 k2 _ (q_ok 66 x2 (by decide) e2) none t2 (fun h => absurd (show (66 : Int) = 23 from h.1) (by decide)) ?_)
            | refine SCalls.at3 (c8e l3 k3 _ (q_ok 67 x3 (by decide) e3) none t3 (fun h => absurd (show (67 : Int) = 23 from h.1) (by decide)) ?_)
            | refine SCalls.at4 (c10g l4 none ?_)
            | with_reducible refine Val.v64 1 (by omega) (by omega) (by omega) ?_
            | with_reducible refine Val.v64 2 (by omega) (by omega) (by omega) ?_
            | with_reducible refine Val.v64 3 (by omega) (by omega) (by omega) ?_
            | with_reducible refine Val.v64 4 (by omega) (by omega) (by omega) ?_
            | with_reducible refine Val.v64 64 (by omega) (by omega) (by omega) ?_
            | with_reducible refine Val.v64 65 (by omega) (by omega) (by omega) ?_
            | with_reducible refine Val.v64 66 (by omega) (by omega) (by omega) ?_
            | with_reducible refine Val.v64 67 (by omega) (by omega) (by omega) ?_
            | refine live_c ?_
            | refine Branch.f (by first | (simp [hm]; done) | omega) ?_
            | refine Branch.t (by first | (simp [hm]; done) | omega) ?_
            | refine New.mk (fun _ => ?_)
            | refine Look.at0 ?_
            | refine Cell.row ?_
            | refine Cells.row rfl ?_
            | refine Put.row rfl ?_
            | refine Look.at1 ?_
            | refine Look.at2 ?_
            | refine Look.at3 ?_
            | refine Look.at4 ?_
            | refine Look.at5 ?_
            | refine Look.at6 ?_
            | refine Look.at7 ?_
            | refine Look.at8 ?_
            | with_reducible refine Val.i64 (by omega) (by omega) ?_
            | with_reducible refine Val.u8 (by omega) (by omega) ?_
            | with_reducible refine Val.u32 (by omega) (by omega) ?_
            | with_reducible refine Val.u64 (by omega) (by omega) ?_
            | with_reducible refine Val.u8m ?_
            | with_reducible refine Val.u32m ?_
            | with_reducible refine Val.u64m ?_
            | with_reducible refine Val.shr8 ?_
            | with_reducible refine Val.shr16 (by decide) ?_
            | with_reducible refine Val.shr24 (by decide) ?_
            | with_reducible refine Val.raw ?_
            | refine Branch.not ?_
            | refine Branch.and ?_
            | refine Branch.or ?_
            | refine Branch.dt (by assumption) ?_
            | refine Branch.df (by assumption) ?_
            | refine Branch.dt rfl ?_
            | refine Branch.dt (by omega) ?_
            | refine Branch.df (by omega) ?_
            | refine Branch.t rfl ?_
            | refine Branch.f rfl ?_
            | refine Branch.t (by assumption) ?_
            | refine Branch.f (by assumption) ?_
            | refine Branch.d (fun _ => ?_) (fun _ => ?_)
            | refine Branch.mk (fun _ => ?_) (fun _ => ?_)
            | refine Need.mk (by first | omega | decide | rfl) ?_
            | refine Idx.nat (by omega) ?_
            | refine Idx.auto (by first | omega | decide) (by first | omega | decide) ?_
            | refine Cell.ro rfl ?_
            | refine SDraw.all (by kernel_rfl) ?_
            | refine Kept.k0 ?_
            | refine Kept.k1 ?_
            | refine Kept.k2 ?_
            | refine Kept.k3 ?_
            | refine Kept.k4 ?_))
        all_goals (conv => whnf)
        all_goals first
            | exact Keep.all rfl
            | (refine hR _ _ (Keep.d5 ⟨⟨n, j + 1, ga, _, _, _, _, _, _, _, _, _, _, _, _, _, _, _, _, _, _, _, _, _, _, _, _, _, _, _, _, _, _, _, _, _, _, _, _, _, _, _, _, _, _, _, _, _, _, _, _, _, _, _, _, _, _, _, _, _, _, _, _, _, _, _, _, _, _, _, _, _, _, _, _, _, _, by omega, h60, hxl, rfl, rfl⟩, ?_⟩); show 60 - Int.toNat ((j : Int) + 1) < 60 - Int.toNat (j : Int); omega)
            | (exfalso; rename_i h; first | exact h (by first | (simp [hm, A.one]; done) | omega) | exact h (by first | (simp [A.one]; done) | omega) | exact h (by symm; rw [← Bool.not_eq_true]; simp only [Bool.and_eq_true, decide_eq_true_eq]; exact hne))
            | trace_state
      · repeat' ((conv => whnf); (first
            | refine c7n x0 x1 x2 x3 0 (by decide) (fun g => ?_)
            | refine c9 _ _ (by assumption) ?_
            | refine Cells.get [.int .u32 x0, .int .u32 x1, .int .u32 x2, .int .u32 x3] rfl hcells ?_
            | refine SLoop.round ?_
            | refine SCalls.at0 (c8e (lM x0 x1 x2 x3 0 0) k0 _ (q_ok 64 a0 (by decide) e0) none t0 (fun h => absurd (show (64 : Int) = 23 from h.1) (by decide)) ?_)
            | refine SCalls.at1 (c8e l1 k1 _ (q_ok 65 a1 (by decide) e1) none t1 (fun h => absurd (show (65 : Int) = 23 from h.1) (by decide)) ?_)
            | refine SCalls.at2 (c8e l2 k2 _ (q_ok 66 a2 (by decide) e2) none t2 (fun h => absurd (show (66 : Int) = 23 from h.1) (by decide)) ?_)
            | refine SCalls.at3 (c8e l3 k3 _ (q_ok 67 a3 (by decide) e3) none t3 (fun h => absurd (show (67 : Int) = 23 from h.1) (by decide)) ?_)
            | refine SCalls.at4 (c10g l4 none ?_)
            | with_reducible refine Val.v64 1 (by omega) (by omega) (by omega) ?_
            | with_reducible refine Val.v64 2 (by omega) (by omega) (by omega) ?_
            | with_reducible refine Val.v64 3 (by omega) (by omega) (by omega) ?_
            | with_reducible refine Val.v64 4 (by omega) (by omega) (by omega) ?_
            | with_reducible refine Val.v64 64 (by omega) (by omega) (by omega) ?_
            | with_reducible refine Val.v64 65 (by omega) (by omega) (by omega) ?_
            | with_reducible refine Val.v64 66 (by omega) (by omega) (by omega) ?_
            | with_reducible refine Val.v64 67 (by omega) (by omega) (by omega) ?_
            | refine live_c ?_
            | refine Branch.f (by first | (simp [hm, hne]; done) | omega) ?_
            | refine Branch.t (by first | (simp [hm, hne]; done) | omega) ?_
            | refine New.mk (fun _ => ?_)
            | refine Look.at0 ?_
            | refine Cell.row ?_
            | refine Cells.row rfl ?_
            | refine Put.row rfl ?_
            | refine Look.at1 ?_
            | refine Look.at2 ?_
            | refine Look.at3 ?_
            | refine Look.at4 ?_
            | refine Look.at5 ?_
            | refine Look.at6 ?_
            | refine Look.at7 ?_
            | refine Look.at8 ?_
            | with_reducible refine Val.i64 (by omega) (by omega) ?_
            | with_reducible refine Val.u8 (by omega) (by omega) ?_
            | with_reducible refine Val.u32 (by omega) (by omega) ?_
            | with_reducible refine Val.u64 (by omega) (by omega) ?_
            | with_reducible refine Val.u8m ?_
            | with_reducible refine Val.u32m ?_
            | with_reducible refine Val.u64m ?_
            | with_reducible refine Val.shr8 ?_
            | with_reducible refine Val.shr16 (by decide) ?_
            | with_reducible refine Val.shr24 (by decide) ?_
            | with_reducible refine Val.raw ?_
            | refine Branch.not ?_
            | refine Branch.and ?_
            | refine Branch.or ?_
            | refine Branch.dt (by assumption) ?_
            | refine Branch.df (by assumption) ?_
            | refine Branch.dt rfl ?_
            | refine Branch.dt (by omega) ?_
            | refine Branch.df (by omega) ?_
            | refine Branch.t rfl ?_
            | refine Branch.f rfl ?_
            | refine Branch.t (by assumption) ?_
            | refine Branch.f (by assumption) ?_
            | refine Branch.d (fun _ => ?_) (fun _ => ?_)
            | refine Branch.mk (fun _ => ?_) (fun _ => ?_)
            | refine Need.mk (by first | omega | decide | rfl) ?_
            | refine Idx.nat (by omega) ?_
            | refine Idx.auto (by first | omega | decide) (by first | omega | decide) ?_
            | refine Cell.ro rfl ?_
            | refine SDraw.all (by kernel_rfl) ?_
            | refine Kept.k0 ?_
            | refine Kept.k1 ?_
            | refine Kept.k2 ?_
            | refine Kept.k3 ?_
            | refine Kept.k4 ?_))
        all_goals (conv => whnf)
        all_goals first
            | exact Keep.all rfl
            | (refine hR _ _ (Keep.d5 ⟨⟨n, j + 1, ga, _, _, _, _, _, _, _, _, _, _, _, _, _, _, _, _, _, _, _, _, _, _, _, _, _, _, _, _, _, _, _, _, _, _, _, _, _, _, _, _, _, _, _, _, _, _, _, _, _, _, _, _, _, _, _, _, _, _, _, _, _, _, _, _, _, _, _, _, _, _, _, _, _, _, by omega, h60, hxl, rfl, rfl⟩, ?_⟩); show 60 - Int.toNat ((j : Int) + 1) < 60 - Int.toNat (j : Int); omega)
            | (exfalso; rename_i h; first | exact h (by first | (simp [hm, A.one]; done) | omega) | exact h (by first | (simp [A.one]; done) | omega) | exact h (by symm; rw [← Bool.not_eq_true]; simp only [Bool.and_eq_true, decide_eq_true_eq]; exact hne))
            | trace_state
    · repeat' ((conv => whnf); (first
          | refine live_c ?_
          | refine New.mk (fun _ => ?_)
          | refine Look.at0 ?_
          | refine Cell.row ?_
          | refine Cells.row rfl ?_
          | refine Put.row rfl ?_
          | refine Look.at1 ?_
          | refine Look.at2 ?_
          | refine Look.at3 ?_
          | refine Look.at4 ?_
          | refine Look.at5 ?_
          | refine Look.at6 ?_
          | refine Look.at7 ?_
          | refine Look.at8 ?_
          | with_reducible refine Val.i64 (by omega) (by omega) ?_
          | with_reducible refine Val.u8 (by omega) (by omega) ?_
          | with_reducible refine Val.u32 (by omega) (by omega) ?_
          | with_reducible refine Val.u64 (by omega) (by omega) ?_
          | with_reducible refine Val.u8m ?_
          | with_reducible refine Val.u32m ?_
          | with_reducible refine Val.u64m ?_
          | with_reducible refine Val.shr8 ?_
          | with_reducible refine Val.shr16 (by decide) ?_
          | with_reducible refine Val.shr24 (by decide) ?_
          | with_reducible refine Val.raw ?_
          | refine Branch.not ?_
          | refine Branch.and ?_
          | refine Branch.or ?_
          | refine Branch.dt (by assumption) ?_
          | refine Branch.df (by assumption) ?_
          | refine Branch.dt rfl ?_
          | refine Branch.dt (by omega) ?_
          | refine Branch.df (by omega) ?_
          | refine Branch.t rfl ?_
          | refine Branch.f rfl ?_
          | refine Branch.t (by assumption) ?_
          | refine Branch.f (by assumption) ?_
          | refine Branch.d (fun _ => ?_) (fun _ => ?_)
          | refine Branch.mk (fun _ => ?_) (fun _ => ?_)
          | refine Need.mk (by first | omega | decide | rfl) ?_
          | refine Idx.nat (by omega) ?_
          | refine Idx.auto (by first | omega | decide) (by first | omega | decide) ?_
          | refine Cell.ro rfl ?_
          | refine SDraw.all (by kernel_rfl) ?_
          | refine Kept.k0 ?_
          | refine Kept.k1 ?_
          | refine Kept.k2 ?_
          | refine Kept.k3 ?_
          | refine Kept.k4 ?_))
      all_goals (conv => whnf)
      all_goals first | exact Keep.all rfl | trace_state
end Go.Proofs.Ytneicohblmjakaa
