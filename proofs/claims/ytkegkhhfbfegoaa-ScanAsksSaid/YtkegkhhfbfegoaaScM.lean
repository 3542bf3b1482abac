/- Layer 20: the document finds all slaves, and gives them numbers: by walks. -/
import Derived.Test.YtkegkhhfbfegoaaScL
set_option linter.unusedVariables false
set_option linter.unusedSimpArgs false
set_option maxRecDepth 100000
set_option maxHeartbeats 4000000
namespace Go.Proofs.Ytkegkhhfbfegoaa
open Sx Ls
theorem takeR_ok (r : R) (hr : r.Ok) (q : Q) (hq : q.Ok) : (r.take q).2.Ok := by
  obtain ⟨h1, h2, h3, h4, h5, h6, h7, h8, h9⟩ := hr
  obtain ⟨r0, r1, r2, r3, r4, r5, r6, r7⟩ := hq
  unfold R.take
  (repeat' split)
  all_goals first
    | (constructor <;> assumption)
    | (unfold R.set; (repeat' split) <;> constructor <;> first | assumption | (dsimp only; omega))
    | (unfold R.pick; (repeat' split) <;> constructor <;> first | assumption | (dsimp only; omega))
    | (unfold R.scan; (repeat' split) <;> constructor <;> first | assumption | (dsimp only; omega))
theorem tkR_ok {q : Q} (hq : q.Ok) {ms : List PR} (h : ∀ x ∈ ms, x.2.Ok) : ∀ x ∈ ms.map (tkR q), x.2.Ok := by
  intro x hx
  obtain ⟨y, hy, rfl⟩ := List.mem_map.1 hx
  exact takeR_ok y.2 (h y hy) q hq
theorem tkR_fst (q : Q) (ms : List PR) : (ms.map (tkR q)).map Prod.fst = ms.map Prod.fst := by
  rw [List.map_map]; rfl
def scanR (ms : List PR) : Sc × List PR := runR 134 Sc.new ms
def q17r (n : Int) : Q := ⟨17, n, 0, 0, 0, 0, 0, 0⟩
theorem q17r_ok {n : Int} (h : 1 ≤ n ∧ n ≤ 127) : (q17r n).Ok := by unfold q17r; constructor <;> (dsimp only; omega)
def giveR (id : Int) (ms : List PR) : List PR := (ms.map (tkR (q17r id))).map (tkR q4)
def allR : List Int → List PR → List Sc → List Sc × Int × List PR
  | [], ms, out => (out, if ms.any (anR Sc.new.q) = true then 4 else 0, ms.map (tkR Sc.new.q))
  | id :: r, ms, out => if (scanR ms).1.found = false then (out, 0, (scanR ms).2) else allR r (giveR id (scanR ms).2) (out ++ [(scanR ms).1])
def allD (xs : List Int) (ms : List PR) : List Sc × Int × List PR := if chk28 xs ms.length = 0 then allR xs ms [] else ([], chk28 xs ms.length, ms)
theorem runR_fst : ∀ (n : Nat) (s : Sc) (ms : List PR), (runR n s ms).2.map Prod.fst = ms.map Prod.fst
  | 0, _, _ => rfl
  | n + 1, s, ms => by
    rw [runR]
    split
    · rfl
    · rw [runR_fst n]; exact tkR_fst _ _
theorem runR_ok : ∀ (n : Nat) (s : Sc) (ms : List PR), s.Ok → (∀ x ∈ ms, x.2.Ok) → (∀ x ∈ (runR n s ms).2, x.2.Ok) ∧ (runR n s ms).1.Ok
  | 0, _, _, hs, h => ⟨h, hs⟩
  | n + 1, s, ms, hs, h => by
    rw [runR]
    split
    · exact ⟨h, hs⟩
    · rename_i h3
      exact runR_ok n _ _ ((hs.ask h3).ans _) (tkR_ok (hs.q_ok h3).1 h)
inductive S10 (A0 A1 A7 A8 : Value) : List Value → Prop
  | mk {r2 r3 r4 r5 r6 r9 r10 r11 r12 r13 r14 r15 r16 r17 r18 r19 r20 r21 r22 r23 r24 r25 r26 r27 r28 r29 r30 r31 r32 r33 r34 r35 r36 r37 r38 r39 r40 r41 r42 r43 r44 r45 r46 r47 r48 r49 r50 r51 r52 r53 r54 r55 r56 r57 r58 r59 r60 r61 r62 r63 r64 r65 r66 r67 r68 r69 : Value} : S10 A0 A1 A7 A8 [A0, A1, r2, r3, r4, r5, r6, A7, A8, r9, r10, r11, r12, r13, r14, r15, r16, r17, r18, r19, r20, r21, r22, r23, r24, r25, r26, r27, r28, r29, r30, r31, r32, r33, r34, r35, r36, r37, r38, r39, r40, r41, r42, r43, r44, r45, r46, r47, r48, r49, r50, r51, r52, r53, r54, r55, r56, r57, r58, r59, r60, r61, r62, r63, r64, r65, r66, r67, r68, r69]
inductive S10i (A0 A1 A7 A8 A9 : Value) : List Value → Prop
  | mk {r2 r3 r4 r5 r6 r10 r11 r12 r13 r14 r15 r16 r17 r18 r19 r20 r21 r22 r23 r24 r25 r26 r27 r28 r29 r30 r31 r32 r33 r34 r35 r36 r37 r38 r39 r40 r41 r42 r43 r44 r45 r46 r47 r48 r49 r50 r51 r52 r53 r54 r55 r56 r57 r58 r59 r60 r61 r62 r63 r64 r65 r66 r67 r68 r69 : Value} : S10i A0 A1 A7 A8 A9 [A0, A1, r2, r3, r4, r5, r6, A7, A8, A9, r10, r11, r12, r13, r14, r15, r16, r17, r18, r19, r20, r21, r22, r23, r24, r25, r26, r27, r28, r29, r30, r31, r32, r33, r34, r35, r36, r37, r38, r39, r40, r41, r42, r43, r44, r45, r46, r47, r48, r49, r50, r51, r52, r53, r54, r55, r56, r57, r58, r59, r60, r61, r62, r63, r64, r65, r66, r67, r68, r69]
structure T10 where
  (j : Nat) (outs : List Sc) (ms : List PR) (ro co : Nat)
abbrev outB (ro co : Nat) (outs : List Sc) : Nat × Blk := (ro, .buf 34 (outs.flatMap Sc.c4) (co * 4))
def I10 (a : Option Addr) (cap n : Nat) (sx : Value) (G Bh : Heap) (ad : List Nat) (xs : List Int) (T : List Sc × Int × List PR) (x : T10) (S : List Value) (H : Heap) : Prop :=
  x.j ≤ xs.length ∧ x.ms.map Prod.fst = ad ∧ (∀ y ∈ x.ms, y.2.Ok) ∧ allR (xs.drop x.j) x.ms x.outs = T ∧ x.outs.length = x.j ∧ x.outs.length ≤ x.co ∧ x.co ≤ maxLen ∧
    S10 (.slice a n cap) sx (.slice (some ⟨x.ro, 0, none⟩) x.outs.length x.co) (.int .i64 (x.j : Int)) S ∧ H = outB x.ro x.co x.outs :: (G ++ (Bh ++ x.ms.map rwR))
structure T10i where
  (n : Nat) (s : Sc) (ms : List PR)
def I10i (a : Option Addr) (cap n : Nat) (sx so : Value) (b : Nat × Blk) (j gs : Nat) (G Bh : Heap) (ad : List Nat) (T : Sc × List PR) (x : T10i) (S : List Value) (H : Heap) : Prop :=
  x.s.Ok ∧ x.s.took = (x.n : Int) ∧ x.ms.map Prod.fst = ad ∧ (∀ y ∈ x.ms, y.2.Ok) ∧ runR (134 - x.n) x.s x.ms = T ∧
    S10i (.slice a n cap) sx so (.int .i64 (j : Int)) (ptr gs) S ∧ H = (gs, x.s.ref) :: b :: (G ++ (Bh ++ x.ms.map rwR))
section
variable {K : Value → Heap → Prop} {a : Option Addr} {cap : Nat} {Bh G : Heap} {ms : List PR} {sx : Value} {xs : List Int}
theorem c10 (hsl : SlO 42 a cap Bh (ms.map Prod.fst)) (hok : ∀ x ∈ ms, x.2.Ok) (hix : InS cI 1 sx G xs) (h : ∀ sv N, OutO sv N (allD xs ms).1 → K (.tuple ⟨[sv, .int .i64 (allD xs ms).2.1]⟩) (N ++ (G ++ (Bh ++ (allD xs ms).2.2.map rwR)))) :
    SCalls Try.prog 10 [.slice a ms.length cap, sx] (G ++ (Bh ++ ms.map rwR)) K := by
  have hix2 : InS cI 1 sx (G ++ (Bh ++ ms.map rwR)) xs := hix.mono fun p hp => List.mem_append_left _ hp
  have hchk := chk_range (xs := xs) (n := ms.length)
  obtain ⟨sa, sc, rfl, hml⟩ := hix.sv
  have hml' : xs.length ≤ 9223372036854775807 := by simp only [maxLen] at hml; omega
  have hcap : ms.length ≤ 9223372036854775807 := by have := hsl.1; have := hsl.2.1; simp only [maxLen] at this; simp at *; omega
  refine enter10 ?_
  unfold allD at h
  have hc16 := fun (K : Value → Heap → Prop) hk => c16 (K := K) hix2 hk
  by_cases hb : badIds [] xs = true
  · have e : chk28 xs ms.length = 1 := if_pos hb
    rw [e, if_neg (by decide)] at h
    rw [if_pos hb] at hc16
    repeat' ((conv => whnf); (first
        | refine hc16 _ ?_
        | refine New.mk (fun _ => ?_)
        | refine Look.at0 ?_
        | refine Cell.row ?_
        | refine Cell.buf ?_
        | refine Cells.row rfl ?_
        | refine Put.row rfl ?_
        | refine Put.buf rfl ?_
        | refine Look.at1 ?_
        | refine Look.at2 ?_
        | refine Look.at3 ?_
        | refine Look.at4 ?_
        | refine Look.at5 ?_
        | refine Look.at6 ?_
        | refine Look.at7 ?_
        | refine Look.at8 ?_
        | with_reducible refine Val.i64 (by omega) (by omega) ?_
        | with_reducible refine Val.u8 (by omega) (by omega) ?_
        | with_reducible refine Val.u32 (by omega) (by omega) ?_
        | with_reducible refine Val.u64 (by omega) (by omega) ?_
        | with_reducible refine Val.u8m ?_
        | with_reducible refine Val.u32m ?_
        | with_reducible refine Val.u64m ?_
        | with_reducible refine Val.shr8 ?_
        | with_reducible refine Val.shr16 (by decide) ?_
        | with_reducible refine Val.shr24 (by decide) ?_
        | with_reducible refine Val.raw ?_
        | refine Branch.not ?_
        | refine Branch.and ?_
        | refine Branch.or ?_
        | refine Branch.dt (by assumption) ?_
        | refine Branch.df (by assumption) ?_
        | refine Branch.dt rfl ?_
        | refine Branch.dt (by omega) ?_
        | refine Branch.df (by omega) ?_
        | refine Branch.t rfl ?_
        | refine Branch.f rfl ?_
        | refine Branch.t (by assumption) ?_
        | refine Branch.f (by assumption) ?_
        | refine Branch.d (fun _ => ?_) (fun _ => ?_)
        | refine Branch.mk (fun _ => ?_) (fun _ => ?_)
        | refine Need.mk (by first | omega | decide | rfl) ?_
        | refine Idx.nat (by omega) ?_
        | refine Idx.auto (by first | omega | decide) (by first | omega | decide) ?_
        | refine Cell.ro rfl ?_
        | refine SDraw.all (by kernel_rfl) ?_
        | refine Kept.k0 ?_
        | refine Kept.k1 ?_
        | refine Kept.k2 ?_
        | refine Kept.k3 ?_
        | refine Kept.k4 ?_))
    all_goals (conv => whnf)
    exact Keep.all (h _ _ (.inl ⟨rfl, rfl, rfl⟩))
  · rw [if_neg hb] at hc16
    by_cases hn : 127 < ms.length
    · have e : chk28 xs ms.length = 2 := by rw [chk28, if_neg hb, if_pos hn]
      rw [e, if_neg (by decide)] at h
      repeat' ((conv => whnf); (first
          | refine hc16 _ ?_
          | refine New.mk (fun _ => ?_)
          | refine Look.at0 ?_
          | refine Cell.row ?_
          | refine Cell.buf ?_
          | refine Cells.row rfl ?_
          | refine Put.row rfl ?_
          | refine Put.buf rfl ?_
          | refine Look.at1 ?_
          | refine Look.at2 ?_
          | refine Look.at3 ?_
          | refine Look.at4 ?_
          | refine Look.at5 ?_
          | refine Look.at6 ?_
          | refine Look.at7 ?_
          | refine Look.at8 ?_
          | with_reducible refine Val.i64 (by omega) (by omega) ?_
          | with_reducible refine Val.u8 (by omega) (by omega) ?_
          | with_reducible refine Val.u32 (by omega) (by omega) ?_
          | with_reducible refine Val.u64 (by omega) (by omega) ?_
          | with_reducible refine Val.u8m ?_
          | with_reducible refine Val.u32m ?_
          | with_reducible refine Val.u64m ?_
          | with_reducible refine Val.shr8 ?_
          | with_reducible refine Val.shr16 (by decide) ?_
          | with_reducible refine Val.shr24 (by decide) ?_
          | with_reducible refine Val.raw ?_
          | refine Branch.not ?_
          | refine Branch.and ?_
          | refine Branch.or ?_
          | refine Branch.dt (by assumption) ?_
          | refine Branch.df (by assumption) ?_
          | refine Branch.dt rfl ?_
          | refine Branch.dt (by omega) ?_
          | refine Branch.df (by omega) ?_
          | refine Branch.t rfl ?_
          | refine Branch.f rfl ?_
          | refine Branch.t (by assumption) ?_
          | refine Branch.f (by assumption) ?_
          | refine Branch.d (fun _ => ?_) (fun _ => ?_)
          | refine Branch.mk (fun _ => ?_) (fun _ => ?_)
          | refine Need.mk (by first | omega | decide | rfl) ?_
          | refine Idx.nat (by omega) ?_
          | refine Idx.auto (by first | omega | decide) (by first | omega | decide) ?_
          | refine Cell.ro rfl ?_
          | refine SDraw.all (by kernel_rfl) ?_
          | refine Kept.k0 ?_
          | refine Kept.k1 ?_
          | refine Kept.k2 ?_
          | refine Kept.k3 ?_
          | refine Kept.k4 ?_))
      all_goals (conv => whnf)
      exact Keep.all (h _ _ (.inl ⟨rfl, rfl, rfl⟩))
    · have e : chk28 xs ms.length = 0 := by rw [chk28, if_neg hb, if_neg hn]
      rw [e, if_pos rfl] at h
      obtain ⟨hr, _, hxl⟩ := hchk e
      repeat' ((conv => whnf); (first
          | refine hc16 _ ?_
          | refine New.mk (fun _ => ?_)
          | refine Look.at0 ?_
          | refine Cell.row ?_
          | refine Cell.buf ?_
          | refine Cells.row rfl ?_
          | refine Put.row rfl ?_
          | refine Put.buf rfl ?_
          | refine Look.at1 ?_
          | refine Look.at2 ?_
          | refine Look.at3 ?_
          | refine Look.at4 ?_
          | refine Look.at5 ?_
          | refine Look.at6 ?_
          | refine Look.at7 ?_
          | refine Look.at8 ?_
          | with_reducible refine Val.i64 (by omega) (by omega) ?_
          | with_reducible refine Val.u8 (by omega) (by omega) ?_
          | with_reducible refine Val.u32 (by omega) (by omega) ?_
          | with_reducible refine Val.u64 (by omega) (by omega) ?_
          | with_reducible refine Val.u8m ?_
          | with_reducible refine Val.u32m ?_
          | with_reducible refine Val.u64m ?_
          | with_reducible refine Val.shr8 ?_
          | with_reducible refine Val.shr16 (by decide) ?_
          | with_reducible refine Val.shr24 (by decide) ?_
          | with_reducible refine Val.raw ?_
          | refine Branch.not ?_
          | refine Branch.and ?_
          | refine Branch.or ?_
          | refine Branch.dt (by assumption) ?_
          | refine Branch.df (by assumption) ?_
          | refine Branch.dt rfl ?_
          | refine Branch.dt (by omega) ?_
          | refine Branch.df (by omega) ?_
          | refine Branch.t rfl ?_
          | refine Branch.f rfl ?_
          | refine Branch.t (by assumption) ?_
          | refine Branch.f (by assumption) ?_
          | refine Branch.d (fun _ => ?_) (fun _ => ?_)
          | refine Branch.mk (fun _ => ?_) (fun _ => ?_)
          | refine Need.mk (by first | omega | decide | rfl) ?_
          | refine Idx.nat (by omega) ?_
          | refine Idx.auto (by first | omega | decide) (by first | omega | decide) ?_
          | refine Cell.ro rfl ?_
          | refine SDraw.all (by kernel_rfl) ?_
          | refine Kept.k0 ?_
          | refine Kept.k1 ?_
          | refine Kept.k2 ?_
          | refine Kept.k3 ?_
          | refine Kept.k4 ?_))
      rename_i ro0
      refine SLoop.toBuf (A := []) ?_
      refine SLoop.invA (I10 a cap ms.length (.slice sa xs.length sc) G Bh (ms.map Prod.fst) xs (allR xs ms [])) (fun x => xs.length - x.j) ⟨0, [], ms, ro0, 0⟩ (Keep.all ⟨by simp, rfl, hok, rfl, rfl, Nat.le_refl 0, Nat.zero_le _, .mk, rfl⟩) ?_
      rintro ⟨j, outs, ms', ro, co⟩ S H ⟨hj, hfst, hok', hrun, hlo, hco1, hco2, hS, rfl⟩ R hR
      dsimp only at hj hfst hok' hrun hlo hco1 hco2 hR hS ⊢
      have hlm : ms'.length = ms.length := by have := congrArg List.length hfst; simpa using this
      rw [← hlm] at hS
      have hsl' : SlO 42 a cap Bh (ms'.map Prod.fst) := by rw [hfst]; exact hsl
      clear hc16
      cases hS
      by_cases hlt : j < xs.length
      · have hx := List.getElem?_eq_getElem hlt
        have hxm := List.getElem_mem hlt
        generalize xs[j] = x at hx hxm
        have hxr := hr x hxm
        obtain ⟨r, o, c', b, e1, hm, hc⟩ := hix.at1 hx rfl
        injection e1 with e1 _ e3
        subst e1
        have hdrop : xs.drop j = x :: xs.drop (j + 1) := by
          obtain ⟨h1, rfl⟩ := List.getElem?_eq_some_iff.1 hx
          exact List.drop_eq_getElem_cons hlt
        rw [hdrop, allR] at hrun
        have hm2 := runR_ok 134 Sc.new ms' Sc.Ok.new hok'
        have hf2 := runR_fst 134 Sc.new ms'
        have hT : runR 134 Sc.new ms' = scanR ms' := rfl
        rw [hT] at hm2 hf2
        generalize hsc : scanR ms' = SM at *
        obtain ⟨s, ms2⟩ := SM
        dsimp only at hm2 hf2 hrun
        repeat' ((conv => whnf); (first
            | refine New.mk (fun _ => ?_)
            | refine Look.at0 ?_
            | refine Cell.row ?_
            | refine Cell.buf ?_
            | refine Cells.row rfl ?_
            | refine Put.row rfl ?_
            | refine Put.buf rfl ?_
            | refine Look.at1 ?_
            | refine Look.at2 ?_
            | refine Look.at3 ?_
            | refine Look.at4 ?_
            | refine Look.at5 ?_
            | refine Look.at6 ?_
            | refine Look.at7 ?_
            | refine Look.at8 ?_
            | with_reducible refine Val.i64 (by omega) (by omega) ?_
            | with_reducible refine Val.u8 (by omega) (by omega) ?_
            | with_reducible refine Val.u32 (by omega) (by omega) ?_
            | with_reducible refine Val.u64 (by omega) (by omega) ?_
            | with_reducible refine Val.u8m ?_
            | with_reducible refine Val.u32m ?_
            | with_reducible refine Val.u64m ?_
            | with_reducible refine Val.shr8 ?_
            | with_reducible refine Val.shr16 (by decide) ?_
            | with_reducible refine Val.shr24 (by decide) ?_
            | with_reducible refine Val.raw ?_
            | refine Branch.not ?_
            | refine Branch.and ?_
            | refine Branch.or ?_
            | refine Branch.dt (by assumption) ?_
            | refine Branch.df (by assumption) ?_
            | refine Branch.dt rfl ?_
            | refine Branch.dt (by omega) ?_
            | refine Branch.df (by omega) ?_
            | refine Branch.t rfl ?_
            | refine Branch.f rfl ?_
            | refine Branch.t (by assumption) ?_
            | refine Branch.f (by assumption) ?_
            | refine Branch.d (fun _ => ?_) (fun _ => ?_)
            | refine Branch.mk (fun _ => ?_) (fun _ => ?_)
            | refine Need.mk (by first | omega | decide | rfl) ?_
            | refine Idx.nat (by omega) ?_
            | refine Idx.auto (by first | omega | decide) (by first | omega | decide) ?_
            | refine Cell.ro rfl ?_
            | refine SDraw.all (by kernel_rfl) ?_
            | refine Kept.k0 ?_
            | refine Kept.k1 ?_
            | refine Kept.k2 ?_
            | refine Kept.k3 ?_
            | refine Kept.k4 ?_))
        rename_i gs
        refine SLoop.invA (I10i a cap ms'.length (.slice (some ⟨r, o, none⟩) xs.length sc) (.slice (some ⟨ro, 0, none⟩) outs.length co) (outB ro co outs) j gs G Bh (ms.map Prod.fst) (s, ms2)) (fun x => 134 - x.n) ⟨0, Sc.new, ms'⟩ (Keep.all ⟨Sc.Ok.new, rfl, hfst, hok', hT, .mk, rfl⟩) ?_
        rintro ⟨n, s1, ms1⟩ S H ⟨hs1, htk, hfst1, hok1, hrun1, hS, rfl⟩ R2 hR2
        dsimp only at hs1 htk hfst1 hok1 hrun1 hS hR2 ⊢
        have hlm1 : ms1.length = ms.length := by have := congrArg List.length hfst1; simpa using this
        have hsl1 : SlO 42 a cap Bh (ms1.map Prod.fst) := by rw [hfst1]; exact hsl
        rw [hlm, ← hlm1] at hS
        cases hS
        by_cases h3 : s1.ph = 3
        · obtain ⟨k, hk⟩ : ∃ k, 134 - n = k + 1 := ⟨133 - n, by have := hs1.tk; omega⟩
          rw [hk, runR, if_pos h3] at hrun1
          injection hrun1 with g1 g2
          subst g1
          subst g2
          have hsl3 : SlO 42 a cap Bh ((ms1.map (tkR (q17r x))).map Prod.fst) := by rw [tkR_fst, hfst1]; exact hsl
          have hok3 : ∀ y ∈ ms1.map (tkR (q17r x)), y.2.Ok := tkR_ok (q17r_ok hxr) hok1
          have hc17 := fun (K : Value → Heap → Prop) hk => c32 (K := K) (q := q17r x) hsl1 (by omega) hok1 (q17r_ok hxr) hk
          have hc4 := fun (K : Value → Heap → Prop) hk => c32 (K := K) (q := q4) hsl3 (by rw [List.length_map]; omega) hok3 q4_ok hk
          have hok4 : ∀ y ∈ giveR x ms1, y.2.Ok := tkR_ok q4_ok hok3
          have hfst4 : (giveR x ms1).map Prod.fst = ms.map Prod.fst := by unfold giveR; rw [tkR_fst, tkR_fst, hfst1]
          rw [List.length_map] at hc4
          have hg : ((ms1.map (tkR (q17r x))).map (tkR q4)) = giveR x ms1 := rfl
          rw [hg] at hc4
          have hlg : (giveR x ms1).length = ms.length := by have := congrArg List.length hfst4; simpa using this
          generalize giveR x ms1 = ms4 at *
          have fin : ∀ (S : List Value) (r' c2 : Nat), outs.length + 1 ≤ c2 → c2 ≤ maxLen → s1.found = true → S10 (.slice a ms1.length cap) (.slice (some ⟨r, o, none⟩) xs.length sc) (.slice (some ⟨r', 0, none⟩) (outs.length + 1) c2) (.int .i64 ((j + 1 : Nat) : Int)) S → ∀ D : Heap, R S ((r', .buf 34 (outs.flatMap Sc.c4 ++ s1.c4) (c2 * 4)) :: (D ++ (G ++ (Bh ++ ms4.map rwR)))) := by
            intro S r' c2 h1 h2 h3 h4 D
            rw [if_neg (by rw [h3]; decide)] at hrun
            refine hR ⟨j + 1, outs ++ [s1], ms4, r', c2⟩ _ _ (by show xs.length - (j + 1) < xs.length - j; omega) (Keep.sub _ (List.Sublist.cons_cons _ (List.sublist_append_right D _)) ⟨by show j + 1 ≤ xs.length; omega, hfst4, hok4, hrun, by show (outs ++ [s1]).length = j + 1; rw [List.length_append, hlo]; rfl, ?_, h2, ?_, ?_⟩)
            · show (outs ++ [s1]).length ≤ _
              rw [List.length_append]; exact h1
            · show S10 _ _ (Value.slice _ (outs ++ [s1]).length _) _ _
              rw [List.length_append, ← hlm1]; exact h4
            · show _ = (r', Blk.buf 34 ((outs ++ [s1]).flatMap Sc.c4) (c2 * 4)) :: _
              rw [List.flatMap_append]; simp
          repeat' ((conv => whnf); (first
              | refine SCalls.at0 (c21 hs1 (fun g3 => ?_) (fun g3 => absurd h3 g3))
              | refine Look.cell (.tail _ (.tail _ (.tail _ (List.mem_append_left _ hm)))) hc ?_
              | refine SCalls.under (_ :: _ :: _ :: G) (hc17 _ ?_)
              | refine SCalls.under (_ :: _ :: _ :: G) (hc4 _ ?_)
              | refine RawV.appT (A := [_, _, _]) (e := 34) (size := 4) (bytes := 16) (m := 1) (news := s1.c4) rfl (by kernel_rfl) (by decide) (flat_len (f := Sc.c4) (fun _ => rfl) outs) rfl hco1 hco2 (.head _) rfl (fun j v hj => by rw [Nat.zero_add]; exact hj) (by intro u hu; simp only [Sc.c4, List.mem_cons, List.not_mem_nil, or_false] at hu; rcases hu with rfl | rfl | rfl | rfl <;> rfl) (by unfold maxLen; omega) (by omega) (fun r' c2 h1 h2 => ?_)
              | unfold Sc.ref
              | refine New.mk (fun _ => ?_)
              | refine Look.at0 ?_
              | refine Cell.row ?_
              | refine Cell.buf ?_
              | refine Cells.row rfl ?_
              | refine Put.row rfl ?_
              | refine Put.buf rfl ?_
              | refine Look.at1 ?_
              | refine Look.at2 ?_
              | refine Look.at3 ?_
              | refine Look.at4 ?_
              | refine Look.at5 ?_
              | refine Look.at6 ?_
              | refine Look.at7 ?_
              | refine Look.at8 ?_
              | with_reducible refine Val.i64 (by omega) (by omega) ?_
              | with_reducible refine Val.u8 (by omega) (by omega) ?_
              | with_reducible refine Val.u32 (by omega) (by omega) ?_
              | with_reducible refine Val.u64 (by omega) (by omega) ?_
              | with_reducible refine Val.u8m ?_
              | with_reducible refine Val.u32m ?_
              | with_reducible refine Val.u64m ?_
              | with_reducible refine Val.shr8 ?_
              | with_reducible refine Val.shr16 (by decide) ?_
              | with_reducible refine Val.shr24 (by decide) ?_
              | with_reducible refine Val.raw ?_
              | refine Branch.not ?_
              | refine Branch.and ?_
              | refine Branch.or ?_
              | refine Branch.dt (by assumption) ?_
              | refine Branch.df (by assumption) ?_
              | refine Branch.dt rfl ?_
              | refine Branch.dt (by omega) ?_
              | refine Branch.df (by omega) ?_
              | refine Branch.t rfl ?_
              | refine Branch.f rfl ?_
              | refine Branch.t (by assumption) ?_
              | refine Branch.f (by assumption) ?_
              | refine Branch.d (fun _ => ?_) (fun _ => ?_)
              | refine Branch.mk (fun _ => ?_) (fun _ => ?_)
              | refine Need.mk (by first | omega | decide | rfl) ?_
              | refine Idx.nat (by omega) ?_
              | refine Idx.auto (by first | omega | decide) (by first | omega | decide) ?_
              | refine Cell.ro rfl ?_
              | refine SDraw.all (by kernel_rfl) ?_
              | refine Kept.k0 ?_
              | refine Kept.k1 ?_
              | refine Kept.k2 ?_
              | refine Kept.k3 ?_
              | refine Kept.k4 ?_))
          all_goals (conv => whnf)
          · exact fin _ _ _ h1 h2 (by assumption) .mk [_, _, _]
          · rename_i hf
            rw [if_pos hf] at hrun
            rw [← hrun] at h
            exact Keep.d2 (h _ _ (.inr ⟨ro, co, rfl, hco1, hco2, rfl⟩))
        · have hs2 := hs1.ask h3
          obtain ⟨hq, hq0⟩ := hs1.q_ok h3
          have hn : n ≤ 133 := by have := hs1.tk; omega
          obtain ⟨k, hk⟩ : ∃ k, 134 - n = k + 1 := ⟨133 - n, by omega⟩
          rw [hk, runR, if_neg h3] at hrun1
          have htk2 := took_step h3 (ms1.any (anR s1.q))
          have hs3 : (stepR s1 ms1).1.Ok := hs2.ans _
          have hn2 : n + 1 ≤ 133 := by
            have := hs3.tk
            have e : (stepR s1 ms1).1.took = s1.took + 1 := htk2
            omega
          have hk2 : k = 134 - (n + 1) := by omega
          rw [hk2] at hrun1
          clear h hok hrun hR
          have hcq := fun (K : Value → Heap → Prop) hk => c32 (K := K) (q := s1.q) hsl1 (by omega) hok1 hq hk
          have fin : ∀ (S : List Value) (b0 : Nat × Blk), S10i (.slice a ms1.length cap) (.slice (some ⟨r, o, none⟩) xs.length sc) (.slice (some ⟨ro, 0, none⟩) outs.length co) (.int .i64 (j : Int)) (ptr gs) S → R2 S (b0 :: (gs, (stepR s1 ms1).1.ref) :: outB ro co outs :: (G ++ (Bh ++ (stepR s1 ms1).2.map rwR))) := by
            intro S b0 hS
            refine hR2 ⟨n + 1, (stepR s1 ms1).1, (stepR s1 ms1).2⟩ _ _ (by show 134 - (n + 1) < 134 - n; omega) (Keep.d1 ⟨hs3, ?_, ?_, tkR_ok hq hok1, hrun1, ?_, rfl⟩)
            · show (stepR s1 ms1).1.took = _
              rw [show (stepR s1 ms1).1.took = s1.took + 1 from htk2, htk]; rfl
            · exact (tkR_fst _ _).trans hfst1
            · rw [hlm, ← hlm1]; exact hS
          repeat' ((conv => whnf); (first
              | refine SCalls.at0 (c21 hs1 (fun g3 => absurd g3 h3) (fun g3 => ?_))
              | refine SCalls.under (_ :: _ :: _ :: G) (hcq _ ?_)
              | refine SCalls.at1 (c19 hs2 _ ?_)
              | refine New.mk (fun _ => ?_)
              | refine Look.at0 ?_
              | refine Cell.row ?_
              | refine Cell.buf ?_
              | refine Cells.row rfl ?_
              | refine Put.row rfl ?_
              | refine Put.buf rfl ?_
              | refine Look.at1 ?_
              | refine Look.at2 ?_
              | refine Look.at3 ?_
              | refine Look.at4 ?_
              | refine Look.at5 ?_
              | refine Look.at6 ?_
              | refine Look.at7 ?_
              | refine Look.at8 ?_
              | with_reducible refine Val.i64 (by omega) (by omega) ?_
              | with_reducible refine Val.u8 (by omega) (by omega) ?_
              | with_reducible refine Val.u32 (by omega) (by omega) ?_
              | with_reducible refine Val.u64 (by omega) (by omega) ?_
              | with_reducible refine Val.u8m ?_
              | with_reducible refine Val.u32m ?_
              | with_reducible refine Val.u64m ?_
              | with_reducible refine Val.shr8 ?_
              | with_reducible refine Val.shr16 (by decide) ?_
              | with_reducible refine Val.shr24 (by decide) ?_
              | with_reducible refine Val.raw ?_
              | refine Branch.not ?_
              | refine Branch.and ?_
              | refine Branch.or ?_
              | refine Branch.dt (by assumption) ?_
              | refine Branch.df (by assumption) ?_
              | refine Branch.dt rfl ?_
              | refine Branch.dt (by omega) ?_
              | refine Branch.df (by omega) ?_
              | refine Branch.t rfl ?_
              | refine Branch.f rfl ?_
              | refine Branch.t (by assumption) ?_
              | refine Branch.f (by assumption) ?_
              | refine Branch.d (fun _ => ?_) (fun _ => ?_)
              | refine Branch.mk (fun _ => ?_) (fun _ => ?_)
              | refine Need.mk (by first | omega | decide | rfl) ?_
              | refine Idx.nat (by omega) ?_
              | refine Idx.auto (by first | omega | decide) (by first | omega | decide) ?_
              | refine Cell.ro rfl ?_
              | refine SDraw.all (by kernel_rfl) ?_
              | refine Kept.k0 ?_
              | refine Kept.k1 ?_
              | refine Kept.k2 ?_
              | refine Kept.k3 ?_
              | refine Kept.k4 ?_))
          all_goals (conv => whnf)
          exact fin _ _ .mk
      · have e : j = xs.length := by omega
        subst e
        rw [List.drop_length, allR] at hrun
        rw [← hrun] at h
        dsimp only at h
        have hcl := fun (K : Value → Heap → Prop) hk => c32 (K := K) (q := Sc.new.q) hsl' (by omega) hok' (Sc.Ok.new.q_ok (by show (0 : Int) ≠ 3; decide)).1 hk
        repeat' ((conv => whnf); (first
            | refine SCalls.under (_ :: G) (hcl _ ?_)
            | refine New.mk (fun _ => ?_)
            | refine Look.at0 ?_
            | refine Cell.row ?_
            | refine Cell.buf ?_
            | refine Cells.row rfl ?_
            | refine Put.row rfl ?_
            | refine Put.buf rfl ?_
            | refine Look.at1 ?_
            | refine Look.at2 ?_
            | refine Look.at3 ?_
            | refine Look.at4 ?_
            | refine Look.at5 ?_
            | refine Look.at6 ?_
            | refine Look.at7 ?_
            | refine Look.at8 ?_
            | with_reducible refine Val.i64 (by omega) (by omega) ?_
            | with_reducible refine Val.u8 (by omega) (by omega) ?_
            | with_reducible refine Val.u32 (by omega) (by omega) ?_
            | with_reducible refine Val.u64 (by omega) (by omega) ?_
            | with_reducible refine Val.u8m ?_
            | with_reducible refine Val.u32m ?_
            | with_reducible refine Val.u64m ?_
            | with_reducible refine Val.shr8 ?_
            | with_reducible refine Val.shr16 (by decide) ?_
            | with_reducible refine Val.shr24 (by decide) ?_
            | with_reducible refine Val.raw ?_
            | refine Branch.not ?_
            | refine Branch.and ?_
            | refine Branch.or ?_
            | refine Branch.dt (by assumption) ?_
            | refine Branch.df (by assumption) ?_
            | refine Branch.dt rfl ?_
            | refine Branch.dt (by omega) ?_
            | refine Branch.df (by omega) ?_
            | refine Branch.t rfl ?_
            | refine Branch.f rfl ?_
            | refine Branch.t (by assumption) ?_
            | refine Branch.f (by assumption) ?_
            | refine Branch.d (fun _ => ?_) (fun _ => ?_)
            | refine Branch.mk (fun _ => ?_) (fun _ => ?_)
            | refine Need.mk (by first | omega | decide | rfl) ?_
            | refine Idx.nat (by omega) ?_
            | refine Idx.auto (by first | omega | decide) (by first | omega | decide) ?_
            | refine Cell.ro rfl ?_
            | refine SDraw.all (by kernel_rfl) ?_
            | refine Kept.k0 ?_
            | refine Kept.k1 ?_
            | refine Kept.k2 ?_
            | refine Kept.k3 ?_
            | refine Kept.k4 ?_))
        all_goals (conv => whnf)
        · rw [if_pos (by assumption)] at h
          exact Keep.all (h _ _ (.inr ⟨ro, co, rfl, hco1, hco2, rfl⟩))
        · rw [if_neg (by rw [‹List.any _ _ = false›]; decide)] at h
          exact Keep.all (h _ _ (.inr ⟨ro, co, rfl, hco1, hco2, rfl⟩))
end
end Go.Proofs.Ytkegkhhfbfegoaa
