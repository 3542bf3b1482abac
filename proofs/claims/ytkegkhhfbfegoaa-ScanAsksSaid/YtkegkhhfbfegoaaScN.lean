/- Layer 20: slaves of addresses and numbers: by walks. -/
import Derived.Test.YtkegkhhfbfegoaaScM
import Derived.Test.YtkegkhhfbfegoaaLsF1
set_option linter.unusedVariables false
set_option linter.unusedSimpArgs false
set_option maxRecDepth 100000
set_option maxHeartbeats 4000000
namespace Go.Proofs.Ytkegkhhfbfegoaa
open Sx Ls
structure Nd where
  (a0 a1 a2 a3 id : Int)
abbrev Nd.cells (x : Nd) : List Value := [.int .u32 x.a0, .int .u32 x.a1, .int .u32 x.a2, .int .u32 x.a3, .int .i64 x.id]
structure Nd.Ok (x : Nd) : Prop where
  r0 : 0 ≤ x.a0 ∧ x.a0 ≤ 4294967295
  r1 : 0 ≤ x.a1 ∧ x.a1 ≤ 4294967295
  r2 : 0 ≤ x.a2 ∧ x.a2 ≤ 4294967295
  r3 : 0 ≤ x.a3 ∧ x.a3 ≤ 4294967295
def Nd.good (x : Nd) : Prop := 0 ≤ x.id ∧ x.id ≤ 127
instance (x : Nd) : Decidable x.good := inferInstanceAs (Decidable (_ ∧ _))
def Nd.l (x : Nd) : L := ⟨x.a0, x.a1, x.a2, x.a3, x.id, 0, x.id, 0, 0, 0, 0, none, false⟩
def Nd.r (x : Nd) : R := ⟨x.a0, x.a1, x.a2, x.a3, x.id, 0, x.id, 0, 0, 0, false, false, 0, 0, 0⟩
/-- Those that can be, at most so many. -/
def goSl : Nat → List Nd → List Nd
  | 0, _ => []
  | _ + 1, [] => []
  | m + 1, x :: r => if x.good then x :: goSl m r else goSl (m + 1) r
theorem goSl_nil (m : Nat) : goSl m [] = [] := by cases m <;> rfl
theorem z03 : (0 : Int) ≤ 0 ∧ (0 : Int) ≤ 3 := by decide
theorem z0127 : (0 : Int) ≤ 0 ∧ (0 : Int) ≤ 127 := by decide
theorem Nd.l_ok {x : Nd} (h : x.Ok) (hg : x.good) : x.l.Ok := ⟨z03, z03, .inl rfl, h.r0, h.r1, h.r2, h.r3, hg, hg⟩
theorem Nd.r_ok {x : Nd} (h : x.Ok) (hg : x.good) : x.r.Ok := ⟨z03, z03, h.r0, h.r1, h.r2, h.r3, hg, hg, z0127⟩
section
variable {K : Value → Heap → Prop} {H : Heap}
theorem c27 (x : Nd) (hg : x.good) (h : ∀ g, K (.tuple ⟨[ptr g, .int .i64 0]⟩) ((g, x.r.row) :: H)) :
    SCalls Try.prog 27 [.agg ⟨[.int .u32 x.a0, .int .u32 x.a1, .int .u32 x.a2, .int .u32 x.a3]⟩, .int .i64 x.id] H K := by
  obtain ⟨h1, h2⟩ := hg
  refine SCalls.any (K := fun v N => ∃ g, v = .tuple ⟨[ptr g, .int .i64 0]⟩ ∧ N = [(g, x.r.row)]) (enter27 ?_) (by rintro v N ⟨g, rfl, rfl⟩; exact h g)
  repeat' ((conv => whnf); (first
      | refine New.mk (fun _ => ?_)
      | refine Look.at0 ?_
      | refine Cell.row ?_
      | refine Cell.buf ?_
      | refine Cells.row rfl ?_
      | refine Put.row rfl ?_
      | refine Put.buf rfl ?_
      | refine Look.at1 ?_
      | refine Look.at2 ?_
      | refine Look.at3 ?_
      | refine Look.at4 ?_
      | refine Look.at5 ?_
      | refine Look.at6 ?_
      | refine Look.at7 ?_
      | refine Look.at8 ?_
      | with_reducible refine Val.i64 (by omega) (by omega) ?_
      | with_reducible refine Val.u8 (by omega) (by omega) ?_
      | with_reducible refine Val.u32 (by omega) (by omega) ?_
      | with_reducible refine Val.u64 (by omega) (by omega) ?_
      | with_reducible refine Val.u8m ?_
      | with_reducible refine Val.u32m ?_
      | with_reducible refine Val.u64m ?_
      | with_reducible refine Val.shr8 ?_
      | with_reducible refine Val.shr16 (by decide) ?_
      | with_reducible refine Val.shr24 (by decide) ?_
      | with_reducible refine Val.raw ?_
      | refine Branch.not ?_
      | refine Branch.and ?_
      | refine Branch.or ?_
      | refine Branch.dt (by assumption) ?_
      | refine Branch.df (by assumption) ?_
      | refine Branch.dt rfl ?_
      | refine Branch.dt (by omega) ?_
      | refine Branch.df (by omega) ?_
      | refine Branch.t rfl ?_
      | refine Branch.f rfl ?_
      | refine Branch.t (by assumption) ?_
      | refine Branch.f (by assumption) ?_
      | refine Branch.d (fun _ => ?_) (fun _ => ?_)
      | refine Branch.mk (fun _ => ?_) (fun _ => ?_)
      | refine Need.mk (by first | omega | decide | rfl) ?_
      | refine Idx.nat (by omega) ?_
      | refine Idx.auto (by first | omega | decide) (by first | omega | decide) ?_
      | refine Cell.ro rfl ?_
      | refine SDraw.all (by kernel_rfl) ?_
      | refine Kept.k0 ?_
      | refine Kept.k1 ?_
      | refine Kept.k2 ?_
      | refine Kept.k3 ?_
      | refine Kept.k4 ?_))
  all_goals (conv => whnf)
  all_goals exact Keep.sub [_] (List.Sublist.cons_cons _ (List.nil_sublist _)) ⟨_, rfl, rfl⟩
inductive S8 (A0 A1 A6 A7 A8 : Value) : List Value → Prop
  | mk {r2 r3 r4 r5 r9 r10 r11 r12 r13 r14 r15 r16 r17 r18 r19 r20 r21 r22 r23 r24 r25 r26 r27 r28 r29 r30 r31 r32 r33 r34 r35 r36 r37 r38 r39 r40 r41 r42 r43 r44 r45 r46 r47 r48 r49 r50 r51 r52 r53 r54 r55 r56 r57 r58 r59 r60 r61 r62 r63 r64 r65 r66 r67 r68 r69 r70 : Value} : S8 A0 A1 A6 A7 A8 [A0, A1, r2, r3, r4, r5, A6, A7, A8, r9, r10, r11, r12, r13, r14, r15, r16, r17, r18, r19, r20, r21, r22, r23, r24, r25, r26, r27, r28, r29, r30, r31, r32, r33, r34, r35, r36, r37, r38, r39, r40, r41, r42, r43, r44, r45, r46, r47, r48, r49, r50, r51, r52, r53, r54, r55, r56, r57, r58, r59, r60, r61, r62, r63, r64, r65, r66, r67, r68, r69, r70]
structure T8 where
  (j : Nat) (acc : List Nd) (ms : List PL) (rs : List PR) (ra ca rb cb : Nat)
abbrev pB (t r c : Nat) (ad : List Nat) : Nat × Blk := (r, .buf t (ptrs ad) (c * 1))
def I8 (sv : Value) (H : Heap) (nds : List Nd) (most : Nat) (x : T8) (S : List Value) (H' : Heap) : Prop :=
  x.j ≤ nds.length ∧ x.acc ++ goSl (most - x.acc.length) (nds.drop x.j) = goSl most nds ∧ x.acc.length ≤ most ∧ x.ms.map Prod.snd = x.acc.map Nd.l ∧ x.rs.map Prod.snd = x.acc.map Nd.r ∧
    x.acc.length ≤ x.ca ∧ x.ca ≤ maxLen ∧ x.acc.length ≤ x.cb ∧ x.cb ≤ maxLen ∧
    S8 sv (.int .i64 (most : Int)) (.slice (some ⟨x.ra, 0, none⟩) x.acc.length x.ca) (.slice (some ⟨x.rb, 0, none⟩) x.acc.length x.cb) (.int .i64 (x.j : Int)) S ∧
    H' = pB 38 x.ra x.ca (x.ms.map Prod.fst) :: pB 42 x.rb x.cb (x.rs.map Prod.fst) :: (x.rs.map rwR ++ (x.ms.map rwL ++ H))
theorem c8 {sv : Value} {nds : List Nd} (hin : InS Nd.cells 5 sv H nds) {most : Nat} (hmost : most ≤ 1000)
    (h : ∀ ra ca rb cb (ms : List PL) (rs : List PR), ms.map Prod.snd = (goSl most nds).map Nd.l → rs.map Prod.snd = (goSl most nds).map Nd.r → (goSl most nds).length ≤ ca → ca ≤ maxLen → (goSl most nds).length ≤ cb → cb ≤ maxLen →
      K (.tuple ⟨[.slice (some ⟨ra, 0, none⟩) (goSl most nds).length ca, .slice (some ⟨rb, 0, none⟩) (goSl most nds).length cb]⟩) (pB 38 ra ca (ms.map Prod.fst) :: pB 42 rb cb (rs.map Prod.fst) :: (rs.map rwR ++ (ms.map rwL ++ H)))) :
    SCalls Try.prog 8 [sv, .int .i64 (most : Int)] H K := by
  have hin0 := hin
  obtain ⟨sa, sc, rfl, hml, hcells⟩ := hin
  have hml' : nds.length ≤ 9223372036854775807 := by simp only [maxLen] at hml; omega
  refine enter8 ?_
  repeat' ((conv => whnf); (first
      | refine New.mk (fun _ => ?_)
      | refine Look.at0 ?_
      | refine Cell.row ?_
      | refine Cell.buf ?_
      | refine Cells.row rfl ?_
      | refine Put.row rfl ?_
      | refine Put.buf rfl ?_
      | refine Look.at1 ?_
      | refine Look.at2 ?_
      | refine Look.at3 ?_
      | refine Look.at4 ?_
      | refine Look.at5 ?_
      | refine Look.at6 ?_
      | refine Look.at7 ?_
      | refine Look.at8 ?_
      | with_reducible refine Val.i64 (by omega) (by omega) ?_
      | with_reducible refine Val.u8 (by omega) (by omega) ?_
      | with_reducible refine Val.u32 (by omega) (by omega) ?_
      | with_reducible refine Val.u64 (by omega) (by omega) ?_
      | with_reducible refine Val.u8m ?_
      | with_reducible refine Val.u32m ?_
      | with_reducible refine Val.u64m ?_
      | with_reducible refine Val.shr8 ?_
      | with_reducible refine Val.shr16 (by decide) ?_
      | with_reducible refine Val.shr24 (by decide) ?_
      | with_reducible refine Val.raw ?_
      | refine Branch.not ?_
      | refine Branch.and ?_
      | refine Branch.or ?_
      | refine Branch.dt (by assumption) ?_
      | refine Branch.df (by assumption) ?_
      | refine Branch.dt rfl ?_
      | refine Branch.dt (by omega) ?_
      | refine Branch.df (by omega) ?_
      | refine Branch.t rfl ?_
      | refine Branch.f rfl ?_
      | refine Branch.t (by assumption) ?_
      | refine Branch.f (by assumption) ?_
      | refine Branch.d (fun _ => ?_) (fun _ => ?_)
      | refine Branch.mk (fun _ => ?_) (fun _ => ?_)
      | refine Need.mk (by first | omega | decide | rfl) ?_
      | refine Idx.nat (by omega) ?_
      | refine Idx.auto (by first | omega | decide) (by first | omega | decide) ?_
      | refine Cell.ro rfl ?_
      | refine SDraw.all (by kernel_rfl) ?_
      | refine Kept.k0 ?_
      | refine Kept.k1 ?_
      | refine Kept.k2 ?_
      | refine Kept.k3 ?_
      | refine Kept.k4 ?_))
  rename_i ra0 rb0
  refine SLoop.toBuf (A := []) ?_
  refine SLoop.toBuf (A := [_]) ?_
  refine SLoop.invA (I8 (.slice sa nds.length sc) H nds most) (fun x => nds.length - x.j) ⟨0, [], [], [], ra0, 0, rb0, 0⟩ (Keep.perm _ (List.Perm.swap _ _ _) ⟨by simp, by simp, by simp, rfl, rfl, Nat.le_refl 0, Nat.zero_le _, Nat.le_refl 0, Nat.zero_le _, .mk, rfl⟩) ?_
  rintro ⟨j, acc, ms, rs, ra, ca, rb, cb⟩ S H' ⟨hj, hgo, hacc, hms, hrs, hca1, hca2, hcb1, hcb2, hS, rfl⟩ R hR
  dsimp only at hj hgo hacc hms hrs hca1 hca2 hcb1 hcb2 hS hR ⊢
  cases hS
  have hlm : ms.length = acc.length := by have := congrArg List.length hms; simpa using this
  have hlr : rs.length = acc.length := by have := congrArg List.length hrs; simpa using this
  by_cases hend : j < nds.length ∧ acc.length < most
  · obtain ⟨hlt, hlm2⟩ := hend
    obtain ⟨x, hx, hdrop, htake⟩ := list_at hlt
    rcases hcells with rfl | ⟨r, o, b, rfl, hm, hc⟩
    · simp at hlt
    have hm2 : (r, b) ∈ pB 38 ra ca (ms.map Prod.fst) :: pB 42 rb cb (rs.map Prod.fst) :: (rs.map rwR ++ (ms.map rwL ++ H)) := .tail _ (.tail _ (List.mem_append_right _ (List.mem_append_right _ hm)))
    have hc4 : ∀ i v, [Value.int .u32 x.a0, .int .u32 x.a1, .int .u32 x.a2, .int .u32 x.a3][i]? = some v → b.cell (o + j * 5 + 0 + i) = some v := fun i v hi => by
      have hi4 := (List.getElem?_eq_some_iff.1 hi).1
      simp only [List.length_cons, List.length_nil] at hi4
      refine hc j x i v hx ?_ (by omega)
      rw [show x.cells = [Value.int .u32 x.a0, .int .u32 x.a1, .int .u32 x.a2, .int .u32 x.a3] ++ [.int .i64 x.id] from rfl, List.getElem?_append_left (by simpa using hi4)]
      exact hi
    have hcid : b.cell (o + j * 5 + 4) = some (.int .i64 x.id) := hc j x 4 _ hx rfl (by decide)
    obtain ⟨m, hm1⟩ : ∃ m, most - acc.length = m + 1 := ⟨most - acc.length - 1, by omega⟩
    rw [hdrop, hm1, goSl] at hgo
    by_cases hg : x.good
    · rw [if_pos hg] at hgo
      have fin : ∀ (S : List Value) (gL gR ra' ca' rb' cb' : Nat) (y z : Nat × Blk), acc.length + 1 ≤ ca' → ca' ≤ maxLen → acc.length + 1 ≤ cb' → cb' ≤ maxLen →
          S8 (.slice (some ⟨r, o, none⟩) nds.length sc) (.int .i64 (most : Int)) (.slice (some ⟨ra', 0, none⟩) (acc.length + 1) ca') (.slice (some ⟨rb', 0, none⟩) (acc.length + 1) cb') (.int .i64 ((j + 1 : Nat) : Int)) S →
          R S ((rb', .buf 42 (ptrs (rs.map Prod.fst) ++ cP gR) (cb' * 1)) :: y :: (ra', .buf 38 (ptrs (ms.map Prod.fst) ++ cP gL) (ca' * 1)) :: z :: (gR, x.r.row) :: (gL, x.l.row none) :: (rs.map rwR ++ (ms.map rwL ++ H))) := by
        intro S gL gR ra' ca' rb' cb' y z h1 h2 h3 h4 h5
        refine hR ⟨j + 1, acc ++ [x], ms ++ [(gL, x.l)], rs ++ [(gR, x.r)], ra', ca', rb', cb'⟩ _ _ (by show nds.length - (j + 1) < nds.length - j; omega)
          (Keep.glue [[(rb', .buf 42 (ptrs (rs.map Prod.fst) ++ cP gR) (cb' * 1))], [y], [(ra', .buf 38 (ptrs (ms.map Prod.fst) ++ cP gL) (ca' * 1))], [z], [(gR, x.r.row)], [(gL, x.l.row none)], rs.map rwR, ms.map rwL, H] [0, 1, 2, 3, 4, 5, 6, 7, 8] [2, 0, 6, 4, 7, 5, 8] [1, 3] (by decide) rfl
          ⟨by show j + 1 ≤ nds.length; omega, ?_, by show (acc ++ [x]).length ≤ most; rw [List.length_append]; exact hlm2, ?_, ?_, ?_, h2, ?_, h4, ?_, ?_⟩)
        · show acc ++ [x] ++ goSl (most - (acc ++ [x]).length) _ = _
          rw [List.length_append, List.append_assoc, ← hgo, show most - (acc.length + [x].length) = m by simp only [List.length_cons, List.length_nil]; omega]
          rfl
        · show (ms ++ [(gL, x.l)]).map Prod.snd = (acc ++ [x]).map Nd.l
          rw [List.map_append, hms, List.map_append]; rfl
        · show (rs ++ [(gR, x.r)]).map Prod.snd = (acc ++ [x]).map Nd.r
          rw [List.map_append, hrs, List.map_append]; rfl
        · show (acc ++ [x]).length ≤ _
          rw [List.length_append]; exact h1
        · show (acc ++ [x]).length ≤ _
          rw [List.length_append]; exact h3
        · show S8 _ _ (Value.slice _ (acc ++ [x]).length _) (Value.slice _ (acc ++ [x]).length _) _ _
          rw [List.length_append]; exact h5
        · show _ = pB 38 ra' ca' ((ms ++ [(gL, x.l)]).map Prod.fst) :: pB 42 rb' cb' ((rs ++ [(gR, x.r)]).map Prod.fst) :: ((rs ++ [(gR, x.r)]).map rwR ++ ((ms ++ [(gL, x.l)]).map rwL ++ H))
          simp [glue, pB, ptrs, List.map_append, rwR, rwL]
      have hg2 := hg
      obtain ⟨hg0, hg1⟩ := hg2
      have hcsa : (ptrs (ms.map Prod.fst)).length = acc.length * 1 := by simp [ptrs, hlm]
      have hcsb : (ptrs (rs.map Prod.fst)).length = acc.length * 1 := by simp [ptrs, hlr]
      clear h
      repeat' ((conv => whnf); (first
          | refine SDraw.held (by kernel_rfl) [(r, b)] (.same hm2 .nil) ?_
          | refine SDraw.held (by kernel_rfl) [(r, b)] (.same (.tail _ hm2) .nil) ?_
          | refine Look.cells (.head _) rfl hc4 ?_
          | refine Look.cell (.head _) hcid ?_
          | refine Ls.c7n x.a0 x.a1 x.a2 x.a3 x.id hg (fun gL => ?_)
          | refine c27 x hg (fun gR => ?_)
          | refine Kept.mk (.same (.tail _ hm2) .nil) ?_
          | refine Kept.mk (.same (.tail _ (.tail _ hm2)) .nil) ?_
          | refine RawV.appT (A := [_, _, _]) (e := 38) (size := 1) (bytes := 8) (m := 1) (news := [_]) rfl (by kernel_rfl) (by decide) hcsa rfl hca1 hca2 (.head _) rfl (fun j v hj => by rw [Nat.zero_add]; exact hj) (by intro u hu; obtain rfl := List.mem_singleton.1 hu; rfl) (by unfold maxLen; omega) (by omega) (fun ra' ca' h1 h2 => ?_)
          | refine RawV.appT (A := [_, _, _, _, _]) (e := 42) (size := 1) (bytes := 8) (m := 1) (news := [_]) rfl (by kernel_rfl) (by decide) hcsb rfl hcb1 hcb2 (.head _) rfl (fun j v hj => by rw [Nat.zero_add]; exact hj) (by intro u hu; obtain rfl := List.mem_singleton.1 hu; rfl) (by unfold maxLen; omega) (by omega) (fun rb' cb' h3 h4 => ?_)
          | refine New.mk (fun _ => ?_)
          | refine Look.at0 ?_
          | refine Cell.row ?_
          | refine Cell.buf ?_
          | refine Cells.row rfl ?_
          | refine Put.row rfl ?_
          | refine Put.buf rfl ?_
          | refine Look.at1 ?_
          | refine Look.at2 ?_
          | refine Look.at3 ?_
          | refine Look.at4 ?_
          | refine Look.at5 ?_
          | refine Look.at6 ?_
          | refine Look.at7 ?_
          | refine Look.at8 ?_
          | with_reducible refine Val.i64 (by omega) (by omega) ?_
          | with_reducible refine Val.u8 (by omega) (by omega) ?_
          | with_reducible refine Val.u32 (by omega) (by omega) ?_
          | with_reducible refine Val.u64 (by omega) (by omega) ?_
          | with_reducible refine Val.u8m ?_
          | with_reducible refine Val.u32m ?_
          | with_reducible refine Val.u64m ?_
          | with_reducible refine Val.shr8 ?_
          | with_reducible refine Val.shr16 (by decide) ?_
          | with_reducible refine Val.shr24 (by decide) ?_
          | with_reducible refine Val.raw ?_
          | refine Branch.not ?_
          | refine Branch.and ?_
          | refine Branch.or ?_
          | refine Branch.dt (by assumption) ?_
          | refine Branch.df (by assumption) ?_
          | refine Branch.dt rfl ?_
          | refine Branch.dt (by omega) ?_
          | refine Branch.df (by omega) ?_
          | refine Branch.t rfl ?_
          | refine Branch.f rfl ?_
          | refine Branch.t (by assumption) ?_
          | refine Branch.f (by assumption) ?_
          | refine Branch.d (fun _ => ?_) (fun _ => ?_)
          | refine Branch.mk (fun _ => ?_) (fun _ => ?_)
          | refine Need.mk (by first | omega | decide | rfl) ?_
          | refine Idx.nat (by omega) ?_
          | refine Idx.auto (by first | omega | decide) (by first | omega | decide) ?_
          | refine Cell.ro rfl ?_
          | refine SDraw.all (by kernel_rfl) ?_
          | refine Kept.k0 ?_
          | refine Kept.k1 ?_
          | refine Kept.k2 ?_
          | refine Kept.k3 ?_
          | refine Kept.k4 ?_))
      all_goals (conv => whnf)
      exact fin _ _ _ _ _ _ _ _ _ h1 h2 h3 h4 .mk
    · rw [if_neg hg, ← hm1] at hgo
      have hbad : x.id < 0 ∨ 127 < x.id := by unfold Nd.good at hg; omega
      clear h
      repeat' ((conv => whnf); (first
          | refine SDraw.held (by kernel_rfl) [(r, b)] (.same hm2 .nil) ?_
          | refine Look.cells (.head _) rfl hc4 ?_
          | refine Look.cell (.head _) hcid ?_
          | refine Ls.c7_bad x.a0 x.a1 x.a2 x.a3 x.id hbad ?_
          | refine Kept.mk (.same hm2 .nil) ?_
          | refine New.mk (fun _ => ?_)
          | refine Look.at0 ?_
          | refine Cell.row ?_
          | refine Cell.buf ?_
          | refine Cells.row rfl ?_
          | refine Put.row rfl ?_
          | refine Put.buf rfl ?_
          | refine Look.at1 ?_
          | refine Look.at2 ?_
          | refine Look.at3 ?_
          | refine Look.at4 ?_
          | refine Look.at5 ?_
          | refine Look.at6 ?_
          | refine Look.at7 ?_
          | refine Look.at8 ?_
          | with_reducible refine Val.i64 (by omega) (by omega) ?_
          | with_reducible refine Val.u8 (by omega) (by omega) ?_
          | with_reducible refine Val.u32 (by omega) (by omega) ?_
          | with_reducible refine Val.u64 (by omega) (by omega) ?_
          | with_reducible refine Val.u8m ?_
          | with_reducible refine Val.u32m ?_
          | with_reducible refine Val.u64m ?_
          | with_reducible refine Val.shr8 ?_
          | with_reducible refine Val.shr16 (by decide) ?_
          | with_reducible refine Val.shr24 (by decide) ?_
          | with_reducible refine Val.raw ?_
          | refine Branch.not ?_
          | refine Branch.and ?_
          | refine Branch.or ?_
          | refine Branch.dt (by assumption) ?_
          | refine Branch.df (by assumption) ?_
          | refine Branch.dt rfl ?_
          | refine Branch.dt (by omega) ?_
          | refine Branch.df (by omega) ?_
          | refine Branch.t rfl ?_
          | refine Branch.f rfl ?_
          | refine Branch.t (by assumption) ?_
          | refine Branch.f (by assumption) ?_
          | refine Branch.d (fun _ => ?_) (fun _ => ?_)
          | refine Branch.mk (fun _ => ?_) (fun _ => ?_)
          | refine Need.mk (by first | omega | decide | rfl) ?_
          | refine Idx.nat (by omega) ?_
          | refine Idx.auto (by first | omega | decide) (by first | omega | decide) ?_
          | refine Cell.ro rfl ?_
          | refine SDraw.all (by kernel_rfl) ?_
          | refine Kept.k0 ?_
          | refine Kept.k1 ?_
          | refine Kept.k2 ?_
          | refine Kept.k3 ?_
          | refine Kept.k4 ?_))
      all_goals (conv => whnf)
      refine hR ⟨j + 1, acc, ms, rs, ra, ca, rb, cb⟩ _ _ (by show nds.length - (j + 1) < nds.length - j; omega) (Keep.all ⟨by show j + 1 ≤ nds.length; omega, hgo, hacc, hms, hrs, hca1, hca2, hcb1, hcb2, .mk, rfl⟩)
  · have hfin : goSl most nds = acc := by
      rw [← hgo]
      by_cases hlt : j < nds.length
      · have : most - acc.length = 0 := by omega
        rw [this, goSl, List.append_nil]
      · rw [List.drop_eq_nil_of_le (by omega), goSl_nil, List.append_nil]
    rw [hfin] at h
    by_cases hlt : j < nds.length
    · repeat' ((conv => whnf); (first
          | refine New.mk (fun _ => ?_)
          | refine Look.at0 ?_
          | refine Cell.row ?_
          | refine Cell.buf ?_
          | refine Cells.row rfl ?_
          | refine Put.row rfl ?_
          | refine Put.buf rfl ?_
          | refine Look.at1 ?_
          | refine Look.at2 ?_
          | refine Look.at3 ?_
          | refine Look.at4 ?_
          | refine Look.at5 ?_
          | refine Look.at6 ?_
          | refine Look.at7 ?_
          | refine Look.at8 ?_
          | with_reducible refine Val.i64 (by omega) (by omega) ?_
          | with_reducible refine Val.u8 (by omega) (by omega) ?_
          | with_reducible refine Val.u32 (by omega) (by omega) ?_
          | with_reducible refine Val.u64 (by omega) (by omega) ?_
          | with_reducible refine Val.u8m ?_
          | with_reducible refine Val.u32m ?_
          | with_reducible refine Val.u64m ?_
          | with_reducible refine Val.shr8 ?_
          | with_reducible refine Val.shr16 (by decide) ?_
          | with_reducible refine Val.shr24 (by decide) ?_
          | with_reducible refine Val.raw ?_
          | refine Branch.not ?_
          | refine Branch.and ?_
          | refine Branch.or ?_
          | refine Branch.dt (by assumption) ?_
          | refine Branch.df (by assumption) ?_
          | refine Branch.dt rfl ?_
          | refine Branch.dt (by omega) ?_
          | refine Branch.df (by omega) ?_
          | refine Branch.t rfl ?_
          | refine Branch.f rfl ?_
          | refine Branch.t (by assumption) ?_
          | refine Branch.f (by assumption) ?_
          | refine Branch.d (fun _ => ?_) (fun _ => ?_)
          | refine Branch.mk (fun _ => ?_) (fun _ => ?_)
          | refine Need.mk (by first | omega | decide | rfl) ?_
          | refine Idx.nat (by omega) ?_
          | refine Idx.auto (by first | omega | decide) (by first | omega | decide) ?_
          | refine Cell.ro rfl ?_
          | refine SDraw.all (by kernel_rfl) ?_
          | refine Kept.k0 ?_
          | refine Kept.k1 ?_
          | refine Kept.k2 ?_
          | refine Kept.k3 ?_
          | refine Kept.k4 ?_))
      all_goals (conv => whnf)
      exact Keep.all (h _ _ _ _ _ _ hms hrs hca1 hca2 hcb1 hcb2)
    · repeat' ((conv => whnf); (first
          | refine New.mk (fun _ => ?_)
          | refine Look.at0 ?_
          | refine Cell.row ?_
          | refine Cell.buf ?_
          | refine Cells.row rfl ?_
          | refine Put.row rfl ?_
          | refine Put.buf rfl ?_
          | refine Look.at1 ?_
          | refine Look.at2 ?_
          | refine Look.at3 ?_
          | refine Look.at4 ?_
          | refine Look.at5 ?_
          | refine Look.at6 ?_
          | refine Look.at7 ?_
          | refine Look.at8 ?_
          | with_reducible refine Val.i64 (by omega) (by omega) ?_
          | with_reducible refine Val.u8 (by omega) (by omega) ?_
          | with_reducible refine Val.u32 (by omega) (by omega) ?_
          | with_reducible refine Val.u64 (by omega) (by omega) ?_
          | with_reducible refine Val.u8m ?_
          | with_reducible refine Val.u32m ?_
          | with_reducible refine Val.u64m ?_
          | with_reducible refine Val.shr8 ?_
          | with_reducible refine Val.shr16 (by decide) ?_
          | with_reducible refine Val.shr24 (by decide) ?_
          | with_reducible refine Val.raw ?_
          | refine Branch.not ?_
          | refine Branch.and ?_
          | refine Branch.or ?_
          | refine Branch.dt (by assumption) ?_
          | refine Branch.df (by assumption) ?_
          | refine Branch.dt rfl ?_
          | refine Branch.dt (by omega) ?_
          | refine Branch.df (by omega) ?_
          | refine Branch.t rfl ?_
          | refine Branch.f rfl ?_
          | refine Branch.t (by assumption) ?_
          | refine Branch.f (by assumption) ?_
          | refine Branch.d (fun _ => ?_) (fun _ => ?_)
          | refine Branch.mk (fun _ => ?_) (fun _ => ?_)
          | refine Need.mk (by first | omega | decide | rfl) ?_
          | refine Idx.nat (by omega) ?_
          | refine Idx.auto (by first | omega | decide) (by first | omega | decide) ?_
          | refine Cell.ro rfl ?_
          | refine SDraw.all (by kernel_rfl) ?_
          | refine Kept.k0 ?_
          | refine Kept.k1 ?_
          | refine Kept.k2 ?_
          | refine Kept.k3 ?_
          | refine Kept.k4 ?_))
      all_goals (conv => whnf)
      exact Keep.all (h _ _ _ _ _ _ hms hrs hca1 hca2 hcb1 hcb2)
end
end Go.Proofs.Ytkegkhhfbfegoaa
