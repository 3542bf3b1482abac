/- Layer 20: slaves of addresses and numbers: by walks. -/
import Derived.Test.YtkegkhhfbfegoaaBMain
import Derived.Test.YtkegkhhfbfegoaaBLs
import Derived.Test.YtkegkhhfbfegoaaRd
import Derived.Test.YtkegkhhfbfegoaaBSx1
import Derived.Test.YtkegkhhfbfegoaaTy

set_option linter.unusedVariables false
set_option linter.unusedSimpArgs false
set_option maxRecDepth 100000
set_option maxHeartbeats 4000000
namespace Go.Proofs.Ytkegkhhfbfegoaa
open Sx Ls
structure Nd where
  (a0 a1 a2 a3 id : Int)
abbrev Nd.cells (x : Nd) : List Value := [.int .u32 x.a0, .int .u32 x.a1, .int .u32 x.a2, .int .u32 x.a3, .int .i64 x.id]
structure Nd.Ok (x : Nd) : Prop where
  r0 : 0 ≤ x.a0 ∧ x.a0 ≤ 4294967295
  r1 : 0 ≤ x.a1 ∧ x.a1 ≤ 4294967295
  r2 : 0 ≤ x.a2 ∧ x.a2 ≤ 4294967295
  r3 : 0 ≤ x.a3 ∧ x.a3 ≤ 4294967295
def Nd.good (x : Nd) : Prop := 0 ≤ x.id ∧ x.id ≤ 127
instance (x : Nd) : Decidable x.good := inferInstanceAs (Decidable (_ ∧ _))
def Nd.l (x : Nd) : L := ⟨x.a0, x.a1, x.a2, x.a3, x.id, 0, x.id, 0, 0, 0, 0, none, false⟩
def Nd.r (x : Nd) : R := ⟨x.a0, x.a1, x.a2, x.a3, x.id, 0, x.id, 0, 0, 0, false, false, 0, 0, 0⟩
/-- Those that can be, at most so many. -/
def goSl : Nat → List Nd → List Nd
  | 0, _ => []
  | _ + 1, [] => []
  | m + 1, x :: r => if x.good then x :: goSl m r else goSl (m + 1) r
theorem goSl_nil (m : Nat) : goSl m [] = [] := by cases m <;> rfl
theorem z03 : (0 : Int) ≤ 0 ∧ (0 : Int) ≤ 3 := by decide
theorem z0127 : (0 : Int) ≤ 0 ∧ (0 : Int) ≤ 127 := by decide
theorem Nd.l_ok {x : Nd} (h : x.Ok) (hg : x.good) : x.l.Ok := ⟨z03, z03, .inl rfl, h.r0, h.r1, h.r2, h.r3, hg, hg⟩
theorem Nd.r_ok {x : Nd} (h : x.Ok) (hg : x.good) : x.r.Ok := ⟨z03, z03, h.r0, h.r1, h.r2, h.r3, hg, hg, z0127⟩
section
variable {K : Value → Heap → Prop} {H : Heap}
theorem c27 (x : Nd) (hg : x.good) (h : ∀ g, K (.tuple ⟨[ptr g, .int .i64 0]⟩) ((g, x.r.row) :: H)) :
    SCalls Try.prog 27 [.agg ⟨[.int .u32 x.a0, .int .u32 x.a1, .int .u32 x.a2, .int .u32 x.a3]⟩, .int .i64 x.id] H K := by
  obtain ⟨h1, h2⟩ := hg
  refine SCalls.any (K := fun v N => ∃ g, v = .tuple ⟨[ptr g, .int .i64 0]⟩ ∧ N = [(g, x.r.row)]) (enter27 ?_) (by rintro v N ⟨g, rfl, rfl⟩; exact h g)
  repeat' ((conv => whnf); (first
      | refine New.mk (fun _ => ?_)
      | refine Look.at0 ?_
      | refine Cell.row ?_
      | refine Cell.buf ?_
      | refine Cells.row rfl ?_
      | refine Put.row rfl ?_
      | refine Put.buf rfl ?_
      | refine Look.at1 ?_
      | refine Look.at2 ?_
      | refine Look.at3 ?_
      | refine Look.at4 ?_
      | refine Look.at5 ?_
      | refine Look.at6 ?_
      | refine Look.at7 ?_
      | refine Look.at8 ?_
      | with_reducible refine Val.i64 (by omega) (by omega) ?_
      | with_reducible refine Val.u8 (by omega) (by omega) ?_
      | with_reducible refine Val.u32 (by omega) (by omega) ?_
      | with_reducible refine Val.u64 (by omega) (by omega) ?_
      | with_reducible refine Val.u8m ?_
      | with_reducible refine Val.u32m ?_
      | with_reducible refine Val.u64m ?_
      | with_reducible refine Val.shr8 ?_
      | with_reducible refine Val.shr16 (by decide) ?_
      | with_reducible refine Val.shr24 (by decide) ?_
      | with_reducible refine Val.raw ?_
      | refine Branch.not ?_
      | refine Branch.and ?_
      | refine Branch.or ?_
      | refine Branch.dt (by assumption) ?_
      | refine Branch.df (by assumption) ?_
      | refine Branch.dt rfl ?_
      | refine Branch.dt (by omega) ?_
      | refine Branch.df (by omega) ?_
      | refine Branch.t rfl ?_
      | refine Branch.f rfl ?_
      | refine Branch.t (by assumption) ?_
      | refine Branch.f (by assumption) ?_
      | refine Branch.d (fun _ => ?_) (fun _ => ?_)
      | refine Branch.mk (fun _ => ?_) (fun _ => ?_)
      | refine Need.mk (by first | omega | decide | rfl) ?_
      | refine Idx.nat (by omega) ?_
      | refine Idx.auto (by first | omega | decide) (by first | omega | decide) ?_
      | refine Cell.ro rfl ?_
      | refine SDraw.all (by kernel_rfl) ?_
      | refine Kept.k0 ?_
      | refine Kept.k1 ?_
      | refine Kept.k2 ?_
      | refine Kept.k3 ?_
      | refine Kept.k4 ?_))
  all_goals (conv => whnf)
  all_goals exact Keep.sub [_] (List.Sublist.cons_cons _ (List.nil_sublist _)) ⟨_, rfl, rfl⟩
inductive S8 (A0 A1 A6 A7 A8 : Value) : List Value → Prop
  | mk {r2 r3 r4 r5 r9 r10 r11 r12 r13 r14 r15 r16 r17 r18 r19 r20 r21 r22 r23 r24 r25 r26 r27 r28 r29 r30 r31 r32 r33 r34 r35 r36 r37 r38 r39 r40 r41 r42 r43 r44 r45 r46 r47 r48 r49 r50 r51 r52 r53 r54 r55 r56 r57 r58 r59 r60 r61 r62 r63 r64 r65 r66 r67 r68 r69 r70 : Value} : S8 A0 A1 A6 A7 A8 [A0, A1, r2, r3, r4, r5, A6, A7, A8, r9, r10, r11, r12, r13, r14, r15, r16, r17, r18, r19, r20, r21, r22, r23, r24, r25, r26, r27, r28, r29, r30, r31, r32, r33, r34, r35, r36, r37, r38, r39, r40, r41, r42, r43, r44, r45, r46, r47, r48, r49, r50, r51, r52, r53, r54, r55, r56, r57, r58, r59, r60, r61, r62, r63, r64, r65, r66, r67, r68, r69, r70]
structure T8 where
  (j : Nat) (acc : List Nd) (ms : List PL) (rs : List PR) (ra ca rb cb : Nat)
abbrev pB (t r c : Nat) (ad : List Nat) : Nat × Blk := (r, .buf t (ptrs ad) (c * 1))
def I8 (sv : Value) (H : Heap) (nds : List Nd) (most : Nat) (x : T8) (S : List Value) (H' : Heap) : Prop :=
  x.j ≤ nds.length ∧ x.acc ++ goSl (most - x.acc.length) (nds.drop x.j) = goSl most nds ∧ x.acc.length ≤ most ∧ x.ms.map Prod.snd = x.acc.map Nd.l ∧ x.rs.map Prod.snd = x.acc.map Nd.r ∧
    x.acc.length ≤ x.ca ∧ x.ca ≤ maxLen ∧ x.acc.length ≤ x.cb ∧ x.cb ≤ maxLen ∧
    S8 sv (.int .i64 (most : Int)) (.slice (some ⟨x.ra, 0, none⟩) x.acc.length x.ca) (.slice (some ⟨x.rb, 0, none⟩) x.acc.length x.cb) (.int .i64 (x.j : Int)) S ∧
    H' = pB 38 x.ra x.ca (x.ms.map Prod.fst) :: pB 42 x.rb x.cb (x.rs.map Prod.fst) :: (x.rs.map rwR ++ (x.ms.map rwL ++ H))
theorem c8 {sv : Value} {nds : List Nd} (hin : InS Nd.cells 5 sv H nds) {most : Nat} (hmost : most ≤ 1000)
    (h : ∀ ra ca rb cb (ms : List PL) (rs : List PR), ms.map Prod.snd = (goSl most nds).map Nd.l → rs.map Prod.snd = (goSl most nds).map Nd.r → (goSl most nds).length ≤ ca → ca ≤ maxLen → (goSl most nds).length ≤ cb → cb ≤ maxLen →
      K (.tuple ⟨[.slice (some ⟨ra, 0, none⟩) (goSl most nds).length ca, .slice (some ⟨rb, 0, none⟩) (goSl most nds).length cb]⟩) (pB 38 ra ca (ms.map Prod.fst) :: pB 42 rb cb (rs.map Prod.fst) :: (rs.map rwR ++ (ms.map rwL ++ H)))) :
    SCalls Try.prog 8 [sv, .int .i64 (most : Int)] H K := by
  have hin0 := hin
  obtain ⟨sa, sc, rfl, hml, hcells⟩ := hin
  have hml' : nds.length ≤ 9223372036854775807 := by simp only [maxLen] at hml; omega
  refine enter8 ?_
  repeat' ((conv => whnf); (first
      | refine New.mk (fun _ => ?_)
      | refine Look.at0 ?_
      | refine Cell.row ?_
      | refine Cell.buf ?_
      | refine Cells.row rfl ?_
      | refine Put.row rfl ?_
      | refine Put.buf rfl ?_
      | refine Look.at1 ?_
      | refine Look.at2 ?_
      | refine Look.at3 ?_
      | refine Look.at4 ?_
      | refine Look.at5 ?_
      | refine Look.at6 ?_
      | refine Look.at7 ?_
      | refine Look.at8 ?_
      | with_reducible refine Val.i64 (by omega) (by omega) ?_
      | with_reducible refine Val.u8 (by omega) (by omega) ?_
      | with_reducible refine Val.u32 (by omega) (by omega) ?_
      | with_reducible refine Val.u64 (by omega) (by omega) ?_
      | with_reducible refine Val.u8m ?_
      | with_reducible refine Val.u32m ?_
      | with_reducible refine Val.u64m ?_
      | with_reducible refine Val.shr8 ?_
      | with_reducible refine Val.shr16 (by decide) ?_
      | with_reducible refine Val.shr24 (by decide) ?_
      | with_reducible refine Val.raw ?_
      | refine Branch.not ?_
      | refine Branch.and ?_
      | refine Branch.or ?_
      | refine Branch.dt (by assumption) ?_
      | refine Branch.df (by assumption) ?_
      | refine Branch.dt rfl ?_
      | refine Branch.dt (by omega) ?_
      | refine Branch.df (by omega) ?_
      | refine Branch.t rfl ?_
      | refine Branch.f rfl ?_
      | refine Branch.t (by assumption) ?_
      | refine Branch.f (by assumption) ?_
      | refine Branch.d (fun _ => ?_) (fun _ => ?_)
      | refine Branch.mk (fun _ => ?_) (fun _ => ?_)
      | refine Need.mk (by first | omega | decide | rfl) ?_
      | refine Idx.nat (by omega) ?_
      | refine Idx.auto (by first | omega | decide) (by first | omega | decide) ?_
      | refine Cell.ro rfl ?_
      | refine SDraw.all (by kernel_rfl) ?_
      | refine Kept.k0 ?_
      | refine Kept.k1 ?_
      | refine Kept.k2 ?_
      | refine Kept.k3 ?_
      | refine Kept.k4 ?_))
  rename_i ra0 rb0
  refine SLoop.toBuf (A := []) ?_
  refine SLoop.toBuf (A := [_]) ?_
  refine SLoop.invA (I8 (.slice sa nds.length sc) H nds most) (fun x => nds.length - x.j) ⟨0, [], [], [], ra0, 0, rb0, 0⟩ (Keep.perm _ (List.Perm.swap _ _ _) ⟨by simp, by simp, by simp, rfl, rfl, Nat.le_refl 0, Nat.zero_le _, Nat.le_refl 0, Nat.zero_le _, .mk, rfl⟩) ?_
  rintro ⟨j, acc, ms, rs, ra, ca, rb, cb⟩ S H' ⟨hj, hgo, hacc, hms, hrs, hca1, hca2, hcb1, hcb2, hS, rfl⟩ R hR
  dsimp only at hj hgo hacc hms hrs hca1 hca2 hcb1 hcb2 hS hR ⊢
  cases hS
  have hlm : ms.length = acc.length := by have := congrArg List.length hms; simpa using this
  have hlr : rs.length = acc.length := by have := congrArg List.length hrs; simpa using this
  by_cases hend : j < nds.length ∧ acc.length < most
  · obtain ⟨hlt, hlm2⟩ := hend
    obtain ⟨x, hx, hdrop, htake⟩ := list_at hlt
    rcases hcells with rfl | ⟨r, o, b, rfl, hm, hc⟩
    · simp at hlt
    have hm2 : (r, b) ∈ pB 38 ra ca (ms.map Prod.fst) :: pB 42 rb cb (rs.map Prod.fst) :: (rs.map rwR ++ (ms.map rwL ++ H)) := .tail _ (.tail _ (List.mem_append_right _ (List.mem_append_right _ hm)))
    have hc4 : ∀ i v, [Value.int .u32 x.a0, .int .u32 x.a1, .int .u32 x.a2, .int .u32 x.a3][i]? = some v → b.cell (o + j * 5 + 0 + i) = some v := fun i v hi => by
      have hi4 := (List.getElem?_eq_some_iff.1 hi).1
      simp only [List.length_cons, List.length_nil] at hi4
      refine hc j x i v hx ?_ (by omega)
      rw [show x.cells = [Value.int .u32 x.a0, .int .u32 x.a1, .int .u32 x.a2, .int .u32 x.a3] ++ [.int .i64 x.id] from rfl, List.getElem?_append_left (by simpa using hi4)]
      exact hi
    have hcid : b.cell (o + j * 5 + 4) = some (.int .i64 x.id) := hc j x 4 _ hx rfl (by decide)
    obtain ⟨m, hm1⟩ : ∃ m, most - acc.length = m + 1 := ⟨most - acc.length - 1, by omega⟩
    rw [hdrop, hm1, goSl] at hgo
    by_cases hg : x.good
    · rw [if_pos hg] at hgo
      have fin : ∀ (S : List Value) (gL gR ra' ca' rb' cb' : Nat) (y z : Nat × Blk), acc.length + 1 ≤ ca' → ca' ≤ maxLen → acc.length + 1 ≤ cb' → cb' ≤ maxLen →
          S8 (.slice (some ⟨r, o, none⟩) nds.length sc) (.int .i64 (most : Int)) (.slice (some ⟨ra', 0, none⟩) (acc.length + 1) ca') (.slice (some ⟨rb', 0, none⟩) (acc.length + 1) cb') (.int .i64 ((j + 1 : Nat) : Int)) S →
          R S ((rb', .buf 42 (ptrs (rs.map Prod.fst) ++ cP gR) (cb' * 1)) :: y :: (ra', .buf 38 (ptrs (ms.map Prod.fst) ++ cP gL) (ca' * 1)) :: z :: (gR, x.r.row) :: (gL, x.l.row none) :: (rs.map rwR ++ (ms.map rwL ++ H))) := by
        intro S gL gR ra' ca' rb' cb' y z h1 h2 h3 h4 h5
        refine hR ⟨j + 1, acc ++ [x], ms ++ [(gL, x.l)], rs ++ [(gR, x.r)], ra', ca', rb', cb'⟩ _ _ (by show nds.length - (j + 1) < nds.length - j; omega)
          (Keep.glue [[(rb', .buf 42 (ptrs (rs.map Prod.fst) ++ cP gR) (cb' * 1))], [y], [(ra', .buf 38 (ptrs (ms.map Prod.fst) ++ cP gL) (ca' * 1))], [z], [(gR, x.r.row)], [(gL, x.l.row none)], rs.map rwR, ms.map rwL, H] [0, 1, 2, 3, 4, 5, 6, 7, 8] [2, 0, 6, 4, 7, 5, 8] [1, 3] (by decide) rfl
          ⟨by show j + 1 ≤ nds.length; omega, ?_, by show (acc ++ [x]).length ≤ most; rw [List.length_append]; exact hlm2, ?_, ?_, ?_, h2, ?_, h4, ?_, ?_⟩)
        · show acc ++ [x] ++ goSl (most - (acc ++ [x]).length) _ = _
          rw [List.length_append, List.append_assoc, ← hgo, show most - (acc.length + [x].length) = m by simp only [List.length_cons, List.length_nil]; omega]
          rfl
        · show (ms ++ [(gL, x.l)]).map Prod.snd = (acc ++ [x]).map Nd.l
          rw [List.map_append, hms, List.map_append]; rfl
        · show (rs ++ [(gR, x.r)]).map Prod.snd = (acc ++ [x]).map Nd.r
          rw [List.map_append, hrs, List.map_append]; rfl
        · show (acc ++ [x]).length ≤ _
          rw [List.length_append]; exact h1
        · show (acc ++ [x]).length ≤ _
          rw [List.length_append]; exact h3
        · show S8 _ _ (Value.slice _ (acc ++ [x]).length _) (Value.slice _ (acc ++ [x]).length _) _ _
          rw [List.length_append]; exact h5
        · show _ = pB 38 ra' ca' ((ms ++ [(gL, x.l)]).map Prod.fst) :: pB 42 rb' cb' ((rs ++ [(gR, x.r)]).map Prod.fst) :: ((rs ++ [(gR, x.r)]).map rwR ++ ((ms ++ [(gL, x.l)]).map rwL ++ H))
          simp [glue, pB, ptrs, List.map_append, rwR, rwL]
      have hg2 := hg
      obtain ⟨hg0, hg1⟩ := hg2
      have hcsa : (ptrs (ms.map Prod.fst)).length = acc.length * 1 := by simp [ptrs, hlm]
      have hcsb : (ptrs (rs.map Prod.fst)).length = acc.length * 1 := by simp [ptrs, hlr]
      clear h
      repeat' ((conv => whnf); (first
          | refine SDraw.held (by kernel_rfl) [(r, b)] (.same hm2 .nil) ?_
          | refine SDraw.held (by kernel_rfl) [(r, b)] (.same (.tail _ hm2) .nil) ?_
          | refine Look.cells (.head _) rfl hc4 ?_
          | refine Look.cell (.head _) hcid ?_
          | refine Ls.c7n x.a0 x.a1 x.a2 x.a3 x.id hg (fun gL => ?_)
          | refine c27 x hg (fun gR => ?_)
          | refine Kept.mk (.same (.tail _ hm2) .nil) ?_
          | refine Kept.mk (.same (.tail _ (.tail _ hm2)) .nil) ?_
          | refine RawV.appT (A := [_, _, _]) (e := 38) (size := 1) (bytes := 8) (m := 1) (news := [_]) rfl (by kernel_rfl) (by decide) hcsa rfl hca1 hca2 (.head _) rfl (fun j v hj => by rw [Nat.zero_add]; exact hj) (by intro u hu; obtain rfl := List.mem_singleton.1 hu; rfl) (by unfold maxLen; omega) (by omega) (fun ra' ca' h1 h2 => ?_)
          | refine RawV.appT (A := [_, _, _, _, _]) (e := 42) (size := 1) (bytes := 8) (m := 1) (news := [_]) rfl (by kernel_rfl) (by decide) hcsb rfl hcb1 hcb2 (.head _) rfl (fun j v hj => by rw [Nat.zero_add]; exact hj) (by intro u hu; obtain rfl := List.mem_singleton.1 hu; rfl) (by unfold maxLen; omega) (by omega) (fun rb' cb' h3 h4 => ?_)
          | refine New.mk (fun _ => ?_)
          | refine Look.at0 ?_
          | refine Cell.row ?_
          | refine Cell.buf ?_
          | refine Cells.row rfl ?_
          | refine Put.row rfl ?_
          | refine Put.buf rfl ?_
          | refine Look.at1 ?_
          | refine Look.at2 ?_
          | refine Look.at3 ?_
          | refine Look.at4 ?_
          | refine Look.at5 ?_
          | refine Look.at6 ?_
          | refine Look.at7 ?_
          | refine Look.at8 ?_
          | with_reducible refine Val.i64 (by omega) (by omega) ?_
          | with_reducible refine Val.u8 (by omega) (by omega) ?_
          | with_reducible refine Val.u32 (by omega) (by omega) ?_
          | with_reducible refine Val.u64 (by omega) (by omega) ?_
          | with_reducible refine Val.u8m ?_
          | with_reducible refine Val.u32m ?_
          | with_reducible refine Val.u64m ?_
          | with_reducible refine Val.shr8 ?_
          | with_reducible refine Val.shr16 (by decide) ?_
          | with_reducible refine Val.shr24 (by decide) ?_
          | with_reducible refine Val.raw ?_
          | refine Branch.not ?_
          | refine Branch.and ?_
          | refine Branch.or ?_
          | refine Branch.dt (by assumption) ?_
          | refine Branch.df (by assumption) ?_
          | refine Branch.dt rfl ?_
          | refine Branch.dt (by omega) ?_
          | refine Branch.df (by omega) ?_
          | refine Branch.t rfl ?_
          | refine Branch.f rfl ?_
          | refine Branch.t (by assumption) ?_
          | refine Branch.f (by assumption) ?_
          | refine Branch.d (fun _ => ?_) (fun _ => ?_)
          | refine Branch.mk (fun _ => ?_) (fun _ => ?_)
          | refine Need.mk (by first | omega | decide | rfl) ?_
          | refine Idx.nat (by omega) ?_
          | refine Idx.auto (by first | omega | decide) (by first | omega | decide) ?_
          | refine Cell.ro rfl ?_
          | refine SDraw.all (by kernel_rfl) ?_
          | refine Kept.k0 ?_
          | refine Kept.k1 ?_
          | refine Kept.k2 ?_
          | refine Kept.k3 ?_
          | refine Kept.k4 ?_))
      all_goals (conv => whnf)
      exact fin _ _ _ _ _ _ _ _ _ h1 h2 h3 h4 .mk
    · rw [if_neg hg, ← hm1] at hgo
      have hbad : x.id < 0 ∨ 127 < x.id := by unfold Nd.good at hg; omega
      clear h
      repeat' ((conv => whnf); (first
          | refine SDraw.held (by kernel_rfl) [(r, b)] (.same hm2 .nil) ?_
          | refine Look.cells (.head _) rfl hc4 ?_
          | refine Look.cell (.head _) hcid ?_
          | refine Ls.c7_bad x.a0 x.a1 x.a2 x.a3 x.id hbad ?_
          | refine Kept.mk (.same hm2 .nil) ?_
          | refine New.mk (fun _ => ?_)
          | refine Look.at0 ?_
          | refine Cell.row ?_
          | refine Cell.buf ?_
          | refine Cells.row rfl ?_
          | refine Put.row rfl ?_
          | refine Put.buf rfl ?_
          | refine Look.at1 ?_
          | refine Look.at2 ?_
          | refine Look.at3 ?_
          | refine Look.at4 ?_
          | refine Look.at5 ?_
          | refine Look.at6 ?_
          | refine Look.at7 ?_
          | refine Look.at8 ?_
          | with_reducible refine Val.i64 (by omega) (by omega) ?_
          | with_reducible refine Val.u8 (by omega) (by omega) ?_
          | with_reducible refine Val.u32 (by omega) (by omega) ?_
          | with_reducible refine Val.u64 (by omega) (by omega) ?_
          | with_reducible refine Val.u8m ?_
          | with_reducible refine Val.u32m ?_
          | with_reducible refine Val.u64m ?_
          | with_reducible refine Val.shr8 ?_
          | with_reducible refine Val.shr16 (by decide) ?_
          | with_reducible refine Val.shr24 (by decide) ?_
          | with_reducible refine Val.raw ?_
          | refine Branch.not ?_
          | refine Branch.and ?_
          | refine Branch.or ?_
          | refine Branch.dt (by assumption) ?_
          | refine Branch.df (by assumption) ?_
          | refine Branch.dt rfl ?_
          | refine Branch.dt (by omega) ?_
          | refine Branch.df (by omega) ?_
          | refine Branch.t rfl ?_
          | refine Branch.f rfl ?_
          | refine Branch.t (by assumption) ?_
          | refine Branch.f (by assumption) ?_
          | refine Branch.d (fun _ => ?_) (fun _ => ?_)
          | refine Branch.mk (fun _ => ?_) (fun _ => ?_)
          | refine Need.mk (by first | omega | decide | rfl) ?_
          | refine Idx.nat (by omega) ?_
          | refine Idx.auto (by first | omega | decide) (by first | omega | decide) ?_
          | refine Cell.ro rfl ?_
          | refine SDraw.all (by kernel_rfl) ?_
          | refine Kept.k0 ?_
          | refine Kept.k1 ?_
          | refine Kept.k2 ?_
          | refine Kept.k3 ?_
          | refine Kept.k4 ?_))
      all_goals (conv => whnf)
      refine hR ⟨j + 1, acc, ms, rs, ra, ca, rb, cb⟩ _ _ (by show nds.length - (j + 1) < nds.length - j; omega) (Keep.all ⟨by show j + 1 ≤ nds.length; omega, hgo, hacc, hms, hrs, hca1, hca2, hcb1, hcb2, .mk, rfl⟩)
  · have hfin : goSl most nds = acc := by
      rw [← hgo]
      by_cases hlt : j < nds.length
      · have : most - acc.length = 0 := by omega
        rw [this, goSl, List.append_nil]
      · rw [List.drop_eq_nil_of_le (by omega), goSl_nil, List.append_nil]
    rw [hfin] at h
    by_cases hlt : j < nds.length
    · repeat' ((conv => whnf); (first
          | refine New.mk (fun _ => ?_)
          | refine Look.at0 ?_
          | refine Cell.row ?_
          | refine Cell.buf ?_
          | refine Cells.row rfl ?_
          | refine Put.row rfl ?_
          | refine Put.buf rfl ?_
          | refine Look.at1 ?_
          | refine Look.at2 ?_
          | refine Look.at3 ?_
          | refine Look.at4 ?_
          | refine Look.at5 ?_
          | refine Look.at6 ?_
          | refine Look.at7 ?_
          | refine Look.at8 ?_
          | with_reducible refine Val.i64 (by omega) (by omega) ?_
          | with_reducible refine Val.u8 (by omega) (by omega) ?_
          | with_reducible refine Val.u32 (by omega) (by omega) ?_
          | with_reducible refine Val.u64 (by omega) (by omega) ?_
          | with_reducible refine Val.u8m ?_
          | with_reducible refine Val.u32m ?_
          | with_reducible refine Val.u64m ?_
          | with_reducible refine Val.shr8 ?_
          | with_reducible refine Val.shr16 (by decide) ?_
          | with_reducible refine Val.shr24 (by decide) ?_
          | with_reducible refine Val.raw ?_
          | refine Branch.not ?_
          | refine Branch.and ?_
          | refine Branch.or ?_
          | refine Branch.dt (by assumption) ?_
          | refine Branch.df (by assumption) ?_
          | refine Branch.dt rfl ?_
          | refine Branch.dt (by omega) ?_
          | refine Branch.df (by omega) ?_
          | refine Branch.t rfl ?_
          | refine Branch.f rfl ?_
          | refine Branch.t (by assumption) ?_
          | refine Branch.f (by assumption) ?_
          | refine Branch.d (fun _ => ?_) (fun _ => ?_)
          | refine Branch.mk (fun _ => ?_) (fun _ => ?_)
          | refine Need.mk (by first | omega | decide | rfl) ?_
          | refine Idx.nat (by omega) ?_
          | refine Idx.auto (by first | omega | decide) (by first | omega | decide) ?_
          | refine Cell.ro rfl ?_
          | refine SDraw.all (by kernel_rfl) ?_
          | refine Kept.k0 ?_
          | refine Kept.k1 ?_
          | refine Kept.k2 ?_
          | refine Kept.k3 ?_
          | refine Kept.k4 ?_))
      all_goals (conv => whnf)
      exact Keep.all (h _ _ _ _ _ _ hms hrs hca1 hca2 hcb1 hcb2)
    · repeat' ((conv => whnf); (first
          | refine New.mk (fun _ => ?_)
          | refine Look.at0 ?_
          | refine Cell.row ?_
          | refine Cell.buf ?_
          | refine Cells.row rfl ?_
          | refine Put.row rfl ?_
          | refine Put.buf rfl ?_
          | refine Look.at1 ?_
          | refine Look.at2 ?_
          | refine Look.at3 ?_
          | refine Look.at4 ?_
          | refine Look.at5 ?_
          | refine Look.at6 ?_
          | refine Look.at7 ?_
          | refine Look.at8 ?_
          | with_reducible refine Val.i64 (by omega) (by omega) ?_
          | with_reducible refine Val.u8 (by omega) (by omega) ?_
          | with_reducible refine Val.u32 (by omega) (by omega) ?_
          | with_reducible refine Val.u64 (by omega) (by omega) ?_
          | with_reducible refine Val.u8m ?_
          | with_reducible refine Val.u32m ?_
          | with_reducible refine Val.u64m ?_
          | with_reducible refine Val.shr8 ?_
          | with_reducible refine Val.shr16 (by decide) ?_
          | with_reducible refine Val.shr24 (by decide) ?_
          | with_reducible refine Val.raw ?_
          | refine Branch.not ?_
          | refine Branch.and ?_
          | refine Branch.or ?_
          | refine Branch.dt (by assumption) ?_
          | refine Branch.df (by assumption) ?_
          | refine Branch.dt rfl ?_
          | refine Branch.dt (by omega) ?_
          | refine Branch.df (by omega) ?_
          | refine Branch.t rfl ?_
          | refine Branch.f rfl ?_
          | refine Branch.t (by assumption) ?_
          | refine Branch.f (by assumption) ?_
          | refine Branch.d (fun _ => ?_) (fun _ => ?_)
          | refine Branch.mk (fun _ => ?_) (fun _ => ?_)
          | refine Need.mk (by first | omega | decide | rfl) ?_
          | refine Idx.nat (by omega) ?_
          | refine Idx.auto (by first | omega | decide) (by first | omega | decide) ?_
          | refine Cell.ro rfl ?_
          | refine SDraw.all (by kernel_rfl) ?_
          | refine Kept.k0 ?_
          | refine Kept.k1 ?_
          | refine Kept.k2 ?_
          | refine Kept.k3 ?_
          | refine Kept.k4 ?_))
      all_goals (conv => whnf)
      exact Keep.all (h _ _ _ _ _ _ hms hrs hca1 hca2 hcb1 hcb2)
end
end Go.Proofs.Ytkegkhhfbfegoaa

/- Layer 20: the program's slaves and the document's do the same: plain laws. -/
set_option linter.unusedVariables false
set_option linter.unusedSimpArgs false
set_option maxRecDepth 100000
namespace Go.Proofs.Ytkegkhhfbfegoaa
open Sx Ls
/-- Shifted alike: the same bits from there on. -/
theorem bits_eq {a n : Int} (ha : 0 ≤ a ∧ a ≤ 4294967295) (hn : 0 ≤ n ∧ n ≤ 4294967295) : ∀ d k : Nat, k + d = 32 → (∀ i : Nat, i < 32 → k ≤ i → a / 2 ^ i % 2 = n / 2 ^ i % 2) → a / 2 ^ k = n / 2 ^ k
  | 0, k, hk, _ => by
    obtain rfl : k = 32 := by omega
    have : (2 : Int) ^ 32 = 4294967296 := by decide
    rw [this]; omega
  | d + 1, k, hk, h => by
    have h1 := bits_eq ha hn d (k + 1) (by omega) (fun i hi hki => h i hi (by omega))
    have h2 := h k (by omega) (Nat.le_refl _)
    rw [Int.pow_succ, ← Int.ediv_ediv_of_nonneg (Int.le_of_lt (Int.pow_pos (by decide))), ← Int.ediv_ediv_of_nonneg (Int.le_of_lt (Int.pow_pos (by decide)))] at h1
    omega
theorem eq_bits {a n : Int} {k i : Nat} (hki : k ≤ i) (h : a / 2 ^ k = n / 2 ^ k) : a / 2 ^ i % 2 = n / 2 ^ i % 2 := by
  obtain ⟨d, rfl⟩ : ∃ d, i = k + d := ⟨i - k, by omega⟩
  rw [Int.pow_add, ← Int.ediv_ediv_of_nonneg (Int.le_of_lt (Int.pow_pos (by decide))), ← Int.ediv_ediv_of_nonneg (Int.le_of_lt (Int.pow_pos (by decide))), h]
theorem shrI_of {a b : Int} (ha : 0 ≤ a) (hb : 0 ≤ b ∧ b ≤ 31) : shrI .u32 a b = a / 2 ^ b.toNat := by
  have h : min b.toNat 32 = b.toNat := by omega
  show a.fdiv (2 ^ (min b.toNat 32)) = _
  rw [h, Int.fdiv_eq_ediv_of_nonneg _ (Int.le_of_lt (Int.pow_pos (by decide)))]
theorem numQ_numR {q : Q} (hq : q.Ok) : numQ q.q1 q.q2 q.q3 q.q4 = numR q.q1 q.q2 q.q3 q.q4 := by
  obtain ⟨r0, r1, r2, r3, r4, r5, r6, r7⟩ := hq
  unfold numQ numR
  rw [bitOr_int 8 q.q1 q.q2 (by omega) (by omega) (by omega) (by omega), bitOr_int 16 _ q.q3 (by omega) (by omega) (by omega) (by omega), bitOr_int 24 _ q.q4 (by omega) (by omega) (by omega) (by omega)]
  omega
/-- The same slave. -/
structure Sim (l : L) (r : R) : Prop where
  a0 : r.a0 = l.a0
  a1 : r.a1 = l.a1
  a2 : r.a2 = l.a2
  a3 : r.a3 = l.a3
  id : r.id = l.pid
  uid : r.uid = l.uid
  mode : r.mode = l.mode
  looks : r.looks = l.looks
theorem sees_iff {l : L} {r : R} (h : Sim l r) (hl : l.Ok) {b n : Int} (hb : 0 ≤ b ∧ b ≤ 31) (hn : 0 ≤ n ∧ n ≤ 4294967295) : r.Sees b n ↔ shrI .u32 (l.adr l.looks) b = shrI .u32 n b := by
  have hadr : r.adr r.looks = l.adr l.looks := by unfold R.adr L.adr; rw [h.a0, h.a1, h.a2, h.a3, h.looks]
  have ha := adrOf_bd hl l.looks
  have ha' : 0 ≤ l.adr l.looks ∧ l.adr l.looks ≤ 4294967295 := ha
  rw [shrI_of ha'.1 hb, shrI_of hn.1 hb]
  unfold R.Sees
  rw [hadr]
  constructor
  · intro hs
    exact bits_eq ha' hn (32 - b.toNat) b.toNat (by omega) (fun i hi hki => hs i hi (by omega))
  · intro e i hi hbi
    exact eq_bits (by omega) e
def Ls.L.Free (l : L) : Prop := l.mode = 0 ∧ l.uid = 0 ∧ l.pid = 0
instance (l : L) : Decidable l.Free := inferInstanceAs (Decidable (_ ∧ _))
theorem takeL81 {l : L} {q : Q} (h0 : q.q0 = 81) : l.take q = if l.Free then l.scans q else (.no, l) := by
  unfold L.take
  rw [if_neg (by omega), if_neg (by omega), if_neg (by omega)]
  by_cases hf : l.Free
  · rw [if_pos ⟨h0, hf⟩, if_pos hf]
  · rw [if_neg (fun e => hf e.2), if_neg hf]
    split
    · unfold L.configures
      rw [if_neg (by omega), if_neg (by omega), if_neg (by omega), if_neg (by omega), if_neg (by omega), if_neg (by omega)]
    · rfl
theorem takeR81 {l : L} {r : R} (h : Sim l r) (hl : l.Ok) {q : Q} (h0 : q.q0 = 81) : r.take q = if l.Free then r.scan q (numR q.q1 q.q2 q.q3 q.q4) else (.no, r) := by
  have hm := hl.mode
  unfold R.take
  rw [if_neg (by omega), if_neg (by omega)]
  by_cases hf : l.Free
  · rw [if_pos hf, if_neg (by rw [h.mode, hf.1]; decide), if_neg (by omega), if_pos ⟨h0, by rw [h.id]; exact hf.2.2, by rw [h.uid]; exact hf.2.1⟩]
  · rw [if_neg hf]
    split
    · unfold R.set
      rw [if_neg (by omega), if_neg (by omega), if_neg (by omega), if_neg (by omega), if_neg (by omega), if_neg (by omega)]
    · rename_i hm1
      rw [h.mode] at hm1
      rw [if_neg (by omega), if_neg (by
        rintro ⟨_, f1, f2⟩
        exact hf ⟨by omega, by rw [← h.uid]; exact f2, by rw [← h.id]; exact f1⟩)]
theorem takeL17 {l : L} {q : Q} (h0 : q.q0 = 17) (h1 : 1 ≤ q.q1 ∧ q.q1 ≤ 127) : l.take q = if l.mode = 1 then (.one 17 0, { l with pid := q.q1 }) else (.no, l) := by
  unfold L.take L.configures
  rw [if_neg (by omega), if_neg (by omega), if_neg (by omega), if_neg (by omega)]
  by_cases hm : l.mode = 1
  · rw [if_pos hm, if_pos hm, if_pos h0, if_neg (by omega), if_neg (by omega), if_neg (by omega)]
  · rw [if_neg hm, if_neg hm]
theorem takeR17 {r : R} {q : Q} (h0 : q.q0 = 17) (h1 : 1 ≤ q.q1 ∧ q.q1 ≤ 127) : r.take q = if r.mode = 1 then (.one 17 0, { r with id := q.q1 }) else (.no, r) := by
  unfold R.take R.set
  rw [if_neg (by omega), if_neg (by omega)]
  by_cases hm : r.mode = 1
  · rw [if_pos hm, if_pos hm, if_pos h0, if_neg (by omega), if_neg (by omega), show q.q1 % 255 = q.q1 by omega]
  · rw [if_neg hm, if_neg hm, if_neg (by omega), if_neg (by omega)]
theorem takeL4 {l : L} {q : Q} (h0 : q.q0 = 4) (h1 : q.q1 = 0) : l.take q = (.no, if l.uid = 0 then { l with mode := 0, uid := l.pid } else { l with mode := 0 }) := by
  unfold L.take L.switches
  rw [if_pos h0, if_pos h1]
theorem takeR4 {r : R} {q : Q} (h0 : q.q0 = 4) (h1 : q.q1 = 0) : r.take q = (.no, if r.uid = 0 then { r with mode := 0, uid := r.id } else { r with mode := 0 }) := by
  unfold R.take
  rw [if_pos h0, if_pos h1]
theorem sim_scan {l : L} {r : R} (h : Sim l r) (hl : l.Ok) {q : Q} (hq : q.Ok) : (r.scan q (numR q.q1 q.q2 q.q3 q.q4)).1.is = (l.scans q).1.is ∧ Sim (l.scans q).2 (r.scan q (numR q.q1 q.q2 q.q3 q.q4)).2 := by
  have hn : 0 ≤ numR q.q1 q.q2 q.q3 q.q4 ∧ numR q.q1 q.q2 q.q3 q.q4 ≤ 4294967295 := by
    obtain ⟨r0, r1, r2, r3, r4, r5, r6, r7⟩ := hq
    unfold numR; omega
  have hlk := hl.looks
  have hq5 := hq.r5
  have hlo := h.looks
  by_cases c1 : q.q5 = 128
  · have e1 : l.scans q = (.one 79 0, { l with looks := 0 }) := by unfold L.scans; rw [if_pos c1]
    have e2 : r.scan q (numR q.q1 q.q2 q.q3 q.q4) = (.one 79 0, { r with looks := 0 }) := by unfold R.scan; rw [if_pos c1]
    rw [e1, e2]; exact ⟨rfl, ⟨h.a0, h.a1, h.a2, h.a3, h.id, h.uid, h.mode, rfl⟩⟩
  by_cases c2 : 31 < q.q5
  · have e1 : l.scans q = (.no, l) := by unfold L.scans; rw [if_neg c1, if_pos c2]
    have e2 : r.scan q (numR q.q1 q.q2 q.q3 q.q4) = (.no, r) := by unfold R.scan; rw [if_neg c1, if_pos c2]
    rw [e1, e2]; exact ⟨rfl, h⟩
  have hs := sees_iff h hl (b := q.q5) ⟨hq5.1, by omega⟩ hn
  by_cases c3 : q.q6 = l.looks ∧ q.q7 < 4 ∧ r.Sees q.q5 (numR q.q1 q.q2 q.q3 q.q4)
  · obtain ⟨c3, c4, c5⟩ := c3
    have e1 : l.scans q = if q.q5 = 0 then (if q.q7 < q.q6 then (.one 79 0, { l with looks := 0, mode := 1 }) else (.one 79 0, { l with looks := q.q7 })) else (.one 79 0, l) := by
      unfold L.scans; rw [if_neg c1, if_neg c2, if_neg (by simpa using c3), if_neg (by omega), if_neg (by rw [numQ_numR hq, c3]; simpa using hs.1 c5)]
    have e2 : r.scan q (numR q.q1 q.q2 q.q3 q.q4) = if q.q5 = 0 then (if q.q7 < q.q6 then (.one 79 0, { r with looks := 0, mode := 1 }) else (.one 79 0, { r with looks := q.q7 })) else (.one 79 0, r) := by
      unfold R.scan; rw [if_neg c1, if_neg c2, if_neg (by omega), if_neg (by omega), if_neg (by rw [hlo]; simpa using c3), if_neg (by simpa using c5)]
    rw [e1, e2]
    by_cases c6 : q.q5 = 0
    · rw [if_pos c6, if_pos c6]
      by_cases c7 : q.q7 < q.q6
      · rw [if_pos c7, if_pos c7]; exact ⟨rfl, ⟨h.a0, h.a1, h.a2, h.a3, h.id, h.uid, rfl, rfl⟩⟩
      · rw [if_neg c7, if_neg c7]; exact ⟨rfl, ⟨h.a0, h.a1, h.a2, h.a3, h.id, h.uid, h.mode, rfl⟩⟩
    · rw [if_neg c6, if_neg c6]; exact ⟨rfl, h⟩
  · have e1 : l.scans q = (.no, l) := by
      unfold L.scans
      rw [if_neg c1, if_neg c2]
      by_cases d3 : q.q6 = l.looks
      · rw [if_neg (by simpa using d3)]
        by_cases d4 : 4 ≤ q.q7
        · rw [if_pos d4]
        · rw [if_neg d4, if_pos (by rw [numQ_numR hq, d3]; exact fun e => c3 ⟨d3, by omega, hs.2 e⟩)]
      · rw [if_pos d3]
    have e2 : r.scan q (numR q.q1 q.q2 q.q3 q.q4) = (.no, r) := by
      unfold R.scan
      rw [if_neg c1, if_neg c2]
      by_cases d1 : 3 < q.q6
      · rw [if_pos d1]
      rw [if_neg d1]
      by_cases d2 : 3 < q.q7
      · rw [if_pos d2]
      rw [if_neg d2]
      by_cases d3 : q.q6 = l.looks
      · rw [if_neg (by rw [hlo]; simpa using d3), if_pos (fun e => c3 ⟨d3, by omega, e⟩)]
      · rw [if_pos (by rw [hlo]; exact d3)]
    rw [e1, e2]; exact ⟨rfl, h⟩
theorem sim_take {l : L} {r : R} (h : Sim l r) (hl : l.Ok) {q : Q} (hq : q.Ok) (h0 : q.q0 = 81 ∨ (q.q0 = 17 ∧ 1 ≤ q.q1 ∧ q.q1 ≤ 127) ∨ (q.q0 = 4 ∧ q.q1 = 0)) : (r.take q).1.is = (l.take q).1.is ∧ Sim (l.take q).2 (r.take q).2 := by
  rcases h0 with h0 | ⟨h0, h1⟩ | ⟨h0, h1⟩
  · rw [takeL81 h0, takeR81 h hl h0]
    by_cases hf : l.Free
    · rw [if_pos hf, if_pos hf]; exact sim_scan h hl hq
    · rw [if_neg hf, if_neg hf]; exact ⟨rfl, h⟩
  · rw [takeL17 h0 h1, takeR17 h0 h1]
    by_cases hm : l.mode = 1
    · rw [if_pos hm, if_pos (by rw [h.mode]; exact hm)]; exact ⟨rfl, ⟨h.a0, h.a1, h.a2, h.a3, rfl, h.uid, h.mode, h.looks⟩⟩
    · rw [if_neg hm, if_neg (by rw [h.mode]; exact hm)]; exact ⟨rfl, h⟩
  · rw [takeL4 h0 h1, takeR4 h0 h1]
    refine ⟨rfl, ?_⟩
    by_cases hu : l.uid = 0
    · rw [if_pos hu, if_pos (by rw [h.uid]; exact hu)]; exact ⟨h.a0, h.a1, h.a2, h.a3, h.id, h.id, rfl, h.looks⟩
    · rw [if_neg hu, if_neg (by rw [h.uid]; exact hu)]; exact ⟨h.a0, h.a1, h.a2, h.a3, h.id, h.uid, rfl, h.looks⟩
/-- The same slaves. -/
inductive Sims : List PL → List PR → Prop
  | nil : Sims [] []
  | cons {x : PL} {y : PR} {ms : List PL} {rs : List PR} : Sim x.2 y.2 → x.2.Ok → Sims ms rs → Sims (x :: ms) (y :: rs)
def Qs (q : Q) : Prop := q.Ok ∧ (q.q0 = 81 ∨ (q.q0 = 17 ∧ 1 ≤ q.q1 ∧ q.q1 ≤ 127) ∨ (q.q0 = 4 ∧ q.q1 = 0))
theorem Sims.take {ms : List PL} {rs : List PR} (h : Sims ms rs) {q : Q} (hq : Qs q) : rs.any (anR q) = ms.any (anL q) ∧ Sims (ms.map (tkL q)) (rs.map (tkR q)) := by
  induction h with
  | nil => exact ⟨rfl, .nil⟩
  | cons h1 h2 _ ih =>
    obtain ⟨g1, g2⟩ := sim_take h1 h2 hq.1 hq.2
    refine ⟨?_, .cons g2 (Ls.take_ok _ h2 _ hq.1) ih.2⟩
    rw [List.any_cons, List.any_cons, ih.1]
    unfold anR anL
    rw [g1]
theorem Sims.run : ∀ (n : Nat) (s : Sc) (ms : List PL) (rs : List PR), s.Ok → Sims ms rs → (runR n s rs).1 = (runL n s ms).1 ∧ Sims (runL n s ms).2 (runR n s rs).2
  | 0, _, _, _, _, h => ⟨rfl, h⟩
  | n + 1, s, ms, rs, hs, h => by
    rw [runR, runL]
    split
    · exact ⟨rfl, h⟩
    · rename_i h3
      obtain ⟨hq, h0⟩ := hs.q_ok h3
      obtain ⟨g1, g2⟩ := h.take (q := s.q) ⟨hq, .inl h0⟩
      have e : (stepR s rs).1 = (stepL s ms).1 := by unfold stepR stepL; rw [g1]
      rw [e]
      exact Sims.run n _ _ _ ((hs.ask h3).ans _) g2
theorem q17_eq {n : Int} (h : 1 ≤ n ∧ n ≤ 127) : q17 n = q17r n := by
  unfold q17 q17r
  rw [show n % 256 = n by omega, show n / 256 % 256 = 0 by omega, show n / 65536 % 256 = 0 by omega, show n / 16777216 = 0 by omega]
theorem Sims.all : ∀ (xs : List Int) (ms : List PL) (rs : List PR) (out : List Sc), (∀ x ∈ xs, 1 ≤ x ∧ x ≤ 127) → Sims ms rs → (allR xs rs out).1 = (allL xs ms out).1 ∧ (allR xs rs out).2.1 = (allL xs ms out).2.1 ∧ Sims (allL xs ms out).2.2 (allR xs rs out).2.2
  | [], ms, rs, out, _, h => by
    obtain ⟨hq, h0⟩ := Sc.Ok.new.q_ok (by show (0 : Int) ≠ 3; decide)
    obtain ⟨g1, g2⟩ := h.take (q := Sc.new.q) ⟨hq, .inl h0⟩
    exact ⟨rfl, by unfold allR allL; rw [g1], g2⟩
  | x :: xs, ms, rs, out, hx, h => by
    obtain ⟨g1, g2⟩ := Sims.run 134 Sc.new ms rs Sc.Ok.new h
    have g1 : (scanR rs).1 = (scanL ms).1 := g1
    have g2 : Sims (scanL ms).2 (scanR rs).2 := g2
    unfold allR allL
    rw [g1]
    split
    · exact ⟨rfl, rfl, g2⟩
    · refine Sims.all xs _ _ _ (fun y hy => hx y (.tail _ hy)) ?_
      have hr := hx x (.head _)
      unfold giveL giveR
      rw [q17_eq hr]
      exact ((g2.take (q := q17r x) ⟨q17r_ok hr, .inr (.inl ⟨rfl, hr⟩)⟩).2.take (q := q4) ⟨q4_ok, .inr (.inr ⟨rfl, rfl⟩)⟩).2
theorem Sims.len {ms : List PL} {rs : List PR} (h : Sims ms rs) : rs.length = ms.length := by
  induction h with
  | nil => rfl
  | cons _ _ _ ih => simp [ih]
theorem Sims.allP {xs : List Int} {ms : List PL} {rs : List PR} (h : Sims ms rs) : (allD xs rs).1 = (allP xs ms).1 ∧ (allD xs rs).2.1 = (allP xs ms).2.1 ∧ Sims (Go.Proofs.Ytkegkhhfbfegoaa.allP xs ms).2.2 (allD xs rs).2.2 := by
  unfold allD Go.Proofs.Ytkegkhhfbfegoaa.allP
  rw [h.len]
  split
  · rename_i e
    exact Sims.all xs ms rs [] (chk_range e).1 h
  · exact ⟨rfl, rfl, h⟩
end Go.Proofs.Ytkegkhhfbfegoaa

/- Layer 20: a scan finds the least address of those without a number: a plain law. -/
set_option linter.unusedVariables false
set_option linter.unusedSimpArgs false
set_option maxRecDepth 100000
namespace Go.Proofs.Ytkegkhhfbfegoaa
open Sx Ls
/-- An address. -/
structure Ad where
  (m0 m1 m2 m3 : Int)
def Ls.L.ad (l : L) : Ad := ⟨l.a0, l.a1, l.a2, l.a3⟩
def Ad.at (m : Ad) (p : Int) : Int := adrOf m.m0 m.m1 m.m2 m.m3 p
/-- How many parts ahead are alike. -/
def lcp (l : L) (m : Ad) : Int := if l.a0 ≠ m.m0 then 0 else if l.a1 ≠ m.m1 then 1 else if l.a2 ≠ m.m2 then 2 else if l.a3 ≠ m.m3 then 3 else 4
/-- Ahead of, or the same. -/
def Ad.le (m x : Ad) : Prop := m.m0 < x.m0 ∨ (m.m0 = x.m0 ∧ (m.m1 < x.m1 ∨ (m.m1 = x.m1 ∧ (m.m2 < x.m2 ∨ (m.m2 = x.m2 ∧ m.m3 ≤ x.m3)))))
def qB (k b p x : Int) : Q := ⟨81, k % 256, k / 256 % 256, k / 65536 % 256, k / 16777216, b, p, x⟩
theorem scans_qB (l : L) {k b p x : Int} (hl : l.Ok) (hk : 0 ≤ k ∧ k ≤ 4294967295) (hb : 0 ≤ b ∧ b ≤ 31) (hx : x < 4) :
    l.scans (qB k b p x) = if p = l.looks ∧ l.adr p / 2 ^ b.toNat = k / 2 ^ b.toNat then (if b = 0 then (if x < p then (.one 79 0, { l with looks := 0, mode := 1 }) else (.one 79 0, { l with looks := x })) else (.one 79 0, l)) else (.no, l) := by
  have ha : 0 ≤ l.adr p ∧ l.adr p ≤ 4294967295 := adrOf_bd hl p
  unfold L.scans qB
  dsimp only
  rw [numQ_of k hk, if_neg (by omega), if_neg (by omega)]
  by_cases h1 : p = l.looks
  · rw [if_neg (by simpa using h1), if_neg (by omega), shrI_of ha.1 hb, shrI_of hk.1 hb]
    by_cases h2 : l.adr p / 2 ^ b.toNat = k / 2 ^ b.toNat
    · rw [if_neg (by simpa using h2), if_pos (show p = l.looks ∧ l.adr p / 2 ^ b.toNat = k / 2 ^ b.toNat from ⟨h1, h2⟩)]
    · rw [if_pos h2, if_neg (fun e => h2 e.2)]
  · rw [if_pos h1, if_neg (fun e => h1 e.1)]
theorem lcp_ge {l : L} {m : Ad} (hm : m.le l.ad) {p : Int} (hp : p = 0 ∨ p = 1 ∨ p = 2 ∨ p = 3) (h : p ≤ lcp l m) : m.at p ≤ l.adr p := by
  unfold Ad.le L.ad at hm
  unfold lcp at h
  dsimp only at hm
  rcases hp with rfl | rfl | rfl | rfl
  · show m.m0 ≤ l.a0; omega
  · show m.m1 ≤ l.a1
    split at h
    · omega
    · omega
  · show m.m2 ≤ l.a2
    split at h
    · omega
    · split at h <;> omega
  · show m.m3 ≤ l.a3
    split at h
    · omega
    · split at h
      · omega
      · split at h <;> omega
theorem lcp_at {l : L} {m : Ad} {p : Int} (hp : p = 0 ∨ p = 1 ∨ p = 2 ∨ p = 3) (h : p ≤ lcp l m) : p < lcp l m ↔ l.adr p = m.at p := by
  unfold lcp at h ⊢
  rcases hp with rfl | rfl | rfl | rfl
  · show _ ↔ l.a0 = m.m0
    by_cases h0 : l.a0 = m.m0
    · rw [if_neg (by simpa using h0)]; constructor
      · intro _; exact h0
      · intro _; (repeat' split) <;> omega
    · rw [if_pos h0]; constructor <;> intro e <;> omega
  · show _ ↔ l.a1 = m.m1
    by_cases h0 : l.a0 = m.m0
    · rw [if_neg (by simpa using h0)]
      by_cases h1 : l.a1 = m.m1
      · rw [if_neg (by simpa using h1)]; constructor
        · intro _; exact h1
        · intro _; (repeat' split) <;> omega
      · rw [if_pos h1]; constructor <;> intro e <;> omega
    · rw [if_pos h0] at h; omega
  · show _ ↔ l.a2 = m.m2
    by_cases h0 : l.a0 = m.m0
    · rw [if_neg (by simpa using h0)] at h ⊢
      by_cases h1 : l.a1 = m.m1
      · rw [if_neg (by simpa using h1)] at h ⊢
        by_cases h2 : l.a2 = m.m2
        · rw [if_neg (by simpa using h2)]; constructor
          · intro _; exact h2
          · intro _; (repeat' split) <;> omega
        · rw [if_pos h2]; constructor <;> intro e <;> omega
      · rw [if_pos h1] at h; omega
    · rw [if_pos h0] at h; omega
  · show _ ↔ l.a3 = m.m3
    by_cases h0 : l.a0 = m.m0
    · rw [if_neg (by simpa using h0)] at h ⊢
      by_cases h1 : l.a1 = m.m1
      · rw [if_neg (by simpa using h1)] at h ⊢
        by_cases h2 : l.a2 = m.m2
        · rw [if_neg (by simpa using h2)] at h ⊢
          by_cases h3 : l.a3 = m.m3
          · rw [if_neg (by simpa using h3)]; constructor
            · intro _; exact h3
            · intro _; omega
          · rw [if_pos h3]; constructor <;> intro e <;> omega
        · rw [if_pos h2] at h; omega
      · rw [if_pos h1] at h; omega
    · rw [if_pos h0] at h; omega
theorem lcp_r (l : L) (m : Ad) : 0 ≤ lcp l m ∧ lcp l m ≤ 4 := by unfold lcp; (repeat' split) <;> omega
theorem lcp_self {l : L} {m : Ad} (h : l.ad = m) : lcp l m = 4 := by subst h; simp [lcp, L.ad]
/-- One that is asked for part p: what it looks for is the first part that is other, or p. -/
def trL (m : Ad) (p : Int) (l : L) : L := if l.Free then { l with looks := if p < lcp l m then p else lcp l m } else l
def tr (m : Ad) (p : Int) (x : PL) : PL := (x.1, trL m p x.2)
theorem trL_free (m : Ad) (p : Int) (l : L) : (trL m p l).Free ↔ l.Free := by
  unfold trL; split <;> rfl
theorem trL_ok {m : Ad} {p : Int} (hp : 0 ≤ p ∧ p ≤ 3) {l : L} (h : l.Ok) : (trL m p l).Ok := by
  obtain ⟨h1, h2, h3, h4, h5, h6, h7, h8, h9⟩ := h
  have := lcp_r l m
  unfold trL
  split
  · exact ⟨by show 0 ≤ (if p < lcp l m then p else lcp l m) ∧ (if p < lcp l m then p else lcp l m) ≤ 3; split <;> omega, h2, h3, h4, h5, h6, h7, h8, h9⟩
  · exact ⟨h1, h2, h3, h4, h5, h6, h7, h8, h9⟩
/-- What is known in part p. -/
def kq (m : Ad) (p k i : Int) : Int := if i < p then m.at i else if i = p then k else 0
def scB (m : Ad) (p b k : Int) : Sc := ⟨1, p, b, kq m p k 0, kq m p k 1, kq m p k 2, kq m p k 3, false, false, 33 * p + 32 - b⟩
def scW (m : Ad) (p k : Int) : Sc := ⟨2, p, -1, kq m p k 0, kq m p k 1, kq m p k 2, kq m p k 3, false, false, 33 * p + 33⟩
theorem scB_q {m : Ad} {p b k : Int} (hp : p = 0 ∨ p = 1 ∨ p = 2 ∨ p = 3) : (scB m p b k).q = qB k b p p := by
  rcases hp with rfl | rfl | rfl | rfl <;> rfl
theorem scW_q {m : Ad} {p k : Int} (hp : p = 0 ∨ p = 1 ∨ p = 2 ∨ p = 3) : (scW m p k).q = qB k 0 p ((p + 1) % 4) := by
  rcases hp with rfl | rfl | rfl | rfl <;> rfl
theorem ans_bits {m : Ad} {p b k : Int} (hp : p = 0 ∨ p = 1 ∨ p = 2 ∨ p = 3) (hb : 0 ≤ b) (yes : Bool) :
    (askd (scB m p b k)).ans yes = if b = 0 then scW m p (if yes = true then k else orB k b) else scB m p (b - 1) (if yes = true then k else orB k b) := by
  by_cases h0 : b = 0
  · subst h0
    rw [if_pos rfl]
    rcases hp with rfl | rfl | rfl | rfl <;> cases yes <;> rfl
  · rw [if_neg h0]
    have e1 : ¬ (b - 1 < 0) := by omega
    have e2 : 33 * p + 32 - b + 1 = 33 * p + 32 - (b - 1) := by omega
    have e3 : (askd (scB m p b k)).ans yes = { (if yes then askd (scB m p b k) else (askd (scB m p b k)).put p (orB ((scB m p b k).kn p) b)) with bi := b - 1, ph := if b - 1 < 0 then 2 else 1, asked := false, took := 33 * p + 32 - b + 1 } := rfl
    rw [e3, if_neg e1, e2]
    rcases hp with rfl | rfl | rfl | rfl <;> cases yes <;> rfl
theorem ans_whole {m : Ad} {p : Int} (hp : p = 0 ∨ p = 1 ∨ p = 2) : (askd (scW m p (m.at p))).ans true = scB m (p + 1) 31 0 := by
  rcases hp with rfl | rfl | rfl <;> rfl
def scF (m : Ad) : Sc := ⟨3, 4, 31, m.m0, m.m1, m.m2, m.m3, true, false, 133⟩
theorem ans_last {m : Ad} : (askd (scW m 3 (m.at 3))).ans true = scF m := rfl
theorem trL_adr (m : Ad) (p i : Int) (l : L) : (trL m p l).adr i = l.adr i := by unfold trL; split <;> rfl
theorem looks_self (l : L) {p : Int} (h : p = l.looks) : { l with looks := p } = l := by subst h; rfl
theorem tk_bits {m : Ad} {p : Int} (hp : 0 ≤ p ∧ p ≤ 3) {l : L} (hl : l.Ok) {b : Nat} (hb : b ≤ 31) {k : Int} (hk : 0 ≤ k ∧ k ≤ 4294967295) :
    (trL m p l).take (qB k b p p) = if l.Free ∧ p ≤ lcp l m ∧ l.adr p / 2 ^ b = k / 2 ^ b then (.one 79 0, trL m p l) else (.no, trL m p l) := by
  rw [takeL81 rfl]
  by_cases hf : l.Free
  · rw [if_pos ((trL_free m p l).2 hf), scans_qB _ (trL_ok hp hl) hk ⟨by omega, by omega⟩ (by omega), trL_adr, Int.toNat_natCast]
    have hlk : p = (trL m p l).looks ↔ p ≤ lcp l m := by
      unfold trL
      rw [if_pos hf]
      show p = (if p < lcp l m then p else lcp l m) ↔ _
      split <;> omega
    by_cases h1 : p ≤ lcp l m ∧ l.adr p / 2 ^ b = k / 2 ^ b
    · rw [if_pos ⟨hlk.2 h1.1, h1.2⟩, if_pos (show l.Free ∧ p ≤ lcp l m ∧ l.adr p / 2 ^ b = k / 2 ^ b from ⟨hf, h1⟩), if_neg (show ¬ p < p by omega), looks_self _ (hlk.2 h1.1)]
      split <;> rfl
    · rw [if_neg (fun e => h1 ⟨hlk.1 e.1, e.2⟩), if_neg (fun e => h1 e.2)]
  · rw [if_neg (fun e => hf ((trL_free m p l).1 e)), if_neg (fun e => hf e.1)]
theorem tk_whole {m : Ad} {p : Int} (hp : 0 ≤ p ∧ p ≤ 2) {l : L} (hl : l.Ok) (hm : 0 ≤ m.at p ∧ m.at p ≤ 4294967295) :
    (trL m p l).take (qB (m.at p) 0 p ((p + 1) % 4)) = (if l.Free ∧ p < lcp l m then .one 79 0 else .no, trL m (p + 1) l) := by
  have hp4 : p = 0 ∨ p = 1 ∨ p = 2 ∨ p = 3 := by omega
  rw [takeL81 rfl]
  by_cases hf : l.Free
  · rw [if_pos ((trL_free m p l).2 hf), scans_qB _ (trL_ok ⟨hp.1, by omega⟩ hl) hm (by decide) (by omega), trL_adr]
    have e : ∀ x : Int, x / 2 ^ (Int.toNat 0) = x := fun x => by simp
    rw [e, e, if_pos (rfl : (0 : Int) = 0), if_neg (show ¬ (p + 1) % 4 < p by omega)]
    have hlk : p = (trL m p l).looks ↔ p ≤ lcp l m := by
      unfold trL
      rw [if_pos hf]
      show p = (if p < lcp l m then p else lcp l m) ↔ _
      split <;> omega
    have hlk1 : (trL m p l).looks = if p < lcp l m then p else lcp l m := by unfold trL; rw [if_pos hf]
    have e2 : trL m (p + 1) l = { l with looks := if p + 1 < lcp l m then p + 1 else lcp l m } := by unfold trL; rw [if_pos hf]
    have e3 : trL m p l = { l with looks := if p < lcp l m then p else lcp l m } := by unfold trL; rw [if_pos hf]
    by_cases h1 : p < lcp l m
    · rw [if_pos ⟨hlk.2 (by omega), (lcp_at hp4 (by omega)).1 h1⟩, if_pos ⟨hf, h1⟩, e2, e3]
      show (A.one 79 0, ({ l with looks := (p + 1) % 4 } : L)) = _
      have : (if p + 1 < lcp l m then p + 1 else lcp l m) = (p + 1) % 4 := by split <;> omega
      rw [this]
    · rw [if_neg (fun e => h1 ((lcp_at hp4 (hlk.1 e.1)).2 e.2)), if_neg (fun e => h1 e.2), e2, e3, if_neg h1, if_neg (by omega)]
  · rw [if_neg (fun e => hf ((trL_free m p l).1 e)), if_neg (fun e => hf e.1)]
    have e2 : trL m (p + 1) l = l := by unfold trL; rw [if_neg hf]
    have e3 : trL m p l = l := by unfold trL; rw [if_neg hf]
    rw [e2, e3]
theorem Ad.ext_iff' {a b : Ad} : a = b ↔ a.m0 = b.m0 ∧ a.m1 = b.m1 ∧ a.m2 = b.m2 ∧ a.m3 = b.m3 := by
  obtain ⟨a0, a1, a2, a3⟩ := a
  obtain ⟨b0, b1, b2, b3⟩ := b
  simp
instance : DecidableEq Ad := fun a b => decidable_of_iff _ Ad.ext_iff'.symm
/-- Behind a scan: those of the least address are configured. -/
def finL (m : Ad) (l : L) : L := if l.Free then (if l.ad = m then { l with looks := 0, mode := 1 } else { l with looks := lcp l m }) else l
def fin (m : Ad) (x : PL) : PL := (x.1, finL m x.2)
theorem lcp_4 {l : L} {m : Ad} : 3 < lcp l m ↔ l.ad = m := by
  rw [Ad.ext_iff']
  unfold lcp L.ad
  dsimp only
  constructor
  · intro h
    split at h
    · omega
    · split at h
      · omega
      · split at h
        · omega
        · split at h
          · omega
          · exact ⟨by omega, by omega, by omega, by omega⟩
  · rintro ⟨h0, h1, h2, h3⟩
    rw [if_neg (by simpa using h0), if_neg (by simpa using h1), if_neg (by simpa using h2), if_neg (by simpa using h3)]; omega
end Go.Proofs.Ytkegkhhfbfegoaa

/- Layer 20: a scan finds the least address of those without a number: its run. -/
set_option linter.unusedVariables false
set_option linter.unusedSimpArgs false
set_option maxRecDepth 100000
namespace Go.Proofs.Ytkegkhhfbfegoaa
open Sx Ls
theorem bitOr_comm (a b : Int) : bitOr .u32 a b = bitOr .u32 b a := by
  unfold bitOr; rw [BitVec.or_comm]
theorem pow_pos' (n : Nat) : (0 : Int) < 2 ^ n := Int.pow_pos (by decide)
theorem orB_add {t : Int} {b : Nat} (hb : b ≤ 31) (ht : 0 ≤ t) (h : t * 2 ^ (b + 1) + 2 ^ b ≤ 4294967295) : orB (t * 2 ^ (b + 1)) (b : Int) = t * 2 ^ (b + 1) + 2 ^ b := by
  have hp := pow_pos' b
  have hp1 : (2 : Int) ^ (b + 1) = 2 ^ b * 2 := Int.pow_succ 2 b
  have e : shlI .u32 1 (b : Int) = 2 ^ b := by
    show IntKind.u32.wrap (1 * 2 ^ (min (b : Int).toNat 32)) = _
    rw [Int.toNat_natCast, Nat.min_eq_left (by omega), Int.one_mul, wrap_u32]
    have h0 : 0 ≤ t * 2 ^ (b + 1) := Int.mul_nonneg ht (Int.le_of_lt (pow_pos' _))
    generalize t * 2 ^ (b + 1) = z at h h0
    generalize (2 : Int) ^ b = y at h hp ⊢
    omega
  unfold orB
  rw [e, bitOr_comm, bitOr_int (b + 1) (2 ^ b) t (Int.le_of_lt hp) ht (by rw [hp1]; omega) (by
    generalize t * 2 ^ (b + 1) = z at h
    generalize (2 : Int) ^ b = y at h ⊢
    omega), Int.add_comm]
/-- What is known in a part, down to a bit. -/
def kn (M : Int) (b : Nat) : Int := M / 2 ^ b / 2 * 2 ^ (b + 1)
theorem kn_div (M : Int) (b : Nat) : kn M b / 2 ^ b = M / 2 ^ b / 2 * 2 := by
  unfold kn
  rw [Int.pow_succ, Int.mul_comm (2 ^ b) 2, ← Int.mul_assoc, Int.mul_ediv_cancel _ (Int.ne_of_gt (pow_pos' b))]
theorem kn_yes {M : Int} {b : Nat} (h : M / 2 ^ b = M / 2 ^ b / 2 * 2) : kn M b = M / 2 ^ b * 2 ^ b := by
  unfold kn
  rw [Int.pow_succ, Int.mul_comm (2 ^ b) 2, ← Int.mul_assoc, ← h]
theorem mul_div_le {M : Int} (b : Nat) : M / 2 ^ b * 2 ^ b ≤ M := Int.ediv_mul_le _ (Int.ne_of_gt (pow_pos' b))
theorem kn_no {M : Int} {b : Nat} (hM : 0 ≤ M ∧ M ≤ 4294967295) (hb : b ≤ 31) (h : M / 2 ^ b = M / 2 ^ b / 2 * 2 + 1) : orB (kn M b) (b : Int) = M / 2 ^ b * 2 ^ b := by
  have h0 : 0 ≤ M / 2 ^ b := Int.ediv_nonneg hM.1 (Int.le_of_lt (pow_pos' b))
  have e : M / 2 ^ b / 2 * 2 ^ (b + 1) + 2 ^ b = M / 2 ^ b * 2 ^ b := by
    rw [Int.pow_succ, Int.mul_comm (2 ^ b) 2, ← Int.mul_assoc]
    conv => rhs; rw [h, Int.add_mul, Int.one_mul]
  unfold kn
  rw [orB_add hb (by omega) (by rw [e]; have := mul_div_le (M := M) b; omega), e]
theorem kn_next {M : Int} (b : Nat) : M / 2 ^ (b + 1) * 2 ^ (b + 1) = kn M b := by
  unfold kn
  rw [Int.pow_succ, Int.ediv_ediv_of_nonneg (Int.le_of_lt (pow_pos' b))]
theorem kn_r {M : Int} (hM : 0 ≤ M ∧ M ≤ 4294967295) (b : Nat) : 0 ≤ kn M b ∧ kn M b ≤ 4294967295 := by
  rw [← kn_next]
  have := mul_div_le (M := M) (b + 1)
  have h0 : 0 ≤ M / 2 ^ (b + 1) := Int.ediv_nonneg hM.1 (Int.le_of_lt (pow_pos' _))
  have h1 := Int.mul_nonneg h0 (Int.le_of_lt (pow_pos' (b + 1)))
  omega
section
variable {m : Ad} {ms : List PL}
/-- The least one of those without a number. -/
structure Least (m : Ad) (ms : List PL) : Prop where
  ok : ∀ x ∈ ms, x.2.Ok
  min : ∀ x ∈ ms, x.2.Free → m.le x.2.ad
  ex : ∃ x ∈ ms, x.2.Free ∧ x.2.ad = m
theorem Least.r (h : Least m ms) (p : Int) : 0 ≤ m.at p ∧ m.at p ≤ 4294967295 := by
  obtain ⟨x, hx, _, rfl⟩ := h.ex
  exact adrOf_bd (h.ok x hx) p
theorem map_same {α : Type} {f : α → α} {l : List α} (h : ∀ x ∈ l, f x = x) : l.map f = l := by
  induction l with
  | nil => rfl
  | cons a l ih => rw [List.map_cons, h a (.head _), ih fun x hx => h x (.tail _ hx)]
theorem step_bits (h : Least m ms) {p : Int} (hp : p = 0 ∨ p = 1 ∨ p = 2 ∨ p = 3) {b : Nat} (hb : b ≤ 31) :
    stepL (scB m p b (kn (m.at p) b)) (ms.map (tr m p)) = (if (b : Int) = 0 then scW m p (m.at p / 2 ^ b * 2 ^ b) else scB m p ((b : Int) - 1) (m.at p / 2 ^ b * 2 ^ b), ms.map (tr m p)) := by
  have hM := h.r p
  have hp03 : 0 ≤ p ∧ p ≤ 3 := by omega
  have hk := kn_r hM b
  have htk := fun (x : PL) (hx : x ∈ ms) => tk_bits (m := m) (p := p) hp03 (h.ok x hx) hb hk
  have e1 : (ms.map (tr m p)).map (tkL (qB (kn (m.at p) b) b p p)) = ms.map (tr m p) := by
    refine map_same fun y hy => ?_
    obtain ⟨x, hx, rfl⟩ := List.mem_map.1 hy
    unfold tkL tr
    dsimp only
    rw [htk x hx]
    split <;> rfl
  have hany : (ms.map (tr m p)).any (anL (qB (kn (m.at p) b) b p p)) = decide (m.at p / 2 ^ b = m.at p / 2 ^ b / 2 * 2) := by
    rw [Bool.eq_iff_iff, List.any_eq_true, decide_eq_true_eq]
    have hD : 0 ≤ m.at p / 2 ^ b := Int.ediv_nonneg hM.1 (Int.le_of_lt (pow_pos' b))
    constructor
    · rintro ⟨y, hy, hy2⟩
      obtain ⟨x, hx, rfl⟩ := List.mem_map.1 hy
      unfold anL tr at hy2
      dsimp only at hy2
      rw [htk x hx] at hy2
      split at hy2
      · rename_i hc
        obtain ⟨hf, hc1, hc2⟩ := hc
        rw [kn_div] at hc2
        have hle := lcp_ge (h.min x hx hf) hp hc1
        have := Int.ediv_le_ediv (pow_pos' b) hle
        omega
      · cases hy2
    · intro hc
      obtain ⟨x, hx, hf, hxm⟩ := h.ex
      refine ⟨tr m p x, List.mem_map_of_mem hx, ?_⟩
      unfold anL tr
      dsimp only
      rw [htk x hx, if_pos ⟨hf, by rw [lcp_self hxm]; omega, by
        rw [kn_div, show x.2.adr p = m.at p by rw [← hxm]; rfl]; exact hc⟩]
      rfl
  have hq : (scB m p b (kn (m.at p) b)).q = qB (kn (m.at p) b) b p p := scB_q hp
  unfold stepL
  rw [hq, e1, hany, ans_bits hp (by omega)]
  have hkk : (if decide (m.at p / 2 ^ b = m.at p / 2 ^ b / 2 * 2) = true then kn (m.at p) b else orB (kn (m.at p) b) b) = m.at p / 2 ^ b * 2 ^ b := by
    have hD : 0 ≤ m.at p / 2 ^ b := Int.ediv_nonneg hM.1 (Int.le_of_lt (pow_pos' b))
    by_cases hc : m.at p / 2 ^ b = m.at p / 2 ^ b / 2 * 2
    · rw [if_pos (decide_eq_true hc), kn_yes hc]
    · rw [if_neg (by simpa using hc), kn_no hM hb (by omega)]
  rw [hkk]
theorem run_bits (h : Least m ms) {p : Int} (hp : p = 0 ∨ p = 1 ∨ p = 2 ∨ p = 3) (n : Nat) : ∀ b : Nat, b ≤ 31 → runL (n + (b + 1)) (scB m p b (kn (m.at p) b)) (ms.map (tr m p)) = runL n (scW m p (m.at p)) (ms.map (tr m p))
  | 0, _ => by
    rw [runL, if_neg (show ¬ (scB m p (0 : Nat) (kn (m.at p) 0)).ph = 3 by show ¬ (1 : Int) = 3; decide), step_bits h hp (by decide), if_pos (by rfl)]
    simp
  | b + 1, hb => by
    rw [show n + (b + 1 + 1) = (n + (b + 1)) + 1 by omega, runL, if_neg (show ¬ (scB m p (b + 1 : Nat) (kn (m.at p) (b + 1))).ph = 3 by show ¬ (1 : Int) = 3; decide), step_bits h hp hb, if_neg (by omega)]
    dsimp only
    rw [kn_next, show ((b + 1 : Nat) : Int) - 1 = (b : Int) by omega]
    exact run_bits h hp n b (by omega)
theorem kn_31 {M : Int} (hM : 0 ≤ M ∧ M ≤ 4294967295) : kn M 31 = 0 := by
  rw [← kn_next, show M / 2 ^ (31 + 1) = 0 from ?_, Int.zero_mul]
  have : (2 : Int) ^ (31 + 1) = 4294967296 := by decide
  rw [this]; omega
theorem step_whole (h : Least m ms) {p : Int} (hp : p = 0 ∨ p = 1 ∨ p = 2) : stepL (scW m p (m.at p)) (ms.map (tr m p)) = (scB m (p + 1) 31 0, ms.map (tr m (p + 1))) := by
  have hM := h.r p
  have htk := fun (x : PL) (hx : x ∈ ms) => tk_whole (m := m) (p := p) (by omega) (h.ok x hx) hM
  have hq : (scW m p (m.at p)).q = qB (m.at p) 0 p ((p + 1) % 4) := scW_q (by omega)
  have e1 : (ms.map (tr m p)).map (tkL (qB (m.at p) 0 p ((p + 1) % 4))) = ms.map (tr m (p + 1)) := by
    rw [List.map_map]
    refine List.map_congr_left fun x hx => ?_
    show tkL _ (tr m p x) = _
    unfold tkL tr
    dsimp only
    rw [htk x hx]
  have hany : (ms.map (tr m p)).any (anL (qB (m.at p) 0 p ((p + 1) % 4))) = true := by
    rw [List.any_eq_true]
    obtain ⟨x, hx, hf, hxm⟩ := h.ex
    refine ⟨tr m p x, List.mem_map_of_mem hx, ?_⟩
    unfold anL tr
    dsimp only
    rw [htk x hx, if_pos ⟨hf, by rw [lcp_self hxm]; omega⟩]
    rfl
  unfold stepL
  rw [hq, e1, hany, ans_whole hp]
theorem tk_last {l : L} (hl : l.Ok) (hm : 0 ≤ m.at 3 ∧ m.at 3 ≤ 4294967295) :
    (trL m 3 l).take (qB (m.at 3) 0 3 ((3 + 1) % 4)) = (if l.Free ∧ l.ad = m then .one 79 0 else .no, finL m l) := by
  rw [takeL81 rfl]
  by_cases hf : l.Free
  · rw [if_pos ((trL_free m 3 l).2 hf), scans_qB _ (trL_ok ⟨by decide, by decide⟩ hl) hm (by decide) (by decide), trL_adr]
    have e : ∀ x : Int, x / 2 ^ (Int.toNat 0) = x := fun x => by simp
    rw [e, e, if_pos (rfl : (0 : Int) = 0), if_pos (show ((3 : Int) + 1) % 4 < 3 by decide)]
    have e3 : trL m 3 l = { l with looks := if 3 < lcp l m then 3 else lcp l m } := by unfold trL; rw [if_pos hf]
    have hlk : 3 = (trL m 3 l).looks ↔ 3 ≤ lcp l m := by
      rw [e3]
      show 3 = (if 3 < lcp l m then 3 else lcp l m) ↔ _
      split <;> omega
    have h4 := lcp_4 (l := l) (m := m)
    have e2 : finL m l = if l.ad = m then { l with looks := 0, mode := 1 } else { l with looks := lcp l m } := by unfold finL; rw [if_pos hf]
    by_cases h1 : l.ad = m
    · have h3 := h4.2 h1
      rw [if_pos ⟨hlk.2 (by omega), (lcp_at (.inr (.inr (.inr rfl))) (by omega)).1 h3⟩, if_pos ⟨hf, h1⟩, e2, if_pos h1, e3]
    · have h3 : ¬ 3 < lcp l m := fun e => h1 (h4.1 e)
      rw [if_neg (fun e => h3 ((lcp_at (.inr (.inr (.inr rfl))) (hlk.1 e.1)).2 e.2)), if_neg (fun e => h1 e.2), e2, if_neg h1, e3, if_neg h3]
  · rw [if_neg (fun e => hf ((trL_free m 3 l).1 e)), if_neg (fun e => hf e.1)]
    have e2 : finL m l = l := by unfold finL; rw [if_neg hf]
    have e3 : trL m 3 l = l := by unfold trL; rw [if_neg hf]
    rw [e2, e3]
theorem step_last (h : Least m ms) : stepL (scW m 3 (m.at 3)) (ms.map (tr m 3)) = (scF m, ms.map (fin m)) := by
  have hM := h.r 3
  have htk := fun (x : PL) (hx : x ∈ ms) => tk_last (m := m) (h.ok x hx) hM
  have hq : (scW m 3 (m.at 3)).q = qB (m.at 3) 0 3 ((3 + 1) % 4) := scW_q (.inr (.inr (.inr rfl)))
  have e1 : (ms.map (tr m 3)).map (tkL (qB (m.at 3) 0 3 ((3 + 1) % 4))) = ms.map (fin m) := by
    rw [List.map_map]
    refine List.map_congr_left fun x hx => ?_
    show tkL _ (tr m 3 x) = _
    unfold tkL tr fin
    dsimp only
    rw [htk x hx]
  have hany : (ms.map (tr m 3)).any (anL (qB (m.at 3) 0 3 ((3 + 1) % 4))) = true := by
    rw [List.any_eq_true]
    obtain ⟨x, hx, hf, hxm⟩ := h.ex
    refine ⟨tr m 3 x, List.mem_map_of_mem hx, ?_⟩
    unfold anL tr
    dsimp only
    rw [htk x hx, if_pos ⟨hf, hxm⟩]
    rfl
  unfold stepL
  rw [hq, e1, hany, ans_last]
theorem tk_first (l : L) : l.take Sc.new.q = if l.Free then (.one 79 0, { l with looks := 0 }) else (.no, l) := by
  rw [takeL81 rfl]
  split
  · unfold L.scans; rw [if_pos (by rfl)]
  · rfl
theorem step_first (h : Least m ms) : stepL Sc.new ms = (scB m 0 31 0, ms.map (tr m 0)) := by
  have e1 : ms.map (tkL Sc.new.q) = ms.map (tr m 0) := by
    refine List.map_congr_left fun x hx => ?_
    have := lcp_r x.2 m
    unfold tkL tr trL
    rw [tk_first]
    split
    · rw [show (if 0 < lcp x.2 m then 0 else lcp x.2 m) = 0 by split <;> omega]
    · rfl
  have hany : ms.any (anL Sc.new.q) = true := by
    rw [List.any_eq_true]
    obtain ⟨x, hx, hf, _⟩ := h.ex
    refine ⟨x, hx, ?_⟩
    unfold anL
    rw [tk_first, if_pos hf]
    rfl
  unfold stepL
  rw [e1, hany]
  rfl
/-- A scan finds the least address, and those of it are configured. -/
theorem scan_least (h : Least m ms) : scanL ms = (scF m, ms.map (fin m)) := by
  have part : ∀ (n : Nat) (p : Int), (p = 0 ∨ p = 1 ∨ p = 2) → runL (n + 33) (scB m p 31 0) (ms.map (tr m p)) = runL n (scB m (p + 1) 31 0) (ms.map (tr m (p + 1))) := by
    intro n p hp
    have e := run_bits h (p := p) (by omega) (n + 1) 31 (by decide)
    rw [kn_31 (h.r p)] at e
    refine (show runL (n + 33) _ _ = _ from e).trans ?_
    rw [runL, if_neg (show ¬ (scW m p (m.at p)).ph = 3 by show ¬ (2 : Int) = 3; decide), step_whole h hp]
  have last : runL (1 + 33) (scB m 3 31 0) (ms.map (tr m 3)) = (scF m, ms.map (fin m)) := by
    have e := run_bits h (p := 3) (.inr (.inr (.inr rfl))) (1 + 1) 31 (by decide)
    rw [kn_31 (h.r 3)] at e
    refine (show runL (1 + 33) _ _ = _ from e).trans ?_
    rw [runL, if_neg (show ¬ (scW m 3 (m.at 3)).ph = 3 by show ¬ (2 : Int) = 3; decide), step_last h]
    rw [runL, if_pos (by rfl)]
  unfold scanL
  rw [show (134 : Nat) = 133 + 1 from rfl, runL, if_neg (show ¬ Sc.new.ph = 3 by show ¬ (0 : Int) = 3; decide), step_first h]
  have p0 := part (34 + 33 + 33) 0 (.inl rfl)
  have p1 := part (34 + 33) 1 (.inr (.inl rfl))
  have p2 := part 34 2 (.inr (.inr rfl))
  exact p0.trans (p1.trans (p2.trans last))
/-- Nobody is without a number. -/
theorem scan_none (h : ∀ x ∈ ms, ¬ x.2.Free) : scanL ms = ((askd Sc.new).ans false, ms) := by
  have e1 : ms.map (tkL Sc.new.q) = ms := by
    refine map_same fun x hx => ?_
    unfold tkL
    rw [tk_first, if_neg (h x hx)]
  have hany : ms.any (anL Sc.new.q) = false := by
    rw [List.any_eq_false]
    intro x hx
    unfold anL
    rw [tk_first, if_neg (h x hx)]
    exact Bool.false_ne_true
  unfold scanL
  rw [show (134 : Nat) = 133 + 1 from rfl, runL, if_neg (show ¬ Sc.new.ph = 3 by show ¬ (0 : Int) = 3; decide)]
  unfold stepL
  rw [e1, hany, show (133 : Nat) = 132 + 1 from rfl, runL, if_pos (by rfl)]
theorem Ad.le_refl (a : Ad) : a.le a := by unfold Ad.le; omega
theorem Ad.le_trans {a b c : Ad} (h1 : a.le b) (h2 : b.le c) : a.le c := by unfold Ad.le at *; omega
theorem Ad.le_total (a b : Ad) : a.le b ∨ b.le a := by unfold Ad.le; omega
theorem Ad.le_anti {a b : Ad} (h1 : a.le b) (h2 : b.le a) : a = b := by rw [Ad.ext_iff']; unfold Ad.le at *; omega
theorem least_or : ∀ (ms : List PL), (∀ x ∈ ms, x.2.Ok) → (∀ x ∈ ms, ¬ x.2.Free) ∨ ∃ m, Least m ms
  | [], _ => .inl fun x hx => by cases hx
  | x :: r, h => by
    have hr : ∀ y ∈ r, y.2.Ok := fun y hy => h y (.tail _ hy)
    rcases least_or r hr with h1 | ⟨m, h1⟩
    · by_cases hf : x.2.Free
      · refine .inr ⟨x.2.ad, h, fun y hy hyf => ?_, x, .head _, hf, rfl⟩
        rcases List.mem_cons.1 hy with rfl | hy
        · exact Ad.le_refl _
        · exact absurd hyf (h1 y hy)
      · refine .inl fun y hy => ?_
        rcases List.mem_cons.1 hy with rfl | hy
        · exact hf
        · exact h1 y hy
    · by_cases hf : x.2.Free
      · obtain ⟨z, hz, hzf, hzm⟩ := h1.ex
        rcases Ad.le_total x.2.ad m with hle | hle
        · refine .inr ⟨x.2.ad, h, fun y hy hyf => ?_, x, .head _, hf, rfl⟩
          rcases List.mem_cons.1 hy with rfl | hy
          · exact Ad.le_refl _
          · exact Ad.le_trans hle (h1.min y hy hyf)
        · refine .inr ⟨m, h, fun y hy hyf => ?_, z, .tail _ hz, hzf, hzm⟩
          rcases List.mem_cons.1 hy with rfl | hy
          · exact hle
          · exact h1.min y hy hyf
      · obtain ⟨z, hz, hzf, hzm⟩ := h1.ex
        refine .inr ⟨m, h, fun y hy hyf => ?_, z, .tail _ hz, hzf, hzm⟩
        rcases List.mem_cons.1 hy with rfl | hy
        · exact absurd hyf hf
        · exact h1.min y hy hyf
end
end Go.Proofs.Ytkegkhhfbfegoaa

/- Layer 20: what a scan of all does with slaves of different addresses; and in another order: plain laws. -/
set_option linter.unusedVariables false
set_option linter.unusedSimpArgs false
set_option maxRecDepth 100000
namespace Go.Proofs.Ytkegkhhfbfegoaa
open Sx Ls
/-- The same slaves in the other order, wherever they lie. -/
def Rv (ms ms2 : List PL) : Prop := ms2.map Prod.snd = (ms.map Prod.snd).reverse
theorem any_snd (q : Q) (ms : List PL) : ms.any (anL q) = (ms.map Prod.snd).any fun l => (l.take q).1.is := by
  rw [List.any_map]; rfl
theorem tk_snd (q : Q) (ms : List PL) : (ms.map (tkL q)).map Prod.snd = (ms.map Prod.snd).map fun l => (l.take q).2 := by
  rw [List.map_map, List.map_map]; rfl
theorem Rv.take {ms ms2 : List PL} (h : Rv ms ms2) (q : Q) : ms2.any (anL q) = ms.any (anL q) ∧ Rv (ms.map (tkL q)) (ms2.map (tkL q)) := by
  unfold Rv at h ⊢
  rw [any_snd, any_snd, tk_snd, tk_snd, h, List.any_reverse, List.map_reverse]
  exact ⟨rfl, rfl⟩
theorem Rv.run : ∀ (n : Nat) (s : Sc) (ms ms2 : List PL), Rv ms ms2 → (runL n s ms2).1 = (runL n s ms).1 ∧ Rv (runL n s ms).2 (runL n s ms2).2
  | 0, _, _, _, h => ⟨rfl, h⟩
  | n + 1, s, ms, ms2, h => by
    rw [runL, runL]
    split
    · exact ⟨rfl, h⟩
    · obtain ⟨g1, g2⟩ := h.take s.q
      have e : (stepL s ms2).1 = (stepL s ms).1 := by unfold stepL; rw [g1]
      rw [e]
      exact Rv.run n _ _ _ g2
theorem Rv.all : ∀ (xs : List Int) (ms ms2 : List PL) (out : List Sc), Rv ms ms2 → (allL xs ms2 out).1 = (allL xs ms out).1 ∧ (allL xs ms2 out).2.1 = (allL xs ms out).2.1 ∧ Rv (allL xs ms out).2.2 (allL xs ms2 out).2.2
  | [], ms, ms2, out, h => by
    obtain ⟨g1, g2⟩ := h.take Sc.new.q
    exact ⟨rfl, by unfold allL; rw [g1], g2⟩
  | x :: xs, ms, ms2, out, h => by
    obtain ⟨g1, g2⟩ := Rv.run 134 Sc.new ms ms2 h
    have g1 : (scanL ms2).1 = (scanL ms).1 := g1
    have g2 : Rv (scanL ms).2 (scanL ms2).2 := g2
    unfold allL
    rw [g1]
    split
    · exact ⟨rfl, rfl, g2⟩
    · refine Rv.all xs _ _ _ ?_
      unfold giveL
      exact ((g2.take (q17 x)).2.take q4).2
theorem Rv.allP {ms ms2 : List PL} (xs : List Int) (h : Rv ms ms2) : (allP xs ms2).1 = (Go.Proofs.Ytkegkhhfbfegoaa.allP xs ms).1 ∧ (Go.Proofs.Ytkegkhhfbfegoaa.allP xs ms2).2.1 = (Go.Proofs.Ytkegkhhfbfegoaa.allP xs ms).2.1 ∧ Rv (Go.Proofs.Ytkegkhhfbfegoaa.allP xs ms).2.2 (Go.Proofs.Ytkegkhhfbfegoaa.allP xs ms2).2.2 := by
  have hl : ms2.length = ms.length := by have := congrArg List.length h; simpa using this
  unfold Go.Proofs.Ytkegkhhfbfegoaa.allP
  rw [hl]
  split
  · exact Rv.all xs ms ms2 [] h
  · exact ⟨rfl, rfl, h⟩
/-- One that waits, with one number. -/
structure Calm (l : L) : Prop where
  ok : l.Ok
  mode : l.mode = 0
  uid : l.uid = l.pid
theorem Calm.free {l : L} (h : Calm l) : l.Free ↔ l.uid = 0 := ⟨fun e => e.2.1, fun e => ⟨h.mode, e, by rw [← h.uid]; exact e⟩⟩
/-- A number is given to those of an address. -/
def gv (m : Ad) (id : Int) (l : L) : L := if l.Free then (if l.ad = m then { l with looks := 0, mode := 0, pid := id, uid := id } else { l with looks := lcp l m }) else l
def gvx (m : Ad) (id : Int) (x : PL) : PL := (x.1, gv m id x.2)
theorem gv_eq {m : Ad} {id : Int} (hid : 1 ≤ id ∧ id ≤ 127) {l : L} (h : Calm l) : (((finL m l).take (q17 id)).2.take q4).2 = gv m id l := by
  have e17 : (q17 id).q1 = id := by show id % 256 = id; omega
  have t17 : ∀ x : L, x.take (q17 id) = if x.mode = 1 then (.one 17 0, { x with pid := id }) else (.no, x) := fun x => by
    rw [takeL17 (q := q17 id) rfl (by rw [e17]; exact hid), e17]
  have t4 : ∀ x : L, (x.take q4).2 = if x.uid = 0 then { x with mode := 0, uid := x.pid } else { x with mode := 0 } := fun x => by
    rw [takeL4 (q := q4) rfl rfl]
  by_cases hf : l.Free
  · have e1 : finL m l = if l.ad = m then { l with looks := 0, mode := 1 } else { l with looks := lcp l m } := if_pos hf
    have e2 : gv m id l = if l.ad = m then { l with looks := 0, mode := 0, pid := id, uid := id } else { l with looks := lcp l m } := if_pos hf
    obtain ⟨f1, f2, f3⟩ := hf
    by_cases ha : l.ad = m
    · rw [e1, e2, if_pos ha, if_pos ha, t17, if_pos (show ({ l with looks := 0, mode := 1 } : L).mode = 1 from rfl), t4]
      exact if_pos f2
    · rw [e1, e2, if_neg ha, if_neg ha, t17, if_neg (show ¬ ({ l with looks := lcp l m } : L).mode = 1 by show ¬ l.mode = 1; omega), t4]
      refine (if_pos f2).trans ?_
      obtain ⟨a0, a1, a2, a3, pid, pr, uid, ur, mode, taken, looks, st, fails⟩ := l
      dsimp only at f1 f2 f3
      subst f1; subst f2; subst f3; rfl
  · have e1 : finL m l = l := if_neg hf
    have e2 : gv m id l = l := if_neg hf
    have hm := h.mode
    have hu : l.uid ≠ 0 := fun e => hf (h.free.2 e)
    rw [e1, e2, t17, if_neg (by omega), t4]
    refine (if_neg hu).trans ?_
    obtain ⟨a0, a1, a2, a3, pid, pr, uid, ur, mode, taken, looks, st, fails⟩ := l
    dsimp only at hm
    subst hm; rfl
theorem give_eq {m : Ad} {id : Int} (hid : 1 ≤ id ∧ id ≤ 127) {ms : List PL} (h : ∀ x ∈ ms, Calm x.2) : giveL id (ms.map (fin m)) = ms.map (gvx m id) := by
  unfold giveL
  rw [List.map_map, List.map_map]
  refine List.map_congr_left fun x hx => ?_
  show tkL q4 (tkL (q17 id) (fin m x)) = _
  unfold tkL fin gvx
  dsimp only
  rw [gv_eq hid (h x hx)]
theorem gv_ad (m : Ad) (id : Int) (l : L) : (gv m id l).ad = l.ad := by unfold gv; (repeat' split) <;> rfl
theorem gv_calm {m : Ad} {id : Int} (hid : 1 ≤ id ∧ id ≤ 127) {l : L} (h : Calm l) : Calm (gv m id l) := by
  obtain ⟨⟨h1, h2, h3, h4, h5, h6, h7, h8, h9⟩, hm, hu⟩ := h
  have hr := lcp_r l m
  unfold gv
  split
  · rename_i hf
    split
    · exact ⟨⟨z03, h2, .inl rfl, h4, h5, h6, h7, ⟨by show 0 ≤ id; omega, hid.2⟩, ⟨by show 0 ≤ id; omega, hid.2⟩⟩, rfl, rfl⟩
    · rename_i ha
      have : ¬ 3 < lcp l m := fun e => ha (lcp_4.1 e)
      exact ⟨⟨⟨hr.1, by show lcp l m ≤ 3; omega⟩, h2, h3, h4, h5, h6, h7, h8, h9⟩, hm, hu⟩
  · exact ⟨⟨h1, h2, h3, h4, h5, h6, h7, h8, h9⟩, hm, hu⟩
theorem gv_uid {m : Ad} {id : Int} {l : L} (h : Calm l) : (gv m id l).uid = if l.uid = 0 ∧ l.ad = m then id else l.uid := by
  unfold gv
  by_cases hf : l.Free
  · rw [if_pos hf]
    by_cases ha : l.ad = m
    · rw [if_pos ha, if_pos ⟨hf.2.1, ha⟩]
    · rw [if_neg ha, if_neg (fun e => ha e.2)]
  · rw [if_neg hf, if_neg (fun e => hf (h.free.2 e.1))]
def Ad.lt (a b : Ad) : Prop := a.m0 < b.m0 ∨ (a.m0 = b.m0 ∧ (a.m1 < b.m1 ∨ (a.m1 = b.m1 ∧ (a.m2 < b.m2 ∨ (a.m2 = b.m2 ∧ a.m3 < b.m3)))))
theorem Ad.lt_of {a b : Ad} (h : a.le b) (hn : a ≠ b) : a.lt b := by
  rw [Ne, Ad.ext_iff'] at hn
  unfold Ad.le at h
  unfold Ad.lt
  omega
def Sc.ad (s : Sc) : Ad := ⟨s.k0, s.k1, s.k2, s.k3⟩
/-- Different addresses, found in their order. -/
theorem all_order : ∀ (xs : List Int) (ms : List PL) (out : List Sc), (∀ x ∈ xs, 1 ≤ x ∧ x ≤ 127) → (∀ x ∈ ms, Calm x.2) → (ms.map fun x => x.2.ad).Nodup →
    ∃ new, (allL xs ms out).1 = out ++ new ∧ (new.map Sc.ad).Pairwise Ad.lt ∧ ∀ s ∈ new, ∃ x ∈ ms, x.2.Free ∧ x.2.ad = s.ad
  | [], ms, out, _, _, _ => ⟨[], by rw [allL, List.append_nil], .nil, fun s hs => by cases hs⟩
  | id :: xs, ms, out, hx, hc, hd => by
    have hid := hx id (.head _)
    rcases least_or ms (fun x h => (hc x h).ok) with h0 | ⟨m, hm⟩
    · refine ⟨[], ?_, .nil, fun s hs => by cases hs⟩
      rw [allL, scan_none h0, if_pos (by rfl), List.append_nil]
    · rw [allL, scan_least hm, if_neg (by show ¬ (true = false); decide)]
      dsimp only
      rw [give_eq hid hc]
      have hc2 : ∀ x ∈ ms.map (gvx m id), Calm x.2 := fun y hy => by
        obtain ⟨x, hx, rfl⟩ := List.mem_map.1 hy
        exact gv_calm hid (hc x hx)
      have hd2 : ((ms.map (gvx m id)).map fun x => x.2.ad).Nodup := by
        rw [List.map_map]
        have : (fun x : PL => x.2.ad) ∘ gvx m id = fun x : PL => x.2.ad := by funext x; exact gv_ad m id x.2
        rw [this]; exact hd
      obtain ⟨new, g1, g2, g3⟩ := all_order xs (ms.map (gvx m id)) (out ++ [scF m]) (fun x h => hx x (.tail _ h)) hc2 hd2
      refine ⟨scF m :: new, by rw [g1, List.append_assoc]; rfl, ?_, fun s hs => ?_⟩
      · rw [List.map_cons, List.pairwise_cons]
        refine ⟨fun a ha => ?_, g2⟩
        obtain ⟨s, hs, rfl⟩ := List.mem_map.1 ha
        obtain ⟨y, hy, hf, he⟩ := g3 s hs
        obtain ⟨x, hx, rfl⟩ := List.mem_map.1 hy
        have hcx := hc x hx
        have hf2 := ((gv_calm hid hcx).free.1 hf)
        rw [gv_uid hcx] at hf2
        have he2 : x.2.ad = s.ad := by rw [← he]; exact (gv_ad m id x.2).symm
        split at hf2
        · omega
        · rename_i hn
          rw [← he2]
          exact Ad.lt_of (hm.min x hx (hcx.free.2 hf2)) (fun e => hn ⟨hf2, e.symm⟩)
      · rcases List.mem_cons.1 hs with rfl | hs
        · obtain ⟨x, hx, hf, he⟩ := hm.ex
          exact ⟨x, hx, hf, he⟩
        · obtain ⟨y, hy, hf, he⟩ := g3 s hs
          obtain ⟨x, hx, rfl⟩ := List.mem_map.1 hy
          have hcx := hc x hx
          have hf2 := ((gv_calm hid hcx).free.1 hf)
          rw [gv_uid hcx] at hf2
          split at hf2
          · omega
          · exact ⟨x, hx, hcx.free.2 hf2, by rw [← he]; exact (gv_ad m id x.2).symm⟩
/-- Numbers, but for 0, are there once. -/
def Once (ms : List PL) : Prop := ms.Pairwise fun x y => x.2.uid = y.2.uid → x.2.uid = 0
theorem tk_uid (x : PL) : (tkL Sc.new.q x).2.uid = x.2.uid := by
  unfold tkL
  rw [tk_first]
  split <;> rfl
theorem all_once : ∀ (xs : List Int) (ms : List PL) (out : List Sc), (∀ x ∈ xs, 1 ≤ x ∧ x ≤ 127) → xs.Nodup → (∀ x ∈ ms, Calm x.2) → (ms.map fun x => x.2.ad).Nodup → (∀ x ∈ ms, x.2.uid ∉ xs) → Once ms → Once (allL xs ms out).2.2
  | [], ms, out, _, _, hc, _, _, h => by
    rw [allL]
    show Once (ms.map (tkL Sc.new.q))
    unfold Once at *
    rw [List.pairwise_map]
    refine h.imp ?_
    intro x y hxy
    rw [tk_uid, tk_uid]; exact hxy
  | id :: xs, ms, out, hx, hn, hc, hd, hu, h => by
    have hid := hx id (.head _)
    obtain ⟨hn1, hn2⟩ := List.nodup_cons.1 hn
    rcases least_or ms (fun x h => (hc x h).ok) with h0 | ⟨m, hm⟩
    · rw [allL, scan_none h0, if_pos (by rfl)]; exact h
    · rw [allL, scan_least hm, if_neg (by show ¬ (true = false); decide)]
      dsimp only
      rw [give_eq hid hc]
      have hc2 : ∀ x ∈ ms.map (gvx m id), Calm x.2 := fun y hy => by
        obtain ⟨x, hx, rfl⟩ := List.mem_map.1 hy
        exact gv_calm hid (hc x hx)
      have hd2 : ((ms.map (gvx m id)).map fun x => x.2.ad).Nodup := by
        rw [List.map_map]
        have : (fun x : PL => x.2.ad) ∘ gvx m id = fun x : PL => x.2.ad := by funext x; exact gv_ad m id x.2
        rw [this]; exact hd
      refine all_once xs _ _ (fun x h => hx x (.tail _ h)) hn2 hc2 hd2 ?_ ?_
      · intro y hy
        obtain ⟨x, hx, rfl⟩ := List.mem_map.1 hy
        show (gv m id x.2).uid ∉ xs
        rw [gv_uid (hc x hx)]
        split
        · exact hn1
        · exact fun e => hu x hx (.tail _ e)
      · unfold Once at *
        rw [List.pairwise_map]
        have hd3 : ms.Pairwise fun x y => x.2.ad ≠ y.2.ad := List.pairwise_map.1 hd
        refine (h.and hd3).imp_of_mem ?_
        rintro x y hx hy ⟨h1, h2⟩
        show (gv m id x.2).uid = (gv m id y.2).uid → (gv m id x.2).uid = 0
        rw [gv_uid (hc x hx), gv_uid (hc y hy)]
        have hux : x.2.uid ≠ id := fun e => hu x hx (e ▸ .head _)
        have huy : y.2.uid ≠ id := fun e => hu y hy (e ▸ .head _)
        split
        · rename_i hcx
          split
          · rename_i hcy
            exact absurd (hcx.2.trans hcy.2.symm) h2
          · intro e; exact absurd e.symm huy
        · split
          · intro e; exact absurd e hux
          · exact h1
end Go.Proofs.Ytkegkhhfbfegoaa

/- Layer 20: a slave is found: by a walk. -/
set_option linter.unusedVariables false
set_option linter.unusedSimpArgs false
set_option maxRecDepth 100000
set_option maxHeartbeats 4000000
namespace Go.Proofs.Ytkegkhhfbfegoaa
open Sx Ls
def nd1 : Nd := ⟨1, 2, 3, 4, 0⟩
def l1 : L := { nd1.l with pid := 7, uid := 7 }
def m1 : Ad := ⟨1, 2, 3, 4⟩
theorem one_least (g : Nat) : Least m1 [(g, nd1.l)] := by
  refine ⟨fun x hx => ?_, fun x hx _ => ?_, ?_⟩
  · obtain rfl := List.mem_singleton.1 hx
    exact Nd.l_ok (x := nd1) ⟨by decide, by decide, by decide, by decide⟩ (by decide)
  · obtain rfl := List.mem_singleton.1 hx
    exact Ad.le_refl _
  · exact ⟨_, .head _, ⟨rfl, rfl, rfl⟩, rfl⟩
theorem allP_one (g : Nat) : allP [7] [(g, nd1.l)] = ([scF m1], 0, [(g, l1)]) := by
  unfold allP
  rw [if_pos (by rfl), allL, scan_least (one_least g)]
  rfl
section
variable {K : Value → Heap → Prop}
theorem c8one {H : Heap} {sv : Value} (hin : InS Nd.cells 5 sv H [nd1]) (h : ∀ ra ca rb cb gL gR, 1 ≤ ca → ca ≤ maxLen → K (.tuple ⟨[.slice (some ⟨ra, 0, none⟩) 1 ca, .slice (some ⟨rb, 0, none⟩) 1 cb]⟩) (pB 38 ra ca [gL] :: pB 42 rb cb [gR] :: (gR, nd1.r.row) :: (gL, nd1.l.row none) :: H)) : SCalls Try.prog 8 [sv, .int .i64 1] H K := by
  refine c8 hin (most := 1) (by decide) ?_
  intro ra ca rb cb ms rs hms hrs h1 h2 h3 h4
  have e : goSl 1 [nd1] = [nd1] := rfl
  rw [e] at *
  rcases ms with _ | ⟨⟨gL, l⟩, _ | ⟨_, _⟩⟩
  · cases hms
  · rcases rs with _ | ⟨⟨gR, r⟩, _ | ⟨_, _⟩⟩
    · cases hrs
    · injection hms with e1 _
      injection hrs with e2 _
      dsimp only at e1 e2
      subst e1
      subst e2
      exact h ra ca rb cb gL gR h1 h2
    · injection hrs with _ e2; cases e2
  · injection hms with _ e2; cases e2
theorem live_c {H : Heap} (h : K (.bool true) H) : SCalls Try.prog 14 [] H K := by
  refine SCalls.any (K := fun v N => v = .bool true ∧ N = []) (enter14 (_u := undef) ?_) (by rintro v N ⟨rfl, rfl⟩; exact h)
  have key : ∀ (ra ca rb cb gL gR p p7 : Nat) (b0 : Blk) (K : Value → Heap → Prop), 1 ≤ ca → ca ≤ maxLen →
      (∀ r c, 1 ≤ c → K (.tuple ⟨[.slice (some ⟨r, 0, none⟩) 1 c, .int .i64 0]⟩) [(r, .buf 34 (scF m1).c4 (c * 4)), (p7, .row 3 [.int .i64 7] (0, 0)), pB 42 rb cb [gR], (gR, nd1.r.row), (p, b0), pB 38 ra ca [gL], (gL, l1.row none)]) →
      SCalls Try.prog 9 [.slice (some ⟨ra, 0, none⟩) 1 ca, .slice (some ⟨p7, 0, none⟩) 1 1] [(p7, .row 3 [.int .i64 7] (0, 0)), pB 38 ra ca [gL], pB 42 rb cb [gR], (gR, nd1.r.row), (gL, nd1.l.row none), (p, b0)] K := by
    intro ra ca rb cb gL gR p p7 b0 K h1 h2 hk
    refine SCalls.glue [[(p7, .row 3 [.int .i64 7] (0, 0))], [pB 38 ra ca [gL]], [pB 42 rb cb [gR]], [(gR, nd1.r.row)], [(gL, nd1.l.row none)], [(p, b0)]] [0, 1, 2, 3, 4, 5] [0, 2, 3, 5, 1, 4] (by decide) rfl ?_
    refine c9 (G := [(p7, .row 3 [.int .i64 7] (0, 0)), pB 42 rb cb [gR], (gR, nd1.r.row), (p, b0)]) (Bh := [pB 38 ra ca [gL]]) (ms := [(gL, nd1.l)]) (xs := [7]) ⟨h1, h2, .inr ⟨ra, rfl, rfl⟩⟩ (one_least gL).ok (InS.row (L := [7]) (.head _) rfl (fun _ => rfl) (by decide)) ?_
    · rw [allP_one]
      rintro sv N (⟨_, e, _⟩ | ⟨r, c, rfl, hc, _, rfl⟩)
      · cases e
      · exact hk r c hc
  have hc4 : ∀ (c j : Nat) (v : Value), (scF m1).c4[j]? = some v → (Blk.buf 34 (scF m1).c4 (c * 4)).cell (0 + Int.toNat 0 * 4 + j) = some v := by
    intro c j v hj
    show (scF m1).c4[0 + Int.toNat 0 * 4 + j]? = some v
    rw [show 0 + Int.toNat 0 * 4 + j = j by simp]
    exact hj
  repeat' ((conv => whnf); (first
      | refine c8one (InS.row (L := [nd1]) (.head _) rfl (fun _ => rfl) (by decide)) (fun ra ca rb cb gL gR h1 h2 => ?_)
      | refine key _ _ _ _ _ _ _ _ _ _ h1 h2 (fun r c hc => ?_)
      | refine SCalls.at6 (Ls.c12 (p := 0) l1 ?_)
      | refine Cells.get (scF m1).c4 rfl (hc4 _) ?_
      | refine New.mk (fun _ => ?_)
      | refine Look.at0 ?_
      | refine Cell.row ?_
      | refine Cell.buf ?_
      | refine Cells.row rfl ?_
      | refine Put.row rfl ?_
      | refine Put.buf rfl ?_
      | refine Look.at1 ?_
      | refine Look.at2 ?_
      | refine Look.at3 ?_
      | refine Look.at4 ?_
      | refine Look.at5 ?_
      | refine Look.at6 ?_
      | refine Look.at7 ?_
      | refine Look.at8 ?_
      | with_reducible refine Val.i64 (by omega) (by omega) ?_
      | with_reducible refine Val.u8 (by omega) (by omega) ?_
      | with_reducible refine Val.u32 (by omega) (by omega) ?_
      | with_reducible refine Val.u64 (by omega) (by omega) ?_
      | with_reducible refine Val.u8m ?_
      | with_reducible refine Val.u32m ?_
      | with_reducible refine Val.u64m ?_
      | with_reducible refine Val.shr8 ?_
      | with_reducible refine Val.shr16 (by decide) ?_
      | with_reducible refine Val.shr24 (by decide) ?_
      | with_reducible refine Val.raw ?_
      | refine Branch.not ?_
      | refine Branch.and ?_
      | refine Branch.or ?_
      | refine Branch.dt (by assumption) ?_
      | refine Branch.df (by assumption) ?_
      | refine Branch.dt rfl ?_
      | refine Branch.dt (by omega) ?_
      | refine Branch.df (by omega) ?_
      | refine Branch.t rfl ?_
      | refine Branch.f rfl ?_
      | refine Branch.t (by assumption) ?_
      | refine Branch.f (by assumption) ?_
      | refine Branch.d (fun _ => ?_) (fun _ => ?_)
      | refine Branch.mk (fun _ => ?_) (fun _ => ?_)
      | refine Need.mk (by first | omega | decide | rfl) ?_
      | refine Idx.nat (by omega) ?_
      | refine Idx.auto (by first | omega | decide) (by first | omega | decide) ?_
      | refine Cell.ro rfl ?_
      | refine SDraw.all (by kernel_rfl) ?_
      | refine Kept.k0 ?_
      | refine Kept.k1 ?_
      | refine Kept.k2 ?_
      | refine Kept.k3 ?_
      | refine Kept.k4 ?_))
  all_goals (conv => whnf)
  exact Keep.sub [] (List.nil_sublist _) ⟨rfl, rfl⟩
end
end Go.Proofs.Ytkegkhhfbfegoaa

/- Layer 20: whether addresses are different, and which is ahead: by walks. -/
set_option linter.unusedVariables false
set_option linter.unusedSimpArgs false
set_option maxRecDepth 100000
set_option maxHeartbeats 4000000
namespace Go.Proofs.Ytkegkhhfbfegoaa
open Sx Ls
instance (a b : Ad) : Decidable (a.lt b) := inferInstanceAs (Decidable (_ ∨ _))
abbrev Ad.val (a : Ad) : Value := .agg ⟨[.int .u32 a.m0, .int .u32 a.m1, .int .u32 a.m2, .int .u32 a.m3]⟩
def Ls.R.ad (r : R) : Ad := ⟨r.a0, r.a1, r.a2, r.a3⟩
section
variable {K : Value → Heap → Prop} {H : Heap}
theorem c12 (a b : Ad) (h : K (.bool (decide (a.lt b))) H) : SCalls Try.prog 12 [a.val, b.val] H K := by
  refine SCalls.any (K := fun v N => v = .bool (decide (a.lt b)) ∧ N = []) (enter12 ?_) (by rintro v N ⟨rfl, rfl⟩; exact h)
  obtain ⟨a0, a1, a2, a3⟩ := a
  obtain ⟨b0, b1, b2, b3⟩ := b
  repeat' ((conv => whnf); (first
      | refine SLoop.round ?_
      | refine Idx.of 0 rfl (by decide) ?_
      | refine Idx.of 1 rfl (by decide) ?_
      | refine Idx.of 2 rfl (by decide) ?_
      | refine Idx.of 3 rfl (by decide) ?_
      | refine New.mk (fun _ => ?_)
      | refine Look.at0 ?_
      | refine Cell.row ?_
      | refine Cell.buf ?_
      | refine Cells.row rfl ?_
      | refine Put.row rfl ?_
      | refine Put.buf rfl ?_
      | refine Look.at1 ?_
      | refine Look.at2 ?_
      | refine Look.at3 ?_
      | refine Look.at4 ?_
      | refine Look.at5 ?_
      | refine Look.at6 ?_
      | refine Look.at7 ?_
      | refine Look.at8 ?_
      | with_reducible refine Val.i64 (by omega) (by omega) ?_
      | with_reducible refine Val.u8 (by omega) (by omega) ?_
      | with_reducible refine Val.u32 (by omega) (by omega) ?_
      | with_reducible refine Val.u64 (by omega) (by omega) ?_
      | with_reducible refine Val.u8m ?_
      | with_reducible refine Val.u32m ?_
      | with_reducible refine Val.u64m ?_
      | with_reducible refine Val.shr8 ?_
      | with_reducible refine Val.shr16 (by decide) ?_
      | with_reducible refine Val.shr24 (by decide) ?_
      | with_reducible refine Val.raw ?_
      | refine Branch.not ?_
      | refine Branch.and ?_
      | refine Branch.or ?_
      | refine Branch.dt (by assumption) ?_
      | refine Branch.df (by assumption) ?_
      | refine Branch.dt rfl ?_
      | refine Branch.dt (by omega) ?_
      | refine Branch.df (by omega) ?_
      | refine Branch.t rfl ?_
      | refine Branch.f rfl ?_
      | refine Branch.t (by assumption) ?_
      | refine Branch.f (by assumption) ?_
      | refine Branch.d (fun _ => ?_) (fun _ => ?_)
      | refine Branch.mk (fun _ => ?_) (fun _ => ?_)
      | refine Need.mk (by first | omega | decide | rfl) ?_
      | refine Idx.nat (by omega) ?_
      | refine Idx.auto (by first | omega | decide) (by first | omega | decide) ?_
      | refine Cell.ro rfl ?_
      | refine SDraw.all (by kernel_rfl) ?_
      | refine Kept.k0 ?_
      | refine Kept.k1 ?_
      | refine Kept.k2 ?_
      | refine Kept.k3 ?_
      | refine Kept.k4 ?_))
  all_goals (conv => whnf)
  all_goals try dsimp only at *
  all_goals refine Keep.sub [] (List.nil_sublist _) ⟨?_, rfl⟩
  all_goals first
    | (refine congrArg Value.bool (decide_eq_decide.2 ?_); unfold Ad.lt; dsimp only; omega)
    | (refine congrArg Value.bool ?_; symm; rw [decide_eq_false_iff_not]; unfold Ad.lt; dsimp only; omega)
inductive S11 (A0 A3 : Value) : List Value → Prop
  | mk {r1 r2 r4 r5 r6 r7 r8 r9 r10 r11 r12 r13 r14 r15 r16 r17 r18 r19 r20 r21 r22 r23 r24 r25 r26 r27 r28 r29 r30 : Value} : S11 A0 A3 [A0, r1, r2, A3, r4, r5, r6, r7, r8, r9, r10, r11, r12, r13, r14, r15, r16, r17, r18, r19, r20, r21, r22, r23, r24, r25, r26, r27, r28, r29, r30]
inductive S11i (A0 A3 A4 : Value) : List Value → Prop
  | mk {r1 r2 r5 r6 r7 r8 r9 r10 r11 r12 r13 r14 r15 r16 r17 r18 r19 r20 r21 r22 r23 r24 r25 r26 r27 r28 r29 r30 : Value} : S11i A0 A3 A4 [A0, r1, r2, A3, A4, r5, r6, r7, r8, r9, r10, r11, r12, r13, r14, r15, r16, r17, r18, r19, r20, r21, r22, r23, r24, r25, r26, r27, r28, r29, r30]
def I11i (sv : Value) (H : Heap) (aa : List Ad) (i : Nat) (x : Ad) (k : Nat) (S : List Value) (H' : Heap) : Prop :=
  k ≤ i ∧ x ∉ aa.take k ∧ H' = H ∧ S11i sv (.int .i64 (i : Int)) (.int .i64 (k : Int)) S
def I11 (sv : Value) (H : Heap) (aa : List Ad) (i : Nat) (S : List Value) (H' : Heap) : Prop :=
  i ≤ aa.length ∧ (aa.take i).Nodup ∧ H' = H ∧ S11 sv (.int .i64 (i : Int)) S
theorem c11 {sv : Value} {rs : List PR} (hin : InS cP 1 sv H (rs.map Prod.fst)) (hrow : ∀ y ∈ rs, (y.1, y.2.row) ∈ H) (h1 : (rs.map fun y => y.2.ad).Nodup → K (.bool true) H) (h0 : ¬ (rs.map fun y => y.2.ad).Nodup → K (.bool false) H) :
    SCalls Try.prog 11 [sv] H K := by
  obtain ⟨sa, sc, rfl, hml⟩ := hin.sv
  have hml' : (rs.map Prod.fst).length ≤ 9223372036854775807 := by simp only [maxLen] at hml; omega
  obtain ⟨aa, has⟩ : ∃ aa : List Ad, aa = rs.map fun y => y.2.ad := ⟨_, rfl⟩
  have hlen : aa.length = (rs.map Prod.fst).length := by rw [has]; simp
  rw [← has] at h1 h0
  refine enter11 ?_
  repeat' ((conv => whnf); (first
      | refine New.mk (fun _ => ?_)
      | refine Look.at0 ?_
      | refine Cell.row ?_
      | refine Cell.buf ?_
      | refine Cells.row rfl ?_
      | refine Put.row rfl ?_
      | refine Put.buf rfl ?_
      | refine Look.at1 ?_
      | refine Look.at2 ?_
      | refine Look.at3 ?_
      | refine Look.at4 ?_
      | refine Look.at5 ?_
      | refine Look.at6 ?_
      | refine Look.at7 ?_
      | refine Look.at8 ?_
      | with_reducible refine Val.i64 (by omega) (by omega) ?_
      | with_reducible refine Val.u8 (by omega) (by omega) ?_
      | with_reducible refine Val.u32 (by omega) (by omega) ?_
      | with_reducible refine Val.u64 (by omega) (by omega) ?_
      | with_reducible refine Val.u8m ?_
      | with_reducible refine Val.u32m ?_
      | with_reducible refine Val.u64m ?_
      | with_reducible refine Val.shr8 ?_
      | with_reducible refine Val.shr16 (by decide) ?_
      | with_reducible refine Val.shr24 (by decide) ?_
      | with_reducible refine Val.raw ?_
      | refine Branch.not ?_
      | refine Branch.and ?_
      | refine Branch.or ?_
      | refine Branch.dt (by assumption) ?_
      | refine Branch.df (by assumption) ?_
      | refine Branch.dt rfl ?_
      | refine Branch.dt (by omega) ?_
      | refine Branch.df (by omega) ?_
      | refine Branch.t rfl ?_
      | refine Branch.f rfl ?_
      | refine Branch.t (by assumption) ?_
      | refine Branch.f (by assumption) ?_
      | refine Branch.d (fun _ => ?_) (fun _ => ?_)
      | refine Branch.mk (fun _ => ?_) (fun _ => ?_)
      | refine Need.mk (by first | omega | decide | rfl) ?_
      | refine Idx.nat (by omega) ?_
      | refine Idx.auto (by first | omega | decide) (by first | omega | decide) ?_
      | refine Cell.ro rfl ?_
      | refine SDraw.all (by kernel_rfl) ?_
      | refine Kept.k0 ?_
      | refine Kept.k1 ?_
      | refine Kept.k2 ?_
      | refine Kept.k3 ?_
      | refine Kept.k4 ?_))
  refine SLoop.invA (I11 (.slice sa (rs.map Prod.fst).length sc) H aa) (fun i => aa.length - i) 0 (Keep.all ⟨by omega, by simp, rfl, .mk⟩) ?_
  rintro i S H' ⟨hi, hnd, rfl, hS⟩ R hR
  cases hS
  have get : ∀ i, i < aa.length → ∃ y r o c b, rs[i]? = some y ∧ aa[i]? = some y.2.ad ∧ Value.slice sa (rs.map Prod.fst).length sc = .slice (some ⟨r, o, none⟩) (rs.map Prod.fst).length c ∧ (r, b) ∈ H' ∧ b.cell (o + i * 1) = some (ptr y.1) ∧ (y.1, y.2.row) ∈ H' := by
    intro i hi
    have hi2 : i < rs.length := by rw [hlen] at hi; simpa using hi
    obtain ⟨y, hy, _, _⟩ := list_at hi2
    obtain ⟨r, o, c, b, e, hm, hc⟩ := hin.at1 (j := i) (x := y.1) (v := ptr y.1) (by rw [List.getElem?_map, hy]; rfl) rfl
    exact ⟨y, r, o, c, b, hy, by rw [has, List.getElem?_map, hy]; rfl, e, hm, hc, hrow y (List.mem_of_getElem? hy)⟩
  by_cases hlt : i < aa.length
  · obtain ⟨y, r, o, c, b, hy, hx, e1, hm, hc, hyr⟩ := get i hlt
    injection e1 with e1 _ e3
    subst e1
    have htake : aa.take (i + 1) = aa.take i ++ [y.2.ad] := by
      obtain ⟨x, hx2, _, ht⟩ := list_at hlt
      rw [hx] at hx2
      injection hx2 with hx2
      rw [ht, hx2]
    repeat' ((conv => whnf); (first
        | refine New.mk (fun _ => ?_)
        | refine Look.at0 ?_
        | refine Cell.row ?_
        | refine Cell.buf ?_
        | refine Cells.row rfl ?_
        | refine Put.row rfl ?_
        | refine Put.buf rfl ?_
        | refine Look.at1 ?_
        | refine Look.at2 ?_
        | refine Look.at3 ?_
        | refine Look.at4 ?_
        | refine Look.at5 ?_
        | refine Look.at6 ?_
        | refine Look.at7 ?_
        | refine Look.at8 ?_
        | with_reducible refine Val.i64 (by omega) (by omega) ?_
        | with_reducible refine Val.u8 (by omega) (by omega) ?_
        | with_reducible refine Val.u32 (by omega) (by omega) ?_
        | with_reducible refine Val.u64 (by omega) (by omega) ?_
        | with_reducible refine Val.u8m ?_
        | with_reducible refine Val.u32m ?_
        | with_reducible refine Val.u64m ?_
        | with_reducible refine Val.shr8 ?_
        | with_reducible refine Val.shr16 (by decide) ?_
        | with_reducible refine Val.shr24 (by decide) ?_
        | with_reducible refine Val.raw ?_
        | refine Branch.not ?_
        | refine Branch.and ?_
        | refine Branch.or ?_
        | refine Branch.dt (by assumption) ?_
        | refine Branch.df (by assumption) ?_
        | refine Branch.dt rfl ?_
        | refine Branch.dt (by omega) ?_
        | refine Branch.df (by omega) ?_
        | refine Branch.t rfl ?_
        | refine Branch.f rfl ?_
        | refine Branch.t (by assumption) ?_
        | refine Branch.f (by assumption) ?_
        | refine Branch.d (fun _ => ?_) (fun _ => ?_)
        | refine Branch.mk (fun _ => ?_) (fun _ => ?_)
        | refine Need.mk (by first | omega | decide | rfl) ?_
        | refine Idx.nat (by omega) ?_
        | refine Idx.auto (by first | omega | decide) (by first | omega | decide) ?_
        | refine Cell.ro rfl ?_
        | refine SDraw.all (by kernel_rfl) ?_
        | refine Kept.k0 ?_
        | refine Kept.k1 ?_
        | refine Kept.k2 ?_
        | refine Kept.k3 ?_
        | refine Kept.k4 ?_))
    refine SLoop.invA (I11i (.slice (some ⟨r, o, none⟩) (rs.map Prod.fst).length sc) H' aa i y.2.ad) (fun k => i - k) 0 (Keep.all ⟨by omega, by simp, rfl, .mk⟩) ?_
    rintro k S H ⟨hk, hnin, rfl, hS⟩ R2 hR2
    cases hS
    by_cases hlt2 : k < i
    · obtain ⟨z, r2, o2, c2, b2, hz, hxz, e12, hm2, hc2, hzr⟩ := get k (by omega)
      injection e12 with e12 _ e32
      injection e12 with e12
      injection e12 with e4 e5
      subst e4
      subst e5
      have htk : aa.take (k + 1) = aa.take k ++ [z.2.ad] := by
        obtain ⟨x, hx2, _, ht⟩ := list_at (L := aa) (j := k) (by omega)
        rw [hxz] at hx2
        injection hx2 with hx2
        rw [ht, hx2]
      clear hR
      repeat' ((conv => whnf); (first
          | refine Look.cell hm2 hc2 ?_
          | refine Look.cell hm hc ?_
          | refine Look.mem hzr (fun _ _ _ => ?_)
          | refine Look.mem hyr (fun _ _ _ => ?_)
          | unfold R.row
          | refine New.mk (fun _ => ?_)
          | refine Look.at0 ?_
          | refine Cell.row ?_
          | refine Cell.buf ?_
          | refine Cells.row rfl ?_
          | refine Put.row rfl ?_
          | refine Put.buf rfl ?_
          | refine Look.at1 ?_
          | refine Look.at2 ?_
          | refine Look.at3 ?_
          | refine Look.at4 ?_
          | refine Look.at5 ?_
          | refine Look.at6 ?_
          | refine Look.at7 ?_
          | refine Look.at8 ?_
          | with_reducible refine Val.i64 (by omega) (by omega) ?_
          | with_reducible refine Val.u8 (by omega) (by omega) ?_
          | with_reducible refine Val.u32 (by omega) (by omega) ?_
          | with_reducible refine Val.u64 (by omega) (by omega) ?_
          | with_reducible refine Val.u8m ?_
          | with_reducible refine Val.u32m ?_
          | with_reducible refine Val.u64m ?_
          | with_reducible refine Val.shr8 ?_
          | with_reducible refine Val.shr16 (by decide) ?_
          | with_reducible refine Val.shr24 (by decide) ?_
          | with_reducible refine Val.raw ?_
          | refine Branch.not ?_
          | refine Branch.and ?_
          | refine Branch.or ?_
          | refine Branch.dt (by assumption) ?_
          | refine Branch.df (by assumption) ?_
          | refine Branch.dt rfl ?_
          | refine Branch.dt (by omega) ?_
          | refine Branch.df (by omega) ?_
          | refine Branch.t rfl ?_
          | refine Branch.f rfl ?_
          | refine Branch.t (by assumption) ?_
          | refine Branch.f (by assumption) ?_
          | refine Branch.d (fun _ => ?_) (fun _ => ?_)
          | refine Branch.mk (fun _ => ?_) (fun _ => ?_)
          | refine Need.mk (by first | omega | decide | rfl) ?_
          | refine Idx.nat (by omega) ?_
          | refine Idx.auto (by first | omega | decide) (by first | omega | decide) ?_
          | refine Cell.ro rfl ?_
          | refine SDraw.all (by kernel_rfl) ?_
          | refine Kept.k0 ?_
          | refine Kept.k1 ?_
          | refine Kept.k2 ?_
          | refine Kept.k3 ?_
          | refine Kept.k4 ?_))
      all_goals (conv => whnf)
      all_goals first
        | (have e : y.2.ad = z.2.ad := by rw [Ad.ext_iff']; exact ⟨by assumption, by assumption, by assumption, by assumption⟩
           refine Keep.all (h0 fun hn => ?_)
           have hin2 : y.2.ad ∈ aa.take i := List.mem_of_getElem? (i := k) (by rw [List.getElem?_take, if_pos hlt2, hxz, e])
           have hn2 : (aa.take (i + 1)).Nodup := hn.sublist (List.take_sublist _ _)
           rw [htake, List.nodup_append] at hn2
           exact hn2.2.2 _ hin2 _ (.head _) rfl)
        | (refine hR2 (k + 1) _ _ (by omega) (Keep.all ⟨by omega, ?_, rfl, .mk⟩)
           rw [htk]
           intro hm3
           rcases List.mem_append.1 hm3 with hm3 | hm3
           · exact hnin hm3
           · have := Ad.ext_iff'.1 (List.mem_singleton.1 hm3)
             obtain ⟨q0, q1, q2, q3⟩ := this
             first | exact absurd q0 (by assumption) | exact absurd q1 (by assumption) | exact absurd q2 (by assumption) | exact absurd q3 (by assumption))
        | trace_state
    · have e : k = i := by omega
      subst e
      repeat' ((conv => whnf); (first
          | refine New.mk (fun _ => ?_)
          | refine Look.at0 ?_
          | refine Cell.row ?_
          | refine Cell.buf ?_
          | refine Cells.row rfl ?_
          | refine Put.row rfl ?_
          | refine Put.buf rfl ?_
          | refine Look.at1 ?_
          | refine Look.at2 ?_
          | refine Look.at3 ?_
          | refine Look.at4 ?_
          | refine Look.at5 ?_
          | refine Look.at6 ?_
          | refine Look.at7 ?_
          | refine Look.at8 ?_
          | with_reducible refine Val.i64 (by omega) (by omega) ?_
          | with_reducible refine Val.u8 (by omega) (by omega) ?_
          | with_reducible refine Val.u32 (by omega) (by omega) ?_
          | with_reducible refine Val.u64 (by omega) (by omega) ?_
          | with_reducible refine Val.u8m ?_
          | with_reducible refine Val.u32m ?_
          | with_reducible refine Val.u64m ?_
          | with_reducible refine Val.shr8 ?_
          | with_reducible refine Val.shr16 (by decide) ?_
          | with_reducible refine Val.shr24 (by decide) ?_
          | with_reducible refine Val.raw ?_
          | refine Branch.not ?_
          | refine Branch.and ?_
          | refine Branch.or ?_
          | refine Branch.dt (by assumption) ?_
          | refine Branch.df (by assumption) ?_
          | refine Branch.dt rfl ?_
          | refine Branch.dt (by omega) ?_
          | refine Branch.df (by omega) ?_
          | refine Branch.t rfl ?_
          | refine Branch.f rfl ?_
          | refine Branch.t (by assumption) ?_
          | refine Branch.f (by assumption) ?_
          | refine Branch.d (fun _ => ?_) (fun _ => ?_)
          | refine Branch.mk (fun _ => ?_) (fun _ => ?_)
          | refine Need.mk (by first | omega | decide | rfl) ?_
          | refine Idx.nat (by omega) ?_
          | refine Idx.auto (by first | omega | decide) (by first | omega | decide) ?_
          | refine Cell.ro rfl ?_
          | refine SDraw.all (by kernel_rfl) ?_
          | refine Kept.k0 ?_
          | refine Kept.k1 ?_
          | refine Kept.k2 ?_
          | refine Kept.k3 ?_
          | refine Kept.k4 ?_))
      all_goals (conv => whnf)
      refine hR (k + 1) _ _ (by omega) (Keep.all ⟨by omega, ?_, rfl, .mk⟩)
      rw [htake, List.nodup_append]
      refine ⟨hnd, by simp, fun a ha b hb e => ?_⟩
      obtain rfl := List.mem_singleton.1 hb
      exact hnin (e ▸ ha)
  · have e : i = aa.length := by omega
    subst e
    rw [List.take_length] at hnd
    repeat' ((conv => whnf); (first
        | refine New.mk (fun _ => ?_)
        | refine Look.at0 ?_
        | refine Cell.row ?_
        | refine Cell.buf ?_
        | refine Cells.row rfl ?_
        | refine Put.row rfl ?_
        | refine Put.buf rfl ?_
        | refine Look.at1 ?_
        | refine Look.at2 ?_
        | refine Look.at3 ?_
        | refine Look.at4 ?_
        | refine Look.at5 ?_
        | refine Look.at6 ?_
        | refine Look.at7 ?_
        | refine Look.at8 ?_
        | with_reducible refine Val.i64 (by omega) (by omega) ?_
        | with_reducible refine Val.u8 (by omega) (by omega) ?_
        | with_reducible refine Val.u32 (by omega) (by omega) ?_
        | with_reducible refine Val.u64 (by omega) (by omega) ?_
        | with_reducible refine Val.u8m ?_
        | with_reducible refine Val.u32m ?_
        | with_reducible refine Val.u64m ?_
        | with_reducible refine Val.shr8 ?_
        | with_reducible refine Val.shr16 (by decide) ?_
        | with_reducible refine Val.shr24 (by decide) ?_
        | with_reducible refine Val.raw ?_
        | refine Branch.not ?_
        | refine Branch.and ?_
        | refine Branch.or ?_
        | refine Branch.dt (by assumption) ?_
        | refine Branch.df (by assumption) ?_
        | refine Branch.dt rfl ?_
        | refine Branch.dt (by omega) ?_
        | refine Branch.df (by omega) ?_
        | refine Branch.t rfl ?_
        | refine Branch.f rfl ?_
        | refine Branch.t (by assumption) ?_
        | refine Branch.f (by assumption) ?_
        | refine Branch.d (fun _ => ?_) (fun _ => ?_)
        | refine Branch.mk (fun _ => ?_) (fun _ => ?_)
        | refine Need.mk (by first | omega | decide | rfl) ?_
        | refine Idx.nat (by omega) ?_
        | refine Idx.auto (by first | omega | decide) (by first | omega | decide) ?_
        | refine Cell.ro rfl ?_
        | refine SDraw.all (by kernel_rfl) ?_
        | refine Kept.k0 ?_
        | refine Kept.k1 ?_
        | refine Kept.k2 ?_
        | refine Kept.k3 ?_
        | refine Kept.k4 ?_))
    all_goals (conv => whnf)
    exact Keep.all (h1 hnd)
end
end Go.Proofs.Ytkegkhhfbfegoaa

/- Layer 20: a scan finds the least address: the law's loops. -/
set_option linter.unusedVariables false
set_option linter.unusedSimpArgs false
set_option maxRecDepth 100000
set_option maxHeartbeats 4000000
namespace Go.Proofs.Ytkegkhhfbfegoaa
open Sx Ls
def Nd.ad (x : Nd) : Ad := ⟨x.a0, x.a1, x.a2, x.a3⟩
theorem goSl_mem : ∀ (m : Nat) (l : List Nd), ∀ x ∈ goSl m l, x ∈ l ∧ x.good
  | 0, _, x, h => by simp [goSl] at h
  | m + 1, [], x, h => by simp [goSl] at h
  | m + 1, y :: r, x, h => by
    unfold goSl at h
    split at h
    · rename_i hg
      rcases List.mem_cons.1 h with rfl | h
      · exact ⟨.head _, hg⟩
      · obtain ⟨h1, h2⟩ := goSl_mem m r x h
        exact ⟨.tail _ h1, h2⟩
    · obtain ⟨h1, h2⟩ := goSl_mem (m + 1) r x h
      exact ⟨.tail _ h1, h2⟩
theorem goSl_len : ∀ (m : Nat) (l : List Nd), (goSl m l).length ≤ m
  | 0, _ => by simp [goSl]
  | m + 1, [] => by simp [goSl]
  | m + 1, y :: r => by
    unfold goSl
    split
    · have := goSl_len m r
      simp only [List.length_cons]; omega
    · exact goSl_len (m + 1) r
theorem nd_calm {x : Nd} (h : x.Ok) (hg : x.good) : Calm x.l := ⟨Nd.l_ok h hg, rfl, rfl⟩
theorem nd_sim (x : Nd) : Sim x.l x.r := ⟨rfl, rfl, rfl, rfl, rfl, rfl, rfl, rfl⟩
theorem sims_of : ∀ (acc : List Nd) (ms : List PL) (rs : List PR), (∀ x ∈ acc, x.Ok ∧ x.good) → ms.map Prod.snd = acc.map Nd.l → rs.map Prod.snd = acc.map Nd.r → Sims ms rs
  | [], [], [], _, _, _ => .nil
  | x :: acc, y :: ms, z :: rs, h, h1, h2 => by
    rw [List.map_cons, List.map_cons] at h1 h2
    injection h1 with e1 h1
    injection h2 with e2 h2
    refine .cons ?_ ?_ (sims_of acc ms rs (fun x hx => h x (.tail _ hx)) h1 h2)
    · rw [e1, e2]; exact nd_sim x
    · rw [e1]; exact Nd.l_ok (h x (.head _)).1 (h x (.head _)).2
  | [], _ :: _, _, _, h1, _ => by cases h1
  | [], [], _ :: _, _, _, h2 => by cases h2
  | _ :: _, [], _, _, h1, _ => by cases h1
  | _ :: _, _ :: _, [], _, _, h2 => by cases h2
/-- What there is behind Slaves. -/
structure St (acc : List Nd) (ms : List PL) (rs : List PR) : Prop where
  ok : ∀ x ∈ acc, x.Ok ∧ x.good
  hms : ms.map Prod.snd = acc.map Nd.l
  hrs : rs.map Prod.snd = acc.map Nd.r
theorem St.lm {acc : List Nd} {ms : List PL} {rs : List PR} (h : St acc ms rs) : ms.length = acc.length := by have := congrArg List.length h.hms; simpa using this
theorem St.lr {acc : List Nd} {ms : List PL} {rs : List PR} (h : St acc ms rs) : rs.length = acc.length := by have := congrArg List.length h.hrs; simpa using this
theorem St.sims {acc : List Nd} {ms : List PL} {rs : List PR} (h : St acc ms rs) : Sims ms rs := sims_of acc ms rs h.ok h.hms h.hrs
theorem St.calm {acc : List Nd} {ms : List PL} {rs : List PR} (h : St acc ms rs) : ∀ x ∈ ms, Calm x.2 := by
  intro x hx
  have : x.2 ∈ acc.map Nd.l := by rw [← h.hms]; exact List.mem_map_of_mem hx
  obtain ⟨y, hy, e⟩ := List.mem_map.1 this
  rw [← e]; exact nd_calm (h.ok y hy).1 (h.ok y hy).2
theorem St.adm {acc : List Nd} {ms : List PL} {rs : List PR} (h : St acc ms rs) : (ms.map fun x => x.2.ad) = rs.map fun y => y.2.ad := by
  have e1 : (ms.map fun x => x.2.ad) = (ms.map Prod.snd).map L.ad := by rw [List.map_map]; rfl
  have e2 : (rs.map fun x => x.2.ad) = (rs.map Prod.snd).map R.ad := by rw [List.map_map]; rfl
  rw [e1, e2, h.hms, h.hrs, List.map_map, List.map_map]; rfl
theorem St.at {acc : List Nd} {ms : List PL} {rs : List PR} (h : St acc ms rs) {j : Nat} {y : PR} (hy : rs[j]? = some y) : ∃ x n, ms[j]? = some x ∧ acc[j]? = some n ∧ x.2 = n.l ∧ y.2 = n.r := by
  have hlt := (List.getElem?_eq_some_iff.1 hy).1
  rw [h.lr] at hlt
  have hn := List.getElem?_eq_getElem hlt
  generalize acc[j] = n at hn
  have hm := List.getElem?_eq_getElem (by rw [h.lm]; exact hlt : j < ms.length)
  generalize ms[j]'_ = x at hm
  refine ⟨x, n, hm, hn, ?_, ?_⟩
  · have e := congrArg (fun l => l[j]?) h.hms
    simp only [List.getElem?_map, hm, hn, Option.map_some, Option.some.injEq] at e; exact e
  · have e := congrArg (fun l => l[j]?) h.hrs
    simp only [List.getElem?_map, hy, hn, Option.map_some, Option.some.injEq] at e; exact e
section
variable {K : Value → Heap → Prop} {H : Heap}
theorem c8p {sv : Value} {nds : List Nd} (hin : InS Nd.cells 5 sv H nds) (hnd : ∀ x ∈ nds, x.Ok) {most : Nat} (hmost : most ≤ 1000)
    (h : ∀ acc ra ca rb cb (ms : List PL) (rs : List PR), St acc ms rs → acc.length ≤ most → acc.length ≤ ca → ca ≤ maxLen → acc.length ≤ cb → cb ≤ maxLen →
      K (.tuple ⟨[.slice (some ⟨ra, 0, none⟩) acc.length ca, .slice (some ⟨rb, 0, none⟩) acc.length cb]⟩) ((H ++ (pB 42 rb cb (rs.map Prod.fst) :: (rs.map rwR ++ [pB 38 ra ca (ms.map Prod.fst)]))) ++ ms.map rwL)) :
    SCalls Try.prog 8 [sv, .int .i64 (most : Int)] H K := by
  refine SCalls.keep (c8 hin hmost ?_)
  intro ra ca rb cb ms rs h1 h2 h3 h4 h5 h6
  have hst : St (goSl most nds) ms rs := ⟨fun x hx => by
    obtain ⟨g1, g2⟩ := goSl_mem most nds x hx
    exact ⟨hnd x g1, g2⟩, h1, h2⟩
  refine Keep.glue [[pB 38 ra ca (ms.map Prod.fst)], [pB 42 rb cb (rs.map Prod.fst)], rs.map rwR, ms.map rwL, H] [0, 1, 2, 3, 4] [4, 1, 2, 0, 3] [] (by decide) rfl ?_
  have := h _ ra ca rb cb ms rs hst (goSl_len _ _) h3 h4 h5 h6
  simpa [glue, List.append_assoc] using this
/-- The place of the least one, or -1. -/
def LeastIx (rs : List PR) (n : Nat) (t : Int) : Prop :=
  (t = -1 ∧ ∀ j y, j < n → rs[j]? = some y → y.2.id ≠ 0) ∨ ∃ (i : Nat) (z : PR), t = (i : Int) ∧ i < n ∧ rs[i]? = some z ∧ z.2.id = 0 ∧ ∀ j y, j < n → rs[j]? = some y → y.2.id = 0 → z.2.ad.le y.2.ad
inductive S7a (A3 A4 A5 A6 : Value) : List Value → Prop
  | mk {r0 r1 r2 r7 r8 r9 r10 r11 r12 r13 r14 r15 r16 r17 r18 r19 r20 r21 r22 r23 r24 r25 r26 r27 r28 r29 r30 r31 r32 r33 r34 r35 r36 r37 r38 r39 r40 r41 r42 r43 r44 r45 r46 r47 r48 r49 r50 r51 r52 r53 r54 r55 r56 r57 r58 r59 r60 r61 r62 r63 r64 r65 r66 r67 r68 r69 r70 r71 r72 r73 r74 r75 r76 r77 r78 r79 r80 r81 r82 r83 r84 r85 r86 r87 r88 r89 r90 r91 r92 r93 r94 r95 r96 r97 r98 r99 r100 r101 r102 r103 r104 r105 r106 r107 r108 r109 r110 r111 r112 r113 r114 r115 r116 r117 r118 r119 r120 r121 r122 r123 r124 r125 r126 r127 r128 r129 r130 r131 r132 r133 r134 r135 r136 r137 r138 r139 r140 r141 r142 r143 r144 r145 r146 : Value} : S7a A3 A4 A5 A6 [r0, r1, r2, A3, A4, A5, A6, r7, r8, r9, r10, r11, r12, r13, r14, r15, r16, r17, r18, r19, r20, r21, r22, r23, r24, r25, r26, r27, r28, r29, r30, r31, r32, r33, r34, r35, r36, r37, r38, r39, r40, r41, r42, r43, r44, r45, r46, r47, r48, r49, r50, r51, r52, r53, r54, r55, r56, r57, r58, r59, r60, r61, r62, r63, r64, r65, r66, r67, r68, r69, r70, r71, r72, r73, r74, r75, r76, r77, r78, r79, r80, r81, r82, r83, r84, r85, r86, r87, r88, r89, r90, r91, r92, r93, r94, r95, r96, r97, r98, r99, r100, r101, r102, r103, r104, r105, r106, r107, r108, r109, r110, r111, r112, r113, r114, r115, r116, r117, r118, r119, r120, r121, r122, r123, r124, r125, r126, r127, r128, r129, r130, r131, r132, r133, r134, r135, r136, r137, r138, r139, r140, r141, r142, r143, r144, r145, r146]
def I73 (sa svb : Value) (H : Heap) (rs : List PR) (x : Nat × Int) (S : List Value) (H' : Heap) : Prop := x.1 ≤ rs.length ∧ LeastIx rs x.1 x.2 ∧ S7a sa svb (.int .i64 x.2) (.int .i64 (x.1 : Int)) S ∧ H' = H
theorem l73 {Q : Post} {sa svb : Value} {rs : List PR} (hp : PtrS rwR svb H rs) (S : List Value) (hS : S7a sa svb (.int .i64 (-1)) (.int .i64 0) S) (hQ : ∀ S t i, LeastIx rs rs.length t → S7a sa svb (.int .i64 t) i S → Q (.exit 0) S H) : SLoop Try.prog X7_l3 Q S H := by
  obtain ⟨a, c, rfl, hml⟩ := hp.sv
  have hml' : rs.length ≤ 9223372036854775807 := by simp only [maxLen] at hml; omega
  refine SLoop.invA (I73 sa (.slice a rs.length c) H rs) (fun x => rs.length - x.1) (0, -1) (Keep.all ⟨by omega, .inl ⟨rfl, fun j y hj => by omega⟩, hS, rfl⟩) ?_
  rintro ⟨j, t⟩ S H' ⟨hj, ht, hS, rfl⟩ R hR
  dsimp only at hj ht hS hR ⊢
  cases hS
  by_cases hlt : j < rs.length
  · obtain ⟨y, r, o, c', b, hy, e1, hm, hc, hyr⟩ := hp.get hlt
    injection e1 with e1 _ e3
    subst e1
    have keep : ∀ t', (y.2.id ≠ 0 → t' = t) → (y.2.id = 0 → (t = -1 → t' = (j : Int)) ∧ (∀ i z, t = ((i : Nat) : Int) → rs[i]? = some z → (y.2.ad.lt z.2.ad → t' = (j : Int)) ∧ (¬ y.2.ad.lt z.2.ad → t' = t))) → LeastIx rs (j + 1) t' := by
      intro t' h1 h2
      by_cases hid : y.2.id = 0
      · obtain ⟨g1, g2⟩ := h2 hid
        rcases ht with ⟨rfl, h0⟩ | ⟨i, z, rfl, hi, hz, hz0, hmin⟩
        · refine .inr ⟨j, y, g1 rfl, by omega, hy, hid, fun k w hk hw hw0 => ?_⟩
          by_cases hkj : k = j
          · subst hkj; rw [hy] at hw; injection hw with hw; subst hw; exact Ad.le_refl _
          · exact absurd hw0 (h0 k w (by omega) hw)
        · obtain ⟨g3, g4⟩ := g2 i z rfl hz
          by_cases hl : y.2.ad.lt z.2.ad
          · refine .inr ⟨j, y, g3 hl, by omega, hy, hid, fun k w hk hw hw0 => ?_⟩
            by_cases hkj : k = j
            · subst hkj; rw [hy] at hw; injection hw with hw; subst hw; exact Ad.le_refl _
            · refine Ad.le_trans ?_ (hmin k w (by omega) hw hw0)
              unfold Ad.lt at hl; unfold Ad.le; omega
          · refine .inr ⟨i, z, g4 hl, by omega, hz, hz0, fun k w hk hw hw0 => ?_⟩
            by_cases hkj : k = j
            · subst hkj; rw [hy] at hw; injection hw with hw; subst hw
              unfold Ad.lt at hl; unfold Ad.le; omega
            · exact hmin k w (by omega) hw hw0
      · rw [h1 hid]
        rcases ht with ⟨rfl, h0⟩ | ⟨i, z, rfl, hi, hz, hz0, hmin⟩
        · refine .inl ⟨rfl, fun k w hk hw => ?_⟩
          by_cases hkj : k = j
          · subst hkj; rw [hy] at hw; injection hw with hw; subst hw; exact hid
          · exact h0 k w (by omega) hw
        · refine .inr ⟨i, z, rfl, by omega, hz, hz0, fun k w hk hw hw0 => ?_⟩
          by_cases hkj : k = j
          · subst hkj; rw [hy] at hw; injection hw with hw; subst hw; exact absurd hw0 hid
          · exact hmin k w (by omega) hw hw0
    have next : ∀ (t' : Int) (S : List Value), LeastIx rs (j + 1) t' → S7a sa (.slice (some ⟨r, o, none⟩) rs.length c) (.int .i64 t') (.int .i64 ((j + 1 : Nat) : Int)) S → R S H' := fun t' S h1 h2 =>
      hR (j + 1, t') _ _ (by show rs.length - (j + 1) < rs.length - j; omega) (Keep.all ⟨by show j + 1 ≤ rs.length; omega, h1, h2, rfl⟩)
    rcases ht with ⟨rfl, h0⟩ | ⟨i, z, rfl, hi, hz, hz0, hmin⟩
    · repeat' ((conv => whnf); (first
          | refine Look.cell hm hc ?_
          | refine Look.mem hyr (fun _ _ _ => ?_)
          | unfold rwR R.row
          | refine New.mk (fun _ => ?_)
          | refine Look.at0 ?_
          | refine Cell.row ?_
          | refine Cell.buf ?_
          | refine Cells.row rfl ?_
          | refine Put.row rfl ?_
          | refine Put.buf rfl ?_
          | refine Look.at1 ?_
          | refine Look.at2 ?_
          | refine Look.at3 ?_
          | refine Look.at4 ?_
          | refine Look.at5 ?_
          | refine Look.at6 ?_
          | refine Look.at7 ?_
          | refine Look.at8 ?_
          | with_reducible refine Val.i64 (by omega) (by omega) ?_
          | with_reducible refine Val.u8 (by omega) (by omega) ?_
          | with_reducible refine Val.u32 (by omega) (by omega) ?_
          | with_reducible refine Val.u64 (by omega) (by omega) ?_
          | with_reducible refine Val.u8m ?_
          | with_reducible refine Val.u32m ?_
          | with_reducible refine Val.u64m ?_
          | with_reducible refine Val.shr8 ?_
          | with_reducible refine Val.shr16 (by decide) ?_
          | with_reducible refine Val.shr24 (by decide) ?_
          | with_reducible refine Val.raw ?_
          | refine Branch.not ?_
          | refine Branch.and ?_
          | refine Branch.or ?_
          | refine Branch.dt (by assumption) ?_
          | refine Branch.df (by assumption) ?_
          | refine Branch.dt rfl ?_
          | refine Branch.dt (by omega) ?_
          | refine Branch.df (by omega) ?_
          | refine Branch.t rfl ?_
          | refine Branch.f rfl ?_
          | refine Branch.t (by assumption) ?_
          | refine Branch.f (by assumption) ?_
          | refine Branch.d (fun _ => ?_) (fun _ => ?_)
          | refine Branch.mk (fun _ => ?_) (fun _ => ?_)
          | refine Need.mk (by first | omega | decide | rfl) ?_
          | refine Idx.nat (by omega) ?_
          | refine Idx.auto (by first | omega | decide) (by first | omega | decide) ?_
          | refine Cell.ro rfl ?_
          | refine SDraw.all (by kernel_rfl) ?_
          | refine Kept.k0 ?_
          | refine Kept.k1 ?_
          | refine Kept.k2 ?_
          | refine Kept.k3 ?_
          | refine Kept.k4 ?_))
      all_goals (conv => whnf)
      · exact next j _ (keep _ (fun e => absurd (by assumption) e) (fun _ => ⟨fun _ => rfl, fun i z e _ => by omega⟩)) .mk
      · exact next (-1) _ (keep _ (fun _ => rfl) (fun e => absurd e (by assumption))) .mk
    · obtain ⟨z', r2, o2, c2, b2, hz', e12, hm2, hc2, hzr⟩ := hp.get (j := i) (by omega)
      rw [hz] at hz'
      injection hz' with hz'
      subst hz'
      injection e12 with e12 _ e32
      injection e12 with e12
      injection e12 with e4 e5
      subst e4
      subst e5
      repeat' ((conv => whnf); (first
          | refine Look.cell hm hc ?_
          | refine Look.cell hm2 hc2 ?_
          | refine Look.mem hyr (fun _ _ _ => ?_)
          | refine Look.mem hzr (fun _ _ _ => ?_)
          | unfold rwR R.row
          | refine c12 y.2.ad z.2.ad ?_
          | refine New.mk (fun _ => ?_)
          | refine Look.at0 ?_
          | refine Cell.row ?_
          | refine Cell.buf ?_
          | refine Cells.row rfl ?_
          | refine Put.row rfl ?_
          | refine Put.buf rfl ?_
          | refine Look.at1 ?_
          | refine Look.at2 ?_
          | refine Look.at3 ?_
          | refine Look.at4 ?_
          | refine Look.at5 ?_
          | refine Look.at6 ?_
          | refine Look.at7 ?_
          | refine Look.at8 ?_
          | with_reducible refine Val.i64 (by omega) (by omega) ?_
          | with_reducible refine Val.u8 (by omega) (by omega) ?_
          | with_reducible refine Val.u32 (by omega) (by omega) ?_
          | with_reducible refine Val.u64 (by omega) (by omega) ?_
          | with_reducible refine Val.u8m ?_
          | with_reducible refine Val.u32m ?_
          | with_reducible refine Val.u64m ?_
          | with_reducible refine Val.shr8 ?_
          | with_reducible refine Val.shr16 (by decide) ?_
          | with_reducible refine Val.shr24 (by decide) ?_
          | with_reducible refine Val.raw ?_
          | refine Branch.not ?_
          | refine Branch.and ?_
          | refine Branch.or ?_
          | refine Branch.dt (by assumption) ?_
          | refine Branch.df (by assumption) ?_
          | refine Branch.dt rfl ?_
          | refine Branch.dt (by omega) ?_
          | refine Branch.df (by omega) ?_
          | refine Branch.t rfl ?_
          | refine Branch.f rfl ?_
          | refine Branch.t (by assumption) ?_
          | refine Branch.f (by assumption) ?_
          | refine Branch.d (fun _ => ?_) (fun _ => ?_)
          | refine Branch.mk (fun _ => ?_) (fun _ => ?_)
          | refine Need.mk (by first | omega | decide | rfl) ?_
          | refine Idx.nat (by omega) ?_
          | refine Idx.auto (by first | omega | decide) (by first | omega | decide) ?_
          | refine Cell.ro rfl ?_
          | refine SDraw.all (by kernel_rfl) ?_
          | refine Kept.k0 ?_
          | refine Kept.k1 ?_
          | refine Kept.k2 ?_
          | refine Kept.k3 ?_
          | refine Kept.k4 ?_))
      all_goals (conv => whnf)
      all_goals first
        | (refine next j _ (keep _ (fun e => absurd (by assumption) e) (fun _ => ⟨fun _ => rfl, fun i' z' e hz' => ?_⟩)) .mk
           obtain rfl : i = i' := by omega
           rw [hz] at hz'
           injection hz' with hz'
           subst hz'
           exact ⟨fun _ => rfl, fun hn => absurd (by assumption) hn⟩)
        | (refine next i _ (keep _ (fun e => absurd (by assumption) e) (fun _ => ⟨fun e => by omega, fun i' z' e hz' => ?_⟩)) .mk
           obtain rfl : i = i' := by omega
           rw [hz] at hz'
           injection hz' with hz'
           subst hz'
           exact ⟨fun hn => absurd hn (by assumption), fun _ => rfl⟩)
        | exact next i _ (keep _ (fun _ => rfl) (fun e => absurd e (by assumption))) .mk
        | trace_state
  · have e : j = rs.length := by omega
    subst e
    repeat' ((conv => whnf); (first
        | refine New.mk (fun _ => ?_)
        | refine Look.at0 ?_
        | refine Cell.row ?_
        | refine Cell.buf ?_
        | refine Cells.row rfl ?_
        | refine Put.row rfl ?_
        | refine Put.buf rfl ?_
        | refine Look.at1 ?_
        | refine Look.at2 ?_
        | refine Look.at3 ?_
        | refine Look.at4 ?_
        | refine Look.at5 ?_
        | refine Look.at6 ?_
        | refine Look.at7 ?_
        | refine Look.at8 ?_
        | with_reducible refine Val.i64 (by omega) (by omega) ?_
        | with_reducible refine Val.u8 (by omega) (by omega) ?_
        | with_reducible refine Val.u32 (by omega) (by omega) ?_
        | with_reducible refine Val.u64 (by omega) (by omega) ?_
        | with_reducible refine Val.u8m ?_
        | with_reducible refine Val.u32m ?_
        | with_reducible refine Val.u64m ?_
        | with_reducible refine Val.shr8 ?_
        | with_reducible refine Val.shr16 (by decide) ?_
        | with_reducible refine Val.shr24 (by decide) ?_
        | with_reducible refine Val.raw ?_
        | refine Branch.not ?_
        | refine Branch.and ?_
        | refine Branch.or ?_
        | refine Branch.dt (by assumption) ?_
        | refine Branch.df (by assumption) ?_
        | refine Branch.dt rfl ?_
        | refine Branch.dt (by omega) ?_
        | refine Branch.df (by omega) ?_
        | refine Branch.t rfl ?_
        | refine Branch.f rfl ?_
        | refine Branch.t (by assumption) ?_
        | refine Branch.f (by assumption) ?_
        | refine Branch.d (fun _ => ?_) (fun _ => ?_)
        | refine Branch.mk (fun _ => ?_) (fun _ => ?_)
        | refine Need.mk (by first | omega | decide | rfl) ?_
        | refine Idx.nat (by omega) ?_
        | refine Idx.auto (by first | omega | decide) (by first | omega | decide) ?_
        | refine Cell.ro rfl ?_
        | refine SDraw.all (by kernel_rfl) ?_
        | refine Kept.k0 ?_
        | refine Kept.k1 ?_
        | refine Kept.k2 ?_
        | refine Kept.k3 ?_
        | refine Kept.k4 ?_))
    all_goals (conv => whnf)
    exact hQ _ _ _ ht .mk
end
end Go.Proofs.Ytkegkhhfbfegoaa

/- Layer 20: a scan finds the least address: the walk. -/
set_option linter.unusedVariables false
set_option linter.unusedSimpArgs false
set_option maxRecDepth 100000
set_option maxHeartbeats 4000000
namespace Go.Proofs.Ytkegkhhfbfegoaa
open Sx Ls
inductive S7d (A3 A4 A5 A7 A8 A9 A11 A12 : Value) : List Value → Prop
  | mk {r0 r1 r2 r6 r10 r13 r14 r15 r16 r17 r18 r19 r20 r21 r22 r23 r24 r25 r26 r27 r28 r29 r30 r31 r32 r33 r34 r35 r36 r37 r38 r39 r40 r41 r42 r43 r44 r45 r46 r47 r48 r49 r50 r51 r52 r53 r54 r55 r56 r57 r58 r59 r60 r61 r62 r63 r64 r65 r66 r67 r68 r69 r70 r71 r72 r73 r74 r75 r76 r77 r78 r79 r80 r81 r82 r83 r84 r85 r86 r87 r88 r89 r90 r91 r92 r93 r94 r95 r96 r97 r98 r99 r100 r101 r102 r103 r104 r105 r106 r107 r108 r109 r110 r111 r112 r113 r114 r115 r116 r117 r118 r119 r120 r121 r122 r123 r124 r125 r126 r127 r128 r129 r130 r131 r132 r133 r134 r135 r136 r137 r138 r139 r140 r141 r142 r143 r144 r145 r146 : Value} : S7d A3 A4 A5 A7 A8 A9 A11 A12 [r0, r1, r2, A3, A4, A5, r6, A7, A8, A9, r10, A11, A12, r13, r14, r15, r16, r17, r18, r19, r20, r21, r22, r23, r24, r25, r26, r27, r28, r29, r30, r31, r32, r33, r34, r35, r36, r37, r38, r39, r40, r41, r42, r43, r44, r45, r46, r47, r48, r49, r50, r51, r52, r53, r54, r55, r56, r57, r58, r59, r60, r61, r62, r63, r64, r65, r66, r67, r68, r69, r70, r71, r72, r73, r74, r75, r76, r77, r78, r79, r80, r81, r82, r83, r84, r85, r86, r87, r88, r89, r90, r91, r92, r93, r94, r95, r96, r97, r98, r99, r100, r101, r102, r103, r104, r105, r106, r107, r108, r109, r110, r111, r112, r113, r114, r115, r116, r117, r118, r119, r120, r121, r122, r123, r124, r125, r126, r127, r128, r129, r130, r131, r132, r133, r134, r135, r136, r137, r138, r139, r140, r141, r142, r143, r144, r145, r146]
inductive S7e (A3 A4 A5 A7 A8 : Value) : List Value → Prop
  | mk {r0 r1 r2 r6 r9 r10 r11 r12 r13 r14 r15 r16 r17 r18 r19 r20 r21 r22 r23 r24 r25 r26 r27 r28 r29 r30 r31 r32 r33 r34 r35 r36 r37 r38 r39 r40 r41 r42 r43 r44 r45 r46 r47 r48 r49 r50 r51 r52 r53 r54 r55 r56 r57 r58 r59 r60 r61 r62 r63 r64 r65 r66 r67 r68 r69 r70 r71 r72 r73 r74 r75 r76 r77 r78 r79 r80 r81 r82 r83 r84 r85 r86 r87 r88 r89 r90 r91 r92 r93 r94 r95 r96 r97 r98 r99 r100 r101 r102 r103 r104 r105 r106 r107 r108 r109 r110 r111 r112 r113 r114 r115 r116 r117 r118 r119 r120 r121 r122 r123 r124 r125 r126 r127 r128 r129 r130 r131 r132 r133 r134 r135 r136 r137 r138 r139 r140 r141 r142 r143 r144 r145 r146 : Value} : S7e A3 A4 A5 A7 A8 [r0, r1, r2, A3, A4, A5, r6, A7, A8, r9, r10, r11, r12, r13, r14, r15, r16, r17, r18, r19, r20, r21, r22, r23, r24, r25, r26, r27, r28, r29, r30, r31, r32, r33, r34, r35, r36, r37, r38, r39, r40, r41, r42, r43, r44, r45, r46, r47, r48, r49, r50, r51, r52, r53, r54, r55, r56, r57, r58, r59, r60, r61, r62, r63, r64, r65, r66, r67, r68, r69, r70, r71, r72, r73, r74, r75, r76, r77, r78, r79, r80, r81, r82, r83, r84, r85, r86, r87, r88, r89, r90, r91, r92, r93, r94, r95, r96, r97, r98, r99, r100, r101, r102, r103, r104, r105, r106, r107, r108, r109, r110, r111, r112, r113, r114, r115, r116, r117, r118, r119, r120, r121, r122, r123, r124, r125, r126, r127, r128, r129, r130, r131, r132, r133, r134, r135, r136, r137, r138, r139, r140, r141, r142, r143, r144, r145, r146]
inductive S7f (A3 A5 A17 : Value) : List Value → Prop
  | mk {r0 r1 r2 r4 r6 r7 r8 r9 r10 r11 r12 r13 r14 r15 r16 r18 r19 r20 r21 r22 r23 r24 r25 r26 r27 r28 r29 r30 r31 r32 r33 r34 r35 r36 r37 r38 r39 r40 r41 r42 r43 r44 r45 r46 r47 r48 r49 r50 r51 r52 r53 r54 r55 r56 r57 r58 r59 r60 r61 r62 r63 r64 r65 r66 r67 r68 r69 r70 r71 r72 r73 r74 r75 r76 r77 r78 r79 r80 r81 r82 r83 r84 r85 r86 r87 r88 r89 r90 r91 r92 r93 r94 r95 r96 r97 r98 r99 r100 r101 r102 r103 r104 r105 r106 r107 r108 r109 r110 r111 r112 r113 r114 r115 r116 r117 r118 r119 r120 r121 r122 r123 r124 r125 r126 r127 r128 r129 r130 r131 r132 r133 r134 r135 r136 r137 r138 r139 r140 r141 r142 r143 r144 r145 r146 : Value} : S7f A3 A5 A17 [r0, r1, r2, A3, r4, A5, r6, r7, r8, r9, r10, r11, r12, r13, r14, r15, r16, A17, r18, r19, r20, r21, r22, r23, r24, r25, r26, r27, r28, r29, r30, r31, r32, r33, r34, r35, r36, r37, r38, r39, r40, r41, r42, r43, r44, r45, r46, r47, r48, r49, r50, r51, r52, r53, r54, r55, r56, r57, r58, r59, r60, r61, r62, r63, r64, r65, r66, r67, r68, r69, r70, r71, r72, r73, r74, r75, r76, r77, r78, r79, r80, r81, r82, r83, r84, r85, r86, r87, r88, r89, r90, r91, r92, r93, r94, r95, r96, r97, r98, r99, r100, r101, r102, r103, r104, r105, r106, r107, r108, r109, r110, r111, r112, r113, r114, r115, r116, r117, r118, r119, r120, r121, r122, r123, r124, r125, r126, r127, r128, r129, r130, r131, r132, r133, r134, r135, r136, r137, r138, r139, r140, r141, r142, r143, r144, r145, r146]
section
variable {K : Value → Heap → Prop} {H : Heap}
def I71 (a : Option Addr) (cap : Nat) (svb t sp n : Value) (p9 : Nat) (q : Q) (G : Heap) (ms : List PL) (gs : Nat) (B : Blk) (j : Nat) (S : List Value) (H : Heap) : Prop :=
  j ≤ ms.length ∧ S7d (.slice a ms.length cap) svb t sp n (ptr p9) (.bool ((ms.take j).any (anL q))) (.int .i64 (j : Int)) S ∧ H = (p9, qrow q) :: (gs, B) :: (G ++ (updTo (tkL q) j ms).map rwL)
theorem l71 {Qp : Post} {G : Heap} {ra cap p9 gs N : Nat} {B : Blk} {q : Q} {ms : List PL} {svb t sp n : Value} (hG : (ra, .buf 38 (ptrs (ms.map Prod.fst)) N) ∈ G) (hlen : ms.length ≤ 1000) (hok : ∀ x ∈ ms, x.2.Ok) (hq : q.Ok) (h23 : q.q0 ≠ 23) (S : List Value)
    (hS : S7d (.slice (some ⟨ra, 0, none⟩) ms.length cap) svb t sp n (ptr p9) (.bool false) (.int .i64 0) S)
    (hQ : ∀ S, S7d (.slice (some ⟨ra, 0, none⟩) ms.length cap) svb t sp n (ptr p9) (.bool (ms.any (anL q))) (.int .i64 (ms.length : Int)) S → Qp (.exit 4) S ((p9, qrow q) :: (gs, B) :: (G ++ (ms.map (tkL q)).map rwL))) :
    SLoop Try.prog X7_l1 Qp S ((p9, qrow q) :: (gs, B) :: (G ++ ms.map rwL)) := by
  refine SLoop.invA (I71 (some ⟨ra, 0, none⟩) cap svb t sp n p9 q G ms gs B) (fun j => ms.length - j) 0 (Keep.all ⟨by omega, hS, by rw [updTo_zero]⟩) ?_
  rintro j S H' ⟨hj, hS, rfl⟩ R hR
  cases hS
  by_cases hlt : j < ms.length
  · obtain ⟨x, hx⟩ : ∃ x, ms[j]? = some x := ⟨_, List.getElem?_eq_getElem hlt⟩
    have hp : (ms.map Prod.fst)[j]? = some x.1 := by rw [List.getElem?_map, hx]; rfl
    have hcp : (Blk.buf 38 (ptrs (ms.map Prod.fst)) N).cell (0 + j * 1) = some (ptr x.1) := by
      show (ptrs (ms.map Prod.fst))[0 + j * 1]? = _
      simp [ptrs, hx]
    have hxo := hok x (List.mem_of_getElem? hx)
    have hs := any_succ (p := anL q) hx
    obtain ⟨xa, xl⟩ := x
    obtain ⟨an, l', he⟩ : ∃ an l', xl.take q = (an, l') := ⟨_, _, rfl⟩
    have e1 : anL q (xa, xl) = an.is := by unfold anL; rw [he]
    have e2 : tkL q (xa, xl) = (xa, l') := by unfold tkL; rw [he]
    have e3 := updTo_set (f := tkL q) hx
    rw [e2] at e3
    rw [e1] at hs
    have hcall := fun (K : Value → Heap → Prop) A hk => SCalls.elem (K := K) (rw := rwL) (x' := (xa, l')) (f := 25) (args := [.pointer (some ⟨xa, 0, none⟩), q.val]) (v := an.val) (updTo_nth (f := tkL q) hx) (fun K hk => Ls.c8e xl hxo q hq none he (fun z => h23 z.1) hk) A hk
    rw [e3] at hcall
    unfold Q.val at hcall
    have next : ∀ (S : List Value) (b0 : Nat × Blk), S7d (.slice (some ⟨ra, 0, none⟩) ms.length cap) svb t sp n (ptr p9) (.bool ((ms.take (j + 1)).any (anL q))) (.int .i64 ((j + 1 : Nat) : Int)) S → R S (b0 :: (p9, qrow q) :: (gs, B) :: (G ++ (updTo (tkL q) (j + 1) ms).map rwL)) := fun S b0 h1 =>
      hR (j + 1) _ _ (by omega) (Keep.d1 ⟨by omega, h1, rfl⟩)
    rw [hs] at next
    have mem : ∀ (X : Heap), (ra, Blk.buf 38 (ptrs (ms.map Prod.fst)) N) ∈ (p9, qrow q) :: (gs, B) :: (G ++ X) := fun X => .tail _ (.tail _ (List.mem_append_left _ hG))
    clear hQ hR
    repeat' ((conv => whnf); (first
        | refine SDraw.held (by kernel_rfl) [(p9, qrow q), (ra, Blk.buf 38 (ptrs (ms.map Prod.fst)) N)] (.same (.head _) (.same (mem _) .nil)) ?_
        | refine Look.cell (.tail _ (.head _)) hcp ?_
        | refine hcall _ (_ :: _ :: G) ?_
        | refine hcall _ (_ :: _ :: _ :: G) ?_
        | refine And.intro ?_ ?_
        | refine Kept.mk (.same (.head _) (.same (mem _) .nil)) ?_
        | refine Kept.mk (.same (.tail _ (.head _)) (.same (.tail _ (mem _)) .nil)) ?_
        | refine New.mk (fun _ => ?_)
        | refine Look.at0 ?_
        | refine Cell.row ?_
        | refine Cell.buf ?_
        | refine Cells.row rfl ?_
        | refine Put.row rfl ?_
        | refine Put.buf rfl ?_
        | refine Look.at1 ?_
        | refine Look.at2 ?_
        | refine Look.at3 ?_
        | refine Look.at4 ?_
        | refine Look.at5 ?_
        | refine Look.at6 ?_
        | refine Look.at7 ?_
        | refine Look.at8 ?_
        | with_reducible refine Val.i64 (by omega) (by omega) ?_
        | with_reducible refine Val.u8 (by omega) (by omega) ?_
        | with_reducible refine Val.u32 (by omega) (by omega) ?_
        | with_reducible refine Val.u64 (by omega) (by omega) ?_
        | with_reducible refine Val.u8m ?_
        | with_reducible refine Val.u32m ?_
        | with_reducible refine Val.u64m ?_
        | with_reducible refine Val.shr8 ?_
        | with_reducible refine Val.shr16 (by decide) ?_
        | with_reducible refine Val.shr24 (by decide) ?_
        | with_reducible refine Val.raw ?_
        | refine Branch.not ?_
        | refine Branch.and ?_
        | refine Branch.or ?_
        | refine Branch.dt (by assumption) ?_
        | refine Branch.df (by assumption) ?_
        | refine Branch.dt rfl ?_
        | refine Branch.dt (by omega) ?_
        | refine Branch.df (by omega) ?_
        | refine Branch.t rfl ?_
        | refine Branch.f rfl ?_
        | refine Branch.t (by assumption) ?_
        | refine Branch.f (by assumption) ?_
        | refine Branch.d (fun _ => ?_) (fun _ => ?_)
        | refine Branch.mk (fun _ => ?_) (fun _ => ?_)
        | refine Need.mk (by first | omega | decide | rfl) ?_
        | refine Idx.nat (by omega) ?_
        | refine Idx.auto (by first | omega | decide) (by first | omega | decide) ?_
        | refine Cell.ro rfl ?_
        | refine SDraw.all (by kernel_rfl) ?_
        | refine Kept.k0 ?_
        | refine Kept.k1 ?_
        | refine Kept.k2 ?_
        | refine Kept.k3 ?_
        | refine Kept.k4 ?_))
    all_goals (conv => whnf)
    all_goals first
      | (rw [‹List.any _ _ = true›] at next; exact next _ _ .mk)
      | (rw [‹List.any _ _ = false›] at next; exact next _ _ .mk)
      | trace_state
  · have e : j = ms.length := by omega
    subst e
    rw [List.take_length, updTo_all (Nat.le_refl _)]
    repeat' ((conv => whnf); (first
        | refine New.mk (fun _ => ?_)
        | refine Look.at0 ?_
        | refine Cell.row ?_
        | refine Cell.buf ?_
        | refine Cells.row rfl ?_
        | refine Put.row rfl ?_
        | refine Put.buf rfl ?_
        | refine Look.at1 ?_
        | refine Look.at2 ?_
        | refine Look.at3 ?_
        | refine Look.at4 ?_
        | refine Look.at5 ?_
        | refine Look.at6 ?_
        | refine Look.at7 ?_
        | refine Look.at8 ?_
        | with_reducible refine Val.i64 (by omega) (by omega) ?_
        | with_reducible refine Val.u8 (by omega) (by omega) ?_
        | with_reducible refine Val.u32 (by omega) (by omega) ?_
        | with_reducible refine Val.u64 (by omega) (by omega) ?_
        | with_reducible refine Val.u8m ?_
        | with_reducible refine Val.u32m ?_
        | with_reducible refine Val.u64m ?_
        | with_reducible refine Val.shr8 ?_
        | with_reducible refine Val.shr16 (by decide) ?_
        | with_reducible refine Val.shr24 (by decide) ?_
        | with_reducible refine Val.raw ?_
        | refine Branch.not ?_
        | refine Branch.and ?_
        | refine Branch.or ?_
        | refine Branch.dt (by assumption) ?_
        | refine Branch.df (by assumption) ?_
        | refine Branch.dt rfl ?_
        | refine Branch.dt (by omega) ?_
        | refine Branch.df (by omega) ?_
        | refine Branch.t rfl ?_
        | refine Branch.f rfl ?_
        | refine Branch.t (by assumption) ?_
        | refine Branch.f (by assumption) ?_
        | refine Branch.d (fun _ => ?_) (fun _ => ?_)
        | refine Branch.mk (fun _ => ?_) (fun _ => ?_)
        | refine Need.mk (by first | omega | decide | rfl) ?_
        | refine Idx.nat (by omega) ?_
        | refine Idx.auto (by first | omega | decide) (by first | omega | decide) ?_
        | refine Cell.ro rfl ?_
        | refine SDraw.all (by kernel_rfl) ?_
        | refine Kept.k0 ?_
        | refine Kept.k1 ?_
        | refine Kept.k2 ?_
        | refine Kept.k3 ?_
        | refine Kept.k4 ?_))
    all_goals (conv => whnf)
    exact hQ _ .mk
def I72 (ra cap : Nat) (svb t : Value) (G : Heap) (ad : List Nat) (T : Sc × List PL) (gs : Nat) (x : Nat × Sc × List PL) (S : List Value) (H : Heap) : Prop :=
  x.2.1.Ok ∧ x.2.1.took = (x.1 : Int) ∧ x.2.2.map Prod.fst = ad ∧ (∀ y ∈ x.2.2, y.2.Ok) ∧ runL (134 - x.1) x.2.1 x.2.2 = T ∧
    S7e (.slice (some ⟨ra, 0, none⟩) x.2.2.length cap) svb t (ptr gs) (.int .i64 (x.1 : Int)) S ∧ H = (gs, x.2.1.row) :: (G ++ x.2.2.map rwL)
theorem l72 {Qp : Post} {G : Heap} {ra cap gs N : Nat} {ms : List PL} {svb t : Value} (hG : (ra, .buf 38 (ptrs (ms.map Prod.fst)) N) ∈ G) (hlen : ms.length ≤ 1000) (hok : ∀ x ∈ ms, x.2.Ok) (S : List Value)
    (hS : S7e (.slice (some ⟨ra, 0, none⟩) ms.length cap) svb t (ptr gs) (.int .i64 0) S)
    (hQ : ∀ S n, S7e (.slice (some ⟨ra, 0, none⟩) ms.length cap) svb t (ptr gs) n S → Qp (.exit 2) S ((gs, (scanL ms).1.row) :: (G ++ (scanL ms).2.map rwL))) :
    SLoop Try.prog X7_l2 Qp S ((gs, Sc.new.row) :: (G ++ ms.map rwL)) := by
  refine SLoop.invA (I72 ra cap svb t G (ms.map Prod.fst) (scanL ms) gs) (fun x => 134 - x.1) (0, Sc.new, ms) (Keep.all ⟨Sc.Ok.new, rfl, rfl, hok, rfl, hS, rfl⟩) ?_
  rintro ⟨n, s, ms'⟩ S H' ⟨hs, htk, hfst, hok', hrun, hS, rfl⟩ R hR
  dsimp only at hs htk hfst hok' hrun hS hR ⊢
  have hlm : ms'.length = ms.length := by have := congrArg List.length hfst; simpa using this
  have hn : n ≤ 133 := by have := hs.tk; omega
  obtain ⟨k, hk⟩ : ∃ k, 134 - n = k + 1 := ⟨133 - n, by omega⟩
  have hG' : (ra, .buf 38 (ptrs (ms'.map Prod.fst)) N) ∈ G := by rw [hfst]; exact hG
  cases hS
  by_cases h3 : s.ph = 3
  · rw [hk, runL, if_pos h3] at hrun
    rw [← hrun, ← hlm] at hQ
    repeat' ((conv => whnf); (first
        | refine SCalls.at0 (c23 ?_)
        | refine New.mk (fun _ => ?_)
        | refine Look.at0 ?_
        | refine Cell.row ?_
        | refine Cell.buf ?_
        | refine Cells.row rfl ?_
        | refine Put.row rfl ?_
        | refine Put.buf rfl ?_
        | refine Look.at1 ?_
        | refine Look.at2 ?_
        | refine Look.at3 ?_
        | refine Look.at4 ?_
        | refine Look.at5 ?_
        | refine Look.at6 ?_
        | refine Look.at7 ?_
        | refine Look.at8 ?_
        | with_reducible refine Val.i64 (by omega) (by omega) ?_
        | with_reducible refine Val.u8 (by omega) (by omega) ?_
        | with_reducible refine Val.u32 (by omega) (by omega) ?_
        | with_reducible refine Val.u64 (by omega) (by omega) ?_
        | with_reducible refine Val.u8m ?_
        | with_reducible refine Val.u32m ?_
        | with_reducible refine Val.u64m ?_
        | with_reducible refine Val.shr8 ?_
        | with_reducible refine Val.shr16 (by decide) ?_
        | with_reducible refine Val.shr24 (by decide) ?_
        | with_reducible refine Val.raw ?_
        | refine Branch.not ?_
        | refine Branch.and ?_
        | refine Branch.or ?_
        | refine Branch.dt (by assumption) ?_
        | refine Branch.df (by assumption) ?_
        | refine Branch.dt rfl ?_
        | refine Branch.dt (by omega) ?_
        | refine Branch.df (by omega) ?_
        | refine Branch.t rfl ?_
        | refine Branch.f rfl ?_
        | refine Branch.t (by assumption) ?_
        | refine Branch.f (by assumption) ?_
        | refine Branch.d (fun _ => ?_) (fun _ => ?_)
        | refine Branch.mk (fun _ => ?_) (fun _ => ?_)
        | refine Need.mk (by first | omega | decide | rfl) ?_
        | refine Idx.nat (by omega) ?_
        | refine Idx.auto (by first | omega | decide) (by first | omega | decide) ?_
        | refine Cell.ro rfl ?_
        | refine SDraw.all (by kernel_rfl) ?_
        | refine Kept.k0 ?_
        | refine Kept.k1 ?_
        | refine Kept.k2 ?_
        | refine Kept.k3 ?_
        | refine Kept.k4 ?_))
    all_goals (conv => whnf)
    exact hQ _ _ .mk
  · rw [hk, runL, if_neg h3] at hrun
    obtain ⟨hq, hq0⟩ := hs.q_ok h3
    have hs1 : (askd s).Ok := hs.ask h3
    have htk2 := took_step h3 (ms'.any (anL s.q))
    have hs2 : (stepL s ms').1.Ok := hs1.ans _
    have hn2 : n + 1 ≤ 133 := by
      have := hs2.tk
      have e : (stepL s ms').1.took = s.took + 1 := htk2
      omega
    have hk2 : k = 134 - (n + 1) := by omega
    rw [hk2] at hrun
    have next : ∀ (S : List Value) (b0 : Nat × Blk), S7e (.slice (some ⟨ra, 0, none⟩) ms'.length cap) svb t (ptr gs) (.int .i64 ((n + 1 : Nat) : Int)) S → R S (b0 :: (gs, (stepL s ms').1.row) :: (G ++ (stepL s ms').2.map rwL)) := fun S b0 h1 => by
      refine hR (n + 1, (stepL s ms').1, (stepL s ms').2) _ _ (by show 134 - (n + 1) < 134 - n; omega) (Keep.d1 ⟨hs2, ?_, ?_, tkL_ok hq hok', hrun, ?_, rfl⟩)
      · show (stepL s ms').1.took = _
        rw [show (stepL s ms').1.took = s.took + 1 from htk2, htk]; rfl
      · exact (tkL_fst _ _).trans hfst
      · show S7e (.slice _ (ms'.map (tkL s.q)).length cap) _ _ _ _ _
        rw [List.length_map]; exact h1
    clear hQ hR
    repeat' ((conv => whnf); (first
        | refine SCalls.at0 (c23 ?_)
        | refine SCalls.at0 (c20 hs (fun g3 => absurd g3 h3) (fun g3 => ?_))
        | refine l71 hG' (by omega) hok' hq (by omega) _ .mk (fun S hS => ?_)
        | refine Branch.t (by rw [decide_eq_false h3]; rfl) ?_
        | refine New.mk (fun _ => ?_)
        | refine Look.at0 ?_
        | refine Cell.row ?_
        | refine Cell.buf ?_
        | refine Cells.row rfl ?_
        | refine Put.row rfl ?_
        | refine Put.buf rfl ?_
        | refine Look.at1 ?_
        | refine Look.at2 ?_
        | refine Look.at3 ?_
        | refine Look.at4 ?_
        | refine Look.at5 ?_
        | refine Look.at6 ?_
        | refine Look.at7 ?_
        | refine Look.at8 ?_
        | with_reducible refine Val.i64 (by omega) (by omega) ?_
        | with_reducible refine Val.u8 (by omega) (by omega) ?_
        | with_reducible refine Val.u32 (by omega) (by omega) ?_
        | with_reducible refine Val.u64 (by omega) (by omega) ?_
        | with_reducible refine Val.u8m ?_
        | with_reducible refine Val.u32m ?_
        | with_reducible refine Val.u64m ?_
        | with_reducible refine Val.shr8 ?_
        | with_reducible refine Val.shr16 (by decide) ?_
        | with_reducible refine Val.shr24 (by decide) ?_
        | with_reducible refine Val.raw ?_
        | refine Branch.not ?_
        | refine Branch.and ?_
        | refine Branch.or ?_
        | refine Branch.dt (by assumption) ?_
        | refine Branch.df (by assumption) ?_
        | refine Branch.dt rfl ?_
        | refine Branch.dt (by omega) ?_
        | refine Branch.df (by omega) ?_
        | refine Branch.t rfl ?_
        | refine Branch.f rfl ?_
        | refine Branch.t (by assumption) ?_
        | refine Branch.f (by assumption) ?_
        | refine Branch.d (fun _ => ?_) (fun _ => ?_)
        | refine Branch.mk (fun _ => ?_) (fun _ => ?_)
        | refine Need.mk (by first | omega | decide | rfl) ?_
        | refine Idx.nat (by omega) ?_
        | refine Idx.auto (by first | omega | decide) (by first | omega | decide) ?_
        | refine Cell.ro rfl ?_
        | refine SDraw.all (by kernel_rfl) ?_
        | refine Kept.k0 ?_
        | refine Kept.k1 ?_
        | refine Kept.k2 ?_
        | refine Kept.k3 ?_
        | refine Kept.k4 ?_))
    cases hS
    repeat' ((conv => whnf); (first
        | refine SCalls.at1 (c18 hs1 _ ?_)
        | refine New.mk (fun _ => ?_)
        | refine Look.at0 ?_
        | refine Cell.row ?_
        | refine Cell.buf ?_
        | refine Cells.row rfl ?_
        | refine Put.row rfl ?_
        | refine Put.buf rfl ?_
        | refine Look.at1 ?_
        | refine Look.at2 ?_
        | refine Look.at3 ?_
        | refine Look.at4 ?_
        | refine Look.at5 ?_
        | refine Look.at6 ?_
        | refine Look.at7 ?_
        | refine Look.at8 ?_
        | with_reducible refine Val.i64 (by omega) (by omega) ?_
        | with_reducible refine Val.u8 (by omega) (by omega) ?_
        | with_reducible refine Val.u32 (by omega) (by omega) ?_
        | with_reducible refine Val.u64 (by omega) (by omega) ?_
        | with_reducible refine Val.u8m ?_
        | with_reducible refine Val.u32m ?_
        | with_reducible refine Val.u64m ?_
        | with_reducible refine Val.shr8 ?_
        | with_reducible refine Val.shr16 (by decide) ?_
        | with_reducible refine Val.shr24 (by decide) ?_
        | with_reducible refine Val.raw ?_
        | refine Branch.not ?_
        | refine Branch.and ?_
        | refine Branch.or ?_
        | refine Branch.dt (by assumption) ?_
        | refine Branch.df (by assumption) ?_
        | refine Branch.dt rfl ?_
        | refine Branch.dt (by omega) ?_
        | refine Branch.df (by omega) ?_
        | refine Branch.t rfl ?_
        | refine Branch.f rfl ?_
        | refine Branch.t (by assumption) ?_
        | refine Branch.f (by assumption) ?_
        | refine Branch.d (fun _ => ?_) (fun _ => ?_)
        | refine Branch.mk (fun _ => ?_) (fun _ => ?_)
        | refine Need.mk (by first | omega | decide | rfl) ?_
        | refine Idx.nat (by omega) ?_
        | refine Idx.auto (by first | omega | decide) (by first | omega | decide) ?_
        | refine Cell.ro rfl ?_
        | refine SDraw.all (by kernel_rfl) ?_
        | refine Kept.k0 ?_
        | refine Kept.k1 ?_
        | refine Kept.k2 ?_
        | refine Kept.k3 ?_
        | refine Kept.k4 ?_))
    all_goals (conv => whnf)
    exact next _ _ .mk
def I70 (sva t : Value) (H : Heap) (n : Nat) (j : Nat) (S : List Value) (H' : Heap) : Prop := j ≤ n ∧ S7f sva t (.int .i64 (j : Int)) S ∧ H' = H
theorem l70 {Qp : Post} {sva : Value} {ms : List PL} {t : Int} (hp : PtrS rwL sva H ms) (hm : ∀ (j : Nat) x, ms[j]? = some x → (x.2.mode = 1 ↔ (j : Int) = t)) (S : List Value) (hS : S7f sva (.int .i64 t) (.int .i64 0) S)
    (hQ : ∀ S, S7f sva (.int .i64 t) (.int .i64 (ms.length : Int)) S → Qp (.exit 6) S H) : SLoop Try.prog X7_l0 Qp S H := by
  obtain ⟨a, c, rfl, hml⟩ := hp.sv
  have hml' : ms.length ≤ 9223372036854775807 := by simp only [maxLen] at hml; omega
  refine SLoop.invA (I70 (.slice a ms.length c) (.int .i64 t) H ms.length) (fun j => ms.length - j) 0 (Keep.all ⟨by omega, hS, rfl⟩) ?_
  rintro j S H' ⟨hj, hS, rfl⟩ R hR
  cases hS
  by_cases hlt : j < ms.length
  · obtain ⟨x, r, o, c', b, hx, e1, hmm, hc, hxr⟩ := hp.get hlt
    injection e1 with e1 _ e3
    subst e1
    have hcall : ∀ K : Value → Heap → Prop, K (.int .i64 x.2.mode) H' → SCalls Try.prog 26 [ptr x.1] H' K := fun K hk => SCalls.seen1 hxr (fun K hk => Ls.c10g x.2 none hk) hk
    have hmx := hm j x hx
    repeat' ((conv => whnf); (first
        | refine Look.cell hmm hc ?_
        | refine hcall _ ?_
        | refine Branch.f (by rw [decide_eq_decide.2 hmx, beq_self_eq_true]; rfl) ?_
        | refine New.mk (fun _ => ?_)
        | refine Look.at0 ?_
        | refine Cell.row ?_
        | refine Cell.buf ?_
        | refine Cells.row rfl ?_
        | refine Put.row rfl ?_
        | refine Put.buf rfl ?_
        | refine Look.at1 ?_
        | refine Look.at2 ?_
        | refine Look.at3 ?_
        | refine Look.at4 ?_
        | refine Look.at5 ?_
        | refine Look.at6 ?_
        | refine Look.at7 ?_
        | refine Look.at8 ?_
        | with_reducible refine Val.i64 (by omega) (by omega) ?_
        | with_reducible refine Val.u8 (by omega) (by omega) ?_
        | with_reducible refine Val.u32 (by omega) (by omega) ?_
        | with_reducible refine Val.u64 (by omega) (by omega) ?_
        | with_reducible refine Val.u8m ?_
        | with_reducible refine Val.u32m ?_
        | with_reducible refine Val.u64m ?_
        | with_reducible refine Val.shr8 ?_
        | with_reducible refine Val.shr16 (by decide) ?_
        | with_reducible refine Val.shr24 (by decide) ?_
        | with_reducible refine Val.raw ?_
        | refine Branch.not ?_
        | refine Branch.and ?_
        | refine Branch.or ?_
        | refine Branch.dt (by assumption) ?_
        | refine Branch.df (by assumption) ?_
        | refine Branch.dt rfl ?_
        | refine Branch.dt (by omega) ?_
        | refine Branch.df (by omega) ?_
        | refine Branch.t rfl ?_
        | refine Branch.f rfl ?_
        | refine Branch.t (by assumption) ?_
        | refine Branch.f (by assumption) ?_
        | refine Branch.d (fun _ => ?_) (fun _ => ?_)
        | refine Branch.mk (fun _ => ?_) (fun _ => ?_)
        | refine Need.mk (by first | omega | decide | rfl) ?_
        | refine Idx.nat (by omega) ?_
        | refine Idx.auto (by first | omega | decide) (by first | omega | decide) ?_
        | refine Cell.ro rfl ?_
        | refine SDraw.all (by kernel_rfl) ?_
        | refine Kept.k0 ?_
        | refine Kept.k1 ?_
        | refine Kept.k2 ?_
        | refine Kept.k3 ?_
        | refine Kept.k4 ?_))
    all_goals (conv => whnf)
    exact hR (j + 1) _ _ (by omega) (Keep.all ⟨by omega, .mk, rfl⟩)
  · have e : j = ms.length := by omega
    subst e
    repeat' ((conv => whnf); (first
        | refine New.mk (fun _ => ?_)
        | refine Look.at0 ?_
        | refine Cell.row ?_
        | refine Cell.buf ?_
        | refine Cells.row rfl ?_
        | refine Put.row rfl ?_
        | refine Put.buf rfl ?_
        | refine Look.at1 ?_
        | refine Look.at2 ?_
        | refine Look.at3 ?_
        | refine Look.at4 ?_
        | refine Look.at5 ?_
        | refine Look.at6 ?_
        | refine Look.at7 ?_
        | refine Look.at8 ?_
        | with_reducible refine Val.i64 (by omega) (by omega) ?_
        | with_reducible refine Val.u8 (by omega) (by omega) ?_
        | with_reducible refine Val.u32 (by omega) (by omega) ?_
        | with_reducible refine Val.u64 (by omega) (by omega) ?_
        | with_reducible refine Val.u8m ?_
        | with_reducible refine Val.u32m ?_
        | with_reducible refine Val.u64m ?_
        | with_reducible refine Val.shr8 ?_
        | with_reducible refine Val.shr16 (by decide) ?_
        | with_reducible refine Val.shr24 (by decide) ?_
        | with_reducible refine Val.raw ?_
        | refine Branch.not ?_
        | refine Branch.and ?_
        | refine Branch.or ?_
        | refine Branch.dt (by assumption) ?_
        | refine Branch.df (by assumption) ?_
        | refine Branch.dt rfl ?_
        | refine Branch.dt (by omega) ?_
        | refine Branch.df (by omega) ?_
        | refine Branch.t rfl ?_
        | refine Branch.f rfl ?_
        | refine Branch.t (by assumption) ?_
        | refine Branch.f (by assumption) ?_
        | refine Branch.d (fun _ => ?_) (fun _ => ?_)
        | refine Branch.mk (fun _ => ?_) (fun _ => ?_)
        | refine Need.mk (by first | omega | decide | rfl) ?_
        | refine Idx.nat (by omega) ?_
        | refine Idx.auto (by first | omega | decide) (by first | omega | decide) ?_
        | refine Cell.ro rfl ?_
        | refine SDraw.all (by kernel_rfl) ?_
        | refine Kept.k0 ?_
        | refine Kept.k1 ?_
        | refine Kept.k2 ?_
        | refine Kept.k3 ?_
        | refine Kept.k4 ?_))
    all_goals (conv => whnf)
    exact hQ _ .mk
end
end Go.Proofs.Ytkegkhhfbfegoaa

/- Input slices: from what the row tells of one to what a walk knows of it. -/
set_option linter.unusedVariables false
set_option linter.unusedSimpArgs false
namespace Go.Proofs.Ytkegkhhfbfegoaa
open Sx
theorem inS_of {α : Type} {f : α → List Value} {k B : Nat} {R : World → List Value → Prop} {Good : α → Prop} {w : World} {a : Option Addr} {n c : Nat} (h : SliceAt k B R w a n c) (hk0 : 0 < k) (hk : ∀ x, (f x).length = k) (hR : ∀ cs, R w cs → ∃ x, cs = f x ∧ Good x) :
    ∃ H L, L.length = n ∧ InS f k (.slice a L.length c) H L ∧ (∀ x ∈ L, Good x) ∧ Holds w H ∧ ∀ p ∈ H, p.2.excl = false := by
  have hml : n ≤ maxLen := Nat.le_trans h.1 h.2.1
  by_cases hl : 0 < n
  · obtain ⟨b, o, rfl, hb, hc⟩ := h.plain hk0 hl
    obtain ⟨L, h1, h2⟩ := list_of (P := fun j (m : α) => Good m ∧ ∀ i v, (f m)[i]? = some v → w.cell? ⟨b, o + j * k + i, none⟩ = some v) n fun j hj => by
      obtain ⟨cs, hlc, hcell, hr⟩ := hc j hj
      obtain ⟨x, rfl, hg⟩ := hR cs hr
      refine ⟨x, hg, fun i v hi => ?_⟩
      have hik : i < k := by rw [← hk x]; exact (List.getElem?_eq_some_iff.1 hi).1
      exact (hcell i hik).trans hi
    refine ⟨[(b, .ro fun j => w.cell? ⟨b, j, none⟩)], L, h1, ⟨_, c, rfl, by omega, .inr ⟨b, o, _, rfl, .head _, fun j x i v hj hv hi => (h2 j x hj).2 i v hv⟩⟩, fun x hx => ?_, ⟨fun p hp => ?_, List.pairwise_singleton _ _⟩, fun p hp => ?_⟩
    · obtain ⟨j, hlt, rfl⟩ := List.getElem_of_mem hx
      exact (h2 j _ (List.getElem?_eq_getElem hlt)).1
    · obtain rfl := List.mem_singleton.1 hp
      exact ⟨hb, fun _ _ h => h⟩
    · obtain rfl := List.mem_singleton.1 hp
      rfl
  · obtain rfl : n = 0 := by omega
    exact ⟨[], [], rfl, ⟨a, c, rfl, by simp, .inl rfl⟩, fun x hx => (by cases hx), Holds.empty w, fun p hp => by cases hp⟩
/-- Two inputs, side by side. -/
theorem Holds.join {w : World} {H G : Heap} (h1 : Holds w H) (h2 : Holds w G) (x1 : ∀ p ∈ H, p.2.excl = false) (x2 : ∀ p ∈ G, p.2.excl = false) : Holds w (H ++ G) := by
  refine ⟨fun p hp => ?_, List.pairwise_append.2 ⟨h1.sep, h2.sep, fun p hp q hq hx => ?_⟩⟩
  · rcases List.mem_append.1 hp with hp | hp
    · exact h1.at_ p hp
    · exact h2.at_ p hp
  · rw [x1 p hp, x2 q hq] at hx
    rcases hx with hx | hx <;> cases hx
theorem excl_join {H G : Heap} (x1 : ∀ p ∈ H, p.2.excl = false) (x2 : ∀ p ∈ G, p.2.excl = false) : ∀ p ∈ H ++ G, p.2.excl = false := fun p hp => by
  rcases List.mem_append.1 hp with hp | hp
  · exact x1 p hp
  · exact x2 p hp
end Go.Proofs.Ytkegkhhfbfegoaa

/- Layer 20: a scan finds the least address: the law. -/
set_option linter.unusedVariables false
set_option linter.unusedSimpArgs false
set_option maxRecDepth 100000
set_option maxHeartbeats 4000000
namespace Go.Proofs.Ytkegkhhfbfegoaa
open Sx Ls
theorem ptrS_mono {α : Type} {row : α → Nat × Blk} {sv : Value} {H H' : Heap} {ms : List α} (h : PtrS row sv H ms) (hs : ∀ p ∈ H, p ∈ H') : PtrS row sv H' ms := ⟨h.sl.mono hs, fun x hx => hs _ (h.at_ x hx)⟩
theorem ptrS_of {α : Type} {row : α → Nat × Blk} {r c N : Nat} {t : TypeId} {H : Heap} {ms : List α} (hb : (r, .buf t (ptrs (ms.map fun x => (row x).1)) N) ∈ H) (hr : ∀ x ∈ ms, row x ∈ H) (hl : ms.length ≤ maxLen) : PtrS row (.slice (some ⟨r, 0, none⟩) ms.length c) H ms := by
  have := InS.buf (f := cP) (k := 1) (c := c) (L := ms.map fun x => (row x).1) hb (by unfold ptrs; rw [List.map_eq_flatMap]) (fun _ => rfl) (by rw [List.length_map]; exact hl)
  rw [List.length_map] at this
  exact ⟨this, hr⟩
section
variable {K : Value → Heap → Prop} {H : Heap} {sv : Value} {nds : List Nd}
theorem free_nd {x : PL} {n : Nd} (h : x.2 = n.l) : x.2.Free ↔ n.id = 0 := by
  rw [h]; exact ⟨fun e => e.2.1, fun e => ⟨rfl, e, e⟩⟩
theorem least_of {acc : List Nd} {ms : List PL} {rs : List PR} (h : St acc ms rs) {i : Nat} {z : PR} (hz : rs[i]? = some z) (hz0 : z.2.id = 0) (hmin : ∀ j y, j < rs.length → rs[j]? = some y → y.2.id = 0 → z.2.ad.le y.2.ad) : Least z.2.ad ms := by
  refine ⟨fun x hx => (h.calm x hx).ok, fun x hx hf => ?_, ?_⟩
  · obtain ⟨j, hj, rfl⟩ := List.getElem_of_mem hx
    have hjr : j < rs.length := by rw [h.lr, ← h.lm]; exact hj
    obtain ⟨x', n, hx', hn, e1, e2⟩ := h.at (List.getElem?_eq_getElem hjr)
    rw [List.getElem?_eq_getElem hj] at hx'
    injection hx' with hx'
    have e1' : ms[j].2 = n.l := by rw [hx']; exact e1
    have := hmin j _ hjr (List.getElem?_eq_getElem hjr) (by rw [e2]; exact (free_nd e1').1 hf)
    rw [e1']
    rw [e2] at this
    exact this
  · obtain ⟨x, n, hx, hn, e1, e2⟩ := h.at hz
    refine ⟨x, List.mem_of_getElem? hx, (free_nd e1).2 (by rw [e2] at hz0; exact hz0), ?_⟩
    rw [e1, e2]; rfl
theorem none_of {acc : List Nd} {ms : List PL} {rs : List PR} (h : St acc ms rs) (h0 : ∀ j y, j < rs.length → rs[j]? = some y → y.2.id ≠ 0) : ∀ x ∈ ms, ¬ x.2.Free := by
  intro x hx hf
  obtain ⟨j, hj, rfl⟩ := List.getElem_of_mem hx
  have hjr : j < rs.length := by rw [h.lr, ← h.lm]; exact hj
  obtain ⟨x', n, hx', hn, e1, e2⟩ := h.at (List.getElem?_eq_getElem hjr)
  rw [List.getElem?_eq_getElem hj] at hx'
  injection hx' with hx'
  have e1' : ms[j].2 = n.l := by rw [hx']; exact e1
  exact h0 j _ hjr (List.getElem?_eq_getElem hjr) (by rw [e2]; exact (free_nd e1').1 hf)
theorem least_sc (hin : InS Nd.cells 5 sv H nds) (hnd : ∀ x ∈ nds, x.Ok) : SCalls Try.prog 7 [sv] H fun v _ => v = .bool true := by
  obtain ⟨sa, sc, rfl, hml⟩ := hin.sv
  refine enter7 ?_
  repeat' ((conv => whnf); (first
      | refine c8p hin hnd (most := 20) (by decide) (fun acc ra ca rb cb ms rs hst hac hca1 hca2 hcb1 hcb2 => ?_)
      | refine New.mk (fun _ => ?_)
      | refine Look.at0 ?_
      | refine Cell.row ?_
      | refine Cell.buf ?_
      | refine Cells.row rfl ?_
      | refine Put.row rfl ?_
      | refine Put.buf rfl ?_
      | refine Look.at1 ?_
      | refine Look.at2 ?_
      | refine Look.at3 ?_
      | refine Look.at4 ?_
      | refine Look.at5 ?_
      | refine Look.at6 ?_
      | refine Look.at7 ?_
      | refine Look.at8 ?_
      | with_reducible refine Val.i64 (by omega) (by omega) ?_
      | with_reducible refine Val.u8 (by omega) (by omega) ?_
      | with_reducible refine Val.u32 (by omega) (by omega) ?_
      | with_reducible refine Val.u64 (by omega) (by omega) ?_
      | with_reducible refine Val.u8m ?_
      | with_reducible refine Val.u32m ?_
      | with_reducible refine Val.u64m ?_
      | with_reducible refine Val.shr8 ?_
      | with_reducible refine Val.shr16 (by decide) ?_
      | with_reducible refine Val.shr24 (by decide) ?_
      | with_reducible refine Val.raw ?_
      | refine Branch.not ?_
      | refine Branch.and ?_
      | refine Branch.or ?_
      | refine Branch.dt (by assumption) ?_
      | refine Branch.df (by assumption) ?_
      | refine Branch.dt rfl ?_
      | refine Branch.dt (by omega) ?_
      | refine Branch.df (by omega) ?_
      | refine Branch.t rfl ?_
      | refine Branch.f rfl ?_
      | refine Branch.t (by assumption) ?_
      | refine Branch.f (by assumption) ?_
      | refine Branch.d (fun _ => ?_) (fun _ => ?_)
      | refine Branch.mk (fun _ => ?_) (fun _ => ?_)
      | refine Need.mk (by first | omega | decide | rfl) ?_
      | refine Idx.nat (by omega) ?_
      | refine Idx.auto (by first | omega | decide) (by first | omega | decide) ?_
      | refine Cell.ro rfl ?_
      | refine SDraw.all (by kernel_rfl) ?_
      | refine Kept.k0 ?_
      | refine Kept.k1 ?_
      | refine Kept.k2 ?_
      | refine Kept.k3 ?_
      | refine Kept.k4 ?_))
  all_goals (conv => whnf)
  obtain ⟨G, hG⟩ : ∃ G, G = H ++ (pB 42 rb cb (rs.map Prod.fst) :: (rs.map rwR ++ [pB 38 ra ca (ms.map Prod.fst)])) := ⟨_, rfl⟩
  have hGa : (ra, Blk.buf 38 (ptrs (ms.map Prod.fst)) (ca * 1)) ∈ G := by rw [hG]; simp [pB]
  have hGb : (rb, Blk.buf 42 (ptrs (rs.map Prod.fst)) (cb * 1)) ∈ G := by rw [hG]; simp [pB]
  have hGr : ∀ y ∈ rs, (y.1, y.2.row) ∈ G := fun y hy => by
    rw [hG]
    refine List.mem_append_right _ (.tail _ (List.mem_append_left _ ?_))
    exact List.mem_map_of_mem (f := rwR) hy
  rw [← hG]
  clear hG
  have hlm := hst.lm
  have hlr := hst.lr
  have hlr20 : rs.length ≤ maxLen := by unfold maxLen; omega
  have hpG : ∀ c, PtrS rwR (.slice (some ⟨rb, 0, none⟩) acc.length c) G rs := fun c => by
    have := ptrS_of (row := rwR) (c := c) hGb hGr hlr20
    rwa [hlr] at this
  have hp1 : ∀ (X : Heap) c, PtrS rwR (.slice (some ⟨rb, 0, none⟩) acc.length c) (G ++ X) rs := fun X c => ptrS_mono (hpG c) fun p hp => List.mem_append_left _ hp
  have hokm : ∀ x ∈ ms, x.2.Ok := fun x hx => (hst.calm x hx).ok
  have hc11 : ∀ (X : Heap) (c : Nat) (K : Value → Heap → Prop), ((rs.map fun y => y.2.ad).Nodup → K (.bool true) (G ++ X)) → (¬ (rs.map fun y => y.2.ad).Nodup → K (.bool false) (G ++ X)) → SCalls Try.prog 11 [.slice (some ⟨rb, 0, none⟩) acc.length c] (G ++ X) K :=
    fun X c K h1 h0 => c11 (hp1 X c).sl (hp1 X c).at_ h1 h0
  by_cases had : (rs.map fun y => y.2.ad).Nodup
  · repeat' ((conv => whnf); (first
        | refine hc11 _ _ _ (fun _ => ?_) (fun hn => absurd had hn)
        | refine New.mk (fun _ => ?_)
        | refine Look.at0 ?_
        | refine Cell.row ?_
        | refine Cell.buf ?_
        | refine Cells.row rfl ?_
        | refine Put.row rfl ?_
        | refine Put.buf rfl ?_
        | refine Look.at1 ?_
        | refine Look.at2 ?_
        | refine Look.at3 ?_
        | refine Look.at4 ?_
        | refine Look.at5 ?_
        | refine Look.at6 ?_
        | refine Look.at7 ?_
        | refine Look.at8 ?_
        | with_reducible refine Val.i64 (by omega) (by omega) ?_
        | with_reducible refine Val.u8 (by omega) (by omega) ?_
        | with_reducible refine Val.u32 (by omega) (by omega) ?_
        | with_reducible refine Val.u64 (by omega) (by omega) ?_
        | with_reducible refine Val.u8m ?_
        | with_reducible refine Val.u32m ?_
        | with_reducible refine Val.u64m ?_
        | with_reducible refine Val.shr8 ?_
        | with_reducible refine Val.shr16 (by decide) ?_
        | with_reducible refine Val.shr24 (by decide) ?_
        | with_reducible refine Val.raw ?_
        | refine Branch.not ?_
        | refine Branch.and ?_
        | refine Branch.or ?_
        | refine Branch.dt (by assumption) ?_
        | refine Branch.df (by assumption) ?_
        | refine Branch.dt rfl ?_
        | refine Branch.dt (by omega) ?_
        | refine Branch.df (by omega) ?_
        | refine Branch.t rfl ?_
        | refine Branch.f rfl ?_
        | refine Branch.t (by assumption) ?_
        | refine Branch.f (by assumption) ?_
        | refine Branch.d (fun _ => ?_) (fun _ => ?_)
        | refine Branch.mk (fun _ => ?_) (fun _ => ?_)
        | refine Need.mk (by first | omega | decide | rfl) ?_
        | refine Idx.nat (by omega) ?_
        | refine Idx.auto (by first | omega | decide) (by first | omega | decide) ?_
        | refine Cell.ro rfl ?_
        | refine SDraw.all (by kernel_rfl) ?_
        | refine Kept.k0 ?_
        | refine Kept.k1 ?_
        | refine Kept.k2 ?_
        | refine Kept.k3 ?_
        | refine Kept.k4 ?_))
    refine l73 (hp1 _ _) _ .mk (fun S t i ht hS => ?_)
    cases hS
    rw [← hlm]
    repeat' ((conv => whnf); (first
        | refine c17 (fun gs => ?_)
        | refine New.mk (fun _ => ?_)
        | refine Look.at0 ?_
        | refine Cell.row ?_
        | refine Cell.buf ?_
        | refine Cells.row rfl ?_
        | refine Put.row rfl ?_
        | refine Put.buf rfl ?_
        | refine Look.at1 ?_
        | refine Look.at2 ?_
        | refine Look.at3 ?_
        | refine Look.at4 ?_
        | refine Look.at5 ?_
        | refine Look.at6 ?_
        | refine Look.at7 ?_
        | refine Look.at8 ?_
        | with_reducible refine Val.i64 (by omega) (by omega) ?_
        | with_reducible refine Val.u8 (by omega) (by omega) ?_
        | with_reducible refine Val.u32 (by omega) (by omega) ?_
        | with_reducible refine Val.u64 (by omega) (by omega) ?_
        | with_reducible refine Val.u8m ?_
        | with_reducible refine Val.u32m ?_
        | with_reducible refine Val.u64m ?_
        | with_reducible refine Val.shr8 ?_
        | with_reducible refine Val.shr16 (by decide) ?_
        | with_reducible refine Val.shr24 (by decide) ?_
        | with_reducible refine Val.raw ?_
        | refine Branch.not ?_
        | refine Branch.and ?_
        | refine Branch.or ?_
        | refine Branch.dt (by assumption) ?_
        | refine Branch.df (by assumption) ?_
        | refine Branch.dt rfl ?_
        | refine Branch.dt (by omega) ?_
        | refine Branch.df (by omega) ?_
        | refine Branch.t rfl ?_
        | refine Branch.f rfl ?_
        | refine Branch.t (by assumption) ?_
        | refine Branch.f (by assumption) ?_
        | refine Branch.d (fun _ => ?_) (fun _ => ?_)
        | refine Branch.mk (fun _ => ?_) (fun _ => ?_)
        | refine Need.mk (by first | omega | decide | rfl) ?_
        | refine Idx.nat (by omega) ?_
        | refine Idx.auto (by first | omega | decide) (by first | omega | decide) ?_
        | refine Cell.ro rfl ?_
        | refine SDraw.all (by kernel_rfl) ?_
        | refine Kept.k0 ?_
        | refine Kept.k1 ?_
        | refine Kept.k2 ?_
        | refine Kept.k3 ?_
        | refine Kept.k4 ?_))
    refine l72 hGa (by omega) hokm _ .mk (fun S n hS => ?_)
    cases hS
    have hds : (ms.map fun x => x.2.ad).Nodup := by rw [hst.adm]; exact had
    rcases ht with ⟨rfl, h0⟩ | ⟨i, z, rfl, hi, hz, hz0, hmin⟩
    · have hnone := none_of hst h0
      rw [scan_none hnone]
      dsimp only
      have hsf : ((askd Sc.new).ans false).found = false := rfl
      repeat' ((conv => whnf); (first
          | refine SCalls.at0 (c22 (fun hf0 => ?_) (fun hf1 => absurd hf1 (by rw [hsf]; decide)))
          | refine New.mk (fun _ => ?_)
          | refine Look.at0 ?_
          | refine Cell.row ?_
          | refine Cell.buf ?_
          | refine Cells.row rfl ?_
          | refine Put.row rfl ?_
          | refine Put.buf rfl ?_
          | refine Look.at1 ?_
          | refine Look.at2 ?_
          | refine Look.at3 ?_
          | refine Look.at4 ?_
          | refine Look.at5 ?_
          | refine Look.at6 ?_
          | refine Look.at7 ?_
          | refine Look.at8 ?_
          | with_reducible refine Val.i64 (by omega) (by omega) ?_
          | with_reducible refine Val.u8 (by omega) (by omega) ?_
          | with_reducible refine Val.u32 (by omega) (by omega) ?_
          | with_reducible refine Val.u64 (by omega) (by omega) ?_
          | with_reducible refine Val.u8m ?_
          | with_reducible refine Val.u32m ?_
          | with_reducible refine Val.u64m ?_
          | with_reducible refine Val.shr8 ?_
          | with_reducible refine Val.shr16 (by decide) ?_
          | with_reducible refine Val.shr24 (by decide) ?_
          | with_reducible refine Val.raw ?_
          | refine Branch.not ?_
          | refine Branch.and ?_
          | refine Branch.or ?_
          | refine Branch.dt (by assumption) ?_
          | refine Branch.df (by assumption) ?_
          | refine Branch.dt rfl ?_
          | refine Branch.dt (by omega) ?_
          | refine Branch.df (by omega) ?_
          | refine Branch.t rfl ?_
          | refine Branch.f rfl ?_
          | refine Branch.t (by assumption) ?_
          | refine Branch.f (by assumption) ?_
          | refine Branch.d (fun _ => ?_) (fun _ => ?_)
          | refine Branch.mk (fun _ => ?_) (fun _ => ?_)
          | refine Need.mk (by first | omega | decide | rfl) ?_
          | refine Idx.nat (by omega) ?_
          | refine Idx.auto (by first | omega | decide) (by first | omega | decide) ?_
          | refine Cell.ro rfl ?_
          | refine SDraw.all (by kernel_rfl) ?_
          | refine Kept.k0 ?_
          | refine Kept.k1 ?_
          | refine Kept.k2 ?_
          | refine Kept.k3 ?_
          | refine Kept.k4 ?_))
      refine l70 (ms := ms) (ptrS_of (row := rwL) (N := ca * 1) (t := 38) (.tail _ (.tail _ (List.mem_append_left _ hGa))) (fun x hx => .tail _ (.tail _ (List.mem_append_right _ (List.mem_map_of_mem hx)))) (by unfold maxLen; omega)) (fun j x hx => ?_) _ .mk (fun S hS => ?_)
      · have := (hst.calm x (List.mem_of_getElem? hx)).mode
        constructor <;> intro e <;> omega
      · cases hS
        repeat' ((conv => whnf); (first
            | refine live_c ?_
            | refine New.mk (fun _ => ?_)
            | refine Look.at0 ?_
            | refine Cell.row ?_
            | refine Cell.buf ?_
            | refine Cells.row rfl ?_
            | refine Put.row rfl ?_
            | refine Put.buf rfl ?_
            | refine Look.at1 ?_
            | refine Look.at2 ?_
            | refine Look.at3 ?_
            | refine Look.at4 ?_
            | refine Look.at5 ?_
            | refine Look.at6 ?_
            | refine Look.at7 ?_
            | refine Look.at8 ?_
            | with_reducible refine Val.i64 (by omega) (by omega) ?_
            | with_reducible refine Val.u8 (by omega) (by omega) ?_
            | with_reducible refine Val.u32 (by omega) (by omega) ?_
            | with_reducible refine Val.u64 (by omega) (by omega) ?_
            | with_reducible refine Val.u8m ?_
            | with_reducible refine Val.u32m ?_
            | with_reducible refine Val.u64m ?_
            | with_reducible refine Val.shr8 ?_
            | with_reducible refine Val.shr16 (by decide) ?_
            | with_reducible refine Val.shr24 (by decide) ?_
            | with_reducible refine Val.raw ?_
            | refine Branch.not ?_
            | refine Branch.and ?_
            | refine Branch.or ?_
            | refine Branch.dt (by assumption) ?_
            | refine Branch.df (by assumption) ?_
            | refine Branch.dt rfl ?_
            | refine Branch.dt (by omega) ?_
            | refine Branch.df (by omega) ?_
            | refine Branch.t rfl ?_
            | refine Branch.f rfl ?_
            | refine Branch.t (by assumption) ?_
            | refine Branch.f (by assumption) ?_
            | refine Branch.d (fun _ => ?_) (fun _ => ?_)
            | refine Branch.mk (fun _ => ?_) (fun _ => ?_)
            | refine Need.mk (by first | omega | decide | rfl) ?_
            | refine Idx.nat (by omega) ?_
            | refine Idx.auto (by first | omega | decide) (by first | omega | decide) ?_
            | refine Cell.ro rfl ?_
            | refine SDraw.all (by kernel_rfl) ?_
            | refine Kept.k0 ?_
            | refine Kept.k1 ?_
            | refine Kept.k2 ?_
            | refine Kept.k3 ?_
            | refine Kept.k4 ?_))
        all_goals (conv => whnf)
        exact Keep.sub [] (List.nil_sublist _) rfl
    · have hL := least_of hst hz hz0 hmin
      rw [scan_least hL]
      dsimp only
      have hsf : (scF z.2.ad).found = true := rfl
      obtain ⟨z', r, o, c', b, hz', e1, hm, hc, hzr⟩ := (hpG cb).get (j := i) hi
      rw [hz] at hz'
      injection hz' with hz'
      subst hz'
      rw [hlr] at e1
      injection e1 with e1 _ e3
      injection e1 with e1
      injection e1 with e4 e5
      subst e4
      subst e5
      have hi2 : i < acc.length := by omega
      repeat' ((conv => whnf); (first
          | refine SCalls.at0 (c22 (fun hf0 => absurd hf0 (by rw [hsf]; decide)) (fun hf1 => ?_))
          | refine Branch.f (b := _ == _) (by rw [show decide ((0 : Int) ≤ (i : Int)) = true from decide_eq_true (by omega)]; rfl) ?_
          | refine Look.cell (.tail _ (.tail _ (List.mem_append_left _ hm))) hc ?_
          | refine Look.mem (.tail _ (.tail _ (List.mem_append_left _ hzr))) (fun _ _ _ => ?_)
          | unfold rwR R.row
          | refine SCalls.at1 (c24 ?_)
          | refine New.mk (fun _ => ?_)
          | refine Look.at0 ?_
          | refine Cell.row ?_
          | refine Cell.buf ?_
          | refine Cells.row rfl ?_
          | refine Put.row rfl ?_
          | refine Put.buf rfl ?_
          | refine Look.at1 ?_
          | refine Look.at2 ?_
          | refine Look.at3 ?_
          | refine Look.at4 ?_
          | refine Look.at5 ?_
          | refine Look.at6 ?_
          | refine Look.at7 ?_
          | refine Look.at8 ?_
          | with_reducible refine Val.i64 (by omega) (by omega) ?_
          | with_reducible refine Val.u8 (by omega) (by omega) ?_
          | with_reducible refine Val.u32 (by omega) (by omega) ?_
          | with_reducible refine Val.u64 (by omega) (by omega) ?_
          | with_reducible refine Val.u8m ?_
          | with_reducible refine Val.u32m ?_
          | with_reducible refine Val.u64m ?_
          | with_reducible refine Val.shr8 ?_
          | with_reducible refine Val.shr16 (by decide) ?_
          | with_reducible refine Val.shr24 (by decide) ?_
          | with_reducible refine Val.raw ?_
          | refine Branch.not ?_
          | refine Branch.and ?_
          | refine Branch.or ?_
          | refine Branch.dt (by assumption) ?_
          | refine Branch.df (by assumption) ?_
          | refine Branch.dt rfl ?_
          | refine Branch.dt (by omega) ?_
          | refine Branch.df (by omega) ?_
          | refine Branch.t rfl ?_
          | refine Branch.f rfl ?_
          | refine Branch.t (by assumption) ?_
          | refine Branch.f (by assumption) ?_
          | refine Branch.d (fun _ => ?_) (fun _ => ?_)
          | refine Branch.mk (fun _ => ?_) (fun _ => ?_)
          | refine Need.mk (by first | omega | decide | rfl) ?_
          | refine Idx.nat (by omega) ?_
          | refine Idx.auto (by first | omega | decide) (by first | omega | decide) ?_
          | refine Cell.ro rfl ?_
          | refine SDraw.all (by kernel_rfl) ?_
          | refine Kept.k0 ?_
          | refine Kept.k1 ?_
          | refine Kept.k2 ?_
          | refine Kept.k3 ?_
          | refine Kept.k4 ?_))
      conv => whnf
      refine l70 (ms := ms.map (fin z.2.ad)) (ptrS_of (row := rwL) (N := ca * 1) (t := 38) (.tail _ (.tail _ (List.mem_append_left _ (by rw [List.map_map]; exact hGa)))) (fun x hx => .tail _ (.tail _ (List.mem_append_right _ (List.mem_map_of_mem hx)))) (by rw [List.length_map]; unfold maxLen; omega)) (fun j x hx => ?_) _ (by rw [List.length_map]; exact .mk) (fun S hS => ?_)
      · rw [List.getElem?_map] at hx
        cases hx0 : ms[j]? with
        | none => rw [hx0] at hx; cases hx
        | some x0 =>
          rw [hx0] at hx
          injection hx with hx
          subst hx
          obtain ⟨x1, n1, hx1, hn1, g1, g2⟩ := hst.at hz
          have hcal := hst.calm x0 (List.mem_of_getElem? hx0)
          have hm0 := hcal.mode
          have hzad : z.2.ad = x1.2.ad := by rw [g1, g2]; rfl
          have hix : (ms.map fun x => x.2.ad)[i]? = some z.2.ad := by rw [List.getElem?_map, hx1, hzad]; rfl
          have hjx : (ms.map fun x => x.2.ad)[j]? = some x0.2.ad := by rw [List.getElem?_map, hx0]; rfl
          show (finL z.2.ad x0.2).mode = 1 ↔ _
          constructor
          · intro e
            unfold finL at e
            split at e
            · split at e
              · rename_i ha
                rw [ha] at hjx
                obtain ⟨hi1, hi2⟩ := List.getElem?_eq_some_iff.1 hix
                obtain ⟨hj1, hj2⟩ := List.getElem?_eq_some_iff.1 hjx
                have h12 := List.pairwise_iff_getElem.1 hds
                rcases Nat.lt_trichotomy j i with hlt | rfl | hlt
                · exact absurd (hj2.trans hi2.symm) (h12 j i hj1 hi1 hlt)
                · rfl
                · exact absurd (hi2.trans hj2.symm) (h12 i j hi1 hj1 hlt)
              · dsimp only at e; omega
            · omega
          · intro e
            obtain rfl : j = i := by omega
            rw [hx1] at hx0
            injection hx0 with hx0
            subst hx0
            have hf : x1.2.Free := (free_nd g1).2 (by rw [g2] at hz0; exact hz0)
            unfold finL
            rw [if_pos hf, if_pos hzad.symm]
      · cases hS
        repeat' ((conv => whnf); (first
            | refine live_c ?_
            | refine New.mk (fun _ => ?_)
            | refine Look.at0 ?_
            | refine Cell.row ?_
            | refine Cell.buf ?_
            | refine Cells.row rfl ?_
            | refine Put.row rfl ?_
            | refine Put.buf rfl ?_
            | refine Look.at1 ?_
            | refine Look.at2 ?_
            | refine Look.at3 ?_
            | refine Look.at4 ?_
            | refine Look.at5 ?_
            | refine Look.at6 ?_
            | refine Look.at7 ?_
            | refine Look.at8 ?_
            | with_reducible refine Val.i64 (by omega) (by omega) ?_
            | with_reducible refine Val.u8 (by omega) (by omega) ?_
            | with_reducible refine Val.u32 (by omega) (by omega) ?_
            | with_reducible refine Val.u64 (by omega) (by omega) ?_
            | with_reducible refine Val.u8m ?_
            | with_reducible refine Val.u32m ?_
            | with_reducible refine Val.u64m ?_
            | with_reducible refine Val.shr8 ?_
            | with_reducible refine Val.shr16 (by decide) ?_
            | with_reducible refine Val.shr24 (by decide) ?_
            | with_reducible refine Val.raw ?_
            | refine Branch.not ?_
            | refine Branch.and ?_
            | refine Branch.or ?_
            | refine Branch.dt (by assumption) ?_
            | refine Branch.df (by assumption) ?_
            | refine Branch.dt rfl ?_
            | refine Branch.dt (by omega) ?_
            | refine Branch.df (by omega) ?_
            | refine Branch.t rfl ?_
            | refine Branch.f rfl ?_
            | refine Branch.t (by assumption) ?_
            | refine Branch.f (by assumption) ?_
            | refine Branch.d (fun _ => ?_) (fun _ => ?_)
            | refine Branch.mk (fun _ => ?_) (fun _ => ?_)
            | refine Need.mk (by first | omega | decide | rfl) ?_
            | refine Idx.nat (by omega) ?_
            | refine Idx.auto (by first | omega | decide) (by first | omega | decide) ?_
            | refine Cell.ro rfl ?_
            | refine SDraw.all (by kernel_rfl) ?_
            | refine Kept.k0 ?_
            | refine Kept.k1 ?_
            | refine Kept.k2 ?_
            | refine Kept.k3 ?_
            | refine Kept.k4 ?_))
        all_goals (conv => whnf)
        exact Keep.sub [] (List.nil_sublist _) rfl
  · repeat' ((conv => whnf); (first
        | refine hc11 _ _ _ (fun hn => absurd hn had) (fun _ => ?_)
        | refine live_c ?_
        | refine New.mk (fun _ => ?_)
        | refine Look.at0 ?_
        | refine Cell.row ?_
        | refine Cell.buf ?_
        | refine Cells.row rfl ?_
        | refine Put.row rfl ?_
        | refine Put.buf rfl ?_
        | refine Look.at1 ?_
        | refine Look.at2 ?_
        | refine Look.at3 ?_
        | refine Look.at4 ?_
        | refine Look.at5 ?_
        | refine Look.at6 ?_
        | refine Look.at7 ?_
        | refine Look.at8 ?_
        | with_reducible refine Val.i64 (by omega) (by omega) ?_
        | with_reducible refine Val.u8 (by omega) (by omega) ?_
        | with_reducible refine Val.u32 (by omega) (by omega) ?_
        | with_reducible refine Val.u64 (by omega) (by omega) ?_
        | with_reducible refine Val.u8m ?_
        | with_reducible refine Val.u32m ?_
        | with_reducible refine Val.u64m ?_
        | with_reducible refine Val.shr8 ?_
        | with_reducible refine Val.shr16 (by decide) ?_
        | with_reducible refine Val.shr24 (by decide) ?_
        | with_reducible refine Val.raw ?_
        | refine Branch.not ?_
        | refine Branch.and ?_
        | refine Branch.or ?_
        | refine Branch.dt (by assumption) ?_
        | refine Branch.df (by assumption) ?_
        | refine Branch.dt rfl ?_
        | refine Branch.dt (by omega) ?_
        | refine Branch.df (by omega) ?_
        | refine Branch.t rfl ?_
        | refine Branch.f rfl ?_
        | refine Branch.t (by assumption) ?_
        | refine Branch.f (by assumption) ?_
        | refine Branch.d (fun _ => ?_) (fun _ => ?_)
        | refine Branch.mk (fun _ => ?_) (fun _ => ?_)
        | refine Need.mk (by first | omega | decide | rfl) ?_
        | refine Idx.nat (by omega) ?_
        | refine Idx.auto (by first | omega | decide) (by first | omega | decide) ?_
        | refine Cell.ro rfl ?_
        | refine SDraw.all (by kernel_rfl) ?_
        | refine Kept.k0 ?_
        | refine Kept.k1 ?_
        | refine Kept.k2 ?_
        | refine Kept.k3 ?_
        | refine Kept.k4 ?_))
    all_goals (conv => whnf)
    exact Keep.sub [] (List.nil_sublist _) rfl
end
theorem nd_of {w : World} {cs : List Value} (h : R65 w cs) : ∃ x : Nd, cs = x.cells ∧ x.Ok := by
  obtain ⟨x0, x1, x2, x3, x4, rfl, f0, f1, f2, f3, _⟩ := h
  exact ⟨⟨x0, x1, x2, x3, x4⟩, rfl, wf_u32 f0, wf_u32 f1, wf_u32 f2, wf_u32 f3⟩
theorem ScanLeastW (a0a : Option Addr) (a0l : Nat) (a0c : Nat) (w : World) (h0_0 : SliceAt 5 B65 R65 w a0a a0l a0c) :
    Calls Try.prog 7 #[.slice a0a a0l a0c] w fun e w' => e = .returned (.bool true) ∧ Go.RowKit.Below w.heap.size w w' := by
  obtain ⟨H, L, rfl, hin, hok, hw, hx⟩ := inS_of (f := Nd.cells) (Good := Nd.Ok) h0_0 (by decide) (fun _ => rfl) (fun cs h => nd_of h)
  exact (least_sc hin hok).fin w hw hx
end Go.Proofs.Ytkegkhhfbfegoaa

/- Layer 20: all are found, and get their numbers: the law's loops. -/
set_option linter.unusedVariables false
set_option linter.unusedSimpArgs false
set_option maxRecDepth 100000
set_option maxHeartbeats 4000000
namespace Go.Proofs.Ytkegkhhfbfegoaa
open Sx Ls
theorem finL_ad (m : Ad) (l : L) : (finL m l).ad = l.ad := by unfold finL; (repeat' split) <;> rfl
theorem take_ad (l : L) (q : Q) : (l.take q).2.ad = l.ad := by
  unfold L.take
  (repeat' split) <;> first
    | rfl
    | (unfold L.switches; (repeat' split) <;> rfl)
    | (unfold L.selects; (repeat' split) <;> rfl)
    | (unfold L.scans; (repeat' split) <;> rfl)
    | (unfold L.configures; (repeat' split) <;> rfl)
abbrev ads (ms : List PL) : List Ad := ms.map fun x => x.2.ad
theorem tkL_ads (q : Q) (ms : List PL) : ads (ms.map (tkL q)) = ads ms := by
  unfold ads
  rw [List.map_map]
  exact List.map_congr_left fun x _ => take_ad x.2 q
theorem runL_ads : ∀ (n : Nat) (s : Sc) (ms : List PL), ads (runL n s ms).2 = ads ms
  | 0, _, _ => rfl
  | n + 1, s, ms => by
    rw [runL]
    split
    · rfl
    · rw [runL_ads n]; exact tkL_ads _ _
theorem allL_keep : ∀ (xs : List Int) (ms : List PL) (out : List Sc), ads (allL xs ms out).2.2 = ads ms ∧ (allL xs ms out).2.2.map Prod.fst = ms.map Prod.fst
  | [], ms, out => by unfold allL; exact ⟨tkL_ads _ _, tkL_fst _ _⟩
  | x :: xs, ms, out => by
    unfold allL
    split
    · exact ⟨runL_ads _ _ _, runL_fst _ _ _⟩
    · obtain ⟨h1, h2⟩ := allL_keep xs (giveL x (scanL ms).2) (out ++ [(scanL ms).1])
      refine ⟨h1.trans ?_, h2.trans ?_⟩
      · unfold giveL; rw [tkL_ads, tkL_ads]; exact runL_ads _ _ _
      · unfold giveL; rw [tkL_fst, tkL_fst]; exact runL_fst _ _ _
theorem allP_keep (xs : List Int) (ms : List PL) : ads (allP xs ms).2.2 = ads ms ∧ (allP xs ms).2.2.map Prod.fst = ms.map Prod.fst := by
  unfold allP
  split
  · exact allL_keep xs ms []
  · exact ⟨rfl, rfl⟩
theorem allR_fst : ∀ (xs : List Int) (ms : List PR) (out : List Sc), (allR xs ms out).2.2.map Prod.fst = ms.map Prod.fst
  | [], ms, out => by unfold allR; exact tkR_fst _ _
  | x :: xs, ms, out => by
    unfold allR
    split
    · exact runR_fst _ _ _
    · refine (allR_fst xs (giveR x (scanR ms).2) (out ++ [(scanR ms).1])).trans ?_
      unfold giveR; rw [tkR_fst, tkR_fst]; exact runR_fst _ _ _
theorem allD_fst (xs : List Int) (ms : List PR) : (allD xs ms).2.2.map Prod.fst = ms.map Prod.fst := by
  unfold allD
  split
  · exact allR_fst xs ms []
  · rfl
theorem Sims.at {ms : List PL} {rs : List PR} (h : Sims ms rs) : ∀ {j : Nat} {x : PL}, ms[j]? = some x → ∃ y, rs[j]? = some y ∧ Sim x.2 y.2 := by
  induction h with
  | nil => intro j x hx; simp at hx
  | cons h1 h2 _ ih =>
    intro j x hx
    cases j with
    | zero => simp only [List.getElem?_cons_zero, Option.some.injEq] at hx; subst hx; exact ⟨_, rfl, h1⟩
    | succ j => simp only [List.getElem?_cons_succ] at hx ⊢; exact ih hx
theorem Sims.ads {ms : List PL} {rs : List PR} (h : Sims ms rs) : (rs.map fun y => y.2.ad) = ads ms := by
  induction h with
  | nil => rfl
  | cons h1 _ _ ih =>
    show _ :: _ = _ :: _
    rw [ih]
    congr 1
    rw [Ad.ext_iff']
    exact ⟨h1.a0, h1.a1, h1.a2, h1.a3⟩
theorem OutO.inS {sv : Value} {N : Heap} {outs : List Sc} (h : OutO sv N outs) : InS Sc.c4 4 sv N outs := by
  rcases h with ⟨rfl, rfl, rfl⟩ | ⟨r, c, rfl, h1, h2, rfl⟩
  · exact InS.nil
  · exact InS.buf (.head _) rfl (fun _ => rfl) (by omega)
section
variable {K : Value → Heap → Prop} {H : Heap}
/-- One that is nil. -/
theorem c43n {p : Nat} (hm : (p, Blk.row 38 [.pointer none] (0, 0)) ∈ H) (h : K (.int .i64 0) H) : SCalls Try.prog 43 [.slice (some ⟨p, 0, none⟩) 1 1, .pointer none] H K := by
  refine enter43 ?_
  repeat' ((conv => whnf); (first
      | refine SLoop.round ?_
      | refine Look.cell (v := .pointer none) hm rfl ?_
      | refine New.mk (fun _ => ?_)
      | refine Look.at0 ?_
      | refine Cell.row ?_
      | refine Cell.buf ?_
      | refine Cells.row rfl ?_
      | refine Put.row rfl ?_
      | refine Put.buf rfl ?_
      | refine Look.at1 ?_
      | refine Look.at2 ?_
      | refine Look.at3 ?_
      | refine Look.at4 ?_
      | refine Look.at5 ?_
      | refine Look.at6 ?_
      | refine Look.at7 ?_
      | refine Look.at8 ?_
      | with_reducible refine Val.i64 (by omega) (by omega) ?_
      | with_reducible refine Val.u8 (by omega) (by omega) ?_
      | with_reducible refine Val.u32 (by omega) (by omega) ?_
      | with_reducible refine Val.u64 (by omega) (by omega) ?_
      | with_reducible refine Val.u8m ?_
      | with_reducible refine Val.u32m ?_
      | with_reducible refine Val.u64m ?_
      | with_reducible refine Val.shr8 ?_
      | with_reducible refine Val.shr16 (by decide) ?_
      | with_reducible refine Val.shr24 (by decide) ?_
      | with_reducible refine Val.raw ?_
      | refine Branch.not ?_
      | refine Branch.and ?_
      | refine Branch.or ?_
      | refine Branch.dt (by assumption) ?_
      | refine Branch.df (by assumption) ?_
      | refine Branch.dt rfl ?_
      | refine Branch.dt (by omega) ?_
      | refine Branch.df (by omega) ?_
      | refine Branch.t rfl ?_
      | refine Branch.f rfl ?_
      | refine Branch.t (by assumption) ?_
      | refine Branch.f (by assumption) ?_
      | refine Branch.d (fun _ => ?_) (fun _ => ?_)
      | refine Branch.mk (fun _ => ?_) (fun _ => ?_)
      | refine Need.mk (by first | omega | decide | rfl) ?_
      | refine Idx.nat (by omega) ?_
      | refine Idx.auto (by first | omega | decide) (by first | omega | decide) ?_
      | refine Cell.ro rfl ?_
      | refine SDraw.all (by kernel_rfl) ?_
      | refine Kept.k0 ?_
      | refine Kept.k1 ?_
      | refine Kept.k2 ?_
      | refine Kept.k3 ?_
      | refine Kept.k4 ?_))
  all_goals (conv => whnf)
  exact Keep.all h
theorem c40n {p : Nat} (hm : (p, Blk.row 38 [.pointer none] (0, 0)) ∈ H) (h : K (.bool true) H) : SCalls Try.prog 40 [.slice (some ⟨p, 0, none⟩) 1 1, .pointer none] H K := by
  refine enter40 ?_
  repeat' ((conv => whnf); (first
      | refine c43n hm ?_
      | refine New.mk (fun _ => ?_)
      | refine Look.at0 ?_
      | refine Cell.row ?_
      | refine Cell.buf ?_
      | refine Cells.row rfl ?_
      | refine Put.row rfl ?_
      | refine Put.buf rfl ?_
      | refine Look.at1 ?_
      | refine Look.at2 ?_
      | refine Look.at3 ?_
      | refine Look.at4 ?_
      | refine Look.at5 ?_
      | refine Look.at6 ?_
      | refine Look.at7 ?_
      | refine Look.at8 ?_
      | with_reducible refine Val.i64 (by omega) (by omega) ?_
      | with_reducible refine Val.u8 (by omega) (by omega) ?_
      | with_reducible refine Val.u32 (by omega) (by omega) ?_
      | with_reducible refine Val.u64 (by omega) (by omega) ?_
      | with_reducible refine Val.u8m ?_
      | with_reducible refine Val.u32m ?_
      | with_reducible refine Val.u64m ?_
      | with_reducible refine Val.shr8 ?_
      | with_reducible refine Val.shr16 (by decide) ?_
      | with_reducible refine Val.shr24 (by decide) ?_
      | with_reducible refine Val.raw ?_
      | refine Branch.not ?_
      | refine Branch.and ?_
      | refine Branch.or ?_
      | refine Branch.dt (by assumption) ?_
      | refine Branch.df (by assumption) ?_
      | refine Branch.dt rfl ?_
      | refine Branch.dt (by omega) ?_
      | refine Branch.df (by omega) ?_
      | refine Branch.t rfl ?_
      | refine Branch.f rfl ?_
      | refine Branch.t (by assumption) ?_
      | refine Branch.f (by assumption) ?_
      | refine Branch.d (fun _ => ?_) (fun _ => ?_)
      | refine Branch.mk (fun _ => ?_) (fun _ => ?_)
      | refine Need.mk (by first | omega | decide | rfl) ?_
      | refine Idx.nat (by omega) ?_
      | refine Idx.auto (by first | omega | decide) (by first | omega | decide) ?_
      | refine Cell.ro rfl ?_
      | refine SDraw.all (by kernel_rfl) ?_
      | refine Kept.k0 ?_
      | refine Kept.k1 ?_
      | refine Kept.k2 ?_
      | refine Kept.k3 ?_
      | refine Kept.k4 ?_))
  all_goals (conv => whnf)
  exact Keep.all h
theorem c28n {p : Nat} (hm : (p, Blk.row 38 [.pointer none] (0, 0)) ∈ H) (h : K (.int .i64 1) H) : SCalls Try.prog 28 [.slice (some ⟨p, 0, none⟩) 1 1, .slice none 0 0] H K := by
  refine enter28 ?_
  repeat' ((conv => whnf); (first
      | refine RawV.mkMap (Value.int .i64) rfl (fun g => ?_)
      | refine SLoop.round ?_
      | refine c40n (.tail _ hm) ?_
      | refine New.mk (fun _ => ?_)
      | refine Look.at0 ?_
      | refine Cell.row ?_
      | refine Cell.buf ?_
      | refine Cells.row rfl ?_
      | refine Put.row rfl ?_
      | refine Put.buf rfl ?_
      | refine Look.at1 ?_
      | refine Look.at2 ?_
      | refine Look.at3 ?_
      | refine Look.at4 ?_
      | refine Look.at5 ?_
      | refine Look.at6 ?_
      | refine Look.at7 ?_
      | refine Look.at8 ?_
      | with_reducible refine Val.i64 (by omega) (by omega) ?_
      | with_reducible refine Val.u8 (by omega) (by omega) ?_
      | with_reducible refine Val.u32 (by omega) (by omega) ?_
      | with_reducible refine Val.u64 (by omega) (by omega) ?_
      | with_reducible refine Val.u8m ?_
      | with_reducible refine Val.u32m ?_
      | with_reducible refine Val.u64m ?_
      | with_reducible refine Val.shr8 ?_
      | with_reducible refine Val.shr16 (by decide) ?_
      | with_reducible refine Val.shr24 (by decide) ?_
      | with_reducible refine Val.raw ?_
      | refine Branch.not ?_
      | refine Branch.and ?_
      | refine Branch.or ?_
      | refine Branch.dt (by assumption) ?_
      | refine Branch.df (by assumption) ?_
      | refine Branch.dt rfl ?_
      | refine Branch.dt (by omega) ?_
      | refine Branch.df (by omega) ?_
      | refine Branch.t rfl ?_
      | refine Branch.f rfl ?_
      | refine Branch.t (by assumption) ?_
      | refine Branch.f (by assumption) ?_
      | refine Branch.d (fun _ => ?_) (fun _ => ?_)
      | refine Branch.mk (fun _ => ?_) (fun _ => ?_)
      | refine Need.mk (by first | omega | decide | rfl) ?_
      | refine Idx.nat (by omega) ?_
      | refine Idx.auto (by first | omega | decide) (by first | omega | decide) ?_
      | refine Cell.ro rfl ?_
      | refine SDraw.all (by kernel_rfl) ?_
      | refine Kept.k0 ?_
      | refine Kept.k1 ?_
      | refine Kept.k2 ?_
      | refine Kept.k3 ?_
      | refine Kept.k4 ?_))
  all_goals (conv => whnf)
  exact Keep.d1 h
theorem c9n {p : Nat} (hm : (p, Blk.row 38 [.pointer none] (0, 0)) ∈ H) (h : K (.tuple ⟨[.slice none 0 0, .int .i64 1]⟩) H) : SCalls Try.prog 9 [.slice (some ⟨p, 0, none⟩) 1 1, .slice none 0 0] H K := by
  refine enter9 ?_
  repeat' ((conv => whnf); (first
      | refine c28n hm ?_
      | refine New.mk (fun _ => ?_)
      | refine Look.at0 ?_
      | refine Cell.row ?_
      | refine Cell.buf ?_
      | refine Cells.row rfl ?_
      | refine Put.row rfl ?_
      | refine Put.buf rfl ?_
      | refine Look.at1 ?_
      | refine Look.at2 ?_
      | refine Look.at3 ?_
      | refine Look.at4 ?_
      | refine Look.at5 ?_
      | refine Look.at6 ?_
      | refine Look.at7 ?_
      | refine Look.at8 ?_
      | with_reducible refine Val.i64 (by omega) (by omega) ?_
      | with_reducible refine Val.u8 (by omega) (by omega) ?_
      | with_reducible refine Val.u32 (by omega) (by omega) ?_
      | with_reducible refine Val.u64 (by omega) (by omega) ?_
      | with_reducible refine Val.u8m ?_
      | with_reducible refine Val.u32m ?_
      | with_reducible refine Val.u64m ?_
      | with_reducible refine Val.shr8 ?_
      | with_reducible refine Val.shr16 (by decide) ?_
      | with_reducible refine Val.shr24 (by decide) ?_
      | with_reducible refine Val.raw ?_
      | refine Branch.not ?_
      | refine Branch.and ?_
      | refine Branch.or ?_
      | refine Branch.dt (by assumption) ?_
      | refine Branch.df (by assumption) ?_
      | refine Branch.dt rfl ?_
      | refine Branch.dt (by omega) ?_
      | refine Branch.df (by omega) ?_
      | refine Branch.t rfl ?_
      | refine Branch.f rfl ?_
      | refine Branch.t (by assumption) ?_
      | refine Branch.f (by assumption) ?_
      | refine Branch.d (fun _ => ?_) (fun _ => ?_)
      | refine Branch.mk (fun _ => ?_) (fun _ => ?_)
      | refine Need.mk (by first | omega | decide | rfl) ?_
      | refine Idx.nat (by omega) ?_
      | refine Idx.auto (by first | omega | decide) (by first | omega | decide) ?_
      | refine Cell.ro rfl ?_
      | refine SDraw.all (by kernel_rfl) ?_
      | refine Kept.k0 ?_
      | refine Kept.k1 ?_
      | refine Kept.k2 ?_
      | refine Kept.k3 ?_
      | refine Kept.k4 ?_))
  all_goals (conv => whnf)
  exact Keep.all h
/-- Both numbers of one. -/
theorem c13m {x : PL} (hm : rwL x ∈ H) (h : K (.tuple ⟨[.int .i64 x.2.pid, .int .i64 x.2.uid]⟩) H) : SCalls Try.prog 13 [ptr x.1] H K := by
  refine SCalls.seen1 hm (fun K hk => ?_) h
  refine enter13 ?_
  unfold rwL L.row at *
  repeat' ((conv => whnf); (first
      | refine New.mk (fun _ => ?_)
      | refine Look.at0 ?_
      | refine Cell.row ?_
      | refine Cell.buf ?_
      | refine Cells.row rfl ?_
      | refine Put.row rfl ?_
      | refine Put.buf rfl ?_
      | refine Look.at1 ?_
      | refine Look.at2 ?_
      | refine Look.at3 ?_
      | refine Look.at4 ?_
      | refine Look.at5 ?_
      | refine Look.at6 ?_
      | refine Look.at7 ?_
      | refine Look.at8 ?_
      | with_reducible refine Val.i64 (by omega) (by omega) ?_
      | with_reducible refine Val.u8 (by omega) (by omega) ?_
      | with_reducible refine Val.u32 (by omega) (by omega) ?_
      | with_reducible refine Val.u64 (by omega) (by omega) ?_
      | with_reducible refine Val.u8m ?_
      | with_reducible refine Val.u32m ?_
      | with_reducible refine Val.u64m ?_
      | with_reducible refine Val.shr8 ?_
      | with_reducible refine Val.shr16 (by decide) ?_
      | with_reducible refine Val.shr24 (by decide) ?_
      | with_reducible refine Val.raw ?_
      | refine Branch.not ?_
      | refine Branch.and ?_
      | refine Branch.or ?_
      | refine Branch.dt (by assumption) ?_
      | refine Branch.df (by assumption) ?_
      | refine Branch.dt rfl ?_
      | refine Branch.dt (by omega) ?_
      | refine Branch.df (by omega) ?_
      | refine Branch.t rfl ?_
      | refine Branch.f rfl ?_
      | refine Branch.t (by assumption) ?_
      | refine Branch.f (by assumption) ?_
      | refine Branch.d (fun _ => ?_) (fun _ => ?_)
      | refine Branch.mk (fun _ => ?_) (fun _ => ?_)
      | refine Need.mk (by first | omega | decide | rfl) ?_
      | refine Idx.nat (by omega) ?_
      | refine Idx.auto (by first | omega | decide) (by first | omega | decide) ?_
      | refine Cell.ro rfl ?_
      | refine SDraw.all (by kernel_rfl) ?_
      | refine Kept.k0 ?_
      | refine Kept.k1 ?_
      | refine Kept.k2 ?_
      | refine Kept.k3 ?_
      | refine Kept.k4 ?_))
  all_goals (conv => whnf)
  exact Keep.all hk
end
end Go.Proofs.Ytkegkhhfbfegoaa

/- Layer 20: all are found, and get their numbers: the walk. -/
set_option linter.unusedVariables false
set_option linter.unusedSimpArgs false
set_option maxRecDepth 100000
set_option maxHeartbeats 4000000
namespace Go.Proofs.Ytkegkhhfbfegoaa
open Sx Ls
theorem inS_at {α : Type} {f : α → List Value} {k : Nat} {sv : Value} {H : Heap} {L : List α} (h : InS f k sv H L) (hk : ∀ x, (f x).length = k) {j : Nat} {x : α} (hj : L[j]? = some x) :
    ∃ r o c b, sv = .slice (some ⟨r, o, none⟩) L.length c ∧ (r, b) ∈ H ∧ ∀ i v, (f x)[i]? = some v → b.cell (o + j * k + i) = some v := by
  obtain ⟨a, c, rfl, h1, h2⟩ := h
  rcases h2 with rfl | ⟨r, o, b, rfl, hm, hc⟩
  · simp at hj
  · exact ⟨r, o, c, b, rfl, hm, fun i v hv => hc j x i v hj hv (by rw [← hk x]; exact (List.getElem?_eq_some_iff.1 hv).1)⟩
inductive S3a (A5 A6 A7 A9 A11 : Value) : List Value → Prop
  | mk {r0 r1 r2 r3 r4 r8 r10 r12 r13 r14 r15 r16 r17 r18 r19 r20 r21 r22 r23 r24 r25 r26 r27 r28 r29 r30 r31 r32 r33 r34 r35 r36 r37 r38 r39 r40 r41 r42 r43 r44 r45 r46 r47 r48 r49 r50 r51 r52 r53 r54 r55 r56 r57 r58 r59 r60 r61 r62 r63 r64 r65 r66 r67 r68 r69 r70 r71 r72 r73 r74 r75 r76 r77 r78 r79 r80 r81 r82 r83 r84 r85 r86 r87 r88 r89 r90 r91 r92 r93 r94 r95 r96 r97 r98 r99 r100 r101 r102 r103 r104 r105 r106 r107 r108 r109 r110 r111 r112 r113 r114 r115 r116 r117 r118 r119 r120 r121 r122 r123 r124 r125 r126 r127 r128 r129 r130 r131 r132 r133 r134 r135 : Value} : S3a A5 A6 A7 A9 A11 [r0, r1, r2, r3, r4, A5, A6, A7, r8, A9, r10, A11, r12, r13, r14, r15, r16, r17, r18, r19, r20, r21, r22, r23, r24, r25, r26, r27, r28, r29, r30, r31, r32, r33, r34, r35, r36, r37, r38, r39, r40, r41, r42, r43, r44, r45, r46, r47, r48, r49, r50, r51, r52, r53, r54, r55, r56, r57, r58, r59, r60, r61, r62, r63, r64, r65, r66, r67, r68, r69, r70, r71, r72, r73, r74, r75, r76, r77, r78, r79, r80, r81, r82, r83, r84, r85, r86, r87, r88, r89, r90, r91, r92, r93, r94, r95, r96, r97, r98, r99, r100, r101, r102, r103, r104, r105, r106, r107, r108, r109, r110, r111, r112, r113, r114, r115, r116, r117, r118, r119, r120, r121, r122, r123, r124, r125, r126, r127, r128, r129, r130, r131, r132, r133, r134, r135]
inductive S3b (A5 A6 A12 : Value) : List Value → Prop
  | mk {r0 r1 r2 r3 r4 r7 r8 r9 r10 r11 r13 r14 r15 r16 r17 r18 r19 r20 r21 r22 r23 r24 r25 r26 r27 r28 r29 r30 r31 r32 r33 r34 r35 r36 r37 r38 r39 r40 r41 r42 r43 r44 r45 r46 r47 r48 r49 r50 r51 r52 r53 r54 r55 r56 r57 r58 r59 r60 r61 r62 r63 r64 r65 r66 r67 r68 r69 r70 r71 r72 r73 r74 r75 r76 r77 r78 r79 r80 r81 r82 r83 r84 r85 r86 r87 r88 r89 r90 r91 r92 r93 r94 r95 r96 r97 r98 r99 r100 r101 r102 r103 r104 r105 r106 r107 r108 r109 r110 r111 r112 r113 r114 r115 r116 r117 r118 r119 r120 r121 r122 r123 r124 r125 r126 r127 r128 r129 r130 r131 r132 r133 r134 r135 : Value} : S3b A5 A6 A12 [r0, r1, r2, r3, r4, A5, A6, r7, r8, r9, r10, r11, A12, r13, r14, r15, r16, r17, r18, r19, r20, r21, r22, r23, r24, r25, r26, r27, r28, r29, r30, r31, r32, r33, r34, r35, r36, r37, r38, r39, r40, r41, r42, r43, r44, r45, r46, r47, r48, r49, r50, r51, r52, r53, r54, r55, r56, r57, r58, r59, r60, r61, r62, r63, r64, r65, r66, r67, r68, r69, r70, r71, r72, r73, r74, r75, r76, r77, r78, r79, r80, r81, r82, r83, r84, r85, r86, r87, r88, r89, r90, r91, r92, r93, r94, r95, r96, r97, r98, r99, r100, r101, r102, r103, r104, r105, r106, r107, r108, r109, r110, r111, r112, r113, r114, r115, r116, r117, r118, r119, r120, r121, r122, r123, r124, r125, r126, r127, r128, r129, r130, r131, r132, r133, r134, r135]
def I31 (sa svb svx svy : Value) (H : Heap) (n : Nat) (j : Nat) (S : List Value) (H' : Heap) : Prop := j ≤ n ∧ S3a sa svb svx svy (.int .i64 (j : Int)) S ∧ H' = H
theorem l31 {Qp : Post} {H : Heap} {sa svb svx svy : Value} {outs : List Sc} {rs : List PR} (hx : InS Sc.c4 4 svx H outs) (hy : InS Sc.c4 4 svy H outs) (hb : PtrS rwR svb H rs) (hord : (rs.map fun y => y.2.ad).Nodup → (outs.map Sc.ad).Pairwise Ad.lt) (S : List Value)
    (hS : S3a sa svb svx svy (.int .i64 0) S) (hQ : ∀ S i, S3a sa svb svx svy i S → Qp (.exit 0) S H) : SLoop Try.prog X3_l1 Qp S H := by
  have hx0 := hx
  have hy0 := hy
  obtain ⟨xa, xc, rfl, hml⟩ := hx.sv
  obtain ⟨ya, yc, rfl, _⟩ := hy.sv
  obtain ⟨ba, bc, rfl, _⟩ := hb.sv
  have hml' : outs.length ≤ 9223372036854775807 := by simp only [maxLen] at hml; omega
  refine SLoop.invA (I31 sa (.slice ba rs.length bc) (.slice xa outs.length xc) (.slice ya outs.length yc) H outs.length) (fun j => outs.length - j) 0 (Keep.all ⟨by omega, hS, rfl⟩) ?_
  rintro j S H' ⟨hj, hS, rfl⟩ R hR
  cases hS
  by_cases hlt : j < outs.length
  · obtain ⟨s, hs, _, _⟩ := list_at hlt
    obtain ⟨r1, o1, c1, b1, e1, hm1, hc1⟩ := inS_at hx (fun _ => rfl) hs
    obtain ⟨r2, o2, c2, b2, e2, hm2, hc2⟩ := inS_at hy (fun _ => rfl) hs
    injection e1 with e1 _ e3
    injection e2 with e2 _ e4
    subst e1
    subst e2
    have next : ∀ S, S3a sa (.slice ba rs.length bc) (.slice (some ⟨r1, o1, none⟩) outs.length xc) (.slice (some ⟨r2, o2, none⟩) outs.length yc) (.int .i64 ((j + 1 : Nat) : Int)) S → R S H' := fun S h => hR (j + 1) _ _ (by omega) (Keep.all ⟨by omega, h, rfl⟩)
    have hc11 : ∀ (K : Value → Heap → Prop), ((rs.map fun y => y.2.ad).Nodup → K (.bool true) H') → (¬ (rs.map fun y => y.2.ad).Nodup → K (.bool false) H') → SCalls Try.prog 11 [.slice ba rs.length bc] H' K :=
      fun K h1 h0 => c11 hb.sl hb.at_ h1 h0
    clear hQ hR
    rcases Nat.eq_zero_or_pos j with rfl | hpos
    · repeat' ((conv => whnf); (first
          | refine Look.cells hm1 rfl hc1 ?_
          | refine Look.cells hm2 rfl hc2 ?_
          | refine hc11 _ (fun _ => ?_) (fun _ => ?_)
          | refine New.mk (fun _ => ?_)
          | refine Look.at0 ?_
          | refine Cell.row ?_
          | refine Cell.buf ?_
          | refine Cells.row rfl ?_
          | refine Put.row rfl ?_
          | refine Put.buf rfl ?_
          | refine Look.at1 ?_
          | refine Look.at2 ?_
          | refine Look.at3 ?_
          | refine Look.at4 ?_
          | refine Look.at5 ?_
          | refine Look.at6 ?_
          | refine Look.at7 ?_
          | refine Look.at8 ?_
          | with_reducible refine Val.i64 (by omega) (by omega) ?_
          | with_reducible refine Val.u8 (by omega) (by omega) ?_
          | with_reducible refine Val.u32 (by omega) (by omega) ?_
          | with_reducible refine Val.u64 (by omega) (by omega) ?_
          | with_reducible refine Val.u8m ?_
          | with_reducible refine Val.u32m ?_
          | with_reducible refine Val.u64m ?_
          | with_reducible refine Val.shr8 ?_
          | with_reducible refine Val.shr16 (by decide) ?_
          | with_reducible refine Val.shr24 (by decide) ?_
          | with_reducible refine Val.raw ?_
          | refine Branch.not ?_
          | refine Branch.and ?_
          | refine Branch.or ?_
          | refine Branch.dt (by assumption) ?_
          | refine Branch.df (by assumption) ?_
          | refine Branch.dt rfl ?_
          | refine Branch.dt (by omega) ?_
          | refine Branch.df (by omega) ?_
          | refine Branch.t rfl ?_
          | refine Branch.f rfl ?_
          | refine Branch.t (by assumption) ?_
          | refine Branch.f (by assumption) ?_
          | refine Branch.d (fun _ => ?_) (fun _ => ?_)
          | refine Branch.mk (fun _ => ?_) (fun _ => ?_)
          | refine Need.mk (by first | omega | decide | rfl) ?_
          | refine Idx.nat (by omega) ?_
          | refine Idx.auto (by first | omega | decide) (by first | omega | decide) ?_
          | refine Cell.ro rfl ?_
          | refine SDraw.all (by kernel_rfl) ?_
          | refine Kept.k0 ?_
          | refine Kept.k1 ?_
          | refine Kept.k2 ?_
          | refine Kept.k3 ?_
          | refine Kept.k4 ?_))
      all_goals (conv => whnf)
      all_goals exact next _ .mk
    · obtain ⟨s0, hs0, _, _⟩ := list_at (L := outs) (j := j - 1) (by omega)
      obtain ⟨r3, o3, c3, b3, e5, hm3, hc3⟩ := inS_at hx0 (fun _ => rfl) hs0
      injection e5 with e5 _ e6
      injection e5 with e5
      injection e5 with e7 e8
      subst e7
      subst e8
      have key : (rs.map fun y => y.2.ad).Nodup → s0.ad.lt s.ad := fun hnd => by
        have h1 := List.pairwise_iff_getElem.1 (hord hnd)
        obtain ⟨g1, g2⟩ := List.getElem?_eq_some_iff.1 hs0
        obtain ⟨g3, g4⟩ := List.getElem?_eq_some_iff.1 hs
        have h2 := h1 (j - 1) j (by rw [List.length_map]; exact g1) (by rw [List.length_map]; exact g3) (by omega)
        rw [List.getElem_map, List.getElem_map, g2, g4] at h2
        exact h2
      have hi : IntKind.i64.wrap ((j : Int) - 1) = ((j - 1 : Nat) : Int) := by rw [wrap_i64 (by omega) (by omega)]; omega
      repeat' ((conv => whnf); (first
          | refine Look.cells hm1 rfl hc1 ?_
          | refine Look.cells hm2 rfl hc2 ?_
          | refine hc11 _ (fun hnd => ?_) (fun _ => ?_)
          | with_reducible refine ⟨_, hi, ?_⟩
          | refine Look.cells hm3 rfl hc3 ?_
          | refine c12 s0.ad s.ad ?_
          | refine Branch.dt (p := s0.ad.lt s.ad) ?_ ?_
          | refine New.mk (fun _ => ?_)
          | refine Look.at0 ?_
          | refine Cell.row ?_
          | refine Cell.buf ?_
          | refine Cells.row rfl ?_
          | refine Put.row rfl ?_
          | refine Put.buf rfl ?_
          | refine Look.at1 ?_
          | refine Look.at2 ?_
          | refine Look.at3 ?_
          | refine Look.at4 ?_
          | refine Look.at5 ?_
          | refine Look.at6 ?_
          | refine Look.at7 ?_
          | refine Look.at8 ?_
          | with_reducible refine Val.i64 (by omega) (by omega) ?_
          | with_reducible refine Val.u8 (by omega) (by omega) ?_
          | with_reducible refine Val.u32 (by omega) (by omega) ?_
          | with_reducible refine Val.u64 (by omega) (by omega) ?_
          | with_reducible refine Val.u8m ?_
          | with_reducible refine Val.u32m ?_
          | with_reducible refine Val.u64m ?_
          | with_reducible refine Val.shr8 ?_
          | with_reducible refine Val.shr16 (by decide) ?_
          | with_reducible refine Val.shr24 (by decide) ?_
          | with_reducible refine Val.raw ?_
          | refine Branch.not ?_
          | refine Branch.and ?_
          | refine Branch.or ?_
          | refine Branch.dt (by assumption) ?_
          | refine Branch.df (by assumption) ?_
          | refine Branch.dt rfl ?_
          | refine Branch.dt (by omega) ?_
          | refine Branch.df (by omega) ?_
          | refine Branch.t rfl ?_
          | refine Branch.f rfl ?_
          | refine Branch.t (by assumption) ?_
          | refine Branch.f (by assumption) ?_
          | refine Branch.d (fun _ => ?_) (fun _ => ?_)
          | refine Branch.mk (fun _ => ?_) (fun _ => ?_)
          | refine Need.mk (by first | omega | decide | rfl) ?_
          | refine Idx.nat (by omega) ?_
          | refine Idx.auto (by first | omega | decide) (by first | omega | decide) ?_
          | refine Cell.ro rfl ?_
          | refine SDraw.all (by kernel_rfl) ?_
          | refine Kept.k0 ?_
          | refine Kept.k1 ?_
          | refine Kept.k2 ?_
          | refine Kept.k3 ?_
          | refine Kept.k4 ?_))
      all_goals (conv => whnf)
      all_goals first
        | exact next _ .mk
        | exact key hnd
  · repeat' ((conv => whnf); (first
        | refine New.mk (fun _ => ?_)
        | refine Look.at0 ?_
        | refine Cell.row ?_
        | refine Cell.buf ?_
        | refine Cells.row rfl ?_
        | refine Put.row rfl ?_
        | refine Put.buf rfl ?_
        | refine Look.at1 ?_
        | refine Look.at2 ?_
        | refine Look.at3 ?_
        | refine Look.at4 ?_
        | refine Look.at5 ?_
        | refine Look.at6 ?_
        | refine Look.at7 ?_
        | refine Look.at8 ?_
        | with_reducible refine Val.i64 (by omega) (by omega) ?_
        | with_reducible refine Val.u8 (by omega) (by omega) ?_
        | with_reducible refine Val.u32 (by omega) (by omega) ?_
        | with_reducible refine Val.u64 (by omega) (by omega) ?_
        | with_reducible refine Val.u8m ?_
        | with_reducible refine Val.u32m ?_
        | with_reducible refine Val.u64m ?_
        | with_reducible refine Val.shr8 ?_
        | with_reducible refine Val.shr16 (by decide) ?_
        | with_reducible refine Val.shr24 (by decide) ?_
        | with_reducible refine Val.raw ?_
        | refine Branch.not ?_
        | refine Branch.and ?_
        | refine Branch.or ?_
        | refine Branch.dt (by assumption) ?_
        | refine Branch.df (by assumption) ?_
        | refine Branch.dt rfl ?_
        | refine Branch.dt (by omega) ?_
        | refine Branch.df (by omega) ?_
        | refine Branch.t rfl ?_
        | refine Branch.f rfl ?_
        | refine Branch.t (by assumption) ?_
        | refine Branch.f (by assumption) ?_
        | refine Branch.d (fun _ => ?_) (fun _ => ?_)
        | refine Branch.mk (fun _ => ?_) (fun _ => ?_)
        | refine Need.mk (by first | omega | decide | rfl) ?_
        | refine Idx.nat (by omega) ?_
        | refine Idx.auto (by first | omega | decide) (by first | omega | decide) ?_
        | refine Cell.ro rfl ?_
        | refine SDraw.all (by kernel_rfl) ?_
        | refine Kept.k0 ?_
        | refine Kept.k1 ?_
        | refine Kept.k2 ?_
        | refine Kept.k3 ?_
        | refine Kept.k4 ?_))
    all_goals (conv => whnf)
    exact hQ _ _ .mk
def I30a (sva svb : Value) (H : Heap) (n : Nat) (j : Nat) (S : List Value) (H' : Heap) : Prop := j ≤ n ∧ S3b sva svb (.int .i64 (j : Int)) S ∧ H' = H
theorem l30 {Qp : Post} {H : Heap} {sva svb : Value} {ms : List PL} {rs : List PR} (ha : PtrS rwL sva H ms) (hb : PtrS rwR svb H rs) (hs : Sims ms rs) (S : List Value)
    (hS : S3b sva svb (.int .i64 0) S) (hQ : ∀ S i, S3b sva svb i S → Qp (.exit 2) S H) : SLoop Try.prog X3_l0 Qp S H := by
  obtain ⟨aa, ac, rfl, hml⟩ := ha.sv
  obtain ⟨ba, bc, rfl, _⟩ := hb.sv
  have hml' : ms.length ≤ 9223372036854775807 := by simp only [maxLen] at hml; omega
  have hlen := hs.len
  refine SLoop.invA (I30a (.slice aa ms.length ac) (.slice ba rs.length bc) H ms.length) (fun j => ms.length - j) 0 (Keep.all ⟨by omega, hS, rfl⟩) ?_
  rintro j S H' ⟨hj, hS, rfl⟩ R hR
  cases hS
  by_cases hlt : j < ms.length
  · obtain ⟨x, r1, o1, c1, b1, hx, e1, hm1, hc1, hxr⟩ := ha.get hlt
    obtain ⟨y, r2, o2, c2, b2, hy, e2, hm2, hc2, hyr⟩ := hb.get (j := j) (by omega)
    injection e1 with e1 _ e3
    injection e2 with e2 _ e4
    subst e1
    subst e2
    obtain ⟨y', hy', hsim⟩ := hs.at hx
    rw [hy] at hy'
    injection hy' with hy'
    subst hy'
    have next : ∀ S, S3b (.slice (some ⟨r1, o1, none⟩) ms.length ac) (.slice (some ⟨r2, o2, none⟩) rs.length bc) (.int .i64 ((j + 1 : Nat) : Int)) S → R S H' := fun S h => hR (j + 1) _ _ (by omega) (Keep.all ⟨by omega, h, rfl⟩)
    have g1 : x.2.pid = y.2.id := hsim.id.symm
    have g2 : x.2.uid = y.2.uid := hsim.uid.symm
    clear hQ hR
    repeat' ((conv => whnf); (first
        | refine Look.cell hm1 hc1 ?_
        | refine Look.cell hm2 hc2 ?_
        | refine c13m hxr ?_
        | refine Look.mem hyr (fun _ _ _ => ?_)
        | unfold rwR R.row
        | refine New.mk (fun _ => ?_)
        | refine Look.at0 ?_
        | refine Cell.row ?_
        | refine Cell.buf ?_
        | refine Cells.row rfl ?_
        | refine Put.row rfl ?_
        | refine Put.buf rfl ?_
        | refine Look.at1 ?_
        | refine Look.at2 ?_
        | refine Look.at3 ?_
        | refine Look.at4 ?_
        | refine Look.at5 ?_
        | refine Look.at6 ?_
        | refine Look.at7 ?_
        | refine Look.at8 ?_
        | with_reducible refine Val.i64 (by omega) (by omega) ?_
        | with_reducible refine Val.u8 (by omega) (by omega) ?_
        | with_reducible refine Val.u32 (by omega) (by omega) ?_
        | with_reducible refine Val.u64 (by omega) (by omega) ?_
        | with_reducible refine Val.u8m ?_
        | with_reducible refine Val.u32m ?_
        | with_reducible refine Val.u64m ?_
        | with_reducible refine Val.shr8 ?_
        | with_reducible refine Val.shr16 (by decide) ?_
        | with_reducible refine Val.shr24 (by decide) ?_
        | with_reducible refine Val.raw ?_
        | refine Branch.not ?_
        | refine Branch.and ?_
        | refine Branch.or ?_
        | refine Branch.dt (by assumption) ?_
        | refine Branch.df (by assumption) ?_
        | refine Branch.dt rfl ?_
        | refine Branch.dt (by omega) ?_
        | refine Branch.df (by omega) ?_
        | refine Branch.t rfl ?_
        | refine Branch.f rfl ?_
        | refine Branch.t (by assumption) ?_
        | refine Branch.f (by assumption) ?_
        | refine Branch.d (fun _ => ?_) (fun _ => ?_)
        | refine Branch.mk (fun _ => ?_) (fun _ => ?_)
        | refine Need.mk (by first | omega | decide | rfl) ?_
        | refine Idx.nat (by omega) ?_
        | refine Idx.auto (by first | omega | decide) (by first | omega | decide) ?_
        | refine Cell.ro rfl ?_
        | refine SDraw.all (by kernel_rfl) ?_
        | refine Kept.k0 ?_
        | refine Kept.k1 ?_
        | refine Kept.k2 ?_
        | refine Kept.k3 ?_
        | refine Kept.k4 ?_))
    all_goals (conv => whnf)
    all_goals exact next _ .mk
  · repeat' ((conv => whnf); (first
        | refine New.mk (fun _ => ?_)
        | refine Look.at0 ?_
        | refine Cell.row ?_
        | refine Cell.buf ?_
        | refine Cells.row rfl ?_
        | refine Put.row rfl ?_
        | refine Put.buf rfl ?_
        | refine Look.at1 ?_
        | refine Look.at2 ?_
        | refine Look.at3 ?_
        | refine Look.at4 ?_
        | refine Look.at5 ?_
        | refine Look.at6 ?_
        | refine Look.at7 ?_
        | refine Look.at8 ?_
        | with_reducible refine Val.i64 (by omega) (by omega) ?_
        | with_reducible refine Val.u8 (by omega) (by omega) ?_
        | with_reducible refine Val.u32 (by omega) (by omega) ?_
        | with_reducible refine Val.u64 (by omega) (by omega) ?_
        | with_reducible refine Val.u8m ?_
        | with_reducible refine Val.u32m ?_
        | with_reducible refine Val.u64m ?_
        | with_reducible refine Val.shr8 ?_
        | with_reducible refine Val.shr16 (by decide) ?_
        | with_reducible refine Val.shr24 (by decide) ?_
        | with_reducible refine Val.raw ?_
        | refine Branch.not ?_
        | refine Branch.and ?_
        | refine Branch.or ?_
        | refine Branch.dt (by assumption) ?_
        | refine Branch.df (by assumption) ?_
        | refine Branch.dt rfl ?_
        | refine Branch.dt (by omega) ?_
        | refine Branch.df (by omega) ?_
        | refine Branch.t rfl ?_
        | refine Branch.f rfl ?_
        | refine Branch.t (by assumption) ?_
        | refine Branch.f (by assumption) ?_
        | refine Branch.d (fun _ => ?_) (fun _ => ?_)
        | refine Branch.mk (fun _ => ?_) (fun _ => ?_)
        | refine Need.mk (by first | omega | decide | rfl) ?_
        | refine Idx.nat (by omega) ?_
        | refine Idx.auto (by first | omega | decide) (by first | omega | decide) ?_
        | refine Cell.ro rfl ?_
        | refine SDraw.all (by kernel_rfl) ?_
        | refine Kept.k0 ?_
        | refine Kept.k1 ?_
        | refine Kept.k2 ?_
        | refine Kept.k3 ?_
        | refine Kept.k4 ?_))
    all_goals (conv => whnf)
    exact hQ _ _ .mk
end Go.Proofs.Ytkegkhhfbfegoaa

/- Layer 20: all are found, and get their numbers: the law. -/
set_option linter.unusedVariables false
set_option linter.unusedSimpArgs false
set_option maxRecDepth 100000
set_option maxHeartbeats 4000000
namespace Go.Proofs.Ytkegkhhfbfegoaa
open Sx Ls
theorem inS_cut {α : Type} {f : α → List Value} {k : Nat} {a : Option Addr} {c n : Nat} {H : Heap} {L : List α} (h : InS f k (.slice a L.length c) H L) (hn : n ≤ L.length) : InS f k (.slice a (L.take n).length c) H (L.take n) := by
  obtain ⟨a', c', e, h1, h2⟩ := h
  injection e with e1 _ e3
  subst e1
  subst e3
  refine ⟨a, c, rfl, by rw [List.length_take]; omega, ?_⟩
  rcases h2 with rfl | ⟨r, o, b, rfl, hm, hc⟩
  · exact .inl (by simp)
  · refine .inr ⟨r, o, b, rfl, hm, fun j x i v hj hv hi => hc j x i v ?_ hv hi⟩
    rw [List.getElem?_take] at hj
    split at hj
    · exact hj
    · cases hj
section
variable {H : Heap} {acc : List Nd} {ra ca rb cb : Nat} {ms : List PL} {rs : List PR} {xs : List Int}
abbrev hp0 (H : Heap) (ra ca rb cb : Nat) (ms : List PL) (rs : List PR) : Heap := (H ++ (pB 42 rb cb (rs.map Prod.fst) :: (rs.map rwR ++ [pB 38 ra ca (ms.map Prod.fst)]))) ++ ms.map rwL
abbrev idB (q c : Nat) (xs : List Int) : Nat × Blk := (q, .buf 3 (xs.flatMap cI) (c * 1))
theorem slO_of {tb r c : Nat} {ad : List Nat} (h1 : ad.length ≤ c) (h2 : c ≤ maxLen) : SlO tb (some ⟨r, 0, none⟩) c [pB tb r c ad] ad := ⟨h1, h2, .inr ⟨r, rfl, rfl⟩⟩
/-- All of the program's. -/
theorem all9 {K : Value → Heap → Prop} {q c : Nat} (hst : St acc ms rs) (h1 : acc.length ≤ ca) (h2 : ca ≤ maxLen) (hxl : xs.length ≤ maxLen)
    (h : ∀ xa xc N, OutO (.slice xa (allP xs ms).1.length xc) N (allP xs ms).1 → K (.tuple ⟨[.slice xa (allP xs ms).1.length xc, .int .i64 (allP xs ms).2.1]⟩) ((N ++ (idB q c xs :: (H ++ (pB 38 ra ca (ms.map Prod.fst) :: (allP xs ms).2.2.map rwL)))) ++ ([pB 42 rb cb (rs.map Prod.fst)] ++ rs.map rwR))) :
    SCalls Try.prog 9 [.slice (some ⟨ra, 0, none⟩) acc.length ca, .slice (some ⟨q, 0, none⟩) xs.length c] (idB q c xs :: hp0 H ra ca rb cb ms rs) K := by
  have e : idB q c xs :: hp0 H ra ca rb cb ms rs = (idB q c xs :: (H ++ (pB 42 rb cb (rs.map Prod.fst) :: rs.map rwR))) ++ ([pB 38 ra ca (ms.map Prod.fst)] ++ ms.map rwL) := by simp [hp0]
  rw [e, ← hst.lm]
  refine SCalls.keep (c9 (slO_of (by rw [List.length_map, hst.lm]; exact h1) h2) (fun x hx => (hst.calm x hx).ok) (InS.buf (.head _) rfl (fun _ => rfl) hxl) ?_)
  intro sv N hO
  refine Keep.glue [N, [idB q c xs], H, [pB 42 rb cb (rs.map Prod.fst)], rs.map rwR, [pB 38 ra ca (ms.map Prod.fst)], (allP xs ms).2.2.map rwL] [0, 1, 2, 3, 4, 5, 6] [0, 1, 2, 5, 6, 3, 4] [] (by decide) (by simp [glue]) ?_
  obtain ⟨xa, xc, rfl, _⟩ := hO.inS.sv
  have := h xa xc N hO
  simpa [glue, List.append_assoc] using this
theorem all10 {K : Value → Heap → Prop} {G : Heap} {sx : Value} (hst : St acc ms rs) (h1 : acc.length ≤ cb) (h2 : cb ≤ maxLen) (hix : InS cI 1 sx G xs)
    (h : ∀ xa xc N, OutO (.slice xa (allP xs ms).1.length xc) N (allP xs ms).1 → K (.tuple ⟨[.slice xa (allP xs ms).1.length xc, .int .i64 (allP xs ms).2.1]⟩) (N ++ (G ++ ([pB 42 rb cb (rs.map Prod.fst)] ++ (allD xs rs).2.2.map rwR)))) :
    SCalls Try.prog 10 [.slice (some ⟨rb, 0, none⟩) acc.length cb, sx] (G ++ ([pB 42 rb cb (rs.map Prod.fst)] ++ rs.map rwR)) K := by
  rw [← hst.lr]
  have hok : ∀ x ∈ rs, x.2.Ok := fun x hx => by
    have : x.2 ∈ acc.map Nd.r := by rw [← hst.hrs]; exact List.mem_map_of_mem hx
    obtain ⟨y, hy, e⟩ := List.mem_map.1 this
    rw [← e]; exact Nd.r_ok (hst.ok y hy).1 (hst.ok y hy).2
  exact c10 (slO_of (by rw [List.length_map, hst.lr]; exact h1) h2) hok hix (fun sv N hO => by
    obtain ⟨e1, e2, _⟩ := (hst.sims).allP (xs := xs)
    rw [e1] at hO
    rw [e2]
    obtain ⟨xa, xc, rfl, _⟩ := hO.inS.sv; exact h xa xc N hO)
theorem allP_order {xs : List Int} (hst : St acc ms rs) (hd : (rs.map fun y => y.2.ad).Nodup) : ((allP xs ms).1.map Sc.ad).Pairwise Ad.lt := by
  unfold allP
  split
  · rename_i e
    obtain ⟨new, g1, g2, _⟩ := all_order xs ms [] (chk_range e).1 hst.calm (by rw [hst.adm]; exact hd)
    rw [g1]; exact g2
  · exact .nil
theorem all_sc {sv : Value} {nds : List Nd} (hin : InS Nd.cells 5 sv H nds) (hnd : ∀ x ∈ nds, x.Ok) {sa : Option Addr} {sc : Nat} (hix : InS cI 1 (.slice sa xs.length sc) H xs) (hcap : xs.length ≤ sc) :
    SCalls Try.prog 3 [sv, .slice sa xs.length sc] H fun v _ => v = .bool true := by
  obtain ⟨na, nc, rfl, hml⟩ := hin.sv
  obtain ⟨_, _, _, hml2⟩ := hix.sv
  have hml3 : xs.length ≤ 9223372036854775807 := by simp only [maxLen] at hml2; omega
  obtain ⟨xs', h14, hix', hcut⟩ : ∃ xs' : List Int, xs'.length ≤ 14 ∧ InS cI 1 (.slice sa xs'.length sc) H xs' ∧ (xs' = xs ∨ (14 < xs.length ∧ xs'.length = 14)) := by
    by_cases h : xs.length ≤ 14
    · exact ⟨xs, h, hix, .inl rfl⟩
    · have e : (xs.take 14).length = 14 := by rw [List.length_take]; omega
      exact ⟨xs.take 14, by omega, inS_cut hix (by omega), .inr ⟨by omega, e⟩⟩
  clear hix
  refine enter3 ?_
  rcases hcut with rfl | ⟨hgt, hxl⟩
  all_goals
    repeat' ((conv => whnf); (first
        | refine c8p hin hnd (most := 12) (by decide) (fun acc ra ca rb cb ms rs hst hac hca1 hca2 hcb1 hcb2 => ?_)
        | refine Idx.of xs'.length (by omega) (by omega) ?_
        | refine RawV.copyS (L := xs') (f := cI) (k := 1) (bytes := 8) (hix'.mono fun p hp => List.mem_append_left _ (List.mem_append_left _ hp)) rfl (by kernel_rfl) (by decide) (fun _ => rfl) (fun x u hu => by obtain rfl := List.mem_singleton.1 hu; rfl) (by omega) (fun q c hq1 hq2 => ?_)
        | refine all9 hst hca1 hca2 (by unfold maxLen; omega) (fun xa xc N1 hO1 => ?_)
        | refine all10 hst hcb1 hcb2 (hix'.mono fun p hp => List.mem_append_right _ (.tail _ (List.mem_append_left _ hp))) (fun ya yc N2 hO2 => ?_)
        | refine New.mk (fun _ => ?_)
        | refine Look.at0 ?_
        | refine Cell.row ?_
        | refine Cell.buf ?_
        | refine Cells.row rfl ?_
        | refine Put.row rfl ?_
        | refine Put.buf rfl ?_
        | refine Look.at1 ?_
        | refine Look.at2 ?_
        | refine Look.at3 ?_
        | refine Look.at4 ?_
        | refine Look.at5 ?_
        | refine Look.at6 ?_
        | refine Look.at7 ?_
        | refine Look.at8 ?_
        | with_reducible refine Val.i64 (by omega) (by omega) ?_
        | with_reducible refine Val.u8 (by omega) (by omega) ?_
        | with_reducible refine Val.u32 (by omega) (by omega) ?_
        | with_reducible refine Val.u64 (by omega) (by omega) ?_
        | with_reducible refine Val.u8m ?_
        | with_reducible refine Val.u32m ?_
        | with_reducible refine Val.u64m ?_
        | with_reducible refine Val.shr8 ?_
        | with_reducible refine Val.shr16 (by decide) ?_
        | with_reducible refine Val.shr24 (by decide) ?_
        | with_reducible refine Val.raw ?_
        | refine Branch.not ?_
        | refine Branch.and ?_
        | refine Branch.or ?_
        | refine Branch.dt (by assumption) ?_
        | refine Branch.df (by assumption) ?_
        | refine Branch.dt rfl ?_
        | refine Branch.dt (by omega) ?_
        | refine Branch.df (by omega) ?_
        | refine Branch.t rfl ?_
        | refine Branch.f rfl ?_
        | refine Branch.t (by assumption) ?_
        | refine Branch.f (by assumption) ?_
        | refine Branch.d (fun _ => ?_) (fun _ => ?_)
        | refine Branch.mk (fun _ => ?_) (fun _ => ?_)
        | refine Need.mk (by first | omega | decide | rfl) ?_
        | refine Idx.nat (by omega) ?_
        | refine Idx.auto (by first | omega | decide) (by first | omega | decide) ?_
        | refine Cell.ro rfl ?_
        | refine SDraw.all (by kernel_rfl) ?_
        | refine Kept.k0 ?_
        | refine Kept.k1 ?_
        | refine Kept.k2 ?_
        | refine Kept.k3 ?_
        | refine Kept.k4 ?_))
    obtain ⟨_, _, hsim⟩ := (hst.sims).allP (xs := xs')
    obtain ⟨hk1, hk2⟩ := allP_keep xs' ms
    have hk3 := allD_fst xs' rs
    have hord := allP_order (xs := xs') hst
    have hrads : (((allD xs' rs).2.2).map fun y => y.2.ad) = rs.map fun y => y.2.ad := by rw [hsim.ads, hk1]; exact hst.adm
    have hl1 : (allP xs' ms).2.2.length = acc.length := by have := congrArg List.length hk2; simp only [List.length_map] at this; rw [this, hst.lm]
    have hl2 : (allD xs' rs).2.2.length = acc.length := by have := congrArg List.length hk3; simp only [List.length_map] at this; rw [this, hst.lr]
    rw [← hrads] at hord
    have hx1 := hO1.inS
    have hx2 := hO2.inS
    generalize (allP xs' ms).2.2 = ms' at *
    generalize (allD xs' rs).2.2 = rs' at *
    generalize (allP xs' ms).1 = outs at *
    generalize (allP xs' ms).2.1 = er at *
    obtain ⟨HF, hHF⟩ : ∃ HF, HF = N2 ++ (N1 ++ idB q c xs' :: (H ++ pB 38 ra ca (ms.map Prod.fst) :: ms'.map rwL) ++ ([pB 42 rb cb (rs.map Prod.fst)] ++ rs'.map rwR)) := ⟨_, rfl⟩
    have g1 : InS Sc.c4 4 (.slice xa outs.length xc) HF outs := hx1.mono fun p hp => by rw [hHF]; simp [hp]
    have g2 : InS Sc.c4 4 (.slice ya outs.length yc) HF outs := hx2.mono fun p hp => by rw [hHF]; simp [hp]
    have g3 : PtrS rwL (.slice (some ⟨ra, 0, none⟩) ms'.length ca) HF ms' := ptrS_of (t := 38) (N := ca * 1) (by rw [show (ms'.map fun x => (rwL x).1) = ms.map Prod.fst from hk2, hHF]; simp [pB]) (fun x hx => by rw [hHF]; simp only [List.mem_append, List.mem_cons]; exact .inr (.inl (.inr (.inr (.inr (.inr (List.mem_map_of_mem hx))))))) (by unfold maxLen; omega)
    have g4 : PtrS rwR (.slice (some ⟨rb, 0, none⟩) rs'.length cb) HF rs' := ptrS_of (t := 42) (N := cb * 1) (by rw [show (rs'.map fun x => (rwR x).1) = rs.map Prod.fst from hk3, hHF]; simp [pB]) (fun x hx => by rw [hHF]; simp only [List.mem_append, List.mem_cons]; exact .inr (.inr (.inr (List.mem_map_of_mem hx)))) (by unfold maxLen; omega)
    rw [hl1] at g3
    rw [hl2] at g4
    rw [← hHF]
    clear hHF
    refine l31 g1 g2 g4 hord _ .mk (fun S i hS => ?_)
    cases hS
    repeat' ((conv => whnf); (first
        | refine l30 g3 g4 hsim _ .mk (fun S i hS => ?_)
        | refine New.mk (fun _ => ?_)
        | refine Look.at0 ?_
        | refine Cell.row ?_
        | refine Cell.buf ?_
        | refine Cells.row rfl ?_
        | refine Put.row rfl ?_
        | refine Put.buf rfl ?_
        | refine Look.at1 ?_
        | refine Look.at2 ?_
        | refine Look.at3 ?_
        | refine Look.at4 ?_
        | refine Look.at5 ?_
        | refine Look.at6 ?_
        | refine Look.at7 ?_
        | refine Look.at8 ?_
        | with_reducible refine Val.i64 (by omega) (by omega) ?_
        | with_reducible refine Val.u8 (by omega) (by omega) ?_
        | with_reducible refine Val.u32 (by omega) (by omega) ?_
        | with_reducible refine Val.u64 (by omega) (by omega) ?_
        | with_reducible refine Val.u8m ?_
        | with_reducible refine Val.u32m ?_
        | with_reducible refine Val.u64m ?_
        | with_reducible refine Val.shr8 ?_
        | with_reducible refine Val.shr16 (by decide) ?_
        | with_reducible refine Val.shr24 (by decide) ?_
        | with_reducible refine Val.raw ?_
        | refine Branch.not ?_
        | refine Branch.and ?_
        | refine Branch.or ?_
        | refine Branch.dt (by assumption) ?_
        | refine Branch.df (by assumption) ?_
        | refine Branch.dt rfl ?_
        | refine Branch.dt (by omega) ?_
        | refine Branch.df (by omega) ?_
        | refine Branch.t rfl ?_
        | refine Branch.f rfl ?_
        | refine Branch.t (by assumption) ?_
        | refine Branch.f (by assumption) ?_
        | refine Branch.d (fun _ => ?_) (fun _ => ?_)
        | refine Branch.mk (fun _ => ?_) (fun _ => ?_)
        | refine Need.mk (by first | omega | decide | rfl) ?_
        | refine Idx.nat (by omega) ?_
        | refine Idx.auto (by first | omega | decide) (by first | omega | decide) ?_
        | refine Cell.ro rfl ?_
        | refine SDraw.all (by kernel_rfl) ?_
        | refine Kept.k0 ?_
        | refine Kept.k1 ?_
        | refine Kept.k2 ?_
        | refine Kept.k3 ?_
        | refine Kept.k4 ?_))
    cases hS
    repeat' ((conv => whnf); (first
        | refine c9n (.head _) ?_
        | refine live_c ?_
        | refine New.mk (fun _ => ?_)
        | refine Look.at0 ?_
        | refine Cell.row ?_
        | refine Cell.buf ?_
        | refine Cells.row rfl ?_
        | refine Put.row rfl ?_
        | refine Put.buf rfl ?_
        | refine Look.at1 ?_
        | refine Look.at2 ?_
        | refine Look.at3 ?_
        | refine Look.at4 ?_
        | refine Look.at5 ?_
        | refine Look.at6 ?_
        | refine Look.at7 ?_
        | refine Look.at8 ?_
        | with_reducible refine Val.i64 (by omega) (by omega) ?_
        | with_reducible refine Val.u8 (by omega) (by omega) ?_
        | with_reducible refine Val.u32 (by omega) (by omega) ?_
        | with_reducible refine Val.u64 (by omega) (by omega) ?_
        | with_reducible refine Val.u8m ?_
        | with_reducible refine Val.u32m ?_
        | with_reducible refine Val.u64m ?_
        | with_reducible refine Val.shr8 ?_
        | with_reducible refine Val.shr16 (by decide) ?_
        | with_reducible refine Val.shr24 (by decide) ?_
        | with_reducible refine Val.raw ?_
        | refine Branch.not ?_
        | refine Branch.and ?_
        | refine Branch.or ?_
        | refine Branch.dt (by assumption) ?_
        | refine Branch.df (by assumption) ?_
        | refine Branch.dt rfl ?_
        | refine Branch.dt (by omega) ?_
        | refine Branch.df (by omega) ?_
        | refine Branch.t rfl ?_
        | refine Branch.f rfl ?_
        | refine Branch.t (by assumption) ?_
        | refine Branch.f (by assumption) ?_
        | refine Branch.d (fun _ => ?_) (fun _ => ?_)
        | refine Branch.mk (fun _ => ?_) (fun _ => ?_)
        | refine Need.mk (by first | omega | decide | rfl) ?_
        | refine Idx.nat (by omega) ?_
        | refine Idx.auto (by first | omega | decide) (by first | omega | decide) ?_
        | refine Cell.ro rfl ?_
        | refine SDraw.all (by kernel_rfl) ?_
        | refine Kept.k0 ?_
        | refine Kept.k1 ?_
        | refine Kept.k2 ?_
        | refine Kept.k3 ?_
        | refine Kept.k4 ?_))
    all_goals (conv => whnf)
    exact Keep.sub [] (List.nil_sublist _) rfl
end
theorem ScanAllW (a0a : Option Addr) (a0l : Nat) (a0c : Nat) (a1a : Option Addr) (a1l : Nat) (a1c : Nat) (w : World) (h0_0 : SliceAt 5 B65 R65 w a0a a0l a0c) (h1_0 : SliceAt 1 B3 R3 w a1a a1l a1c) :
    Calls Try.prog 3 #[.slice a0a a0l a0c, .slice a1a a1l a1c] w fun e w' => e = .returned (.bool true) ∧ Go.RowKit.Below w.heap.size w w' := by
  have hcap := h1_0.1
  obtain ⟨H, L, rfl, hin, hok, hw, hx⟩ := inS_of (f := Nd.cells) (Good := Nd.Ok) h0_0 (by decide) (fun _ => rfl) (fun cs h => nd_of h)
  obtain ⟨H2, X, rfl, hin2, _, hw2, hx2⟩ := inS_of (f := cI) (Good := fun _ => True) h1_0 (by decide) (fun _ => rfl) (fun cs ⟨x, h, _⟩ => ⟨x, h, trivial⟩)
  exact (all_sc (hin.mono fun p hp => List.mem_append_left _ hp) hok (hin2.mono fun p hp => List.mem_append_right _ hp) hcap).fin w (Holds.join hw hw2 hx hx2) (excl_join hx hx2)
end Go.Proofs.Ytkegkhhfbfegoaa

