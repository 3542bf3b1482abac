/- Layer 20: a scan asks the document's frames: the walk. -/
import Derived.Test.YtkegkhhfbfegoaaScS
set_option linter.unusedVariables false
set_option linter.unusedSimpArgs false
set_option maxRecDepth 100000
set_option maxHeartbeats 4000000
namespace Go.Proofs.Ytkegkhhfbfegoaa
open Sx Ls
abbrev cB (b : Bool) : List Value := [.bool b]
inductive S6 (A0 A1 A5 A6 A7 : Value) : List Value → Prop
  | mk {r2 r3 r4 r8 r9 r10 r11 r12 r13 r14 r15 r16 r17 r18 r19 r20 r21 r22 r23 r24 r25 r26 r27 r28 r29 r30 r31 r32 r33 r34 r35 r36 r37 r38 r39 r40 r41 r42 r43 r44 r45 r46 r47 r48 r49 r50 r51 r52 r53 r54 r55 r56 r57 r58 r59 r60 r61 r62 r63 r64 r65 r66 r67 r68 r69 r70 r71 r72 r73 r74 r75 r76 r77 r78 r79 r80 r81 r82 r83 r84 r85 r86 r87 r88 r89 r90 r91 r92 r93 r94 r95 r96 r97 r98 r99 r100 r101 r102 r103 r104 r105 r106 r107 r108 r109 r110 r111 r112 r113 r114 r115 r116 r117 r118 r119 r120 : Value} : S6 A0 A1 A5 A6 A7 [A0, A1, r2, r3, r4, A5, A6, A7, r8, r9, r10, r11, r12, r13, r14, r15, r16, r17, r18, r19, r20, r21, r22, r23, r24, r25, r26, r27, r28, r29, r30, r31, r32, r33, r34, r35, r36, r37, r38, r39, r40, r41, r42, r43, r44, r45, r46, r47, r48, r49, r50, r51, r52, r53, r54, r55, r56, r57, r58, r59, r60, r61, r62, r63, r64, r65, r66, r67, r68, r69, r70, r71, r72, r73, r74, r75, r76, r77, r78, r79, r80, r81, r82, r83, r84, r85, r86, r87, r88, r89, r90, r91, r92, r93, r94, r95, r96, r97, r98, r99, r100, r101, r102, r103, r104, r105, r106, r107, r108, r109, r110, r111, r112, r113, r114, r115, r116, r117, r118, r119, r120]
def I6 (sv tw : Value) (gs gd : Nat) (H : Heap) (n : Nat) (x : Nat × Sc) (S : List Value) (H' : Heap) : Prop :=
  x.1 ≤ n ∧ x.2.Ok ∧ x.2.ph = x.2.ph ∧ S6 sv tw (ptr gs) (ptr gd) (.int .i64 (x.1 : Int)) S ∧ H' = (gd, x.2.ref) :: (gs, x.2.row) :: H
section
variable {K : Value → Heap → Prop} {H : Heap} {sv : Value} {bs : List Bool}
theorem asks_sc (hin : InS cB 1 sv H bs) (tw : Int) (htw : 0 ≤ tw ∧ tw ≤ 255) : SCalls Try.prog 6 [sv, .int .u8 tw] H fun v _ => v = .bool true := by
  obtain ⟨sa, sc, rfl, hml⟩ := hin.sv
  have hml' : bs.length ≤ 9223372036854775807 := by simp only [maxLen] at hml; omega
  refine enter6 ?_
  have hA0 := fun (g : Nat) (K : Value → Heap → Prop) hk => c18 (K := K) (g := g) Sc.Ok.new true hk
  have hD0 := fun (g : Nat) (K : Value → Heap → Prop) hk => c19 (K := K) (g := g) Sc.Ok.new true hk
  repeat' ((conv => whnf); (first
      | refine c17 (fun gs => ?_)
      | refine SCalls.at1 (hA0 _ _ ?_)
      | refine SCalls.at0 (hD0 _ _ ?_)
      | refine New.mk (fun _ => ?_)
      | refine Look.at0 ?_
      | refine Cell.row ?_
      | refine Cell.buf ?_
      | refine Cells.row rfl ?_
      | refine Put.row rfl ?_
      | refine Put.buf rfl ?_
      | refine Look.at1 ?_
      | refine Look.at2 ?_
      | refine Look.at3 ?_
      | refine Look.at4 ?_
      | refine Look.at5 ?_
      | refine Look.at6 ?_
      | refine Look.at7 ?_
      | refine Look.at8 ?_
      | with_reducible refine Val.i64 (by omega) (by omega) ?_
      | with_reducible refine Val.u8 (by omega) (by omega) ?_
      | with_reducible refine Val.u32 (by omega) (by omega) ?_
      | with_reducible refine Val.u64 (by omega) (by omega) ?_
      | with_reducible refine Val.u8m ?_
      | with_reducible refine Val.u32m ?_
      | with_reducible refine Val.u64m ?_
      | with_reducible refine Val.shr8 ?_
      | with_reducible refine Val.shr16 (by decide) ?_
      | with_reducible refine Val.shr24 (by decide) ?_
      | with_reducible refine Val.raw ?_
      | refine Branch.not ?_
      | refine Branch.and ?_
      | refine Branch.or ?_
      | refine Branch.dt (by assumption) ?_
      | refine Branch.df (by assumption) ?_
      | refine Branch.dt rfl ?_
      | refine Branch.dt (by omega) ?_
      | refine Branch.df (by omega) ?_
      | refine Branch.t rfl ?_
      | refine Branch.f rfl ?_
      | refine Branch.t (by assumption) ?_
      | refine Branch.f (by assumption) ?_
      | refine Branch.d (fun _ => ?_) (fun _ => ?_)
      | refine Branch.mk (fun _ => ?_) (fun _ => ?_)
      | refine Need.mk (by first | omega | decide | rfl) ?_
      | refine Idx.nat (by omega) ?_
      | refine Idx.auto (by first | omega | decide) (by first | omega | decide) ?_
      | refine Cell.ro rfl ?_
      | refine SDraw.all (by kernel_rfl) ?_
      | refine Kept.k0 ?_
      | refine Kept.k1 ?_
      | refine Kept.k2 ?_
      | refine Kept.k3 ?_
      | refine Kept.k4 ?_))
  rename_i gd
  refine SLoop.invA (I6 (.slice sa bs.length sc) (.int .u8 tw) gs gd H bs.length) (fun x => bs.length - x.1) (0, Sc.new.ans true) (Keep.all ⟨by omega, Sc.Ok.new.ans true, rfl, .mk, rfl⟩) ?_
  rintro ⟨j, s⟩ S H' ⟨hj, hs, _, hS, rfl⟩ R hR
  dsimp only at hj hs hS hR ⊢
  cases hS
  by_cases hlt : j < bs.length ∧ j < 300
  · obtain ⟨hlt, h300⟩ := hlt
    obtain ⟨b, hb, _, _⟩ := list_at hlt
    obtain ⟨r, o, c', bk, e1, hm, hc⟩ := hin.at1 hb rfl
    injection e1 with e1 _ e3
    subst e1
    by_cases h3 : s.ph = 3
    · have hq := fun (K : Value → Heap → Prop) hk => c20 (K := K) (g := gs) hs (fun _ => hk) (fun e => absurd h3 e)
      have hqd := fun (K : Value → Heap → Prop) hk => c21 (K := K) (g := gd) hs (fun _ => hk) (fun e => absurd h3 e)
      have hs1 := hs
      obtain ⟨s2, e2⟩ : ∃ s2, s2 = s.ans b := ⟨_, rfl⟩
      have hs2 : s2.Ok := e2 ▸ hs1.ans b
      have hA := fun (K : Value → Heap → Prop) hk => c18 (K := K) (g := gs) hs1 b hk
      have hD := fun (K : Value → Heap → Prop) hk => c19 (K := K) (g := gd) hs1 b hk
      rw [← e2] at hA hD
      obtain ⟨s3, e3⟩ : ∃ s3, s3 = s2.ans true := ⟨_, rfl⟩
      have hs3 : s3.Ok := e3 ▸ hs2.ans true
      have hA2 := fun (K : Value → Heap → Prop) hk => c18 (K := K) (g := gs) hs2 true hk
      have hD2 := fun (K : Value → Heap → Prop) hk => c19 (K := K) (g := gd) hs2 true hk
      rw [← e3] at hA2 hD2
      repeat' ((conv => whnf); (first
          | refine SCalls.at1 (hq _ ?_)
          | refine SCalls.at1 (hqd _ ?_)
          | refine Look.cell (.tail _ (.tail _ (.tail _ (.tail _ hm)))) hc ?_
          | refine SCalls.at3 (hA _ ?_)
          | refine SCalls.at2 (hD _ ?_)
          | refine SCalls.at3 (hA2 _ ?_)
          | refine SCalls.at2 (hD2 _ ?_)
          | refine SCalls.at3 (c22 (fun hf0 => ?_) (fun hf1 => ?_))
          | refine SCalls.at4 (c23 ?_)
          | refine SCalls.at4 (c24 ?_)
          | refine Branch.f (by rw [hf0]; rfl) ?_
          | refine Branch.f (by rw [hf1]; rfl) ?_
          | refine Branch.f (by rw [beq_self_eq_true]; rfl) ?_
          | refine New.mk (fun _ => ?_)
          | refine Look.at0 ?_
          | refine Cell.row ?_
          | refine Cell.buf ?_
          | refine Cells.row rfl ?_
          | refine Put.row rfl ?_
          | refine Put.buf rfl ?_
          | refine Look.at1 ?_
          | refine Look.at2 ?_
          | refine Look.at3 ?_
          | refine Look.at4 ?_
          | refine Look.at5 ?_
          | refine Look.at6 ?_
          | refine Look.at7 ?_
          | refine Look.at8 ?_
          | with_reducible refine Val.i64 (by omega) (by omega) ?_
          | with_reducible refine Val.u8 (by omega) (by omega) ?_
          | with_reducible refine Val.u32 (by omega) (by omega) ?_
          | with_reducible refine Val.u64 (by omega) (by omega) ?_
          | with_reducible refine Val.u8m ?_
          | with_reducible refine Val.u32m ?_
          | with_reducible refine Val.u64m ?_
          | with_reducible refine Val.shr8 ?_
          | with_reducible refine Val.shr16 (by decide) ?_
          | with_reducible refine Val.shr24 (by decide) ?_
          | with_reducible refine Val.raw ?_
          | refine Branch.not ?_
          | refine Branch.and ?_
          | refine Branch.or ?_
          | refine Branch.dt (by assumption) ?_
          | refine Branch.df (by assumption) ?_
          | refine Branch.dt rfl ?_
          | refine Branch.dt (by omega) ?_
          | refine Branch.df (by omega) ?_
          | refine Branch.t rfl ?_
          | refine Branch.f rfl ?_
          | refine Branch.t (by assumption) ?_
          | refine Branch.f (by assumption) ?_
          | refine Branch.d (fun _ => ?_) (fun _ => ?_)
          | refine Branch.mk (fun _ => ?_) (fun _ => ?_)
          | refine Need.mk (by first | omega | decide | rfl) ?_
          | refine Idx.nat (by omega) ?_
          | refine Idx.auto (by first | omega | decide) (by first | omega | decide) ?_
          | refine Cell.ro rfl ?_
          | refine SDraw.all (by kernel_rfl) ?_
          | refine Kept.k0 ?_
          | refine Kept.k1 ?_
          | refine Kept.k2 ?_
          | refine Kept.k3 ?_
          | refine Kept.k4 ?_))
      all_goals (conv => whnf)
      all_goals first
        | exact hR (j + 1, s2) _ _ (by show bs.length - (j + 1) < bs.length - j; omega) (Keep.d3 ⟨by show j + 1 ≤ bs.length; omega, hs2, rfl, .mk, rfl⟩)
        | exact hR (j + 1, s3) _ _ (by show bs.length - (j + 1) < bs.length - j; omega) (Keep.d3 ⟨by show j + 1 ≤ bs.length; omega, hs3, rfl, .mk, rfl⟩)
    · have hq := fun (K : Value → Heap → Prop) hk => c20 (K := K) (g := gs) hs (fun e => absurd e h3) (fun _ => hk)
      have hqd := fun (K : Value → Heap → Prop) hk => c21 (K := K) (g := gd) hs (fun e => absurd e h3) (fun _ => hk)
      have hs1 : (askd s).Ok := hs.ask h3
      obtain ⟨s2, e2⟩ : ∃ s2, s2 = (askd s).ans b := ⟨_, rfl⟩
      have hs2 : s2.Ok := e2 ▸ hs1.ans b
      have hA := fun (K : Value → Heap → Prop) hk => c18 (K := K) (g := gs) hs1 b hk
      have hD := fun (K : Value → Heap → Prop) hk => c19 (K := K) (g := gd) hs1 b hk
      rw [← e2] at hA hD
      obtain ⟨s3, e3⟩ : ∃ s3, s3 = s2.ans true := ⟨_, rfl⟩
      have hs3 : s3.Ok := e3 ▸ hs2.ans true
      have hA2 := fun (K : Value → Heap → Prop) hk => c18 (K := K) (g := gs) hs2 true hk
      have hD2 := fun (K : Value → Heap → Prop) hk => c19 (K := K) (g := gd) hs2 true hk
      rw [← e3] at hA2 hD2
      repeat' ((conv => whnf); (first
          | refine SCalls.at1 (hq _ ?_)
          | refine SCalls.at1 (hqd _ ?_)
          | refine Look.cell (.tail _ (.tail _ (.tail _ (.tail _ hm)))) hc ?_
          | refine SCalls.at3 (hA _ ?_)
          | refine SCalls.at2 (hD _ ?_)
          | refine SCalls.at3 (hA2 _ ?_)
          | refine SCalls.at2 (hD2 _ ?_)
          | refine SCalls.at3 (c22 (fun hf0 => ?_) (fun hf1 => ?_))
          | refine SCalls.at4 (c23 ?_)
          | refine SCalls.at4 (c24 ?_)
          | refine Branch.f (by rw [hf0]; rfl) ?_
          | refine Branch.f (by rw [hf1]; rfl) ?_
          | refine Branch.f (by rw [beq_self_eq_true]; rfl) ?_
          | refine New.mk (fun _ => ?_)
          | refine Look.at0 ?_
          | refine Cell.row ?_
          | refine Cell.buf ?_
          | refine Cells.row rfl ?_
          | refine Put.row rfl ?_
          | refine Put.buf rfl ?_
          | refine Look.at1 ?_
          | refine Look.at2 ?_
          | refine Look.at3 ?_
          | refine Look.at4 ?_
          | refine Look.at5 ?_
          | refine Look.at6 ?_
          | refine Look.at7 ?_
          | refine Look.at8 ?_
          | with_reducible refine Val.i64 (by omega) (by omega) ?_
          | with_reducible refine Val.u8 (by omega) (by omega) ?_
          | with_reducible refine Val.u32 (by omega) (by omega) ?_
          | with_reducible refine Val.u64 (by omega) (by omega) ?_
          | with_reducible refine Val.u8m ?_
          | with_reducible refine Val.u32m ?_
          | with_reducible refine Val.u64m ?_
          | with_reducible refine Val.shr8 ?_
          | with_reducible refine Val.shr16 (by decide) ?_
          | with_reducible refine Val.shr24 (by decide) ?_
          | with_reducible refine Val.raw ?_
          | refine Branch.not ?_
          | refine Branch.and ?_
          | refine Branch.or ?_
          | refine Branch.dt (by assumption) ?_
          | refine Branch.df (by assumption) ?_
          | refine Branch.dt rfl ?_
          | refine Branch.dt (by omega) ?_
          | refine Branch.df (by omega) ?_
          | refine Branch.t rfl ?_
          | refine Branch.f rfl ?_
          | refine Branch.t (by assumption) ?_
          | refine Branch.f (by assumption) ?_
          | refine Branch.d (fun _ => ?_) (fun _ => ?_)
          | refine Branch.mk (fun _ => ?_) (fun _ => ?_)
          | refine Need.mk (by first | omega | decide | rfl) ?_
          | refine Idx.nat (by omega) ?_
          | refine Idx.auto (by first | omega | decide) (by first | omega | decide) ?_
          | refine Cell.ro rfl ?_
          | refine SDraw.all (by kernel_rfl) ?_
          | refine Kept.k0 ?_
          | refine Kept.k1 ?_
          | refine Kept.k2 ?_
          | refine Kept.k3 ?_
          | refine Kept.k4 ?_))
      all_goals (conv => whnf)
      all_goals first
        | exact hR (j + 1, s2) _ _ (by show bs.length - (j + 1) < bs.length - j; omega) (Keep.d3 ⟨by show j + 1 ≤ bs.length; omega, hs2, rfl, .mk, rfl⟩)
        | exact hR (j + 1, s3) _ _ (by show bs.length - (j + 1) < bs.length - j; omega) (Keep.d3 ⟨by show j + 1 ≤ bs.length; omega, hs3, rfl, .mk, rfl⟩)
  · by_cases hlt2 : j < bs.length
    · repeat' ((conv => whnf); (first
          | refine live_c ?_
          | refine New.mk (fun _ => ?_)
          | refine Look.at0 ?_
          | refine Cell.row ?_
          | refine Cell.buf ?_
          | refine Cells.row rfl ?_
          | refine Put.row rfl ?_
          | refine Put.buf rfl ?_
          | refine Look.at1 ?_
          | refine Look.at2 ?_
          | refine Look.at3 ?_
          | refine Look.at4 ?_
          | refine Look.at5 ?_
          | refine Look.at6 ?_
          | refine Look.at7 ?_
          | refine Look.at8 ?_
          | with_reducible refine Val.i64 (by omega) (by omega) ?_
          | with_reducible refine Val.u8 (by omega) (by omega) ?_
          | with_reducible refine Val.u32 (by omega) (by omega) ?_
          | with_reducible refine Val.u64 (by omega) (by omega) ?_
          | with_reducible refine Val.u8m ?_
          | with_reducible refine Val.u32m ?_
          | with_reducible refine Val.u64m ?_
          | with_reducible refine Val.shr8 ?_
          | with_reducible refine Val.shr16 (by decide) ?_
          | with_reducible refine Val.shr24 (by decide) ?_
          | with_reducible refine Val.raw ?_
          | refine Branch.not ?_
          | refine Branch.and ?_
          | refine Branch.or ?_
          | refine Branch.dt (by assumption) ?_
          | refine Branch.df (by assumption) ?_
          | refine Branch.dt rfl ?_
          | refine Branch.dt (by omega) ?_
          | refine Branch.df (by omega) ?_
          | refine Branch.t rfl ?_
          | refine Branch.f rfl ?_
          | refine Branch.t (by assumption) ?_
          | refine Branch.f (by assumption) ?_
          | refine Branch.d (fun _ => ?_) (fun _ => ?_)
          | refine Branch.mk (fun _ => ?_) (fun _ => ?_)
          | refine Need.mk (by first | omega | decide | rfl) ?_
          | refine Idx.nat (by omega) ?_
          | refine Idx.auto (by first | omega | decide) (by first | omega | decide) ?_
          | refine Cell.ro rfl ?_
          | refine SDraw.all (by kernel_rfl) ?_
          | refine Kept.k0 ?_
          | refine Kept.k1 ?_
          | refine Kept.k2 ?_
          | refine Kept.k3 ?_
          | refine Kept.k4 ?_))
      all_goals (conv => whnf)
      exact Keep.all rfl
    · repeat' ((conv => whnf); (first
          | refine live_c ?_
          | refine New.mk (fun _ => ?_)
          | refine Look.at0 ?_
          | refine Cell.row ?_
          | refine Cell.buf ?_
          | refine Cells.row rfl ?_
          | refine Put.row rfl ?_
          | refine Put.buf rfl ?_
          | refine Look.at1 ?_
          | refine Look.at2 ?_
          | refine Look.at3 ?_
          | refine Look.at4 ?_
          | refine Look.at5 ?_
          | refine Look.at6 ?_
          | refine Look.at7 ?_
          | refine Look.at8 ?_
          | with_reducible refine Val.i64 (by omega) (by omega) ?_
          | with_reducible refine Val.u8 (by omega) (by omega) ?_
          | with_reducible refine Val.u32 (by omega) (by omega) ?_
          | with_reducible refine Val.u64 (by omega) (by omega) ?_
          | with_reducible refine Val.u8m ?_
          | with_reducible refine Val.u32m ?_
          | with_reducible refine Val.u64m ?_
          | with_reducible refine Val.shr8 ?_
          | with_reducible refine Val.shr16 (by decide) ?_
          | with_reducible refine Val.shr24 (by decide) ?_
          | with_reducible refine Val.raw ?_
          | refine Branch.not ?_
          | refine Branch.and ?_
          | refine Branch.or ?_
          | refine Branch.dt (by assumption) ?_
          | refine Branch.df (by assumption) ?_
          | refine Branch.dt rfl ?_
          | refine Branch.dt (by omega) ?_
          | refine Branch.df (by omega) ?_
          | refine Branch.t rfl ?_
          | refine Branch.f rfl ?_
          | refine Branch.t (by assumption) ?_
          | refine Branch.f (by assumption) ?_
          | refine Branch.d (fun _ => ?_) (fun _ => ?_)
          | refine Branch.mk (fun _ => ?_) (fun _ => ?_)
          | refine Need.mk (by first | omega | decide | rfl) ?_
          | refine Idx.nat (by omega) ?_
          | refine Idx.auto (by first | omega | decide) (by first | omega | decide) ?_
          | refine Cell.ro rfl ?_
          | refine SDraw.all (by kernel_rfl) ?_
          | refine Kept.k0 ?_
          | refine Kept.k1 ?_
          | refine Kept.k2 ?_
          | refine Kept.k3 ?_
          | refine Kept.k4 ?_))
      all_goals (conv => whnf)
      exact Keep.all rfl
end
end Go.Proofs.Ytkegkhhfbfegoaa
