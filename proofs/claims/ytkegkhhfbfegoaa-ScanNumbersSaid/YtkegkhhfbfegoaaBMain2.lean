/- Layer 20: in another order: the walk. -/
import Derived.Test.YtkegkhhfbfegoaaBMain1

set_option linter.unusedVariables false
set_option linter.unusedSimpArgs false
set_option maxRecDepth 100000
set_option maxHeartbeats 4000000
namespace Go.Proofs.Ytkegkhhfbfegoaa
open Sx Ls
inductive S4a (A1 A5 A6 A7 A8 : Value) : List Value → Prop
  | mk {r0 r2 r3 r4 r9 r10 r11 r12 r13 r14 r15 r16 r17 r18 r19 r20 r21 r22 r23 r24 r25 r26 r27 r28 r29 r30 r31 r32 r33 r34 r35 r36 r37 r38 r39 r40 r41 r42 r43 r44 r45 r46 r47 r48 r49 r50 r51 r52 r53 r54 r55 r56 r57 r58 r59 r60 r61 r62 r63 r64 r65 r66 r67 r68 r69 r70 r71 r72 r73 r74 r75 r76 r77 r78 r79 r80 r81 r82 r83 r84 r85 r86 r87 r88 r89 r90 r91 r92 r93 r94 r95 r96 r97 r98 r99 r100 r101 r102 r103 r104 r105 r106 r107 r108 r109 r110 r111 r112 r113 r114 r115 r116 r117 r118 r119 r120 r121 r122 r123 r124 r125 r126 r127 r128 r129 r130 r131 r132 r133 r134 r135 r136 r137 r138 r139 r140 r141 : Value} : S4a A1 A5 A6 A7 A8 [r0, A1, r2, r3, r4, A5, A6, A7, A8, r9, r10, r11, r12, r13, r14, r15, r16, r17, r18, r19, r20, r21, r22, r23, r24, r25, r26, r27, r28, r29, r30, r31, r32, r33, r34, r35, r36, r37, r38, r39, r40, r41, r42, r43, r44, r45, r46, r47, r48, r49, r50, r51, r52, r53, r54, r55, r56, r57, r58, r59, r60, r61, r62, r63, r64, r65, r66, r67, r68, r69, r70, r71, r72, r73, r74, r75, r76, r77, r78, r79, r80, r81, r82, r83, r84, r85, r86, r87, r88, r89, r90, r91, r92, r93, r94, r95, r96, r97, r98, r99, r100, r101, r102, r103, r104, r105, r106, r107, r108, r109, r110, r111, r112, r113, r114, r115, r116, r117, r118, r119, r120, r121, r122, r123, r124, r125, r126, r127, r128, r129, r130, r131, r132, r133, r134, r135, r136, r137, r138, r139, r140, r141]
inductive S4b (A5 A7 A11 A13 A15 : Value) : List Value → Prop
  | mk {r0 r1 r2 r3 r4 r6 r8 r9 r10 r12 r14 r16 r17 r18 r19 r20 r21 r22 r23 r24 r25 r26 r27 r28 r29 r30 r31 r32 r33 r34 r35 r36 r37 r38 r39 r40 r41 r42 r43 r44 r45 r46 r47 r48 r49 r50 r51 r52 r53 r54 r55 r56 r57 r58 r59 r60 r61 r62 r63 r64 r65 r66 r67 r68 r69 r70 r71 r72 r73 r74 r75 r76 r77 r78 r79 r80 r81 r82 r83 r84 r85 r86 r87 r88 r89 r90 r91 r92 r93 r94 r95 r96 r97 r98 r99 r100 r101 r102 r103 r104 r105 r106 r107 r108 r109 r110 r111 r112 r113 r114 r115 r116 r117 r118 r119 r120 r121 r122 r123 r124 r125 r126 r127 r128 r129 r130 r131 r132 r133 r134 r135 r136 r137 r138 r139 r140 r141 : Value} : S4b A5 A7 A11 A13 A15 [r0, r1, r2, r3, r4, A5, r6, A7, r8, r9, r10, A11, r12, A13, r14, A15, r16, r17, r18, r19, r20, r21, r22, r23, r24, r25, r26, r27, r28, r29, r30, r31, r32, r33, r34, r35, r36, r37, r38, r39, r40, r41, r42, r43, r44, r45, r46, r47, r48, r49, r50, r51, r52, r53, r54, r55, r56, r57, r58, r59, r60, r61, r62, r63, r64, r65, r66, r67, r68, r69, r70, r71, r72, r73, r74, r75, r76, r77, r78, r79, r80, r81, r82, r83, r84, r85, r86, r87, r88, r89, r90, r91, r92, r93, r94, r95, r96, r97, r98, r99, r100, r101, r102, r103, r104, r105, r106, r107, r108, r109, r110, r111, r112, r113, r114, r115, r116, r117, r118, r119, r120, r121, r122, r123, r124, r125, r126, r127, r128, r129, r130, r131, r132, r133, r134, r135, r136, r137, r138, r139, r140, r141]
inductive S4c (A5 A7 A16 : Value) : List Value → Prop
  | mk {r0 r1 r2 r3 r4 r6 r8 r9 r10 r11 r12 r13 r14 r15 r17 r18 r19 r20 r21 r22 r23 r24 r25 r26 r27 r28 r29 r30 r31 r32 r33 r34 r35 r36 r37 r38 r39 r40 r41 r42 r43 r44 r45 r46 r47 r48 r49 r50 r51 r52 r53 r54 r55 r56 r57 r58 r59 r60 r61 r62 r63 r64 r65 r66 r67 r68 r69 r70 r71 r72 r73 r74 r75 r76 r77 r78 r79 r80 r81 r82 r83 r84 r85 r86 r87 r88 r89 r90 r91 r92 r93 r94 r95 r96 r97 r98 r99 r100 r101 r102 r103 r104 r105 r106 r107 r108 r109 r110 r111 r112 r113 r114 r115 r116 r117 r118 r119 r120 r121 r122 r123 r124 r125 r126 r127 r128 r129 r130 r131 r132 r133 r134 r135 r136 r137 r138 r139 r140 r141 : Value} : S4c A5 A7 A16 [r0, r1, r2, r3, r4, A5, r6, A7, r8, r9, r10, r11, r12, r13, r14, r15, A16, r17, r18, r19, r20, r21, r22, r23, r24, r25, r26, r27, r28, r29, r30, r31, r32, r33, r34, r35, r36, r37, r38, r39, r40, r41, r42, r43, r44, r45, r46, r47, r48, r49, r50, r51, r52, r53, r54, r55, r56, r57, r58, r59, r60, r61, r62, r63, r64, r65, r66, r67, r68, r69, r70, r71, r72, r73, r74, r75, r76, r77, r78, r79, r80, r81, r82, r83, r84, r85, r86, r87, r88, r89, r90, r91, r92, r93, r94, r95, r96, r97, r98, r99, r100, r101, r102, r103, r104, r105, r106, r107, r108, r109, r110, r111, r112, r113, r114, r115, r116, r117, r118, r119, r120, r121, r122, r123, r124, r125, r126, r127, r128, r129, r130, r131, r132, r133, r134, r135, r136, r137, r138, r139, r140, r141]
structure T4 where
  (k : Nat) (mb : List PL) (rb cb : Nat)
def I42 (sx sva svb : Value) (G : Heap) (n : Nat) (acc : List Nd) (x : T4) (S : List Value) (H : Heap) : Prop :=
  x.k ≤ n ∧ x.mb.map Prod.snd = (acc.map Nd.l).reverse.take x.k ∧ x.k ≤ x.cb ∧ x.cb ≤ maxLen ∧ S4a sx sva svb (.slice (some ⟨x.rb, 0, none⟩) x.k x.cb) (.int .i64 ((n : Int) - 1 - (x.k : Int))) S ∧ H = pB 38 x.rb x.cb (x.mb.map Prod.fst) :: (x.mb.map rwL ++ G)
theorem l42 {Qp : Post} {sx sva svb : Value} {G : Heap} {acc : List Nd} {ms : List PL} {rs : List PR} {r0 : Nat} (hst : St acc ms rs) (hn : acc.length ≤ 20) (hb : PtrS rwR svb G rs) (S : List Value)
    (hS : S4a sx sva svb (.slice (some ⟨r0, 0, none⟩) 0 0) (.int .i64 ((acc.length : Int) - 1)) S)
    (hQ : ∀ S i (mb : List PL) r c, mb.map Prod.snd = (acc.map Nd.l).reverse → acc.length ≤ c → c ≤ maxLen → S4a sx sva svb (.slice (some ⟨r, 0, none⟩) acc.length c) i S → Qp (.exit 0) S (pB 38 r c (mb.map Prod.fst) :: (mb.map rwL ++ G))) :
    SLoop Try.prog X4_l2 Qp S ((r0, .row 38 [] (0, 0)) :: G) := by
  refine SLoop.toBuf (A := []) ?_
  refine SLoop.invA (I42 sx sva svb G acc.length acc) (fun x => acc.length - x.k) ⟨0, [], r0, 0⟩ (Keep.all ⟨by simp, by simp, Nat.le_refl 0, Nat.zero_le _, by show S4a _ _ _ _ (.int .i64 ((acc.length : Int) - 1 - ((0 : Nat) : Int))) _; rw [show (acc.length : Int) - 1 - ((0 : Nat) : Int) = (acc.length : Int) - 1 by omega]; exact hS, rfl⟩) ?_
  rintro ⟨k, mb, rb, cb⟩ S H' ⟨hk, hmb, hc1, hc2, hS, rfl⟩ R hR
  dsimp only at hk hmb hc1 hc2 hS hR ⊢
  have hlen : mb.length = k := by have := congrArg List.length hmb; simp at this; omega
  have hb0 := hb
  obtain ⟨ba, bc, rfl, _⟩ := hb.sv
  cases hS
  by_cases hlt : k < acc.length
  · obtain ⟨y, r, o, c', b, hy, e1, hm, hc, hyr⟩ := hb.get (j := acc.length - 1 - k) (by rw [hst.lr]; omega)
    injection e1 with e1 _ e3
    subst e1
    obtain ⟨x0, nd, hx0, hnd, g1, g2⟩ := hst.at hy
    obtain ⟨hok, hgood⟩ := hst.ok nd (List.mem_of_getElem? hnd)
    have hrev : (acc.map Nd.l).reverse.take (k + 1) = (acc.map Nd.l).reverse.take k ++ [nd.l] := by
      have h1 : (acc.map Nd.l).reverse[k]? = some nd.l := by
        rw [List.getElem?_reverse (by simpa using hlt), List.length_map, List.getElem?_map, hnd]; rfl
      obtain ⟨h2, h3⟩ := List.getElem?_eq_some_iff.1 h1
      rw [List.take_succ_eq_append_getElem h2, h3]
    have hrl : acc.length = rs.length := hst.lr.symm
    have next : ∀ (S : List Value) (gL r' c2 : Nat) (z : Nat × Blk), k + 1 ≤ c2 → c2 ≤ maxLen → S4a sx sva (.slice (some ⟨r, o, none⟩) rs.length bc) (.slice (some ⟨r', 0, none⟩) (k + 1) c2) (.int .i64 ((acc.length : Int) - 1 - (k : Int) - 1)) S →
        R S ((r', .buf 38 (ptrs (mb.map Prod.fst) ++ cP gL) (c2 * 1)) :: z :: (gL, nd.l.row none) :: (mb.map rwL ++ G)) := by
      intro S gL r' c2 z h1 h2 h3
      refine hR ⟨k + 1, mb ++ [(gL, nd.l)], r', c2⟩ _ _ (by show acc.length - (k + 1) < acc.length - k; omega)
        (Keep.glue [[(r', .buf 38 (ptrs (mb.map Prod.fst) ++ cP gL) (c2 * 1))], [z], [(gL, nd.l.row none)], mb.map rwL, G] [0, 1, 2, 3, 4] [0, 3, 2, 4] [1] (by decide) rfl ⟨by show k + 1 ≤ acc.length; omega, ?_, h1, h2, ?_, ?_⟩)
      · show (mb ++ [(gL, nd.l)]).map Prod.snd = (acc.map Nd.l).reverse.take (k + 1)
        rw [List.map_append, hmb, hrev]; rfl
      · show S4a _ _ _ _ (.int .i64 ((acc.length : Int) - 1 - ((k + 1 : Nat) : Int))) _
        rw [show (acc.length : Int) - 1 - ((k + 1 : Nat) : Int) = (acc.length : Int) - 1 - (k : Int) - 1 by omega]; exact h3
      · show _ = pB 38 r' c2 ((mb ++ [(gL, nd.l)]).map Prod.fst) :: ((mb ++ [(gL, nd.l)]).map rwL ++ G)
        simp [glue, pB, ptrs, rwL]
    have hcs : (ptrs (mb.map Prod.fst)).length = k * 1 := by simp [ptrs, hlen]
    have hm2 : (r, b) ∈ pB 38 rb cb (mb.map Prod.fst) :: (mb.map rwL ++ G) := .tail _ (List.mem_append_right _ hm)
    have hyr2 : rwR y ∈ pB 38 rb cb (mb.map Prod.fst) :: (mb.map rwL ++ G) := .tail _ (List.mem_append_right _ hyr)
    have hyv : rwR y = (y.1, nd.r.row) := by unfold rwR; rw [g2]
    rw [hyv] at hyr2
    clear hQ hR
    repeat' ((conv => whnf); (first
        | refine SDraw.held (by kernel_rfl) [(r, b), (y.1, nd.r.row)] (.same hm2 (.same hyr2 .nil)) ?_
        | refine Look.cell (.head _) hc ?_
        | refine Look.mem (b := nd.r.row) (.tail _ (.head _)) (fun _ _ _ => ?_)
        | unfold R.row Nd.r
        | refine Idx.of (acc.length - 1 - k) (by omega) (by omega) ?_
        | refine Ls.c7n nd.a0 nd.a1 nd.a2 nd.a3 nd.id hgood (fun gL => ?_)
        | refine Kept.mk (.same (.tail _ hm2) (.same (.tail _ hyr2) .nil)) ?_
        | refine RawV.appT (A := [_, _]) (e := 38) (size := 1) (bytes := 8) (m := 1) (news := [_]) rfl (by kernel_rfl) (by decide) hcs rfl hc1 hc2 (.head _) rfl (fun j v hj => by rw [Nat.zero_add]; exact hj) (by intro u hu; obtain rfl := List.mem_singleton.1 hu; rfl) (by unfold maxLen; omega) (by omega) (fun r' c2 h1 h2 => ?_)
        | refine New.mk (fun _ => ?_)
        | refine Look.at0 ?_
        | refine Cell.row ?_
        | refine Cell.buf ?_
        | refine Cells.row rfl ?_
        | refine Put.row rfl ?_
        | refine Put.buf rfl ?_
        | refine Look.at1 ?_
        | refine Look.at2 ?_
        | refine Look.at3 ?_
        | refine Look.at4 ?_
        | refine Look.at5 ?_
        | refine Look.at6 ?_
        | refine Look.at7 ?_
        | refine Look.at8 ?_
        | with_reducible refine Val.i64 (by omega) (by omega) ?_
        | with_reducible refine Val.u8 (by omega) (by omega) ?_
        | with_reducible refine Val.u32 (by omega) (by omega) ?_
        | with_reducible refine Val.u64 (by omega) (by omega) ?_
        | with_reducible refine Val.u8m ?_
        | with_reducible refine Val.u32m ?_
        | with_reducible refine Val.u64m ?_
        | with_reducible refine Val.shr8 ?_
        | with_reducible refine Val.shr16 (by decide) ?_
        | with_reducible refine Val.shr24 (by decide) ?_
        | with_reducible refine Val.raw ?_
        | refine Branch.not ?_
        | refine Branch.and ?_
        | refine Branch.or ?_
        | refine Branch.dt (by assumption) ?_
        | refine Branch.df (by assumption) ?_
        | refine Branch.dt rfl ?_
        | refine Branch.dt (by omega) ?_
        | refine Branch.df (by omega) ?_
        | refine Branch.t rfl ?_
        | refine Branch.f rfl ?_
        | refine Branch.t (by assumption) ?_
        | refine Branch.f (by assumption) ?_
        | refine Branch.d (fun _ => ?_) (fun _ => ?_)
        | refine Branch.mk (fun _ => ?_) (fun _ => ?_)
        | refine Need.mk (by first | omega | decide | rfl) ?_
        | refine Idx.nat (by omega) ?_
        | refine Idx.auto (by first | omega | decide) (by first | omega | decide) ?_
        | refine Cell.ro rfl ?_
        | refine SDraw.all (by kernel_rfl) ?_
        | refine Kept.k0 ?_
        | refine Kept.k1 ?_
        | refine Kept.k2 ?_
        | refine Kept.k3 ?_
        | refine Kept.k4 ?_))
    all_goals (conv => whnf)
    exact next _ _ _ _ _ h1 h2 .mk
  · have e : k = acc.length := by omega
    subst e
    rw [List.take_of_length_le (by simp)] at hmb
    repeat' ((conv => whnf); (first
        | refine New.mk (fun _ => ?_)
        | refine Look.at0 ?_
        | refine Cell.row ?_
        | refine Cell.buf ?_
        | refine Cells.row rfl ?_
        | refine Put.row rfl ?_
        | refine Put.buf rfl ?_
        | refine Look.at1 ?_
        | refine Look.at2 ?_
        | refine Look.at3 ?_
        | refine Look.at4 ?_
        | refine Look.at5 ?_
        | refine Look.at6 ?_
        | refine Look.at7 ?_
        | refine Look.at8 ?_
        | with_reducible refine Val.i64 (by omega) (by omega) ?_
        | with_reducible refine Val.u8 (by omega) (by omega) ?_
        | with_reducible refine Val.u32 (by omega) (by omega) ?_
        | with_reducible refine Val.u64 (by omega) (by omega) ?_
        | with_reducible refine Val.u8m ?_
        | with_reducible refine Val.u32m ?_
        | with_reducible refine Val.u64m ?_
        | with_reducible refine Val.shr8 ?_
        | with_reducible refine Val.shr16 (by decide) ?_
        | with_reducible refine Val.shr24 (by decide) ?_
        | with_reducible refine Val.raw ?_
        | refine Branch.not ?_
        | refine Branch.and ?_
        | refine Branch.or ?_
        | refine Branch.dt (by assumption) ?_
        | refine Branch.df (by assumption) ?_
        | refine Branch.dt rfl ?_
        | refine Branch.dt (by omega) ?_
        | refine Branch.df (by omega) ?_
        | refine Branch.t rfl ?_
        | refine Branch.f rfl ?_
        | refine Branch.t (by assumption) ?_
        | refine Branch.f (by assumption) ?_
        | refine Branch.d (fun _ => ?_) (fun _ => ?_)
        | refine Branch.mk (fun _ => ?_) (fun _ => ?_)
        | refine Need.mk (by first | omega | decide | rfl) ?_
        | refine Idx.nat (by omega) ?_
        | refine Idx.auto (by first | omega | decide) (by first | omega | decide) ?_
        | refine Cell.ro rfl ?_
        | refine SDraw.all (by kernel_rfl) ?_
        | refine Kept.k0 ?_
        | refine Kept.k1 ?_
        | refine Kept.k2 ?_
        | refine Kept.k3 ?_
        | refine Kept.k4 ?_))
    all_goals (conv => whnf)
    exact hQ _ _ mb rb cb hmb hc1 hc2 .mk
def I41 (sva svk svx svy : Value) (H : Heap) (n : Nat) (j : Nat) (S : List Value) (H' : Heap) : Prop := j ≤ n ∧ S4b sva svk svx svy (.int .i64 (j : Int)) S ∧ H' = H
theorem l41 {Qp : Post} {H : Heap} {sva svk svx svy : Value} {outs : List Sc} (hx : InS Sc.c4 4 svx H outs) (hy : InS Sc.c4 4 svy H outs) (S : List Value)
    (hS : S4b sva svk svx svy (.int .i64 0) S) (hQ : ∀ S i, S4b sva svk svx svy i S → Qp (.exit 2) S H) : SLoop Try.prog X4_l1 Qp S H := by
  obtain ⟨xa, xc, rfl, hml⟩ := hx.sv
  obtain ⟨ya, yc, rfl, _⟩ := hy.sv
  have hml' : outs.length ≤ 9223372036854775807 := by simp only [maxLen] at hml; omega
  refine SLoop.invA (I41 sva svk (.slice xa outs.length xc) (.slice ya outs.length yc) H outs.length) (fun j => outs.length - j) 0 (Keep.all ⟨by omega, hS, rfl⟩) ?_
  rintro j S H' ⟨hj, hS, rfl⟩ R hR
  cases hS
  by_cases hlt : j < outs.length
  · obtain ⟨s, hs, _, _⟩ := list_at hlt
    obtain ⟨r1, o1, c1, b1, e1, hm1, hc1⟩ := inS_at hx (fun _ => rfl) hs
    obtain ⟨r2, o2, c2, b2, e2, hm2, hc2⟩ := inS_at hy (fun _ => rfl) hs
    injection e1 with e1 _ e3
    injection e2 with e2 _ e4
    subst e1
    subst e2
    repeat' ((conv => whnf); (first
        | refine Look.cells hm1 rfl hc1 ?_
        | refine Look.cells hm2 rfl hc2 ?_
        | refine New.mk (fun _ => ?_)
        | refine Look.at0 ?_
        | refine Cell.row ?_
        | refine Cell.buf ?_
        | refine Cells.row rfl ?_
        | refine Put.row rfl ?_
        | refine Put.buf rfl ?_
        | refine Look.at1 ?_
        | refine Look.at2 ?_
        | refine Look.at3 ?_
        | refine Look.at4 ?_
        | refine Look.at5 ?_
        | refine Look.at6 ?_
        | refine Look.at7 ?_
        | refine Look.at8 ?_
        | with_reducible refine Val.i64 (by omega) (by omega) ?_
        | with_reducible refine Val.u8 (by omega) (by omega) ?_
        | with_reducible refine Val.u32 (by omega) (by omega) ?_
        | with_reducible refine Val.u64 (by omega) (by omega) ?_
        | with_reducible refine Val.u8m ?_
        | with_reducible refine Val.u32m ?_
        | with_reducible refine Val.u64m ?_
        | with_reducible refine Val.shr8 ?_
        | with_reducible refine Val.shr16 (by decide) ?_
        | with_reducible refine Val.shr24 (by decide) ?_
        | with_reducible refine Val.raw ?_
        | refine Branch.not ?_
        | refine Branch.and ?_
        | refine Branch.or ?_
        | refine Branch.dt (by assumption) ?_
        | refine Branch.df (by assumption) ?_
        | refine Branch.dt rfl ?_
        | refine Branch.dt (by omega) ?_
        | refine Branch.df (by omega) ?_
        | refine Branch.t rfl ?_
        | refine Branch.f rfl ?_
        | refine Branch.t (by assumption) ?_
        | refine Branch.f (by assumption) ?_
        | refine Branch.d (fun _ => ?_) (fun _ => ?_)
        | refine Branch.mk (fun _ => ?_) (fun _ => ?_)
        | refine Need.mk (by first | omega | decide | rfl) ?_
        | refine Idx.nat (by omega) ?_
        | refine Idx.auto (by first | omega | decide) (by first | omega | decide) ?_
        | refine Cell.ro rfl ?_
        | refine SDraw.all (by kernel_rfl) ?_
        | refine Kept.k0 ?_
        | refine Kept.k1 ?_
        | refine Kept.k2 ?_
        | refine Kept.k3 ?_
        | refine Kept.k4 ?_))
    all_goals (conv => whnf)
    exact hR (j + 1) _ _ (by omega) (Keep.all ⟨by omega, .mk, rfl⟩)
  · repeat' ((conv => whnf); (first
        | refine New.mk (fun _ => ?_)
        | refine Look.at0 ?_
        | refine Cell.row ?_
        | refine Cell.buf ?_
        | refine Cells.row rfl ?_
        | refine Put.row rfl ?_
        | refine Put.buf rfl ?_
        | refine Look.at1 ?_
        | refine Look.at2 ?_
        | refine Look.at3 ?_
        | refine Look.at4 ?_
        | refine Look.at5 ?_
        | refine Look.at6 ?_
        | refine Look.at7 ?_
        | refine Look.at8 ?_
        | with_reducible refine Val.i64 (by omega) (by omega) ?_
        | with_reducible refine Val.u8 (by omega) (by omega) ?_
        | with_reducible refine Val.u32 (by omega) (by omega) ?_
        | with_reducible refine Val.u64 (by omega) (by omega) ?_
        | with_reducible refine Val.u8m ?_
        | with_reducible refine Val.u32m ?_
        | with_reducible refine Val.u64m ?_
        | with_reducible refine Val.shr8 ?_
        | with_reducible refine Val.shr16 (by decide) ?_
        | with_reducible refine Val.shr24 (by decide) ?_
        | with_reducible refine Val.raw ?_
        | refine Branch.not ?_
        | refine Branch.and ?_
        | refine Branch.or ?_
        | refine Branch.dt (by assumption) ?_
        | refine Branch.df (by assumption) ?_
        | refine Branch.dt rfl ?_
        | refine Branch.dt (by omega) ?_
        | refine Branch.df (by omega) ?_
        | refine Branch.t rfl ?_
        | refine Branch.f rfl ?_
        | refine Branch.t (by assumption) ?_
        | refine Branch.f (by assumption) ?_
        | refine Branch.d (fun _ => ?_) (fun _ => ?_)
        | refine Branch.mk (fun _ => ?_) (fun _ => ?_)
        | refine Need.mk (by first | omega | decide | rfl) ?_
        | refine Idx.nat (by omega) ?_
        | refine Idx.auto (by first | omega | decide) (by first | omega | decide) ?_
        | refine Cell.ro rfl ?_
        | refine SDraw.all (by kernel_rfl) ?_
        | refine Kept.k0 ?_
        | refine Kept.k1 ?_
        | refine Kept.k2 ?_
        | refine Kept.k3 ?_
        | refine Kept.k4 ?_))
    all_goals (conv => whnf)
    exact hQ _ _ .mk
def I40 (sva svk : Value) (H : Heap) (n : Nat) (j : Nat) (S : List Value) (H' : Heap) : Prop := j ≤ n ∧ S4c sva svk (.int .i64 (j : Int)) S ∧ H' = H
theorem l40 {Qp : Post} {H : Heap} {sva svk : Value} {ms mb : List PL} (ha : PtrS rwL sva H ms) (hb : PtrS rwL svk H mb) (hr : Rv ms mb) (S : List Value)
    (hS : S4c sva svk (.int .i64 0) S) (hQ : ∀ S i, S4c sva svk i S → Qp (.exit 4) S H) : SLoop Try.prog X4_l0 Qp S H := by
  obtain ⟨aa, ac, rfl, hml⟩ := ha.sv
  obtain ⟨ba, bc, rfl, _⟩ := hb.sv
  have hml' : ms.length ≤ 9223372036854775807 := by simp only [maxLen] at hml; omega
  have hlen : mb.length = ms.length := by have := congrArg List.length hr; simpa using this
  refine SLoop.invA (I40 (.slice aa ms.length ac) (.slice ba mb.length bc) H ms.length) (fun j => ms.length - j) 0 (Keep.all ⟨by omega, hS, rfl⟩) ?_
  rintro j S H' ⟨hj, hS, rfl⟩ R hR
  cases hS
  by_cases hlt : j < ms.length
  · obtain ⟨x, r1, o1, c1, b1, hx, e1, hm1, hc1, hxr⟩ := ha.get hlt
    obtain ⟨y, r2, o2, c2, b2, hy, e2, hm2, hc2, hyr⟩ := hb.get (j := ms.length - 1 - j) (by omega)
    injection e1 with e1 _ e3
    injection e2 with e2 _ e4
    subst e1
    subst e2
    have hxy : y.2 = x.2 := by
      have h1 : (mb.map Prod.snd)[ms.length - 1 - j]? = some y.2 := by rw [List.getElem?_map, hy]; rfl
      rw [hr, List.getElem?_reverse (by simp; omega), List.length_map, List.getElem?_map, show ms.length - 1 - (ms.length - 1 - j) = j by omega, hx] at h1
      injection h1 with h1
      exact h1.symm
    have g2 : x.2.uid = y.2.uid := by rw [hxy]
    have next : ∀ S, S4c (.slice (some ⟨r1, o1, none⟩) ms.length ac) (.slice (some ⟨r2, o2, none⟩) mb.length bc) (.int .i64 ((j + 1 : Nat) : Int)) S → R S H' := fun S h => hR (j + 1) _ _ (by omega) (Keep.all ⟨by omega, h, rfl⟩)
    clear hQ hR
    repeat' ((conv => whnf); (first
        | refine Look.cell hm1 hc1 ?_
        | refine Look.cell hm2 hc2 ?_
        | refine c13m hxr ?_
        | refine c13m hyr ?_
        | refine Idx.nat hlt ?_
        | refine Idx.of (ms.length - 1 - j) (by omega) (by omega) ?_
        | refine New.mk (fun _ => ?_)
        | refine Look.at0 ?_
        | refine Cell.row ?_
        | refine Cell.buf ?_
        | refine Cells.row rfl ?_
        | refine Put.row rfl ?_
        | refine Put.buf rfl ?_
        | refine Look.at1 ?_
        | refine Look.at2 ?_
        | refine Look.at3 ?_
        | refine Look.at4 ?_
        | refine Look.at5 ?_
        | refine Look.at6 ?_
        | refine Look.at7 ?_
        | refine Look.at8 ?_
        | with_reducible refine Val.i64 (by omega) (by omega) ?_
        | with_reducible refine Val.u8 (by omega) (by omega) ?_
        | with_reducible refine Val.u32 (by omega) (by omega) ?_
        | with_reducible refine Val.u64 (by omega) (by omega) ?_
        | with_reducible refine Val.u8m ?_
        | with_reducible refine Val.u32m ?_
        | with_reducible refine Val.u64m ?_
        | with_reducible refine Val.shr8 ?_
        | with_reducible refine Val.shr16 (by decide) ?_
        | with_reducible refine Val.shr24 (by decide) ?_
        | with_reducible refine Val.raw ?_
        | refine Branch.not ?_
        | refine Branch.and ?_
        | refine Branch.or ?_
        | refine Branch.dt (by assumption) ?_
        | refine Branch.df (by assumption) ?_
        | refine Branch.dt rfl ?_
        | refine Branch.dt (by omega) ?_
        | refine Branch.df (by omega) ?_
        | refine Branch.t rfl ?_
        | refine Branch.f rfl ?_
        | refine Branch.t (by assumption) ?_
        | refine Branch.f (by assumption) ?_
        | refine Branch.d (fun _ => ?_) (fun _ => ?_)
        | refine Branch.mk (fun _ => ?_) (fun _ => ?_)
        | refine Need.mk (by first | omega | decide | rfl) ?_
        | refine Idx.nat (by omega) ?_
        | refine Idx.auto (by first | omega | decide) (by first | omega | decide) ?_
        | refine Cell.ro rfl ?_
        | refine SDraw.all (by kernel_rfl) ?_
        | refine Kept.k0 ?_
        | refine Kept.k1 ?_
        | refine Kept.k2 ?_
        | refine Kept.k3 ?_
        | refine Kept.k4 ?_))
    all_goals (conv => whnf)
    all_goals exact next _ .mk
  · repeat' ((conv => whnf); (first
        | refine New.mk (fun _ => ?_)
        | refine Look.at0 ?_
        | refine Cell.row ?_
        | refine Cell.buf ?_
        | refine Cells.row rfl ?_
        | refine Put.row rfl ?_
        | refine Put.buf rfl ?_
        | refine Look.at1 ?_
        | refine Look.at2 ?_
        | refine Look.at3 ?_
        | refine Look.at4 ?_
        | refine Look.at5 ?_
        | refine Look.at6 ?_
        | refine Look.at7 ?_
        | refine Look.at8 ?_
        | with_reducible refine Val.i64 (by omega) (by omega) ?_
        | with_reducible refine Val.u8 (by omega) (by omega) ?_
        | with_reducible refine Val.u32 (by omega) (by omega) ?_
        | with_reducible refine Val.u64 (by omega) (by omega) ?_
        | with_reducible refine Val.u8m ?_
        | with_reducible refine Val.u32m ?_
        | with_reducible refine Val.u64m ?_
        | with_reducible refine Val.shr8 ?_
        | with_reducible refine Val.shr16 (by decide) ?_
        | with_reducible refine Val.shr24 (by decide) ?_
        | with_reducible refine Val.raw ?_
        | refine Branch.not ?_
        | refine Branch.and ?_
        | refine Branch.or ?_
        | refine Branch.dt (by assumption) ?_
        | refine Branch.df (by assumption) ?_
        | refine Branch.dt rfl ?_
        | refine Branch.dt (by omega) ?_
        | refine Branch.df (by omega) ?_
        | refine Branch.t rfl ?_
        | refine Branch.f rfl ?_
        | refine Branch.t (by assumption) ?_
        | refine Branch.f (by assumption) ?_
        | refine Branch.d (fun _ => ?_) (fun _ => ?_)
        | refine Branch.mk (fun _ => ?_) (fun _ => ?_)
        | refine Need.mk (by first | omega | decide | rfl) ?_
        | refine Idx.nat (by omega) ?_
        | refine Idx.auto (by first | omega | decide) (by first | omega | decide) ?_
        | refine Cell.ro rfl ?_
        | refine SDraw.all (by kernel_rfl) ?_
        | refine Kept.k0 ?_
        | refine Kept.k1 ?_
        | refine Kept.k2 ?_
        | refine Kept.k3 ?_
        | refine Kept.k4 ?_))
    all_goals (conv => whnf)
    exact hQ _ _ .mk
end Go.Proofs.Ytkegkhhfbfegoaa

/- Layer 20: in another order: the law. -/
set_option linter.unusedVariables false
set_option linter.unusedSimpArgs false
set_option maxRecDepth 100000
set_option maxHeartbeats 4000000
namespace Go.Proofs.Ytkegkhhfbfegoaa
open Sx Ls
section
variable {H : Heap} {acc : List Nd} {ra ca rb cb rB cB : Nat} {ms mb : List PL} {rs : List PR} {xs : List Int}
/-- Behind the first scan of all. -/
abbrev hp1 (H : Heap) (ra ca rb cb rB cB : Nat) (ad : List Nat) (ms mb : List PL) (rs : List PR) (N : Heap) (b : Nat × Blk) : Heap :=
  N ++ (b :: (H ++ (pB 42 rb cb (rs.map Prod.fst) :: (rs.map rwR ++ (pB 38 ra ca ad :: (ms.map rwL ++ (pB 38 rB cB (mb.map Prod.fst) :: mb.map rwL)))))))
theorem all9a {K : Value → Heap → Prop} {q c : Nat} (hst : St acc ms rs) (h1 : acc.length ≤ ca) (h2 : ca ≤ maxLen) (hxl : xs.length ≤ maxLen)
    (h : ∀ xa xc N, OutO (.slice xa (allP xs ms).1.length xc) N (allP xs ms).1 → K (.tuple ⟨[.slice xa (allP xs ms).1.length xc, .int .i64 (allP xs ms).2.1]⟩) (hp1 H ra ca rb cb rB cB (ms.map Prod.fst) (allP xs ms).2.2 mb rs N (idB q c xs))) :
    SCalls Try.prog 9 [.slice (some ⟨ra, 0, none⟩) acc.length ca, .slice (some ⟨q, 0, none⟩) xs.length c] (idB q c xs :: pB 38 rB cB (mb.map Prod.fst) :: (mb.map rwL ++ hp0 H ra ca rb cb ms rs)) K := by
  have e : idB q c xs :: pB 38 rB cB (mb.map Prod.fst) :: (mb.map rwL ++ hp0 H ra ca rb cb ms rs) = (idB q c xs :: pB 38 rB cB (mb.map Prod.fst) :: (mb.map rwL ++ (H ++ (pB 42 rb cb (rs.map Prod.fst) :: rs.map rwR)))) ++ ([pB 38 ra ca (ms.map Prod.fst)] ++ ms.map rwL) := by simp [hp0]
  rw [e, ← hst.lm]
  refine SCalls.keep (c9 (slO_of (by rw [List.length_map, hst.lm]; exact h1) h2) (fun x hx => (hst.calm x hx).ok) (InS.buf (.head _) rfl (fun _ => rfl) hxl) ?_)
  intro sv N hO
  refine Keep.glue [N, [idB q c xs], [pB 38 rB cB (mb.map Prod.fst)], mb.map rwL, H, [pB 42 rb cb (rs.map Prod.fst)], rs.map rwR, [pB 38 ra ca (ms.map Prod.fst)], (allP xs ms).2.2.map rwL] [0, 1, 2, 3, 4, 5, 6, 7, 8] [0, 1, 4, 5, 6, 7, 8, 2, 3] [] (by decide) (by simp [glue]) ?_
  obtain ⟨xa, xc, rfl, _⟩ := hO.inS.sv
  have := h xa xc N hO
  simpa [glue, List.append_assoc, hp1] using this
theorem all9b {K : Value → Heap → Prop} {q c : Nat} {o : List Sc} {er : Int} (eo : (allP xs mb).1 = o) (ee : (allP xs mb).2.1 = er) {N : Heap} {b : Nat × Blk} {ad : List Nat} {msx : List PL} (hok : ∀ x ∈ mb, x.2.Ok) (hl : mb.length = acc.length) (h1 : acc.length ≤ cB) (h2 : cB ≤ maxLen) (hxl : xs.length ≤ maxLen)
    (h : ∀ xa xc N2, OutO (.slice xa o.length xc) N2 o → K (.tuple ⟨[.slice xa o.length xc, .int .i64 er]⟩) (N2 ++ (idB q c xs :: (N ++ (b :: (H ++ (pB 42 rb cb (rs.map Prod.fst) :: (rs.map rwR ++ (pB 38 ra ca ad :: (msx.map rwL ++ (pB 38 rB cB (mb.map Prod.fst) :: (allP xs mb).2.2.map rwL))))))))))) :
    SCalls Try.prog 9 [.slice (some ⟨rB, 0, none⟩) acc.length cB, .slice (some ⟨q, 0, none⟩) xs.length c] (idB q c xs :: hp1 H ra ca rb cb rB cB ad msx mb rs N b) K := by
  subst eo
  subst ee
  have e : idB q c xs :: hp1 H ra ca rb cb rB cB ad msx mb rs N b = (idB q c xs :: (N ++ (b :: (H ++ (pB 42 rb cb (rs.map Prod.fst) :: (rs.map rwR ++ (pB 38 ra ca ad :: msx.map rwL))))))) ++ ([pB 38 rB cB (mb.map Prod.fst)] ++ mb.map rwL) := by simp [hp1]
  rw [e, ← hl]
  refine SCalls.keep (c9 (slO_of (by rw [List.length_map, hl]; exact h1) h2) hok (InS.buf (.head _) rfl (fun _ => rfl) hxl) ?_)
  intro sv N2 hO
  refine Keep.all ?_
  obtain ⟨xa, xc, rfl, _⟩ := hO.inS.sv
  have := h xa xc N2 hO
  simpa [List.append_assoc] using this
theorem order_sc {sv : Value} {nds : List Nd} (hin : InS Nd.cells 5 sv H nds) (hnd : ∀ x ∈ nds, x.Ok) {sa : Option Addr} {sc : Nat} (hix : InS cI 1 (.slice sa xs.length sc) H xs) :
    SCalls Try.prog 4 [sv, .slice sa xs.length sc] H fun v _ => v = .bool true := by
  obtain ⟨na, nc, rfl, hml⟩ := hin.sv
  obtain ⟨_, _, _, hml2⟩ := hix.sv
  have hml3 : xs.length ≤ 9223372036854775807 := by simp only [maxLen] at hml2; omega
  refine enter4 ?_
  repeat' ((conv => whnf); (first
      | refine c8p hin hnd (most := 10) (by decide) (fun acc ra ca rb cb ms rs hst hac hca1 hca2 hcb1 hcb2 => ?_)
      | refine New.mk (fun _ => ?_)
      | refine Look.at0 ?_
      | refine Cell.row ?_
      | refine Cell.buf ?_
      | refine Cells.row rfl ?_
      | refine Put.row rfl ?_
      | refine Put.buf rfl ?_
      | refine Look.at1 ?_
      | refine Look.at2 ?_
      | refine Look.at3 ?_
      | refine Look.at4 ?_
      | refine Look.at5 ?_
      | refine Look.at6 ?_
      | refine Look.at7 ?_
      | refine Look.at8 ?_
      | with_reducible refine Val.i64 (by omega) (by omega) ?_
      | with_reducible refine Val.u8 (by omega) (by omega) ?_
      | with_reducible refine Val.u32 (by omega) (by omega) ?_
      | with_reducible refine Val.u64 (by omega) (by omega) ?_
      | with_reducible refine Val.u8m ?_
      | with_reducible refine Val.u32m ?_
      | with_reducible refine Val.u64m ?_
      | with_reducible refine Val.shr8 ?_
      | with_reducible refine Val.shr16 (by decide) ?_
      | with_reducible refine Val.shr24 (by decide) ?_
      | with_reducible refine Val.raw ?_
      | refine Branch.not ?_
      | refine Branch.and ?_
      | refine Branch.or ?_
      | refine Branch.dt (by assumption) ?_
      | refine Branch.df (by assumption) ?_
      | refine Branch.dt rfl ?_
      | refine Branch.dt (by omega) ?_
      | refine Branch.df (by omega) ?_
      | refine Branch.t rfl ?_
      | refine Branch.f rfl ?_
      | refine Branch.t (by assumption) ?_
      | refine Branch.f (by assumption) ?_
      | refine Branch.d (fun _ => ?_) (fun _ => ?_)
      | refine Branch.mk (fun _ => ?_) (fun _ => ?_)
      | refine Need.mk (by first | omega | decide | rfl) ?_
      | refine Idx.nat (by omega) ?_
      | refine Idx.auto (by first | omega | decide) (by first | omega | decide) ?_
      | refine Cell.ro rfl ?_
      | refine SDraw.all (by kernel_rfl) ?_
      | refine Kept.k0 ?_
      | refine Kept.k1 ?_
      | refine Kept.k2 ?_
      | refine Kept.k3 ?_
      | refine Kept.k4 ?_))
  have hlm := hst.lm
  have hlr := hst.lr
  have hpb : PtrS rwR (.slice (some ⟨rb, 0, none⟩) rs.length cb) (hp0 H ra ca rb cb ms rs) rs := ptrS_of (t := 42) (N := cb * 1) (by simp [hp0, pB, rwR]) (fun x hx => by simp only [hp0, List.mem_append, List.mem_cons]; exact .inl (.inr (.inr (.inl (List.mem_map_of_mem hx))))) (by unfold maxLen; omega)
  rw [hlr] at hpb
  have hc11 : ∀ (K : Value → Heap → Prop), ((rs.map fun y => y.2.ad).Nodup → K (.bool true) (hp0 H ra ca rb cb ms rs)) → (¬ (rs.map fun y => y.2.ad).Nodup → K (.bool false) (hp0 H ra ca rb cb ms rs)) → SCalls Try.prog 11 [.slice (some ⟨rb, 0, none⟩) acc.length cb] (hp0 H ra ca rb cb ms rs) K :=
    fun K h1 h0 => c11 hpb.sl hpb.at_ h1 h0
  by_cases hc : (rs.map fun y => y.2.ad).Nodup ∧ xs.length ≤ 12
  · obtain ⟨had, hxl⟩ := hc
    repeat' ((conv => whnf); (first
        | refine hc11 _ (fun _ => ?_) (fun hn => absurd had hn)
        | refine New.mk (fun _ => ?_)
        | refine Look.at0 ?_
        | refine Cell.row ?_
        | refine Cell.buf ?_
        | refine Cells.row rfl ?_
        | refine Put.row rfl ?_
        | refine Put.buf rfl ?_
        | refine Look.at1 ?_
        | refine Look.at2 ?_
        | refine Look.at3 ?_
        | refine Look.at4 ?_
        | refine Look.at5 ?_
        | refine Look.at6 ?_
        | refine Look.at7 ?_
        | refine Look.at8 ?_
        | with_reducible refine Val.i64 (by omega) (by omega) ?_
        | with_reducible refine Val.u8 (by omega) (by omega) ?_
        | with_reducible refine Val.u32 (by omega) (by omega) ?_
        | with_reducible refine Val.u64 (by omega) (by omega) ?_
        | with_reducible refine Val.u8m ?_
        | with_reducible refine Val.u32m ?_
        | with_reducible refine Val.u64m ?_
        | with_reducible refine Val.shr8 ?_
        | with_reducible refine Val.shr16 (by decide) ?_
        | with_reducible refine Val.shr24 (by decide) ?_
        | with_reducible refine Val.raw ?_
        | refine Branch.not ?_
        | refine Branch.and ?_
        | refine Branch.or ?_
        | refine Branch.dt (by assumption) ?_
        | refine Branch.df (by assumption) ?_
        | refine Branch.dt rfl ?_
        | refine Branch.dt (by omega) ?_
        | refine Branch.df (by omega) ?_
        | refine Branch.t rfl ?_
        | refine Branch.f rfl ?_
        | refine Branch.t (by assumption) ?_
        | refine Branch.f (by assumption) ?_
        | refine Branch.d (fun _ => ?_) (fun _ => ?_)
        | refine Branch.mk (fun _ => ?_) (fun _ => ?_)
        | refine Need.mk (by first | omega | decide | rfl) ?_
        | refine Idx.nat (by omega) ?_
        | refine Idx.auto (by first | omega | decide) (by first | omega | decide) ?_
        | refine Cell.ro rfl ?_
        | refine SDraw.all (by kernel_rfl) ?_
        | refine Kept.k0 ?_
        | refine Kept.k1 ?_
        | refine Kept.k2 ?_
        | refine Kept.k3 ?_
        | refine Kept.k4 ?_))
    refine l42 hst (by omega) hpb _ .mk (fun S i mb r cB hmb hc1 hc2 hS => ?_)
    cases hS
    have hrv : Rv ms mb := by unfold Rv; rw [hst.hms]; exact hmb
    have hlb : mb.length = acc.length := by have := congrArg List.length hmb; simpa using this
    have hokb : ∀ x ∈ mb, x.2.Ok := fun x hx => by
      have : x.2 ∈ (acc.map Nd.l).reverse := by rw [← hmb]; exact List.mem_map_of_mem hx
      obtain ⟨y, hy, e⟩ := List.mem_map.1 (List.mem_reverse.1 this)
      rw [← e]; exact Nd.l_ok (hst.ok y hy).1 (hst.ok y hy).2
    obtain ⟨q1, q2, q3⟩ := hrv.allP xs
    have hmem0 : ∀ p ∈ H, p ∈ pB 38 r cB (mb.map Prod.fst) :: (mb.map rwL ++ hp0 H ra ca rb cb ms rs) := fun p hp => by simp [hp0, hp]
    repeat' ((conv => whnf); (first
        | refine RawV.copyS (L := xs) (f := cI) (k := 1) (bytes := 8) (hix.mono hmem0) rfl (by kernel_rfl) (by decide) (fun _ => rfl) (fun x u hu => by obtain rfl := List.mem_singleton.1 hu; rfl) (by omega) (fun q c hq1 hq2 => ?_)
        | refine all9a hst hca1 hca2 (by unfold maxLen; omega) (fun xa xc N1 hO1 => ?_)
        | refine RawV.copyS (L := xs) (f := cI) (k := 1) (bytes := 8) (hix.mono (fun p hp => by simp [hp1, hp])) rfl (by kernel_rfl) (by decide) (fun _ => rfl) (fun x u hu => by obtain rfl := List.mem_singleton.1 hu; rfl) (by omega) (fun qb c2 hq3 hq4 => ?_)
        | refine all9b q1 q2 hokb hlb hc1 hc2 (by unfold maxLen; omega) (fun ya yc N2 hO2 => ?_)
        | refine New.mk (fun _ => ?_)
        | refine Look.at0 ?_
        | refine Cell.row ?_
        | refine Cell.buf ?_
        | refine Cells.row rfl ?_
        | refine Put.row rfl ?_
        | refine Put.buf rfl ?_
        | refine Look.at1 ?_
        | refine Look.at2 ?_
        | refine Look.at3 ?_
        | refine Look.at4 ?_
        | refine Look.at5 ?_
        | refine Look.at6 ?_
        | refine Look.at7 ?_
        | refine Look.at8 ?_
        | with_reducible refine Val.i64 (by omega) (by omega) ?_
        | with_reducible refine Val.u8 (by omega) (by omega) ?_
        | with_reducible refine Val.u32 (by omega) (by omega) ?_
        | with_reducible refine Val.u64 (by omega) (by omega) ?_
        | with_reducible refine Val.u8m ?_
        | with_reducible refine Val.u32m ?_
        | with_reducible refine Val.u64m ?_
        | with_reducible refine Val.shr8 ?_
        | with_reducible refine Val.shr16 (by decide) ?_
        | with_reducible refine Val.shr24 (by decide) ?_
        | with_reducible refine Val.raw ?_
        | refine Branch.not ?_
        | refine Branch.and ?_
        | refine Branch.or ?_
        | refine Branch.dt (by assumption) ?_
        | refine Branch.df (by assumption) ?_
        | refine Branch.dt rfl ?_
        | refine Branch.dt (by omega) ?_
        | refine Branch.df (by omega) ?_
        | refine Branch.t rfl ?_
        | refine Branch.f rfl ?_
        | refine Branch.t (by assumption) ?_
        | refine Branch.f (by assumption) ?_
        | refine Branch.d (fun _ => ?_) (fun _ => ?_)
        | refine Branch.mk (fun _ => ?_) (fun _ => ?_)
        | refine Need.mk (by first | omega | decide | rfl) ?_
        | refine Idx.nat (by omega) ?_
        | refine Idx.auto (by first | omega | decide) (by first | omega | decide) ?_
        | refine Cell.ro rfl ?_
        | refine SDraw.all (by kernel_rfl) ?_
        | refine Kept.k0 ?_
        | refine Kept.k1 ?_
        | refine Kept.k2 ?_
        | refine Kept.k3 ?_
        | refine Kept.k4 ?_))
    obtain ⟨hk1, hk2⟩ := allP_keep xs ms
    obtain ⟨_, hk3⟩ := allP_keep xs mb
    have hl1 : (allP xs ms).2.2.length = acc.length := by have := congrArg List.length hk2; simp only [List.length_map] at this; rw [this, hst.lm]
    have hl2 : (allP xs mb).2.2.length = acc.length := by have := congrArg List.length hk3; simp only [List.length_map] at this; rw [this, hlb]
    have hx1 := hO1.inS
    have hx2 := hO2.inS
    generalize (allP xs ms).2.2 = ms' at *
    generalize (allP xs mb).2.2 = mb' at *
    generalize (allP xs ms).1 = outs at *
    generalize (allP xs ms).2.1 = er at *
    obtain ⟨HF, hHF⟩ : ∃ HF, HF = N2 ++ (idB qb c2 xs :: (N1 ++ (idB q c xs :: (H ++ (pB 42 rb cb (rs.map Prod.fst) :: (rs.map rwR ++ (pB 38 ra ca (ms.map Prod.fst) :: (ms'.map rwL ++ (pB 38 r cB (mb.map Prod.fst) :: mb'.map rwL))))))))) := ⟨_, rfl⟩
    have g1 : InS Sc.c4 4 (.slice xa outs.length xc) HF outs := hx1.mono fun p hp => by rw [hHF]; simp [hp]
    have g2 : InS Sc.c4 4 (.slice ya outs.length yc) HF outs := hx2.mono fun p hp => by rw [hHF]; simp [hp]
    have g3 : PtrS rwL (.slice (some ⟨ra, 0, none⟩) ms'.length ca) HF ms' := ptrS_of (t := 38) (N := ca * 1) (by rw [show (ms'.map fun x => (rwL x).1) = ms.map Prod.fst from hk2, hHF]; simp [pB]) (fun x hx => by have := List.mem_map_of_mem (f := rwL) hx; rw [hHF]; simp only [List.mem_append, List.mem_cons]; simp only [this, true_or, or_true]) (by unfold maxLen; omega)
    have g4 : ∀ cc, PtrS rwL (.slice (some ⟨r, 0, none⟩) mb'.length cc) HF mb' := fun cc => ptrS_of (t := 38) (by rw [show (mb'.map fun x => (rwL x).1) = mb.map Prod.fst from hk3, hHF]; simp only [List.mem_append, List.mem_cons, pB]; exact .inr (.inr (.inr (.inr (.inr (.inr (.inr (.inr (.inr (.inl rfl)))))))))) (fun x hx => by have := List.mem_map_of_mem (f := rwL) hx; rw [hHF]; simp only [List.mem_append, List.mem_cons]; simp only [this, true_or, or_true]) (by unfold maxLen; omega)
    rw [hl1] at g3
    rw [hl2] at g4
    rw [← hHF]
    clear hHF
    refine l41 g1 g2 _ .mk (fun S i hS => ?_)
    cases hS
    repeat' ((conv => whnf); (first
        | refine l40 g3 (g4 _) q3 _ .mk (fun S i hS => ?_)
        | refine New.mk (fun _ => ?_)
        | refine Look.at0 ?_
        | refine Cell.row ?_
        | refine Cell.buf ?_
        | refine Cells.row rfl ?_
        | refine Put.row rfl ?_
        | refine Put.buf rfl ?_
        | refine Look.at1 ?_
        | refine Look.at2 ?_
        | refine Look.at3 ?_
        | refine Look.at4 ?_
        | refine Look.at5 ?_
        | refine Look.at6 ?_
        | refine Look.at7 ?_
        | refine Look.at8 ?_
        | with_reducible refine Val.i64 (by omega) (by omega) ?_
        | with_reducible refine Val.u8 (by omega) (by omega) ?_
        | with_reducible refine Val.u32 (by omega) (by omega) ?_
        | with_reducible refine Val.u64 (by omega) (by omega) ?_
        | with_reducible refine Val.u8m ?_
        | with_reducible refine Val.u32m ?_
        | with_reducible refine Val.u64m ?_
        | with_reducible refine Val.shr8 ?_
        | with_reducible refine Val.shr16 (by decide) ?_
        | with_reducible refine Val.shr24 (by decide) ?_
        | with_reducible refine Val.raw ?_
        | refine Branch.not ?_
        | refine Branch.and ?_
        | refine Branch.or ?_
        | refine Branch.dt (by assumption) ?_
        | refine Branch.df (by assumption) ?_
        | refine Branch.dt rfl ?_
        | refine Branch.dt (by omega) ?_
        | refine Branch.df (by omega) ?_
        | refine Branch.t rfl ?_
        | refine Branch.f rfl ?_
        | refine Branch.t (by assumption) ?_
        | refine Branch.f (by assumption) ?_
        | refine Branch.d (fun _ => ?_) (fun _ => ?_)
        | refine Branch.mk (fun _ => ?_) (fun _ => ?_)
        | refine Need.mk (by first | omega | decide | rfl) ?_
        | refine Idx.nat (by omega) ?_
        | refine Idx.auto (by first | omega | decide) (by first | omega | decide) ?_
        | refine Cell.ro rfl ?_
        | refine SDraw.all (by kernel_rfl) ?_
        | refine Kept.k0 ?_
        | refine Kept.k1 ?_
        | refine Kept.k2 ?_
        | refine Kept.k3 ?_
        | refine Kept.k4 ?_))
    cases hS
    repeat' ((conv => whnf); (first
        | refine live_c ?_
        | refine New.mk (fun _ => ?_)
        | refine Look.at0 ?_
        | refine Cell.row ?_
        | refine Cell.buf ?_
        | refine Cells.row rfl ?_
        | refine Put.row rfl ?_
        | refine Put.buf rfl ?_
        | refine Look.at1 ?_
        | refine Look.at2 ?_
        | refine Look.at3 ?_
        | refine Look.at4 ?_
        | refine Look.at5 ?_
        | refine Look.at6 ?_
        | refine Look.at7 ?_
        | refine Look.at8 ?_
        | with_reducible refine Val.i64 (by omega) (by omega) ?_
        | with_reducible refine Val.u8 (by omega) (by omega) ?_
        | with_reducible refine Val.u32 (by omega) (by omega) ?_
        | with_reducible refine Val.u64 (by omega) (by omega) ?_
        | with_reducible refine Val.u8m ?_
        | with_reducible refine Val.u32m ?_
        | with_reducible refine Val.u64m ?_
        | with_reducible refine Val.shr8 ?_
        | with_reducible refine Val.shr16 (by decide) ?_
        | with_reducible refine Val.shr24 (by decide) ?_
        | with_reducible refine Val.raw ?_
        | refine Branch.not ?_
        | refine Branch.and ?_
        | refine Branch.or ?_
        | refine Branch.dt (by assumption) ?_
        | refine Branch.df (by assumption) ?_
        | refine Branch.dt rfl ?_
        | refine Branch.dt (by omega) ?_
        | refine Branch.df (by omega) ?_
        | refine Branch.t rfl ?_
        | refine Branch.f rfl ?_
        | refine Branch.t (by assumption) ?_
        | refine Branch.f (by assumption) ?_
        | refine Branch.d (fun _ => ?_) (fun _ => ?_)
        | refine Branch.mk (fun _ => ?_) (fun _ => ?_)
        | refine Need.mk (by first | omega | decide | rfl) ?_
        | refine Idx.nat (by omega) ?_
        | refine Idx.auto (by first | omega | decide) (by first | omega | decide) ?_
        | refine Cell.ro rfl ?_
        | refine SDraw.all (by kernel_rfl) ?_
        | refine Kept.k0 ?_
        | refine Kept.k1 ?_
        | refine Kept.k2 ?_
        | refine Kept.k3 ?_
        | refine Kept.k4 ?_))
    all_goals (conv => whnf)
    exact Keep.sub [] (List.nil_sublist _) rfl
  · by_cases had : (rs.map fun y => y.2.ad).Nodup
    · have hx : ¬ xs.length ≤ 12 := fun e => hc ⟨had, e⟩
      repeat' ((conv => whnf); (first
          | refine hc11 _ (fun _ => ?_) (fun hn => absurd had hn)
          | refine live_c ?_
          | refine New.mk (fun _ => ?_)
          | refine Look.at0 ?_
          | refine Cell.row ?_
          | refine Cell.buf ?_
          | refine Cells.row rfl ?_
          | refine Put.row rfl ?_
          | refine Put.buf rfl ?_
          | refine Look.at1 ?_
          | refine Look.at2 ?_
          | refine Look.at3 ?_
          | refine Look.at4 ?_
          | refine Look.at5 ?_
          | refine Look.at6 ?_
          | refine Look.at7 ?_
          | refine Look.at8 ?_
          | with_reducible refine Val.i64 (by omega) (by omega) ?_
          | with_reducible refine Val.u8 (by omega) (by omega) ?_
          | with_reducible refine Val.u32 (by omega) (by omega) ?_
          | with_reducible refine Val.u64 (by omega) (by omega) ?_
          | with_reducible refine Val.u8m ?_
          | with_reducible refine Val.u32m ?_
          | with_reducible refine Val.u64m ?_
          | with_reducible refine Val.shr8 ?_
          | with_reducible refine Val.shr16 (by decide) ?_
          | with_reducible refine Val.shr24 (by decide) ?_
          | with_reducible refine Val.raw ?_
          | refine Branch.not ?_
          | refine Branch.and ?_
          | refine Branch.or ?_
          | refine Branch.dt (by assumption) ?_
          | refine Branch.df (by assumption) ?_
          | refine Branch.dt rfl ?_
          | refine Branch.dt (by omega) ?_
          | refine Branch.df (by omega) ?_
          | refine Branch.t rfl ?_
          | refine Branch.f rfl ?_
          | refine Branch.t (by assumption) ?_
          | refine Branch.f (by assumption) ?_
          | refine Branch.d (fun _ => ?_) (fun _ => ?_)
          | refine Branch.mk (fun _ => ?_) (fun _ => ?_)
          | refine Need.mk (by first | omega | decide | rfl) ?_
          | refine Idx.nat (by omega) ?_
          | refine Idx.auto (by first | omega | decide) (by first | omega | decide) ?_
          | refine Cell.ro rfl ?_
          | refine SDraw.all (by kernel_rfl) ?_
          | refine Kept.k0 ?_
          | refine Kept.k1 ?_
          | refine Kept.k2 ?_
          | refine Kept.k3 ?_
          | refine Kept.k4 ?_))
      all_goals (conv => whnf)
      exact Keep.sub [] (List.nil_sublist _) rfl
    · repeat' ((conv => whnf); (first
          | refine hc11 _ (fun hn => absurd hn had) (fun _ => ?_)
          | refine live_c ?_
          | refine New.mk (fun _ => ?_)
          | refine Look.at0 ?_
          | refine Cell.row ?_
          | refine Cell.buf ?_
          | refine Cells.row rfl ?_
          | refine Put.row rfl ?_
          | refine Put.buf rfl ?_
          | refine Look.at1 ?_
          | refine Look.at2 ?_
          | refine Look.at3 ?_
          | refine Look.at4 ?_
          | refine Look.at5 ?_
          | refine Look.at6 ?_
          | refine Look.at7 ?_
          | refine Look.at8 ?_
          | with_reducible refine Val.i64 (by omega) (by omega) ?_
          | with_reducible refine Val.u8 (by omega) (by omega) ?_
          | with_reducible refine Val.u32 (by omega) (by omega) ?_
          | with_reducible refine Val.u64 (by omega) (by omega) ?_
          | with_reducible refine Val.u8m ?_
          | with_reducible refine Val.u32m ?_
          | with_reducible refine Val.u64m ?_
          | with_reducible refine Val.shr8 ?_
          | with_reducible refine Val.shr16 (by decide) ?_
          | with_reducible refine Val.shr24 (by decide) ?_
          | with_reducible refine Val.raw ?_
          | refine Branch.not ?_
          | refine Branch.and ?_
          | refine Branch.or ?_
          | refine Branch.dt (by assumption) ?_
          | refine Branch.df (by assumption) ?_
          | refine Branch.dt rfl ?_
          | refine Branch.dt (by omega) ?_
          | refine Branch.df (by omega) ?_
          | refine Branch.t rfl ?_
          | refine Branch.f rfl ?_
          | refine Branch.t (by assumption) ?_
          | refine Branch.f (by assumption) ?_
          | refine Branch.d (fun _ => ?_) (fun _ => ?_)
          | refine Branch.mk (fun _ => ?_) (fun _ => ?_)
          | refine Need.mk (by first | omega | decide | rfl) ?_
          | refine Idx.nat (by omega) ?_
          | refine Idx.auto (by first | omega | decide) (by first | omega | decide) ?_
          | refine Cell.ro rfl ?_
          | refine SDraw.all (by kernel_rfl) ?_
          | refine Kept.k0 ?_
          | refine Kept.k1 ?_
          | refine Kept.k2 ?_
          | refine Kept.k3 ?_
          | refine Kept.k4 ?_))
      all_goals (conv => whnf)
      exact Keep.sub [] (List.nil_sublist _) rfl
end
theorem ScanOrderW (a0a : Option Addr) (a0l : Nat) (a0c : Nat) (a1a : Option Addr) (a1l : Nat) (a1c : Nat) (w : World) (h0_0 : SliceAt 5 B65 R65 w a0a a0l a0c) (h1_0 : SliceAt 1 B3 R3 w a1a a1l a1c) :
    Calls Try.prog 4 #[.slice a0a a0l a0c, .slice a1a a1l a1c] w fun e w' => e = .returned (.bool true) ∧ Go.RowKit.Below w.heap.size w w' := by
  obtain ⟨H, L, rfl, hin, hok, hw, hx⟩ := inS_of (f := Nd.cells) (Good := Nd.Ok) h0_0 (by decide) (fun _ => rfl) (fun cs h => nd_of h)
  obtain ⟨H2, X, rfl, hin2, _, hw2, hx2⟩ := inS_of (f := cI) (Good := fun _ => True) h1_0 (by decide) (fun _ => rfl) (fun cs ⟨x, h, _⟩ => ⟨x, h, trivial⟩)
  exact (order_sc (hin.mono fun p hp => List.mem_append_left _ hp) hok (hin2.mono fun p hp => List.mem_append_right _ hp)).fin w (Holds.join hw hw2 hx hx2) (excl_join hx hx2)
end Go.Proofs.Ytkegkhhfbfegoaa

/- Layer 20: no two have one number: the walk. -/
set_option linter.unusedVariables false
set_option linter.unusedSimpArgs false
set_option maxRecDepth 100000
set_option maxHeartbeats 4000000
namespace Go.Proofs.Ytkegkhhfbfegoaa
open Sx Ls
inductive S5r (A4 : Value) : List Value → Prop
  | mk {r0 r1 r2 r3 r5 r6 r7 r8 r9 r10 r11 r12 r13 r14 r15 r16 r17 r18 r19 r20 r21 r22 r23 r24 r25 r26 r27 r28 r29 r30 r31 r32 r33 r34 r35 r36 r37 r38 r39 r40 r41 r42 r43 r44 r45 r46 r47 r48 r49 r50 r51 r52 r53 r54 r55 r56 r57 r58 r59 r60 r61 r62 r63 r64 r65 r66 r67 r68 r69 r70 r71 r72 r73 r74 r75 r76 r77 r78 r79 r80 r81 r82 r83 r84 r85 r86 r87 r88 r89 r90 r91 r92 r93 r94 r95 r96 r97 r98 r99 r100 r101 r102 r103 r104 r105 r106 r107 r108 r109 r110 r111 r112 r113 r114 r115 r116 r117 r118 r119 r120 r121 r122 r123 r124 r125 : Value} : S5r A4 [r0, r1, r2, r3, A4, r5, r6, r7, r8, r9, r10, r11, r12, r13, r14, r15, r16, r17, r18, r19, r20, r21, r22, r23, r24, r25, r26, r27, r28, r29, r30, r31, r32, r33, r34, r35, r36, r37, r38, r39, r40, r41, r42, r43, r44, r45, r46, r47, r48, r49, r50, r51, r52, r53, r54, r55, r56, r57, r58, r59, r60, r61, r62, r63, r64, r65, r66, r67, r68, r69, r70, r71, r72, r73, r74, r75, r76, r77, r78, r79, r80, r81, r82, r83, r84, r85, r86, r87, r88, r89, r90, r91, r92, r93, r94, r95, r96, r97, r98, r99, r100, r101, r102, r103, r104, r105, r106, r107, r108, r109, r110, r111, r112, r113, r114, r115, r116, r117, r118, r119, r120, r121, r122, r123, r124, r125]
inductive S5a (A1 A5 A6 A7 : Value) : List Value → Prop
  | mk {r0 r2 r3 r4 r8 r9 r10 r11 r12 r13 r14 r15 r16 r17 r18 r19 r20 r21 r22 r23 r24 r25 r26 r27 r28 r29 r30 r31 r32 r33 r34 r35 r36 r37 r38 r39 r40 r41 r42 r43 r44 r45 r46 r47 r48 r49 r50 r51 r52 r53 r54 r55 r56 r57 r58 r59 r60 r61 r62 r63 r64 r65 r66 r67 r68 r69 r70 r71 r72 r73 r74 r75 r76 r77 r78 r79 r80 r81 r82 r83 r84 r85 r86 r87 r88 r89 r90 r91 r92 r93 r94 r95 r96 r97 r98 r99 r100 r101 r102 r103 r104 r105 r106 r107 r108 r109 r110 r111 r112 r113 r114 r115 r116 r117 r118 r119 r120 r121 r122 r123 r124 r125 : Value} : S5a A1 A5 A6 A7 [r0, A1, r2, r3, r4, A5, A6, A7, r8, r9, r10, r11, r12, r13, r14, r15, r16, r17, r18, r19, r20, r21, r22, r23, r24, r25, r26, r27, r28, r29, r30, r31, r32, r33, r34, r35, r36, r37, r38, r39, r40, r41, r42, r43, r44, r45, r46, r47, r48, r49, r50, r51, r52, r53, r54, r55, r56, r57, r58, r59, r60, r61, r62, r63, r64, r65, r66, r67, r68, r69, r70, r71, r72, r73, r74, r75, r76, r77, r78, r79, r80, r81, r82, r83, r84, r85, r86, r87, r88, r89, r90, r91, r92, r93, r94, r95, r96, r97, r98, r99, r100, r101, r102, r103, r104, r105, r106, r107, r108, r109, r110, r111, r112, r113, r114, r115, r116, r117, r118, r119, r120, r121, r122, r123, r124, r125]
inductive S5b (A1 A5 A6 A7 A8 : Value) : List Value → Prop
  | mk {r0 r2 r3 r4 r9 r10 r11 r12 r13 r14 r15 r16 r17 r18 r19 r20 r21 r22 r23 r24 r25 r26 r27 r28 r29 r30 r31 r32 r33 r34 r35 r36 r37 r38 r39 r40 r41 r42 r43 r44 r45 r46 r47 r48 r49 r50 r51 r52 r53 r54 r55 r56 r57 r58 r59 r60 r61 r62 r63 r64 r65 r66 r67 r68 r69 r70 r71 r72 r73 r74 r75 r76 r77 r78 r79 r80 r81 r82 r83 r84 r85 r86 r87 r88 r89 r90 r91 r92 r93 r94 r95 r96 r97 r98 r99 r100 r101 r102 r103 r104 r105 r106 r107 r108 r109 r110 r111 r112 r113 r114 r115 r116 r117 r118 r119 r120 r121 r122 r123 r124 r125 : Value} : S5b A1 A5 A6 A7 A8 [r0, A1, r2, r3, r4, A5, A6, A7, A8, r9, r10, r11, r12, r13, r14, r15, r16, r17, r18, r19, r20, r21, r22, r23, r24, r25, r26, r27, r28, r29, r30, r31, r32, r33, r34, r35, r36, r37, r38, r39, r40, r41, r42, r43, r44, r45, r46, r47, r48, r49, r50, r51, r52, r53, r54, r55, r56, r57, r58, r59, r60, r61, r62, r63, r64, r65, r66, r67, r68, r69, r70, r71, r72, r73, r74, r75, r76, r77, r78, r79, r80, r81, r82, r83, r84, r85, r86, r87, r88, r89, r90, r91, r92, r93, r94, r95, r96, r97, r98, r99, r100, r101, r102, r103, r104, r105, r106, r107, r108, r109, r110, r111, r112, r113, r114, r115, r116, r117, r118, r119, r120, r121, r122, r123, r124, r125]
inductive S5c (A1 A5 A6 A7 A9 : Value) : List Value → Prop
  | mk {r0 r2 r3 r4 r8 r10 r11 r12 r13 r14 r15 r16 r17 r18 r19 r20 r21 r22 r23 r24 r25 r26 r27 r28 r29 r30 r31 r32 r33 r34 r35 r36 r37 r38 r39 r40 r41 r42 r43 r44 r45 r46 r47 r48 r49 r50 r51 r52 r53 r54 r55 r56 r57 r58 r59 r60 r61 r62 r63 r64 r65 r66 r67 r68 r69 r70 r71 r72 r73 r74 r75 r76 r77 r78 r79 r80 r81 r82 r83 r84 r85 r86 r87 r88 r89 r90 r91 r92 r93 r94 r95 r96 r97 r98 r99 r100 r101 r102 r103 r104 r105 r106 r107 r108 r109 r110 r111 r112 r113 r114 r115 r116 r117 r118 r119 r120 r121 r122 r123 r124 r125 : Value} : S5c A1 A5 A6 A7 A9 [r0, A1, r2, r3, r4, A5, A6, A7, r8, A9, r10, r11, r12, r13, r14, r15, r16, r17, r18, r19, r20, r21, r22, r23, r24, r25, r26, r27, r28, r29, r30, r31, r32, r33, r34, r35, r36, r37, r38, r39, r40, r41, r42, r43, r44, r45, r46, r47, r48, r49, r50, r51, r52, r53, r54, r55, r56, r57, r58, r59, r60, r61, r62, r63, r64, r65, r66, r67, r68, r69, r70, r71, r72, r73, r74, r75, r76, r77, r78, r79, r80, r81, r82, r83, r84, r85, r86, r87, r88, r89, r90, r91, r92, r93, r94, r95, r96, r97, r98, r99, r100, r101, r102, r103, r104, r105, r106, r107, r108, r109, r110, r111, r112, r113, r114, r115, r116, r117, r118, r119, r120, r121, r122, r123, r124, r125]
inductive S5d (A5 A10 : Value) : List Value → Prop
  | mk {r0 r1 r2 r3 r4 r6 r7 r8 r9 r11 r12 r13 r14 r15 r16 r17 r18 r19 r20 r21 r22 r23 r24 r25 r26 r27 r28 r29 r30 r31 r32 r33 r34 r35 r36 r37 r38 r39 r40 r41 r42 r43 r44 r45 r46 r47 r48 r49 r50 r51 r52 r53 r54 r55 r56 r57 r58 r59 r60 r61 r62 r63 r64 r65 r66 r67 r68 r69 r70 r71 r72 r73 r74 r75 r76 r77 r78 r79 r80 r81 r82 r83 r84 r85 r86 r87 r88 r89 r90 r91 r92 r93 r94 r95 r96 r97 r98 r99 r100 r101 r102 r103 r104 r105 r106 r107 r108 r109 r110 r111 r112 r113 r114 r115 r116 r117 r118 r119 r120 r121 r122 r123 r124 r125 : Value} : S5d A5 A10 [r0, r1, r2, r3, r4, A5, r6, r7, r8, r9, A10, r11, r12, r13, r14, r15, r16, r17, r18, r19, r20, r21, r22, r23, r24, r25, r26, r27, r28, r29, r30, r31, r32, r33, r34, r35, r36, r37, r38, r39, r40, r41, r42, r43, r44, r45, r46, r47, r48, r49, r50, r51, r52, r53, r54, r55, r56, r57, r58, r59, r60, r61, r62, r63, r64, r65, r66, r67, r68, r69, r70, r71, r72, r73, r74, r75, r76, r77, r78, r79, r80, r81, r82, r83, r84, r85, r86, r87, r88, r89, r90, r91, r92, r93, r94, r95, r96, r97, r98, r99, r100, r101, r102, r103, r104, r105, r106, r107, r108, r109, r110, r111, r112, r113, r114, r115, r116, r117, r118, r119, r120, r121, r122, r123, r124, r125]
inductive S5e (A5 A10 A12 A13 : Value) : List Value → Prop
  | mk {r0 r1 r2 r3 r4 r6 r7 r8 r9 r11 r14 r15 r16 r17 r18 r19 r20 r21 r22 r23 r24 r25 r26 r27 r28 r29 r30 r31 r32 r33 r34 r35 r36 r37 r38 r39 r40 r41 r42 r43 r44 r45 r46 r47 r48 r49 r50 r51 r52 r53 r54 r55 r56 r57 r58 r59 r60 r61 r62 r63 r64 r65 r66 r67 r68 r69 r70 r71 r72 r73 r74 r75 r76 r77 r78 r79 r80 r81 r82 r83 r84 r85 r86 r87 r88 r89 r90 r91 r92 r93 r94 r95 r96 r97 r98 r99 r100 r101 r102 r103 r104 r105 r106 r107 r108 r109 r110 r111 r112 r113 r114 r115 r116 r117 r118 r119 r120 r121 r122 r123 r124 r125 : Value} : S5e A5 A10 A12 A13 [r0, r1, r2, r3, r4, A5, r6, r7, r8, r9, A10, r11, A12, A13, r14, r15, r16, r17, r18, r19, r20, r21, r22, r23, r24, r25, r26, r27, r28, r29, r30, r31, r32, r33, r34, r35, r36, r37, r38, r39, r40, r41, r42, r43, r44, r45, r46, r47, r48, r49, r50, r51, r52, r53, r54, r55, r56, r57, r58, r59, r60, r61, r62, r63, r64, r65, r66, r67, r68, r69, r70, r71, r72, r73, r74, r75, r76, r77, r78, r79, r80, r81, r82, r83, r84, r85, r86, r87, r88, r89, r90, r91, r92, r93, r94, r95, r96, r97, r98, r99, r100, r101, r102, r103, r104, r105, r106, r107, r108, r109, r110, r111, r112, r113, r114, r115, r116, r117, r118, r119, r120, r121, r122, r123, r124, r125]
def Fac (rs : List PR) (xs : List Int) (n : Nat) : Prop := ∀ (j : Nat) y, j < n → rs[j]? = some y → y.2.id ∉ xs ∧ ∀ (k : Nat) z, k < j → rs[k]? = some z → z.2.id = y.2.id → y.2.id = 0
def I54 (sx sva svb : Value) (H : Heap) (rs : List PR) (xs : List Int) (i : Nat) (S : List Value) (H' : Heap) : Prop := i ≤ rs.length ∧ Fac rs xs i ∧ S5a sx sva svb (.int .i64 (i : Int)) S ∧ H' = H
def I53 (sx sva svb : Value) (H : Heap) (i : Nat) (id : Int) (xs : List Int) (k : Nat) (S : List Value) (H' : Heap) : Prop := k ≤ xs.length ∧ id ∉ xs.take k ∧ S5b sx sva svb (.int .i64 (i : Int)) (.int .i64 (k : Int)) S ∧ H' = H
def I52 (sx sva svb : Value) (H : Heap) (i : Nat) (id : Int) (rs : List PR) (k : Nat) (S : List Value) (H' : Heap) : Prop := k ≤ i ∧ (∀ (j : Nat) z, j < k → rs[j]? = some z → z.2.id = id → id = 0) ∧ S5c sx sva svb (.int .i64 (i : Int)) (.int .i64 (k : Int)) S ∧ H' = H
theorem l54 {Qp : Post} {H : Heap} {sx sva svb : Value} {rs : List PR} {xs : List Int} (hp : PtrS rwR svb H rs) (hix : InS cI 1 sx H xs) (S : List Value) (hS : S5a sx sva svb (.int .i64 0) S)
    (hret : ∀ S, S5r (.bool true) S → Qp .ret S H) (hQ : ∀ S i, Fac rs xs rs.length → S5a sx sva svb i S → Qp (.exit 0) S H) : SLoop Try.prog X5_l4 Qp S H := by
  obtain ⟨ba, bc, rfl, hml⟩ := hp.sv
  obtain ⟨xa, xc, rfl, hml2⟩ := hix.sv
  have hml' : rs.length ≤ 9223372036854775807 := by simp only [maxLen] at hml; omega
  have hml3 : xs.length ≤ 9223372036854775807 := by simp only [maxLen] at hml2; omega
  refine SLoop.invA (I54 (.slice xa xs.length xc) sva (.slice ba rs.length bc) H rs xs) (fun i => rs.length - i) 0 (Keep.all ⟨by omega, fun j y hj => by omega, hS, rfl⟩) ?_
  rintro i S H' ⟨hi, hfac, hS, rfl⟩ R hR
  cases hS
  by_cases hlt : i < rs.length
  · obtain ⟨y, r, o, c', b, hy, e1, hm, hc, hyr⟩ := hp.get hlt
    injection e1 with e1 _ e3
    subst e1
    repeat' ((conv => whnf); (first
        | refine New.mk (fun _ => ?_)
        | refine Look.at0 ?_
        | refine Cell.row ?_
        | refine Cell.buf ?_
        | refine Cells.row rfl ?_
        | refine Put.row rfl ?_
        | refine Put.buf rfl ?_
        | refine Look.at1 ?_
        | refine Look.at2 ?_
        | refine Look.at3 ?_
        | refine Look.at4 ?_
        | refine Look.at5 ?_
        | refine Look.at6 ?_
        | refine Look.at7 ?_
        | refine Look.at8 ?_
        | with_reducible refine Val.i64 (by omega) (by omega) ?_
        | with_reducible refine Val.u8 (by omega) (by omega) ?_
        | with_reducible refine Val.u32 (by omega) (by omega) ?_
        | with_reducible refine Val.u64 (by omega) (by omega) ?_
        | with_reducible refine Val.u8m ?_
        | with_reducible refine Val.u32m ?_
        | with_reducible refine Val.u64m ?_
        | with_reducible refine Val.shr8 ?_
        | with_reducible refine Val.shr16 (by decide) ?_
        | with_reducible refine Val.shr24 (by decide) ?_
        | with_reducible refine Val.raw ?_
        | refine Branch.not ?_
        | refine Branch.and ?_
        | refine Branch.or ?_
        | refine Branch.dt (by assumption) ?_
        | refine Branch.df (by assumption) ?_
        | refine Branch.dt rfl ?_
        | refine Branch.dt (by omega) ?_
        | refine Branch.df (by omega) ?_
        | refine Branch.t rfl ?_
        | refine Branch.f rfl ?_
        | refine Branch.t (by assumption) ?_
        | refine Branch.f (by assumption) ?_
        | refine Branch.d (fun _ => ?_) (fun _ => ?_)
        | refine Branch.mk (fun _ => ?_) (fun _ => ?_)
        | refine Need.mk (by first | omega | decide | rfl) ?_
        | refine Idx.nat (by omega) ?_
        | refine Idx.auto (by first | omega | decide) (by first | omega | decide) ?_
        | refine Cell.ro rfl ?_
        | refine SDraw.all (by kernel_rfl) ?_
        | refine Kept.k0 ?_
        | refine Kept.k1 ?_
        | refine Kept.k2 ?_
        | refine Kept.k3 ?_
        | refine Kept.k4 ?_))
    refine SLoop.invA (I53 (.slice xa xs.length xc) sva (.slice (some ⟨r, o, none⟩) rs.length bc) H' i y.2.id xs) (fun k => xs.length - k) 0 (Keep.all ⟨by omega, by simp, .mk, rfl⟩) ?_
    rintro k S H ⟨hk, hnin, hS, rfl⟩ R2 hR2
    cases hS
    by_cases hlt2 : k < xs.length
    · obtain ⟨x, hx, _, htake⟩ := list_at hlt2
      obtain ⟨r2, o2, c2, b2, e12, hm2, hc2⟩ := hix.at1 hx rfl
      injection e12 with e12 _ e32
      subst e12
      clear hR hQ
      repeat' ((conv => whnf); (first
          | refine Look.cell hm2 hc2 ?_
          | refine Look.cell hm hc ?_
          | refine Look.mem hyr (fun _ _ _ => ?_)
          | unfold rwR R.row
          | refine live_c ?_
          | refine New.mk (fun _ => ?_)
          | refine Look.at0 ?_
          | refine Cell.row ?_
          | refine Cell.buf ?_
          | refine Cells.row rfl ?_
          | refine Put.row rfl ?_
          | refine Put.buf rfl ?_
          | refine Look.at1 ?_
          | refine Look.at2 ?_
          | refine Look.at3 ?_
          | refine Look.at4 ?_
          | refine Look.at5 ?_
          | refine Look.at6 ?_
          | refine Look.at7 ?_
          | refine Look.at8 ?_
          | with_reducible refine Val.i64 (by omega) (by omega) ?_
          | with_reducible refine Val.u8 (by omega) (by omega) ?_
          | with_reducible refine Val.u32 (by omega) (by omega) ?_
          | with_reducible refine Val.u64 (by omega) (by omega) ?_
          | with_reducible refine Val.u8m ?_
          | with_reducible refine Val.u32m ?_
          | with_reducible refine Val.u64m ?_
          | with_reducible refine Val.shr8 ?_
          | with_reducible refine Val.shr16 (by decide) ?_
          | with_reducible refine Val.shr24 (by decide) ?_
          | with_reducible refine Val.raw ?_
          | refine Branch.not ?_
          | refine Branch.and ?_
          | refine Branch.or ?_
          | refine Branch.dt (by assumption) ?_
          | refine Branch.df (by assumption) ?_
          | refine Branch.dt rfl ?_
          | refine Branch.dt (by omega) ?_
          | refine Branch.df (by omega) ?_
          | refine Branch.t rfl ?_
          | refine Branch.f rfl ?_
          | refine Branch.t (by assumption) ?_
          | refine Branch.f (by assumption) ?_
          | refine Branch.d (fun _ => ?_) (fun _ => ?_)
          | refine Branch.mk (fun _ => ?_) (fun _ => ?_)
          | refine Need.mk (by first | omega | decide | rfl) ?_
          | refine Idx.nat (by omega) ?_
          | refine Idx.auto (by first | omega | decide) (by first | omega | decide) ?_
          | refine Cell.ro rfl ?_
          | refine SDraw.all (by kernel_rfl) ?_
          | refine Kept.k0 ?_
          | refine Kept.k1 ?_
          | refine Kept.k2 ?_
          | refine Kept.k3 ?_
          | refine Kept.k4 ?_))
      all_goals (conv => whnf)
      · exact hret _ .mk
      · refine hR2 (k + 1) _ _ (by omega) (Keep.all ⟨by omega, ?_, .mk, rfl⟩)
        rw [htake]
        intro hm3
        rcases List.mem_append.1 hm3 with hm3 | hm3
        · exact hnin hm3
        · exact absurd (List.mem_singleton.1 hm3).symm (by assumption)
    · have e : k = xs.length := by omega
      subst e
      rw [List.take_length] at hnin
      repeat' ((conv => whnf); (first
          | refine New.mk (fun _ => ?_)
          | refine Look.at0 ?_
          | refine Cell.row ?_
          | refine Cell.buf ?_
          | refine Cells.row rfl ?_
          | refine Put.row rfl ?_
          | refine Put.buf rfl ?_
          | refine Look.at1 ?_
          | refine Look.at2 ?_
          | refine Look.at3 ?_
          | refine Look.at4 ?_
          | refine Look.at5 ?_
          | refine Look.at6 ?_
          | refine Look.at7 ?_
          | refine Look.at8 ?_
          | with_reducible refine Val.i64 (by omega) (by omega) ?_
          | with_reducible refine Val.u8 (by omega) (by omega) ?_
          | with_reducible refine Val.u32 (by omega) (by omega) ?_
          | with_reducible refine Val.u64 (by omega) (by omega) ?_
          | with_reducible refine Val.u8m ?_
          | with_reducible refine Val.u32m ?_
          | with_reducible refine Val.u64m ?_
          | with_reducible refine Val.shr8 ?_
          | with_reducible refine Val.shr16 (by decide) ?_
          | with_reducible refine Val.shr24 (by decide) ?_
          | with_reducible refine Val.raw ?_
          | refine Branch.not ?_
          | refine Branch.and ?_
          | refine Branch.or ?_
          | refine Branch.dt (by assumption) ?_
          | refine Branch.df (by assumption) ?_
          | refine Branch.dt rfl ?_
          | refine Branch.dt (by omega) ?_
          | refine Branch.df (by omega) ?_
          | refine Branch.t rfl ?_
          | refine Branch.f rfl ?_
          | refine Branch.t (by assumption) ?_
          | refine Branch.f (by assumption) ?_
          | refine Branch.d (fun _ => ?_) (fun _ => ?_)
          | refine Branch.mk (fun _ => ?_) (fun _ => ?_)
          | refine Need.mk (by first | omega | decide | rfl) ?_
          | refine Idx.nat (by omega) ?_
          | refine Idx.auto (by first | omega | decide) (by first | omega | decide) ?_
          | refine Cell.ro rfl ?_
          | refine SDraw.all (by kernel_rfl) ?_
          | refine Kept.k0 ?_
          | refine Kept.k1 ?_
          | refine Kept.k2 ?_
          | refine Kept.k3 ?_
          | refine Kept.k4 ?_))
      refine SLoop.invA (I52 (.slice xa xs.length xc) sva (.slice (some ⟨r, o, none⟩) rs.length bc) H i y.2.id rs) (fun k => i - k) 0 (Keep.all ⟨by omega, fun j z hj => by omega, .mk, rfl⟩) ?_
      rintro k S H' ⟨hk2, hz, hS, rfl⟩ R3 hR3
      cases hS
      by_cases hlt3 : k < i
      · obtain ⟨z, r4, o4, c4, b4, hzk, e14, hm4, hc4, hzr⟩ := hp.get (j := k) (by omega)
        injection e14 with e14 _ e34
        injection e14 with e14
        injection e14 with e4 e5
        subst e4
        subst e5
        have next : ∀ S, (z.2.id = y.2.id → y.2.id = 0) → S5c (.slice xa xs.length xc) sva (.slice (some ⟨r, o, none⟩) rs.length bc) (.int .i64 (i : Int)) (.int .i64 ((k + 1 : Nat) : Int)) S → R3 S H' := fun S h1 h2 => by
          refine hR3 (k + 1) _ _ (by omega) (Keep.all ⟨by omega, fun j w hj hw hwe => ?_, h2, rfl⟩)
          by_cases hjk : j = k
          · subst hjk; rw [hzk] at hw; injection hw with hw; subst hw; exact h1 hwe
          · exact hz j w (by omega) hw hwe
        clear hR hR2 hQ hR3
        repeat' ((conv => whnf); (first
            | refine Look.cell hm4 hc4 ?_
            | refine Look.cell hm hc ?_
            | refine Look.mem hzr (fun _ _ _ => ?_)
            | refine Look.mem hyr (fun _ _ _ => ?_)
            | unfold rwR R.row
            | refine live_c ?_
            | refine New.mk (fun _ => ?_)
            | refine Look.at0 ?_
            | refine Cell.row ?_
            | refine Cell.buf ?_
            | refine Cells.row rfl ?_
            | refine Put.row rfl ?_
            | refine Put.buf rfl ?_
            | refine Look.at1 ?_
            | refine Look.at2 ?_
            | refine Look.at3 ?_
            | refine Look.at4 ?_
            | refine Look.at5 ?_
            | refine Look.at6 ?_
            | refine Look.at7 ?_
            | refine Look.at8 ?_
            | with_reducible refine Val.i64 (by omega) (by omega) ?_
            | with_reducible refine Val.u8 (by omega) (by omega) ?_
            | with_reducible refine Val.u32 (by omega) (by omega) ?_
            | with_reducible refine Val.u64 (by omega) (by omega) ?_
            | with_reducible refine Val.u8m ?_
            | with_reducible refine Val.u32m ?_
            | with_reducible refine Val.u64m ?_
            | with_reducible refine Val.shr8 ?_
            | with_reducible refine Val.shr16 (by decide) ?_
            | with_reducible refine Val.shr24 (by decide) ?_
            | with_reducible refine Val.raw ?_
            | refine Branch.not ?_
            | refine Branch.and ?_
            | refine Branch.or ?_
            | refine Branch.dt (by assumption) ?_
            | refine Branch.df (by assumption) ?_
            | refine Branch.dt rfl ?_
            | refine Branch.dt (by omega) ?_
            | refine Branch.df (by omega) ?_
            | refine Branch.t rfl ?_
            | refine Branch.f rfl ?_
            | refine Branch.t (by assumption) ?_
            | refine Branch.f (by assumption) ?_
            | refine Branch.d (fun _ => ?_) (fun _ => ?_)
            | refine Branch.mk (fun _ => ?_) (fun _ => ?_)
            | refine Need.mk (by first | omega | decide | rfl) ?_
            | refine Idx.nat (by omega) ?_
            | refine Idx.auto (by first | omega | decide) (by first | omega | decide) ?_
            | refine Cell.ro rfl ?_
            | refine SDraw.all (by kernel_rfl) ?_
            | refine Kept.k0 ?_
            | refine Kept.k1 ?_
            | refine Kept.k2 ?_
            | refine Kept.k3 ?_
            | refine Kept.k4 ?_))
        all_goals (conv => whnf)
        all_goals first
          | exact hret _ .mk
          | exact next _ (fun _ => by assumption) .mk
          | exact next _ (fun e => absurd e (by assumption)) .mk
          | trace_state
      · have e : k = i := by omega
        subst e
        repeat' ((conv => whnf); (first
            | refine New.mk (fun _ => ?_)
            | refine Look.at0 ?_
            | refine Cell.row ?_
            | refine Cell.buf ?_
            | refine Cells.row rfl ?_
            | refine Put.row rfl ?_
            | refine Put.buf rfl ?_
            | refine Look.at1 ?_
            | refine Look.at2 ?_
            | refine Look.at3 ?_
            | refine Look.at4 ?_
            | refine Look.at5 ?_
            | refine Look.at6 ?_
            | refine Look.at7 ?_
            | refine Look.at8 ?_
            | with_reducible refine Val.i64 (by omega) (by omega) ?_
            | with_reducible refine Val.u8 (by omega) (by omega) ?_
            | with_reducible refine Val.u32 (by omega) (by omega) ?_
            | with_reducible refine Val.u64 (by omega) (by omega) ?_
            | with_reducible refine Val.u8m ?_
            | with_reducible refine Val.u32m ?_
            | with_reducible refine Val.u64m ?_
            | with_reducible refine Val.shr8 ?_
            | with_reducible refine Val.shr16 (by decide) ?_
            | with_reducible refine Val.shr24 (by decide) ?_
            | with_reducible refine Val.raw ?_
            | refine Branch.not ?_
            | refine Branch.and ?_
            | refine Branch.or ?_
            | refine Branch.dt (by assumption) ?_
            | refine Branch.df (by assumption) ?_
            | refine Branch.dt rfl ?_
            | refine Branch.dt (by omega) ?_
            | refine Branch.df (by omega) ?_
            | refine Branch.t rfl ?_
            | refine Branch.f rfl ?_
            | refine Branch.t (by assumption) ?_
            | refine Branch.f (by assumption) ?_
            | refine Branch.d (fun _ => ?_) (fun _ => ?_)
            | refine Branch.mk (fun _ => ?_) (fun _ => ?_)
            | refine Need.mk (by first | omega | decide | rfl) ?_
            | refine Idx.nat (by omega) ?_
            | refine Idx.auto (by first | omega | decide) (by first | omega | decide) ?_
            | refine Cell.ro rfl ?_
            | refine SDraw.all (by kernel_rfl) ?_
            | refine Kept.k0 ?_
            | refine Kept.k1 ?_
            | refine Kept.k2 ?_
            | refine Kept.k3 ?_
            | refine Kept.k4 ?_))
        all_goals (conv => whnf)
        refine hR (k + 1) _ _ (by omega) (Keep.all ⟨by omega, fun j w hj hw => ?_, .mk, rfl⟩)
        by_cases hjk : j = k
        · subst hjk
          rw [hy] at hw; injection hw with hw; subst hw
          exact ⟨hnin, fun k' z hk' hzk hze => hz k' z hk' hzk hze⟩
        · exact hfac j w (by omega) hw
  · have e : i = rs.length := by omega
    subst e
    repeat' ((conv => whnf); (first
        | refine New.mk (fun _ => ?_)
        | refine Look.at0 ?_
        | refine Cell.row ?_
        | refine Cell.buf ?_
        | refine Cells.row rfl ?_
        | refine Put.row rfl ?_
        | refine Put.buf rfl ?_
        | refine Look.at1 ?_
        | refine Look.at2 ?_
        | refine Look.at3 ?_
        | refine Look.at4 ?_
        | refine Look.at5 ?_
        | refine Look.at6 ?_
        | refine Look.at7 ?_
        | refine Look.at8 ?_
        | with_reducible refine Val.i64 (by omega) (by omega) ?_
        | with_reducible refine Val.u8 (by omega) (by omega) ?_
        | with_reducible refine Val.u32 (by omega) (by omega) ?_
        | with_reducible refine Val.u64 (by omega) (by omega) ?_
        | with_reducible refine Val.u8m ?_
        | with_reducible refine Val.u32m ?_
        | with_reducible refine Val.u64m ?_
        | with_reducible refine Val.shr8 ?_
        | with_reducible refine Val.shr16 (by decide) ?_
        | with_reducible refine Val.shr24 (by decide) ?_
        | with_reducible refine Val.raw ?_
        | refine Branch.not ?_
        | refine Branch.and ?_
        | refine Branch.or ?_
        | refine Branch.dt (by assumption) ?_
        | refine Branch.df (by assumption) ?_
        | refine Branch.dt rfl ?_
        | refine Branch.dt (by omega) ?_
        | refine Branch.df (by omega) ?_
        | refine Branch.t rfl ?_
        | refine Branch.f rfl ?_
        | refine Branch.t (by assumption) ?_
        | refine Branch.f (by assumption) ?_
        | refine Branch.d (fun _ => ?_) (fun _ => ?_)
        | refine Branch.mk (fun _ => ?_) (fun _ => ?_)
        | refine Need.mk (by first | omega | decide | rfl) ?_
        | refine Idx.nat (by omega) ?_
        | refine Idx.auto (by first | omega | decide) (by first | omega | decide) ?_
        | refine Cell.ro rfl ?_
        | refine SDraw.all (by kernel_rfl) ?_
        | refine Kept.k0 ?_
        | refine Kept.k1 ?_
        | refine Kept.k2 ?_
        | refine Kept.k3 ?_
        | refine Kept.k4 ?_))
    all_goals (conv => whnf)
    exact hQ _ _ hfac .mk
def I51 (sva : Value) (H : Heap) (n : Nat) (i : Nat) (S : List Value) (H' : Heap) : Prop := i ≤ n ∧ S5d sva (.int .i64 (i : Int)) S ∧ H' = H
def I50 (sva : Value) (H : Heap) (i : Nat) (u : Int) (k : Nat) (S : List Value) (H' : Heap) : Prop := k ≤ i ∧ S5e sva (.int .i64 (i : Int)) (.int .i64 u) (.int .i64 (k : Int)) S ∧ H' = H
theorem l51 {Qp : Post} {H : Heap} {sva : Value} {ms : List PL} (hp : PtrS rwL sva H ms) (ho : Once ms) (S : List Value) (hS : S5d sva (.int .i64 0) S)
    (hQ : ∀ S i, S5d sva i S → Qp (.exit 6) S H) : SLoop Try.prog X5_l1 Qp S H := by
  obtain ⟨ba, bc, rfl, hml⟩ := hp.sv
  have hml' : ms.length ≤ 9223372036854775807 := by simp only [maxLen] at hml; omega
  refine SLoop.invA (I51 (.slice ba ms.length bc) H ms.length) (fun i => ms.length - i) 0 (Keep.all ⟨by omega, hS, rfl⟩) ?_
  rintro i S H' ⟨hi, hS, rfl⟩ R hR
  cases hS
  by_cases hlt : i < ms.length
  · obtain ⟨y, r, o, c', b, hy, e1, hm, hc, hyr⟩ := hp.get hlt
    injection e1 with e1 _ e3
    subst e1
    repeat' ((conv => whnf); (first
        | refine Look.cell hm hc ?_
        | refine c13m hyr ?_
        | refine New.mk (fun _ => ?_)
        | refine Look.at0 ?_
        | refine Cell.row ?_
        | refine Cell.buf ?_
        | refine Cells.row rfl ?_
        | refine Put.row rfl ?_
        | refine Put.buf rfl ?_
        | refine Look.at1 ?_
        | refine Look.at2 ?_
        | refine Look.at3 ?_
        | refine Look.at4 ?_
        | refine Look.at5 ?_
        | refine Look.at6 ?_
        | refine Look.at7 ?_
        | refine Look.at8 ?_
        | with_reducible refine Val.i64 (by omega) (by omega) ?_
        | with_reducible refine Val.u8 (by omega) (by omega) ?_
        | with_reducible refine Val.u32 (by omega) (by omega) ?_
        | with_reducible refine Val.u64 (by omega) (by omega) ?_
        | with_reducible refine Val.u8m ?_
        | with_reducible refine Val.u32m ?_
        | with_reducible refine Val.u64m ?_
        | with_reducible refine Val.shr8 ?_
        | with_reducible refine Val.shr16 (by decide) ?_
        | with_reducible refine Val.shr24 (by decide) ?_
        | with_reducible refine Val.raw ?_
        | refine Branch.not ?_
        | refine Branch.and ?_
        | refine Branch.or ?_
        | refine Branch.dt (by assumption) ?_
        | refine Branch.df (by assumption) ?_
        | refine Branch.dt rfl ?_
        | refine Branch.dt (by omega) ?_
        | refine Branch.df (by omega) ?_
        | refine Branch.t rfl ?_
        | refine Branch.f rfl ?_
        | refine Branch.t (by assumption) ?_
        | refine Branch.f (by assumption) ?_
        | refine Branch.d (fun _ => ?_) (fun _ => ?_)
        | refine Branch.mk (fun _ => ?_) (fun _ => ?_)
        | refine Need.mk (by first | omega | decide | rfl) ?_
        | refine Idx.nat (by omega) ?_
        | refine Idx.auto (by first | omega | decide) (by first | omega | decide) ?_
        | refine Cell.ro rfl ?_
        | refine SDraw.all (by kernel_rfl) ?_
        | refine Kept.k0 ?_
        | refine Kept.k1 ?_
        | refine Kept.k2 ?_
        | refine Kept.k3 ?_
        | refine Kept.k4 ?_))
    refine SLoop.invA (I50 (.slice (some ⟨r, o, none⟩) ms.length bc) H' i y.2.uid) (fun k => i - k) 0 (Keep.all ⟨by omega, .mk, rfl⟩) ?_
    rintro k S H ⟨hk, hS, rfl⟩ R2 hR2
    cases hS
    by_cases hlt2 : k < i
    · obtain ⟨z, r4, o4, c4, b4, hzk, e14, hm4, hc4, hzr⟩ := hp.get (j := k) (by omega)
      injection e14 with e14 _ e34
      injection e14 with e14
      injection e14 with e4 e5
      subst e4
      subst e5
      have hz0 : y.2.uid = z.2.uid → y.2.uid = 0 := by
        obtain ⟨g1, g2⟩ := List.getElem?_eq_some_iff.1 hy
        obtain ⟨g3, g4⟩ := List.getElem?_eq_some_iff.1 hzk
        have := List.pairwise_iff_getElem.1 ho k i g3 g1 hlt2
        rw [g2, g4] at this
        intro e; rw [e]; exact this e.symm
      have next : ∀ S, S5e (.slice (some ⟨r, o, none⟩) ms.length bc) (.int .i64 (i : Int)) (.int .i64 y.2.uid) (.int .i64 ((k + 1 : Nat) : Int)) S → R2 S H := fun S h => hR2 (k + 1) _ _ (by omega) (Keep.all ⟨by omega, h, rfl⟩)
      clear hQ hR hR2
      repeat' ((conv => whnf); (first
          | refine Look.cell hm4 hc4 ?_
          | refine c13m hzr ?_
          | refine New.mk (fun _ => ?_)
          | refine Look.at0 ?_
          | refine Cell.row ?_
          | refine Cell.buf ?_
          | refine Cells.row rfl ?_
          | refine Put.row rfl ?_
          | refine Put.buf rfl ?_
          | refine Look.at1 ?_
          | refine Look.at2 ?_
          | refine Look.at3 ?_
          | refine Look.at4 ?_
          | refine Look.at5 ?_
          | refine Look.at6 ?_
          | refine Look.at7 ?_
          | refine Look.at8 ?_
          | with_reducible refine Val.i64 (by omega) (by omega) ?_
          | with_reducible refine Val.u8 (by omega) (by omega) ?_
          | with_reducible refine Val.u32 (by omega) (by omega) ?_
          | with_reducible refine Val.u64 (by omega) (by omega) ?_
          | with_reducible refine Val.u8m ?_
          | with_reducible refine Val.u32m ?_
          | with_reducible refine Val.u64m ?_
          | with_reducible refine Val.shr8 ?_
          | with_reducible refine Val.shr16 (by decide) ?_
          | with_reducible refine Val.shr24 (by decide) ?_
          | with_reducible refine Val.raw ?_
          | refine Branch.not ?_
          | refine Branch.and ?_
          | refine Branch.or ?_
          | refine Branch.dt (by assumption) ?_
          | refine Branch.df (by assumption) ?_
          | refine Branch.dt rfl ?_
          | refine Branch.dt (by omega) ?_
          | refine Branch.df (by omega) ?_
          | refine Branch.t rfl ?_
          | refine Branch.f rfl ?_
          | refine Branch.t (by assumption) ?_
          | refine Branch.f (by assumption) ?_
          | refine Branch.d (fun _ => ?_) (fun _ => ?_)
          | refine Branch.mk (fun _ => ?_) (fun _ => ?_)
          | refine Need.mk (by first | omega | decide | rfl) ?_
          | refine Idx.nat (by omega) ?_
          | refine Idx.auto (by first | omega | decide) (by first | omega | decide) ?_
          | refine Cell.ro rfl ?_
          | refine SDraw.all (by kernel_rfl) ?_
          | refine Kept.k0 ?_
          | refine Kept.k1 ?_
          | refine Kept.k2 ?_
          | refine Kept.k3 ?_
          | refine Kept.k4 ?_))
      all_goals (conv => whnf)
      all_goals first
        | exact next _ .mk
        | exact absurd (hz0 (by assumption)) (by assumption)
        | trace_state
    · have e : k = i := by omega
      subst e
      repeat' ((conv => whnf); (first
          | refine New.mk (fun _ => ?_)
          | refine Look.at0 ?_
          | refine Cell.row ?_
          | refine Cell.buf ?_
          | refine Cells.row rfl ?_
          | refine Put.row rfl ?_
          | refine Put.buf rfl ?_
          | refine Look.at1 ?_
          | refine Look.at2 ?_
          | refine Look.at3 ?_
          | refine Look.at4 ?_
          | refine Look.at5 ?_
          | refine Look.at6 ?_
          | refine Look.at7 ?_
          | refine Look.at8 ?_
          | with_reducible refine Val.i64 (by omega) (by omega) ?_
          | with_reducible refine Val.u8 (by omega) (by omega) ?_
          | with_reducible refine Val.u32 (by omega) (by omega) ?_
          | with_reducible refine Val.u64 (by omega) (by omega) ?_
          | with_reducible refine Val.u8m ?_
          | with_reducible refine Val.u32m ?_
          | with_reducible refine Val.u64m ?_
          | with_reducible refine Val.shr8 ?_
          | with_reducible refine Val.shr16 (by decide) ?_
          | with_reducible refine Val.shr24 (by decide) ?_
          | with_reducible refine Val.raw ?_
          | refine Branch.not ?_
          | refine Branch.and ?_
          | refine Branch.or ?_
          | refine Branch.dt (by assumption) ?_
          | refine Branch.df (by assumption) ?_
          | refine Branch.dt rfl ?_
          | refine Branch.dt (by omega) ?_
          | refine Branch.df (by omega) ?_
          | refine Branch.t rfl ?_
          | refine Branch.f rfl ?_
          | refine Branch.t (by assumption) ?_
          | refine Branch.f (by assumption) ?_
          | refine Branch.d (fun _ => ?_) (fun _ => ?_)
          | refine Branch.mk (fun _ => ?_) (fun _ => ?_)
          | refine Need.mk (by first | omega | decide | rfl) ?_
          | refine Idx.nat (by omega) ?_
          | refine Idx.auto (by first | omega | decide) (by first | omega | decide) ?_
          | refine Cell.ro rfl ?_
          | refine SDraw.all (by kernel_rfl) ?_
          | refine Kept.k0 ?_
          | refine Kept.k1 ?_
          | refine Kept.k2 ?_
          | refine Kept.k3 ?_
          | refine Kept.k4 ?_))
      all_goals (conv => whnf)
      exact hR (k + 1) _ _ (by omega) (Keep.all ⟨by omega, .mk, rfl⟩)
  · have e : i = ms.length := by omega
    subst e
    repeat' ((conv => whnf); (first
        | refine New.mk (fun _ => ?_)
        | refine Look.at0 ?_
        | refine Cell.row ?_
        | refine Cell.buf ?_
        | refine Cells.row rfl ?_
        | refine Put.row rfl ?_
        | refine Put.buf rfl ?_
        | refine Look.at1 ?_
        | refine Look.at2 ?_
        | refine Look.at3 ?_
        | refine Look.at4 ?_
        | refine Look.at5 ?_
        | refine Look.at6 ?_
        | refine Look.at7 ?_
        | refine Look.at8 ?_
        | with_reducible refine Val.i64 (by omega) (by omega) ?_
        | with_reducible refine Val.u8 (by omega) (by omega) ?_
        | with_reducible refine Val.u32 (by omega) (by omega) ?_
        | with_reducible refine Val.u64 (by omega) (by omega) ?_
        | with_reducible refine Val.u8m ?_
        | with_reducible refine Val.u32m ?_
        | with_reducible refine Val.u64m ?_
        | with_reducible refine Val.shr8 ?_
        | with_reducible refine Val.shr16 (by decide) ?_
        | with_reducible refine Val.shr24 (by decide) ?_
        | with_reducible refine Val.raw ?_
        | refine Branch.not ?_
        | refine Branch.and ?_
        | refine Branch.or ?_
        | refine Branch.dt (by assumption) ?_
        | refine Branch.df (by assumption) ?_
        | refine Branch.dt rfl ?_
        | refine Branch.dt (by omega) ?_
        | refine Branch.df (by omega) ?_
        | refine Branch.t rfl ?_
        | refine Branch.f rfl ?_
        | refine Branch.t (by assumption) ?_
        | refine Branch.f (by assumption) ?_
        | refine Branch.d (fun _ => ?_) (fun _ => ?_)
        | refine Branch.mk (fun _ => ?_) (fun _ => ?_)
        | refine Need.mk (by first | omega | decide | rfl) ?_
        | refine Idx.nat (by omega) ?_
        | refine Idx.auto (by first | omega | decide) (by first | omega | decide) ?_
        | refine Cell.ro rfl ?_
        | refine SDraw.all (by kernel_rfl) ?_
        | refine Kept.k0 ?_
        | refine Kept.k1 ?_
        | refine Kept.k2 ?_
        | refine Kept.k3 ?_
        | refine Kept.k4 ?_))
    all_goals (conv => whnf)
    exact hQ _ _ .mk
end Go.Proofs.Ytkegkhhfbfegoaa

/- Layer 20: no two have one number: the law. -/
set_option linter.unusedVariables false
set_option linter.unusedSimpArgs false
set_option maxRecDepth 100000
set_option maxHeartbeats 4000000
namespace Go.Proofs.Ytkegkhhfbfegoaa
open Sx Ls
theorem once_of {acc : List Nd} {ms : List PL} {rs : List PR} {xs : List Int} (hst : St acc ms rs) (hd : (rs.map fun y => y.2.ad).Nodup) (hb : badIds [] xs = false) (hn : ms.length ≤ 127) (hf : Fac rs xs rs.length) : Once (allP xs ms).2.2 := by
  have hu : ∀ (j : Nat) x, ms[j]? = some x → ∃ y, rs[j]? = some y ∧ y.2.id = x.2.uid := by
    intro j x hx
    obtain ⟨y, hy, hs⟩ := (hst.sims).at hx
    refine ⟨y, hy, hs.id.trans ?_⟩
    exact (hst.calm x (List.mem_of_getElem? hx)).uid.symm
  have ho : Once ms := by
    refine List.pairwise_iff_getElem.2 fun k i hk hi hki e => ?_
    obtain ⟨y, hy, g1⟩ := hu i _ (List.getElem?_eq_getElem hi)
    obtain ⟨z, hz, g2⟩ := hu k _ (List.getElem?_eq_getElem hk)
    have hir : i < rs.length := (List.getElem?_eq_some_iff.1 hy).1
    have := (hf i y hir hy).2 k z hki hz (by rw [g1, g2]; exact e)
    rw [e, ← g1]; exact this
  have hx : ∀ x ∈ ms, x.2.uid ∉ xs := by
    intro x hx
    obtain ⟨j, hj, rfl⟩ := List.getElem_of_mem hx
    obtain ⟨y, hy, g1⟩ := hu j _ (List.getElem?_eq_getElem hj)
    rw [← g1]
    exact (hf j y (List.getElem?_eq_some_iff.1 hy).1 hy).1
  have e : chk28 xs ms.length = 0 := by rw [chk28, if_neg (by rw [hb]; decide), if_neg (by omega)]
  unfold allP
  rw [if_pos e]
  exact all_once xs ms [] (bad_range _ _ hb) (bad_nodup _ _ hb).1 hst.calm (by rw [hst.adm]; exact hd) hx ho
section
variable {H : Heap} {xs : List Int}
theorem numbers_sc {sv : Value} {nds : List Nd} (hin : InS Nd.cells 5 sv H nds) (hnd : ∀ x ∈ nds, x.Ok) {sa : Option Addr} {sc : Nat} (hix : InS cI 1 (.slice sa xs.length sc) H xs) :
    SCalls Try.prog 5 [sv, .slice sa xs.length sc] H fun v _ => v = .bool true := by
  obtain ⟨na, nc, rfl, hml⟩ := hin.sv
  obtain ⟨_, _, _, hml2⟩ := hix.sv
  have hml3 : xs.length ≤ 9223372036854775807 := by simp only [maxLen] at hml2; omega
  refine enter5 ?_
  repeat' ((conv => whnf); (first
      | refine c8p hin hnd (most := 10) (by decide) (fun acc ra ca rb cb ms rs hst hac hca1 hca2 hcb1 hcb2 => ?_)
      | refine New.mk (fun _ => ?_)
      | refine Look.at0 ?_
      | refine Cell.row ?_
      | refine Cell.buf ?_
      | refine Cells.row rfl ?_
      | refine Put.row rfl ?_
      | refine Put.buf rfl ?_
      | refine Look.at1 ?_
      | refine Look.at2 ?_
      | refine Look.at3 ?_
      | refine Look.at4 ?_
      | refine Look.at5 ?_
      | refine Look.at6 ?_
      | refine Look.at7 ?_
      | refine Look.at8 ?_
      | with_reducible refine Val.i64 (by omega) (by omega) ?_
      | with_reducible refine Val.u8 (by omega) (by omega) ?_
      | with_reducible refine Val.u32 (by omega) (by omega) ?_
      | with_reducible refine Val.u64 (by omega) (by omega) ?_
      | with_reducible refine Val.u8m ?_
      | with_reducible refine Val.u32m ?_
      | with_reducible refine Val.u64m ?_
      | with_reducible refine Val.shr8 ?_
      | with_reducible refine Val.shr16 (by decide) ?_
      | with_reducible refine Val.shr24 (by decide) ?_
      | with_reducible refine Val.raw ?_
      | refine Branch.not ?_
      | refine Branch.and ?_
      | refine Branch.or ?_
      | refine Branch.dt (by assumption) ?_
      | refine Branch.df (by assumption) ?_
      | refine Branch.dt rfl ?_
      | refine Branch.dt (by omega) ?_
      | refine Branch.df (by omega) ?_
      | refine Branch.t rfl ?_
      | refine Branch.f rfl ?_
      | refine Branch.t (by assumption) ?_
      | refine Branch.f (by assumption) ?_
      | refine Branch.d (fun _ => ?_) (fun _ => ?_)
      | refine Branch.mk (fun _ => ?_) (fun _ => ?_)
      | refine Need.mk (by first | omega | decide | rfl) ?_
      | refine Idx.nat (by omega) ?_
      | refine Idx.auto (by first | omega | decide) (by first | omega | decide) ?_
      | refine Cell.ro rfl ?_
      | refine SDraw.all (by kernel_rfl) ?_
      | refine Kept.k0 ?_
      | refine Kept.k1 ?_
      | refine Kept.k2 ?_
      | refine Kept.k3 ?_
      | refine Kept.k4 ?_))
  have hlm := hst.lm
  have hlr := hst.lr
  have hpb : PtrS rwR (.slice (some ⟨rb, 0, none⟩) rs.length cb) (hp0 H ra ca rb cb ms rs) rs := ptrS_of (t := 42) (N := cb * 1) (by simp [hp0, pB, rwR]) (fun x hx => by simp only [hp0, List.mem_append, List.mem_cons]; exact .inl (.inr (.inr (.inl (List.mem_map_of_mem hx))))) (by unfold maxLen; omega)
  rw [hlr] at hpb
  have hix0 : InS cI 1 (.slice sa xs.length sc) (hp0 H ra ca rb cb ms rs) xs := hix.mono fun p hp => by simp [hp0, hp]
  have hc11 : ∀ (K : Value → Heap → Prop), ((rs.map fun y => y.2.ad).Nodup → K (.bool true) (hp0 H ra ca rb cb ms rs)) → (¬ (rs.map fun y => y.2.ad).Nodup → K (.bool false) (hp0 H ra ca rb cb ms rs)) → SCalls Try.prog 11 [.slice (some ⟨rb, 0, none⟩) acc.length cb] (hp0 H ra ca rb cb ms rs) K :=
    fun K h1 h0 => c11 hpb.sl hpb.at_ h1 h0
  have hc16 := fun (K : Value → Heap → Prop) hk => c16 (K := K) hix0 hk
  by_cases had : (rs.map fun y => y.2.ad).Nodup
  · cases hbad : badIds [] xs with
    | true =>
      rw [hbad, if_pos rfl] at hc16
      repeat' ((conv => whnf); (first
          | refine hc11 _ (fun _ => ?_) (fun hn => absurd had hn)
          | refine hc16 _ ?_
          | refine live_c ?_
          | refine New.mk (fun _ => ?_)
          | refine Look.at0 ?_
          | refine Cell.row ?_
          | refine Cell.buf ?_
          | refine Cells.row rfl ?_
          | refine Put.row rfl ?_
          | refine Put.buf rfl ?_
          | refine Look.at1 ?_
          | refine Look.at2 ?_
          | refine Look.at3 ?_
          | refine Look.at4 ?_
          | refine Look.at5 ?_
          | refine Look.at6 ?_
          | refine Look.at7 ?_
          | refine Look.at8 ?_
          | with_reducible refine Val.i64 (by omega) (by omega) ?_
          | with_reducible refine Val.u8 (by omega) (by omega) ?_
          | with_reducible refine Val.u32 (by omega) (by omega) ?_
          | with_reducible refine Val.u64 (by omega) (by omega) ?_
          | with_reducible refine Val.u8m ?_
          | with_reducible refine Val.u32m ?_
          | with_reducible refine Val.u64m ?_
          | with_reducible refine Val.shr8 ?_
          | with_reducible refine Val.shr16 (by decide) ?_
          | with_reducible refine Val.shr24 (by decide) ?_
          | with_reducible refine Val.raw ?_
          | refine Branch.not ?_
          | refine Branch.and ?_
          | refine Branch.or ?_
          | refine Branch.dt (by assumption) ?_
          | refine Branch.df (by assumption) ?_
          | refine Branch.dt rfl ?_
          | refine Branch.dt (by omega) ?_
          | refine Branch.df (by omega) ?_
          | refine Branch.t rfl ?_
          | refine Branch.f rfl ?_
          | refine Branch.t (by assumption) ?_
          | refine Branch.f (by assumption) ?_
          | refine Branch.d (fun _ => ?_) (fun _ => ?_)
          | refine Branch.mk (fun _ => ?_) (fun _ => ?_)
          | refine Need.mk (by first | omega | decide | rfl) ?_
          | refine Idx.nat (by omega) ?_
          | refine Idx.auto (by first | omega | decide) (by first | omega | decide) ?_
          | refine Cell.ro rfl ?_
          | refine SDraw.all (by kernel_rfl) ?_
          | refine Kept.k0 ?_
          | refine Kept.k1 ?_
          | refine Kept.k2 ?_
          | refine Kept.k3 ?_
          | refine Kept.k4 ?_))
      all_goals (conv => whnf)
      exact Keep.sub [] (List.nil_sublist _) rfl
    | false =>
      rw [hbad, if_neg (by decide)] at hc16
      have hxl := pig 127 xs (bad_nodup _ _ hbad).1 (bad_range _ _ hbad)
      repeat' ((conv => whnf); (first
          | refine hc11 _ (fun _ => ?_) (fun hn => absurd had hn)
          | refine hc16 _ ?_
          | refine New.mk (fun _ => ?_)
          | refine Look.at0 ?_
          | refine Cell.row ?_
          | refine Cell.buf ?_
          | refine Cells.row rfl ?_
          | refine Put.row rfl ?_
          | refine Put.buf rfl ?_
          | refine Look.at1 ?_
          | refine Look.at2 ?_
          | refine Look.at3 ?_
          | refine Look.at4 ?_
          | refine Look.at5 ?_
          | refine Look.at6 ?_
          | refine Look.at7 ?_
          | refine Look.at8 ?_
          | with_reducible refine Val.i64 (by omega) (by omega) ?_
          | with_reducible refine Val.u8 (by omega) (by omega) ?_
          | with_reducible refine Val.u32 (by omega) (by omega) ?_
          | with_reducible refine Val.u64 (by omega) (by omega) ?_
          | with_reducible refine Val.u8m ?_
          | with_reducible refine Val.u32m ?_
          | with_reducible refine Val.u64m ?_
          | with_reducible refine Val.shr8 ?_
          | with_reducible refine Val.shr16 (by decide) ?_
          | with_reducible refine Val.shr24 (by decide) ?_
          | with_reducible refine Val.raw ?_
          | refine Branch.not ?_
          | refine Branch.and ?_
          | refine Branch.or ?_
          | refine Branch.dt (by assumption) ?_
          | refine Branch.df (by assumption) ?_
          | refine Branch.dt rfl ?_
          | refine Branch.dt (by omega) ?_
          | refine Branch.df (by omega) ?_
          | refine Branch.t rfl ?_
          | refine Branch.f rfl ?_
          | refine Branch.t (by assumption) ?_
          | refine Branch.f (by assumption) ?_
          | refine Branch.d (fun _ => ?_) (fun _ => ?_)
          | refine Branch.mk (fun _ => ?_) (fun _ => ?_)
          | refine Need.mk (by first | omega | decide | rfl) ?_
          | refine Idx.nat (by omega) ?_
          | refine Idx.auto (by first | omega | decide) (by first | omega | decide) ?_
          | refine Cell.ro rfl ?_
          | refine SDraw.all (by kernel_rfl) ?_
          | refine Kept.k0 ?_
          | refine Kept.k1 ?_
          | refine Kept.k2 ?_
          | refine Kept.k3 ?_
          | refine Kept.k4 ?_))
      refine l54 hpb hix0 _ .mk (fun S hS => ?_) (fun S i hf hS => ?_)
      · cases hS
        conv => whnf
        exact Keep.sub [] (List.nil_sublist _) rfl
      · cases hS
        have honce := once_of hst had hbad (by omega) hf
        repeat' ((conv => whnf); (first
            | refine RawV.copyS (L := xs) (f := cI) (k := 1) (bytes := 8) hix0 rfl (by kernel_rfl) (by decide) (fun _ => rfl) (fun x u hu => by obtain rfl := List.mem_singleton.1 hu; rfl) (by omega) (fun q c hq1 hq2 => ?_)
            | refine all9 hst hca1 hca2 (by unfold maxLen; omega) (fun xa xc N1 hO1 => ?_)
            | refine New.mk (fun _ => ?_)
            | refine Look.at0 ?_
            | refine Cell.row ?_
            | refine Cell.buf ?_
            | refine Cells.row rfl ?_
            | refine Put.row rfl ?_
            | refine Put.buf rfl ?_
            | refine Look.at1 ?_
            | refine Look.at2 ?_
            | refine Look.at3 ?_
            | refine Look.at4 ?_
            | refine Look.at5 ?_
            | refine Look.at6 ?_
            | refine Look.at7 ?_
            | refine Look.at8 ?_
            | with_reducible refine Val.i64 (by omega) (by omega) ?_
            | with_reducible refine Val.u8 (by omega) (by omega) ?_
            | with_reducible refine Val.u32 (by omega) (by omega) ?_
            | with_reducible refine Val.u64 (by omega) (by omega) ?_
            | with_reducible refine Val.u8m ?_
            | with_reducible refine Val.u32m ?_
            | with_reducible refine Val.u64m ?_
            | with_reducible refine Val.shr8 ?_
            | with_reducible refine Val.shr16 (by decide) ?_
            | with_reducible refine Val.shr24 (by decide) ?_
            | with_reducible refine Val.raw ?_
            | refine Branch.not ?_
            | refine Branch.and ?_
            | refine Branch.or ?_
            | refine Branch.dt (by assumption) ?_
            | refine Branch.df (by assumption) ?_
            | refine Branch.dt rfl ?_
            | refine Branch.dt (by omega) ?_
            | refine Branch.df (by omega) ?_
            | refine Branch.t rfl ?_
            | refine Branch.f rfl ?_
            | refine Branch.t (by assumption) ?_
            | refine Branch.f (by assumption) ?_
            | refine Branch.d (fun _ => ?_) (fun _ => ?_)
            | refine Branch.mk (fun _ => ?_) (fun _ => ?_)
            | refine Need.mk (by first | omega | decide | rfl) ?_
            | refine Idx.nat (by omega) ?_
            | refine Idx.auto (by first | omega | decide) (by first | omega | decide) ?_
            | refine Cell.ro rfl ?_
            | refine SDraw.all (by kernel_rfl) ?_
            | refine Kept.k0 ?_
            | refine Kept.k1 ?_
            | refine Kept.k2 ?_
            | refine Kept.k3 ?_
            | refine Kept.k4 ?_))
        all_goals (conv => whnf)
        obtain ⟨hk1, hk2⟩ := allP_keep xs ms
        have hl1 : (allP xs ms).2.2.length = acc.length := by have := congrArg List.length hk2; simp only [List.length_map] at this; rw [this, hst.lm]
        generalize (allP xs ms).2.2 = ms' at *
        obtain ⟨HF, hHF⟩ : ∃ HF, HF = (N1 ++ (idB q c xs :: (H ++ (pB 38 ra ca (ms.map Prod.fst) :: ms'.map rwL)))) ++ ([pB 42 rb cb (rs.map Prod.fst)] ++ rs.map rwR) := ⟨_, rfl⟩
        have g3 : PtrS rwL (.slice (some ⟨ra, 0, none⟩) ms'.length ca) HF ms' := ptrS_of (t := 38) (N := ca * 1) (by rw [show (ms'.map fun x => (rwL x).1) = ms.map Prod.fst from hk2, hHF]; simp [pB]) (fun x hx => by have := List.mem_map_of_mem (f := rwL) hx; rw [hHF]; simp only [List.mem_append, List.mem_cons]; simp only [this, true_or, or_true]) (by unfold maxLen; omega)
        rw [hl1] at g3
        rw [← hHF]
        clear hHF
        refine l51 g3 honce _ .mk (fun S i hS => ?_)
        cases hS
        repeat' ((conv => whnf); (first
            | refine live_c ?_
            | refine New.mk (fun _ => ?_)
            | refine Look.at0 ?_
            | refine Cell.row ?_
            | refine Cell.buf ?_
            | refine Cells.row rfl ?_
            | refine Put.row rfl ?_
            | refine Put.buf rfl ?_
            | refine Look.at1 ?_
            | refine Look.at2 ?_
            | refine Look.at3 ?_
            | refine Look.at4 ?_
            | refine Look.at5 ?_
            | refine Look.at6 ?_
            | refine Look.at7 ?_
            | refine Look.at8 ?_
            | with_reducible refine Val.i64 (by omega) (by omega) ?_
            | with_reducible refine Val.u8 (by omega) (by omega) ?_
            | with_reducible refine Val.u32 (by omega) (by omega) ?_
            | with_reducible refine Val.u64 (by omega) (by omega) ?_
            | with_reducible refine Val.u8m ?_
            | with_reducible refine Val.u32m ?_
            | with_reducible refine Val.u64m ?_
            | with_reducible refine Val.shr8 ?_
            | with_reducible refine Val.shr16 (by decide) ?_
            | with_reducible refine Val.shr24 (by decide) ?_
            | with_reducible refine Val.raw ?_
            | refine Branch.not ?_
            | refine Branch.and ?_
            | refine Branch.or ?_
            | refine Branch.dt (by assumption) ?_
            | refine Branch.df (by assumption) ?_
            | refine Branch.dt rfl ?_
            | refine Branch.dt (by omega) ?_
            | refine Branch.df (by omega) ?_
            | refine Branch.t rfl ?_
            | refine Branch.f rfl ?_
            | refine Branch.t (by assumption) ?_
            | refine Branch.f (by assumption) ?_
            | refine Branch.d (fun _ => ?_) (fun _ => ?_)
            | refine Branch.mk (fun _ => ?_) (fun _ => ?_)
            | refine Need.mk (by first | omega | decide | rfl) ?_
            | refine Idx.nat (by omega) ?_
            | refine Idx.auto (by first | omega | decide) (by first | omega | decide) ?_
            | refine Cell.ro rfl ?_
            | refine SDraw.all (by kernel_rfl) ?_
            | refine Kept.k0 ?_
            | refine Kept.k1 ?_
            | refine Kept.k2 ?_
            | refine Kept.k3 ?_
            | refine Kept.k4 ?_))
        all_goals (conv => whnf)
        exact Keep.sub [] (List.nil_sublist _) rfl
  · repeat' ((conv => whnf); (first
        | refine hc11 _ (fun hn => absurd hn had) (fun _ => ?_)
        | refine live_c ?_
        | refine New.mk (fun _ => ?_)
        | refine Look.at0 ?_
        | refine Cell.row ?_
        | refine Cell.buf ?_
        | refine Cells.row rfl ?_
        | refine Put.row rfl ?_
        | refine Put.buf rfl ?_
        | refine Look.at1 ?_
        | refine Look.at2 ?_
        | refine Look.at3 ?_
        | refine Look.at4 ?_
        | refine Look.at5 ?_
        | refine Look.at6 ?_
        | refine Look.at7 ?_
        | refine Look.at8 ?_
        | with_reducible refine Val.i64 (by omega) (by omega) ?_
        | with_reducible refine Val.u8 (by omega) (by omega) ?_
        | with_reducible refine Val.u32 (by omega) (by omega) ?_
        | with_reducible refine Val.u64 (by omega) (by omega) ?_
        | with_reducible refine Val.u8m ?_
        | with_reducible refine Val.u32m ?_
        | with_reducible refine Val.u64m ?_
        | with_reducible refine Val.shr8 ?_
        | with_reducible refine Val.shr16 (by decide) ?_
        | with_reducible refine Val.shr24 (by decide) ?_
        | with_reducible refine Val.raw ?_
        | refine Branch.not ?_
        | refine Branch.and ?_
        | refine Branch.or ?_
        | refine Branch.dt (by assumption) ?_
        | refine Branch.df (by assumption) ?_
        | refine Branch.dt rfl ?_
        | refine Branch.dt (by omega) ?_
        | refine Branch.df (by omega) ?_
        | refine Branch.t rfl ?_
        | refine Branch.f rfl ?_
        | refine Branch.t (by assumption) ?_
        | refine Branch.f (by assumption) ?_
        | refine Branch.d (fun _ => ?_) (fun _ => ?_)
        | refine Branch.mk (fun _ => ?_) (fun _ => ?_)
        | refine Need.mk (by first | omega | decide | rfl) ?_
        | refine Idx.nat (by omega) ?_
        | refine Idx.auto (by first | omega | decide) (by first | omega | decide) ?_
        | refine Cell.ro rfl ?_
        | refine SDraw.all (by kernel_rfl) ?_
        | refine Kept.k0 ?_
        | refine Kept.k1 ?_
        | refine Kept.k2 ?_
        | refine Kept.k3 ?_
        | refine Kept.k4 ?_))
    all_goals (conv => whnf)
    exact Keep.sub [] (List.nil_sublist _) rfl
end
theorem ScanNumbersW (a0a : Option Addr) (a0l : Nat) (a0c : Nat) (a1a : Option Addr) (a1l : Nat) (a1c : Nat) (w : World) (h0_0 : SliceAt 5 B65 R65 w a0a a0l a0c) (h1_0 : SliceAt 1 B3 R3 w a1a a1l a1c) :
    Calls Try.prog 5 #[.slice a0a a0l a0c, .slice a1a a1l a1c] w fun e w' => e = .returned (.bool true) ∧ Go.RowKit.Below w.heap.size w w' := by
  obtain ⟨H, L, rfl, hin, hok, hw, hx⟩ := inS_of (f := Nd.cells) (Good := Nd.Ok) h0_0 (by decide) (fun _ => rfl) (fun cs h => nd_of h)
  obtain ⟨H2, X, rfl, hin2, _, hw2, hx2⟩ := inS_of (f := cI) (Good := fun _ => True) h1_0 (by decide) (fun _ => rfl) (fun cs ⟨x, h, _⟩ => ⟨x, h, trivial⟩)
  exact (numbers_sc (hin.mono fun p hp => List.mem_append_left _ hp) hok (hin2.mono fun p hp => List.mem_append_right _ hp)).fin w (Holds.join hw hw2 hx hx2) (excl_join hx hx2)
end Go.Proofs.Ytkegkhhfbfegoaa

