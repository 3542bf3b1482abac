/- Layer 25: how long one takes at most: the document's walk. -/
import Derived.Test.YtjleekdidedhaaaDoorBMain1

set_option linter.unusedVariables false
set_option linter.unusedSimpArgs false
set_option maxRecDepth 100000
set_option maxHeartbeats 4000000
namespace Go.Proofs.YtjleekdidedhaaaDoor
open Sx
abbrev fS (s : List UInt8) : List Value := [.string (strOf s)]
inductive S33 (A0 A3 A4 : Value) : List Value → Prop
  | mk {r1 r2 r5 r6 r7 r8 r9 r10 r11 r12 r13 r14 r15 r16 r17 r18 r19 r20 : Value} : S33 A0 A3 A4 [A0, r1, r2, A3, A4, r5, r6, r7, r8, r9, r10, r11, r12, r13, r14, r15, r16, r17, r18, r19, r20]
inductive S21a (A0 A1 A6 A7 A8 : Value) : List Value → Prop
  | mk {r2 r3 r4 r5 r9 r10 r11 r12 r13 r14 r15 r16 r17 r18 r19 r20 r21 r22 r23 r24 r25 r26 r27 r28 r29 r30 r31 r32 r33 r34 r35 r36 r37 r38 r39 r40 r41 r42 r43 r44 r45 r46 r47 r48 r49 r50 r51 r52 r53 r54 r55 r56 r57 r58 r59 r60 r61 r62 r63 r64 r65 r66 r67 r68 r69 r70 r71 r72 r73 r74 r75 r76 r77 r78 r79 r80 r81 r82 r83 r84 r85 r86 r87 r88 r89 r90 r91 r92 r93 r94 r95 r96 r97 r98 r99 r100 r101 r102 r103 r104 r105 r106 r107 r108 r109 r110 r111 r112 r113 r114 r115 r116 r117 r118 r119 r120 r121 r122 : Value} : S21a A0 A1 A6 A7 A8 [A0, A1, r2, r3, r4, r5, A6, A7, A8, r9, r10, r11, r12, r13, r14, r15, r16, r17, r18, r19, r20, r21, r22, r23, r24, r25, r26, r27, r28, r29, r30, r31, r32, r33, r34, r35, r36, r37, r38, r39, r40, r41, r42, r43, r44, r45, r46, r47, r48, r49, r50, r51, r52, r53, r54, r55, r56, r57, r58, r59, r60, r61, r62, r63, r64, r65, r66, r67, r68, r69, r70, r71, r72, r73, r74, r75, r76, r77, r78, r79, r80, r81, r82, r83, r84, r85, r86, r87, r88, r89, r90, r91, r92, r93, r94, r95, r96, r97, r98, r99, r100, r101, r102, r103, r104, r105, r106, r107, r108, r109, r110, r111, r112, r113, r114, r115, r116, r117, r118, r119, r120, r121, r122]
inductive S21b (A0 A1 A6 A7 A9 : Value) : List Value → Prop
  | mk {r2 r3 r4 r5 r8 r10 r11 r12 r13 r14 r15 r16 r17 r18 r19 r20 r21 r22 r23 r24 r25 r26 r27 r28 r29 r30 r31 r32 r33 r34 r35 r36 r37 r38 r39 r40 r41 r42 r43 r44 r45 r46 r47 r48 r49 r50 r51 r52 r53 r54 r55 r56 r57 r58 r59 r60 r61 r62 r63 r64 r65 r66 r67 r68 r69 r70 r71 r72 r73 r74 r75 r76 r77 r78 r79 r80 r81 r82 r83 r84 r85 r86 r87 r88 r89 r90 r91 r92 r93 r94 r95 r96 r97 r98 r99 r100 r101 r102 r103 r104 r105 r106 r107 r108 r109 r110 r111 r112 r113 r114 r115 r116 r117 r118 r119 r120 r121 r122 : Value} : S21b A0 A1 A6 A7 A9 [A0, A1, r2, r3, r4, r5, A6, A7, r8, A9, r10, r11, r12, r13, r14, r15, r16, r17, r18, r19, r20, r21, r22, r23, r24, r25, r26, r27, r28, r29, r30, r31, r32, r33, r34, r35, r36, r37, r38, r39, r40, r41, r42, r43, r44, r45, r46, r47, r48, r49, r50, r51, r52, r53, r54, r55, r56, r57, r58, r59, r60, r61, r62, r63, r64, r65, r66, r67, r68, r69, r70, r71, r72, r73, r74, r75, r76, r77, r78, r79, r80, r81, r82, r83, r84, r85, r86, r87, r88, r89, r90, r91, r92, r93, r94, r95, r96, r97, r98, r99, r100, r101, r102, r103, r104, r105, r106, r107, r108, r109, r110, r111, r112, r113, r114, r115, r116, r117, r118, r119, r120, r121, r122]
inductive S21c (A0 A1 A6 A7 A9 A10 A11 : Value) : List Value → Prop
  | mk {r2 r3 r4 r5 r8 r12 r13 r14 r15 r16 r17 r18 r19 r20 r21 r22 r23 r24 r25 r26 r27 r28 r29 r30 r31 r32 r33 r34 r35 r36 r37 r38 r39 r40 r41 r42 r43 r44 r45 r46 r47 r48 r49 r50 r51 r52 r53 r54 r55 r56 r57 r58 r59 r60 r61 r62 r63 r64 r65 r66 r67 r68 r69 r70 r71 r72 r73 r74 r75 r76 r77 r78 r79 r80 r81 r82 r83 r84 r85 r86 r87 r88 r89 r90 r91 r92 r93 r94 r95 r96 r97 r98 r99 r100 r101 r102 r103 r104 r105 r106 r107 r108 r109 r110 r111 r112 r113 r114 r115 r116 r117 r118 r119 r120 r121 r122 : Value} : S21c A0 A1 A6 A7 A9 A10 A11 [A0, A1, r2, r3, r4, r5, A6, A7, r8, A9, A10, A11, r12, r13, r14, r15, r16, r17, r18, r19, r20, r21, r22, r23, r24, r25, r26, r27, r28, r29, r30, r31, r32, r33, r34, r35, r36, r37, r38, r39, r40, r41, r42, r43, r44, r45, r46, r47, r48, r49, r50, r51, r52, r53, r54, r55, r56, r57, r58, r59, r60, r61, r62, r63, r64, r65, r66, r67, r68, r69, r70, r71, r72, r73, r74, r75, r76, r77, r78, r79, r80, r81, r82, r83, r84, r85, r86, r87, r88, r89, r90, r91, r92, r93, r94, r95, r96, r97, r98, r99, r100, r101, r102, r103, r104, r105, r106, r107, r108, r109, r110, r111, r112, r113, r114, r115, r116, r117, r118, r119, r120, r121, r122]
section
variable {K : Value → Heap → Prop} {H : Heap} {sv : Value} {L : List Msg} {m y : Msg}
def I33 (sv : Value) (L : List Msg) (H : Heap) (k : Nat) (S : List Value) (H' : Heap) : Prop :=
  k ≤ L.length ∧ ∃ fa fc M, Grow fS 1 9 (.slice fa k fc) ((L.take k).map fld) M ∧ S33 sv (.slice fa k fc) (.int .i64 (k : Int)) S ∧ H' = M ++ H
theorem c33 (hin : InS mC 5 sv H L) (hlen : L.length ≤ 64) (h : ∀ fa fc M, (∀ H', (∀ p ∈ M, p ∈ H') → InS fS 1 (.slice fa L.length fc) H' (L.map fld)) → K (.slice fa L.length fc) (M ++ H)) : SCalls Tryd.prog 33 [sv] H K := by
  obtain ⟨sa, sc, rfl, hml⟩ := hin.sv
  refine enter33 ?_
  repeat' ((conv => whnf); (first
      | refine New.mk (fun _ => ?_)
      | refine Look.at0 ?_
      | refine Cell.row ?_
      | refine Cell.buf ?_
      | refine Cells.row rfl ?_
      | refine Put.row rfl ?_
      | refine Put.buf rfl ?_
      | refine Look.at1 ?_
      | refine Look.at2 ?_
      | refine Look.at3 ?_
      | refine Look.at4 ?_
      | refine Look.at5 ?_
      | refine Look.at6 ?_
      | refine Look.at7 ?_
      | refine Look.at8 ?_
      | with_reducible refine Val.i64 (by omega) (by omega) ?_
      | with_reducible refine Val.u8 (by omega) (by omega) ?_
      | with_reducible refine Val.u32 (by omega) (by omega) ?_
      | with_reducible refine Val.u64 (by omega) (by omega) ?_
      | with_reducible refine Val.u8m ?_
      | with_reducible refine Val.u32m ?_
      | with_reducible refine Val.u64m ?_
      | with_reducible refine Val.shr8 ?_
      | with_reducible refine Val.shr16 (by decide) ?_
      | with_reducible refine Val.shr24 (by decide) ?_
      | with_reducible refine Val.raw ?_
      | refine Branch.not ?_
      | refine Branch.and ?_
      | refine Branch.or ?_
      | refine Branch.dt (by assumption) ?_
      | refine Branch.df (by assumption) ?_
      | refine Branch.dt rfl ?_
      | refine Branch.dt (by omega) ?_
      | refine Branch.df (by omega) ?_
      | refine Branch.t rfl ?_
      | refine Branch.f rfl ?_
      | refine Branch.t (by assumption) ?_
      | refine Branch.f (by assumption) ?_
      | refine Branch.d (fun _ => ?_) (fun _ => ?_)
      | refine Branch.mk (fun _ => ?_) (fun _ => ?_)
      | refine Need.mk (by first | omega | decide | rfl) ?_
      | refine Idx.nat (by omega) ?_
      | refine Idx.auto (by first | omega | decide) (by first | omega | decide) ?_
      | refine Cell.ro rfl ?_
      | refine SDraw.all (by kernel_rfl) ?_
      | refine Kept.k0 ?_
      | refine Kept.k1 ?_
      | refine Kept.k2 ?_
      | refine Kept.k3 ?_
      | refine Kept.k4 ?_))
  rename_i p
  refine SLoop.toBuf (A := []) (SLoop.invA (I33 (.slice sa L.length sc) L H) (fun k => L.length - k) 0 (Keep.all ⟨Nat.zero_le _, _, _, [(p, .buf 9 [] (0 * 1))], Grow.zero, .mk, rfl⟩) ?_)
  rintro k S H' ⟨hk, fa, fc, M, hGr, hS, rfl⟩ R hR
  cases hS
  by_cases hlt : k < L.length
  · obtain ⟨y, hx, hdrop, htake⟩ := list_at hlt
    obtain ⟨r2, o2, c2, b2, e1, hrb2, hc2⟩ := inS_at hin (fun _ => rfl) hx
    injection e1 with e1 _ e3
    subst e1
    have hM : (r2, b2) ∈ M ++ H := List.mem_append_right _ hrb2
    have hl2 : ((L.take k).map fld).length = k := by simp; omega
    have hnext := fun S fa' fc' M' (q : Nat × Blk) (hg2 : Grow fS 1 9 (.slice fa' (((L.take k).map fld).length + 1) fc') ((L.take k).map fld ++ [fld y]) M') (hS : S33 (.slice (some ⟨r2, o2, none⟩) L.length sc) (.slice fa' (((L.take k).map fld).length + 1) fc') (.int .i64 ((k + 1 : Nat) : Int)) S) => hR (k + 1) S (M' ++ ([q] ++ H)) (by omega) (Keep.sub _ ((List.Sublist.refl M').append (List.sublist_append_right [q] H)) ⟨by omega, fa', fc', M', by
      rw [htake, List.map_append]
      rw [hl2] at hg2
      exact hg2, by rw [hl2] at hS; exact hS, rfl⟩)
    clear hR
    repeat' ((conv => whnf); (first
        | refine Look.cells hM rfl hc2 ?_
        | refine c13 ?_
        | refine RawV.grow1 (A := [_]) (x := fld y) (bytes := 16) hGr rfl (.head _) rfl (by kernel_rfl) (by decide) (fun _ => rfl) (fun u hu => by obtain rfl := List.mem_singleton.1 hu; rfl) (by rw [hl2]; simp only [maxLen]; omega) (by rw [hl2]; omega) (fun fa' fc' M' hg2 => ?_)
        | exact hnext _ _ _ _ _ hg2 .mk
        | refine New.mk (fun _ => ?_)
        | refine Look.at0 ?_
        | refine Cell.row ?_
        | refine Cell.buf ?_
        | refine Cells.row rfl ?_
        | refine Put.row rfl ?_
        | refine Put.buf rfl ?_
        | refine Look.at1 ?_
        | refine Look.at2 ?_
        | refine Look.at3 ?_
        | refine Look.at4 ?_
        | refine Look.at5 ?_
        | refine Look.at6 ?_
        | refine Look.at7 ?_
        | refine Look.at8 ?_
        | with_reducible refine Val.i64 (by omega) (by omega) ?_
        | with_reducible refine Val.u8 (by omega) (by omega) ?_
        | with_reducible refine Val.u32 (by omega) (by omega) ?_
        | with_reducible refine Val.u64 (by omega) (by omega) ?_
        | with_reducible refine Val.u8m ?_
        | with_reducible refine Val.u32m ?_
        | with_reducible refine Val.u64m ?_
        | with_reducible refine Val.shr8 ?_
        | with_reducible refine Val.shr16 (by decide) ?_
        | with_reducible refine Val.shr24 (by decide) ?_
        | with_reducible refine Val.raw ?_
        | refine Branch.not ?_
        | refine Branch.and ?_
        | refine Branch.or ?_
        | refine Branch.dt (by assumption) ?_
        | refine Branch.df (by assumption) ?_
        | refine Branch.dt rfl ?_
        | refine Branch.dt (by omega) ?_
        | refine Branch.df (by omega) ?_
        | refine Branch.t rfl ?_
        | refine Branch.f rfl ?_
        | refine Branch.t (by assumption) ?_
        | refine Branch.f (by assumption) ?_
        | refine Branch.d (fun _ => ?_) (fun _ => ?_)
        | refine Branch.mk (fun _ => ?_) (fun _ => ?_)
        | refine Need.mk (by first | omega | decide | rfl) ?_
        | refine Idx.nat (by omega) ?_
        | refine Idx.auto (by first | omega | decide) (by first | omega | decide) ?_
        | refine Cell.ro rfl ?_
        | refine SDraw.all (by kernel_rfl) ?_
        | refine Kept.k0 ?_
        | refine Kept.k1 ?_
        | refine Kept.k2 ?_
        | refine Kept.k3 ?_
        | refine Kept.k4 ?_))
  · obtain rfl : k = L.length := by omega
    rw [List.take_length] at hGr
    clear hR
    have hk := h fa fc M (fun H' hs => hGr.ins (fun _ => rfl) hs)
    repeat' ((conv => whnf); (first
        | exact Keep.all hk
        | refine New.mk (fun _ => ?_)
        | refine Look.at0 ?_
        | refine Cell.row ?_
        | refine Cell.buf ?_
        | refine Cells.row rfl ?_
        | refine Put.row rfl ?_
        | refine Put.buf rfl ?_
        | refine Look.at1 ?_
        | refine Look.at2 ?_
        | refine Look.at3 ?_
        | refine Look.at4 ?_
        | refine Look.at5 ?_
        | refine Look.at6 ?_
        | refine Look.at7 ?_
        | refine Look.at8 ?_
        | with_reducible refine Val.i64 (by omega) (by omega) ?_
        | with_reducible refine Val.u8 (by omega) (by omega) ?_
        | with_reducible refine Val.u32 (by omega) (by omega) ?_
        | with_reducible refine Val.u64 (by omega) (by omega) ?_
        | with_reducible refine Val.u8m ?_
        | with_reducible refine Val.u32m ?_
        | with_reducible refine Val.u64m ?_
        | with_reducible refine Val.shr8 ?_
        | with_reducible refine Val.shr16 (by decide) ?_
        | with_reducible refine Val.shr24 (by decide) ?_
        | with_reducible refine Val.raw ?_
        | refine Branch.not ?_
        | refine Branch.and ?_
        | refine Branch.or ?_
        | refine Branch.dt (by assumption) ?_
        | refine Branch.df (by assumption) ?_
        | refine Branch.dt rfl ?_
        | refine Branch.dt (by omega) ?_
        | refine Branch.df (by omega) ?_
        | refine Branch.t rfl ?_
        | refine Branch.f rfl ?_
        | refine Branch.t (by assumption) ?_
        | refine Branch.f (by assumption) ?_
        | refine Branch.d (fun _ => ?_) (fun _ => ?_)
        | refine Branch.mk (fun _ => ?_) (fun _ => ?_)
        | refine Need.mk (by first | omega | decide | rfl) ?_
        | refine Idx.nat (by omega) ?_
        | refine Idx.auto (by first | omega | decide) (by first | omega | decide) ?_
        | refine Cell.ro rfl ?_
        | refine SDraw.all (by kernel_rfl) ?_
        | refine Kept.k0 ?_
        | refine Kept.k1 ?_
        | refine Kept.k2 ?_
        | refine Kept.k3 ?_
        | refine Kept.k4 ?_))
def I21a (sv fv : Value) (i : Nat) (L : List Msg) (m : Msg) (H : Heap) (k : Nat) (S : List Value) (H' : Heap) : Prop :=
  k ≤ L.length ∧ S21a sv (.int .i64 (i : Int)) (.int .u64 (bK L m k : Int)) fv (.int .i64 (k : Int)) S ∧ H' = H
def I21b (sv fv : Value) (i : Nat) (L : List Msg) (m : Msg) (T : Nat × Bool) (H : Heap) (w : Nat) (S : List Value) (H' : Heap) : Prop :=
  w ≤ 140737488355328 ∧ w ≤ wStep L m w ∧ wIter L m (m.p + 1 - w) w = T ∧ S21b sv (.int .i64 (i : Int)) (.int .u64 (wB L m : Int)) fv (.int .u64 (w : Int)) S ∧ H' = H
def I21c (sv fv : Value) (i : Nat) (L : List Msg) (m : Msg) (w : Nat) (H : Heap) (k : Nat) (S : List Value) (H' : Heap) : Prop :=
  k ≤ L.length ∧ S21c sv (.int .i64 (i : Int)) (.int .u64 (wB L m : Int)) fv (.int .u64 (w : Int)) (.int .u64 (((fK L m k).foldl (wAdd w) (wB L m) : Nat) : Int)) (.int .i64 (k : Int)) S ∧ H' = H
theorem c21 {i : Nat} (hin : InS mC 5 sv H L) (hG : Goods L) (hi : L[i]? = some m) (h : K (.tuple ⟨[.int .u64 ((worstS L m).1 : Int), .bool (worstS L m).2]⟩) H) : SCalls Tryd.prog 21 [sv, .int .i64 (i : Int)] H K := by
  have hm := List.mem_of_getElem? hi
  have hg := hG.good m hm
  have hlen := hG.len
  have hil : i < L.length := (List.getElem?_eq_some_iff.1 hi).1
  obtain ⟨r, o, c, b, rfl, hrb, hc⟩ := inS_at hin (fun _ => rfl) hi
  refine enter21 ?_
  repeat' ((conv => whnf); (first
      | refine Look.cells hrb rfl hc ?_
      | refine t12 hg ?_
      | refine c33 hin hlen (fun fa fc M hfs => ?_)
      | refine New.mk (fun _ => ?_)
      | refine Look.at0 ?_
      | refine Cell.row ?_
      | refine Cell.buf ?_
      | refine Cells.row rfl ?_
      | refine Put.row rfl ?_
      | refine Put.buf rfl ?_
      | refine Look.at1 ?_
      | refine Look.at2 ?_
      | refine Look.at3 ?_
      | refine Look.at4 ?_
      | refine Look.at5 ?_
      | refine Look.at6 ?_
      | refine Look.at7 ?_
      | refine Look.at8 ?_
      | with_reducible refine Val.i64 (by omega) (by omega) ?_
      | with_reducible refine Val.u8 (by omega) (by omega) ?_
      | with_reducible refine Val.u32 (by omega) (by omega) ?_
      | with_reducible refine Val.u64 (by omega) (by omega) ?_
      | with_reducible refine Val.u8m ?_
      | with_reducible refine Val.u32m ?_
      | with_reducible refine Val.u64m ?_
      | with_reducible refine Val.shr8 ?_
      | with_reducible refine Val.shr16 (by decide) ?_
      | with_reducible refine Val.shr24 (by decide) ?_
      | with_reducible refine Val.raw ?_
      | refine Branch.not ?_
      | refine Branch.and ?_
      | refine Branch.or ?_
      | refine Branch.dt (by assumption) ?_
      | refine Branch.df (by assumption) ?_
      | refine Branch.dt rfl ?_
      | refine Branch.dt (by omega) ?_
      | refine Branch.df (by omega) ?_
      | refine Branch.t rfl ?_
      | refine Branch.f rfl ?_
      | refine Branch.t (by assumption) ?_
      | refine Branch.f (by assumption) ?_
      | refine Branch.d (fun _ => ?_) (fun _ => ?_)
      | refine Branch.mk (fun _ => ?_) (fun _ => ?_)
      | refine Need.mk (by first | omega | decide | rfl) ?_
      | refine Idx.nat (by omega) ?_
      | refine Idx.auto (by first | omega | decide) (by first | omega | decide) ?_
      | refine Cell.ro rfl ?_
      | refine SDraw.all (by kernel_rfl) ?_
      | refine Kept.k0 ?_
      | refine Kept.k1 ?_
      | refine Kept.k2 ?_
      | refine Kept.k3 ?_
      | refine Kept.k4 ?_))
  have hfin := hfs (M ++ H) (fun p hp => List.mem_append_left _ hp)
  have h' : Keep (M ++ H) fun H' => K (.tuple ⟨[.int .u64 ((worstS L m).1 : Int), .bool (worstS L m).2]⟩) H' := Keep.sub _ (List.sublist_append_right M H) h
  have hM := List.mem_append_right M hrb
  have hc3 := hc 3 _ rfl
  have hc4 := hc 4 _ rfl
  obtain ⟨fr, fo, fc1, fb, e1, hfb, hfi⟩ := hfin.at1 (j := i) (x := fld m) (by rw [List.getElem?_map, hi]; rfl) rfl
  rw [List.length_map] at e1
  injection e1 with e1 _ e3
  subst e1
  have hfk : ∀ (k : Nat) (y : Msg), L[k]? = some y → ∃ fb, (fr, fb) ∈ M ++ H ∧ fb.cell (fo + k * 1) = some (.string (strOf (fV y.id y.x y.n).1)) := by
    intro k y hy
    obtain ⟨fr', fo', fc1', fb', e1, hfb', hfi'⟩ := hfin.at1 (j := k) (x := fld y) (by rw [List.getElem?_map, hy]; rfl) rfl
    injection e1 with e1 _ _
    injection e1 with e1
    injection e1 with e4 e5
    subst e4 e5
    exact ⟨fb', hfb', hfi'⟩
  have hfi : fb.cell (fo + i * 1) = some (.string (strOf (fV m.id m.x m.n).1)) := hfi
  have hgt := hg.tm
  have hp2 := hg.p2
  have hj := hg.j
  have hbb : wB L m ≤ 160 := wB_b hG.good hg L (fun z hz => hz) _ hg.tm.2.1
  generalize hT : worstS L m = T at h'
  clear h hfs
  refine SLoop.invA (I21a (.slice (some ⟨r, o, none⟩) L.length c) (.slice (some ⟨fr, fo, none⟩) L.length fc) i L m (M ++ H)) (fun k => L.length - k) 0 (Keep.all ⟨Nat.zero_le _, .mk, rfl⟩) ?_
  rintro k S H' ⟨hk, hS, rfl⟩ R hR
  cases hS
  by_cases hlt : k < L.length
  · obtain ⟨y, hx, hdrop, htake⟩ := list_at hlt
    obtain ⟨r2, o2, c2, b2, e1, hrb2, hc2⟩ := inS_at hin (fun _ => rfl) hx
    injection e1 with e1 _ e3
    injection e1 with e1
    injection e1 with e4 e5
    subst e4 e5
    obtain ⟨fbk, hfbk, hck⟩ := hfk k y hx
    have hgy := hG.good y (List.mem_of_getElem? hx)
    have hM2 := List.mem_append_right M hrb2
    have hb1 := bK_succ (m := m) htake
    have hbk : bK L m k ≤ 160 := wB_b hG.good hg (L.take k) (fun z hz => List.mem_of_mem_take hz) _ hg.tm.2.1
    have hbt := hgy.tm
    have hgtr := strGt_of (fV y.id y.x y.n).1 (fV m.id m.x m.n).1
    have hnext := fun S (hS : S21a (.slice (some ⟨r, o, none⟩) L.length c) (.int .i64 (i : Int)) (.int .u64 (bK L m (k + 1) : Int)) (.slice (some ⟨fr, fo, none⟩) L.length fc) (.int .i64 ((k + 1 : Nat) : Int)) S) => hR (k + 1) S (M ++ H) (by omega) (Keep.all ⟨by omega, hS, rfl⟩)
    clear hR
    cases hlt2 : tlt (fV m.id m.x m.n).1 (fV y.id y.x y.n).1 with
    | false =>
      rw [hlt2] at hgtr
      rw [show tlt (fld m) (fld y) = false from hlt2] at hb1
      rw [hb1] at hnext
      repeat' ((conv => whnf); (first
          | refine Look.cell hfbk hck ?_
          | refine Look.cell hfb hfi ?_
          | refine Branch.f hgtr ?_
          | exact hnext _ .mk
          | refine New.mk (fun _ => ?_)
          | refine Look.at0 ?_
          | refine Cell.row ?_
          | refine Cell.buf ?_
          | refine Cells.row rfl ?_
          | refine Put.row rfl ?_
          | refine Put.buf rfl ?_
          | refine Look.at1 ?_
          | refine Look.at2 ?_
          | refine Look.at3 ?_
          | refine Look.at4 ?_
          | refine Look.at5 ?_
          | refine Look.at6 ?_
          | refine Look.at7 ?_
          | refine Look.at8 ?_
          | with_reducible refine Val.i64 (by omega) (by omega) ?_
          | with_reducible refine Val.u8 (by omega) (by omega) ?_
          | with_reducible refine Val.u32 (by omega) (by omega) ?_
          | with_reducible refine Val.u64 (by omega) (by omega) ?_
          | with_reducible refine Val.u8m ?_
          | with_reducible refine Val.u32m ?_
          | with_reducible refine Val.u64m ?_
          | with_reducible refine Val.shr8 ?_
          | with_reducible refine Val.shr16 (by decide) ?_
          | with_reducible refine Val.shr24 (by decide) ?_
          | with_reducible refine Val.raw ?_
          | refine Branch.not ?_
          | refine Branch.and ?_
          | refine Branch.or ?_
          | refine Branch.dt (by assumption) ?_
          | refine Branch.df (by assumption) ?_
          | refine Branch.dt rfl ?_
          | refine Branch.dt (by omega) ?_
          | refine Branch.df (by omega) ?_
          | refine Branch.t rfl ?_
          | refine Branch.f rfl ?_
          | refine Branch.t (by assumption) ?_
          | refine Branch.f (by assumption) ?_
          | refine Branch.d (fun _ => ?_) (fun _ => ?_)
          | refine Branch.mk (fun _ => ?_) (fun _ => ?_)
          | refine Need.mk (by first | omega | decide | rfl) ?_
          | refine Idx.nat (by omega) ?_
          | refine Idx.auto (by first | omega | decide) (by first | omega | decide) ?_
          | refine Cell.ro rfl ?_
          | refine SDraw.all (by kernel_rfl) ?_
          | refine Kept.k0 ?_
          | refine Kept.k1 ?_
          | refine Kept.k2 ?_
          | refine Kept.k3 ?_
          | refine Kept.k4 ?_))
    | true =>
      rw [hlt2] at hgtr
      rw [show tlt (fld m) (fld y) = true from hlt2] at hb1
      by_cases hbig : bK L m k < tm y
      · rw [hb1, if_pos rfl, show max (bK L m k) (tm y) = tm y by omega] at hnext
        repeat' ((conv => whnf); (first
            | refine Look.cell hfbk hck ?_
            | refine Look.cell hfb hfi ?_
            | refine Look.cells hM2 rfl hc2 ?_
            | refine t12 hgy ?_
            | refine Branch.t hgtr ?_
            | refine Branch.dt (by omega) ?_
            | exact hnext _ .mk
            | refine New.mk (fun _ => ?_)
            | refine Look.at0 ?_
            | refine Cell.row ?_
            | refine Cell.buf ?_
            | refine Cells.row rfl ?_
            | refine Put.row rfl ?_
            | refine Put.buf rfl ?_
            | refine Look.at1 ?_
            | refine Look.at2 ?_
            | refine Look.at3 ?_
            | refine Look.at4 ?_
            | refine Look.at5 ?_
            | refine Look.at6 ?_
            | refine Look.at7 ?_
            | refine Look.at8 ?_
            | with_reducible refine Val.i64 (by omega) (by omega) ?_
            | with_reducible refine Val.u8 (by omega) (by omega) ?_
            | with_reducible refine Val.u32 (by omega) (by omega) ?_
            | with_reducible refine Val.u64 (by omega) (by omega) ?_
            | with_reducible refine Val.u8m ?_
            | with_reducible refine Val.u32m ?_
            | with_reducible refine Val.u64m ?_
            | with_reducible refine Val.shr8 ?_
            | with_reducible refine Val.shr16 (by decide) ?_
            | with_reducible refine Val.shr24 (by decide) ?_
            | with_reducible refine Val.raw ?_
            | refine Branch.not ?_
            | refine Branch.and ?_
            | refine Branch.or ?_
            | refine Branch.dt (by assumption) ?_
            | refine Branch.df (by assumption) ?_
            | refine Branch.dt rfl ?_
            | refine Branch.dt (by omega) ?_
            | refine Branch.df (by omega) ?_
            | refine Branch.t rfl ?_
            | refine Branch.f rfl ?_
            | refine Branch.t (by assumption) ?_
            | refine Branch.f (by assumption) ?_
            | refine Branch.d (fun _ => ?_) (fun _ => ?_)
            | refine Branch.mk (fun _ => ?_) (fun _ => ?_)
            | refine Need.mk (by first | omega | decide | rfl) ?_
            | refine Idx.nat (by omega) ?_
            | refine Idx.auto (by first | omega | decide) (by first | omega | decide) ?_
            | refine Cell.ro rfl ?_
            | refine SDraw.all (by kernel_rfl) ?_
            | refine Kept.k0 ?_
            | refine Kept.k1 ?_
            | refine Kept.k2 ?_
            | refine Kept.k3 ?_
            | refine Kept.k4 ?_))
      · rw [hb1, if_pos rfl, show max (bK L m k) (tm y) = bK L m k by omega] at hnext
        repeat' ((conv => whnf); (first
            | refine Look.cell hfbk hck ?_
            | refine Look.cell hfb hfi ?_
            | refine Look.cells hM2 rfl hc2 ?_
            | refine t12 hgy ?_
            | refine Branch.t hgtr ?_
            | refine Branch.df (by omega) ?_
            | exact hnext _ .mk
            | refine New.mk (fun _ => ?_)
            | refine Look.at0 ?_
            | refine Cell.row ?_
            | refine Cell.buf ?_
            | refine Cells.row rfl ?_
            | refine Put.row rfl ?_
            | refine Put.buf rfl ?_
            | refine Look.at1 ?_
            | refine Look.at2 ?_
            | refine Look.at3 ?_
            | refine Look.at4 ?_
            | refine Look.at5 ?_
            | refine Look.at6 ?_
            | refine Look.at7 ?_
            | refine Look.at8 ?_
            | with_reducible refine Val.i64 (by omega) (by omega) ?_
            | with_reducible refine Val.u8 (by omega) (by omega) ?_
            | with_reducible refine Val.u32 (by omega) (by omega) ?_
            | with_reducible refine Val.u64 (by omega) (by omega) ?_
            | with_reducible refine Val.u8m ?_
            | with_reducible refine Val.u32m ?_
            | with_reducible refine Val.u64m ?_
            | with_reducible refine Val.shr8 ?_
            | with_reducible refine Val.shr16 (by decide) ?_
            | with_reducible refine Val.shr24 (by decide) ?_
            | with_reducible refine Val.raw ?_
            | refine Branch.not ?_
            | refine Branch.and ?_
            | refine Branch.or ?_
            | refine Branch.dt (by assumption) ?_
            | refine Branch.df (by assumption) ?_
            | refine Branch.dt rfl ?_
            | refine Branch.dt (by omega) ?_
            | refine Branch.df (by omega) ?_
            | refine Branch.t rfl ?_
            | refine Branch.f rfl ?_
            | refine Branch.t (by assumption) ?_
            | refine Branch.f (by assumption) ?_
            | refine Branch.d (fun _ => ?_) (fun _ => ?_)
            | refine Branch.mk (fun _ => ?_) (fun _ => ?_)
            | refine Need.mk (by first | omega | decide | rfl) ?_
            | refine Idx.nat (by omega) ?_
            | refine Idx.auto (by first | omega | decide) (by first | omega | decide) ?_
            | refine Cell.ro rfl ?_
            | refine SDraw.all (by kernel_rfl) ?_
            | refine Kept.k0 ?_
            | refine Kept.k1 ?_
            | refine Kept.k2 ?_
            | refine Kept.k3 ?_
            | refine Kept.k4 ?_))
  · have e : k = L.length := by omega
    subst e
    clear hR
    have eb : bK L m L.length = wB L m := by unfold bK wB; rw [List.take_length]
    rw [eb]
    repeat' ((conv => whnf); (first
        | refine New.mk (fun _ => ?_)
        | refine Look.at0 ?_
        | refine Cell.row ?_
        | refine Cell.buf ?_
        | refine Cells.row rfl ?_
        | refine Put.row rfl ?_
        | refine Put.buf rfl ?_
        | refine Look.at1 ?_
        | refine Look.at2 ?_
        | refine Look.at3 ?_
        | refine Look.at4 ?_
        | refine Look.at5 ?_
        | refine Look.at6 ?_
        | refine Look.at7 ?_
        | refine Look.at8 ?_
        | with_reducible refine Val.i64 (by omega) (by omega) ?_
        | with_reducible refine Val.u8 (by omega) (by omega) ?_
        | with_reducible refine Val.u32 (by omega) (by omega) ?_
        | with_reducible refine Val.u64 (by omega) (by omega) ?_
        | with_reducible refine Val.u8m ?_
        | with_reducible refine Val.u32m ?_
        | with_reducible refine Val.u64m ?_
        | with_reducible refine Val.shr8 ?_
        | with_reducible refine Val.shr16 (by decide) ?_
        | with_reducible refine Val.shr24 (by decide) ?_
        | with_reducible refine Val.raw ?_
        | refine Branch.not ?_
        | refine Branch.and ?_
        | refine Branch.or ?_
        | refine Branch.dt (by assumption) ?_
        | refine Branch.df (by assumption) ?_
        | refine Branch.dt rfl ?_
        | refine Branch.dt (by omega) ?_
        | refine Branch.df (by omega) ?_
        | refine Branch.t rfl ?_
        | refine Branch.f rfl ?_
        | refine Branch.t (by assumption) ?_
        | refine Branch.f (by assumption) ?_
        | refine Branch.d (fun _ => ?_) (fun _ => ?_)
        | refine Branch.mk (fun _ => ?_) (fun _ => ?_)
        | refine Need.mk (by first | omega | decide | rfl) ?_
        | refine Idx.nat (by omega) ?_
        | refine Idx.auto (by first | omega | decide) (by first | omega | decide) ?_
        | refine Cell.ro rfl ?_
        | refine SDraw.all (by kernel_rfl) ?_
        | refine Kept.k0 ?_
        | refine Kept.k1 ?_
        | refine Kept.k2 ?_
        | refine Kept.k3 ?_
        | refine Kept.k4 ?_))
    refine SLoop.invA (I21b (.slice (some ⟨r, o, none⟩) L.length c) (.slice (some ⟨fr, fo, none⟩) L.length fc) i L m T (M ++ H)) (fun w => m.p + 1 - w) (wB L m) (Keep.all ⟨by omega, wB_le _ _ _, by rw [← hT]; exact wIter_fuel _ _ _ _ _ (by omega) (by omega) (wB_le _ _ _), .mk, rfl⟩) ?_
    rintro w S H' ⟨hwb, hw, hgo, hS, rfl⟩ R hR
    cases hS
    by_cases hp : m.p < m.j + w + tm m
    · have e : T = (0, false) := by
        rw [← hgo]
        cases hf : m.p + 1 - w with
        | zero => rfl
        | succ f => rw [wIter, if_pos hp]
      subst e
      clear hR
      repeat' ((conv => whnf); (first
          | refine Look.cell hM hc4 ?_
          | refine Look.cell hM hc3 ?_
          | refine Look.cells hM rfl hc ?_
          | refine t12 hg ?_
          | refine Branch.df (by omega) ?_
          | exact h'
          | refine New.mk (fun _ => ?_)
          | refine Look.at0 ?_
          | refine Cell.row ?_
          | refine Cell.buf ?_
          | refine Cells.row rfl ?_
          | refine Put.row rfl ?_
          | refine Put.buf rfl ?_
          | refine Look.at1 ?_
          | refine Look.at2 ?_
          | refine Look.at3 ?_
          | refine Look.at4 ?_
          | refine Look.at5 ?_
          | refine Look.at6 ?_
          | refine Look.at7 ?_
          | refine Look.at8 ?_
          | with_reducible refine Val.i64 (by omega) (by omega) ?_
          | with_reducible refine Val.u8 (by omega) (by omega) ?_
          | with_reducible refine Val.u32 (by omega) (by omega) ?_
          | with_reducible refine Val.u64 (by omega) (by omega) ?_
          | with_reducible refine Val.u8m ?_
          | with_reducible refine Val.u32m ?_
          | with_reducible refine Val.u64m ?_
          | with_reducible refine Val.shr8 ?_
          | with_reducible refine Val.shr16 (by decide) ?_
          | with_reducible refine Val.shr24 (by decide) ?_
          | with_reducible refine Val.raw ?_
          | refine Branch.not ?_
          | refine Branch.and ?_
          | refine Branch.or ?_
          | refine Branch.dt (by assumption) ?_
          | refine Branch.df (by assumption) ?_
          | refine Branch.dt rfl ?_
          | refine Branch.dt (by omega) ?_
          | refine Branch.df (by omega) ?_
          | refine Branch.t rfl ?_
          | refine Branch.f rfl ?_
          | refine Branch.t (by assumption) ?_
          | refine Branch.f (by assumption) ?_
          | refine Branch.d (fun _ => ?_) (fun _ => ?_)
          | refine Branch.mk (fun _ => ?_) (fun _ => ?_)
          | refine Need.mk (by first | omega | decide | rfl) ?_
          | refine Idx.nat (by omega) ?_
          | refine Idx.auto (by first | omega | decide) (by first | omega | decide) ?_
          | refine Cell.ro rfl ?_
          | refine SDraw.all (by kernel_rfl) ?_
          | refine Kept.k0 ?_
          | refine Kept.k1 ?_
          | refine Kept.k2 ?_
          | refine Kept.k3 ?_
          | refine Kept.k4 ?_))
    · obtain ⟨f, hf⟩ : ∃ f, m.p + 1 - w = f + 1 := ⟨m.p - w, by omega⟩
      rw [hf, wIter, if_neg hp] at hgo
      repeat' ((conv => whnf); (first
          | refine Look.cell hM hc4 ?_
          | refine Look.cell hM hc3 ?_
          | refine Look.cells hM rfl hc ?_
          | refine t12 hg ?_
          | refine Branch.dt (by omega) ?_
          | refine New.mk (fun _ => ?_)
          | refine Look.at0 ?_
          | refine Cell.row ?_
          | refine Cell.buf ?_
          | refine Cells.row rfl ?_
          | refine Put.row rfl ?_
          | refine Put.buf rfl ?_
          | refine Look.at1 ?_
          | refine Look.at2 ?_
          | refine Look.at3 ?_
          | refine Look.at4 ?_
          | refine Look.at5 ?_
          | refine Look.at6 ?_
          | refine Look.at7 ?_
          | refine Look.at8 ?_
          | with_reducible refine Val.i64 (by omega) (by omega) ?_
          | with_reducible refine Val.u8 (by omega) (by omega) ?_
          | with_reducible refine Val.u32 (by omega) (by omega) ?_
          | with_reducible refine Val.u64 (by omega) (by omega) ?_
          | with_reducible refine Val.u8m ?_
          | with_reducible refine Val.u32m ?_
          | with_reducible refine Val.u64m ?_
          | with_reducible refine Val.shr8 ?_
          | with_reducible refine Val.shr16 (by decide) ?_
          | with_reducible refine Val.shr24 (by decide) ?_
          | with_reducible refine Val.raw ?_
          | refine Branch.not ?_
          | refine Branch.and ?_
          | refine Branch.or ?_
          | refine Branch.dt (by assumption) ?_
          | refine Branch.df (by assumption) ?_
          | refine Branch.dt rfl ?_
          | refine Branch.dt (by omega) ?_
          | refine Branch.df (by omega) ?_
          | refine Branch.t rfl ?_
          | refine Branch.f rfl ?_
          | refine Branch.t (by assumption) ?_
          | refine Branch.f (by assumption) ?_
          | refine Branch.d (fun _ => ?_) (fun _ => ?_)
          | refine Branch.mk (fun _ => ?_) (fun _ => ?_)
          | refine Need.mk (by first | omega | decide | rfl) ?_
          | refine Idx.nat (by omega) ?_
          | refine Idx.auto (by first | omega | decide) (by first | omega | decide) ?_
          | refine Cell.ro rfl ?_
          | refine SDraw.all (by kernel_rfl) ?_
          | refine Kept.k0 ?_
          | refine Kept.k1 ?_
          | refine Kept.k2 ?_
          | refine Kept.k3 ?_
          | refine Kept.k4 ?_))
      refine SLoop.invA (I21c (.slice (some ⟨r, o, none⟩) L.length c) (.slice (some ⟨fr, fo, none⟩) L.length fc) i L m w (M ++ H)) (fun k => L.length - k) 0 (Keep.all ⟨Nat.zero_le _, .mk, rfl⟩) ?_
      rintro k S H' ⟨hk, hS, rfl⟩ R2 hR2
      cases hS
      have hw32 : w ≤ 4294967296 := by omega
      have hgF : ∀ y ∈ fK L m k, Good y := fun y hy => hG.good y (List.mem_of_mem_take (List.mem_filter.1 hy).1)
      have hsum := wSum_b hw32 (fK L m k) (wB L m) hgF
      have hlk : (fK L m k).length ≤ 64 := Nat.le_trans (List.length_filter_le _ _) (Nat.le_trans (List.length_take_le _ _) (by omega))
      have hlk2 : (fK L m k).length * 1374389534880 ≤ 64 * 1374389534880 := Nat.mul_le_mul_right _ hlk
      by_cases hlt : k < L.length
      · obtain ⟨y, hx, hdrop, htake⟩ := list_at hlt
        obtain ⟨r2, o2, c2, b2, e1, hrb2, hc2⟩ := inS_at hin (fun _ => rfl) hx
        injection e1 with e1 _ e3
        injection e1 with e1
        injection e1 with e4 e5
        subst e4 e5
        obtain ⟨fbk, hfbk, hck⟩ := hfk k y hx
        have hM2 := List.mem_append_right M hrb2
        have hd3 := hc2 3 _ rfl
        have hd4 := hc2 4 _ rfl
        have hgy := hG.good y (List.mem_of_getElem? hx)
        have hf1 := fK_succ (m := m) htake
        have hv := wAdd_b hgy hw32
        have hyp := hgy.p1
        have hyp2 := hgy.p2
        have hyj := hgy.j
        have hlts := strLt_of (fV y.id y.x y.n).1 (fV m.id m.x m.n).1
        have hnext := fun S q (hS : S21c (.slice (some ⟨r, o, none⟩) L.length c) (.int .i64 (i : Int)) (.int .u64 (wB L m : Int)) (.slice (some ⟨fr, fo, none⟩) L.length fc) (.int .u64 (w : Int)) (.int .u64 q) (.int .i64 ((k + 1 : Nat) : Int)) S) (hq : q = (((fK L m (k + 1)).foldl (wAdd w) (wB L m) : Nat) : Int)) => hR2 (k + 1) S (M ++ H) (by omega) (Keep.all ⟨by omega, by rw [← hq]; exact hS, rfl⟩)
        clear hR hR2
        generalize hacc : (fK L m k).foldl (wAdd w) (wB L m) = acc at *
        cases hlt2 : tlt (fV y.id y.x y.n).1 (fV m.id m.x m.n).1 with
        | false =>
          rw [hlt2] at hlts
          rw [show tlt (fld y) (fld m) = false from hlt2] at hf1
          have hq : (acc : Int) = (((fK L m (k + 1)).foldl (wAdd w) (wB L m) : Nat) : Int) := by rw [hf1, ← hacc]; rfl
          repeat' ((conv => whnf); (first
              | refine Look.cell hfbk hck ?_
              | refine Look.cell hfb hfi ?_
              | refine Branch.f hlts ?_
              | exact hnext _ _ .mk hq
              | refine New.mk (fun _ => ?_)
              | refine Look.at0 ?_
              | refine Cell.row ?_
              | refine Cell.buf ?_
              | refine Cells.row rfl ?_
              | refine Put.row rfl ?_
              | refine Put.buf rfl ?_
              | refine Look.at1 ?_
              | refine Look.at2 ?_
              | refine Look.at3 ?_
              | refine Look.at4 ?_
              | refine Look.at5 ?_
              | refine Look.at6 ?_
              | refine Look.at7 ?_
              | refine Look.at8 ?_
              | with_reducible refine Val.i64 (by omega) (by omega) ?_
              | with_reducible refine Val.u8 (by omega) (by omega) ?_
              | with_reducible refine Val.u32 (by omega) (by omega) ?_
              | with_reducible refine Val.u64 (by omega) (by omega) ?_
              | with_reducible refine Val.u8m ?_
              | with_reducible refine Val.u32m ?_
              | with_reducible refine Val.u64m ?_
              | with_reducible refine Val.shr8 ?_
              | with_reducible refine Val.shr16 (by decide) ?_
              | with_reducible refine Val.shr24 (by decide) ?_
              | with_reducible refine Val.raw ?_
              | refine Branch.not ?_
              | refine Branch.and ?_
              | refine Branch.or ?_
              | refine Branch.dt (by assumption) ?_
              | refine Branch.df (by assumption) ?_
              | refine Branch.dt rfl ?_
              | refine Branch.dt (by omega) ?_
              | refine Branch.df (by omega) ?_
              | refine Branch.t rfl ?_
              | refine Branch.f rfl ?_
              | refine Branch.t (by assumption) ?_
              | refine Branch.f (by assumption) ?_
              | refine Branch.d (fun _ => ?_) (fun _ => ?_)
              | refine Branch.mk (fun _ => ?_) (fun _ => ?_)
              | refine Need.mk (by first | omega | decide | rfl) ?_
              | refine Idx.nat (by omega) ?_
              | refine Idx.auto (by first | omega | decide) (by first | omega | decide) ?_
              | refine Cell.ro rfl ?_
              | refine SDraw.all (by kernel_rfl) ?_
              | refine Kept.k0 ?_
              | refine Kept.k1 ?_
              | refine Kept.k2 ?_
              | refine Kept.k3 ?_
              | refine Kept.k4 ?_))
        | true =>
          rw [hlt2] at hlts
          rw [show tlt (fld y) (fld m) = true from hlt2] at hf1
          have hq : ((wAdd w acc y : Nat) : Int) = (((fK L m (k + 1)).foldl (wAdd w) (wB L m) : Nat) : Int) := by
            rw [hf1, if_pos rfl, List.foldl_append, hacc]; rfl
          have hd : (w + y.j) / y.p ≤ 8589934591 := Nat.le_trans (Nat.div_le_self _ _) (by omega)
          have hv0 : IntKind.u64.wrap (((w : Int) + (y.j : Int)).tdiv (y.p : Int)) = (((w + y.j) / y.p : Nat) : Int) := by
            rw [show ((w : Int) + (y.j : Int)) = ((w + y.j : Nat) : Int) from rfl, Int.tdiv_eq_ediv_of_nonneg (by omega), ← Int.natCast_ediv]
            exact wrap_nat rfl (by show _ < 18446744073709551616; omega)
          have hv01 : IntKind.u64.wrap ((((w + y.j) / y.p : Nat) : Int) + 1) = (((w + y.j) / y.p + 1 : Nat) : Int) := by
            rw [show (((w + y.j) / y.p : Nat) : Int) + 1 = (((w + y.j) / y.p + 1 : Nat) : Int) from rfl]
            exact wrap_nat rfl (by show _ < 18446744073709551616; omega)
          have hv1 : IntKind.u64.wrap ((tm y : Int) * (((w + y.j) / y.p + 1 : Nat) : Int)) = ((tm y * ((w + y.j) / y.p + 1) : Nat) : Int) := by
            rw [← Int.natCast_mul]; exact wrap_nat rfl (by show _ < 18446744073709551616; omega)
          have hv2 : IntKind.u64.wrap ((acc : Int) + ((tm y * ((w + y.j) / y.p + 1) : Nat) : Int)) = ((wAdd w acc y : Nat) : Int) := by
            rw [← Int.natCast_add]; exact wrap_nat rfl (by show _ < 18446744073709551616; omega)
          repeat' ((conv => whnf); (first
              | refine Look.cell hfbk hck ?_
              | refine Look.cell hfb hfi ?_
              | refine Look.cell hM2 hd4 ?_
              | refine Look.cell hM2 hd3 ?_
              | refine Look.cells hM2 rfl hc2 ?_
              | refine t12 hgy ?_
              | refine Branch.t hlts ?_
              | with_reducible refine Val.to _ hv0 ?_
              | with_reducible refine Val.to _ hv01 ?_
              | with_reducible refine Val.to _ hv1 ?_
              | with_reducible refine Val.to _ hv2 ?_
              | exact hnext _ _ .mk hq
              | refine New.mk (fun _ => ?_)
              | refine Look.at0 ?_
              | refine Cell.row ?_
              | refine Cell.buf ?_
              | refine Cells.row rfl ?_
              | refine Put.row rfl ?_
              | refine Put.buf rfl ?_
              | refine Look.at1 ?_
              | refine Look.at2 ?_
              | refine Look.at3 ?_
              | refine Look.at4 ?_
              | refine Look.at5 ?_
              | refine Look.at6 ?_
              | refine Look.at7 ?_
              | refine Look.at8 ?_
              | with_reducible refine Val.i64 (by omega) (by omega) ?_
              | with_reducible refine Val.u8 (by omega) (by omega) ?_
              | with_reducible refine Val.u32 (by omega) (by omega) ?_
              | with_reducible refine Val.u64 (by omega) (by omega) ?_
              | with_reducible refine Val.u8m ?_
              | with_reducible refine Val.u32m ?_
              | with_reducible refine Val.u64m ?_
              | with_reducible refine Val.shr8 ?_
              | with_reducible refine Val.shr16 (by decide) ?_
              | with_reducible refine Val.shr24 (by decide) ?_
              | with_reducible refine Val.raw ?_
              | refine Branch.not ?_
              | refine Branch.and ?_
              | refine Branch.or ?_
              | refine Branch.dt (by assumption) ?_
              | refine Branch.df (by assumption) ?_
              | refine Branch.dt rfl ?_
              | refine Branch.dt (by omega) ?_
              | refine Branch.df (by omega) ?_
              | refine Branch.t rfl ?_
              | refine Branch.f rfl ?_
              | refine Branch.t (by assumption) ?_
              | refine Branch.f (by assumption) ?_
              | refine Branch.d (fun _ => ?_) (fun _ => ?_)
              | refine Branch.mk (fun _ => ?_) (fun _ => ?_)
              | refine Need.mk (by first | omega | decide | rfl) ?_
              | refine Idx.nat (by omega) ?_
              | refine Idx.auto (by first | omega | decide) (by first | omega | decide) ?_
              | refine Cell.ro rfl ?_
              | refine SDraw.all (by kernel_rfl) ?_
              | refine Kept.k0 ?_
              | refine Kept.k1 ?_
              | refine Kept.k2 ?_
              | refine Kept.k3 ?_
              | refine Kept.k4 ?_))
      · have e : k = L.length := by omega
        subst e
        have es : (fK L m L.length).foldl (wAdd w) (wB L m) = wStep L m w := by unfold fK; rw [List.take_length]; rfl
        rw [es] at hsum
        rw [es]
        generalize hS' : wStep L m w = n at *
        have hmono : w ≤ n → n ≤ wStep L m n := fun hh => by
          have := wStep_mono L m hh
          rw [hS'] at this; exact this
        clear hR2 es
        by_cases he : n = w
        · subst he
          rw [if_pos rfl] at hgo
          subst hgo
          clear hR
          have hk' : Keep (M ++ H) fun H' => K (.tuple ⟨[.int .u64 ((m.j : Int) + (n : Int) + (tm m : Int)), .bool true]⟩) H' := h'
          repeat' ((conv => whnf); (first
              | refine Look.cell hM hc4 ?_
              | refine Look.cell hM hc3 ?_
              | refine Look.cells hM rfl hc ?_
              | refine t12 hg ?_
              | exact hk'
              | refine New.mk (fun _ => ?_)
              | refine Look.at0 ?_
              | refine Cell.row ?_
              | refine Cell.buf ?_
              | refine Cells.row rfl ?_
              | refine Put.row rfl ?_
              | refine Put.buf rfl ?_
              | refine Look.at1 ?_
              | refine Look.at2 ?_
              | refine Look.at3 ?_
              | refine Look.at4 ?_
              | refine Look.at5 ?_
              | refine Look.at6 ?_
              | refine Look.at7 ?_
              | refine Look.at8 ?_
              | with_reducible refine Val.i64 (by omega) (by omega) ?_
              | with_reducible refine Val.u8 (by omega) (by omega) ?_
              | with_reducible refine Val.u32 (by omega) (by omega) ?_
              | with_reducible refine Val.u64 (by omega) (by omega) ?_
              | with_reducible refine Val.u8m ?_
              | with_reducible refine Val.u32m ?_
              | with_reducible refine Val.u64m ?_
              | with_reducible refine Val.shr8 ?_
              | with_reducible refine Val.shr16 (by decide) ?_
              | with_reducible refine Val.shr24 (by decide) ?_
              | with_reducible refine Val.raw ?_
              | refine Branch.not ?_
              | refine Branch.and ?_
              | refine Branch.or ?_
              | refine Branch.dt (by assumption) ?_
              | refine Branch.df (by assumption) ?_
              | refine Branch.dt rfl ?_
              | refine Branch.dt (by omega) ?_
              | refine Branch.df (by omega) ?_
              | refine Branch.t rfl ?_
              | refine Branch.f rfl ?_
              | refine Branch.t (by assumption) ?_
              | refine Branch.f (by assumption) ?_
              | refine Branch.d (fun _ => ?_) (fun _ => ?_)
              | refine Branch.mk (fun _ => ?_) (fun _ => ?_)
              | refine Need.mk (by first | omega | decide | rfl) ?_
              | refine Idx.nat (by omega) ?_
              | refine Idx.auto (by first | omega | decide) (by first | omega | decide) ?_
              | refine Cell.ro rfl ?_
              | refine SDraw.all (by kernel_rfl) ?_
              | refine Kept.k0 ?_
              | refine Kept.k1 ?_
              | refine Kept.k2 ?_
              | refine Kept.k3 ?_
              | refine Kept.k4 ?_))
        · rw [if_neg he] at hgo
          have hnext := fun S (hS : S21b (.slice (some ⟨r, o, none⟩) L.length c) (.int .i64 (i : Int)) (.int .u64 (wB L m : Int)) (.slice (some ⟨fr, fo, none⟩) L.length fc) (.int .u64 (n : Int)) S) => hR n S (M ++ H) (by omega) (Keep.all ⟨by omega, hmono hw, by rw [← hgo]; exact wIter_fuel _ _ _ _ _ (by omega) (by omega) (hmono hw), hS, rfl⟩)
          clear hR
          repeat' ((conv => whnf); (first
              | refine Branch.df (by omega) ?_
              | exact hnext _ .mk
              | refine New.mk (fun _ => ?_)
              | refine Look.at0 ?_
              | refine Cell.row ?_
              | refine Cell.buf ?_
              | refine Cells.row rfl ?_
              | refine Put.row rfl ?_
              | refine Put.buf rfl ?_
              | refine Look.at1 ?_
              | refine Look.at2 ?_
              | refine Look.at3 ?_
              | refine Look.at4 ?_
              | refine Look.at5 ?_
              | refine Look.at6 ?_
              | refine Look.at7 ?_
              | refine Look.at8 ?_
              | with_reducible refine Val.i64 (by omega) (by omega) ?_
              | with_reducible refine Val.u8 (by omega) (by omega) ?_
              | with_reducible refine Val.u32 (by omega) (by omega) ?_
              | with_reducible refine Val.u64 (by omega) (by omega) ?_
              | with_reducible refine Val.u8m ?_
              | with_reducible refine Val.u32m ?_
              | with_reducible refine Val.u64m ?_
              | with_reducible refine Val.shr8 ?_
              | with_reducible refine Val.shr16 (by decide) ?_
              | with_reducible refine Val.shr24 (by decide) ?_
              | with_reducible refine Val.raw ?_
              | refine Branch.not ?_
              | refine Branch.and ?_
              | refine Branch.or ?_
              | refine Branch.dt (by assumption) ?_
              | refine Branch.df (by assumption) ?_
              | refine Branch.dt rfl ?_
              | refine Branch.dt (by omega) ?_
              | refine Branch.df (by omega) ?_
              | refine Branch.t rfl ?_
              | refine Branch.f rfl ?_
              | refine Branch.t (by assumption) ?_
              | refine Branch.f (by assumption) ?_
              | refine Branch.d (fun _ => ?_) (fun _ => ?_)
              | refine Branch.mk (fun _ => ?_) (fun _ => ?_)
              | refine Need.mk (by first | omega | decide | rfl) ?_
              | refine Idx.nat (by omega) ?_
              | refine Idx.auto (by first | omega | decide) (by first | omega | decide) ?_
              | refine Cell.ro rfl ?_
              | refine SDraw.all (by kernel_rfl) ?_
              | refine Kept.k0 ?_
              | refine Kept.k1 ?_
              | refine Kept.k2 ?_
              | refine Kept.k3 ?_
              | refine Kept.k4 ?_))
end
end Go.Proofs.YtjleekdidedhaaaDoor

/- Layer 25: Check, Time, Worst, Fits, Busy: by walks. -/
set_option linter.unusedVariables false
set_option linter.unusedSimpArgs false
set_option maxRecDepth 100000
set_option maxHeartbeats 4000000
namespace Go.Proofs.YtjleekdidedhaaaDoor
open Sx
def fitsS (L : List Msg) : Bool := L.all fun m => (worstS L m).2
def bAdd (a : Nat) (y : Msg) : Nat := a + tm y * 1000 / y.p
def busyS (L : List Msg) : Nat := L.foldl bAdd 0
theorem bAdd_b : ∀ (F : List Msg) (a : Nat), (∀ y ∈ F, Good y) → F.foldl bAdd a ≤ a + F.length * 160000
  | [], a, _ => by simp
  | y :: F, a, h => by
    have h1 := bAdd_b F (bAdd a y) (fun z hz => h z (.tail _ hz))
    have h2 := (h y (.head _)).tm
    have h3 : tm y * 1000 / y.p ≤ 160000 := Nat.le_trans (Nat.div_le_self _ _) (by omega)
    rw [List.length_cons, Nat.succ_mul]
    show F.foldl bAdd (bAdd a y) ≤ _
    unfold bAdd at h1 ⊢
    omega
inductive S19 (A0 A13 A14 A15 : Value) : List Value → Prop
  | mk {r1 r2 r3 r4 r5 r6 r7 r8 r9 r10 r11 r12 r16 r17 r18 r19 r20 r21 r22 r23 r24 r25 r26 : Value} : S19 A0 A13 A14 A15 [A0, r1, r2, r3, r4, r5, r6, r7, r8, r9, r10, r11, r12, A13, A14, A15, r16, r17, r18, r19, r20, r21, r22, r23, r24, r25, r26]
inductive S20 (A5 A13 A14 A15 : Value) : List Value → Prop
  | mk {r0 r1 r2 r3 r4 r6 r7 r8 r9 r10 r11 r12 r16 r17 r18 r19 r20 r21 r22 r23 r24 r25 r26 r27 r28 : Value} : S20 A5 A13 A14 A15 [r0, r1, r2, r3, r4, A5, r6, r7, r8, r9, r10, r11, r12, A13, A14, A15, r16, r17, r18, r19, r20, r21, r22, r23, r24, r25, r26, r27, r28]
section
variable {K : Value → Heap → Prop} {H : Heap} {sv : Value} {L : List Msg} {m y : Msg}
theorem c9 (hin : InS mC 5 sv H L) (hb : L.length * 32 ≤ 140737488355328) (h : ∀ q c, L.length ≤ c → c ≤ maxLen → K (.slice (some ⟨q, 0, none⟩) L.length c) ((q, .buf 30 (L.flatMap mC) (c * 5)) :: H)) : SCalls Tryd.prog 9 [sv] H K := by
  obtain ⟨sa, sc, rfl, hml⟩ := hin.sv
  refine enter9 ?_
  have hcp : ∀ p (o : Oper) (xs xx : Operand) (K2 : Value → Heap → Prop), o.op = .call { callee := .builtin .append, args := #[xs, xx], argTypes := #[22, 22] } → (∀ q c, L.length ≤ c → c ≤ maxLen → K2 (.slice (some ⟨q, 0, none⟩) L.length c) ((q, .buf 30 (L.flatMap mC) (c * 5)) :: H)) → RawV Tryd.prog o [.slice (some ⟨p, 0, none⟩) 0 0, .slice sa L.length sc] ((p, .row 30 [] (0, 0)) :: H) K2 :=
    fun p o xs xx K2 ho hk => RawV.copyS hin ho (by kernel_rfl) (by decide) (fun _ => rfl) one5 hb hk
  repeat' ((conv => whnf); (first
      | refine hcp _ _ _ _ _ rfl (fun q c h1 h2 => ?_)
      | exact Keep.all (h _ _ h1 h2)
      | refine New.mk (fun _ => ?_)
      | refine Look.at0 ?_
      | refine Cell.row ?_
      | refine Cell.buf ?_
      | refine Cells.row rfl ?_
      | refine Put.row rfl ?_
      | refine Put.buf rfl ?_
      | refine Look.at1 ?_
      | refine Look.at2 ?_
      | refine Look.at3 ?_
      | refine Look.at4 ?_
      | refine Look.at5 ?_
      | refine Look.at6 ?_
      | refine Look.at7 ?_
      | refine Look.at8 ?_
      | with_reducible refine Val.i64 (by omega) (by omega) ?_
      | with_reducible refine Val.u8 (by omega) (by omega) ?_
      | with_reducible refine Val.u32 (by omega) (by omega) ?_
      | with_reducible refine Val.u64 (by omega) (by omega) ?_
      | with_reducible refine Val.u8m ?_
      | with_reducible refine Val.u32m ?_
      | with_reducible refine Val.u64m ?_
      | with_reducible refine Val.shr8 ?_
      | with_reducible refine Val.shr16 (by decide) ?_
      | with_reducible refine Val.shr24 (by decide) ?_
      | with_reducible refine Val.raw ?_
      | refine Branch.not ?_
      | refine Branch.and ?_
      | refine Branch.or ?_
      | refine Branch.dt (by assumption) ?_
      | refine Branch.df (by assumption) ?_
      | refine Branch.dt rfl ?_
      | refine Branch.dt (by omega) ?_
      | refine Branch.df (by omega) ?_
      | refine Branch.t rfl ?_
      | refine Branch.f rfl ?_
      | refine Branch.t (by assumption) ?_
      | refine Branch.f (by assumption) ?_
      | refine Branch.d (fun _ => ?_) (fun _ => ?_)
      | refine Branch.mk (fun _ => ?_) (fun _ => ?_)
      | refine Need.mk (by first | omega | decide | rfl) ?_
      | refine Idx.nat (by omega) ?_
      | refine Idx.auto (by first | omega | decide) (by first | omega | decide) ?_
      | refine Cell.ro rfl ?_
      | refine SDraw.all (by kernel_rfl) ?_
      | refine Kept.k0 ?_
      | refine Kept.k1 ?_
      | refine Kept.k2 ?_
      | refine Kept.k3 ?_
      | refine Kept.k4 ?_))
theorem c8 (hD : Db H) (hin : InS mC 5 sv H L) (hwf : ∀ m ∈ L, m.wf) (h : K (.int .i64 (chk L)) H) : SCalls Tryd.prog 8 [sv] H K := by
  obtain ⟨sa, sc, rfl, hml⟩ := hin.sv
  refine enter8 ?_
  repeat' ((conv => whnf); (first
      | refine c22 hD hin hwf ?_
      | exact Keep.all h
      | refine New.mk (fun _ => ?_)
      | refine Look.at0 ?_
      | refine Cell.row ?_
      | refine Cell.buf ?_
      | refine Cells.row rfl ?_
      | refine Put.row rfl ?_
      | refine Put.buf rfl ?_
      | refine Look.at1 ?_
      | refine Look.at2 ?_
      | refine Look.at3 ?_
      | refine Look.at4 ?_
      | refine Look.at5 ?_
      | refine Look.at6 ?_
      | refine Look.at7 ?_
      | refine Look.at8 ?_
      | with_reducible refine Val.i64 (by omega) (by omega) ?_
      | with_reducible refine Val.u8 (by omega) (by omega) ?_
      | with_reducible refine Val.u32 (by omega) (by omega) ?_
      | with_reducible refine Val.u64 (by omega) (by omega) ?_
      | with_reducible refine Val.u8m ?_
      | with_reducible refine Val.u32m ?_
      | with_reducible refine Val.u64m ?_
      | with_reducible refine Val.shr8 ?_
      | with_reducible refine Val.shr16 (by decide) ?_
      | with_reducible refine Val.shr24 (by decide) ?_
      | with_reducible refine Val.raw ?_
      | refine Branch.not ?_
      | refine Branch.and ?_
      | refine Branch.or ?_
      | refine Branch.dt (by assumption) ?_
      | refine Branch.df (by assumption) ?_
      | refine Branch.dt rfl ?_
      | refine Branch.dt (by omega) ?_
      | refine Branch.df (by omega) ?_
      | refine Branch.t rfl ?_
      | refine Branch.f rfl ?_
      | refine Branch.t (by assumption) ?_
      | refine Branch.f (by assumption) ?_
      | refine Branch.d (fun _ => ?_) (fun _ => ?_)
      | refine Branch.mk (fun _ => ?_) (fun _ => ?_)
      | refine Need.mk (by first | omega | decide | rfl) ?_
      | refine Idx.nat (by omega) ?_
      | refine Idx.auto (by first | omega | decide) (by first | omega | decide) ?_
      | refine Cell.ro rfl ?_
      | refine SDraw.all (by kernel_rfl) ?_
      | refine Kept.k0 ?_
      | refine Kept.k1 ?_
      | refine Kept.k2 ?_
      | refine Kept.k3 ?_
      | refine Kept.k4 ?_))
theorem Good.wf (h : Good m) : m.wf := by
  have := h.id; have := h.n0; have := h.n8; have := h.p2; have := h.j
  exact ⟨by omega, by omega, by omega, by omega, by omega⟩
theorem Good.chk1 (h : Good m) : chk [m] = 0 := by
  have hb : badN m.n m.p m.j = false := by
    have := h.n0; have := h.n8; have := h.p1; have := h.p2; have := h.j
    unfold badN
    simp only [Bool.or_eq_false_iff, decide_eq_false_iff_not]
    omega
  unfold chk chkGo
  rw [hb, h.ok]
  simp [chkGo]
theorem c14 (hD : Db H) (hg : Good m) (h : K (.tuple ⟨[.int .u64 (tm m : Int), .int .i64 0]⟩) H) : SCalls Tryd.prog 14 [.agg ⟨mC m⟩] H K := by
  refine enter14 ?_
  have h22 : ∀ q p (K2 : Value → Heap → Prop), K2 (.int .i64 0) ((q, .row 30 (mC m) (0, 0)) :: p :: H) → SCalls Tryd.prog 22 [.slice (some ⟨q, 0, none⟩) 1 1] ((q, .row 30 (mC m) (0, 0)) :: p :: H) K2 := fun q p K2 hk =>
    c22 (L := [m]) (hD.mono fun p hp => .tail _ (.tail _ hp)) (InS.row (L := [m]) (.head _) (by simp) (fun _ => rfl) (by show 1 ≤ maxLen; decide)) (fun y hy => by obtain rfl := List.mem_singleton.1 hy; exact hg.wf) (by rw [hg.chk1]; exact hk)
  repeat' ((conv => whnf); (first
      | refine h22 _ _ _ ?_
      | refine t27 hg ?_
      | exact Keep.d2 h
      | refine New.mk (fun _ => ?_)
      | refine Look.at0 ?_
      | refine Cell.row ?_
      | refine Cell.buf ?_
      | refine Cells.row rfl ?_
      | refine Put.row rfl ?_
      | refine Put.buf rfl ?_
      | refine Look.at1 ?_
      | refine Look.at2 ?_
      | refine Look.at3 ?_
      | refine Look.at4 ?_
      | refine Look.at5 ?_
      | refine Look.at6 ?_
      | refine Look.at7 ?_
      | refine Look.at8 ?_
      | with_reducible refine Val.i64 (by omega) (by omega) ?_
      | with_reducible refine Val.u8 (by omega) (by omega) ?_
      | with_reducible refine Val.u32 (by omega) (by omega) ?_
      | with_reducible refine Val.u64 (by omega) (by omega) ?_
      | with_reducible refine Val.u8m ?_
      | with_reducible refine Val.u32m ?_
      | with_reducible refine Val.u64m ?_
      | with_reducible refine Val.shr8 ?_
      | with_reducible refine Val.shr16 (by decide) ?_
      | with_reducible refine Val.shr24 (by decide) ?_
      | with_reducible refine Val.raw ?_
      | refine Branch.not ?_
      | refine Branch.and ?_
      | refine Branch.or ?_
      | refine Branch.dt (by assumption) ?_
      | refine Branch.df (by assumption) ?_
      | refine Branch.dt rfl ?_
      | refine Branch.dt (by omega) ?_
      | refine Branch.df (by omega) ?_
      | refine Branch.t rfl ?_
      | refine Branch.f rfl ?_
      | refine Branch.t (by assumption) ?_
      | refine Branch.f (by assumption) ?_
      | refine Branch.d (fun _ => ?_) (fun _ => ?_)
      | refine Branch.mk (fun _ => ?_) (fun _ => ?_)
      | refine Need.mk (by first | omega | decide | rfl) ?_
      | refine Idx.nat (by omega) ?_
      | refine Idx.auto (by first | omega | decide) (by first | omega | decide) ?_
      | refine Cell.ro rfl ?_
      | refine SDraw.all (by kernel_rfl) ?_
      | refine Kept.k0 ?_
      | refine Kept.k1 ?_
      | refine Kept.k2 ?_
      | refine Kept.k3 ?_
      | refine Kept.k4 ?_))
theorem c11e {i : Int} (hD : Db H) (hin : InS mC 5 sv H L) (hwf : ∀ m ∈ L, m.wf) (hc : chk L ≠ 0) (h : K (.tuple ⟨[.int .u64 0, .bool false, .int .i64 (chk L)]⟩) H) : SCalls Tryd.prog 11 [sv, .int .i64 i] H K := by
  obtain ⟨sa, sc, rfl, hml⟩ := hin.sv
  refine enter11 ?_
  repeat' ((conv => whnf); (first
      | refine c22 hD hin hwf ?_
      | refine Branch.t (by first | (simp [hc]; done) | omega) ?_
      | exact Keep.all h
      | refine New.mk (fun _ => ?_)
      | refine Look.at0 ?_
      | refine Cell.row ?_
      | refine Cell.buf ?_
      | refine Cells.row rfl ?_
      | refine Put.row rfl ?_
      | refine Put.buf rfl ?_
      | refine Look.at1 ?_
      | refine Look.at2 ?_
      | refine Look.at3 ?_
      | refine Look.at4 ?_
      | refine Look.at5 ?_
      | refine Look.at6 ?_
      | refine Look.at7 ?_
      | refine Look.at8 ?_
      | with_reducible refine Val.i64 (by omega) (by omega) ?_
      | with_reducible refine Val.u8 (by omega) (by omega) ?_
      | with_reducible refine Val.u32 (by omega) (by omega) ?_
      | with_reducible refine Val.u64 (by omega) (by omega) ?_
      | with_reducible refine Val.u8m ?_
      | with_reducible refine Val.u32m ?_
      | with_reducible refine Val.u64m ?_
      | with_reducible refine Val.shr8 ?_
      | with_reducible refine Val.shr16 (by decide) ?_
      | with_reducible refine Val.shr24 (by decide) ?_
      | with_reducible refine Val.raw ?_
      | refine Branch.not ?_
      | refine Branch.and ?_
      | refine Branch.or ?_
      | refine Branch.dt (by assumption) ?_
      | refine Branch.df (by assumption) ?_
      | refine Branch.dt rfl ?_
      | refine Branch.dt (by omega) ?_
      | refine Branch.df (by omega) ?_
      | refine Branch.t rfl ?_
      | refine Branch.f rfl ?_
      | refine Branch.t (by assumption) ?_
      | refine Branch.f (by assumption) ?_
      | refine Branch.d (fun _ => ?_) (fun _ => ?_)
      | refine Branch.mk (fun _ => ?_) (fun _ => ?_)
      | refine Need.mk (by first | omega | decide | rfl) ?_
      | refine Idx.nat (by omega) ?_
      | refine Idx.auto (by first | omega | decide) (by first | omega | decide) ?_
      | refine Cell.ro rfl ?_
      | refine SDraw.all (by kernel_rfl) ?_
      | refine Kept.k0 ?_
      | refine Kept.k1 ?_
      | refine Kept.k2 ?_
      | refine Kept.k3 ?_
      | refine Kept.k4 ?_))
theorem c11r {i : Int} (hD : Db H) (hin : InS mC 5 sv H L) (hwf : ∀ m ∈ L, m.wf) (hc : chk L = 0) (hi : i < 0 ∨ (L.length : Int) ≤ i) (h : K (.tuple ⟨[.int .u64 0, .bool false, .int .i64 1]⟩) H) : SCalls Tryd.prog 11 [sv, .int .i64 i] H K := by
  obtain ⟨sa, sc, rfl, hml⟩ := hin.sv
  have h22 := fun (K : Value → Heap → Prop) hk => c22 (K := K) hD hin hwf hk
  rw [hc] at h22
  refine enter11 ?_
  repeat' ((conv => whnf); (first
      | refine h22 _ ?_
      | refine Branch.f rfl ?_
      | exact Keep.all h
      | refine New.mk (fun _ => ?_)
      | refine Look.at0 ?_
      | refine Cell.row ?_
      | refine Cell.buf ?_
      | refine Cells.row rfl ?_
      | refine Put.row rfl ?_
      | refine Put.buf rfl ?_
      | refine Look.at1 ?_
      | refine Look.at2 ?_
      | refine Look.at3 ?_
      | refine Look.at4 ?_
      | refine Look.at5 ?_
      | refine Look.at6 ?_
      | refine Look.at7 ?_
      | refine Look.at8 ?_
      | with_reducible refine Val.i64 (by omega) (by omega) ?_
      | with_reducible refine Val.u8 (by omega) (by omega) ?_
      | with_reducible refine Val.u32 (by omega) (by omega) ?_
      | with_reducible refine Val.u64 (by omega) (by omega) ?_
      | with_reducible refine Val.u8m ?_
      | with_reducible refine Val.u32m ?_
      | with_reducible refine Val.u64m ?_
      | with_reducible refine Val.shr8 ?_
      | with_reducible refine Val.shr16 (by decide) ?_
      | with_reducible refine Val.shr24 (by decide) ?_
      | with_reducible refine Val.raw ?_
      | refine Branch.not ?_
      | refine Branch.and ?_
      | refine Branch.or ?_
      | refine Branch.dt (by assumption) ?_
      | refine Branch.df (by assumption) ?_
      | refine Branch.dt rfl ?_
      | refine Branch.dt (by omega) ?_
      | refine Branch.df (by omega) ?_
      | refine Branch.t rfl ?_
      | refine Branch.f rfl ?_
      | refine Branch.t (by assumption) ?_
      | refine Branch.f (by assumption) ?_
      | refine Branch.d (fun _ => ?_) (fun _ => ?_)
      | refine Branch.mk (fun _ => ?_) (fun _ => ?_)
      | refine Need.mk (by first | omega | decide | rfl) ?_
      | refine Idx.nat (by omega) ?_
      | refine Idx.auto (by first | omega | decide) (by first | omega | decide) ?_
      | refine Cell.ro rfl ?_
      | refine SDraw.all (by kernel_rfl) ?_
      | refine Kept.k0 ?_
      | refine Kept.k1 ?_
      | refine Kept.k2 ?_
      | refine Kept.k3 ?_
      | refine Kept.k4 ?_))
  all_goals (exfalso; omega)
theorem c11 {i : Nat} (hD : Db H) (hin : InS mC 5 sv H L) (hG : Goods L) (hwf : ∀ m ∈ L, m.wf) (hc : chk L = 0) (hi : L[i]? = some m) (h : K (.tuple ⟨[.int .u64 ((worstS L m).1 : Int), .bool (worstS L m).2, .int .i64 0]⟩) H) : SCalls Tryd.prog 11 [sv, .int .i64 (i : Int)] H K := by
  obtain ⟨sa, sc, rfl, hml⟩ := hin.sv
  have hil : i < L.length := (List.getElem?_eq_some_iff.1 hi).1
  have h22 := fun (K : Value → Heap → Prop) hk => c22 (K := K) hD hin hwf hk
  rw [hc] at h22
  refine enter11 ?_
  repeat' ((conv => whnf); (first
      | refine h22 _ ?_
      | refine Branch.f rfl ?_
      | refine c23 hD hin hG hi ?_
      | exact Keep.all h
      | refine New.mk (fun _ => ?_)
      | refine Look.at0 ?_
      | refine Cell.row ?_
      | refine Cell.buf ?_
      | refine Cells.row rfl ?_
      | refine Put.row rfl ?_
      | refine Put.buf rfl ?_
      | refine Look.at1 ?_
      | refine Look.at2 ?_
      | refine Look.at3 ?_
      | refine Look.at4 ?_
      | refine Look.at5 ?_
      | refine Look.at6 ?_
      | refine Look.at7 ?_
      | refine Look.at8 ?_
      | with_reducible refine Val.i64 (by omega) (by omega) ?_
      | with_reducible refine Val.u8 (by omega) (by omega) ?_
      | with_reducible refine Val.u32 (by omega) (by omega) ?_
      | with_reducible refine Val.u64 (by omega) (by omega) ?_
      | with_reducible refine Val.u8m ?_
      | with_reducible refine Val.u32m ?_
      | with_reducible refine Val.u64m ?_
      | with_reducible refine Val.shr8 ?_
      | with_reducible refine Val.shr16 (by decide) ?_
      | with_reducible refine Val.shr24 (by decide) ?_
      | with_reducible refine Val.raw ?_
      | refine Branch.not ?_
      | refine Branch.and ?_
      | refine Branch.or ?_
      | refine Branch.dt (by assumption) ?_
      | refine Branch.df (by assumption) ?_
      | refine Branch.dt rfl ?_
      | refine Branch.dt (by omega) ?_
      | refine Branch.df (by omega) ?_
      | refine Branch.t rfl ?_
      | refine Branch.f rfl ?_
      | refine Branch.t (by assumption) ?_
      | refine Branch.f (by assumption) ?_
      | refine Branch.d (fun _ => ?_) (fun _ => ?_)
      | refine Branch.mk (fun _ => ?_) (fun _ => ?_)
      | refine Need.mk (by first | omega | decide | rfl) ?_
      | refine Idx.nat (by omega) ?_
      | refine Idx.auto (by first | omega | decide) (by first | omega | decide) ?_
      | refine Cell.ro rfl ?_
      | refine SDraw.all (by kernel_rfl) ?_
      | refine Kept.k0 ?_
      | refine Kept.k1 ?_
      | refine Kept.k2 ?_
      | refine Kept.k3 ?_
      | refine Kept.k4 ?_))
theorem c19e (hD : Db H) (hin : InS mC 5 sv H L) (hwf : ∀ m ∈ L, m.wf) (hc : chk L ≠ 0) (h : K (.tuple ⟨[.bool false, .int .i64 (chk L)]⟩) H) : SCalls Tryd.prog 19 [sv] H K := by
  obtain ⟨sa, sc, rfl, hml⟩ := hin.sv
  refine enter19 ?_
  repeat' ((conv => whnf); (first
      | refine c22 hD hin hwf ?_
      | refine Branch.t (by first | (simp [hc]; done) | omega) ?_
      | exact Keep.all h
      | refine New.mk (fun _ => ?_)
      | refine Look.at0 ?_
      | refine Cell.row ?_
      | refine Cell.buf ?_
      | refine Cells.row rfl ?_
      | refine Put.row rfl ?_
      | refine Put.buf rfl ?_
      | refine Look.at1 ?_
      | refine Look.at2 ?_
      | refine Look.at3 ?_
      | refine Look.at4 ?_
      | refine Look.at5 ?_
      | refine Look.at6 ?_
      | refine Look.at7 ?_
      | refine Look.at8 ?_
      | with_reducible refine Val.i64 (by omega) (by omega) ?_
      | with_reducible refine Val.u8 (by omega) (by omega) ?_
      | with_reducible refine Val.u32 (by omega) (by omega) ?_
      | with_reducible refine Val.u64 (by omega) (by omega) ?_
      | with_reducible refine Val.u8m ?_
      | with_reducible refine Val.u32m ?_
      | with_reducible refine Val.u64m ?_
      | with_reducible refine Val.shr8 ?_
      | with_reducible refine Val.shr16 (by decide) ?_
      | with_reducible refine Val.shr24 (by decide) ?_
      | with_reducible refine Val.raw ?_
      | refine Branch.not ?_
      | refine Branch.and ?_
      | refine Branch.or ?_
      | refine Branch.dt (by assumption) ?_
      | refine Branch.df (by assumption) ?_
      | refine Branch.dt rfl ?_
      | refine Branch.dt (by omega) ?_
      | refine Branch.df (by omega) ?_
      | refine Branch.t rfl ?_
      | refine Branch.f rfl ?_
      | refine Branch.t (by assumption) ?_
      | refine Branch.f (by assumption) ?_
      | refine Branch.d (fun _ => ?_) (fun _ => ?_)
      | refine Branch.mk (fun _ => ?_) (fun _ => ?_)
      | refine Need.mk (by first | omega | decide | rfl) ?_
      | refine Idx.nat (by omega) ?_
      | refine Idx.auto (by first | omega | decide) (by first | omega | decide) ?_
      | refine Cell.ro rfl ?_
      | refine SDraw.all (by kernel_rfl) ?_
      | refine Kept.k0 ?_
      | refine Kept.k1 ?_
      | refine Kept.k2 ?_
      | refine Kept.k3 ?_
      | refine Kept.k4 ?_))
theorem c20e (hD : Db H) (hin : InS mC 5 sv H L) (hwf : ∀ m ∈ L, m.wf) (hc : chk L ≠ 0) (h : K (.tuple ⟨[.int .u64 0, .int .i64 (chk L)]⟩) H) : SCalls Tryd.prog 20 [sv] H K := by
  obtain ⟨sa, sc, rfl, hml⟩ := hin.sv
  refine enter20 ?_
  repeat' ((conv => whnf); (first
      | refine c22 hD hin hwf ?_
      | refine Branch.t (by first | (simp [hc]; done) | omega) ?_
      | exact Keep.all h
      | refine New.mk (fun _ => ?_)
      | refine Look.at0 ?_
      | refine Cell.row ?_
      | refine Cell.buf ?_
      | refine Cells.row rfl ?_
      | refine Put.row rfl ?_
      | refine Put.buf rfl ?_
      | refine Look.at1 ?_
      | refine Look.at2 ?_
      | refine Look.at3 ?_
      | refine Look.at4 ?_
      | refine Look.at5 ?_
      | refine Look.at6 ?_
      | refine Look.at7 ?_
      | refine Look.at8 ?_
      | with_reducible refine Val.i64 (by omega) (by omega) ?_
      | with_reducible refine Val.u8 (by omega) (by omega) ?_
      | with_reducible refine Val.u32 (by omega) (by omega) ?_
      | with_reducible refine Val.u64 (by omega) (by omega) ?_
      | with_reducible refine Val.u8m ?_
      | with_reducible refine Val.u32m ?_
      | with_reducible refine Val.u64m ?_
      | with_reducible refine Val.shr8 ?_
      | with_reducible refine Val.shr16 (by decide) ?_
      | with_reducible refine Val.shr24 (by decide) ?_
      | with_reducible refine Val.raw ?_
      | refine Branch.not ?_
      | refine Branch.and ?_
      | refine Branch.or ?_
      | refine Branch.dt (by assumption) ?_
      | refine Branch.df (by assumption) ?_
      | refine Branch.dt rfl ?_
      | refine Branch.dt (by omega) ?_
      | refine Branch.df (by omega) ?_
      | refine Branch.t rfl ?_
      | refine Branch.f rfl ?_
      | refine Branch.t (by assumption) ?_
      | refine Branch.f (by assumption) ?_
      | refine Branch.d (fun _ => ?_) (fun _ => ?_)
      | refine Branch.mk (fun _ => ?_) (fun _ => ?_)
      | refine Need.mk (by first | omega | decide | rfl) ?_
      | refine Idx.nat (by omega) ?_
      | refine Idx.auto (by first | omega | decide) (by first | omega | decide) ?_
      | refine Cell.ro rfl ?_
      | refine SDraw.all (by kernel_rfl) ?_
      | refine Kept.k0 ?_
      | refine Kept.k1 ?_
      | refine Kept.k2 ?_
      | refine Kept.k3 ?_
      | refine Kept.k4 ?_))
def I19 (sv : Value) (L : List Msg) (H : Heap) (k : Nat) (S : List Value) (H' : Heap) : Prop :=
  k ≤ L.length ∧ (L.take k).all (fun m => (worstS L m).2) = true ∧ S19 sv sv (.int .i64 (L.length : Int)) (.int .i64 (k : Int)) S ∧ H' = H
theorem c19 (hD : Db H) (hin : InS mC 5 sv H L) (hG : Goods L) (hwf : ∀ m ∈ L, m.wf) (hc : chk L = 0) (h : K (.tuple ⟨[.bool (fitsS L), .int .i64 0]⟩) H) : SCalls Tryd.prog 19 [sv] H K := by
  obtain ⟨sa, sc, rfl, hml⟩ := hin.sv
  have hlen := hG.len
  have h22 := fun (K : Value → Heap → Prop) hk => c22 (K := K) hD hin hwf hk
  rw [hc] at h22
  refine enter19 ?_
  repeat' ((conv => whnf); (first
      | refine h22 _ ?_
      | refine Branch.f rfl ?_
      | refine New.mk (fun _ => ?_)
      | refine Look.at0 ?_
      | refine Cell.row ?_
      | refine Cell.buf ?_
      | refine Cells.row rfl ?_
      | refine Put.row rfl ?_
      | refine Put.buf rfl ?_
      | refine Look.at1 ?_
      | refine Look.at2 ?_
      | refine Look.at3 ?_
      | refine Look.at4 ?_
      | refine Look.at5 ?_
      | refine Look.at6 ?_
      | refine Look.at7 ?_
      | refine Look.at8 ?_
      | with_reducible refine Val.i64 (by omega) (by omega) ?_
      | with_reducible refine Val.u8 (by omega) (by omega) ?_
      | with_reducible refine Val.u32 (by omega) (by omega) ?_
      | with_reducible refine Val.u64 (by omega) (by omega) ?_
      | with_reducible refine Val.u8m ?_
      | with_reducible refine Val.u32m ?_
      | with_reducible refine Val.u64m ?_
      | with_reducible refine Val.shr8 ?_
      | with_reducible refine Val.shr16 (by decide) ?_
      | with_reducible refine Val.shr24 (by decide) ?_
      | with_reducible refine Val.raw ?_
      | refine Branch.not ?_
      | refine Branch.and ?_
      | refine Branch.or ?_
      | refine Branch.dt (by assumption) ?_
      | refine Branch.df (by assumption) ?_
      | refine Branch.dt rfl ?_
      | refine Branch.dt (by omega) ?_
      | refine Branch.df (by omega) ?_
      | refine Branch.t rfl ?_
      | refine Branch.f rfl ?_
      | refine Branch.t (by assumption) ?_
      | refine Branch.f (by assumption) ?_
      | refine Branch.d (fun _ => ?_) (fun _ => ?_)
      | refine Branch.mk (fun _ => ?_) (fun _ => ?_)
      | refine Need.mk (by first | omega | decide | rfl) ?_
      | refine Idx.nat (by omega) ?_
      | refine Idx.auto (by first | omega | decide) (by first | omega | decide) ?_
      | refine Cell.ro rfl ?_
      | refine SDraw.all (by kernel_rfl) ?_
      | refine Kept.k0 ?_
      | refine Kept.k1 ?_
      | refine Kept.k2 ?_
      | refine Kept.k3 ?_
      | refine Kept.k4 ?_))
  refine SLoop.invA (I19 (.slice sa L.length sc) L H) (fun k => L.length - k) 0 (Keep.all ⟨Nat.zero_le _, by simp, .mk, rfl⟩) ?_
  rintro k S H' ⟨hk, ha, hS, rfl⟩ R hR
  cases hS
  by_cases hlt : k < L.length
  · obtain ⟨y, hx, hdrop, htake⟩ := list_at hlt
    have h23 := fun (K : Value → Heap → Prop) hk => c23 (K := K) hD hin hG hx hk
    have hnext := fun S (hb : (worstS L y).2 = true) (hS : S19 (.slice sa L.length sc) (.slice sa L.length sc) (.int .i64 (L.length : Int)) (.int .i64 ((k + 1 : Nat) : Int)) S) => hR (k + 1) S H' (by omega) (Keep.all ⟨by omega, by rw [htake, List.all_append, ha]; simpa using hb, hS, rfl⟩)
    have hno : (worstS L y).2 = false → fitsS L = false := fun hb => by
      unfold fitsS
      rw [List.all_eq_false]
      exact ⟨y, List.mem_of_getElem? hx, by rw [hb]; decide⟩
    clear hR
    cases hb : (worstS L y).2 with
    | true =>
      rw [hb] at h23
      repeat' ((conv => whnf); (first
          | refine h23 _ ?_
          | exact hnext _ hb .mk
          | refine New.mk (fun _ => ?_)
          | refine Look.at0 ?_
          | refine Cell.row ?_
          | refine Cell.buf ?_
          | refine Cells.row rfl ?_
          | refine Put.row rfl ?_
          | refine Put.buf rfl ?_
          | refine Look.at1 ?_
          | refine Look.at2 ?_
          | refine Look.at3 ?_
          | refine Look.at4 ?_
          | refine Look.at5 ?_
          | refine Look.at6 ?_
          | refine Look.at7 ?_
          | refine Look.at8 ?_
          | with_reducible refine Val.i64 (by omega) (by omega) ?_
          | with_reducible refine Val.u8 (by omega) (by omega) ?_
          | with_reducible refine Val.u32 (by omega) (by omega) ?_
          | with_reducible refine Val.u64 (by omega) (by omega) ?_
          | with_reducible refine Val.u8m ?_
          | with_reducible refine Val.u32m ?_
          | with_reducible refine Val.u64m ?_
          | with_reducible refine Val.shr8 ?_
          | with_reducible refine Val.shr16 (by decide) ?_
          | with_reducible refine Val.shr24 (by decide) ?_
          | with_reducible refine Val.raw ?_
          | refine Branch.not ?_
          | refine Branch.and ?_
          | refine Branch.or ?_
          | refine Branch.dt (by assumption) ?_
          | refine Branch.df (by assumption) ?_
          | refine Branch.dt rfl ?_
          | refine Branch.dt (by omega) ?_
          | refine Branch.df (by omega) ?_
          | refine Branch.t rfl ?_
          | refine Branch.f rfl ?_
          | refine Branch.t (by assumption) ?_
          | refine Branch.f (by assumption) ?_
          | refine Branch.d (fun _ => ?_) (fun _ => ?_)
          | refine Branch.mk (fun _ => ?_) (fun _ => ?_)
          | refine Need.mk (by first | omega | decide | rfl) ?_
          | refine Idx.nat (by omega) ?_
          | refine Idx.auto (by first | omega | decide) (by first | omega | decide) ?_
          | refine Cell.ro rfl ?_
          | refine SDraw.all (by kernel_rfl) ?_
          | refine Kept.k0 ?_
          | refine Kept.k1 ?_
          | refine Kept.k2 ?_
          | refine Kept.k3 ?_
          | refine Kept.k4 ?_))
    | false =>
      rw [hb] at h23
      rw [hno hb] at h
      repeat' ((conv => whnf); (first
          | refine h23 _ ?_
          | exact Keep.all h
          | refine New.mk (fun _ => ?_)
          | refine Look.at0 ?_
          | refine Cell.row ?_
          | refine Cell.buf ?_
          | refine Cells.row rfl ?_
          | refine Put.row rfl ?_
          | refine Put.buf rfl ?_
          | refine Look.at1 ?_
          | refine Look.at2 ?_
          | refine Look.at3 ?_
          | refine Look.at4 ?_
          | refine Look.at5 ?_
          | refine Look.at6 ?_
          | refine Look.at7 ?_
          | refine Look.at8 ?_
          | with_reducible refine Val.i64 (by omega) (by omega) ?_
          | with_reducible refine Val.u8 (by omega) (by omega) ?_
          | with_reducible refine Val.u32 (by omega) (by omega) ?_
          | with_reducible refine Val.u64 (by omega) (by omega) ?_
          | with_reducible refine Val.u8m ?_
          | with_reducible refine Val.u32m ?_
          | with_reducible refine Val.u64m ?_
          | with_reducible refine Val.shr8 ?_
          | with_reducible refine Val.shr16 (by decide) ?_
          | with_reducible refine Val.shr24 (by decide) ?_
          | with_reducible refine Val.raw ?_
          | refine Branch.not ?_
          | refine Branch.and ?_
          | refine Branch.or ?_
          | refine Branch.dt (by assumption) ?_
          | refine Branch.df (by assumption) ?_
          | refine Branch.dt rfl ?_
          | refine Branch.dt (by omega) ?_
          | refine Branch.df (by omega) ?_
          | refine Branch.t rfl ?_
          | refine Branch.f rfl ?_
          | refine Branch.t (by assumption) ?_
          | refine Branch.f (by assumption) ?_
          | refine Branch.d (fun _ => ?_) (fun _ => ?_)
          | refine Branch.mk (fun _ => ?_) (fun _ => ?_)
          | refine Need.mk (by first | omega | decide | rfl) ?_
          | refine Idx.nat (by omega) ?_
          | refine Idx.auto (by first | omega | decide) (by first | omega | decide) ?_
          | refine Cell.ro rfl ?_
          | refine SDraw.all (by kernel_rfl) ?_
          | refine Kept.k0 ?_
          | refine Kept.k1 ?_
          | refine Kept.k2 ?_
          | refine Kept.k3 ?_
          | refine Kept.k4 ?_))
  · obtain rfl : k = L.length := by omega
    rw [List.take_length] at ha
    rw [show fitsS L = true from ha] at h
    clear hR
    repeat' ((conv => whnf); (first
        | exact Keep.all h
        | refine New.mk (fun _ => ?_)
        | refine Look.at0 ?_
        | refine Cell.row ?_
        | refine Cell.buf ?_
        | refine Cells.row rfl ?_
        | refine Put.row rfl ?_
        | refine Put.buf rfl ?_
        | refine Look.at1 ?_
        | refine Look.at2 ?_
        | refine Look.at3 ?_
        | refine Look.at4 ?_
        | refine Look.at5 ?_
        | refine Look.at6 ?_
        | refine Look.at7 ?_
        | refine Look.at8 ?_
        | with_reducible refine Val.i64 (by omega) (by omega) ?_
        | with_reducible refine Val.u8 (by omega) (by omega) ?_
        | with_reducible refine Val.u32 (by omega) (by omega) ?_
        | with_reducible refine Val.u64 (by omega) (by omega) ?_
        | with_reducible refine Val.u8m ?_
        | with_reducible refine Val.u32m ?_
        | with_reducible refine Val.u64m ?_
        | with_reducible refine Val.shr8 ?_
        | with_reducible refine Val.shr16 (by decide) ?_
        | with_reducible refine Val.shr24 (by decide) ?_
        | with_reducible refine Val.raw ?_
        | refine Branch.not ?_
        | refine Branch.and ?_
        | refine Branch.or ?_
        | refine Branch.dt (by assumption) ?_
        | refine Branch.df (by assumption) ?_
        | refine Branch.dt rfl ?_
        | refine Branch.dt (by omega) ?_
        | refine Branch.df (by omega) ?_
        | refine Branch.t rfl ?_
        | refine Branch.f rfl ?_
        | refine Branch.t (by assumption) ?_
        | refine Branch.f (by assumption) ?_
        | refine Branch.d (fun _ => ?_) (fun _ => ?_)
        | refine Branch.mk (fun _ => ?_) (fun _ => ?_)
        | refine Need.mk (by first | omega | decide | rfl) ?_
        | refine Idx.nat (by omega) ?_
        | refine Idx.auto (by first | omega | decide) (by first | omega | decide) ?_
        | refine Cell.ro rfl ?_
        | refine SDraw.all (by kernel_rfl) ?_
        | refine Kept.k0 ?_
        | refine Kept.k1 ?_
        | refine Kept.k2 ?_
        | refine Kept.k3 ?_
        | refine Kept.k4 ?_))
def I20 (sv : Value) (L : List Msg) (H : Heap) (k : Nat) (S : List Value) (H' : Heap) : Prop :=
  k ≤ L.length ∧ S20 (.int .u64 (((L.take k).foldl bAdd 0 : Nat) : Int)) sv (.int .i64 (L.length : Int)) (.int .i64 (k : Int)) S ∧ H' = H
theorem c20 (hD : Db H) (hin : InS mC 5 sv H L) (hG : Goods L) (hwf : ∀ m ∈ L, m.wf) (hc : chk L = 0) (h : K (.tuple ⟨[.int .u64 (busyS L : Int), .int .i64 0]⟩) H) : SCalls Tryd.prog 20 [sv] H K := by
  obtain ⟨sa, sc, rfl, hml⟩ := hin.sv
  have hlen := hG.len
  have h22 := fun (K : Value → Heap → Prop) hk => c22 (K := K) hD hin hwf hk
  rw [hc] at h22
  refine enter20 ?_
  repeat' ((conv => whnf); (first
      | refine h22 _ ?_
      | refine Branch.f rfl ?_
      | refine New.mk (fun _ => ?_)
      | refine Look.at0 ?_
      | refine Cell.row ?_
      | refine Cell.buf ?_
      | refine Cells.row rfl ?_
      | refine Put.row rfl ?_
      | refine Put.buf rfl ?_
      | refine Look.at1 ?_
      | refine Look.at2 ?_
      | refine Look.at3 ?_
      | refine Look.at4 ?_
      | refine Look.at5 ?_
      | refine Look.at6 ?_
      | refine Look.at7 ?_
      | refine Look.at8 ?_
      | with_reducible refine Val.i64 (by omega) (by omega) ?_
      | with_reducible refine Val.u8 (by omega) (by omega) ?_
      | with_reducible refine Val.u32 (by omega) (by omega) ?_
      | with_reducible refine Val.u64 (by omega) (by omega) ?_
      | with_reducible refine Val.u8m ?_
      | with_reducible refine Val.u32m ?_
      | with_reducible refine Val.u64m ?_
      | with_reducible refine Val.shr8 ?_
      | with_reducible refine Val.shr16 (by decide) ?_
      | with_reducible refine Val.shr24 (by decide) ?_
      | with_reducible refine Val.raw ?_
      | refine Branch.not ?_
      | refine Branch.and ?_
      | refine Branch.or ?_
      | refine Branch.dt (by assumption) ?_
      | refine Branch.df (by assumption) ?_
      | refine Branch.dt rfl ?_
      | refine Branch.dt (by omega) ?_
      | refine Branch.df (by omega) ?_
      | refine Branch.t rfl ?_
      | refine Branch.f rfl ?_
      | refine Branch.t (by assumption) ?_
      | refine Branch.f (by assumption) ?_
      | refine Branch.d (fun _ => ?_) (fun _ => ?_)
      | refine Branch.mk (fun _ => ?_) (fun _ => ?_)
      | refine Need.mk (by first | omega | decide | rfl) ?_
      | refine Idx.nat (by omega) ?_
      | refine Idx.auto (by first | omega | decide) (by first | omega | decide) ?_
      | refine Cell.ro rfl ?_
      | refine SDraw.all (by kernel_rfl) ?_
      | refine Kept.k0 ?_
      | refine Kept.k1 ?_
      | refine Kept.k2 ?_
      | refine Kept.k3 ?_
      | refine Kept.k4 ?_))
  refine SLoop.invA (I20 (.slice sa L.length sc) L H) (fun k => L.length - k) 0 (Keep.all ⟨Nat.zero_le _, .mk, rfl⟩) ?_
  rintro k S H' ⟨hk, hS, rfl⟩ R hR
  cases hS
  by_cases hlt : k < L.length
  · obtain ⟨y, hx, hdrop, htake⟩ := list_at hlt
    obtain ⟨r2, o2, c2, b2, e1, hrb2, hc2⟩ := inS_at hin (fun _ => rfl) hx
    injection e1 with e1 _ e3
    subst e1
    have hgy := hG.good y (List.mem_of_getElem? hx)
    have hyt := hgy.tm
    have hyp := hgy.p1
    have hsum := bAdd_b (L.take k) 0 (fun z hz => hG.good z (List.mem_of_mem_take hz))
    have hlk : (L.take k).length ≤ 64 := Nat.le_trans (List.length_take_le _ _) (by omega)
    have hnext := fun S (q : Nat × Blk) (hS : S20 (.int .u64 ((bAdd ((L.take k).foldl bAdd 0) y : Nat) : Int)) (.slice (some ⟨r2, o2, none⟩) L.length sc) (.int .i64 (L.length : Int)) (.int .i64 ((k + 1 : Nat) : Int)) S) => hR (k + 1) S (q :: H') (by omega) (Keep.d1 ⟨by omega, by rw [htake, List.foldl_append]; exact hS, rfl⟩)
    clear hR
    generalize (L.take k).foldl bAdd 0 = acc at *
    have hd : tm y * 1000 / y.p ≤ 160000 := Nat.le_trans (Nat.div_le_self _ _) (by omega)
    have hv1 : IntKind.u64.wrap ((tm y : Int) * 1000) = ((tm y * 1000 : Nat) : Int) := by
      rw [show (tm y : Int) * 1000 = ((tm y * 1000 : Nat) : Int) by omega]
      exact wrap_nat rfl (by show _ < 18446744073709551616; omega)
    have hv2 : IntKind.u64.wrap (((tm y * 1000 : Nat) : Int).tdiv (y.p : Int)) = ((tm y * 1000 / y.p : Nat) : Int) := by
      rw [Int.tdiv_eq_ediv_of_nonneg (by omega), ← Int.natCast_ediv]
      exact wrap_nat rfl (by show _ < 18446744073709551616; omega)
    have hv3 : IntKind.u64.wrap ((acc : Int) + ((tm y * 1000 / y.p : Nat) : Int)) = ((bAdd acc y : Nat) : Int) := by
      rw [← Int.natCast_add]
      exact wrap_nat rfl (by show _ < 18446744073709551616; omega)
    repeat' ((conv => whnf); (first
        | refine Look.cells hrb2 rfl hc2 ?_
        | refine t27 hgy ?_
        | with_reducible refine Val.to _ hv1 ?_
        | with_reducible refine Val.to _ hv2 ?_
        | with_reducible refine Val.to _ hv3 ?_
        | exact hnext _ _ .mk
        | refine New.mk (fun _ => ?_)
        | refine Look.at0 ?_
        | refine Cell.row ?_
        | refine Cell.buf ?_
        | refine Cells.row rfl ?_
        | refine Put.row rfl ?_
        | refine Put.buf rfl ?_
        | refine Look.at1 ?_
        | refine Look.at2 ?_
        | refine Look.at3 ?_
        | refine Look.at4 ?_
        | refine Look.at5 ?_
        | refine Look.at6 ?_
        | refine Look.at7 ?_
        | refine Look.at8 ?_
        | with_reducible refine Val.i64 (by omega) (by omega) ?_
        | with_reducible refine Val.u8 (by omega) (by omega) ?_
        | with_reducible refine Val.u32 (by omega) (by omega) ?_
        | with_reducible refine Val.u64 (by omega) (by omega) ?_
        | with_reducible refine Val.u8m ?_
        | with_reducible refine Val.u32m ?_
        | with_reducible refine Val.u64m ?_
        | with_reducible refine Val.shr8 ?_
        | with_reducible refine Val.shr16 (by decide) ?_
        | with_reducible refine Val.shr24 (by decide) ?_
        | with_reducible refine Val.raw ?_
        | refine Branch.not ?_
        | refine Branch.and ?_
        | refine Branch.or ?_
        | refine Branch.dt (by assumption) ?_
        | refine Branch.df (by assumption) ?_
        | refine Branch.dt rfl ?_
        | refine Branch.dt (by omega) ?_
        | refine Branch.df (by omega) ?_
        | refine Branch.t rfl ?_
        | refine Branch.f rfl ?_
        | refine Branch.t (by assumption) ?_
        | refine Branch.f (by assumption) ?_
        | refine Branch.d (fun _ => ?_) (fun _ => ?_)
        | refine Branch.mk (fun _ => ?_) (fun _ => ?_)
        | refine Need.mk (by first | omega | decide | rfl) ?_
        | refine Idx.nat (by omega) ?_
        | refine Idx.auto (by first | omega | decide) (by first | omega | decide) ?_
        | refine Cell.ro rfl ?_
        | refine SDraw.all (by kernel_rfl) ?_
        | refine Kept.k0 ?_
        | refine Kept.k1 ?_
        | refine Kept.k2 ?_
        | refine Kept.k3 ?_
        | refine Kept.k4 ?_))
  · obtain rfl : k = L.length := by omega
    rw [List.take_length]
    clear hR
    repeat' ((conv => whnf); (first
        | exact Keep.all h
        | refine New.mk (fun _ => ?_)
        | refine Look.at0 ?_
        | refine Cell.row ?_
        | refine Cell.buf ?_
        | refine Cells.row rfl ?_
        | refine Put.row rfl ?_
        | refine Put.buf rfl ?_
        | refine Look.at1 ?_
        | refine Look.at2 ?_
        | refine Look.at3 ?_
        | refine Look.at4 ?_
        | refine Look.at5 ?_
        | refine Look.at6 ?_
        | refine Look.at7 ?_
        | refine Look.at8 ?_
        | with_reducible refine Val.i64 (by omega) (by omega) ?_
        | with_reducible refine Val.u8 (by omega) (by omega) ?_
        | with_reducible refine Val.u32 (by omega) (by omega) ?_
        | with_reducible refine Val.u64 (by omega) (by omega) ?_
        | with_reducible refine Val.u8m ?_
        | with_reducible refine Val.u32m ?_
        | with_reducible refine Val.u64m ?_
        | with_reducible refine Val.shr8 ?_
        | with_reducible refine Val.shr16 (by decide) ?_
        | with_reducible refine Val.shr24 (by decide) ?_
        | with_reducible refine Val.raw ?_
        | refine Branch.not ?_
        | refine Branch.and ?_
        | refine Branch.or ?_
        | refine Branch.dt (by assumption) ?_
        | refine Branch.df (by assumption) ?_
        | refine Branch.dt rfl ?_
        | refine Branch.dt (by omega) ?_
        | refine Branch.df (by omega) ?_
        | refine Branch.t rfl ?_
        | refine Branch.f rfl ?_
        | refine Branch.t (by assumption) ?_
        | refine Branch.f (by assumption) ?_
        | refine Branch.d (fun _ => ?_) (fun _ => ?_)
        | refine Branch.mk (fun _ => ?_) (fun _ => ?_)
        | refine Need.mk (by first | omega | decide | rfl) ?_
        | refine Idx.nat (by omega) ?_
        | refine Idx.auto (by first | omega | decide) (by first | omega | decide) ?_
        | refine Cell.ro rfl ?_
        | refine SDraw.all (by kernel_rfl) ?_
        | refine Kept.k0 ?_
        | refine Kept.k1 ?_
        | refine Kept.k2 ?_
        | refine Kept.k3 ?_
        | refine Kept.k4 ?_))
end
end Go.Proofs.YtjleekdidedhaaaDoor

/- Layer 25: what waits, the one that comes first first: the heap's own methods, by walks. -/
set_option linter.unusedVariables false
set_option linter.unusedSimpArgs false
set_option maxRecDepth 100000
set_option maxHeartbeats 4000000
namespace Go.Proofs.YtjleekdidedhaaaDoor
open Sx
/-- A message that was queued. -/
structure Wn where
  (who : Nat) (fl : List UInt8) (ask : Nat)
abbrev wC (x : Wn) : List Value := [.int .i64 (x.who : Int), .string (strOf x.fl), .int .u64 (x.ask : Int)]
def key (x : Wn) : List UInt8 × Int := (x.fl, (x.ask : Int))
def wlt (x y : Wn) : Bool := Hp.klt (key x) (key y)
theorem wlt_ord : Hp.Ord wlt := ⟨fun a b => Hp.klt_ord.asym _ _, fun a b c => Hp.klt_ord.nt _ _ _⟩
theorem wlt_irr (x : Wn) : wlt x x = false := Hp.klt_irr _
def cmpI (a b : Nat) : Int := if a < b then -1 else if b < a then 1 else 0
theorem or_klt (a b : List UInt8) (x y : Nat) : decide ((if cmpS a b = 0 then cmpI x y else cmpS a b) < 0) = Hp.klt (a, (x : Int)) (b, (y : Int)) := by
  unfold Hp.klt
  show _ = (tlt a b || (decide (a = b) && decide ((x : Int) < y)))
  cases h : tlt a b with
  | true =>
    have : cmpS a b = -1 := by unfold cmpS; rw [h]; rfl
    rw [this]; rfl
  | false =>
    cases h2 : tlt b a with
    | true =>
      have hne : ¬ a = b := fun e => by
        subst e
        rw [show tlt a a = false from Hp.bl_irr a] at h2; cases h2
      have : cmpS a b = 1 := by unfold cmpS; rw [h, h2]; rfl
      rw [this, decide_eq_false hne]; rfl
    | false =>
      obtain rfl := Hp.bl_tri _ _ h h2
      have : cmpS a a = 0 := by unfold cmpS; rw [h]; rfl
      rw [this, if_pos rfl]
      unfold cmpI
      by_cases hxy : x < y
      · rw [if_pos hxy]; simp [hxy]
      · rw [if_neg hxy]
        split <;> simp <;> omega
theorem sw_front {α : Type} {q st : List α} {i j : Nat} {x y : α} (hi : i < q.length) (hj : j < q.length) : ((q ++ st).set i x).set j y = Hp.sw q i j x y ++ st := by
  unfold Hp.sw
  rw [List.set_append_left _ _ hi, List.set_append_left _ _ (by rw [List.length_set]; exact hj)]
section
variable {K : Value → Heap → Prop} {H : Heap}
theorem c101 {a b : Nat} (hK : K (.int .i64 (cmpI a b)) H) : SCalls Tryd.prog 101 [.int .u64 (a : Int), .int .u64 (b : Int)] H K := by
  refine enter101 ?_
  have h102 : ∀ (a : Nat) H (K2 : Value → Heap → Prop), K2 (.bool false) H → SCalls Tryd.prog 102 [.int .u64 (a : Int)] H K2 := by
    intro a H K2 hk
    refine enter102 ?_
    have : (!decide ((a : Int) = (a : Int))) = false := by simp
    repeat' ((conv => whnf); (first
        | (show Keep _ fun H' => K2 (.bool (!decide ((a : Int) = (a : Int)))) H'; rw [this]; exact Keep.all hk)
        | refine New.mk (fun _ => ?_)
        | refine Look.at0 ?_
        | refine Cell.row ?_
        | refine Cell.buf ?_
        | refine Cells.row rfl ?_
        | refine Put.row rfl ?_
        | refine Put.buf rfl ?_
        | refine Look.at1 ?_
        | refine Look.at2 ?_
        | refine Look.at3 ?_
        | refine Look.at4 ?_
        | refine Look.at5 ?_
        | refine Look.at6 ?_
        | refine Look.at7 ?_
        | refine Look.at8 ?_
        | with_reducible refine Val.i64 (by omega) (by omega) ?_
        | with_reducible refine Val.u8 (by omega) (by omega) ?_
        | with_reducible refine Val.u32 (by omega) (by omega) ?_
        | with_reducible refine Val.u64 (by omega) (by omega) ?_
        | with_reducible refine Val.u8m ?_
        | with_reducible refine Val.u32m ?_
        | with_reducible refine Val.u64m ?_
        | with_reducible refine Val.shr8 ?_
        | with_reducible refine Val.shr16 (by decide) ?_
        | with_reducible refine Val.shr24 (by decide) ?_
        | with_reducible refine Val.raw ?_
        | refine Branch.not ?_
        | refine Branch.and ?_
        | refine Branch.or ?_
        | refine Branch.dt (by assumption) ?_
        | refine Branch.df (by assumption) ?_
        | refine Branch.dt rfl ?_
        | refine Branch.dt (by omega) ?_
        | refine Branch.df (by omega) ?_
        | refine Branch.t rfl ?_
        | refine Branch.f rfl ?_
        | refine Branch.t (by assumption) ?_
        | refine Branch.f (by assumption) ?_
        | refine Branch.d (fun _ => ?_) (fun _ => ?_)
        | refine Branch.mk (fun _ => ?_) (fun _ => ?_)
        | refine Need.mk (by first | omega | decide | rfl) ?_
        | refine Idx.nat (by omega) ?_
        | refine Idx.auto (by first | omega | decide) (by first | omega | decide) ?_
        | refine Cell.ro rfl ?_
        | refine SDraw.all (by kernel_rfl) ?_
        | refine Kept.k0 ?_
        | refine Kept.k1 ?_
        | refine Kept.k2 ?_
        | refine Kept.k3 ?_
        | refine Kept.k4 ?_))
  unfold cmpI at hK
  by_cases h1 : a < b
  · rw [if_pos h1] at hK
    repeat' ((conv => whnf); (first
        | with_reducible refine h102 _ _ _ ?_
        | refine Branch.dt (by omega) ?_
        | exact Keep.all hK
        | refine New.mk (fun _ => ?_)
        | refine Look.at0 ?_
        | refine Cell.row ?_
        | refine Cell.buf ?_
        | refine Cells.row rfl ?_
        | refine Put.row rfl ?_
        | refine Put.buf rfl ?_
        | refine Look.at1 ?_
        | refine Look.at2 ?_
        | refine Look.at3 ?_
        | refine Look.at4 ?_
        | refine Look.at5 ?_
        | refine Look.at6 ?_
        | refine Look.at7 ?_
        | refine Look.at8 ?_
        | with_reducible refine Val.i64 (by omega) (by omega) ?_
        | with_reducible refine Val.u8 (by omega) (by omega) ?_
        | with_reducible refine Val.u32 (by omega) (by omega) ?_
        | with_reducible refine Val.u64 (by omega) (by omega) ?_
        | with_reducible refine Val.u8m ?_
        | with_reducible refine Val.u32m ?_
        | with_reducible refine Val.u64m ?_
        | with_reducible refine Val.shr8 ?_
        | with_reducible refine Val.shr16 (by decide) ?_
        | with_reducible refine Val.shr24 (by decide) ?_
        | with_reducible refine Val.raw ?_
        | refine Branch.not ?_
        | refine Branch.and ?_
        | refine Branch.or ?_
        | refine Branch.dt (by assumption) ?_
        | refine Branch.df (by assumption) ?_
        | refine Branch.dt rfl ?_
        | refine Branch.dt (by omega) ?_
        | refine Branch.df (by omega) ?_
        | refine Branch.t rfl ?_
        | refine Branch.f rfl ?_
        | refine Branch.t (by assumption) ?_
        | refine Branch.f (by assumption) ?_
        | refine Branch.d (fun _ => ?_) (fun _ => ?_)
        | refine Branch.mk (fun _ => ?_) (fun _ => ?_)
        | refine Need.mk (by first | omega | decide | rfl) ?_
        | refine Idx.nat (by omega) ?_
        | refine Idx.auto (by first | omega | decide) (by first | omega | decide) ?_
        | refine Cell.ro rfl ?_
        | refine SDraw.all (by kernel_rfl) ?_
        | refine Kept.k0 ?_
        | refine Kept.k1 ?_
        | refine Kept.k2 ?_
        | refine Kept.k3 ?_
        | refine Kept.k4 ?_))
  · rw [if_neg h1] at hK
    by_cases h2 : b < a
    · rw [if_pos h2] at hK
      repeat' ((conv => whnf); (first
          | with_reducible refine h102 _ _ _ ?_
          | refine Branch.df (by omega) ?_
          | refine Branch.dt (by omega) ?_
          | exact Keep.all hK
          | refine New.mk (fun _ => ?_)
          | refine Look.at0 ?_
          | refine Cell.row ?_
          | refine Cell.buf ?_
          | refine Cells.row rfl ?_
          | refine Put.row rfl ?_
          | refine Put.buf rfl ?_
          | refine Look.at1 ?_
          | refine Look.at2 ?_
          | refine Look.at3 ?_
          | refine Look.at4 ?_
          | refine Look.at5 ?_
          | refine Look.at6 ?_
          | refine Look.at7 ?_
          | refine Look.at8 ?_
          | with_reducible refine Val.i64 (by omega) (by omega) ?_
          | with_reducible refine Val.u8 (by omega) (by omega) ?_
          | with_reducible refine Val.u32 (by omega) (by omega) ?_
          | with_reducible refine Val.u64 (by omega) (by omega) ?_
          | with_reducible refine Val.u8m ?_
          | with_reducible refine Val.u32m ?_
          | with_reducible refine Val.u64m ?_
          | with_reducible refine Val.shr8 ?_
          | with_reducible refine Val.shr16 (by decide) ?_
          | with_reducible refine Val.shr24 (by decide) ?_
          | with_reducible refine Val.raw ?_
          | refine Branch.not ?_
          | refine Branch.and ?_
          | refine Branch.or ?_
          | refine Branch.dt (by assumption) ?_
          | refine Branch.df (by assumption) ?_
          | refine Branch.dt rfl ?_
          | refine Branch.dt (by omega) ?_
          | refine Branch.df (by omega) ?_
          | refine Branch.t rfl ?_
          | refine Branch.f rfl ?_
          | refine Branch.t (by assumption) ?_
          | refine Branch.f (by assumption) ?_
          | refine Branch.d (fun _ => ?_) (fun _ => ?_)
          | refine Branch.mk (fun _ => ?_) (fun _ => ?_)
          | refine Need.mk (by first | omega | decide | rfl) ?_
          | refine Idx.nat (by omega) ?_
          | refine Idx.auto (by first | omega | decide) (by first | omega | decide) ?_
          | refine Cell.ro rfl ?_
          | refine SDraw.all (by kernel_rfl) ?_
          | refine Kept.k0 ?_
          | refine Kept.k1 ?_
          | refine Kept.k2 ?_
          | refine Kept.k3 ?_
          | refine Kept.k4 ?_))
    · rw [if_neg h2] at hK
      repeat' ((conv => whnf); (first
          | with_reducible refine h102 _ _ _ ?_
          | refine Branch.df (by omega) ?_
          | exact Keep.all hK
          | refine New.mk (fun _ => ?_)
          | refine Look.at0 ?_
          | refine Cell.row ?_
          | refine Cell.buf ?_
          | refine Cells.row rfl ?_
          | refine Put.row rfl ?_
          | refine Put.buf rfl ?_
          | refine Look.at1 ?_
          | refine Look.at2 ?_
          | refine Look.at3 ?_
          | refine Look.at4 ?_
          | refine Look.at5 ?_
          | refine Look.at6 ?_
          | refine Look.at7 ?_
          | refine Look.at8 ?_
          | with_reducible refine Val.i64 (by omega) (by omega) ?_
          | with_reducible refine Val.u8 (by omega) (by omega) ?_
          | with_reducible refine Val.u32 (by omega) (by omega) ?_
          | with_reducible refine Val.u64 (by omega) (by omega) ?_
          | with_reducible refine Val.u8m ?_
          | with_reducible refine Val.u32m ?_
          | with_reducible refine Val.u64m ?_
          | with_reducible refine Val.shr8 ?_
          | with_reducible refine Val.shr16 (by decide) ?_
          | with_reducible refine Val.shr24 (by decide) ?_
          | with_reducible refine Val.raw ?_
          | refine Branch.not ?_
          | refine Branch.and ?_
          | refine Branch.or ?_
          | refine Branch.dt (by assumption) ?_
          | refine Branch.df (by assumption) ?_
          | refine Branch.dt rfl ?_
          | refine Branch.dt (by omega) ?_
          | refine Branch.df (by omega) ?_
          | refine Branch.t rfl ?_
          | refine Branch.f rfl ?_
          | refine Branch.t (by assumption) ?_
          | refine Branch.f (by assumption) ?_
          | refine Branch.d (fun _ => ?_) (fun _ => ?_)
          | refine Branch.mk (fun _ => ?_) (fun _ => ?_)
          | refine Need.mk (by first | omega | decide | rfl) ?_
          | refine Idx.nat (by omega) ?_
          | refine Idx.auto (by first | omega | decide) (by first | omega | decide) ?_
          | refine Cell.ro rfl ?_
          | refine SDraw.all (by kernel_rfl) ?_
          | refine Kept.k0 ?_
          | refine Kept.k1 ?_
          | refine Kept.k2 ?_
          | refine Kept.k3 ?_
          | refine Kept.k4 ?_))
theorem c100 {a b : Int} {q : Nat} (hK : K (.int .i64 (if a = 0 then b else a)) ((q, .row 3 [.int .i64 a, .int .i64 b] (0, 0)) :: H)) : SCalls Tryd.prog 100 [.slice (some ⟨q, 0, none⟩) 2 2] ((q, .row 3 [.int .i64 a, .int .i64 b] (0, 0)) :: H) K := by
  refine enter100 ?_
  by_cases ha : a = 0
  · subst ha
    rw [if_pos rfl] at hK
    by_cases hb : b = 0
    · subst hb
      repeat' ((conv => whnf); (first
          | refine SLoop.round ?_
          | refine Branch.t rfl ?_
          | refine Branch.f rfl ?_
          | exact Keep.all hK
          | refine New.mk (fun _ => ?_)
          | refine Look.at0 ?_
          | refine Cell.row ?_
          | refine Cell.buf ?_
          | refine Cells.row rfl ?_
          | refine Put.row rfl ?_
          | refine Put.buf rfl ?_
          | refine Look.at1 ?_
          | refine Look.at2 ?_
          | refine Look.at3 ?_
          | refine Look.at4 ?_
          | refine Look.at5 ?_
          | refine Look.at6 ?_
          | refine Look.at7 ?_
          | refine Look.at8 ?_
          | with_reducible refine Val.i64 (by omega) (by omega) ?_
          | with_reducible refine Val.u8 (by omega) (by omega) ?_
          | with_reducible refine Val.u32 (by omega) (by omega) ?_
          | with_reducible refine Val.u64 (by omega) (by omega) ?_
          | with_reducible refine Val.u8m ?_
          | with_reducible refine Val.u32m ?_
          | with_reducible refine Val.u64m ?_
          | with_reducible refine Val.shr8 ?_
          | with_reducible refine Val.shr16 (by decide) ?_
          | with_reducible refine Val.shr24 (by decide) ?_
          | with_reducible refine Val.raw ?_
          | refine Branch.not ?_
          | refine Branch.and ?_
          | refine Branch.or ?_
          | refine Branch.dt (by assumption) ?_
          | refine Branch.df (by assumption) ?_
          | refine Branch.dt rfl ?_
          | refine Branch.dt (by omega) ?_
          | refine Branch.df (by omega) ?_
          | refine Branch.t rfl ?_
          | refine Branch.f rfl ?_
          | refine Branch.t (by assumption) ?_
          | refine Branch.f (by assumption) ?_
          | refine Branch.d (fun _ => ?_) (fun _ => ?_)
          | refine Branch.mk (fun _ => ?_) (fun _ => ?_)
          | refine Need.mk (by first | omega | decide | rfl) ?_
          | refine Idx.nat (by omega) ?_
          | refine Idx.auto (by first | omega | decide) (by first | omega | decide) ?_
          | refine Cell.ro rfl ?_
          | refine SDraw.all (by kernel_rfl) ?_
          | refine Kept.k0 ?_
          | refine Kept.k1 ?_
          | refine Kept.k2 ?_
          | refine Kept.k3 ?_
          | refine Kept.k4 ?_))
    · repeat' ((conv => whnf); (first
          | refine SLoop.round ?_
          | refine Branch.f rfl ?_
          | refine Branch.t (by first | (simp [hb]; done) | rfl) ?_
          | exact Keep.all hK
          | refine New.mk (fun _ => ?_)
          | refine Look.at0 ?_
          | refine Cell.row ?_
          | refine Cell.buf ?_
          | refine Cells.row rfl ?_
          | refine Put.row rfl ?_
          | refine Put.buf rfl ?_
          | refine Look.at1 ?_
          | refine Look.at2 ?_
          | refine Look.at3 ?_
          | refine Look.at4 ?_
          | refine Look.at5 ?_
          | refine Look.at6 ?_
          | refine Look.at7 ?_
          | refine Look.at8 ?_
          | with_reducible refine Val.i64 (by omega) (by omega) ?_
          | with_reducible refine Val.u8 (by omega) (by omega) ?_
          | with_reducible refine Val.u32 (by omega) (by omega) ?_
          | with_reducible refine Val.u64 (by omega) (by omega) ?_
          | with_reducible refine Val.u8m ?_
          | with_reducible refine Val.u32m ?_
          | with_reducible refine Val.u64m ?_
          | with_reducible refine Val.shr8 ?_
          | with_reducible refine Val.shr16 (by decide) ?_
          | with_reducible refine Val.shr24 (by decide) ?_
          | with_reducible refine Val.raw ?_
          | refine Branch.not ?_
          | refine Branch.and ?_
          | refine Branch.or ?_
          | refine Branch.dt (by assumption) ?_
          | refine Branch.df (by assumption) ?_
          | refine Branch.dt rfl ?_
          | refine Branch.dt (by omega) ?_
          | refine Branch.df (by omega) ?_
          | refine Branch.t rfl ?_
          | refine Branch.f rfl ?_
          | refine Branch.t (by assumption) ?_
          | refine Branch.f (by assumption) ?_
          | refine Branch.d (fun _ => ?_) (fun _ => ?_)
          | refine Branch.mk (fun _ => ?_) (fun _ => ?_)
          | refine Need.mk (by first | omega | decide | rfl) ?_
          | refine Idx.nat (by omega) ?_
          | refine Idx.auto (by first | omega | decide) (by first | omega | decide) ?_
          | refine Cell.ro rfl ?_
          | refine SDraw.all (by kernel_rfl) ?_
          | refine Kept.k0 ?_
          | refine Kept.k1 ?_
          | refine Kept.k2 ?_
          | refine Kept.k3 ?_
          | refine Kept.k4 ?_))
  · rw [if_neg ha] at hK
    repeat' ((conv => whnf); (first
        | refine SLoop.round ?_
        | refine Branch.t (by first | (simp [ha]; done) | rfl) ?_
        | exact Keep.all hK
        | refine New.mk (fun _ => ?_)
        | refine Look.at0 ?_
        | refine Cell.row ?_
        | refine Cell.buf ?_
        | refine Cells.row rfl ?_
        | refine Put.row rfl ?_
        | refine Put.buf rfl ?_
        | refine Look.at1 ?_
        | refine Look.at2 ?_
        | refine Look.at3 ?_
        | refine Look.at4 ?_
        | refine Look.at5 ?_
        | refine Look.at6 ?_
        | refine Look.at7 ?_
        | refine Look.at8 ?_
        | with_reducible refine Val.i64 (by omega) (by omega) ?_
        | with_reducible refine Val.u8 (by omega) (by omega) ?_
        | with_reducible refine Val.u32 (by omega) (by omega) ?_
        | with_reducible refine Val.u64 (by omega) (by omega) ?_
        | with_reducible refine Val.u8m ?_
        | with_reducible refine Val.u32m ?_
        | with_reducible refine Val.u64m ?_
        | with_reducible refine Val.shr8 ?_
        | with_reducible refine Val.shr16 (by decide) ?_
        | with_reducible refine Val.shr24 (by decide) ?_
        | with_reducible refine Val.raw ?_
        | refine Branch.not ?_
        | refine Branch.and ?_
        | refine Branch.or ?_
        | refine Branch.dt (by assumption) ?_
        | refine Branch.df (by assumption) ?_
        | refine Branch.dt rfl ?_
        | refine Branch.dt (by omega) ?_
        | refine Branch.df (by omega) ?_
        | refine Branch.t rfl ?_
        | refine Branch.f rfl ?_
        | refine Branch.t (by assumption) ?_
        | refine Branch.f (by assumption) ?_
        | refine Branch.d (fun _ => ?_) (fun _ => ?_)
        | refine Branch.mk (fun _ => ?_) (fun _ => ?_)
        | refine Need.mk (by first | omega | decide | rfl) ?_
        | refine Idx.nat (by omega) ?_
        | refine Idx.auto (by first | omega | decide) (by first | omega | decide) ?_
        | refine Cell.ro rfl ?_
        | refine SDraw.all (by kernel_rfl) ?_
        | refine Kept.k0 ?_
        | refine Kept.k1 ?_
        | refine Kept.k2 ?_
        | refine Kept.k3 ?_
        | refine Kept.k4 ?_))
theorem c98 {q : List Wn} {qv : Value} {i j : Nat} {x y : Wn} (hq : InS wC 3 qv H q) (hi : q[i]? = some x) (hj : q[j]? = some y) (hK : K (.bool (wlt x y)) H) : SCalls Tryd.prog 98 [qv, .int .i64 (i : Int), .int .i64 (j : Int)] H K := by
  have hml := hq.sv
  obtain ⟨r, o, c, b, rfl, hb, hc⟩ := inS_at hq (fun _ => rfl) hi
  obtain ⟨r2, o2, c2, b2, e1, hb2, hc2⟩ := inS_at hq (fun _ => rfl) hj
  injection e1 with e1 _ e3
  injection e1 with e1
  injection e1 with e4 e5
  subst e4 e5
  have hil := (List.getElem?_eq_some_iff.1 hi).1
  have hjl := (List.getElem?_eq_some_iff.1 hj).1
  have h1 := hc 1 _ rfl
  have h2 := hc 2 _ rfl
  have h3 := hc2 1 _ rfl
  have h4 := hc2 2 _ rfl
  have hk : ∀ p : Nat × Blk, Keep (p :: H) fun H' => K (.bool (decide ((if cmpS x.fl y.fl = 0 then cmpI x.ask y.ask else cmpS x.fl y.fl) < 0))) H' := fun p => by
    rw [or_klt]; exact Keep.d1 hK
  refine enter98 ?_
  repeat' ((conv => whnf); (first
      | refine Look.cell hb h1 ?_
      | refine Look.cell hb h2 ?_
      | refine Look.cell hb2 h3 ?_
      | refine Look.cell hb2 h4 ?_
      | refine c36 ?_
      | refine c101 ?_
      | refine c100 ?_
      | exact hk _
      | refine New.mk (fun _ => ?_)
      | refine Look.at0 ?_
      | refine Cell.row ?_
      | refine Cell.buf ?_
      | refine Cells.row rfl ?_
      | refine Put.row rfl ?_
      | refine Put.buf rfl ?_
      | refine Look.at1 ?_
      | refine Look.at2 ?_
      | refine Look.at3 ?_
      | refine Look.at4 ?_
      | refine Look.at5 ?_
      | refine Look.at6 ?_
      | refine Look.at7 ?_
      | refine Look.at8 ?_
      | with_reducible refine Val.i64 (by omega) (by omega) ?_
      | with_reducible refine Val.u8 (by omega) (by omega) ?_
      | with_reducible refine Val.u32 (by omega) (by omega) ?_
      | with_reducible refine Val.u64 (by omega) (by omega) ?_
      | with_reducible refine Val.u8m ?_
      | with_reducible refine Val.u32m ?_
      | with_reducible refine Val.u64m ?_
      | with_reducible refine Val.shr8 ?_
      | with_reducible refine Val.shr16 (by decide) ?_
      | with_reducible refine Val.shr24 (by decide) ?_
      | with_reducible refine Val.raw ?_
      | refine Branch.not ?_
      | refine Branch.and ?_
      | refine Branch.or ?_
      | refine Branch.dt (by assumption) ?_
      | refine Branch.df (by assumption) ?_
      | refine Branch.dt rfl ?_
      | refine Branch.dt (by omega) ?_
      | refine Branch.df (by omega) ?_
      | refine Branch.t rfl ?_
      | refine Branch.f rfl ?_
      | refine Branch.t (by assumption) ?_
      | refine Branch.f (by assumption) ?_
      | refine Branch.d (fun _ => ?_) (fun _ => ?_)
      | refine Branch.mk (fun _ => ?_) (fun _ => ?_)
      | refine Need.mk (by first | omega | decide | rfl) ?_
      | refine Idx.nat (by omega) ?_
      | refine Idx.auto (by first | omega | decide) (by first | omega | decide) ?_
      | refine Cell.ro rfl ?_
      | refine SDraw.all (by kernel_rfl) ?_
      | refine Kept.k0 ?_
      | refine Kept.k1 ?_
      | refine Kept.k2 ?_
      | refine Kept.k3 ?_
      | refine Kept.k4 ?_))
theorem c97 {a : Option Addr} {n c : Nat} (hK : K (.int .i64 (n : Int)) H) : SCalls Tryd.prog 97 [.slice a n c] H K := by
  refine enter97 ?_
  repeat' ((conv => whnf); (first
      | exact Keep.all hK
      | refine New.mk (fun _ => ?_)
      | refine Look.at0 ?_
      | refine Cell.row ?_
      | refine Cell.buf ?_
      | refine Cells.row rfl ?_
      | refine Put.row rfl ?_
      | refine Put.buf rfl ?_
      | refine Look.at1 ?_
      | refine Look.at2 ?_
      | refine Look.at3 ?_
      | refine Look.at4 ?_
      | refine Look.at5 ?_
      | refine Look.at6 ?_
      | refine Look.at7 ?_
      | refine Look.at8 ?_
      | with_reducible refine Val.i64 (by omega) (by omega) ?_
      | with_reducible refine Val.u8 (by omega) (by omega) ?_
      | with_reducible refine Val.u32 (by omega) (by omega) ?_
      | with_reducible refine Val.u64 (by omega) (by omega) ?_
      | with_reducible refine Val.u8m ?_
      | with_reducible refine Val.u32m ?_
      | with_reducible refine Val.u64m ?_
      | with_reducible refine Val.shr8 ?_
      | with_reducible refine Val.shr16 (by decide) ?_
      | with_reducible refine Val.shr24 (by decide) ?_
      | with_reducible refine Val.raw ?_
      | refine Branch.not ?_
      | refine Branch.and ?_
      | refine Branch.or ?_
      | refine Branch.dt (by assumption) ?_
      | refine Branch.df (by assumption) ?_
      | refine Branch.dt rfl ?_
      | refine Branch.dt (by omega) ?_
      | refine Branch.df (by omega) ?_
      | refine Branch.t rfl ?_
      | refine Branch.f rfl ?_
      | refine Branch.t (by assumption) ?_
      | refine Branch.f (by assumption) ?_
      | refine Branch.d (fun _ => ?_) (fun _ => ?_)
      | refine Branch.mk (fun _ => ?_) (fun _ => ?_)
      | refine Need.mk (by first | omega | decide | rfl) ?_
      | refine Idx.nat (by omega) ?_
      | refine Idx.auto (by first | omega | decide) (by first | omega | decide) ?_
      | refine Cell.ro rfl ?_
      | refine SDraw.all (by kernel_rfl) ?_
      | refine Kept.k0 ?_
      | refine Kept.k1 ?_
      | refine Kept.k2 ?_
      | refine Kept.k3 ?_
      | refine Kept.k4 ?_))
theorem c99 {b c N : Nat} {q st : List Wn} {i j : Nat} {x y : Wn} (hi : q[i]? = some y) (hj : q[j]? = some x) (hK : K (.tuple ⟨[]⟩) ((b, .buf 72 ((Hp.sw q i j x y ++ st).flatMap wC) N) :: H)) : SCalls Tryd.prog 99 [.slice (some ⟨b, 0, none⟩) q.length c, .int .i64 (i : Int), .int .i64 (j : Int)] ((b, .buf 72 ((q ++ st).flatMap wC) N) :: H) K := by
  have hil := (List.getElem?_eq_some_iff.1 hi).1
  have hjl := (List.getElem?_eq_some_iff.1 hj).1
  have hi2 : (q ++ st)[i]? = some y := by rw [List.getElem?_append_left hil]; exact hi
  have hj2 : (q ++ st)[j]? = some x := by rw [List.getElem?_append_left hjl]; exact hj
  rw [← sw_front hil hjl] at hK
  obtain ⟨z, hz⟩ : ∃ z, ((q ++ st).set i x)[j]? = some z := ⟨_, List.getElem?_eq_getElem (by simp; omega)⟩
  have ei : 0 + i * 3 = i * 3 := Nat.zero_add _
  have ej : 0 + j * 3 = j * 3 := Nat.zero_add _
  refine enter99 ?_
  repeat' ((conv => whnf); (first
      | refine SDraw.held (by kernel_rfl) [] .nil ?_
      | refine Kept.sub (List.nil_sublist _) ?_
      | refine And.intro ?_ ?_
      | refine Cells.flat (f := wC) (fun _ => rfl) hj2 ?_
      | refine Cells.flat (f := wC) (fun _ => rfl) hi2 ?_
      | refine Put.flatAll (f := wC) (fun _ => rfl) (x := y) x hi2 ei ?_
      | refine Put.flatAll (f := wC) (fun _ => rfl) y hz ej ?_
      | exact Keep.all hK
      | refine New.mk (fun _ => ?_)
      | refine Look.at0 ?_
      | refine Cell.row ?_
      | refine Cell.buf ?_
      | refine Cells.row rfl ?_
      | refine Put.row rfl ?_
      | refine Put.buf rfl ?_
      | refine Look.at1 ?_
      | refine Look.at2 ?_
      | refine Look.at3 ?_
      | refine Look.at4 ?_
      | refine Look.at5 ?_
      | refine Look.at6 ?_
      | refine Look.at7 ?_
      | refine Look.at8 ?_
      | with_reducible refine Val.i64 (by omega) (by omega) ?_
      | with_reducible refine Val.u8 (by omega) (by omega) ?_
      | with_reducible refine Val.u32 (by omega) (by omega) ?_
      | with_reducible refine Val.u64 (by omega) (by omega) ?_
      | with_reducible refine Val.u8m ?_
      | with_reducible refine Val.u32m ?_
      | with_reducible refine Val.u64m ?_
      | with_reducible refine Val.shr8 ?_
      | with_reducible refine Val.shr16 (by decide) ?_
      | with_reducible refine Val.shr24 (by decide) ?_
      | with_reducible refine Val.raw ?_
      | refine Branch.not ?_
      | refine Branch.and ?_
      | refine Branch.or ?_
      | refine Branch.dt (by assumption) ?_
      | refine Branch.df (by assumption) ?_
      | refine Branch.dt rfl ?_
      | refine Branch.dt (by omega) ?_
      | refine Branch.df (by omega) ?_
      | refine Branch.t rfl ?_
      | refine Branch.f rfl ?_
      | refine Branch.t (by assumption) ?_
      | refine Branch.f (by assumption) ?_
      | refine Branch.d (fun _ => ?_) (fun _ => ?_)
      | refine Branch.mk (fun _ => ?_) (fun _ => ?_)
      | refine Need.mk (by first | omega | decide | rfl) ?_
      | refine Idx.nat (by omega) ?_
      | refine Idx.auto (by first | omega | decide) (by first | omega | decide) ?_
      | refine Cell.ro rfl ?_
      | refine SDraw.all (by kernel_rfl) ?_
      | refine Kept.k0 ?_
      | refine Kept.k1 ?_
      | refine Kept.k2 ?_
      | refine Kept.k3 ?_
      | refine Kept.k4 ?_))
end
end Go.Proofs.YtjleekdidedhaaaDoor

/- Layer 25: what waits: container/heap over it, by walks. -/
set_option linter.unusedVariables false
set_option linter.unusedSimpArgs false
set_option maxRecDepth 100000
set_option maxHeartbeats 4000000
namespace Go.Proofs.YtjleekdidedhaaaDoor
open Sx
abbrev qP (p : Nat) : Value := .iface 74 (.pointer (some ⟨p, 1, none⟩))
abbrev pRow (p : Nat) (lv qv un : Value) : Nat × Blk := (p, .row 65 [lv, qv, un] (0, 0))
theorem inv_len (p : Nat) (w : World) {sv : Value} (hc : w.cell? ⟨p, 1, none⟩ = some sv) : (callMethod (qP p) "Len" ([] : List Value).toArray).run Tryd.prog w = .ok (.enter 97 (sv :: ([] : List Value)).toArray) w := by
  have h : (callMethod (qP p) "Len" ([] : List Value).toArray).run Tryd.prog w = (match w.cell? ⟨p, 1, none⟩ with
    | some v => (.ok (.enter 97 (v :: ([] : List Value)).toArray) w : Result Next)
    | none => match w.farLoad Tryd.prog ⟨p, 1, none⟩ false with
      | .ok (v, _) => .ok (.enter 97 (v :: ([] : List Value)).toArray) w
      | .error h => .halt h w) := by kernel_rfl
  rw [h, hc]
theorem inv_less (p : Nat) (x y : Value) (w : World) {sv : Value} (hc : w.cell? ⟨p, 1, none⟩ = some sv) : (callMethod (qP p) "Less" [x, y].toArray).run Tryd.prog w = .ok (.enter 98 (sv :: [x, y]).toArray) w := by
  have h : (callMethod (qP p) "Less" [x, y].toArray).run Tryd.prog w = (match w.cell? ⟨p, 1, none⟩ with
    | some v => (.ok (.enter 98 (v :: [x, y]).toArray) w : Result Next)
    | none => match w.farLoad Tryd.prog ⟨p, 1, none⟩ false with
      | .ok (v, _) => .ok (.enter 98 (v :: [x, y]).toArray) w
      | .error h => .halt h w) := by kernel_rfl
  rw [h, hc]
theorem inv_swap (p : Nat) (x y : Value) (w : World) {sv : Value} (hc : w.cell? ⟨p, 1, none⟩ = some sv) : (callMethod (qP p) "Swap" [x, y].toArray).run Tryd.prog w = .ok (.enter 99 (sv :: [x, y]).toArray) w := by
  have h : (callMethod (qP p) "Swap" [x, y].toArray).run Tryd.prog w = (match w.cell? ⟨p, 1, none⟩ with
    | some v => (.ok (.enter 99 (v :: [x, y]).toArray) w : Result Next)
    | none => match w.farLoad Tryd.prog ⟨p, 1, none⟩ false with
      | .ok (v, _) => .ok (.enter 99 (v :: [x, y]).toArray) w
      | .error h => .halt h w) := by kernel_rfl
  rw [h, hc]
theorem inv_pop (p : Nat) (w : World) : (callMethod (qP p) "Pop" ([] : List Value).toArray).run Tryd.prog w = .ok (.enter 103 (.pointer (some ⟨p, 1, none⟩) :: ([] : List Value)).toArray) w := by kernel_rfl
theorem inv_push (p : Nat) (x : Value) (w : World) : (callMethod (qP p) "Push" [x].toArray).run Tryd.prog w = .ok (.enter 104 (.pointer (some ⟨p, 1, none⟩) :: [x]).toArray) w := by kernel_rfl
inductive S47 (A0 A1 : Value) : List Value → Prop
  | mk {r2 r3 r4 r5 r6 r7 r8 r9 r10 r11 r12 r13 r14 r15 r16 r17 r18 r19 r20 r21 r22 : Value} : S47 A0 A1 [A0, A1, r2, r3, r4, r5, r6, r7, r8, r9, r10, r11, r12, r13, r14, r15, r16, r17, r18, r19, r20, r21, r22]
inductive S41 (A0 A1 A2 A7 : Value) : List Value → Prop
  | mk {r3 r4 r5 r6 r8 r9 r10 r11 r12 r13 r14 r15 r16 r17 r18 r19 r20 r21 r22 r23 r24 r25 r26 r27 r28 r29 r30 r31 r32 r33 r34 r35 r36 r37 r38 r39 r40 r41 r42 r43 r44 r45 r46 r47 : Value} : S41 A0 A1 A2 A7 [A0, A1, A2, r3, r4, r5, r6, A7, r8, r9, r10, r11, r12, r13, r14, r15, r16, r17, r18, r19, r20, r21, r22, r23, r24, r25, r26, r27, r28, r29, r30, r31, r32, r33, r34, r35, r36, r37, r38, r39, r40, r41, r42, r43, r44, r45, r46, r47]
section
variable {K : Value → Heap → Prop} {H : Heap} {p : Nat} {lv un : Value} {o : Oper} {xr xi xj : Operand} {ts : Array TypeId} {ar : Array Operand}
/-- The player's block, and its queue's. -/
abbrev pq (p b N c : Nat) (lv un : Value) (q st : List Wn) (H : Heap) : Heap := pRow p lv (.slice (some ⟨b, 0, none⟩) q.length c) un :: (b, .buf 72 ((q ++ st).flatMap wC) N) :: H
theorem pq_in {b N c : Nat} {q st : List Wn} (hml : q.length ≤ maxLen) : InS wC 3 (.slice (some ⟨b, 0, none⟩) q.length c) (pq p b N c lv un q st H) q :=
  ⟨_, c, rfl, hml, .inr ⟨b, 0, _, rfl, .tail _ (.head _), fun j x i v hj hv hi => by
    show ((q ++ st).flatMap wC)[0 + j * 3 + i]? = some v
    rw [Nat.zero_add, flat_nth (f := wC) (fun _ => rfl) (by rw [List.getElem?_append_left (List.getElem?_eq_some_iff.1 hj).1]; exact hj) hi]
    exact hv⟩⟩
theorem r_len {b N c : Nat} {q st : List Wn} (ho : o.op = .call { callee := .invoke xr "Len", args := ar, argTypes := ts }) (hK : K (.int .i64 (q.length : Int)) (pq p b N c lv un q st H)) : RawV Tryd.prog o [qP p] (pq p b N c lv un q st H) K :=
  RawV.invoke (f := 97) (vs := []) ho (fun w hw => inv_len p w (cell_at (hw.at_ _ (.head _)) rfl)) (c97 hK)
theorem r_less {b N c : Nat} {q st : List Wn} {i j : Nat} {x y : Wn} (ho : o.op = .call { callee := .invoke xr "Less", args := ar, argTypes := ts }) (hml : q.length ≤ maxLen) (hi : q[i]? = some x) (hj : q[j]? = some y) (hK : K (.bool (wlt x y)) (pq p b N c lv un q st H)) : RawV Tryd.prog o [qP p, .int .i64 (i : Int), .int .i64 (j : Int)] (pq p b N c lv un q st H) K :=
  RawV.invoke (f := 98) (vs := [_, _]) ho (fun w hw => inv_less p _ _ w (cell_at (hw.at_ _ (.head _)) rfl)) (c98 (pq_in hml) hi hj hK)
theorem r_swap {b N c : Nat} {q st : List Wn} {i j : Nat} {x y : Wn} (ho : o.op = .call { callee := .invoke xr "Swap", args := ar, argTypes := ts }) (hi : q[i]? = some y) (hj : q[j]? = some x) (hK : K (.tuple ⟨[]⟩) (pq p b N c lv un (Hp.sw q i j x y) st H)) : RawV Tryd.prog o [qP p, .int .i64 (i : Int), .int .i64 (j : Int)] (pq p b N c lv un q st H) K := by
  unfold pq at hK
  rw [Hp.sw_len] at hK
  exact RawV.invoke (f := 99) (vs := [_, _]) ho (fun w hw => inv_swap p _ _ w (cell_at (hw.at_ _ (.head _)) rfl)) (SCalls.under [_] (c99 hi hj hK))
def I47 (p b N c : Nat) (lv un : Value) (q0 st : List Wn) (H : Heap) (s : List Wn × Nat) (S : List Value) (H' : Heap) : Prop :=
  s.1.Perm q0 ∧ Hp.UpI wlt s.1 s.2 s.1.length ∧ s.2 < s.1.length ∧ S47 (qP p) (.int .i64 (s.2 : Int)) S ∧ H' = pq p b N c lv un s.1 st H
theorem c47 {b N c : Nat} {q st : List Wn} {j : Nat} (hml : q.length ≤ 4503599627370496) (hu : Hp.UpI wlt q j q.length) (hj : j < q.length) (hK : ∀ q', q'.Perm q → Hp.HeapN wlt q' q'.length → K (.tuple ⟨[]⟩) (pq p b N c lv un q' st H)) : SCalls Tryd.prog 47 [qP p, .int .i64 (j : Int)] (pq p b N c lv un q st H) K := by
  refine enter47 ?_
  repeat' ((conv => whnf); (first
      | refine New.mk (fun _ => ?_)
      | refine Look.at0 ?_
      | refine Cell.row ?_
      | refine Cell.buf ?_
      | refine Cells.row rfl ?_
      | refine Put.row rfl ?_
      | refine Put.buf rfl ?_
      | refine Look.at1 ?_
      | refine Look.at2 ?_
      | refine Look.at3 ?_
      | refine Look.at4 ?_
      | refine Look.at5 ?_
      | refine Look.at6 ?_
      | refine Look.at7 ?_
      | refine Look.at8 ?_
      | with_reducible refine Val.i64 (by omega) (by omega) ?_
      | with_reducible refine Val.u8 (by omega) (by omega) ?_
      | with_reducible refine Val.u32 (by omega) (by omega) ?_
      | with_reducible refine Val.u64 (by omega) (by omega) ?_
      | with_reducible refine Val.u8m ?_
      | with_reducible refine Val.u32m ?_
      | with_reducible refine Val.u64m ?_
      | with_reducible refine Val.shr8 ?_
      | with_reducible refine Val.shr16 (by decide) ?_
      | with_reducible refine Val.shr24 (by decide) ?_
      | with_reducible refine Val.raw ?_
      | refine Branch.not ?_
      | refine Branch.and ?_
      | refine Branch.or ?_
      | refine Branch.dt (by assumption) ?_
      | refine Branch.df (by assumption) ?_
      | refine Branch.dt rfl ?_
      | refine Branch.dt (by omega) ?_
      | refine Branch.df (by omega) ?_
      | refine Branch.t rfl ?_
      | refine Branch.f rfl ?_
      | refine Branch.t (by assumption) ?_
      | refine Branch.f (by assumption) ?_
      | refine Branch.d (fun _ => ?_) (fun _ => ?_)
      | refine Branch.mk (fun _ => ?_) (fun _ => ?_)
      | refine Need.mk (by first | omega | decide | rfl) ?_
      | refine Idx.nat (by omega) ?_
      | refine Idx.auto (by first | omega | decide) (by first | omega | decide) ?_
      | refine Cell.ro rfl ?_
      | refine SDraw.all (by kernel_rfl) ?_
      | refine Kept.k0 ?_
      | refine Kept.k1 ?_
      | refine Kept.k2 ?_
      | refine Kept.k3 ?_
      | refine Kept.k4 ?_))
  refine SLoop.invA (I47 p b N c lv un q st H) (fun s => s.2) (q, j) (Keep.all ⟨.refl _, hu, hj, .mk, rfl⟩) ?_
  rintro ⟨q1, j⟩ S H' ⟨hp, hu, hj, hS, rfl⟩ R hR
  dsimp only at hp hu hj hS hR ⊢
  cases hS
  have hl := hp.length_eq
  have hm2 : q1.length ≤ 4503599627370496 := by omega
  have hml1 : q1.length ≤ maxLen := by simp only [maxLen]; omega
  have hx := List.getElem?_eq_getElem hj
  generalize q1[j] = x at hx
  have hy := List.getElem?_eq_getElem (show (j - 1) / 2 < q1.length by omega)
  generalize q1[(j - 1) / 2] = y at hy
  rcases Nat.eq_zero_or_pos j with rfl | hj0
  · have hk := hK q1 hp (hu.done (.inl rfl))
    have hv : IntKind.i64.wrap ((((0 : Nat) : Int) - 1).tdiv 2) = ((0 : Nat) : Int) := by decide
    clear hR hK
    repeat' ((conv => whnf); (first
        | with_reducible refine Val.to _ hv ?_
        | refine Branch.t rfl ?_
        | exact Keep.all hk
        | refine New.mk (fun _ => ?_)
        | refine Look.at0 ?_
        | refine Cell.row ?_
        | refine Cell.buf ?_
        | refine Cells.row rfl ?_
        | refine Put.row rfl ?_
        | refine Put.buf rfl ?_
        | refine Look.at1 ?_
        | refine Look.at2 ?_
        | refine Look.at3 ?_
        | refine Look.at4 ?_
        | refine Look.at5 ?_
        | refine Look.at6 ?_
        | refine Look.at7 ?_
        | refine Look.at8 ?_
        | with_reducible refine Val.i64 (by omega) (by omega) ?_
        | with_reducible refine Val.u8 (by omega) (by omega) ?_
        | with_reducible refine Val.u32 (by omega) (by omega) ?_
        | with_reducible refine Val.u64 (by omega) (by omega) ?_
        | with_reducible refine Val.u8m ?_
        | with_reducible refine Val.u32m ?_
        | with_reducible refine Val.u64m ?_
        | with_reducible refine Val.shr8 ?_
        | with_reducible refine Val.shr16 (by decide) ?_
        | with_reducible refine Val.shr24 (by decide) ?_
        | with_reducible refine Val.raw ?_
        | refine Branch.not ?_
        | refine Branch.and ?_
        | refine Branch.or ?_
        | refine Branch.dt (by assumption) ?_
        | refine Branch.df (by assumption) ?_
        | refine Branch.dt rfl ?_
        | refine Branch.dt (by omega) ?_
        | refine Branch.df (by omega) ?_
        | refine Branch.t rfl ?_
        | refine Branch.f rfl ?_
        | refine Branch.t (by assumption) ?_
        | refine Branch.f (by assumption) ?_
        | refine Branch.d (fun _ => ?_) (fun _ => ?_)
        | refine Branch.mk (fun _ => ?_) (fun _ => ?_)
        | refine Need.mk (by first | omega | decide | rfl) ?_
        | refine Idx.nat (by omega) ?_
        | refine Idx.auto (by first | omega | decide) (by first | omega | decide) ?_
        | refine Cell.ro rfl ?_
        | refine SDraw.all (by kernel_rfl) ?_
        | refine Kept.k0 ?_
        | refine Kept.k1 ?_
        | refine Kept.k2 ?_
        | refine Kept.k3 ?_
        | refine Kept.k4 ?_))
  · have hv : IntKind.i64.wrap (((j : Int) - 1).tdiv 2) = (((j - 1) / 2 : Nat) : Int) := by
      rw [show (j : Int) - 1 = ((j - 1 : Nat) : Int) by omega, Int.tdiv_eq_ediv_of_nonneg (by omega), show ((2 : Int)) = ((2 : Nat) : Int) from rfl, ← Int.natCast_ediv]
      exact wrap_i64 (by omega) (by omega)
    have hij : (j - 1) / 2 < j := by omega
    have hless := fun (K2 : Value → Heap → Prop) (o : Oper) (xr : Operand) (ar : Array Operand) (ts : Array TypeId) ho hk => r_less (K := K2) (o := o) (xr := xr) (ar := ar) (ts := ts) (p := p) (lv := lv) (un := un) (H := H) (b := b) (N := N) (c := c) (st := st) ho hml1 hx hy hk
    cases hlt : wlt x y with
    | false =>
      have hk := hK q1 hp (hu.done (.inr ⟨x, y, hx, hy, hlt⟩))
      rw [hlt] at hless
      clear hR hK
      repeat' ((conv => whnf); (first
          | with_reducible refine Val.to _ hv ?_
          | refine Branch.df (by omega) ?_
          | refine hless _ _ _ _ _ rfl ?_
          | exact Keep.all hk
          | refine New.mk (fun _ => ?_)
          | refine Look.at0 ?_
          | refine Cell.row ?_
          | refine Cell.buf ?_
          | refine Cells.row rfl ?_
          | refine Put.row rfl ?_
          | refine Put.buf rfl ?_
          | refine Look.at1 ?_
          | refine Look.at2 ?_
          | refine Look.at3 ?_
          | refine Look.at4 ?_
          | refine Look.at5 ?_
          | refine Look.at6 ?_
          | refine Look.at7 ?_
          | refine Look.at8 ?_
          | with_reducible refine Val.i64 (by omega) (by omega) ?_
          | with_reducible refine Val.u8 (by omega) (by omega) ?_
          | with_reducible refine Val.u32 (by omega) (by omega) ?_
          | with_reducible refine Val.u64 (by omega) (by omega) ?_
          | with_reducible refine Val.u8m ?_
          | with_reducible refine Val.u32m ?_
          | with_reducible refine Val.u64m ?_
          | with_reducible refine Val.shr8 ?_
          | with_reducible refine Val.shr16 (by decide) ?_
          | with_reducible refine Val.shr24 (by decide) ?_
          | with_reducible refine Val.raw ?_
          | refine Branch.not ?_
          | refine Branch.and ?_
          | refine Branch.or ?_
          | refine Branch.dt (by assumption) ?_
          | refine Branch.df (by assumption) ?_
          | refine Branch.dt rfl ?_
          | refine Branch.dt (by omega) ?_
          | refine Branch.df (by omega) ?_
          | refine Branch.t rfl ?_
          | refine Branch.f rfl ?_
          | refine Branch.t (by assumption) ?_
          | refine Branch.f (by assumption) ?_
          | refine Branch.d (fun _ => ?_) (fun _ => ?_)
          | refine Branch.mk (fun _ => ?_) (fun _ => ?_)
          | refine Need.mk (by first | omega | decide | rfl) ?_
          | refine Idx.nat (by omega) ?_
          | refine Idx.auto (by first | omega | decide) (by first | omega | decide) ?_
          | refine Cell.ro rfl ?_
          | refine SDraw.all (by kernel_rfl) ?_
          | refine Kept.k0 ?_
          | refine Kept.k1 ?_
          | refine Kept.k2 ?_
          | refine Kept.k3 ?_
          | refine Kept.k4 ?_))
    | true =>
      rw [hlt] at hless
      have hstep := hu.step wlt_ord hj0 hj hx hy hlt
      have hnext := fun S (hS : S47 (qP p) (.int .i64 (((j - 1) / 2 : Nat) : Int)) S) => hR (Hp.sw q1 ((j - 1) / 2) j x y, (j - 1) / 2) S _ hij (Keep.all ⟨(Hp.sw_perm hy hx).trans hp, by rw [Hp.sw_len]; exact hstep, by rw [Hp.sw_len]; show (j - 1) / 2 < _; omega, hS, rfl⟩)
      clear hR hK
      repeat' ((conv => whnf); (first
          | with_reducible refine Val.to _ hv ?_
          | refine Branch.df (by omega) ?_
          | refine hless _ _ _ _ _ rfl ?_
          | refine r_swap rfl hy hx ?_
          | exact hnext _ .mk
          | refine New.mk (fun _ => ?_)
          | refine Look.at0 ?_
          | refine Cell.row ?_
          | refine Cell.buf ?_
          | refine Cells.row rfl ?_
          | refine Put.row rfl ?_
          | refine Put.buf rfl ?_
          | refine Look.at1 ?_
          | refine Look.at2 ?_
          | refine Look.at3 ?_
          | refine Look.at4 ?_
          | refine Look.at5 ?_
          | refine Look.at6 ?_
          | refine Look.at7 ?_
          | refine Look.at8 ?_
          | with_reducible refine Val.i64 (by omega) (by omega) ?_
          | with_reducible refine Val.u8 (by omega) (by omega) ?_
          | with_reducible refine Val.u32 (by omega) (by omega) ?_
          | with_reducible refine Val.u64 (by omega) (by omega) ?_
          | with_reducible refine Val.u8m ?_
          | with_reducible refine Val.u32m ?_
          | with_reducible refine Val.u64m ?_
          | with_reducible refine Val.shr8 ?_
          | with_reducible refine Val.shr16 (by decide) ?_
          | with_reducible refine Val.shr24 (by decide) ?_
          | with_reducible refine Val.raw ?_
          | refine Branch.not ?_
          | refine Branch.and ?_
          | refine Branch.or ?_
          | refine Branch.dt (by assumption) ?_
          | refine Branch.df (by assumption) ?_
          | refine Branch.dt rfl ?_
          | refine Branch.dt (by omega) ?_
          | refine Branch.df (by omega) ?_
          | refine Branch.t rfl ?_
          | refine Branch.f rfl ?_
          | refine Branch.t (by assumption) ?_
          | refine Branch.f (by assumption) ?_
          | refine Branch.d (fun _ => ?_) (fun _ => ?_)
          | refine Branch.mk (fun _ => ?_) (fun _ => ?_)
          | refine Need.mk (by first | omega | decide | rfl) ?_
          | refine Idx.nat (by omega) ?_
          | refine Idx.auto (by first | omega | decide) (by first | omega | decide) ?_
          | refine Cell.ro rfl ?_
          | refine SDraw.all (by kernel_rfl) ?_
          | refine Kept.k0 ?_
          | refine Kept.k1 ?_
          | refine Kept.k2 ?_
          | refine Kept.k3 ?_
          | refine Kept.k4 ?_))
def I41 (p b N c : Nat) (lv un : Value) (q0 st : List Wn) (i0 n : Nat) (H : Heap) (s : List Wn × Nat) (S : List Value) (H' : Heap) : Prop :=
  s.1.Perm q0 ∧ (∀ k, n ≤ k → s.1[k]? = q0[k]?) ∧ Hp.BothI wlt s.1 s.2 n ∧ (s.2 ≠ i0 → Hp.DownI wlt s.1 s.2 n) ∧ i0 ≤ s.2 ∧ (s.2 = i0 → s.1 = q0) ∧ (s.2 < n ∨ s.2 = i0) ∧ S41 (qP p) (.int .i64 (i0 : Int)) (.int .i64 (n : Int)) (.int .i64 (s.2 : Int)) S ∧ H' = pq p b N c lv un s.1 st H
theorem c41 {b N c : Nat} {q st : List Wn} {i0 n : Nat} (hml : q.length ≤ 4503599627370496) (hn : n ≤ q.length) (hb : Hp.BothI wlt q i0 n) (hi0 : i0 ≤ n)
    (hK : ∀ (mv : Bool) q', q'.Perm q → (∀ k, n ≤ k → q'[k]? = q[k]?) → (mv = true → Hp.HeapN wlt q' n) → (mv = false → q' = q ∧ Hp.UpI wlt q i0 n) → K (.bool mv) (pq p b N c lv un q' st H)) : SCalls Tryd.prog 41 [qP p, .int .i64 (i0 : Int), .int .i64 (n : Int)] (pq p b N c lv un q st H) K := by
  refine enter41 ?_
  repeat' ((conv => whnf); (first
      | refine New.mk (fun _ => ?_)
      | refine Look.at0 ?_
      | refine Cell.row ?_
      | refine Cell.buf ?_
      | refine Cells.row rfl ?_
      | refine Put.row rfl ?_
      | refine Put.buf rfl ?_
      | refine Look.at1 ?_
      | refine Look.at2 ?_
      | refine Look.at3 ?_
      | refine Look.at4 ?_
      | refine Look.at5 ?_
      | refine Look.at6 ?_
      | refine Look.at7 ?_
      | refine Look.at8 ?_
      | with_reducible refine Val.i64 (by omega) (by omega) ?_
      | with_reducible refine Val.u8 (by omega) (by omega) ?_
      | with_reducible refine Val.u32 (by omega) (by omega) ?_
      | with_reducible refine Val.u64 (by omega) (by omega) ?_
      | with_reducible refine Val.u8m ?_
      | with_reducible refine Val.u32m ?_
      | with_reducible refine Val.u64m ?_
      | with_reducible refine Val.shr8 ?_
      | with_reducible refine Val.shr16 (by decide) ?_
      | with_reducible refine Val.shr24 (by decide) ?_
      | with_reducible refine Val.raw ?_
      | refine Branch.not ?_
      | refine Branch.and ?_
      | refine Branch.or ?_
      | refine Branch.dt (by assumption) ?_
      | refine Branch.df (by assumption) ?_
      | refine Branch.dt rfl ?_
      | refine Branch.dt (by omega) ?_
      | refine Branch.df (by omega) ?_
      | refine Branch.t rfl ?_
      | refine Branch.f rfl ?_
      | refine Branch.t (by assumption) ?_
      | refine Branch.f (by assumption) ?_
      | refine Branch.d (fun _ => ?_) (fun _ => ?_)
      | refine Branch.mk (fun _ => ?_) (fun _ => ?_)
      | refine Need.mk (by first | omega | decide | rfl) ?_
      | refine Idx.nat (by omega) ?_
      | refine Idx.auto (by first | omega | decide) (by first | omega | decide) ?_
      | refine Cell.ro rfl ?_
      | refine SDraw.all (by kernel_rfl) ?_
      | refine Kept.k0 ?_
      | refine Kept.k1 ?_
      | refine Kept.k2 ?_
      | refine Kept.k3 ?_
      | refine Kept.k4 ?_))
  refine SLoop.invA (I41 p b N c lv un q st i0 n H) (fun s => n - s.2) (q, i0) (Keep.all ⟨.refl _, fun _ _ => rfl, hb, fun h => absurd rfl h, Nat.le_refl _, fun _ => rfl, .inr rfl, .mk, rfl⟩) ?_
  rintro ⟨q1, i⟩ S H' ⟨hp, htl, hbo, hdn, hge, hsame, hlt', hS, rfl⟩ R hR
  dsimp only at hp htl hbo hdn hge hsame hlt' hS hR ⊢
  cases hS
  have hl := hp.length_eq
  have hm2 : q1.length ≤ 4503599627370496 := by omega
  have hml1 : q1.length ≤ maxLen := by simp only [maxLen]; omega
  have hfin : (∀ k x y, 0 < k → k < n → (k - 1) / 2 = i → q1[k]? = some x → q1[i]? = some y → wlt x y = false) → K (.bool (decide ((i0 : Int) < i))) (pq p b N c lv un q1 st H) := fun hd => by
    by_cases he : i = i0
    · have hq := hsame he
      subst he
      rw [show decide ((i : Int) < i) = false by simp]
      exact hK false q1 hp htl (fun h => by cases h) (fun _ => ⟨hq, by rw [← hq]; exact hbo.stay hd⟩)
    · rw [show decide ((i0 : Int) < i) = true by simp; omega]
      exact hK true q1 hp htl (fun _ => (hdn he).done hd) (fun h => by cases h)
  clear hK
  by_cases h1 : n ≤ 2 * i + 1
  · have hk := hfin (fun k x y k0 k1 k2 _ _ => by omega)
    clear hR hfin
    repeat' ((conv => whnf); (first
        | refine Branch.dt (by omega) ?_
        | exact Keep.all hk
        | refine New.mk (fun _ => ?_)
        | refine Look.at0 ?_
        | refine Cell.row ?_
        | refine Cell.buf ?_
        | refine Cells.row rfl ?_
        | refine Put.row rfl ?_
        | refine Put.buf rfl ?_
        | refine Look.at1 ?_
        | refine Look.at2 ?_
        | refine Look.at3 ?_
        | refine Look.at4 ?_
        | refine Look.at5 ?_
        | refine Look.at6 ?_
        | refine Look.at7 ?_
        | refine Look.at8 ?_
        | with_reducible refine Val.i64 (by omega) (by omega) ?_
        | with_reducible refine Val.u8 (by omega) (by omega) ?_
        | with_reducible refine Val.u32 (by omega) (by omega) ?_
        | with_reducible refine Val.u64 (by omega) (by omega) ?_
        | with_reducible refine Val.u8m ?_
        | with_reducible refine Val.u32m ?_
        | with_reducible refine Val.u64m ?_
        | with_reducible refine Val.shr8 ?_
        | with_reducible refine Val.shr16 (by decide) ?_
        | with_reducible refine Val.shr24 (by decide) ?_
        | with_reducible refine Val.raw ?_
        | refine Branch.not ?_
        | refine Branch.and ?_
        | refine Branch.or ?_
        | refine Branch.dt (by assumption) ?_
        | refine Branch.df (by assumption) ?_
        | refine Branch.dt rfl ?_
        | refine Branch.dt (by omega) ?_
        | refine Branch.df (by omega) ?_
        | refine Branch.t rfl ?_
        | refine Branch.f rfl ?_
        | refine Branch.t (by assumption) ?_
        | refine Branch.f (by assumption) ?_
        | refine Branch.d (fun _ => ?_) (fun _ => ?_)
        | refine Branch.mk (fun _ => ?_) (fun _ => ?_)
        | refine Need.mk (by first | omega | decide | rfl) ?_
        | refine Idx.nat (by omega) ?_
        | refine Idx.auto (by first | omega | decide) (by first | omega | decide) ?_
        | refine Cell.ro rfl ?_
        | refine SDraw.all (by kernel_rfl) ?_
        | refine Kept.k0 ?_
        | refine Kept.k1 ?_
        | refine Kept.k2 ?_
        | refine Kept.k3 ?_
        | refine Kept.k4 ?_))
  · have hin : i < n := by omega
    have hx := List.getElem?_eq_getElem (show i < q1.length by omega)
    generalize q1[i] = y at hx
    have hx1 := List.getElem?_eq_getElem (show 2 * i + 1 < q1.length by omega)
    generalize q1[2 * i + 1] = x1 at hx1
    have go : ∀ (j : Nat) (x : Wn), q1[j]? = some x → (j - 1) / 2 = i → 0 < j → j < n → (∀ k a, 0 < k → k < n → (k - 1) / 2 = i → q1[k]? = some a → wlt a x = false) →
        (wlt x y = false → K (.bool (decide ((i0 : Int) < i))) (pq p b N c lv un q1 st H)) ∧ (wlt x y = true → ∀ S, S41 (qP p) (.int .i64 (i0 : Int)) (.int .i64 (n : Int)) (.int .i64 (j : Int)) S → R S (pq p b N c lv un (Hp.sw q1 i j x y) st H)) := by
      intro j x hj hji hj0 hjn hmin
      have hij : i < j := by omega
      refine ⟨fun hlt => hfin fun k a z k0 k1 k2 ha hz => ?_, fun hlt S hS => hR (Hp.sw q1 i j x y, j) S _ (by show n - j < n - i; omega) (Keep.all ⟨(Hp.sw_perm hx hj).trans hp, fun k hk => ?_, ?_, fun _ => ?_, by show i0 ≤ j; omega, fun h => absurd h (by show ¬ j = i0; omega), .inl hjn, hS, rfl⟩)⟩
      · rw [hx] at hz
        injection hz with hz
        subst hz
        exact wlt_ord.nt _ _ _ hlt (hmin k a k0 k1 k2 ha)
      · show (Hp.sw q1 i j x y)[k]? = _
        rw [Hp.sw_at (Hp.at_lt hx) (Hp.at_lt hj), if_neg (by omega), if_neg (by omega)]
        exact htl k hk
      · exact (hbo.step wlt_ord hji hj0 hjn hj hx hlt hmin).both
      · exact hbo.step wlt_ord hji hj0 hjn hj hx hlt hmin
    have irr : ∀ a : Wn, wlt a a = false := wlt_irr
    have hless := fun (i j : Nat) (x y : Wn) (hi : q1[i]? = some x) (hj : q1[j]? = some y) (b' : Bool) (hb' : wlt x y = b') (K2 : Value → Heap → Prop) (o : Oper) (xr : Operand) (ar : Array Operand) (ts : Array TypeId) ho (hk : K2 (.bool b') (pq p b N c lv un q1 st H)) => r_less (K := K2) (o := o) (xr := xr) (ar := ar) (ts := ts) (p := p) (lv := lv) (un := un) (H := H) (b := b) (N := N) (c := c) (st := st) ho hml1 hi hj (by rw [hb']; exact hk)
    have e1 : (2 : Int) * (i : Int) + 1 = ((2 * i + 1 : Nat) : Int) := by omega
    have e2 : (((2 * i + 1 : Nat) : Int)) + 1 = ((2 * i + 2 : Nat) : Int) := by omega
    clear hR hfin
    by_cases h2 : 2 * i + 2 < n
    · have hx2 := List.getElem?_eq_getElem (show 2 * i + 2 < q1.length by omega)
      generalize q1[2 * i + 2] = x2 at hx2
      cases hc12 : wlt x2 x1 with
      | true =>
        obtain ⟨g1, g2⟩ := go (2 * i + 2) x2 hx2 (by omega) (by omega) h2 (fun k a k0 k1 k2 ha => by
          rcases (by omega : k = 2 * i + 1 ∨ k = 2 * i + 2) with rfl | rfl
          · rw [hx1] at ha
            injection ha with ha
            subst ha
            exact wlt_ord.asym _ _ hc12
          · rw [hx2] at ha
            injection ha with ha
            subst ha
            exact irr _)
        have hl1 := hless _ _ _ _ hx2 hx1 _ hc12
        cases hc : wlt x2 y with
        | false =>
          have hk := g1 hc
          have hl2 := hless _ _ _ _ hx2 hx _ hc
          repeat' ((conv => whnf); (first
              | with_reducible refine Val.to ((2 * i + 1 : Nat) : Int) (by rw [wrap_i64 (by omega) (by omega)]; omega) ?_
              | with_reducible refine Val.to ((2 * i + 2 : Nat) : Int) (by rw [wrap_i64 (by omega) (by omega)]; omega) ?_
              | refine Branch.df (by omega) ?_
              | refine Branch.dt (by omega) ?_
              | refine hl1 _ _ _ _ _ rfl ?_
              | refine hl2 _ _ _ _ _ rfl ?_
              | exact Keep.all hk
              | refine New.mk (fun _ => ?_)
              | refine Look.at0 ?_
              | refine Cell.row ?_
              | refine Cell.buf ?_
              | refine Cells.row rfl ?_
              | refine Put.row rfl ?_
              | refine Put.buf rfl ?_
              | refine Look.at1 ?_
              | refine Look.at2 ?_
              | refine Look.at3 ?_
              | refine Look.at4 ?_
              | refine Look.at5 ?_
              | refine Look.at6 ?_
              | refine Look.at7 ?_
              | refine Look.at8 ?_
              | with_reducible refine Val.i64 (by omega) (by omega) ?_
              | with_reducible refine Val.u8 (by omega) (by omega) ?_
              | with_reducible refine Val.u32 (by omega) (by omega) ?_
              | with_reducible refine Val.u64 (by omega) (by omega) ?_
              | with_reducible refine Val.u8m ?_
              | with_reducible refine Val.u32m ?_
              | with_reducible refine Val.u64m ?_
              | with_reducible refine Val.shr8 ?_
              | with_reducible refine Val.shr16 (by decide) ?_
              | with_reducible refine Val.shr24 (by decide) ?_
              | with_reducible refine Val.raw ?_
              | refine Branch.not ?_
              | refine Branch.and ?_
              | refine Branch.or ?_
              | refine Branch.dt (by assumption) ?_
              | refine Branch.df (by assumption) ?_
              | refine Branch.dt rfl ?_
              | refine Branch.dt (by omega) ?_
              | refine Branch.df (by omega) ?_
              | refine Branch.t rfl ?_
              | refine Branch.f rfl ?_
              | refine Branch.t (by assumption) ?_
              | refine Branch.f (by assumption) ?_
              | refine Branch.d (fun _ => ?_) (fun _ => ?_)
              | refine Branch.mk (fun _ => ?_) (fun _ => ?_)
              | refine Need.mk (by first | omega | decide | rfl) ?_
              | refine Idx.nat (by omega) ?_
              | refine Idx.auto (by first | omega | decide) (by first | omega | decide) ?_
              | refine Cell.ro rfl ?_
              | refine SDraw.all (by kernel_rfl) ?_
              | refine Kept.k0 ?_
              | refine Kept.k1 ?_
              | refine Kept.k2 ?_
              | refine Kept.k3 ?_
              | refine Kept.k4 ?_))
        | true =>
          have hk := g2 hc
          have hl2 := hless _ _ _ _ hx2 hx _ hc
          repeat' ((conv => whnf); (first
              | with_reducible refine Val.to ((2 * i + 1 : Nat) : Int) (by rw [wrap_i64 (by omega) (by omega)]; omega) ?_
              | with_reducible refine Val.to ((2 * i + 2 : Nat) : Int) (by rw [wrap_i64 (by omega) (by omega)]; omega) ?_
              | refine Branch.df (by omega) ?_
              | refine Branch.dt (by omega) ?_
              | refine hl1 _ _ _ _ _ rfl ?_
              | refine hl2 _ _ _ _ _ rfl ?_
              | refine r_swap rfl hx hx2 ?_
              | exact hk _ .mk
              | refine New.mk (fun _ => ?_)
              | refine Look.at0 ?_
              | refine Cell.row ?_
              | refine Cell.buf ?_
              | refine Cells.row rfl ?_
              | refine Put.row rfl ?_
              | refine Put.buf rfl ?_
              | refine Look.at1 ?_
              | refine Look.at2 ?_
              | refine Look.at3 ?_
              | refine Look.at4 ?_
              | refine Look.at5 ?_
              | refine Look.at6 ?_
              | refine Look.at7 ?_
              | refine Look.at8 ?_
              | with_reducible refine Val.i64 (by omega) (by omega) ?_
              | with_reducible refine Val.u8 (by omega) (by omega) ?_
              | with_reducible refine Val.u32 (by omega) (by omega) ?_
              | with_reducible refine Val.u64 (by omega) (by omega) ?_
              | with_reducible refine Val.u8m ?_
              | with_reducible refine Val.u32m ?_
              | with_reducible refine Val.u64m ?_
              | with_reducible refine Val.shr8 ?_
              | with_reducible refine Val.shr16 (by decide) ?_
              | with_reducible refine Val.shr24 (by decide) ?_
              | with_reducible refine Val.raw ?_
              | refine Branch.not ?_
              | refine Branch.and ?_
              | refine Branch.or ?_
              | refine Branch.dt (by assumption) ?_
              | refine Branch.df (by assumption) ?_
              | refine Branch.dt rfl ?_
              | refine Branch.dt (by omega) ?_
              | refine Branch.df (by omega) ?_
              | refine Branch.t rfl ?_
              | refine Branch.f rfl ?_
              | refine Branch.t (by assumption) ?_
              | refine Branch.f (by assumption) ?_
              | refine Branch.d (fun _ => ?_) (fun _ => ?_)
              | refine Branch.mk (fun _ => ?_) (fun _ => ?_)
              | refine Need.mk (by first | omega | decide | rfl) ?_
              | refine Idx.nat (by omega) ?_
              | refine Idx.auto (by first | omega | decide) (by first | omega | decide) ?_
              | refine Cell.ro rfl ?_
              | refine SDraw.all (by kernel_rfl) ?_
              | refine Kept.k0 ?_
              | refine Kept.k1 ?_
              | refine Kept.k2 ?_
              | refine Kept.k3 ?_
              | refine Kept.k4 ?_))
      | false =>
        obtain ⟨g1, g2⟩ := go (2 * i + 1) x1 hx1 (by omega) (by omega) (by omega) (fun k a k0 k1 k2 ha => by
          rcases (by omega : k = 2 * i + 1 ∨ k = 2 * i + 2) with rfl | rfl
          · rw [hx1] at ha
            injection ha with ha
            subst ha
            exact irr _
          · rw [hx2] at ha
            injection ha with ha
            subst ha
            exact hc12)
        have hl1 := hless _ _ _ _ hx2 hx1 _ hc12
        cases hc : wlt x1 y with
        | false =>
          have hk := g1 hc
          have hl2 := hless _ _ _ _ hx1 hx _ hc
          repeat' ((conv => whnf); (first
              | with_reducible refine Val.to ((2 * i + 1 : Nat) : Int) (by rw [wrap_i64 (by omega) (by omega)]; omega) ?_
              | with_reducible refine Val.to ((2 * i + 2 : Nat) : Int) (by rw [wrap_i64 (by omega) (by omega)]; omega) ?_
              | refine Branch.df (by omega) ?_
              | refine Branch.dt (by omega) ?_
              | refine hl1 _ _ _ _ _ rfl ?_
              | refine hl2 _ _ _ _ _ rfl ?_
              | exact Keep.all hk
              | refine New.mk (fun _ => ?_)
              | refine Look.at0 ?_
              | refine Cell.row ?_
              | refine Cell.buf ?_
              | refine Cells.row rfl ?_
              | refine Put.row rfl ?_
              | refine Put.buf rfl ?_
              | refine Look.at1 ?_
              | refine Look.at2 ?_
              | refine Look.at3 ?_
              | refine Look.at4 ?_
              | refine Look.at5 ?_
              | refine Look.at6 ?_
              | refine Look.at7 ?_
              | refine Look.at8 ?_
              | with_reducible refine Val.i64 (by omega) (by omega) ?_
              | with_reducible refine Val.u8 (by omega) (by omega) ?_
              | with_reducible refine Val.u32 (by omega) (by omega) ?_
              | with_reducible refine Val.u64 (by omega) (by omega) ?_
              | with_reducible refine Val.u8m ?_
              | with_reducible refine Val.u32m ?_
              | with_reducible refine Val.u64m ?_
              | with_reducible refine Val.shr8 ?_
              | with_reducible refine Val.shr16 (by decide) ?_
              | with_reducible refine Val.shr24 (by decide) ?_
              | with_reducible refine Val.raw ?_
              | refine Branch.not ?_
              | refine Branch.and ?_
              | refine Branch.or ?_
              | refine Branch.dt (by assumption) ?_
              | refine Branch.df (by assumption) ?_
              | refine Branch.dt rfl ?_
              | refine Branch.dt (by omega) ?_
              | refine Branch.df (by omega) ?_
              | refine Branch.t rfl ?_
              | refine Branch.f rfl ?_
              | refine Branch.t (by assumption) ?_
              | refine Branch.f (by assumption) ?_
              | refine Branch.d (fun _ => ?_) (fun _ => ?_)
              | refine Branch.mk (fun _ => ?_) (fun _ => ?_)
              | refine Need.mk (by first | omega | decide | rfl) ?_
              | refine Idx.nat (by omega) ?_
              | refine Idx.auto (by first | omega | decide) (by first | omega | decide) ?_
              | refine Cell.ro rfl ?_
              | refine SDraw.all (by kernel_rfl) ?_
              | refine Kept.k0 ?_
              | refine Kept.k1 ?_
              | refine Kept.k2 ?_
              | refine Kept.k3 ?_
              | refine Kept.k4 ?_))
        | true =>
          have hk := g2 hc
          have hl2 := hless _ _ _ _ hx1 hx _ hc
          repeat' ((conv => whnf); (first
              | with_reducible refine Val.to ((2 * i + 1 : Nat) : Int) (by rw [wrap_i64 (by omega) (by omega)]; omega) ?_
              | with_reducible refine Val.to ((2 * i + 2 : Nat) : Int) (by rw [wrap_i64 (by omega) (by omega)]; omega) ?_
              | refine Branch.df (by omega) ?_
              | refine Branch.dt (by omega) ?_
              | refine hl1 _ _ _ _ _ rfl ?_
              | refine hl2 _ _ _ _ _ rfl ?_
              | refine r_swap rfl hx hx1 ?_
              | exact hk _ .mk
              | refine New.mk (fun _ => ?_)
              | refine Look.at0 ?_
              | refine Cell.row ?_
              | refine Cell.buf ?_
              | refine Cells.row rfl ?_
              | refine Put.row rfl ?_
              | refine Put.buf rfl ?_
              | refine Look.at1 ?_
              | refine Look.at2 ?_
              | refine Look.at3 ?_
              | refine Look.at4 ?_
              | refine Look.at5 ?_
              | refine Look.at6 ?_
              | refine Look.at7 ?_
              | refine Look.at8 ?_
              | with_reducible refine Val.i64 (by omega) (by omega) ?_
              | with_reducible refine Val.u8 (by omega) (by omega) ?_
              | with_reducible refine Val.u32 (by omega) (by omega) ?_
              | with_reducible refine Val.u64 (by omega) (by omega) ?_
              | with_reducible refine Val.u8m ?_
              | with_reducible refine Val.u32m ?_
              | with_reducible refine Val.u64m ?_
              | with_reducible refine Val.shr8 ?_
              | with_reducible refine Val.shr16 (by decide) ?_
              | with_reducible refine Val.shr24 (by decide) ?_
              | with_reducible refine Val.raw ?_
              | refine Branch.not ?_
              | refine Branch.and ?_
              | refine Branch.or ?_
              | refine Branch.dt (by assumption) ?_
              | refine Branch.df (by assumption) ?_
              | refine Branch.dt rfl ?_
              | refine Branch.dt (by omega) ?_
              | refine Branch.df (by omega) ?_
              | refine Branch.t rfl ?_
              | refine Branch.f rfl ?_
              | refine Branch.t (by assumption) ?_
              | refine Branch.f (by assumption) ?_
              | refine Branch.d (fun _ => ?_) (fun _ => ?_)
              | refine Branch.mk (fun _ => ?_) (fun _ => ?_)
              | refine Need.mk (by first | omega | decide | rfl) ?_
              | refine Idx.nat (by omega) ?_
              | refine Idx.auto (by first | omega | decide) (by first | omega | decide) ?_
              | refine Cell.ro rfl ?_
              | refine SDraw.all (by kernel_rfl) ?_
              | refine Kept.k0 ?_
              | refine Kept.k1 ?_
              | refine Kept.k2 ?_
              | refine Kept.k3 ?_
              | refine Kept.k4 ?_))
    · obtain ⟨g1, g2⟩ := go (2 * i + 1) x1 hx1 (by omega) (by omega) (by omega) (fun k a k0 k1 k2 ha => by
        obtain rfl : k = 2 * i + 1 := by omega
        rw [hx1] at ha
        injection ha with ha
        subst ha
        exact irr _)
      cases hc : wlt x1 y with
      | false =>
        have hk := g1 hc
        have hl2 := hless _ _ _ _ hx1 hx _ hc
        repeat' ((conv => whnf); (first
            | with_reducible refine Val.to ((2 * i + 1 : Nat) : Int) (by rw [wrap_i64 (by omega) (by omega)]; omega) ?_
            | with_reducible refine Val.to ((2 * i + 2 : Nat) : Int) (by rw [wrap_i64 (by omega) (by omega)]; omega) ?_
            | refine Branch.df (by omega) ?_
            | refine Branch.dt (by omega) ?_
            | refine hl2 _ _ _ _ _ rfl ?_
            | exact Keep.all hk
            | refine New.mk (fun _ => ?_)
            | refine Look.at0 ?_
            | refine Cell.row ?_
            | refine Cell.buf ?_
            | refine Cells.row rfl ?_
            | refine Put.row rfl ?_
            | refine Put.buf rfl ?_
            | refine Look.at1 ?_
            | refine Look.at2 ?_
            | refine Look.at3 ?_
            | refine Look.at4 ?_
            | refine Look.at5 ?_
            | refine Look.at6 ?_
            | refine Look.at7 ?_
            | refine Look.at8 ?_
            | with_reducible refine Val.i64 (by omega) (by omega) ?_
            | with_reducible refine Val.u8 (by omega) (by omega) ?_
            | with_reducible refine Val.u32 (by omega) (by omega) ?_
            | with_reducible refine Val.u64 (by omega) (by omega) ?_
            | with_reducible refine Val.u8m ?_
            | with_reducible refine Val.u32m ?_
            | with_reducible refine Val.u64m ?_
            | with_reducible refine Val.shr8 ?_
            | with_reducible refine Val.shr16 (by decide) ?_
            | with_reducible refine Val.shr24 (by decide) ?_
            | with_reducible refine Val.raw ?_
            | refine Branch.not ?_
            | refine Branch.and ?_
            | refine Branch.or ?_
            | refine Branch.dt (by assumption) ?_
            | refine Branch.df (by assumption) ?_
            | refine Branch.dt rfl ?_
            | refine Branch.dt (by omega) ?_
            | refine Branch.df (by omega) ?_
            | refine Branch.t rfl ?_
            | refine Branch.f rfl ?_
            | refine Branch.t (by assumption) ?_
            | refine Branch.f (by assumption) ?_
            | refine Branch.d (fun _ => ?_) (fun _ => ?_)
            | refine Branch.mk (fun _ => ?_) (fun _ => ?_)
            | refine Need.mk (by first | omega | decide | rfl) ?_
            | refine Idx.nat (by omega) ?_
            | refine Idx.auto (by first | omega | decide) (by first | omega | decide) ?_
            | refine Cell.ro rfl ?_
            | refine SDraw.all (by kernel_rfl) ?_
            | refine Kept.k0 ?_
            | refine Kept.k1 ?_
            | refine Kept.k2 ?_
            | refine Kept.k3 ?_
            | refine Kept.k4 ?_))
      | true =>
        have hk := g2 hc
        have hl2 := hless _ _ _ _ hx1 hx _ hc
        repeat' ((conv => whnf); (first
            | with_reducible refine Val.to ((2 * i + 1 : Nat) : Int) (by rw [wrap_i64 (by omega) (by omega)]; omega) ?_
            | with_reducible refine Val.to ((2 * i + 2 : Nat) : Int) (by rw [wrap_i64 (by omega) (by omega)]; omega) ?_
            | refine Branch.df (by omega) ?_
            | refine Branch.dt (by omega) ?_
            | refine hl2 _ _ _ _ _ rfl ?_
            | refine r_swap rfl hx hx1 ?_
            | exact hk _ .mk
            | refine New.mk (fun _ => ?_)
            | refine Look.at0 ?_
            | refine Cell.row ?_
            | refine Cell.buf ?_
            | refine Cells.row rfl ?_
            | refine Put.row rfl ?_
            | refine Put.buf rfl ?_
            | refine Look.at1 ?_
            | refine Look.at2 ?_
            | refine Look.at3 ?_
            | refine Look.at4 ?_
            | refine Look.at5 ?_
            | refine Look.at6 ?_
            | refine Look.at7 ?_
            | refine Look.at8 ?_
            | with_reducible refine Val.i64 (by omega) (by omega) ?_
            | with_reducible refine Val.u8 (by omega) (by omega) ?_
            | with_reducible refine Val.u32 (by omega) (by omega) ?_
            | with_reducible refine Val.u64 (by omega) (by omega) ?_
            | with_reducible refine Val.u8m ?_
            | with_reducible refine Val.u32m ?_
            | with_reducible refine Val.u64m ?_
            | with_reducible refine Val.shr8 ?_
            | with_reducible refine Val.shr16 (by decide) ?_
            | with_reducible refine Val.shr24 (by decide) ?_
            | with_reducible refine Val.raw ?_
            | refine Branch.not ?_
            | refine Branch.and ?_
            | refine Branch.or ?_
            | refine Branch.dt (by assumption) ?_
            | refine Branch.df (by assumption) ?_
            | refine Branch.dt rfl ?_
            | refine Branch.dt (by omega) ?_
            | refine Branch.df (by omega) ?_
            | refine Branch.t rfl ?_
            | refine Branch.f rfl ?_
            | refine Branch.t (by assumption) ?_
            | refine Branch.f (by assumption) ?_
            | refine Branch.d (fun _ => ?_) (fun _ => ?_)
            | refine Branch.mk (fun _ => ?_) (fun _ => ?_)
            | refine Need.mk (by first | omega | decide | rfl) ?_
            | refine Idx.nat (by omega) ?_
            | refine Idx.auto (by first | omega | decide) (by first | omega | decide) ?_
            | refine Cell.ro rfl ?_
            | refine SDraw.all (by kernel_rfl) ?_
            | refine Kept.k0 ?_
            | refine Kept.k1 ?_
            | refine Kept.k2 ?_
            | refine Kept.k3 ?_
            | refine Kept.k4 ?_))
end
end Go.Proofs.YtjleekdidedhaaaDoor

/- Layer 25: what waits: heap.Push and heap.Pop, by walks. -/
set_option linter.unusedVariables false
set_option linter.unusedSimpArgs false
set_option maxRecDepth 100000
set_option maxHeartbeats 4000000
namespace Go.Proofs.YtjleekdidedhaaaDoor
open Sx
/-- The player's block and its queue (q), ahead of what else is known (H). -/
inductive PQ (p : Nat) (lv un : Value) : List Wn → Heap → Heap → Prop
  | nil {H : Heap} : PQ p lv un [] H (pRow p lv (.slice none 0 0) un :: H)
  | buf {H : Heap} {b c : Nat} {q st : List Wn} : q.length ≤ c → c ≤ maxLen → PQ p lv un q H (pq p b (c * 3) c lv un q st H)
theorem oneW (y : Wn) : ∀ u ∈ wC y, u.oneCell' = true := by
  intro u hu
  simp only [wC, List.mem_cons, List.not_mem_nil, or_false] at hu
  rcases hu with rfl | rfl | rfl <;> rfl
theorem rot3 {a b c : Nat × Blk} {H : Heap} {K : Heap → Prop} (h : K (c :: a :: H)) : Keep (a :: b :: c :: H) K :=
  Keep.mk (b :: c :: a :: H) (c :: a :: H) ((List.Perm.swap b a _).trans (.cons b (.swap c a H))) (List.sublist_cons_self _ _) h
section
variable {K : Value → Heap → Prop} {H F : Heap} {p : Nat} {lv un : Value} {q : List Wn} {x : Wn} {o : Oper} {xr : Operand} {ts : Array TypeId} {ar : Array Operand}
theorem PQ.que (h : PQ p lv un q H F) : ∃ a c M, q.length ≤ maxLen ∧ Que wC 3 72 (.slice a q.length c) q M ∧ F = pRow p lv (.slice a q.length c) un :: (M ++ H) := by
  cases h with
  | nil => exact ⟨none, 0, [], Nat.zero_le _, .nil, rfl⟩
  | buf h1 h2 => exact ⟨_, _, _, Nat.le_trans h1 h2, .buf h1 h2, rfl⟩
theorem c104 (h : PQ p lv un q H F) (hl : q.length ≤ 1000000000) (hK : ∀ b c, q.length + 1 ≤ c → c ≤ maxLen → K (.tuple ⟨[]⟩) (pRow p lv (.slice (some ⟨b, 0, none⟩) (q.length + 1) c) un :: (b, .buf 72 ((q ++ [x]).flatMap wC) (c * 3)) :: H)) : SCalls Tryd.prog 104 [.pointer (some ⟨p, 1, none⟩), .iface 72 (.agg ⟨wC x⟩)] F K := by
  obtain ⟨a, c, M, hml, hq, rfl⟩ := h.que
  refine enter104 ?_
  repeat' ((conv => whnf); (first
      | refine SDraw.held (by kernel_rfl) [_] (.same (.head _) .nil) ?_
      | refine Kept.sub (List.Sublist.cons _ (List.Sublist.cons_cons _ (List.nil_sublist _))) ?_
      | refine Kept.sub (List.Sublist.cons _ (List.Sublist.cons _ (List.Sublist.cons_cons _ (List.nil_sublist _)))) ?_
      | refine RawV.que1 (A := [_, _]) (x := x) (bytes := 32) hq rfl (.head _) rfl (by kernel_rfl) (by decide) (fun _ => rfl) (oneW x) (by simp only [maxLen]; omega) (by omega) (fun b c h1 h2 => ?_)
      | exact rot3 (hK _ _ h1 h2)
      | refine New.mk (fun _ => ?_)
      | refine Look.at0 ?_
      | refine Cell.row ?_
      | refine Cell.buf ?_
      | refine Cells.row rfl ?_
      | refine Put.row rfl ?_
      | refine Put.buf rfl ?_
      | refine Look.at1 ?_
      | refine Look.at2 ?_
      | refine Look.at3 ?_
      | refine Look.at4 ?_
      | refine Look.at5 ?_
      | refine Look.at6 ?_
      | refine Look.at7 ?_
      | refine Look.at8 ?_
      | with_reducible refine Val.i64 (by omega) (by omega) ?_
      | with_reducible refine Val.u8 (by omega) (by omega) ?_
      | with_reducible refine Val.u32 (by omega) (by omega) ?_
      | with_reducible refine Val.u64 (by omega) (by omega) ?_
      | with_reducible refine Val.u8m ?_
      | with_reducible refine Val.u32m ?_
      | with_reducible refine Val.u64m ?_
      | with_reducible refine Val.shr8 ?_
      | with_reducible refine Val.shr16 (by decide) ?_
      | with_reducible refine Val.shr24 (by decide) ?_
      | with_reducible refine Val.raw ?_
      | refine Branch.not ?_
      | refine Branch.and ?_
      | refine Branch.or ?_
      | refine Branch.dt (by assumption) ?_
      | refine Branch.df (by assumption) ?_
      | refine Branch.dt rfl ?_
      | refine Branch.dt (by omega) ?_
      | refine Branch.df (by omega) ?_
      | refine Branch.t rfl ?_
      | refine Branch.f rfl ?_
      | refine Branch.t (by assumption) ?_
      | refine Branch.f (by assumption) ?_
      | refine Branch.d (fun _ => ?_) (fun _ => ?_)
      | refine Branch.mk (fun _ => ?_) (fun _ => ?_)
      | refine Need.mk (by first | omega | decide | rfl) ?_
      | refine Idx.nat (by omega) ?_
      | refine Idx.auto (by first | omega | decide) (by first | omega | decide) ?_
      | refine Cell.ro rfl ?_
      | refine SDraw.all (by kernel_rfl) ?_
      | refine Kept.k0 ?_
      | refine Kept.k1 ?_
      | refine Kept.k2 ?_
      | refine Kept.k3 ?_
      | refine Kept.k4 ?_))
theorem c103 {b N c : Nat} {q st : List Wn} (hl : q.length ≤ 1000000000) (hc : q.length + 1 ≤ c) (hK : K (.iface 72 (.agg ⟨wC x⟩)) (pq p b N c lv un q (x :: st) H)) : SCalls Tryd.prog 103 [.pointer (some ⟨p, 1, none⟩)] (pq p b N c lv un (q ++ [x]) st H) K := by
  have hx : (q ++ [x] ++ st)[q.length]? = some x := by simp
  have e : q ++ [x] ++ st = q ++ (x :: st) := by simp
  unfold pq at hK ⊢
  rw [← e] at hK
  rw [List.length_append, List.length_singleton]
  refine enter103 ?_
  repeat' ((conv => whnf); (first
      | with_reducible refine Val.to (q.length : Int) (by rw [wrap_i64 (by omega) (by omega)]; omega) ?_
      | refine Idx.of q.length (by omega) (by omega) ?_
      | refine Cells.flat (f := wC) (fun _ => rfl) hx ?_
      | exact Keep.d1 hK
      | refine New.mk (fun _ => ?_)
      | refine Look.at0 ?_
      | refine Cell.row ?_
      | refine Cell.buf ?_
      | refine Cells.row rfl ?_
      | refine Put.row rfl ?_
      | refine Put.buf rfl ?_
      | refine Look.at1 ?_
      | refine Look.at2 ?_
      | refine Look.at3 ?_
      | refine Look.at4 ?_
      | refine Look.at5 ?_
      | refine Look.at6 ?_
      | refine Look.at7 ?_
      | refine Look.at8 ?_
      | with_reducible refine Val.i64 (by omega) (by omega) ?_
      | with_reducible refine Val.u8 (by omega) (by omega) ?_
      | with_reducible refine Val.u32 (by omega) (by omega) ?_
      | with_reducible refine Val.u64 (by omega) (by omega) ?_
      | with_reducible refine Val.u8m ?_
      | with_reducible refine Val.u32m ?_
      | with_reducible refine Val.u64m ?_
      | with_reducible refine Val.shr8 ?_
      | with_reducible refine Val.shr16 (by decide) ?_
      | with_reducible refine Val.shr24 (by decide) ?_
      | with_reducible refine Val.raw ?_
      | refine Branch.not ?_
      | refine Branch.and ?_
      | refine Branch.or ?_
      | refine Branch.dt (by assumption) ?_
      | refine Branch.df (by assumption) ?_
      | refine Branch.dt rfl ?_
      | refine Branch.dt (by omega) ?_
      | refine Branch.df (by omega) ?_
      | refine Branch.t rfl ?_
      | refine Branch.f rfl ?_
      | refine Branch.t (by assumption) ?_
      | refine Branch.f (by assumption) ?_
      | refine Branch.d (fun _ => ?_) (fun _ => ?_)
      | refine Branch.mk (fun _ => ?_) (fun _ => ?_)
      | refine Need.mk (by first | omega | decide | rfl) ?_
      | refine Idx.nat (by omega) ?_
      | refine Idx.auto (by first | omega | decide) (by first | omega | decide) ?_
      | refine Cell.ro rfl ?_
      | refine SDraw.all (by kernel_rfl) ?_
      | refine Kept.k0 ?_
      | refine Kept.k1 ?_
      | refine Kept.k2 ?_
      | refine Kept.k3 ?_
      | refine Kept.k4 ?_))
theorem r_push (ho : o.op = .call { callee := .invoke xr "Push", args := ar, argTypes := ts }) (h : PQ p lv un q H F) (hl : q.length ≤ 1000000000) (hK : ∀ b c, q.length + 1 ≤ c → c ≤ maxLen → K (.tuple ⟨[]⟩) (pRow p lv (.slice (some ⟨b, 0, none⟩) (q.length + 1) c) un :: (b, .buf 72 ((q ++ [x]).flatMap wC) (c * 3)) :: H)) : RawV Tryd.prog o [qP p, .iface 72 (.agg ⟨wC x⟩)] F K :=
  RawV.invoke (f := 104) (vs := [_]) ho (fun w hw => inv_push p _ w) (c104 h hl hK)
theorem r_pop {b N c : Nat} {q st : List Wn} (ho : o.op = .call { callee := .invoke xr "Pop", args := ar, argTypes := ts }) (hl : q.length ≤ 1000000000) (hc : q.length + 1 ≤ c) (hK : K (.iface 72 (.agg ⟨wC x⟩)) (pq p b N c lv un q (x :: st) H)) : RawV Tryd.prog o [qP p] (pq p b N c lv un (q ++ [x]) st H) K :=
  RawV.invoke (f := 103) (vs := []) ho (fun w hw => inv_pop p w) (c103 hl hc hK)
theorem c40 (h : PQ p lv un q H F) (hh : Hp.HeapN wlt q q.length) (hl : q.length ≤ 1000000000) (hK : ∀ q' F', PQ p lv un q' H F' → q'.Perm (q ++ [x]) → Hp.HeapN wlt q' q'.length → K (.tuple ⟨[]⟩) F') : SCalls Tryd.prog 40 [qP p, .iface 72 (.agg ⟨wC x⟩)] F K := by
  refine enter40 ?_
  have hpush := fun (K2 : Value → Heap → Prop) (o : Oper) (xr : Operand) (ar : Array Operand) (ts : Array TypeId) ho hk => r_push (K := K2) (o := o) (xr := xr) (ar := ar) (ts := ts) (x := x) ho h hl hk
  have hup : ∀ b c (K : Value → Heap → Prop), q.length + 1 ≤ c → c ≤ maxLen → (∀ q' F', PQ p lv un q' H F' → q'.Perm (q ++ [x]) → Hp.HeapN wlt q' q'.length → K (.tuple ⟨[]⟩) F') → SCalls Tryd.prog 47 [qP p, .int .i64 (q.length : Int)] (pRow p lv (.slice (some ⟨b, 0, none⟩) (q.length + 1) c) un :: (b, .buf 72 ((q ++ [x]).flatMap wC) (c * 3)) :: H) K := by
    intro b c K h1 h2 hK
    have hu := hh.push x
    have he : pRow p lv (.slice (some ⟨b, 0, none⟩) (q.length + 1) c) un :: (b, .buf 72 ((q ++ [x]).flatMap wC) (c * 3)) :: H = pq p b (c * 3) c lv un (q ++ [x]) [] H := by
      unfold pq
      rw [List.append_nil, List.length_append]; rfl
    rw [he]
    refine c47 (by simp; omega) (by rw [List.length_append]; exact hu) (by simp) (fun q' hp hn => hK q' _ (.buf (by rw [hp.length_eq]; simpa using h1) h2) hp hn)
  have hlen : ∀ b c (K2 : Value → Heap → Prop) (o : Oper) (xr : Operand) (ar : Array Operand) (ts : Array TypeId), o.op = .call { callee := .invoke xr "Len", args := ar, argTypes := ts } → K2 (.int .i64 ((q.length : Int) + 1)) (pRow p lv (.slice (some ⟨b, 0, none⟩) (q.length + 1) c) un :: (b, .buf 72 ((q ++ [x]).flatMap wC) (c * 3)) :: H) → RawV Tryd.prog o [qP p] (pRow p lv (.slice (some ⟨b, 0, none⟩) (q.length + 1) c) un :: (b, .buf 72 ((q ++ [x]).flatMap wC) (c * 3)) :: H) K2 := by
    intro b c K2 o xr ar ts ho hk
    have he : pRow p lv (.slice (some ⟨b, 0, none⟩) (q.length + 1) c) un :: (b, .buf 72 ((q ++ [x]).flatMap wC) (c * 3)) :: H = pq p b (c * 3) c lv un (q ++ [x]) [] H := by
      unfold pq
      rw [List.append_nil, List.length_append]; rfl
    rw [he] at hk ⊢
    refine r_len ho ?_
    rw [List.length_append]
    exact hk
  clear h
  repeat' ((conv => whnf); (first
      | refine hpush _ _ _ _ _ rfl (fun b c h1 h2 => ?_)
      | refine hlen _ _ _ _ _ _ _ rfl ?_
      | with_reducible refine Val.to (q.length : Int) (by rw [wrap_i64 (by omega) (by omega)]; omega) ?_
      | refine hup _ _ _ h1 h2 (fun q' F' g1 g2 g3 => ?_)
      | exact Keep.all (hK _ _ g1 g2 g3)
      | refine New.mk (fun _ => ?_)
      | refine Look.at0 ?_
      | refine Cell.row ?_
      | refine Cell.buf ?_
      | refine Cells.row rfl ?_
      | refine Put.row rfl ?_
      | refine Put.buf rfl ?_
      | refine Look.at1 ?_
      | refine Look.at2 ?_
      | refine Look.at3 ?_
      | refine Look.at4 ?_
      | refine Look.at5 ?_
      | refine Look.at6 ?_
      | refine Look.at7 ?_
      | refine Look.at8 ?_
      | with_reducible refine Val.i64 (by omega) (by omega) ?_
      | with_reducible refine Val.u8 (by omega) (by omega) ?_
      | with_reducible refine Val.u32 (by omega) (by omega) ?_
      | with_reducible refine Val.u64 (by omega) (by omega) ?_
      | with_reducible refine Val.u8m ?_
      | with_reducible refine Val.u32m ?_
      | with_reducible refine Val.u64m ?_
      | with_reducible refine Val.shr8 ?_
      | with_reducible refine Val.shr16 (by decide) ?_
      | with_reducible refine Val.shr24 (by decide) ?_
      | with_reducible refine Val.raw ?_
      | refine Branch.not ?_
      | refine Branch.and ?_
      | refine Branch.or ?_
      | refine Branch.dt (by assumption) ?_
      | refine Branch.df (by assumption) ?_
      | refine Branch.dt rfl ?_
      | refine Branch.dt (by omega) ?_
      | refine Branch.df (by omega) ?_
      | refine Branch.t rfl ?_
      | refine Branch.f rfl ?_
      | refine Branch.t (by assumption) ?_
      | refine Branch.f (by assumption) ?_
      | refine Branch.d (fun _ => ?_) (fun _ => ?_)
      | refine Branch.mk (fun _ => ?_) (fun _ => ?_)
      | refine Need.mk (by first | omega | decide | rfl) ?_
      | refine Idx.nat (by omega) ?_
      | refine Idx.auto (by first | omega | decide) (by first | omega | decide) ?_
      | refine Cell.ro rfl ?_
      | refine SDraw.all (by kernel_rfl) ?_
      | refine Kept.k0 ?_
      | refine Kept.k1 ?_
      | refine Kept.k2 ?_
      | refine Kept.k3 ?_
      | refine Kept.k4 ?_))
theorem c31 {n : Nat} {y : Wn} (h : PQ p lv un q H F) (hh : Hp.HeapN wlt q q.length) (hl : q.length ≤ 1000000000) (hn : q.length = n + 1) (hK : ∀ y q' F', PQ p lv un q' H F' → q.Perm (y :: q') → (∀ x ∈ q, wlt x y = false) → Hp.HeapN wlt q' q'.length → K (.iface 72 (.agg ⟨wC y⟩)) F') : SCalls Tryd.prog 31 [qP p] F K := by
  cases h with
  | nil => cases hn
  | @buf _ b c q st hc1 hc2 =>
    have h0 := List.getElem?_eq_getElem (show 0 < q.length by omega)
    generalize q[0] = y at h0
    have hx := List.getElem?_eq_getElem (show n < q.length by omega)
    generalize q[n] = x at hx
    have hmin := hh.min wlt_ord (Nat.le_refl _) h0 (wlt_irr y)
    rw [hn] at hh
    have hb := hh.pop h0 hx
    have hsl := Hp.sw_len (l := q) (i := 0) (j := n) (x := x) (y := y)
    have hsn : (Hp.sw q 0 n x y)[n]? = some y := by rw [Hp.sw_at (Hp.at_lt h0) (Hp.at_lt hx), if_pos rfl]
    have hdown : ∀ (K2 : Value → Heap → Prop), (∀ mv q', q'.length = n → q.Perm (y :: q') → Hp.HeapN wlt q' q'.length → K2 (.bool mv) (pq p b (c * 3) c lv un (q' ++ [y]) st H)) → SCalls Tryd.prog 41 [qP p, .int .i64 0, .int .i64 (n : Int)] (pq p b (c * 3) c lv un (Hp.sw q 0 n x y) st H) K2 := by
      intro K2 hk
      refine c41 (i0 := 0) (n := n) (by rw [hsl]; omega) (by rw [hsl]; omega) hb (Nat.zero_le _) (fun mv q2 hp htl hmv hmf => ?_)
      have hq2 : Hp.HeapN wlt q2 n := by
        cases mv with
        | true => exact hmv rfl
        | false =>
          obtain ⟨rfl, hu⟩ := hmf rfl
          exact hu.done (.inl rfl)
      have hl2 : q2.length = n + 1 := by rw [hp.length_eq, hsl, hn]
      have hy2 : q2[n]? = some y := by rw [htl n (Nat.le_refl _), hsn]
      have hsplit : q2 = q2.take n ++ [y] := by
        obtain ⟨hlt, e⟩ := List.getElem?_eq_some_iff.1 hy2
        rw [← e, ← List.take_succ_eq_append_getElem hlt, List.take_of_length_le (by omega)]
      have hlt : (q2.take n).length = n := by simp; omega
      have hperm : q.Perm (y :: q2.take n) := ((hp.trans (Hp.sw_perm h0 hx)).symm).trans (by
        conv => lhs; rw [hsplit]
        exact List.perm_append_comm)
      have := hk mv (q2.take n) hlt hperm (by rw [hlt]; exact hq2.cut)
      rw [← hsplit] at this
      exact this
    have hswap := fun (K2 : Value → Heap → Prop) (o : Oper) (xr : Operand) (ar : Array Operand) (ts : Array TypeId) ho hk => r_swap (K := K2) (o := o) (xr := xr) (ar := ar) (ts := ts) (p := p) (lv := lv) (un := un) (H := H) (b := b) (N := c * 3) (c := c) (st := st) (i := 0) (j := n) ho h0 hx hk
    have hpop := fun q' (hq : q'.length = n) (K2 : Value → Heap → Prop) (o : Oper) (xr : Operand) (ar : Array Operand) (ts : Array TypeId) ho hk => r_pop (K := K2) (o := o) (xr := xr) (ar := ar) (ts := ts) (p := p) (lv := lv) (un := un) (H := H) (b := b) (N := c * 3) (c := c) (q := q') (st := st) (x := y) ho (by omega) (by omega) hk
    refine enter31 ?_
    repeat' ((conv => whnf); (first
        | refine r_len rfl ?_
        | with_reducible refine Val.to (n : Int) (by rw [wrap_i64 (by omega) (by omega)]; omega) ?_
        | refine hswap _ _ _ _ _ rfl ?_
        | refine hdown _ (fun mv q' g1 g2 g3 => ?_)
        | refine hpop _ g1 _ _ _ _ _ rfl ?_
        | exact Keep.all (hK _ _ _ (.buf (by omega) hc2) g2 (fun x hx => by
            obtain ⟨k, hk, rfl⟩ := List.getElem_of_mem hx
            exact hmin k _ hk (List.getElem?_eq_getElem hk)) g3)
        | refine New.mk (fun _ => ?_)
        | refine Look.at0 ?_
        | refine Cell.row ?_
        | refine Cell.buf ?_
        | refine Cells.row rfl ?_
        | refine Put.row rfl ?_
        | refine Put.buf rfl ?_
        | refine Look.at1 ?_
        | refine Look.at2 ?_
        | refine Look.at3 ?_
        | refine Look.at4 ?_
        | refine Look.at5 ?_
        | refine Look.at6 ?_
        | refine Look.at7 ?_
        | refine Look.at8 ?_
        | with_reducible refine Val.i64 (by omega) (by omega) ?_
        | with_reducible refine Val.u8 (by omega) (by omega) ?_
        | with_reducible refine Val.u32 (by omega) (by omega) ?_
        | with_reducible refine Val.u64 (by omega) (by omega) ?_
        | with_reducible refine Val.u8m ?_
        | with_reducible refine Val.u32m ?_
        | with_reducible refine Val.u64m ?_
        | with_reducible refine Val.shr8 ?_
        | with_reducible refine Val.shr16 (by decide) ?_
        | with_reducible refine Val.shr24 (by decide) ?_
        | with_reducible refine Val.raw ?_
        | refine Branch.not ?_
        | refine Branch.and ?_
        | refine Branch.or ?_
        | refine Branch.dt (by assumption) ?_
        | refine Branch.df (by assumption) ?_
        | refine Branch.dt rfl ?_
        | refine Branch.dt (by omega) ?_
        | refine Branch.df (by omega) ?_
        | refine Branch.t rfl ?_
        | refine Branch.f rfl ?_
        | refine Branch.t (by assumption) ?_
        | refine Branch.f (by assumption) ?_
        | refine Branch.d (fun _ => ?_) (fun _ => ?_)
        | refine Branch.mk (fun _ => ?_) (fun _ => ?_)
        | refine Need.mk (by first | omega | decide | rfl) ?_
        | refine Idx.nat (by omega) ?_
        | refine Idx.auto (by first | omega | decide) (by first | omega | decide) ?_
        | refine Cell.ro rfl ?_
        | refine SDraw.all (by kernel_rfl) ?_
        | refine Kept.k0 ?_
        | refine Kept.k1 ?_
        | refine Kept.k2 ?_
        | refine Kept.k3 ?_
        | refine Kept.k4 ?_))
end
end Go.Proofs.YtjleekdidedhaaaDoor

/- Layer 25: how messages go: what is played, in plain Lean. -/
set_option linter.unusedVariables false
set_option linter.unusedSimpArgs false
set_option maxRecDepth 100000
namespace Go.Proofs.YtjleekdidedhaaaDoor
open Sx
/-- A message that is played: when it was asked for, and is queued, next. -/
structure Sr where
  (m : Msg) (a q : Nat)
/-- What is queued of one by a time (now): when it was asked for; what is next. -/
def drF (P un now : Nat) : Nat → Nat → Nat → List Nat × Nat × Nat
  | 0, a, q => ([], a, q)
  | f + 1, a, q => if q ≤ now ∧ q < un then (a :: (drF P un now f (a + P) (a + P)).1, (drF P un now f (a + P) (a + P)).2) else ([], a, q)
abbrev dr (un now : Nat) (s : Sr) : List Nat × Nat × Nat := drF s.m.p un now (un + 1) s.a s.q
abbrev drS (un now : Nat) (s : Sr) : Sr := ⟨s.m, (dr un now s).2.1, (dr un now s).2.2⟩
def wants (un now : Nat) : Nat → List Sr → List Wn
  | _, [] => []
  | k, s :: r => (dr un now s).1.map (fun a => ⟨k, fld s.m, a⟩) ++ wants un now (k + 1) r
theorem wants_snoc {un now : Nat} {s : Sr} : ∀ (l : List Sr) (k : Nat), wants un now k (l ++ [s]) = wants un now k l ++ (dr un now s).1.map (fun a => ⟨k + l.length, fld s.m, a⟩)
  | [], k => by simp [wants]
  | x :: l, k => by
    rw [List.cons_append, wants, wants_snoc l (k + 1), wants, List.length_cons, List.append_assoc]
    rw [show k + 1 + l.length = k + (l.length + 1) by omega]
def nxtK (un : Nat) (r : Nat × Bool) (s : Sr) : Nat × Bool := if s.q < un ∧ (r.2 = false ∨ s.q < r.1) then (s.q, true) else r
def nxt (un : Nat) (ss : List Sr) : Nat × Bool := ss.foldl (nxtK un) (0, false)
/-- The first of those that come first. -/
def bestK (Q : List Wn) : Nat → Nat
  | 0 => 0
  | k + 1 => match Q[k + 1]?, Q[bestK Q k]? with
    | some x, some y => if tlt x.fl y.fl then k + 1 else bestK Q k
    | _, _ => bestK Q k
def best (Q : List Wn) : Nat := bestK Q (Q.length - 1)
def upd (out : List Nat) (i v : Nat) : List Nat := out.set i (max (out.getD i 0) v)
/-- What is told at last (r), of what is played. -/
inductive Runs (un : Nat) : List Sr → List Wn → Nat → List Nat → List Nat → Prop
  | halt {ss : List Sr} {Q : List Wn} {now : Nat} {out : List Nat} : Q ++ wants un now 0 ss = [] → (nxt un (ss.map (drS un now))).2 = false → Runs un ss Q now out out
  | wait {ss : List Sr} {Q : List Wn} {now t : Nat} {out r : List Nat} : Q ++ wants un now 0 ss = [] → nxt un (ss.map (drS un now)) = (t, true) → Runs un (ss.map (drS un now)) [] t out r → Runs un ss Q now out r
  | go {ss : List Sr} {Q : List Wn} {now : Nat} {out r : List Nat} {w : Wn} {s : Sr} : (Q ++ wants un now 0 ss)[best (Q ++ wants un now 0 ss)]? = some w → ss[w.who]? = some s →
      Runs un (ss.map (drS un now)) ((Q ++ wants un now 0 ss).eraseIdx (best (Q ++ wants un now 0 ss))) (now + tm s.m) (upd out w.who (now + tm s.m - w.ask)) r → Runs un ss Q now out r
/-- What holds of one. -/
structure SrOk (un : Nat) (s : Sr) : Prop where
  good : Good s.m
  aq : s.a ≤ s.q
  qa : s.q < s.a + s.m.p
  qb : s.q ≤ un + 4294967296
structure DrOk (P un now a q : Nat) (r : List Nat × Nat × Nat) : Prop where
  up : r.1.Pairwise (· < ·)
  lo : ∀ b ∈ r.1, a ≤ b ∧ b < r.2.1 ∧ b ≤ now
  a1 : a ≤ r.2.1
  aq : r.2.1 ≤ r.2.2
  qa : r.2.2 < r.2.1 + P
  qb : r.2.2 ≤ un + 4294967296
  pot : r.1.length + (un - r.2.2) ≤ un - q
  end_ : ¬ (r.2.2 ≤ now ∧ r.2.2 < un)
theorem drF_ok {P un now : Nat} (hP : 1 ≤ P) (hP2 : P ≤ 4294967296) : ∀ (f a q : Nat), a ≤ q → q < a + P → q ≤ un + 4294967296 → un ≤ f + q → DrOk P un now a q (drF P un now f a q)
  | 0, a, q, h1, h2, h3, h4 => ⟨List.Pairwise.nil, (fun _ h => by cases h), Nat.le_refl _, h1, h2, h3, (by show 0 + (un - q) ≤ un - q; omega), (fun h => by
      have h5 : q < un := h.2
      omega)⟩
  | f + 1, a, q, h1, h2, h3, h4 => by
    rw [drF]
    by_cases hc : q ≤ now ∧ q < un
    · rw [if_pos hc]
      have ih := drF_ok (un := un) (now := now) hP hP2 f (a + P) (a + P) (Nat.le_refl _) (by omega) (by omega) (by omega)
      refine ⟨List.pairwise_cons.2 ⟨fun b hb => by have := (ih.lo b hb).1; omega, ih.up⟩, fun b hb => ?_, (by have := ih.a1; show a ≤ (drF P un now f (a + P) (a + P)).2.1; omega), ih.aq, ih.qa, ih.qb, ?_, ih.end_⟩
      · rcases List.mem_cons.1 hb with rfl | hb
        · exact ⟨Nat.le_refl _, (by have := ih.a1; show b < (drF P un now f (b + P) (b + P)).2.1; omega), by omega⟩
        · have := ih.lo b hb
          exact ⟨by omega, this.2.1, this.2.2⟩
      · have := ih.pot
        show (drF P un now f (a + P) (a + P)).1.length + 1 + (un - (drF P un now f (a + P) (a + P)).2.2) ≤ un - q
        omega
    · rw [if_neg hc]
      exact ⟨List.Pairwise.nil, (fun _ h => by cases h), Nat.le_refl _, h1, h2, h3, (by show 0 + (un - q) ≤ un - q; omega), hc⟩
theorem SrOk.dr {un now : Nat} {s : Sr} (h : SrOk un s) : DrOk s.m.p un now s.a s.q (dr un now s) := drF_ok h.good.p1 h.good.p2 _ _ _ h.aq h.qa h.qb (by omega)
theorem SrOk.next {un now : Nat} {s : Sr} (h : SrOk un s) : SrOk un (drS un now s) := ⟨h.good, (h.dr (now := now)).aq, (h.dr (now := now)).qa, (h.dr (now := now)).qb⟩
theorem mem_wants {un now : Nat} {x : Wn} : ∀ (ss : List Sr) (k : Nat), x ∈ wants un now k ss → ∃ i s, ss[i]? = some s ∧ x.who = k + i ∧ x.fl = fld s.m ∧ x.ask ∈ (dr un now s).1
  | s :: r, k, h => by
    rcases List.mem_append.1 h with h | h
    · obtain ⟨a, ha, rfl⟩ := List.mem_map.1 h
      exact ⟨0, s, rfl, rfl, rfl, ha⟩
    · obtain ⟨i, s', h1, h2, h3, h4⟩ := mem_wants r (k + 1) h
      exact ⟨i + 1, s', by simpa using h1, by omega, h3, h4⟩
/-- What may come yet. -/
def pot (un : Nat) (ss : List Sr) (Q : List Wn) : Nat := Q.length + (ss.map fun s => un - s.q).sum
theorem wants_pot {un now : Nat} : ∀ (ss : List Sr) (k : Nat), (∀ s ∈ ss, SrOk un s) → (wants un now k ss).length + ((ss.map (drS un now)).map fun s => un - s.q).sum ≤ (ss.map fun s => un - s.q).sum
  | [], _, _ => Nat.le_refl _
  | s :: r, k, h => by
    have h1 := ((h s (.head _)).dr (now := now)).pot
    have h2 := wants_pot (now := now) r (k + 1) (fun x hx => h x (.tail _ hx))
    rw [wants, List.length_append, List.length_map, List.map_cons, List.map_cons, List.map_cons, List.sum_cons, List.sum_cons]
    show _ + _ + (un - (dr un now s).2.2 + _) ≤ _
    omega
abbrev ordQ (x y : Wn) : Prop := x.fl = y.fl → x.ask < y.ask
theorem wants_ord {un now : Nat} : ∀ (ss : List Sr) (k : Nat), (∀ s ∈ ss, SrOk un s) → (ss.map fun s => fld s.m).Nodup → (wants un now k ss).Pairwise ordQ
  | [], _, _, _ => List.Pairwise.nil
  | s :: r, k, h, hn => by
    rw [List.map_cons, List.nodup_cons] at hn
    rw [wants, List.pairwise_append]
    refine ⟨?_, wants_ord r (k + 1) (fun x hx => h x (.tail _ hx)) hn.2, fun x hx y hy he => ?_⟩
    · rw [List.pairwise_map]
      exact ((h s (.head _)).dr (now := now)).up.imp (fun {a b} hab => (fun _ => hab : ordQ ⟨k, fld s.m, a⟩ ⟨k, fld s.m, b⟩))
    · obtain ⟨a, _, rfl⟩ := List.mem_map.1 hx
      obtain ⟨i, s', h1, _, h3, _⟩ := mem_wants r (k + 1) hy
      exact absurd (List.mem_map.2 ⟨s', List.mem_of_getElem? h1, by rw [← h3]; exact he.symm⟩) hn.1
/-- What holds at each round's head. -/
structure PInv (un : Nat) (L : List Msg) (ss : List Sr) (Q : List Wn) (now : Nat) (out : List Nat) : Prop where
  goods : Goods L
  unb : un ≤ 1048576
  ms : ss.map Sr.m = L
  ok : ∀ s ∈ ss, SrOk un s
  outl : out.length = L.length
  outb : ∀ v ∈ out, v ≤ 20000000000
  wk : ∀ x ∈ Q, ∃ s, ss[x.who]? = some s ∧ x.fl = fld s.m ∧ x.ask < s.a
  by_ : ∀ x ∈ Q, x.ask ≤ now
  ord : Q.Pairwise ordQ
  potb : YtjleekdidedhaaaDoor.pot un ss Q ≤ 67108864
  nowb : now + 160 * YtjleekdidedhaaaDoor.pot un ss Q ≤ 10738466816
theorem PInv.flds {un : Nat} {L : List Msg} {ss : List Sr} {Q : List Wn} {now : Nat} {out : List Nat} (h : PInv un L ss Q now out) : (ss.map fun s => fld s.m).Nodup := by
  have := h.goods.one
  rw [← h.ms, List.map_map] at this
  exact this
/-- All that are queued by now are queued. -/
theorem PInv.takes {un : Nat} {L : List Msg} {ss : List Sr} {Q : List Wn} {now : Nat} {out : List Nat} (h : PInv un L ss Q now out) : PInv un L (ss.map (drS un now)) (Q ++ wants un now 0 ss) now out := by
  have hp := wants_pot (now := now) ss 0 h.ok
  have hpot : YtjleekdidedhaaaDoor.pot un (ss.map (drS un now)) (Q ++ wants un now 0 ss) ≤ YtjleekdidedhaaaDoor.pot un ss Q := by
    unfold YtjleekdidedhaaaDoor.pot
    rw [List.length_append]
    omega
  refine ⟨h.goods, h.unb, by rw [List.map_map, ← h.ms]; rfl, fun s hs => ?_, h.outl, h.outb, fun x hx => ?_, fun x hx => ?_, ?_, Nat.le_trans hpot h.potb, Nat.le_trans (Nat.add_le_add_left (Nat.mul_le_mul_left _ hpot) _) h.nowb⟩
  · obtain ⟨s', hs', rfl⟩ := List.mem_map.1 hs
    exact (h.ok s' hs').next
  · rcases List.mem_append.1 hx with hx | hx
    · obtain ⟨s, h1, h2, h3⟩ := h.wk x hx
      exact ⟨drS un now s, by rw [List.getElem?_map, h1]; rfl, h2, Nat.lt_of_lt_of_le h3 ((h.ok s (List.mem_of_getElem? h1)).dr (now := now)).a1⟩
    · obtain ⟨i, s, h1, h2, h3, h4⟩ := mem_wants ss 0 hx
      rw [Nat.zero_add] at h2
      exact ⟨drS un now s, by rw [List.getElem?_map, h2, h1]; rfl, h3, (((h.ok s (List.mem_of_getElem? h1)).dr (now := now)).lo _ h4).2.1⟩
  · rcases List.mem_append.1 hx with hx | hx
    · exact h.by_ x hx
    · obtain ⟨i, s, h1, h2, h3, h4⟩ := mem_wants ss 0 hx
      exact (((h.ok s (List.mem_of_getElem? h1)).dr (now := now)).lo _ h4).2.2
  · rw [List.pairwise_append]
    refine ⟨h.ord, wants_ord ss 0 h.ok h.flds, fun x hx y hy he => ?_⟩
    obtain ⟨s, h1, h2, h3⟩ := h.wk x hx
    obtain ⟨i, s', g1, g2, g3, g4⟩ := mem_wants ss 0 hy
    have : x.who = i := by
      have e1 : (ss.map fun s => fld s.m)[x.who]? = some (fld s.m) := by rw [List.getElem?_map, h1]; rfl
      have e2 : (ss.map fun s => fld s.m)[i]? = some (fld s.m) := by rw [List.getElem?_map, g1, ← h2, he, g3]; rfl
      have hlt := (List.getElem?_eq_some_iff.1 e1).1
      exact (List.getElem?_inj hlt h.flds).1 (by rw [e1, e2])
    rw [this, g1] at h1
    injection h1 with h1
    subst h1
    exact Nat.lt_of_lt_of_le h3 (((h.ok s' (List.mem_of_getElem? g1)).dr (now := now)).lo _ g4).1
theorem best_ok (Q : List Wn) : ∀ k, k < Q.length → bestK Q k ≤ k ∧ ∃ w, Q[bestK Q k]? = some w ∧ (∀ i x, i ≤ k → Q[i]? = some x → tlt x.fl w.fl = false) ∧ ∀ i x, i < bestK Q k → Q[i]? = some x → tlt w.fl x.fl = true
  | 0, h => ⟨Nat.le_refl _, Q[0], List.getElem?_eq_getElem h, fun i x hi hx => by
      obtain rfl : i = 0 := by omega
      rw [List.getElem?_eq_getElem h] at hx
      injection hx with hx
      subst hx
      exact Hp.bl_irr _, fun i x hi => absurd hi (Nat.not_lt_zero _)⟩
  | k + 1, h => by
    obtain ⟨h1, w, h2, h3, h4⟩ := best_ok Q k (by omega)
    have hx := List.getElem?_eq_getElem h
    generalize Q[k + 1] = x at hx
    rw [bestK, hx, h2]
    dsimp only
    cases hlt : tlt x.fl w.fl with
    | true =>
      rw [if_pos rfl]
      have key : ∀ i y, i ≤ k → Q[i]? = some y → tlt x.fl y.fl = true := fun i y hi hy => by
        cases hxy : tlt x.fl y.fl with
        | true => rfl
        | false =>
          cases hwy : tlt w.fl y.fl with
          | true =>
            have := Hp.bl_trans _ _ _ hlt hwy
            rw [show Op.bytesLess x.fl y.fl = false from hxy] at this; cases this
          | false =>
            have := Hp.bl_tri _ _ (h3 i y hi hy) hwy
            rw [this] at hxy
            rw [hlt] at hxy; cases hxy
      refine ⟨Nat.le_refl _, x, hx, fun i y hi hy => ?_, fun i y hi hy => key i y (by omega) hy⟩
      rcases Nat.lt_or_ge i (k + 1) with h' | h'
      · exact Hp.bl_asym (key i y (by omega) hy)
      · obtain rfl : i = k + 1 := by omega
        rw [hx] at hy
        injection hy with hy
        subst hy
        exact Hp.bl_irr _
    | false =>
      rw [if_neg (by decide)]
      refine ⟨by omega, w, h2, fun i y hi hy => ?_, h4⟩
      rcases Nat.lt_or_ge i (k + 1) with h' | h'
      · exact h3 i y (by omega) hy
      · obtain rfl : i = k + 1 := by omega
        rw [hx] at hy
        injection hy with hy
        subst hy
        exact hlt
theorem best_at {Q : List Wn} (h : Q ≠ []) : ∃ w, Q[best Q]? = some w := by
  have hl : 0 < Q.length := List.length_pos_iff.2 h
  obtain ⟨_, w, h2, _⟩ := best_ok Q (Q.length - 1) (by omega)
  exact ⟨w, h2⟩
theorem perm_erase {α : Type} : ∀ {l : List α} {i : Nat} (h : i < l.length), l.Perm (l[i] :: l.eraseIdx i)
  | x :: l, 0, _ => .refl _
  | x :: l, i + 1, h => (List.Perm.cons x (perm_erase (Nat.lt_of_succ_lt_succ h))).trans (.swap _ _ _)
/-- What a heap gives is that. -/
theorem best_pop {Q hq q' : List Wn} {y : Wn} (ho : Q.Pairwise ordQ) (hp : hq.Perm Q) (hy : hq.Perm (y :: q')) (hm : ∀ x ∈ hq, wlt x y = false) : Q[best Q]? = some y ∧ q'.Perm (Q.eraseIdx (best Q)) := by
  have hyq : y ∈ Q := hp.subset (hy.symm.subset (.head _))
  have hl : 0 < Q.length := List.length_pos_of_mem hyq
  obtain ⟨_, w, h2, h3, h4⟩ := best_ok Q (Q.length - 1) (by omega)
  obtain ⟨i, hi, hiy⟩ := List.getElem_of_mem hyq
  have hi2 := List.getElem?_eq_getElem hi
  rw [hiy] at hi2
  have hwy := hm w (hp.symm.subset (List.mem_of_getElem? h2))
  unfold wlt Hp.klt key at hwy
  simp only [Bool.or_eq_false_iff, Bool.and_eq_false_iff, decide_eq_false_iff_not] at hwy
  have he := Hp.bl_tri _ _ (h3 i y (by omega) hi2) hwy.1
  have hib : i = bestK Q (Q.length - 1) := by
    rcases Nat.lt_trichotomy i (bestK Q (Q.length - 1)) with h | h | h
    · have := h4 i y h hi2
      rw [he] at this
      rw [show tlt w.fl w.fl = false from Hp.bl_irr _] at this; cases this
    · exact h
    · have hb := (List.getElem?_eq_some_iff.1 h2).1
      have := List.pairwise_iff_getElem.1 ho _ i hb hi h
      rw [hiy, (List.getElem?_eq_some_iff.1 h2).2] at this
      have h5 := this he.symm
      rcases hwy.2 with h6 | h6
      · exact absurd he.symm h6
      · omega
  have hw : Q[best Q]? = some y := by unfold best; rw [← hib]; exact hi2
  refine ⟨hw, ?_⟩
  obtain ⟨hlt, e⟩ := List.getElem?_eq_some_iff.1 hw
  have h7 : Q.Perm (y :: Q.eraseIdx (best Q)) := by
    rw [← e]
    exact perm_erase hlt
  exact List.Perm.cons_inv ((hy.symm.trans hp).trans h7)
theorem PInv.go {un : Nat} {L : List Msg} {ss : List Sr} {Q : List Wn} {now : Nat} {out : List Nat} (h : PInv un L ss Q now out) {w : Wn} {s : Sr} (hw : Q[best Q]? = some w) (hs : ss[w.who]? = some s) :
    w.ask ≤ now ∧ PInv un L ss (Q.eraseIdx (best Q)) (now + tm s.m) (upd out w.who (now + tm s.m - w.ask)) ∧ YtjleekdidedhaaaDoor.pot un ss (Q.eraseIdx (best Q)) + 1 = YtjleekdidedhaaaDoor.pot un ss Q := by
  obtain ⟨hlt, e⟩ := List.getElem?_eq_some_iff.1 hw
  have hsub := List.eraseIdx_sublist Q (best Q)
  have hp : YtjleekdidedhaaaDoor.pot un ss (Q.eraseIdx (best Q)) + 1 = YtjleekdidedhaaaDoor.pot un ss Q := by
    unfold YtjleekdidedhaaaDoor.pot
    rw [List.length_eraseIdx_of_lt hlt]
    omega
  have ht := (h.ok s (List.mem_of_getElem? hs)).good.tm
  have hn := h.nowb
  have hpp := h.potb
  refine ⟨h.by_ w (List.mem_of_getElem? hw), ⟨h.goods, h.unb, h.ms, h.ok, by unfold upd; rw [List.length_set]; exact h.outl, fun v hv => ?_, fun x hx => h.wk x (hsub.subset hx), fun x hx => Nat.le_trans (h.by_ x (hsub.subset hx)) (Nat.le_add_right _ _), h.ord.sublist hsub, by omega, by omega⟩, hp⟩
  unfold upd at hv
  rcases List.mem_or_eq_of_mem_set hv with hv | rfl
  · exact h.outb v hv
  · have : out.getD w.who 0 ≤ 20000000000 := by
      rw [List.getD_eq_getElem?_getD]
      cases hg : out[w.who]? with
      | none => simp
      | some v => exact h.outb v (List.mem_of_getElem? hg)
    omega
theorem nxt_ok {un : Nat} : ∀ (ss : List Sr) (r : Nat × Bool), (r.2 = true → r.1 < un) → (ss.foldl (nxtK un) r).2 = true → (ss.foldl (nxtK un) r).1 < un ∧ ((ss.foldl (nxtK un) r) = r ∨ ∃ s ∈ ss, (ss.foldl (nxtK un) r).1 = s.q)
  | [], r, h, h2 => ⟨h h2, .inl rfl⟩
  | s :: ss, r, h, h2 => by
    rw [List.foldl_cons] at h2 ⊢
    unfold nxtK at h2 ⊢
    by_cases hc : s.q < un ∧ (r.2 = false ∨ s.q < r.1)
    · rw [if_pos hc] at h2 ⊢
      obtain ⟨g1, g2⟩ := nxt_ok ss (s.q, true) (fun _ => hc.1) h2
      refine ⟨g1, .inr ?_⟩
      rcases g2 with g2 | ⟨s', g2, g3⟩
      · exact ⟨s, .head _, by show (ss.foldl (nxtK un) (s.q, true)).1 = _; rw [g2]⟩
      · exact ⟨s', .tail _ g2, g3⟩
    · rw [if_neg hc] at h2 ⊢
      obtain ⟨g1, g2⟩ := nxt_ok ss r h h2
      refine ⟨g1, ?_⟩
      rcases g2 with g2 | ⟨s', g2, g3⟩
      · exact .inl g2
      · exact .inr ⟨s', .tail _ g2, g3⟩
theorem PInv.wait {un : Nat} {L : List Msg} {ss : List Sr} {now t : Nat} {out : List Nat} (h : PInv un L ss [] now out) (ht : nxt un ss = (t, true)) : PInv un L ss [] t out ∧ t < un ∧ ∃ s ∈ ss, t = s.q := by
  have h2 := nxt_ok ss (0, false) (fun h => by cases h) (by show (nxt un ss).2 = true; rw [ht])
  rw [show ss.foldl (nxtK un) (0, false) = (t, true) from ht] at h2
  have hun := h.unb
  have hp := h.potb
  refine ⟨⟨h.goods, h.unb, h.ms, h.ok, h.outl, h.outb, (fun x hx => by cases hx), (fun x hx => by cases hx), List.Pairwise.nil, h.potb, by have := h2.1; omega⟩, h2.1, ?_⟩
  rcases h2.2 with h3 | ⟨s, h3, h4⟩
  · cases h3
  · exact ⟨s, h3, h4⟩
/-- It comes to an end. -/
theorem PInv.runs {un : Nat} {L : List Msg} : ∀ (n : Nat) {ss : List Sr} {Q : List Wn} {now : Nat} {out : List Nat}, PInv un L ss Q now out → YtjleekdidedhaaaDoor.pot un ss Q * (un + 1) + (un - now) ≤ n → ∃ r, Runs un ss Q now out r := by
  intro n
  induction n using Nat.strongRecOn with
  | _ n ih =>
    intro ss Q now out h hn
    have h1 := h.takes
    have hpot : YtjleekdidedhaaaDoor.pot un (ss.map (drS un now)) (Q ++ wants un now 0 ss) ≤ YtjleekdidedhaaaDoor.pot un ss Q := by
      have hp := wants_pot (now := now) ss 0 h.ok
      unfold YtjleekdidedhaaaDoor.pot
      rw [List.length_append]
      omega
    have hm := Nat.mul_le_mul_right (un + 1) hpot
    by_cases hq : Q ++ wants un now 0 ss = []
    · rw [hq] at h1 hpot hm
      cases hb : (nxt un (ss.map (drS un now))).2 with
      | false => exact ⟨_, .halt hq hb⟩
      | true =>
        obtain ⟨t, ht⟩ : ∃ t, nxt un (ss.map (drS un now)) = (t, true) := ⟨_, Prod.ext rfl hb⟩
        obtain ⟨g1, g2, s, g3, g4⟩ := h1.wait ht
        obtain ⟨s', hs', rfl⟩ := List.mem_map.1 g3
        have he := ((h.ok s' hs').dr (now := now)).end_
        have : now < t := by
          have h5 : (dr un now s').2.2 = t := g4.symm
          rw [h5] at he
          omega
        obtain ⟨r, hr⟩ := ih (YtjleekdidedhaaaDoor.pot un (ss.map (drS un now)) [] * (un + 1) + (un - t)) (by omega) g1 (Nat.le_refl _)
        exact ⟨r, .wait hq ht hr⟩
    · obtain ⟨w, hw⟩ := best_at hq
      obtain ⟨s1, hs1, _, _⟩ := h1.wk w (List.mem_of_getElem? hw)
      rw [List.getElem?_map] at hs1
      cases hs : ss[w.who]? with
      | none => rw [hs] at hs1; cases hs1
      | some s =>
        obtain ⟨_, g1, g2⟩ := h1.go (s := drS un now s) hw (by rw [List.getElem?_map, hs]; rfl)
        have hm2 : (YtjleekdidedhaaaDoor.pot un (ss.map (drS un now)) ((Q ++ wants un now 0 ss).eraseIdx (best (Q ++ wants un now 0 ss))) + 1) * (un + 1) ≤ YtjleekdidedhaaaDoor.pot un ss Q * (un + 1) := by rw [g2]; exact hm
        rw [Nat.add_mul] at hm2
        obtain ⟨r, hr⟩ := ih _ (by omega) g1 (Nat.le_refl _)
        exact ⟨r, .go hw hs hr⟩
end Go.Proofs.YtjleekdidedhaaaDoor

/- Layer 25: takes and next: by walks. -/
set_option linter.unusedVariables false
set_option linter.unusedSimpArgs false
set_option maxRecDepth 100000
set_option maxHeartbeats 4000000
namespace Go.Proofs.YtjleekdidedhaaaDoor
open Sx
/-- A message that is played, where it lies. -/
structure Ob where
  (r k : Nat) (s : Sr)
abbrev oCl (m : Msg) (k a q : Nat) : List Value := [.int .u32 (m.id : Int), .bool m.x, .int .i64 m.n, .int .u64 (m.p : Int), .int .u64 (m.j : Int), .int .i64 (k : Int), .string (strOf (fV m.id m.x m.n).1), .int .u64 (a : Int), .int .u64 (q : Int)]
abbrev oC (x : Ob) : List Value := oCl x.s.m x.k x.s.a x.s.q
abbrev oRow (x : Ob) : Nat × Blk := (x.r, .row 68 (oC x) (0, 0))
abbrev gO (un now : Nat) (x : Ob) : Ob := ⟨x.r, x.k, drS un now x.s⟩
abbrev fR (r : Nat) : List Value := [.pointer (some ⟨r, 0, none⟩)]
inductive S29 (A0 A1 A9 A10 A11 : Value) : List Value → Prop
  | mk {r2 r3 r4 r5 r6 r7 r8 r12 r13 r14 r15 r16 r17 r18 r19 r20 r21 r22 r23 r24 r25 r26 r27 r28 r29 r30 r31 r32 r33 r34 r35 r36 r37 r38 r39 r40 r41 r42 r43 r44 r45 r46 r47 r48 r49 r50 r51 r52 r53 r54 r55 r56 r57 r58 r59 r60 r61 r62 r63 r64 r65 r66 r67 r68 r69 r70 : Value} : S29 A0 A1 A9 A10 A11 [A0, A1, r2, r3, r4, r5, r6, r7, r8, A9, A10, A11, r12, r13, r14, r15, r16, r17, r18, r19, r20, r21, r22, r23, r24, r25, r26, r27, r28, r29, r30, r31, r32, r33, r34, r35, r36, r37, r38, r39, r40, r41, r42, r43, r44, r45, r46, r47, r48, r49, r50, r51, r52, r53, r54, r55, r56, r57, r58, r59, r60, r61, r62, r63, r64, r65, r66, r67, r68, r69, r70]
inductive S29a (A0 A1 A5 A9 A10 A11 : Value) : List Value → Prop
  | mk {r2 r3 r4 r6 r7 r8 r12 r13 r14 r15 r16 r17 r18 r19 r20 r21 r22 r23 r24 r25 r26 r27 r28 r29 r30 r31 r32 r33 r34 r35 r36 r37 r38 r39 r40 r41 r42 r43 r44 r45 r46 r47 r48 r49 r50 r51 r52 r53 r54 r55 r56 r57 r58 r59 r60 r61 r62 r63 r64 r65 r66 r67 r68 r69 r70 : Value} : S29a A0 A1 A5 A9 A10 A11 [A0, A1, r2, r3, r4, A5, r6, r7, r8, A9, A10, A11, r12, r13, r14, r15, r16, r17, r18, r19, r20, r21, r22, r23, r24, r25, r26, r27, r28, r29, r30, r31, r32, r33, r34, r35, r36, r37, r38, r39, r40, r41, r42, r43, r44, r45, r46, r47, r48, r49, r50, r51, r52, r53, r54, r55, r56, r57, r58, r59, r60, r61, r62, r63, r64, r65, r66, r67, r68, r69, r70]
inductive S30 (A0 A4 A5 A11 A12 A13 : Value) : List Value → Prop
  | mk {r1 r2 r3 r6 r7 r8 r9 r10 r14 r15 r16 r17 r18 r19 r20 r21 r22 r23 r24 r25 r26 r27 r28 r29 r30 r31 r32 r33 r34 r35 r36 r37 r38 r39 r40 r41 r42 r43 r44 : Value} : S30 A0 A4 A5 A11 A12 A13 [A0, r1, r2, r3, A4, A5, r6, r7, r8, r9, r10, A11, A12, A13, r14, r15, r16, r17, r18, r19, r20, r21, r22, r23, r24, r25, r26, r27, r28, r29, r30, r31, r32, r33, r34, r35, r36, r37, r38, r39, r40, r41, r42, r43, r44]
section
variable {K : Value → Heap → Prop} {H F : Heap} {p : Nat} {lv unv : Value} {q Q hq : List Wn} {un now : Nat} {obs : List Ob}
theorem PQ.pull {X Y Z : Heap} (h : PQ p lv unv q X F) (hp : X.Perm (Z ++ Y)) : ∃ F0, PQ p lv unv q Y F0 ∧ F.Perm (Z ++ F0) := by
  cases h with
  | nil => exact ⟨_, .nil, ((List.Perm.cons _ hp).trans List.perm_middle.symm)⟩
  | buf h1 h2 => exact ⟨_, .buf h1 h2, ((hp.append_left [_, _]).trans (List.perm_append_comm_assoc [_, _] Z Y))⟩
theorem PQ.back {X Y Z : Heap} (h : PQ p lv unv q Y F) (hp : (Z ++ Y).Perm X) : ∃ F0, PQ p lv unv q X F0 ∧ (Z ++ F).Perm F0 := by
  cases h with
  | nil => exact ⟨_, .nil, (List.perm_middle.trans (List.Perm.cons _ hp))⟩
  | buf h1 h2 => exact ⟨_, .buf h1 h2, ((List.perm_append_comm_assoc Z [_, _] Y).trans (hp.append_left [_, _]))⟩
theorem PQ.sub {X : Heap} (h : PQ p lv unv q X F) : ∀ z ∈ X, z ∈ F := by
  cases h with
  | nil => exact fun z hz => .tail _ hz
  | buf h1 h2 => exact fun z hz => .tail _ (.tail _ hz)
theorem wants_app {un now : Nat} : ∀ (l1 l2 : List Sr) (k : Nat), wants un now k (l1 ++ l2) = wants un now k l1 ++ wants un now (k + l1.length) l2
  | [], l2, k => by simp [wants]
  | x :: l1, l2, k => by
    rw [List.cons_append, wants, wants_app l1 l2 (k + 1), wants, List.length_cons, List.append_assoc]
    rw [show k + 1 + l1.length = k + (l1.length + 1) by omega]
structure T29 where
  (k : Nat) (hq : List Wn) (F : Heap)
def I29 (p un now : Nat) (lv : Value) (obs : List Ob) (Q : List Wn) (H : Heap) (y : T29) (S : List Value) (H' : Heap) : Prop :=
  y.k ≤ obs.length ∧ PQ p lv (.int .u64 (un : Int)) y.hq ((updTo (gO un now) y.k obs).map oRow ++ H) y.F ∧ y.hq.Perm (Q ++ wants un now 0 ((obs.take y.k).map Ob.s)) ∧ Hp.HeapN wlt y.hq y.hq.length ∧ S29 (ptr p) (.int .u64 (now : Int)) lv (.int .i64 (obs.length : Int)) (.int .i64 (y.k : Int)) S ∧ y.F = H'
structure T29a where
  (ak : List Nat) (a q f : Nat) (hq : List Wn) (F : Heap)
def I29a (p un now : Nat) (lv : Value) (n r k : Nat) (m : Msg) (Q : List Wn) (X : Heap) (tot : List Nat × Nat × Nat) (y : T29a) (S : List Value) (H' : Heap) : Prop :=
  (y.ak ++ (drF m.p un now y.f y.a y.q).1 = tot.1 ∧ (drF m.p un now y.f y.a y.q).2 = tot.2) ∧ (y.a ≤ y.q ∧ y.q < y.a + m.p ∧ y.q ≤ un + 4294967296 ∧ un ≤ y.f + y.q) ∧ PQ p lv (.int .u64 (un : Int)) y.hq X y.F ∧ y.hq.Perm (Q ++ y.ak.map fun a => ⟨k, fld m, a⟩) ∧ Hp.HeapN wlt y.hq y.hq.length ∧
    S29a (ptr p) (.int .u64 (now : Int)) (ptr r) lv (.int .i64 (n : Int)) (.int .i64 (k : Int)) S ∧ H' = (r, .row 68 (oCl m k y.a y.q) (0, 0)) :: y.F
theorem c29 (hok : ∀ x ∈ obs, SrOk un x.s) (hks : ∀ (k : Nat) (x : Ob), obs[k]? = some x → x.k = k) (hlv : InS fR 1 lv H (obs.map Ob.r)) (hPQ : PQ p lv (.int .u64 (un : Int)) hq (obs.map oRow ++ H) F) (hp : hq.Perm Q) (hh : Hp.HeapN wlt hq hq.length)
    (hcap : (Q ++ wants un now 0 (obs.map Ob.s)).length ≤ 1000000000) (hun : un ≤ 1048576) (hnow : now < 9223372036854775808) (hn64 : obs.length ≤ 64)
    (hK : ∀ hq' F', PQ p lv (.int .u64 (un : Int)) hq' ((obs.map (gO un now)).map oRow ++ H) F' → hq'.Perm (Q ++ wants un now 0 (obs.map Ob.s)) → Hp.HeapN wlt hq' hq'.length → K (.tuple ⟨[]⟩) F') : SCalls Tryd.prog 29 [ptr p, .int .u64 (now : Int)] F K := by
  have hlsv := hlv.sv
  rw [List.length_map] at hlsv
  obtain ⟨la, lc, rfl, hml⟩ := hlsv
  refine enter29 ?_
  have hst : ∃ qa qc M, F = pRow p (.slice la obs.length lc) (.slice qa hq.length qc) (.int .u64 (un : Int)) :: M := by
    obtain ⟨a, c, M, _, _, rfl⟩ := hPQ.que
    exact ⟨a, c, _, rfl⟩
  obtain ⟨qa, qc, M, rfl⟩ := hst
  repeat' ((conv => whnf); (first
      | refine New.mk (fun _ => ?_)
      | refine Look.at0 ?_
      | refine Cell.row ?_
      | refine Cell.buf ?_
      | refine Cells.row rfl ?_
      | refine Put.row rfl ?_
      | refine Put.buf rfl ?_
      | refine Look.at1 ?_
      | refine Look.at2 ?_
      | refine Look.at3 ?_
      | refine Look.at4 ?_
      | refine Look.at5 ?_
      | refine Look.at6 ?_
      | refine Look.at7 ?_
      | refine Look.at8 ?_
      | with_reducible refine Val.i64 (by omega) (by omega) ?_
      | with_reducible refine Val.u8 (by omega) (by omega) ?_
      | with_reducible refine Val.u32 (by omega) (by omega) ?_
      | with_reducible refine Val.u64 (by omega) (by omega) ?_
      | with_reducible refine Val.u8m ?_
      | with_reducible refine Val.u32m ?_
      | with_reducible refine Val.u64m ?_
      | with_reducible refine Val.shr8 ?_
      | with_reducible refine Val.shr16 (by decide) ?_
      | with_reducible refine Val.shr24 (by decide) ?_
      | with_reducible refine Val.raw ?_
      | refine Branch.not ?_
      | refine Branch.and ?_
      | refine Branch.or ?_
      | refine Branch.dt (by assumption) ?_
      | refine Branch.df (by assumption) ?_
      | refine Branch.dt rfl ?_
      | refine Branch.dt (by omega) ?_
      | refine Branch.df (by omega) ?_
      | refine Branch.t rfl ?_
      | refine Branch.f rfl ?_
      | refine Branch.t (by assumption) ?_
      | refine Branch.f (by assumption) ?_
      | refine Branch.d (fun _ => ?_) (fun _ => ?_)
      | refine Branch.mk (fun _ => ?_) (fun _ => ?_)
      | refine Need.mk (by first | omega | decide | rfl) ?_
      | refine Idx.nat (by omega) ?_
      | refine Idx.auto (by first | omega | decide) (by first | omega | decide) ?_
      | refine Cell.ro rfl ?_
      | refine SDraw.all (by kernel_rfl) ?_
      | refine Kept.k0 ?_
      | refine Kept.k1 ?_
      | refine Kept.k2 ?_
      | refine Kept.k3 ?_
      | refine Kept.k4 ?_))
  refine SLoop.invA (I29 p un now (.slice la obs.length lc) obs Q H) (fun y => obs.length - y.k) ⟨0, hq, _⟩ (Keep.all ⟨Nat.zero_le _, by rw [updTo_zero]; exact hPQ, by simpa [wants] using hp, hh, .mk, rfl⟩) ?_
  clear hPQ hp hh hq
  rintro ⟨k, hq, F⟩ S H' ⟨hk, hPQ, hp, hh, hS, rfl⟩ R hR
  dsimp only at hk hPQ hp hh hS hR ⊢
  cases hS
  by_cases hlt : k < obs.length
  · obtain ⟨x, hx, hdrop, htake⟩ := list_at hlt
    have hxo := hok x (List.mem_of_getElem? hx)
    have hxk := hks k x hx
    obtain ⟨lr, lo, lc1, lb, e1, hlb, hcell⟩ := hlv.at1 (j := k) (x := x.r) (by rw [List.getElem?_map, hx]; rfl) rfl
    rw [List.length_map] at e1
    injection e1 with e1 _ e3
    subst e1
    have hlF : (lr, lb) ∈ F := hPQ.sub _ (List.mem_append_right _ hlb)
    have hux := updTo_nth (f := gO un now) (j := k) hx
    have hset := updTo_set (f := gO un now) (j := k) hx
    have hpn := perm_nth (f := oRow) hux
    have hps := perm_set (f := oRow) (x' := gO un now x) hux
    rw [hset] at hps
    obtain ⟨F0, hPQ0, hF0⟩ := hPQ.pull (Z := [oRow x]) (Y := (((updTo (gO un now) k obs).take k ++ (updTo (gO un now) k obs).drop (k + 1)).map oRow) ++ H) (hpn.append_right H)
    generalize hY : ((updTo (gO un now) k obs).take k ++ (updTo (gO un now) k obs).drop (k + 1)).map oRow = Y at *
    have hw1 : wants un now 0 ((obs.take (k + 1)).map Ob.s) = wants un now 0 ((obs.take k).map Ob.s) ++ (dr un now x.s).1.map fun a => ⟨k, fld x.s.m, a⟩ := by
      rw [htake, List.map_append, List.map_cons, List.map_nil, wants_snoc]
      congr 2
      funext a
      congr 1
      simp; omega
    have hcap2 : (Q ++ wants un now 0 ((obs.take (k + 1)).map Ob.s)).length ≤ 1000000000 := by
      refine Nat.le_trans ?_ hcap
      rw [List.length_append, List.length_append]
      have : wants un now 0 (obs.map Ob.s) = wants un now 0 ((obs.take (k + 1)).map Ob.s) ++ wants un now (0 + ((obs.take (k + 1)).map Ob.s).length) ((obs.drop (k + 1)).map Ob.s) := by
        rw [← wants_app, ← List.map_append, List.take_append_drop]
      rw [this, List.length_append]; omega
    rw [hw1, ← List.append_assoc] at hcap2
    generalize htot : dr un now x.s = tot at *
    have hnext : ∀ S hq' F' , PQ p (.slice (some ⟨lr, lo, none⟩) obs.length lc) (.int .u64 (un : Int)) hq' (Y ++ H) F' → hq'.Perm (Q ++ wants un now 0 ((obs.take k).map Ob.s) ++ tot.1.map fun a => ⟨k, fld x.s.m, a⟩) → Hp.HeapN wlt hq' hq'.length → S29 (ptr p) (.int .u64 (now : Int)) (.slice (some ⟨lr, lo, none⟩) obs.length lc) (.int .i64 (obs.length : Int)) (.int .i64 ((k + 1 : Nat) : Int)) S → R S ((x.r, .row 68 (oCl x.s.m k tot.2.1 tot.2.2) (0, 0)) :: F') := by
      intro S hq' F' g1 g2 g3 g4
      have hg : gO un now x = ⟨x.r, k, ⟨x.s.m, tot.2.1, tot.2.2⟩⟩ := by
        unfold gO drS
        rw [htot, hxk]
      rw [hg] at hps
      obtain ⟨F1, g5, g6⟩ := g1.back (Z := [oRow ⟨x.r, k, ⟨x.s.m, tot.2.1, tot.2.2⟩⟩]) (hps.append_right H)
      exact hR ⟨k + 1, hq', F1⟩ S _ (by show obs.length - (k + 1) < obs.length - k; omega) (Keep.perm F1 g6 ⟨by show k + 1 ≤ _; omega, g5, by show hq'.Perm (Q ++ wants un now 0 ((obs.take (k + 1)).map Ob.s)); rw [hw1, ← List.append_assoc]; exact g2, g3, g4, rfl⟩)
    clear hR hps hpn hset
    have hst : ∃ qa qc M, F = pRow p (.slice (some ⟨lr, lo, none⟩) obs.length lc) (.slice qa hq.length qc) (.int .u64 (un : Int)) :: M := by
      obtain ⟨a, c, M, _, _, rfl⟩ := hPQ.que
      exact ⟨a, c, _, rfl⟩
    repeat' ((conv => whnf); (first
        | refine Look.cell hlF hcell ?_
        | refine New.mk (fun _ => ?_)
        | refine Look.at0 ?_
        | refine Cell.row ?_
        | refine Cell.buf ?_
        | refine Cells.row rfl ?_
        | refine Put.row rfl ?_
        | refine Put.buf rfl ?_
        | refine Look.at1 ?_
        | refine Look.at2 ?_
        | refine Look.at3 ?_
        | refine Look.at4 ?_
        | refine Look.at5 ?_
        | refine Look.at6 ?_
        | refine Look.at7 ?_
        | refine Look.at8 ?_
        | with_reducible refine Val.i64 (by omega) (by omega) ?_
        | with_reducible refine Val.u8 (by omega) (by omega) ?_
        | with_reducible refine Val.u32 (by omega) (by omega) ?_
        | with_reducible refine Val.u64 (by omega) (by omega) ?_
        | with_reducible refine Val.u8m ?_
        | with_reducible refine Val.u32m ?_
        | with_reducible refine Val.u64m ?_
        | with_reducible refine Val.shr8 ?_
        | with_reducible refine Val.shr16 (by decide) ?_
        | with_reducible refine Val.shr24 (by decide) ?_
        | with_reducible refine Val.raw ?_
        | refine Branch.not ?_
        | refine Branch.and ?_
        | refine Branch.or ?_
        | refine Branch.dt (by assumption) ?_
        | refine Branch.df (by assumption) ?_
        | refine Branch.dt rfl ?_
        | refine Branch.dt (by omega) ?_
        | refine Branch.df (by omega) ?_
        | refine Branch.t rfl ?_
        | refine Branch.f rfl ?_
        | refine Branch.t (by assumption) ?_
        | refine Branch.f (by assumption) ?_
        | refine Branch.d (fun _ => ?_) (fun _ => ?_)
        | refine Branch.mk (fun _ => ?_) (fun _ => ?_)
        | refine Need.mk (by first | omega | decide | rfl) ?_
        | refine Idx.nat (by omega) ?_
        | refine Idx.auto (by first | omega | decide) (by first | omega | decide) ?_
        | refine Cell.ro rfl ?_
        | refine SDraw.all (by kernel_rfl) ?_
        | refine Kept.k0 ?_
        | refine Kept.k1 ?_
        | refine Kept.k2 ?_
        | refine Kept.k3 ?_
        | refine Kept.k4 ?_))
    refine SLoop.invA (I29a p un now (.slice (some ⟨lr, lo, none⟩) obs.length lc) obs.length x.r k x.s.m (Q ++ wants un now 0 ((obs.take k).map Ob.s)) (Y ++ H) tot) (fun y => y.f) ⟨[], x.s.a, x.s.q, un + 1, hq, F0⟩ (Keep.perm _ hF0 ⟨⟨by rw [← htot]; rfl, by rw [← htot]⟩, ⟨hxo.aq, hxo.qa, hxo.qb, by show un ≤ un + 1 + x.s.q; omega⟩, hPQ0, by simpa using hp, hh, .mk, by
      show [oRow x] ++ F0 = _
      obtain ⟨xr, xk, xs⟩ := x
      dsimp only at hxk
      subst hxk
      rfl⟩) ?_
    clear hPQ0 hF0 hp hh hst hlF hPQ
    rintro ⟨ak, a, q, f, hq1, F1⟩ S H' ⟨⟨h1, h2⟩, ⟨h3, h4, h5, h6⟩, hPQ, hp, hh, hS, rfl⟩ R2 hR2
    dsimp only at h1 h2 h3 h4 h5 h6 hPQ hp hh hS hR2 ⊢
    cases hS
    have hg := hxo.good
    have hgp := hg.p2
    have hgp1 := hg.p1
    have hl1 : hq1.length ≤ 1000000000 := by
      have hl := hp.length_eq
      have h1l := congrArg List.length h1
      simp only [List.length_append, List.length_map] at hl hcap2 h1l
      omega
    by_cases hc : q ≤ now ∧ q < un
    · obtain ⟨f, rfl⟩ : ∃ f', f = f' + 1 := ⟨f - 1, by omega⟩
      rw [drF, if_pos hc] at h1 h2
      have hst : ∃ qa qc M, F1 = pRow p (.slice (some ⟨lr, lo, none⟩) obs.length lc) (.slice qa hq1.length qc) (.int .u64 (un : Int)) :: M := by
        obtain ⟨a, c, M, _, _, rfl⟩ := hPQ.que
        exact ⟨a, c, _, rfl⟩
      have hnext2 : ∀ S hq' F', PQ p (.slice (some ⟨lr, lo, none⟩) obs.length lc) (.int .u64 (un : Int)) hq' (Y ++ H) F' → hq'.Perm (hq1 ++ [⟨k, fld x.s.m, a⟩]) → Hp.HeapN wlt hq' hq'.length → S29a (ptr p) (.int .u64 (now : Int)) (ptr x.r) (.slice (some ⟨lr, lo, none⟩) obs.length lc) (.int .i64 (obs.length : Int)) (.int .i64 (k : Int)) S → R2 S ((x.r, .row 68 (oCl x.s.m k (a + x.s.m.p) (a + x.s.m.p)) (0, 0)) :: F') := by
        intro S hq' F' g1 g2 g3 g4
        refine hR2 ⟨ak ++ [a], a + x.s.m.p, a + x.s.m.p, f, hq', F'⟩ S _ (Nat.lt_succ_self f) (Keep.all ⟨⟨by rw [← h1]; simp, h2⟩, ⟨Nat.le_refl _, by show a + x.s.m.p < a + x.s.m.p + x.s.m.p; omega, by show a + x.s.m.p ≤ un + 4294967296; omega, by show un ≤ f + (a + x.s.m.p); omega⟩, g1, ?_, g3, g4, rfl⟩)
        refine g2.trans ((hp.append_right _).trans ?_)
        rw [List.append_assoc, List.map_append]; exact .refl _
      have h40 := fun (K2 : Value → Heap → Prop) hk => c40 (K := K2) (x := ⟨k, fld x.s.m, a⟩) hPQ hh hl1 hk
      obtain ⟨qa1, qc1, M1, rfl⟩ := hst
      have hv : IntKind.u64.wrap ((a : Int) + (x.s.m.p : Int)) = ((a + x.s.m.p : Nat) : Int) := by
        rw [← Int.natCast_add]; exact wrap_nat rfl (by show _ < 18446744073709551616; omega)
      clear hR2 hnext
      repeat' ((conv => whnf); (first
          | with_reducible refine Val.to _ hv ?_
          | refine Branch.dt (by omega) ?_
          | refine SCalls.under [_] (h40 _ (fun hq' F' g1 g2 g3 => ?_))
          | exact hnext2 _ _ _ g1 g2 g3 .mk
          | refine New.mk (fun _ => ?_)
          | refine Look.at0 ?_
          | refine Cell.row ?_
          | refine Cell.buf ?_
          | refine Cells.row rfl ?_
          | refine Put.row rfl ?_
          | refine Put.buf rfl ?_
          | refine Look.at1 ?_
          | refine Look.at2 ?_
          | refine Look.at3 ?_
          | refine Look.at4 ?_
          | refine Look.at5 ?_
          | refine Look.at6 ?_
          | refine Look.at7 ?_
          | refine Look.at8 ?_
          | with_reducible refine Val.i64 (by omega) (by omega) ?_
          | with_reducible refine Val.u8 (by omega) (by omega) ?_
          | with_reducible refine Val.u32 (by omega) (by omega) ?_
          | with_reducible refine Val.u64 (by omega) (by omega) ?_
          | with_reducible refine Val.u8m ?_
          | with_reducible refine Val.u32m ?_
          | with_reducible refine Val.u64m ?_
          | with_reducible refine Val.shr8 ?_
          | with_reducible refine Val.shr16 (by decide) ?_
          | with_reducible refine Val.shr24 (by decide) ?_
          | with_reducible refine Val.raw ?_
          | refine Branch.not ?_
          | refine Branch.and ?_
          | refine Branch.or ?_
          | refine Branch.dt (by assumption) ?_
          | refine Branch.df (by assumption) ?_
          | refine Branch.dt rfl ?_
          | refine Branch.dt (by omega) ?_
          | refine Branch.df (by omega) ?_
          | refine Branch.t rfl ?_
          | refine Branch.f rfl ?_
          | refine Branch.t (by assumption) ?_
          | refine Branch.f (by assumption) ?_
          | refine Branch.d (fun _ => ?_) (fun _ => ?_)
          | refine Branch.mk (fun _ => ?_) (fun _ => ?_)
          | refine Need.mk (by first | omega | decide | rfl) ?_
          | refine Idx.nat (by omega) ?_
          | refine Idx.auto (by first | omega | decide) (by first | omega | decide) ?_
          | refine Cell.ro rfl ?_
          | refine SDraw.all (by kernel_rfl) ?_
          | refine Kept.k0 ?_
          | refine Kept.k1 ?_
          | refine Kept.k2 ?_
          | refine Kept.k3 ?_
          | refine Kept.k4 ?_))
    · have hd : drF x.s.m.p un now f a q = ([], a, q) := by
        cases f with
        | zero => rfl
        | succ f => rw [drF, if_neg hc]
      rw [hd] at h1 h2
      rw [List.append_nil] at h1
      subst h1
      have hst : ∃ qa qc M, F1 = pRow p (.slice (some ⟨lr, lo, none⟩) obs.length lc) (.slice qa hq1.length qc) (.int .u64 (un : Int)) :: M := by
        obtain ⟨a, c, M, _, _, rfl⟩ := hPQ.que
        exact ⟨a, c, _, rfl⟩
      have hn := fun S hS => hnext S hq1 F1 hPQ hp hh hS
      rw [← h2] at hn
      clear hR2 hnext
      obtain ⟨qa1, qc1, M1, rfl⟩ := hst
      by_cases hc1 : q ≤ now
      · have hc2 : ¬ q < un := fun h => hc ⟨hc1, h⟩
        repeat' ((conv => whnf); (first
            | refine Branch.dt (by omega) ?_
            | refine Branch.df (by omega) ?_
            | exact hn _ .mk
            | refine New.mk (fun _ => ?_)
            | refine Look.at0 ?_
            | refine Cell.row ?_
            | refine Cell.buf ?_
            | refine Cells.row rfl ?_
            | refine Put.row rfl ?_
            | refine Put.buf rfl ?_
            | refine Look.at1 ?_
            | refine Look.at2 ?_
            | refine Look.at3 ?_
            | refine Look.at4 ?_
            | refine Look.at5 ?_
            | refine Look.at6 ?_
            | refine Look.at7 ?_
            | refine Look.at8 ?_
            | with_reducible refine Val.i64 (by omega) (by omega) ?_
            | with_reducible refine Val.u8 (by omega) (by omega) ?_
            | with_reducible refine Val.u32 (by omega) (by omega) ?_
            | with_reducible refine Val.u64 (by omega) (by omega) ?_
            | with_reducible refine Val.u8m ?_
            | with_reducible refine Val.u32m ?_
            | with_reducible refine Val.u64m ?_
            | with_reducible refine Val.shr8 ?_
            | with_reducible refine Val.shr16 (by decide) ?_
            | with_reducible refine Val.shr24 (by decide) ?_
            | with_reducible refine Val.raw ?_
            | refine Branch.not ?_
            | refine Branch.and ?_
            | refine Branch.or ?_
            | refine Branch.dt (by assumption) ?_
            | refine Branch.df (by assumption) ?_
            | refine Branch.dt rfl ?_
            | refine Branch.dt (by omega) ?_
            | refine Branch.df (by omega) ?_
            | refine Branch.t rfl ?_
            | refine Branch.f rfl ?_
            | refine Branch.t (by assumption) ?_
            | refine Branch.f (by assumption) ?_
            | refine Branch.d (fun _ => ?_) (fun _ => ?_)
            | refine Branch.mk (fun _ => ?_) (fun _ => ?_)
            | refine Need.mk (by first | omega | decide | rfl) ?_
            | refine Idx.nat (by omega) ?_
            | refine Idx.auto (by first | omega | decide) (by first | omega | decide) ?_
            | refine Cell.ro rfl ?_
            | refine SDraw.all (by kernel_rfl) ?_
            | refine Kept.k0 ?_
            | refine Kept.k1 ?_
            | refine Kept.k2 ?_
            | refine Kept.k3 ?_
            | refine Kept.k4 ?_))
      · repeat' ((conv => whnf); (first
            | refine Branch.dt (by omega) ?_
            | refine Branch.df (by omega) ?_
            | exact hn _ .mk
            | refine New.mk (fun _ => ?_)
            | refine Look.at0 ?_
            | refine Cell.row ?_
            | refine Cell.buf ?_
            | refine Cells.row rfl ?_
            | refine Put.row rfl ?_
            | refine Put.buf rfl ?_
            | refine Look.at1 ?_
            | refine Look.at2 ?_
            | refine Look.at3 ?_
            | refine Look.at4 ?_
            | refine Look.at5 ?_
            | refine Look.at6 ?_
            | refine Look.at7 ?_
            | refine Look.at8 ?_
            | with_reducible refine Val.i64 (by omega) (by omega) ?_
            | with_reducible refine Val.u8 (by omega) (by omega) ?_
            | with_reducible refine Val.u32 (by omega) (by omega) ?_
            | with_reducible refine Val.u64 (by omega) (by omega) ?_
            | with_reducible refine Val.u8m ?_
            | with_reducible refine Val.u32m ?_
            | with_reducible refine Val.u64m ?_
            | with_reducible refine Val.shr8 ?_
            | with_reducible refine Val.shr16 (by decide) ?_
            | with_reducible refine Val.shr24 (by decide) ?_
            | with_reducible refine Val.raw ?_
            | refine Branch.not ?_
            | refine Branch.and ?_
            | refine Branch.or ?_
            | refine Branch.dt (by assumption) ?_
            | refine Branch.df (by assumption) ?_
            | refine Branch.dt rfl ?_
            | refine Branch.dt (by omega) ?_
            | refine Branch.df (by omega) ?_
            | refine Branch.t rfl ?_
            | refine Branch.f rfl ?_
            | refine Branch.t (by assumption) ?_
            | refine Branch.f (by assumption) ?_
            | refine Branch.d (fun _ => ?_) (fun _ => ?_)
            | refine Branch.mk (fun _ => ?_) (fun _ => ?_)
            | refine Need.mk (by first | omega | decide | rfl) ?_
            | refine Idx.nat (by omega) ?_
            | refine Idx.auto (by first | omega | decide) (by first | omega | decide) ?_
            | refine Cell.ro rfl ?_
            | refine SDraw.all (by kernel_rfl) ?_
            | refine Kept.k0 ?_
            | refine Kept.k1 ?_
            | refine Kept.k2 ?_
            | refine Kept.k3 ?_
            | refine Kept.k4 ?_))
  · obtain rfl : k = obs.length := by omega
    rw [updTo_all (Nat.le_refl _)] at hPQ
    rw [List.take_length] at hp
    have hk := hK hq F hPQ hp hh
    clear hR
    repeat' ((conv => whnf); (first
        | exact Keep.all hk
        | refine New.mk (fun _ => ?_)
        | refine Look.at0 ?_
        | refine Cell.row ?_
        | refine Cell.buf ?_
        | refine Cells.row rfl ?_
        | refine Put.row rfl ?_
        | refine Put.buf rfl ?_
        | refine Look.at1 ?_
        | refine Look.at2 ?_
        | refine Look.at3 ?_
        | refine Look.at4 ?_
        | refine Look.at5 ?_
        | refine Look.at6 ?_
        | refine Look.at7 ?_
        | refine Look.at8 ?_
        | with_reducible refine Val.i64 (by omega) (by omega) ?_
        | with_reducible refine Val.u8 (by omega) (by omega) ?_
        | with_reducible refine Val.u32 (by omega) (by omega) ?_
        | with_reducible refine Val.u64 (by omega) (by omega) ?_
        | with_reducible refine Val.u8m ?_
        | with_reducible refine Val.u32m ?_
        | with_reducible refine Val.u64m ?_
        | with_reducible refine Val.shr8 ?_
        | with_reducible refine Val.shr16 (by decide) ?_
        | with_reducible refine Val.shr24 (by decide) ?_
        | with_reducible refine Val.raw ?_
        | refine Branch.not ?_
        | refine Branch.and ?_
        | refine Branch.or ?_
        | refine Branch.dt (by assumption) ?_
        | refine Branch.df (by assumption) ?_
        | refine Branch.dt rfl ?_
        | refine Branch.dt (by omega) ?_
        | refine Branch.df (by omega) ?_
        | refine Branch.t rfl ?_
        | refine Branch.f rfl ?_
        | refine Branch.t (by assumption) ?_
        | refine Branch.f (by assumption) ?_
        | refine Branch.d (fun _ => ?_) (fun _ => ?_)
        | refine Branch.mk (fun _ => ?_) (fun _ => ?_)
        | refine Need.mk (by first | omega | decide | rfl) ?_
        | refine Idx.nat (by omega) ?_
        | refine Idx.auto (by first | omega | decide) (by first | omega | decide) ?_
        | refine Cell.ro rfl ?_
        | refine SDraw.all (by kernel_rfl) ?_
        | refine Kept.k0 ?_
        | refine Kept.k1 ?_
        | refine Kept.k2 ?_
        | refine Kept.k3 ?_
        | refine Kept.k4 ?_))
end
end Go.Proofs.YtjleekdidedhaaaDoor

